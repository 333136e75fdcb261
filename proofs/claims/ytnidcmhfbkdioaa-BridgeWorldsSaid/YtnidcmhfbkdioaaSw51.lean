/-
  Lemmas for the walk, merged (Bs Bt Co Gn Gq). No condition but those in each statement.
-/
import Derived.BigQuiet
import Derived.Test.YtnidcmhfbkdioaaSw43
import Derived.Test.YtnidcmhfbkdioaaSw5
import Derived.Test.YtnidcmhfbkdioaaSw44
import Derived.Test.YtnidcmhfbkdioaaSw25
import Derived.Test.YtnidcmhfbkdioaaSw33
import Derived.Test.YtnidcmhfbkdioaaSw46
import Derived.Test.YtnidcmhfbkdioaaSw49
import Derived.Test.YtnidcmhfbkdioaaSw50
import Derived.Test.YtnidcmhfbkdioaaSw48
import Derived.Test.YtnidcmhfbkdioaaSw45
namespace Go.Proofs.Ytnidcmhfbkdioaa
open Go.RowKit
open Go.IntKind (i64)
open Go.Lib (hid)
set_option maxRecDepth 100000
set_option maxHeartbeats 1600000 in
theorem eq61_any {A A':Option Addr} {n c c' B B':Nat} {l:List Ct} {w:World} (hn:n=l.length) (hm:n<=9223372036854775807) (hr:Rd w B 10 A n (ctCs l)) (hr':Rd w B' 10 A' n (ctCs l)) :
 Calls Try.prog 61 #[.slice A n c,.slice A' n c'] w fun e w'=>e=.returned (.bool true)/\∃ m,w.drewN m=w':=by
 have t0:((n:Int) != n)=false:=by simp
 have HN:=hid hn
 have HR:=hid hr
 have HR':=hid hr'
 clear hn hr hr'
 go_enter Try.func61,Try.ntmps61
 go_wp2_with fail
 go_loopw [13] (fun i wr=>∃ k:Nat,k<=n/\i=.int i64 k/\∃ m,w.drewN m=wr) (fun i _=>n-(intOf i).toNat)
 case atStart=>exact ⟨0,Nat.zero_le _,rfl,0,rfl⟩
 case round =>
  obtain ⟨k,hk,rfl,m,rfl⟩:=hrel
  by_cases hlt:k<n
  . obtain ⟨x,hx⟩:∃ x,l[k]?=some x:=⟨_,List.getElem?_eq_getElem (by have:=HN.out;omega)⟩
    obtain ⟨b,o,rfl,_,p0,p1,p2,p3,p4,p5,p6,p7,p8,p9⟩:=HR.out.ct hlt hx
    obtain ⟨b',o',rfl,_,r0,r1,r2,r3,r4,r5,r6,r7,r8,r9⟩:=HR'.out.ct hlt hx
    have hk0:(0:Int)<=k:=by omega
    have hkn:(k:Int)<n:=by omega
    clear hx
    go_wp2_with fail
    go_quiet (fail)
    go_wp2_with fail
    go_roundw
    case measure=>simp [intOf];omega
    case rel=>exact ⟨k+1,by omega,by go_num,_,rfl⟩
  . go_wp2
    go_ret
    exact ⟨rfl,_,rfl⟩
theorem bmCs_get (l:List Bm) (k j:Nat) (f:Bm) (h:l[k]?=some f) (hj:j<13):(bmCs l)[k*13+j]?=(Bm.cs f)[j]?:=by
 have hlen:∀ x:Bm,(Bm.cs x).length=13:=fun x=>rfl
 induction l generalizing k with
 | nil=>simp at h
 | cons a l ih =>
   have e:bmCs (a::l)=Bm.cs a++bmCs l:=by simp [bmCs]
   rw [e]
   cases k with
   | zero =>
     have ea:a=f:=by simpa using h
     subst ea
     rw [List.getElem?_append_left (by rw [hlen];omega)]
     congr 1;omega
   | succ k =>
     rw [List.getElem?_append_right (by rw [hlen];omega)]
     rw [show (k+1)*13+j-(Bm.cs a).length=k*13+j by rw [hlen];omega]
     exact ih k (by simpa using h)
theorem Rd.bm {w:World} {B n:Nat} {A:Option Addr} {l:List Bm} {k:Nat} {f:Bm} (h:Rd w B 13 A n (bmCs l)) (hk:k<n) (hf:l[k]?=some f) :
 ∃ b o,A=some ⟨b,o,none⟩/\b<B/\w.cell? ⟨b,o+k*13,none⟩=some (.int i64 f.b.px)/\w.cell? ⟨b,o+k*13+1,none⟩=some (.int i64 f.b.py)/\w.cell? ⟨b,o+k*13+2,none⟩=some (.int i64 f.b.vx)/\w.cell? ⟨b,o+k*13+3,none⟩=some (.int i64 f.b.vy)/\w.cell? ⟨b,o+k*13+4,none⟩=some (.int i64 f.b.ang)/\w.cell? ⟨b,o+k*13+5,none⟩=some (.int i64 f.b.spin)/\w.cell? ⟨b,o+k*13+6,none⟩=some (.int i64 f.b.mass)/\w.cell? ⟨b,o+k*13+7,none⟩=some (.int i64 f.b.inr)/\w.cell? ⟨b,o+k*13+8,none⟩=some (.int i64 f.b.bou)/\w.cell? ⟨b,o+k*13+9,none⟩=some (.int i64 f.b.rub)/\w.cell? ⟨b,o+k*13+10,none⟩=some (.slice (some ⟨f.g,0,none⟩) 4 f.c)/\w.cell? ⟨b,o+k*13+11,none⟩=some (.bool f.b.asl)/\w.cell? ⟨b,o+k*13+12,none⟩=some (.int i64 f.b.calm):=by
 obtain ⟨b,o,e,hb,hc⟩:=h.2 (by omega)
 exact ⟨b,o,e,hb,hc (k*13) _ ((bmCs_get l k 0 f hf (by omega)).trans rfl),by rw [Nat.add_assoc];exact hc (k*13+1) _ ((bmCs_get l k 1 f hf (by omega)).trans rfl),by rw [Nat.add_assoc];exact hc (k*13+2) _ ((bmCs_get l k 2 f hf (by omega)).trans rfl),by rw [Nat.add_assoc];exact hc (k*13+3) _ ((bmCs_get l k 3 f hf (by omega)).trans rfl),by rw [Nat.add_assoc];exact hc (k*13+4) _ ((bmCs_get l k 4 f hf (by omega)).trans rfl),by rw [Nat.add_assoc];exact hc (k*13+5) _ ((bmCs_get l k 5 f hf (by omega)).trans rfl),by rw [Nat.add_assoc];exact hc (k*13+6) _ ((bmCs_get l k 6 f hf (by omega)).trans rfl),by rw [Nat.add_assoc];exact hc (k*13+7) _ ((bmCs_get l k 7 f hf (by omega)).trans rfl),by rw [Nat.add_assoc];exact hc (k*13+8) _ ((bmCs_get l k 8 f hf (by omega)).trans rfl),by rw [Nat.add_assoc];exact hc (k*13+9) _ ((bmCs_get l k 9 f hf (by omega)).trans rfl),by rw [Nat.add_assoc];exact hc (k*13+10) _ ((bmCs_get l k 10 f hf (by omega)).trans rfl),by rw [Nat.add_assoc];exact hc (k*13+11) _ ((bmCs_get l k 11 f hf (by omega)).trans rfl),by rw [Nat.add_assoc];exact hc (k*13+12) _ ((bmCs_get l k 12 f hf (by omega)).trans rfl)⟩
theorem ScR.below {w w':World} {base n c kn kc ec:Nat} {A kA E:Option Addr} {q:List (Bo × (Int × Int))} {D:List Ct} (h:ScR w base A n c kA kn kc E ec q D) (hb:Below w.heap.size w w'):ScR w' base A n c kA kn kc E ec q D:=by
 obtain ⟨l,h1,h2⟩:=h.bm
 have hk:Kx 0 [] w w':=Kx.of_below hb
 exact ⟨⟨l,h1.keep hk (by simp) (by simp),h2⟩,hk.own h.en (by simp),h.len,hk.own h.ct (by simp)⟩
theorem Bk.bel {w w':World} {g:Nat} {t:TypeId} {cs:Array Value} (h:Bk w g t cs) (hb:Below w.heap.size w w'):Bk w' g t cs:=h.below hb h.lt
theorem Below.dn {w w':World} {B:Nat} (h:Below B w w') (n:Nat):Below B w (w'.drewN n):=⟨h.os,h.tape,h.output,h.size,h.block⟩
theorem WdOk.fresh {w w':World} {B:Nat} {x:Wd} (h:WdOk w B x) (hb:Below B w w'):WdOk w' w'.heap.size x:=by
 have h1:=h.below hb
 have hs:B<=w'.heap.size:=h1.ks.lo
 exact ⟨h1.ks.more hs (Nat.le_refl _),⟨h1.gs.rd.more hs,h1.gs.len,h1.gs.cap,h1.gs.cap2,h1.gs.wf,Nat.le_refl _⟩,h1.its.more hs (Nat.le_refl _)⟩
def by0:By:=⟨0,0,0,0,0,0,0,0,0,0,none,0,0,false,0⟩
theorem byCs_app (a b:List By):byCs (a++b)=byCs a++byCs b:=by simp [byCs]
theorem byCs_one (l:List By):∀ u∈byCs l,u.oneCell'=true:=fun u hu=>by
 obtain ⟨x,_,hx⟩:=List.mem_flatMap.1 hu
 simp [By.cs] at hx
 rcases hx with rfl | rfl | rfl | rfl | rfl | rfl | rfl | rfl | rfl | rfl | rfl | rfl | rfl <;> simp [Value.oneCell']
theorem byCs_take (l:List By) (n:Nat):byCs (l.take n)=(byCs l).take (n*13):=by
 induction l generalizing n with
 | nil=>simp [byCs]
 | cons a l ih =>
   cases n with
   | zero=>simp [byCs]
   | succ n =>
     have e:byCs (a::l)=By.cs a++byCs l:=by simp [byCs]
     have e2:byCs ((a::l).take (n+1))=By.cs a++byCs (l.take n):=by simp [byCs]
     have hl:(By.cs a).length=13:=by simp [By.cs]
     rw [e,e2,ih,List.take_append,hl,List.take_of_length_le (l:=By.cs a) (by omega)]
     congr 2
     omega
theorem Rd.takeN {w:World} {B size n m:Nat} {A:Option Addr} {xs:List Value} (h:Rd w B size A m xs) (hn:n<=m):Rd w B size A n (xs.take (n*size)):=by
 have hl:n*size<=m*size:=Nat.mul_le_mul_right _ hn
 refine ⟨by rw [List.length_take,h.1];omega,fun h0=>?_⟩
 obtain ⟨b,o,e,hb,hc⟩:=h.2 (by omega)
 refine ⟨b,o,e,hb,fun j u hu=>hc j u ?_⟩
 rw [List.getElem?_take] at hu
 split at hu
 . exact hu
 . cases hu
structure BwH (w wx:World) (hw hs:Nat) (y:Wd) (eA:Option Addr) (en ec:Nat) (el:List (Int × Int)) (bA:Option Addr) (bn bc:Nat) (bl:List By) (VJ VC VG VH VS:Value):Prop where
 wb:Bk wx hw 52 #[.slice y.kA y.kn y.kc,.slice y.gA y.gn y.gc,.slice y.iA y.im y.ic]
 sb:Bk wx hs 115 #[.slice bA bn bc,VJ,VC,VG,VH,VS]
 ok:WdOk wx wx.heap.size y
 kz:∀ k∈y.ks,k.n<=4398046510976
 er:Rd wx wx.heap.size 2 eA en (enCs el)
 el_:en=el.length
 ec1:en<=ec
 ec2:ec<=9223372036854775807
 br:Rd wx wx.heap.size 13 bA bn (byCs bl)
 bl_:bn=bl.length
 bc1:bn<=bc
 bc2:bc<=9223372036854775807
 bel:Below w.heap.size w wx
structure BwL (w wx w6:World) (base hs:Nat) (A:Option Addr) (m c:Nat) (bl:List By) (VJ VC VG VH VS:Value):Prop where
 sb:Bk wx hs 115 #[.slice A m c,VJ,VC,VG,VH,VS]
 own:wx.ownsRow base 124 13 (.slice A m c) m (byCs bl)
 len:m=bl.length
 kx:Kx 0 [115,124] w6 wx
 bel:Below w.heap.size w wx
 lo:base<=wx.heap.size
theorem BwL.snoc {w wr w6 w8:World} {base hs m c g8 c8:Nat} {A:Option Addr} {bl:List By} {VJ VC VG VH VS:Value} {o:Obj} (h:BwL w wr w6 base hs A m c bl VJ VC VG VH VS) (hb:w.heap.size<=base) (hs0:w.heap.size<=hs)
 (hown:w8.ownsRow base 124 13 (.slice (some ⟨g8,0,none⟩) (m+1) c8) (m+1) (byCs bl++#[.int i64 0,.int i64 0,.int i64 0,.int i64 0,.int i64 0,.int i64 0,.int i64 0,.int i64 0,.int i64 0,.int i64 0,.slice none 0 0,.bool false,.int i64 0].toList)) (hg:(wr.alloc o).grownBy w8 (Value.slice A m c).ownBlock) :
 BwL w (w8.setCell ⟨hs,0,none⟩ (.slice (some ⟨g8,0,none⟩) (m+1) c8)) w6 base hs (some ⟨g8,0,none⟩) (m+1) c8 (bl++[by0]) VJ VC VG VH VS:=by
 have hsb:=(h.sb.alloc o).grown hg (fun e=>own_ne h.own h.sb (by decide) e.symm)
 have hk8:Kx 0 [124] wr w8:=((Kx.refl (B:=0)).alloc o).grown (h.own.alloc o) hg (Nat.zero_le _) (by simp)
 have hk9:Kx 0 [115] w8 (w8.setCell ⟨hs,0,none⟩ (.slice (some ⟨g8,0,none⟩) (m+1) c8)):=Kx.refl.set hsb (Nat.zero_le _) (by simp) _ _
 refine ⟨by simpa using hsb.set_ 0 (.slice (some ⟨g8,0,none⟩) (m+1) c8),?_,by simp [h.len],(h.kx.trans (hk8.mono (Nat.le_refl _) (by simp))).trans (hk9.mono (Nat.le_refl _) (by simp)),?_,?_⟩
 . rw [byCs_app]
   exact hk9.own hown (by decide)
 . have h1:=h.lo
   exact ((h.bel.trans ((Below.refl _ _).alloc (by omega) o)).trans (grown_below (own_lo2 (h.own.alloc o) hb) hg (by simp;omega))).setCell (p:=⟨hs,0,none⟩) hs0 _
 . have h1:=h.lo
   have h2:=hk8.size
   have h3:=hk9.size
   omega
def armN (n:Nat):Code->Option Code
 | .block _ c=>armN n c
 | .seq a b=>match armN n a with
   | some c=>some c
   | none=>armN n b
 | .loop c=>armN n c
 | .scope c=>armN n c
 | .cond c a b=>match c with
   | .tmp k=>if k=n then some a else match armN n a with
     | some d=>some d
     | none=>armN n b
   | _=>none
 | _=>none
noncomputable def lwArm:Code:=(Try.f13.body.bind (armN 26)).getD .skip
set_option maxHeartbeats 16000000 in
theorem bwHead_any {Q:Exit->Act->World->Prop} {x0 x3 x4 x6 x7 x9 Aa Ab Ac Ad Ae Af Ag Ah Ai Aj Ak Al Am Ao Ap Aq Ar Au Av Aw Ax Ay Az A7 A9 Be Bl Bu Bv Bw B0 B1 B2 B3 B4 B5 B6 B7 B8 B9 Cg Ch Ci Cj Ck Cp Cq Cr Cs Cu Cw Cx Cy Cz C0 C1 C2 C3 C4 C5 C6 C7 C8 C9 Da Db Dc Dd De Dg Dh Di Dj Dk Dl Dm Dn Dp Dq Dr Ds Dt Du Dv Dw Dx Dy D0 D1 D3 D4 D5 D6 D7 D8 D9 Ee Ef Ei Ek El Em En Eo Es Et Eu Ev Ew Ex Ey Ez E0 E1 E2 E3 E4 E5 E6 E7 E8 E9 Fa Fb Ff Fg Fh Fi Fj Fk Fl Fm Fn Fp Fs Ft Fu Fv Fx Fy Fz F0 F1 F2 F3 F4 F5 F6 F7 F8 F9 Ga Gd Gi Gp Gr Gs Gt Gu Gv Gw Gx Gy Gz G0 G1 G2 G3 G4 G5 G6 G7 G8 G9 Hb Hc Hd He Hf Hg Hh Hi Hj Hk:Value} {w w0:World} {hw hs ln lc xn xc bn bc:Nat} {lA xA bA:Option Addr} {ls xs:List Int} {bl:List By} {x:Wd} {VJ VC VG VH VS:Value}
 (hl:Rd w w.heap.size 1 lA ln (ls.map (Value.int .i64))) (hln:ln=ls.length) (hlc:ln<=lc) (hlc2:lc<=9223372036854775807) (hlz:∀ z∈ls,(Lit.int i64 z).wf=true)
 (hx:Rd w w.heap.size 1 xA xn (xs.map (Value.int .i64))) (hxn:xn=xs.length) (hxc:xn<=xc) (hxc2:xc<=9223372036854775807) (hxz:∀ z∈xs,(Lit.int i64 z).wf=true)
 (hb0:Below w.heap.size w w0) (hwb:Bk w0 hw 52 #[.slice x.kA x.kn x.kc,.slice x.gA x.gn x.gc,.slice x.iA x.im x.ic]) (hsb:Bk w0 hs 115 #[.slice bA bn bc,VJ,VC,VG,VH,VS]) (hwlo:w.heap.size<=hw) (hslo:w.heap.size<=hs)
 (hbr:Rd w w.heap.size 13 bA bn (byCs bl)) (hbl:bn=bl.length) (hbz:bn*120<=140737488351232)
 (hN:∀ (Ic Ie Ig Ih Ii Ij Ik Il Im Io Ip Iq Ir Iu Iw Ix Iy Iz I2 I3 I4 I5 I6 I7 I8 I9 Ja Jb Jc Jd Je:Value) (y:Wd) (E:Option Addr) (n ec:Nat) (el:List (Int × Int)) (bA':Option Addr) (bc':Nat) (bl':List By) (w':World),Hid (BwH w w' hw hs y E n ec el bA' n bc' bl' VJ VC VG VH VS)->Q .normal ⟨#[x0,.slice lA ln lc,.slice xA xn xc,x3,.slice E n ec,.pointer (some ⟨hw,0,none⟩),x6,x7,.pointer (some ⟨hs,0,none⟩),x9,Aa,Ab,Ac,Ad,Ae,Af,Ag,Ah,Ai,Aj,Ak,Al,Am,Ao,Ap,Aq,Ar,Ic,Ie,Ig,Ih,Ii,Ij,Ik,Il,Im,Io,Ip,Iq,Ir,Iu,Iw,Ix,Iy,Iz,I2,I3,I4,I5,I6,I7,I8,I9,Ja,Jb,Jc,Jd,Je,Cs,Cu,Cw,Cx,Cy,Cz,C0,C1,C2,C3,C4,C5,C6,C7,C8,C9,Da,Db,Dc,Dd,De,Dg,Dh,Di,Dj,Dk,Dl,Dm,Dn,Dp,Dq,Dr,Ds,Dt,Du,Dv,Dw,Dx,Dy,D0,D1,D3,D4,D5,D6,D7,D8,D9,Ee,Ef,Ei,Ek,El,Em,En,Eo,Es,Et,Eu,Ev,Ew,Ex,Ey,Ez,E0,E1,E2,E3,E4,E5,E6,E7,E8,E9,Fa,Fb,Ff,Fg,Fh,Fi,Fj,Fk,Fl,Fm,Fn,Fp,Fs,Ft,Fu,Fv,Fx,Fy,Fz,F0,F1,F2,F3,F4,F5,F6,F7,F8,F9,Ga,Gd,Gi,Gp,Gr,Gs,Gt,Gu,Gv,Gw,Gx,Gy,Gz,G0,G1,G2,G3,G4,G5,G6,G7,G8,G9,Hb,Hc,Hd,He,Hf,Hg,Hh,Hi,Hj,Hk],[]⟩ w') :
 Code.wp Try.prog lwArm Q ⟨#[x0,.slice lA ln lc,.slice xA xn xc,x3,x4,.pointer (some ⟨hw,0,none⟩),x6,x7,.pointer (some ⟨hs,0,none⟩),x9,Aa,Ab,Ac,Ad,Ae,Af,Ag,Ah,Ai,Aj,Ak,Al,Am,Ao,Ap,Aq,Ar,Au,Av,Aw,Ax,Ay,Az,A7,A9,Be,Bl,Bu,Bv,Bw,B0,B1,B2,B3,B4,B5,B6,B7,B8,B9,Cg,Ch,Ci,Cj,Ck,Cp,Cq,Cr,Cs,Cu,Cw,Cx,Cy,Cz,C0,C1,C2,C3,C4,C5,C6,C7,C8,C9,Da,Db,Dc,Dd,De,Dg,Dh,Di,Dj,Dk,Dl,Dm,Dn,Dp,Dq,Dr,Ds,Dt,Du,Dv,Dw,Dx,Dy,D0,D1,D3,D4,D5,D6,D7,D8,D9,Ee,Ef,Ei,Ek,El,Em,En,Eo,Es,Et,Eu,Ev,Ew,Ex,Ey,Ez,E0,E1,E2,E3,E4,E5,E6,E7,E8,E9,Fa,Fb,Ff,Fg,Fh,Fi,Fj,Fk,Fl,Fm,Fn,Fp,Fs,Ft,Fu,Fv,Fx,Fy,Fz,F0,F1,F2,F3,F4,F5,F6,F7,F8,F9,Ga,Gd,Gi,Gp,Gr,Gs,Gt,Gu,Gv,Gw,Gx,Gy,Gz,G0,G1,G2,G3,G4,G5,G6,G7,G8,G9,Hb,Hc,Hd,He,Hf,Hg,Hh,Hi,Hj,Hk],[]⟩ w0:=by
 conv=>arg 2;whnf
 have HGA:Hid (Calls Try.prog 55 #[.slice lA ln lc] w0 _):=hid (game_any lA ln lc w.heap.size ls w0 (hl.below hb0) hln hlc hlc2 hlz hb0.size)
 have HXS:=hid (And.intro hx (And.intro hxn (And.intro hxc (And.intro hxc2 hxz))))
 have HWB:=hid hwb
 have HSB:=hid hsb
 have HB0:=hid hb0
 have HBR:Hid (Rd w w.heap.size 13 bA bn (byCs bl)/\bn=bl.length/\bn*120<=140737488351232):=hid ⟨hbr,hbl,hbz⟩
 have HLO:Hid (w.heap.size<=hw/\w.heap.size<=hs):=hid ⟨hwlo,hslo⟩
 clear hl hln hlc hlc2 hlz hx hxn hxc hxc2 hxz hb0 hwb hsb hwlo hslo hbr hbl hbz
 go_wp2_with fail
 (with_reducible refine HGA.out.mono ?_)
 rintro e w1 ⟨kA,sA,pA,kn,kc,sn,sc,pn,pc,nk,ks,pl,seed,ggy,stp,fuel,rfl,hg1,hb1⟩
 have HB1:Hid (Below w.heap.size w w1):=hid (HB0.out.trans (hb1.mono HB0.out.size))
 have HG1:=hg1
 have HWB1:=hid (HWB.out.bel hb1)
 have HSB1:=hid (HSB.out.bel hb1)
 have HKW:Hid (Calls Try.prog 54 #[.agg #[.slice kA kn kc,.slice sA sn sc,.slice pA pn pc,.int i64 pl,.int i64 seed,.int i64 0,.int i64 ggy,.int i64 stp,.int i64 fuel],.slice xA xn xc] w1 _):=hid (kworld_any xA xn xc w.heap.size xs w1 (HXS.out.1.below HB1.out) HXS.out.2.1 HXS.out.2.2.1 HXS.out.2.2.2.1 HXS.out.2.2.2.2 HB1.out.size HG1.out.1
  (fun k hk=>kindsN_one nk HG1.out.2.2.1 k.p (by rw [<- HG1.out.2.1];exact List.mem_map_of_mem hk)) (fun k hk=>kindsN_place nk HG1.out.2.2.1 k.p (by rw [<- HG1.out.2.1];exact List.mem_map_of_mem hk)) (by
   have h1:=kindsN_len nk HG1.out.2.2.1
   have h2:=HG1.out.1.len
   have h3:=congrArg List.length HG1.out.2.1
   rw [List.length_map] at h3
   omega))
 clear hg1 hb1 HGA
 go_wp2_with fail
 (with_reducible refine HKW.out.mono ?_)
 rintro e w2 ⟨y,rfl,hy,hb2⟩
 have HWB2:=hid (HWB1.out.bel hb2)
 have HSB2:=hid (HSB1.out.bel hb2)
 have HB2:Hid (Below w.heap.size w w2):=hid (HB1.out.trans (hb2.mono HB1.out.size))
 have c0:w2.cell? ⟨hw,0,none⟩=some (.slice x.kA x.kn x.kc):=HWB2.out.cell 0
 have c1:w2.cell? ⟨hw,1,none⟩=some (.slice x.gA x.gn x.gc):=HWB2.out.cell 1
 have c2:w2.cell? ⟨hw,2,none⟩=some (.slice x.iA x.im x.ic):=HWB2.out.cell 2
 have f0:=HWB2.out.frozen 0
 have f1:=HWB2.out.frozen 1
 have f2:=HWB2.out.frozen 2
 obtain ⟨w3,hw3⟩:∃ z,z=((w2.setCell ⟨hw,0,none⟩ (.slice y.kA y.kn y.kc)).setCell ⟨hw,1,none⟩ (.slice y.gA y.gn y.gc)).setCell ⟨hw,2,none⟩ (.slice y.iA y.im y.ic):=⟨_,rfl⟩
 have hkx:Kx 0 [52] w2 w3:=by rw [hw3];exact Kx.set3 (B:=0) (F:=[52]) Kx.refl HWB2.out (Nat.zero_le _) (by simp) 0 1 2 (.slice y.kA y.kn y.kc) (.slice y.gA y.gn y.gc) (.slice y.iA y.im y.ic)
 have HWB3:Hid (Bk w3 hw 52 #[.slice y.kA y.kn y.kc,.slice y.gA y.gn y.gc,.slice y.iA y.im y.ic]):=hid (by rw [hw3];simpa using ((HWB2.out.set_ 0 (.slice y.kA y.kn y.kc)).set_ 1 (.slice y.gA y.gn y.gc)).set_ 2 (.slice y.iA y.im y.ic))
 have HSB3:=hid (hkx.bk HSB2.out (by decide))
 have HB3:Hid (Below w.heap.size w w3):=hid (by
  rw [hw3]
  have hlo:=HLO.out.1
  have hbx:=HB2.out
  (repeat' first | with_reducible exact hbx | with_reducible refine Below.setCell ?_ hlo _))
 have HY3:Hid (WdY w3 0 y):=hid (hy.out.1.1.keep hkx (by decide) (by decide) (by decide) (by decide) (by decide))
 have hyk:y.ks.map Kd.p=kindsN nk:=by rw [hy.out.2.2.2.2.1];exact HG1.out.2.1
 obtain ⟨⟨⟨m0,m1,m2⟩,mv⟩,hmv⟩:∃ z,z=mapF (y.ks.map Kd.p):=⟨_,rfl⟩
 have hmv0:mv=0:=by
  have h1:=kindsN_map nk HG1.out.2.2.1
  rw [<- hyk,<- hmv] at h1
  exact h1
 subst hmv0
 have hck:checkF y.p.ks=0:=by show checkF (y.ks.map Kd.p)=0;rw [hyk];exact kindsN_check nk HG1.out.2.2.1
 have hcv:wcheckF y.p=0:=check_of hck hy.out.1.2
 have hfd:∀ k∈y.ks,k.n<=1048576:=fun k hk=>by
  have h1:=checkF_small hck (Kd.p k) (List.mem_map_of_mem hk)
  have h2:=(HY3.out.ok_.ks.ok k hk).len
  have h3:(Kd.p k).2=k.fds:=rfl
  rw [h3] at h1
  omega
 have hyl:y.its.length<=5:=hy.out.2.2.2.2.2.1
 obtain ⟨s0,s1,s2⟩:=mapF_ok hmv.symm
 have hX:spX (y.ks.map Kd.p)=.agg #[.int i64 m0,.int i64 m1,.int i64 m2,.int i64 (spec (y.ks.map Kd.p) sp3).1,.int i64 (spec (y.ks.map Kd.p) sp4).1]:=by unfold spX;rw [s0,s1,s2]
 have HSO:Hid (Calls Try.prog 57 #[y.v,.slice none 0 0] w3 (SoP w3 (bodiesF m0 m1 m2 y.its) (ctrF ((bodiesF m0 m1 m2 y.its).map Prod.snd) []))):=hid
  (sceneOf_any (cl:=[]) HY3.out.ok_ ⟨rfl,fun h=>absurd h (by omega)⟩ rfl (Nat.le_refl _) (by omega) (by omega) hfd hX (by omega) (itv_of HY3.out.ok_ hcv hmv.symm))
 have HQL:Hid ((bodiesF m0 m1 m2 y.its).length<=5):=hid (by
  have h1:(bodiesF m0 m1 m2 y.its).length<=y.its.length:=by unfold bodiesF;exact List.length_filterMap_le _ _
  omega)
 have HFD:=hid hfd
 clear hy hb2 HKW HWB2 HSB2 HB2 HWB1 HSB1 HB1 HG1 hkx hyk hmv hck hcv hfd hyl s0 s1 s2 hX HWB HSB HB0 HXS
 simp only [Wd.v]
 go_upto_region 3 with fail
 rw [<- hw3]
 clear hw3 c0 c1 c2 f0 f1 f2
 have q0:w3.cell? ⟨hw,0,none⟩=some (.slice y.kA y.kn y.kc):=HWB3.out.cell 0
 have q1:w3.cell? ⟨hw,1,none⟩=some (.slice y.gA y.gn y.gc):=HWB3.out.cell 1
 have q2:w3.cell? ⟨hw,2,none⟩=some (.slice y.iA y.im y.ic):=HWB3.out.cell 2
 go_wp2_with fail
 show Calls Try.prog 57 #[y.v,.slice none 0 0] w3 _
 (with_reducible refine HSO.out.mono ?_)
 rintro e w4 ⟨hb4,dA,n,dc,kA',kn',kc',E,ec,rfl,hR⟩
 have hn5:n<=5:=by have h1:=hR.len;have h2:=HQL.out;omega
 have HWB4:=hid (HWB3.out.bel hb4)
 have HSB4:=hid (HSB3.out.bel hb4)
 have HB4:Hid (Below w.heap.size w w4):=hid (HB3.out.trans (hb4.mono HB3.out.size))
 have HY4:Hid (WdY w4 0 y):=hid (HY3.out.keep (F:=[]) (Kx.of_below hb4) (by simp) (by simp) (by simp) (by simp) (by simp))
 have HEN:Hid (w4.ownsRow w3.heap.size 128 2 (.slice E n ec) n (enCs ((bodiesF m0 m1 m2 y.its).map Prod.snd))/\n=((bodiesF m0 m1 m2 y.its).map Prod.snd).length):=hid ⟨hR.en,by rw [List.length_map];exact hR.len⟩
 clear q0 q1 q2 HSO hb4 hR HQL HWB3 HSB3 HB3 HY3
 go_upto_region 4 with fail
 have s0:w4.cell? ⟨hs,0,none⟩=some (.slice bA bn bc):=HSB4.out.cell 0
 have HCL:Hid (Calls Try.prog 65 #[.slice bA bn bc] w4 (RetS w4 124 13 bn (byCs bl))):=hid (cloneBys_any bA bn bc w.heap.size (byCs bl) w4 (HBR.out.1.below HB4.out) (byCs_one bl) HB4.out.size (by have:=HBR.out.2.2;omega))
 go_wp2_with fail
 (with_reducible refine HCL.out.mono ?_)
 rintro e w5 ⟨A5,c5,rfl,hown5,hb5⟩
 have HWB5:=hid (HWB4.out.bel hb5)
 have HSB5:=hid (HSB4.out.bel hb5)
 have s5:w5.cell? ⟨hs,0,none⟩=some (.slice bA bn bc):=HSB5.out.cell 0
 have f5:=HSB5.out.frozen 0
 have HB5:Hid (Below w.heap.size w w5):=hid (HB4.out.trans (hb5.mono HB4.out.size))
 obtain ⟨w6,hw6⟩:∃ z,z=w5.setCell ⟨hs,0,none⟩ (.slice A5 bn c5):=⟨_,rfl⟩
 have hkx6:Kx 0 [115] w5 w6:=by rw [hw6];exact Kx.refl.set HSB5.out (Nat.zero_le _) (by simp) _ _
 have hk45:Kx 0 [] w4 w5:=Kx.of_below hb5
 have HL6:Hid (BwL w w6 w6 w4.heap.size hs A5 bn c5 bl VJ VC VG VH VS):=hid ⟨by rw [hw6];simpa using HSB5.out.set_ 0 (.slice A5 bn c5),hkx6.own hown5 (by decide),HBR.out.2.1,Kx.refl,by rw [hw6];exact HB5.out.setCell (p:=⟨hs,0,none⟩) HLO.out.2 _,by rw [hw6];simpa using hb5.size⟩
 have HWB6:=hid (hkx6.bk HWB5.out (by decide))
 have HY6:Hid (WdY w6 0 y):=hid ((HY4.out.keep hk45 (by simp) (by simp) (by simp) (by simp) (by simp)).keep hkx6 (by decide) (by decide) (by decide) (by decide) (by decide))
 have HEN6:Hid (w6.ownsRow w3.heap.size 128 2 (.slice E n ec) n (enCs ((bodiesF m0 m1 m2 y.its).map Prod.snd))):=hid (hkx6.own (hk45.own HEN.out.1 (by simp)) (by decide))
 have HBS:Hid (w.heap.size<=w4.heap.size):=hid HB4.out.size
 obtain ⟨base,hbase⟩:∃ z,z=w4.heap.size:=⟨_,rfl⟩
 rw [<- hbase] at HL6 HBS
 clear hown5 hb5 hkx6 hk45 HWB4 HSB4 HB4 HY4 HWB5 HSB5 HB5 s0 HCL hbase
 obtain ⟨i0,hi0,hz0,hz1,hz2⟩:=info_parts T.info124
 go_wp2_with fail
 rw [<- hw6]
 clear hw6 s5 f5
 go_loopg [45] (n-bn) (fun g _ wx=>∃ (m c':Nat) (A':Option Addr) (bl':List By),g=n-m/\Hid (BwL w wx w6 base hs A' m c' bl' VJ VC VG VH VS))
 case atStart=>exact ⟨bn,c5,A5,bl,rfl,HL6⟩
 case round =>
  clear HL6
  obtain ⟨m,c',A',bl',rfl,HL⟩:=hrel
  have s0:wr.cell? ⟨hs,0,none⟩=some (.slice A' m c'):=HL.out.sb.cell 0
  have hcap:=own_cap2 HL.out.own
  by_cases hmn:m<n
  . have hmz:(m:Int)<n:=by omega
    have HLS:Hid (base<=wr.heap.size):=hid HL.out.lo
    clear hcap
    go_wp2_with
     (at_builtin
      go_must (refine wpList_append_one _ rfl (.tmp 47) (.tmp 49) _ rfl base 124 i0 (.agg #[.int i64 0,.int i64 0,.int i64 0,.int i64 0,.int i64 0,.int i64 0,.int i64 0,.int i64 0,.int i64 0,.int i64 0,.slice none 0 0,.bool false,.int i64 0]) 13 120 Try.underlying112 hi0 hz0 hz1 hz2 rfl (by decide) (.slice A' m c') m (byCs bl') rfl (HL.out.own.alloc _) wr.heap.size 1 124 #[.int i64 0,.int i64 0,.int i64 0,.int i64 0,.int i64 0,.int i64 0,.int i64 0,.int i64 0,.int i64 0,.int i64 0,.slice none 0 0,.bool false,.int i64 0] rfl (Bk.new wr _ _) rfl ?c1 (m+1) rfl ?c2 ?c3 ?c4 ?_)
      case c1=>simp [Value.oneCell']
      case c2=>unfold maxLen;omega
      case c3=>omega
      case c4=>(have h1:=HLS.out;simp;omega)
      intro g8 c8 w8 hown8 hg8 hat8
      have hsb8:=(HL.out.sb.alloc (.cells #[.int i64 0,.int i64 0,.int i64 0,.int i64 0,.int i64 0,.int i64 0,.int i64 0,.int i64 0,.int i64 0,.int i64 0,.slice none 0 0,.bool false,.int i64 0] 124)).grown hg8 (fun e=>own_ne HL.out.own HL.out.sb (by decide) e.symm)
      have s8:w8.cell? ⟨hs,0,none⟩=some (.slice A' m c'):=hsb8.cell 0
      have f8:=hsb8.frozen 0)
    have HLN:Hid (BwL w (w8.setCell ⟨hs,0,none⟩ (.slice (some ⟨g8,0,none⟩) (m+1) c8)) w6 base hs (some ⟨g8,0,none⟩) (m+1) c8 (bl'++[by0]) VJ VC VG VH VS):=hid (HL.out.snoc (o:=.cells #[.int i64 0,.int i64 0,.int i64 0,.int i64 0,.int i64 0,.int i64 0,.int i64 0,.int i64 0,.int i64 0,.int i64 0,.slice none 0 0,.bool false,.int i64 0] 124) HBS.out HLO.out.2 hown8 hg8)
    clear HL hown8 hg8 hat8 hsb8 s8 f8 s0 HLS
    go_wp2_with fail
    go_roundg (n-(m+1))
    case measure=>omega
    case rel=>exact ⟨m+1,c8,some ⟨g8,0,none⟩,bl'++[by0],rfl,HLN⟩
  . have hmz:¬ ((m:Int)<n):=by omega
    have hnm:n<=m:=by omega
    have hnc:n<=c':=by omega
    have hncz:(n:Int)<=c':=by omega
    have hc63:c'<=9223372036854775807:=hcap.2
    have f0:=HL.out.sb.frozen 0
    obtain ⟨w9,hw9⟩:∃ z,z=wr.setCell ⟨hs,0,none⟩ (.slice A' n c'):=⟨_,rfl⟩
    have hkx9:Kx 0 [115] wr w9:=by rw [hw9];exact Kx.refl.set HL.out.sb (Nat.zero_le _) (by simp) _ _
    have hkxA:Kx 0 [115,124] w6 w9:=HL.out.kx.trans (hkx9.mono (Nat.le_refl _) (by simp))
    have HF:Hid (BwH w w9 hw hs y E n ec ((bodiesF m0 m1 m2 y.its).map Prod.snd) A' n c' (bl'.take n) VJ VC VG VH VS):=hid (by
     have hec:=own_cap2 HEN6.out
     have hrd:=(Rd.of_own (hkx9.own HL.out.own (by decide))).takeN hnm
     have hlen:=HL.out.len
     exact ⟨hkxA.bk HWB6.out (by decide),by rw [hw9];simpa using HL.out.sb.set_ 0 (.slice A' n c'),(HY6.out.keep hkxA (by decide) (by decide) (by decide) (by decide) (by decide)).ok_,fun k hk=>Nat.le_trans (HFD.out k hk) (by decide),Rd.of_own (hkxA.own HEN6.out (by decide)),HEN.out.2,hec.1,hec.2,
      by rw [byCs_take];exact hrd,by rw [List.length_take];omega,hnc,hc63,by rw [hw9];exact HL.out.bel.setCell (p:=⟨hs,0,none⟩) HLO.out.2 _⟩)
    clear HL hkx9 hkxA hcap
    go_wp2_with fail
    (try rw [<- hw9])
    (try simp only [Exit.inBlock,Exit.then])
    first
     | exact HF
     | (apply hN;exact HF)
theorem findF_name {l:List ByteArray} {nm:ByteArray} (h:¬ findF l nm<0):l[(findF l nm).toNat]?=some nm:=by
 unfold findF at h ⊢
 cases hf:l.findIdx? (fun x=>decide (x=nm)) with
 | none=>rw [hf] at h;exact absurd (show (-1:Int)<0 by decide) h
 | some i =>
   dsimp only
   rw [Int.toNat_natCast]
   rw [List.findIdx?_eq_some_iff_getElem] at hf
   obtain ⟨hi,h1,_⟩:=hf
   rw [List.getElem?_eq_getElem hi,of_decide_eq_true h1]
theorem named_name {ks:List (ByteArray × List Fd)} {nm:ByteArray} {ns:List ByteArray} {m:Int} {b:Bool} (h:namedF ks nm ns=(m,b)) (hm:0<=m):(ks.map (·.1))[m.toNat]?=some nm:=by
 unfold namedF at h
 by_cases hf:findF (ks.map (·.1)) nm<0
 . rw [if_pos hf] at h
   injection h with h1
   omega
 . rw [if_neg hf] at h
   have h2:=findF_name hf
   cases hg:ks[(findF (ks.map (·.1)) nm).toNat]? with
   | none =>
     rw [hg] at h
     injection h with h1
     omega
   | some x =>
     rw [hg] at h
     injection h with h1 _
     rw [<- h1]
     exact h2
theorem spec_ne {ks:List (ByteArray × List Fd)} {m0 m1:Int} {b0 b1:Bool} (h0:spec ks sp0=(m0,b0)) (h1:spec ks sp1=(m1,b1)):m0=m1->m0<0:=fun e=>by
 by_cases hm:m0<0
 . exact hm
 . have e0:=named_name h0 (by omega)
   have e1:=named_name h1 (by omega)
   rw [<- e,e0] at e1
   injection e1 with e1
   exact absurd e1 (by decide +kernel)
theorem spec_wf {ks:List (ByteArray × List Fd)} {s:ByteArray × List ByteArray} {m:Int} {b:Bool} (h:spec ks s=(m,b)) (hk:ks.length<=9223372036854775807):(Lit.int i64 m).wf=true:=by
 have hr : -1<=m/\m<=9223372036854775807:=by
  unfold spec namedF at h
  rcases findF_range (ks.map (·.1)) s.1 with e | ⟨i,e,hi⟩
  . rw [e,if_pos (by decide)] at h
    injection h with h1
    omega
  . rw [e,if_neg (by omega)] at h
    rw [List.length_map] at hi
    rw [Int.toNat_natCast,List.getElem?_eq_getElem hi] at h
    injection h with h1
    omega
 have e1:IntKind.i64.min = -9223372036854775808:=by decide
 have e2:IntKind.i64.max=9223372036854775807:=by decide
 simp [Lit.wf,e1,e2]
 omega
theorem lwE_at {b m0 a0:Int} {l:List Iv} {es:List (Int × Int)} (h:b=0->a0=m0):lwE b a0 l es=lwE b m0 l es:=by
 unfold lwE
 by_cases hb:b≠0
 . rw [if_pos hb,if_pos hb]
 . rw [h (Decidable.not_not.1 hb)]
theorem lwB2_ok {cv mv:Int} {en bn:Nat} (h:lwB2 cv mv en bn=0):cv=0/\mv=0/\en=bn:=by
 unfold lwB2 at h
 by_cases h1:cv≠0
 . rw [if_pos h1] at h;exact absurd h h1
 . rw [if_neg h1] at h
   by_cases h2:mv≠0
   . rw [if_pos h2] at h;exact absurd h h2
   . rw [if_neg h2] at h
     by_cases h3:en≠bn
     . rw [if_pos h3] at h;cases h
     . exact ⟨Decidable.not_not.1 h1,Decidable.not_not.1 h2,Decidable.not_not.1 h3⟩
theorem lwB2_of (cv mv:Int) (en bn:Nat):lwB2 cv mv en bn=if (if cv≠0 then cv else mv)≠0 then (if cv≠0 then cv else mv) else if en≠bn then 1 else 0:=by
 unfold lwB2
 by_cases h1:cv≠0
 . rw [if_pos h1,if_pos h1,if_pos h1]
 . rw [if_neg h1,if_neg h1]
theorem lwE_ok {b m0:Int} {l:List Iv} {es:List (Int × Int)} (h:lwE b m0 l es=0):b=0:=by
 unfold lwE at h
 by_cases hb:b≠0
 . rw [if_pos hb] at h;exact h
 . exact Decidable.not_not.1 hb
theorem vw_nn {p:Wv Kp2} (h:VW holdK p):NNk p.its:=fun x hx c hc=>by
 obtain ⟨k,d,e1,_,_⟩:=(h.ok x hx).2.2.ok c hc
 omega
end Go.Proofs.Ytnidcmhfbkdioaa
