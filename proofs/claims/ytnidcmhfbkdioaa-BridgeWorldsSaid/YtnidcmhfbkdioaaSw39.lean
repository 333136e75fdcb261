/-
  Lemmas for the walk, merged (Eg Bi). No condition but those in each statement.
-/
import Derived.Test.YtnidcmhfbkdioaaSw38
import Derived.Test.YtnidcmhfbkdioaaSw37
namespace Go.Proofs.Ytnidcmhfbkdioaa
open Go.RowKit
open Go.IntKind (i64)
open Go.Lib (hid)
set_option maxRecDepth 100000
structure BwK (ws w:World) (base B:Nat) (y:Wd) (sA mA oA rA:Nat) (SV MV:Array Value) (bA:Option Addr) (bn:Nat) (bl:List By):Prop where
 o:OutS w base y
 s:Bk w sA 115 SV
 m:Bk w mA 24 MV
 ob:Bk w oA 52 #[.slice y.kA y.kn y.kc,.slice y.gA y.gn y.gc,.slice y.iA y.im y.ic]
 r:Bk w rA 52 #[.slice none 0 0,.slice none 0 0,.slice none 0 0]
 b:Rd w B 13 bA bn (byCs bl)
 kx:Kx 0 [166] ws w
 bel:Below base ws w
 lo:B<=base
 sz:base<=w.heap.size
 ra:base<=rA
theorem BwK.below {ws w w':World} {base B:Nat} {y:Wd} {sA mA oA rA:Nat} {SV MV:Array Value} {bA:Option Addr} {bn:Nat} {bl:List By} (h:BwK ws w base B y sA mA oA rA SV MV bA bn bl) (hb:Below w.heap.size w w'):BwK ws w' base B y sA mA oA rA SV MV bA bn bl :=
 ⟨h.o.keep (F:=[]) (Kx.of_below hb) (by simp) (by simp) (by simp) (by simp) (by simp),h.s.below hb h.s.lt,h.m.below hb h.m.lt,h.ob.below hb h.ob.lt,h.r.below hb h.r.lt,h.b.below (hb.mono (Nat.le_trans h.lo h.sz)),h.kx.trans (Kx.of_below hb),h.bel.trans (hb.mono h.sz),h.lo,Nat.le_trans h.sz hb.size,h.ra⟩
theorem BwK.put {ws w w':World} {base B:Nat} {y:Wd} {its':List It} {sA mA oA rA:Nat} {SV MV:Array Value} {bA:Option Addr} {bn:Nat} {bl:List By} (h:BwK ws w base B y sA mA oA rA SV MV bA bn bl) (hO:OutS w' base { y with its:=its' }) (hk:Kx 0 [166] w w') (hb:Below base w w'):BwK ws w' base B { y with its:=its' } sA mA oA rA SV MV bA bn bl :=
 ⟨hO,hk.bk h.s (by decide),hk.bk h.m (by decide),hk.bk h.ob (by decide),hk.bk h.r (by decide),h.b.below (hb.mono h.lo),h.kx.trans hk,h.bel.trans hb,h.lo,Nat.le_trans h.sz hk.size,h.ra⟩
def PlOk (m0:Int) (l:List Iv):Prop:=∀ x∈l,x.2.length<=1000/\∀ c∈x.2,0<=c.1/\(c.1=m0->c.2≠[])
theorem idxF_some {α:Type} {p:α->Bool} {l:List α} (h:¬ idxF p l<0):∃ (k:Nat) (x:α),idxF p l=k/\l[k]?=some x:=by
 induction l with
 | nil=>exact absurd (show (-1:Int)<0 by decide) h
 | cons a l ih =>
   unfold idxF at h ⊢
   by_cases h1:p a=true
   . rw [if_pos h1]
     exact ⟨0,a,rfl,rfl⟩
   . rw [if_neg h1] at h ⊢
     by_cases h2:idxF p l<0
     . rw [if_pos h2] at h
       exact absurd (show (-1:Int)<0 by decide) h
     . rw [if_neg h2]
       obtain ⟨k,x,e1,e2⟩:=ih h2
       exact ⟨k+1,x,by rw [e1];rfl,by simpa using e2⟩
theorem set3_bk {w:World} {g:Nat} {c0 c1 c2:Value} (h:Bk w g 52 #[c0,c1,c2]) (u0 u1 u2:Value):Bk (((w.setCell ⟨g,0,none⟩ u0).setCell ⟨g,1,none⟩ u1).setCell ⟨g,2,none⟩ u2) g 52 #[u0,u1,u2]:=by
 simpa using ((h.set_ 0 u0).set_ 1 u1).set_ 2 u2
theorem wiF_range {n lo hi:Int} (h:lo<=hi):lo<=wiF n lo hi/\wiF n lo hi<=hi:=by
 unfold wiF
 omega
noncomputable def bwItem:Code:=(Try.f66.body.bind (blkN 1)).getD .skip
set_option maxHeartbeats 16000000 in
theorem bwItem_any {x0 x1 x2 x3 x5 x7 x8 x9 Ab Ad Ae Af Ag Ah Ai Aj Ak Al Am Ao Ap Aq Ar Au Av Aw Ax Ay Az A7 A9 Be Bl Bu Bv Bw B0 B1 B2 B3 B4 B5 B7 B9 Cg Ch Ci Cj Ck Cp Cq Cr Cs Cu Cw Cx Cy Cz C0 C1 C2 C3 C4 C5 C6 C7 C8 C9 Da Db Dc Dd De Dg Dh Di Dj Dk Dl Dm Dn Dp Dq Dr Ds Dt Du Dv Dw Dx Dy D0 D1 D3 D4 D5 D6 D7 D8 D9 Ee Ef Ei Ek El Em En Eo Es Et Eu Ev Ew Ex Ey Ez E0 E1 E2 E3 E4 E5 E6 E7 E8 E9 Fa Fb Ff Fg Fh Fi Fj Fk Fl Fm Fn Fp Fs Ft Fu Fv Fx Fy Fz F0 F1 F2 F3 F4 F5 F6 F7 F8 F9 Ga Gd Gi Gp Gr Gs Gt Gu Gv Gw Gx Gy Gz:Value} {Q:Exit->Act->World->Prop} {ws w0:World} {base B i en ec bn bc sA rA mA oA kn kc gn gc im ic:Nat} {m0 m1 m2:Int} {eA bA kA gA iA:Option Addr} {el:List (Int × Int)} {bl:List By} {e:Int × Int} {b:By} {V1 V2 V3 V4 V5:Value} {ks:List Kd} {gens:List Int} {its:List It} {d0 d1:ByteArray × List Fd}
 (hK:BwK ws w0 base B ⟨kA,kn,kc,ks,gA,gn,gc,gens,iA,im,ic,its⟩ sA mA oA rA #[.slice bA bn bc,V1,V2,V3,V4,V5] #[.int i64 m0,.int i64 m1,.int i64 m2] bA bn bl) (hel:Rd w0 B 2 eA en (enCs el)) (hen:i<en) (_hec:en<=ec) (_hec2:ec<=9223372036854775807) (hei:el[i]?=some e) (hbn:i<bn) (_hbc:bn<=bc) (_hbc2:bc<=9223372036854775807) (hbi:bl[i]?=some b)
 (hp:PlOk m0 (its.map It.p)) (hd0:0<=m0->∃ (K:Nat) (z:Kd),m0=K/\ks[K]?=some z/\z.p=d0) (hd1:0<=m1->∃ (K:Nat) (z:Kd),m1=K/\ks[K]?=some z/\z.p=d1)
 (hN:∀ (Ho Hp Hq Hr Hs I7 I8 I9 Ja Jb Jc Jd Je Jf Jg Jh Ji Jj Jk Jl Jm Jn Jo Jp Jq Jr Js Jt Ju Jv Jw Jx Jy Jz J1 J2 J3 J4 J5 J6 J7 J8 J9 Kk Kq Ks Kt Ku Kv Kw Ky K0 K1 K2 K3 K4 K5 K6 K7 K8 K9 La Lb Lc Ld Le Lf Lg Lh Li Lj Lk Ll Lm Ln Lo Lp:Value) (its':List It) (w':World),Hid (BwK ws w' base B ⟨kA,kn,kc,ks,gA,gn,gc,gens,iA,im,ic,its'⟩ sA mA oA rA #[.slice bA bn bc,V1,V2,V3,V4,V5] #[.int i64 m0,.int i64 m1,.int i64 m2] bA bn bl/\its'.map It.p=bwOne m0 m1 d0 d1 (its.map It.p) (e,b)/\bwBad m0 (its.map It.p) e=false)->Q .normal ⟨#[x0,x1,x2,x3,.pointer (some ⟨sA,0,none⟩),x5,.pointer (some ⟨rA,0,none⟩),x7,x8,x9,.pointer (some ⟨mA,0,none⟩),Ab,.pointer (some ⟨oA,0,none⟩),Ho,Hp,Hq,Hr,Hs,Ai,Aj,Ak,Al,Am,Ao,Ap,Aq,Ar,Au,Av,Aw,Ax,Ay,Az,A7,A9,Be,Bl,Bu,Bv,Bw,B0,B1,B2,B3,B4,B5,.slice eA en ec,B7,.int i64 (i:Int),B9,I7,I8,I9,Ja,Jb,Jc,Jd,Je,Jf,Jg,Jh,Ji,Jj,Jk,Jl,Jm,Jn,Jo,Jp,Jq,Jr,Js,Jt,Ju,Jv,Jw,Jx,Jy,Jz,J1,J2,J3,J4,J5,J6,J7,J8,J9,Kk,Kq,Ks,Kt,Ku,Kv,Kw,Ky,K0,K1,K2,K3,K4,K5,K6,K7,K8,K9,La,Lb,Lc,Ld,Le,Lf,Lg,Lh,Li,Lj,Lk,Ll,Lm,Ln,Lo,Lp,E0,E1,E2,E3,E4,E5,E6,E7,E8,E9,Fa,Fb,Ff,Fg,Fh,Fi,Fj,Fk,Fl,Fm,Fn,Fp,Fs,Ft,Fu,Fv,Fx,Fy,Fz,F0,F1,F2,F3,F4,F5,F6,F7,F8,F9,Ga,Gd,Gi,Gp,Gr,Gs,Gt,Gu,Gv,Gw,Gx,Gy,Gz],[]⟩ w')
 (hE:∀ (Ho Hp Hq Hr Hs I7 I8 I9 Ja Jb Jc Jd Je Jf Jg Jh Ji Jj Jk Jl Jm Jn Jo Jp Jq Jr Js Jt Ju Jv Jw Jx Jy Jz J1 J2 J3 J4 J5 J6 J7 J8 J9 Kk Kq Ks Kt Ku Kv Kw Ky K0 K1 K2 K3 K4 K5 K6 K7 K8 K9 La Lb Lc Ld Le Lf Lg Lh Li Lj Lk Ll Lm Ln Lo Lp:Value) (w':World),Hid (bwBad m0 (its.map It.p) e=true/\Bk w' rA 52 #[.slice none 0 0,.slice none 0 0,.slice none 0 0]/\Below base ws w')->Q .ret ⟨#[x0,x1,x2,x3,.pointer (some ⟨sA,0,none⟩),x5,.pointer (some ⟨rA,0,none⟩),.slice none 0 0,.int i64 4,x9,.pointer (some ⟨mA,0,none⟩),Ab,.pointer (some ⟨oA,0,none⟩),Ho,Hp,Hq,Hr,Hs,Ai,Aj,Ak,Al,Am,Ao,Ap,Aq,Ar,Au,Av,Aw,Ax,Ay,Az,A7,A9,Be,Bl,Bu,Bv,Bw,B0,B1,B2,B3,B4,B5,.slice eA en ec,B7,.int i64 (i:Int),B9,I7,I8,I9,Ja,Jb,Jc,Jd,Je,Jf,Jg,Jh,Ji,Jj,Jk,Jl,Jm,Jn,Jo,Jp,Jq,Jr,Js,Jt,Ju,Jv,Jw,Jx,Jy,Jz,J1,J2,J3,J4,J5,J6,J7,J8,J9,Kk,Kq,Ks,Kt,Ku,Kv,Kw,Ky,K0,K1,K2,K3,K4,K5,K6,K7,K8,K9,La,Lb,Lc,Ld,Le,Lf,Lg,Lh,Li,Lj,Lk,Ll,Lm,Ln,Lo,Lp,E0,E1,E2,E3,E4,E5,E6,E7,E8,E9,Fa,Fb,Ff,Fg,Fh,Fi,Fj,Fk,Fl,Fm,Fn,Fp,Fs,Ft,Fu,Fv,Fx,Fy,Fz,F0,F1,F2,F3,F4,F5,F6,F7,F8,F9,Ga,Gd,Gi,Gp,Gr,Gs,Gt,Gu,Gv,Gw,Gx,Gy,Gz],[]⟩ w') :
 Code.wp Try.prog bwItem Q ⟨#[x0,x1,x2,x3,.pointer (some ⟨sA,0,none⟩),x5,.pointer (some ⟨rA,0,none⟩),x7,x8,x9,.pointer (some ⟨mA,0,none⟩),Ab,.pointer (some ⟨oA,0,none⟩),Ad,Ae,Af,Ag,Ah,Ai,Aj,Ak,Al,Am,Ao,Ap,Aq,Ar,Au,Av,Aw,Ax,Ay,Az,A7,A9,Be,Bl,Bu,Bv,Bw,B0,B1,B2,B3,B4,B5,.slice eA en ec,B7,.int i64 (i:Int),B9,Cg,Ch,Ci,Cj,Ck,Cp,Cq,Cr,Cs,Cu,Cw,Cx,Cy,Cz,C0,C1,C2,C3,C4,C5,C6,C7,C8,C9,Da,Db,Dc,Dd,De,Dg,Dh,Di,Dj,Dk,Dl,Dm,Dn,Dp,Dq,Dr,Ds,Dt,Du,Dv,Dw,Dx,Dy,D0,D1,D3,D4,D5,D6,D7,D8,D9,Ee,Ef,Ei,Ek,El,Em,En,Eo,Es,Et,Eu,Ev,Ew,Ex,Ey,Ez,E0,E1,E2,E3,E4,E5,E6,E7,E8,E9,Fa,Fb,Ff,Fg,Fh,Fi,Fj,Fk,Fl,Fm,Fn,Fp,Fs,Ft,Fu,Fv,Fx,Fy,Fz,F0,F1,F2,F3,F4,F5,F6,F7,F8,F9,Ga,Gd,Gi,Gp,Gr,Gs,Gt,Gu,Gv,Gw,Gx,Gy,Gz],[]⟩ w0:=by
 conv=>arg 2;whnf
 obtain ⟨eb,eo,heA,heb,q0,q1⟩:=Rd.enW hel hen hei
 subst heA
 have hiz:(i:Int)<en:=by omega
 have hiz0:(0:Int)<=i:=by omega
 have hizb:(i:Int)<bn:=by omega
 obtain ⟨ea,hea⟩:∃ z,z=w0.heap.size:=⟨_,rfl⟩
 obtain ⟨W1,hW1⟩:∃ z,z=w0.alloc (.cells #[.int i64 e.1,.int i64 e.2] 128):=⟨_,rfl⟩
 have hb1:Below w0.heap.size w0 W1:=by rw [hW1];exact (Below.refl _ _).alloc (Nat.le_refl _) _
 have HEA:Hid (Bk W1 ea 128 #[.int i64 e.1,.int i64 e.2]):=hid (by rw [hW1,hea];exact Bk.new _ _ _)
 have HK1:=hid (hK.below hb1)
 obtain ⟨K,hKf⟩:∃ z,z=findEnt its e.1 e.2:=⟨_,rfl⟩
 have HFI:Hid (Calls Try.prog 150 #[.agg #[.slice kA kn kc,.slice gA gn gc,.slice iA im ic],.agg #[.int i64 e.1,.int i64 e.2]] W1 fun e' w'=>e'=.returned (.int i64 K)/\Below W1.heap.size W1 w'):=hid (by rw [hKf];exact wfind_any (y:=⟨kA,kn,kc,ks,gA,gn,gc,gens,iA,im,ic,its⟩) e.1 e.2 HK1.out.o.wd.its.ok_)
 have HKF:Hid (K=findP (its.map It.p) e.1 e.2):=hid (by rw [hKf,findEnt_p])
 have HKE:Hid (K=findEnt its e.1 e.2):=hid hKf
 have HPL:=hid hp
 have HD:Hid ((0<=m0->∃ (K:Nat) (z:Kd),m0=K/\ks[K]?=some z/\z.p=d0)/\(0<=m1->∃ (K:Nat) (z:Kd),m1=K/\ks[K]?=some z/\z.p=d1)):=hid ⟨hd0,hd1⟩
 have HBI:Hid (bl[i]?=some b):=hid hbi
 clear hK hel hei heb hp hd0 hd1 hbi hb1 hKf
 go_upto_region 13 with fail
 rw [<- hW1,<- hea]
 clear q0 q1 hW1 hea
 have e0:W1.cell? ⟨ea,0,none⟩=some (.int i64 e.1):=HEA.out.cell 0
 have e1:W1.cell? ⟨ea,1,none⟩=some (.int i64 e.2):=HEA.out.cell 1
 have o0:W1.cell? ⟨oA,0,none⟩=some (.slice kA kn kc):=HK1.out.ob.cell 0
 have o1:W1.cell? ⟨oA,1,none⟩=some (.slice gA gn gc):=HK1.out.ob.cell 1
 have o2:W1.cell? ⟨oA,2,none⟩=some (.slice iA im ic):=HK1.out.ob.cell 2
 go_wp2_with fail
 (with_reducible refine HFI.out.mono ?_)
 rintro e' w2 ⟨rfl,hb2⟩
 have HK2:=hid (HK1.out.below hb2)
 clear HFI hb2 e0 e1 o0 o1 o2 HEA HK1
 by_cases hneg:K<0
 . have HBAD:Hid (bwBad m0 (its.map It.p) e=true):=hid (by unfold bwBad;rw [<- HKF.out];simp [hneg])
   go_upto_region 14 with fail
   obtain ⟨u0,hu0⟩:∃ z,z=w2.drew:=⟨_,rfl⟩
   have HKU:Hid (BwK ws u0 base B ⟨kA,kn,kc,ks,gA,gn,gc,gens,iA,im,ic,its⟩ sA mA oA rA #[.slice bA bn bc,V1,V2,V3,V4,V5] #[.int i64 m0,.int i64 m1,.int i64 m2] bA bn bl):=hid (by rw [hu0];exact HK2.out.below (Below.refl _ _).drew)
   have HSS:Hid (u0.cell? ⟨mA,0,none⟩=some (.int i64 m0)):=hid (HKU.out.m.cell 0)
   clear HK2
   (try refine wp_region_noPanic ?_)
   refine wp_region_H (S:=fun wz=>wz.cell? ⟨mA,0,none⟩=some (.int i64 m0)) (by kernel_rfl) ?_
   rw [<- hu0]
   clear hu0
   refine wpH 0 (.int i64 K) 56 HSS.out ?_
   (try simp only [sP])
   refine wpH 1 (.bool true) 57 HSS.out ?_
   (try simp only [sP])
   refine wpH 2 (.bool true) 58 HSS.out ?_
   (try simp only [sP])
   refine wpHn 3 59 HSS.out ?_
   (try simp only [sP])
   refine wpHn 4 60 HSS.out ?_
   (try simp only [sP])
   refine wpHn 5 61 HSS.out ?_
   (try simp only [sP])
   refine wpHn 6 62 HSS.out ?_
   (try simp only [sP])
   refine wpHn 7 63 HSS.out ?_
   (try simp only [sP])
   refine wpHn 8 64 HSS.out ?_
   (try simp only [sP])
   refine wpHn 9 65 HSS.out ?_
   (try simp only [sP])
   refine wpHn 10 66 HSS.out ?_
   (try simp only [sP])
   refine wpHn 11 67 HSS.out ?_
   (try simp only [sP])
   refine wpH 12 (.bool true) 68 HSS.out ?_
   (try simp only [sP])
   refine wpAnyH_done (by kernel_rfl) ?_ _
   (try refine NoPanic.normal ?_)
   clear hN
   have z0:u0.cell? ⟨rA,0,none⟩=some (.slice none 0 0):=HKU.out.r.cell 0
   have z1:u0.cell? ⟨rA,1,none⟩=some (.slice none 0 0):=HKU.out.r.cell 1
   have z2:u0.cell? ⟨rA,2,none⟩=some (.slice none 0 0):=HKU.out.r.cell 2
   have y0:=HKU.out.r.frozen 0
   have y1:=HKU.out.r.frozen 1
   have y2:=HKU.out.r.frozen 2
   go_wp2_with fail
   (try simp only [Exit.inBlock,Exit.then])
   have HF:Hid (bwBad m0 (its.map It.p) e=true/\Bk (((u0.setCell ⟨rA,0,none⟩ (.slice none 0 0)).setCell ⟨rA,1,none⟩ (.slice none 0 0)).setCell ⟨rA,2,none⟩ (.slice none 0 0)) rA 52 #[.slice none 0 0,.slice none 0 0,.slice none 0 0]/\Below base ws (((u0.setCell ⟨rA,0,none⟩ (.slice none 0 0)).setCell ⟨rA,1,none⟩ (.slice none 0 0)).setCell ⟨rA,2,none⟩ (.slice none 0 0))):=hid (by
    refine ⟨HBAD.out,set3_bk HKU.out.r _ _ _,?_⟩
    have hbx:=HKU.out.bel
    have hra:=HKU.out.ra
    (repeat' first | with_reducible exact hbx | with_reducible refine Below.setCell ?_ hra _))
   first
    | exact HF
    | (apply hE;exact HF)
 . obtain ⟨k,x,hKk,hx⟩:=idxF_some (p:=fun x:It=>decide (x.e=e.1/\x.g=e.2)) (l:=its) (by have h:=HKE.out;unfold findEnt at h;rw [<- h];exact hneg)
   obtain rfl:K=(k:Int):=by have h:=HKE.out;unfold findEnt at h;rw [h];exact hKk
   have hkim:k<im:=by have h1:=(List.getElem?_eq_some_iff.1 hx).1;have h2:=HK2.out.o.wd.its.len;dsimp only at h2;omega
   have hkz:(k:Int)<im:=by omega
   have hkz0:(0:Int)<=k:=by omega
   have hkneg:¬ ((k:Int)<0):=by omega
   have hIC:im<=ic:=HK2.out.o.wd.its.cap
   have hIC2:ic<=9223372036854775807:=HK2.out.o.wd.its.cap2
   obtain ⟨ib,io,hiA,hib,i0,i1,i2⟩:=Rd.it HK2.out.o.wd.its.ok_.rd hkim hx
   dsimp only at hiA
   subst hiA
   obtain ⟨g,hxA,hxc,hxb,hxB⟩:=HK2.out.o.sp.row x (List.mem_of_getElem? hx)
   rw [hxA,hxc] at i2
   have hpl:=HPL.out x.p (List.mem_map_of_mem (List.mem_of_getElem? hx))
   have hxn:x.n<=1000:=by have h1:=(HK2.out.o.wd.its.ok x (List.mem_of_getElem? hx)).cs.len;have h2:=hpl.1;simp [It.p] at h2;omega
   have HXI:Hid (its[k]?=some x/\x.A=some ⟨g,0,none⟩/\x.n<=1000/\∀ c∈x.cms,0<=c.k):=hid ⟨hx,hxA,hxn,fun c hc=>(hpl.2 c.p (List.mem_map_of_mem hc)).1⟩
   have HXC:Hid (x.c=x.n):=hid hxc
   have HIM:Hid (k<im):=hid hkim
   have HS2:Hid (w2.cell? ⟨mA,0,none⟩=some (.int i64 m0)/\w2.cell? ⟨oA,2,none⟩=some (.slice (some ⟨ib,io,none⟩) im ic)/\w2.cell? ⟨ib,io+k*3,none⟩=some (.int i64 x.e)/\w2.cell? ⟨ib,io+k*3+1,none⟩=some (.int i64 x.g)/\w2.cell? ⟨ib,io+k*3+2,none⟩=some (.slice (some ⟨g,0,none⟩) x.n x.n)):=hid ⟨HK2.out.m.cell 0,HK2.out.ob.cell 2,i0,i1,i2⟩
   obtain ⟨RV,hRV⟩:∃ z,z=vaV (cmAt x.cms m0):=⟨_,rfl⟩
   have HVA:Hid (∀ wz,Below w2.heap.size w2 wz->Calls Try.prog 151 #[.agg #[.int i64 x.e,.int i64 x.g,.slice (some ⟨g,0,none⟩) x.n x.n],.int i64 m0] wz fun r w'=>r=.returned RV/\Below wz.heap.size wz w'):=hid fun wz hz=>by
    have h1:=(HK2.out.o.wd.its.ok x (List.mem_of_getElem? HXI.out.1)).cs.ok_
    rw [HXI.out.2.1,HXC.out] at h1
    rw [hRV]
    exact bvals_any (h1.below hz) x.e x.g m0
   have HFX:Hid ((its.map It.p)[k]?=some x.p):=hid (by rw [List.getElem?_map,HXI.out.1];rfl)
   clear hx hxA hxc hxb hxB hxn hib i0 i1 i2 hKk hkim hpl
   cases hcm:cmAt x.cms m0 with
   | none =>
     have hno:(x.p.2.any fun c=>decide (c.1=m0))=false:=by
      unfold cmAt at hcm
      rw [List.find?_eq_none] at hcm
      rw [List.any_eq_false]
      intro c hc
      obtain ⟨c',h1,h2⟩:=List.mem_map.1 (show c∈x.cms.map Cm.p from hc)
      have h3:=hcm c' h1
      rw [<- h2]
      exact h3
     have HBAD:Hid (bwBad m0 (its.map It.p) e=true):=hid (by unfold bwBad;rw [<- HKF.out];simp only [Int.toNat_natCast];rw [HFX.out];simp only [hno];simp)
     rw [hcm] at hRV
     unfold vaV at hRV
     subst hRV
     have hnil:=fun wx=>Lib.run_eql_slice_nil (P:=Try.prog) wx 30 3 none 0 0 0 0 Try.underlying30
     clear hcm hno
     go_upto_region 14 with fail
     obtain ⟨u0,hu0⟩:∃ z,z=w2.drew:=⟨_,rfl⟩
     have HKU:Hid (BwK ws u0 base B ⟨kA,kn,kc,ks,gA,gn,gc,gens,some ⟨ib,io,none⟩,im,ic,its⟩ sA mA oA rA #[.slice bA bn bc,V1,V2,V3,V4,V5] #[.int i64 m0,.int i64 m1,.int i64 m2] bA bn bl):=hid (by rw [hu0];exact HK2.out.below (Below.refl _ _).drew)
     have HSS:Hid (u0.cell? ⟨mA,0,none⟩=some (.int i64 m0)/\u0.cell? ⟨oA,2,none⟩=some (.slice (some ⟨ib,io,none⟩) im ic)/\u0.cell? ⟨ib,io+k*3,none⟩=some (.int i64 x.e)/\u0.cell? ⟨ib,io+k*3+1,none⟩=some (.int i64 x.g)/\u0.cell? ⟨ib,io+k*3+2,none⟩=some (.slice (some ⟨g,0,none⟩) x.n x.n)):=hid (by rw [hu0];exact HS2.out)
     have HVU:=hid (HVA.out u0 (by rw [hu0];exact (Below.refl _ _).drew))
     clear HVA HS2 HK2
     (try refine wp_region_noPanic ?_)
     refine wp_region_H (S:=fun wz=>wz.cell? ⟨mA,0,none⟩=some (.int i64 m0)/\wz.cell? ⟨oA,2,none⟩=some (.slice (some ⟨ib,io,none⟩) im ic)/\wz.cell? ⟨ib,io+k*3,none⟩=some (.int i64 x.e)/\wz.cell? ⟨ib,io+k*3+1,none⟩=some (.int i64 x.g)/\wz.cell? ⟨ib,io+k*3+2,none⟩=some (.slice (some ⟨g,0,none⟩) x.n x.n)) (by kernel_rfl) ?_
     rw [<- hu0]
     clear hu0
     refine wpH 0 (.int i64 (k:Int)) 56 HSS.out ?_
     (try simp only [sP])
     refine wpH 1 (.bool false) 57 HSS.out ?_
     (try simp only [sP])
     refine wpH 2 (.bool false) 58 HSS.out ?_
     (try simp only [sP])
     refine wpH 3 (.pointer (some ⟨oA,2,none⟩)) 59 HSS.out ?_
     (try simp only [sP])
     refine wpH 4 (.slice (some ⟨ib,io,none⟩) im ic) 60 HSS.out ?_
     (try simp only [sP])
     refine wpH 5 (.int i64 (k:Int)) 61 HSS.out ?_
     (try simp only [sP])
     refine wpH 6 (.pointer (some ⟨ib,io+k*3,none⟩)) 62 HSS.out ?_
     (try simp only [sP])
     refine wpH 7 (.agg #[.int i64 x.e,.int i64 x.g,.slice (some ⟨g,0,none⟩) x.n x.n]) 63 HSS.out ?_
     (try simp only [sP])
     refine wpH 8 (.pointer (some ⟨mA,0,none⟩)) 64 HSS.out ?_
     (try simp only [sP])
     refine wpH 9 (.int i64 m0) 65 HSS.out ?_
     (try simp only [sP])
     refine wpAnyH_oneW (i:=10) rfl (by kernel_rfl) (by rfl) ?_
     go_simp
     go_at_call 151
     (with_reducible refine HVU.out.mono ?_)
     rintro e1 u1 ⟨rfl,hv1⟩
     have HKV:=hid (HKU.out.below hv1)
     have HSV:Hid (u1.cell? ⟨mA,0,none⟩=some (.int i64 m0)/\u1.cell? ⟨oA,2,none⟩=some (.slice (some ⟨ib,io,none⟩) im ic)/\u1.cell? ⟨ib,io+k*3,none⟩=some (.int i64 x.e)/\u1.cell? ⟨ib,io+k*3+1,none⟩=some (.int i64 x.g)/\u1.cell? ⟨ib,io+k*3+2,none⟩=some (.slice (some ⟨g,0,none⟩) x.n x.n)):=hid (by
      have hw:∀ p u,u0.cell? p=some u->u1.cell? p=some u:=fun p u h=>(hv1.cell (World.block_lt_of_cell? _ _ h)).trans h
      obtain ⟨h0,h1,h2,h3,h4⟩:=HSS.out
      exact ⟨hw _ _ h0,hw _ _ h1,hw _ _ h2,hw _ _ h3,hw _ _ h4⟩)
     clear hv1 HVU HKU HSS
     refine And.intro HSV.out ?_
     (try simp only [sP])
     refine wpH 11 (.bool true) 67 HSV.out ?_
     (try simp only [sP])
     refine wpH 12 (.bool true) 68 HSV.out ?_
     (try simp only [sP])
     refine wpAnyH_done (by kernel_rfl) ?_ _
     (try refine NoPanic.normal ?_)
     clear hN
     have z0:u1.cell? ⟨rA,0,none⟩=some (.slice none 0 0):=HKV.out.r.cell 0
     have z1:u1.cell? ⟨rA,1,none⟩=some (.slice none 0 0):=HKV.out.r.cell 1
     have z2:u1.cell? ⟨rA,2,none⟩=some (.slice none 0 0):=HKV.out.r.cell 2
     have y0:=HKV.out.r.frozen 0
     have y1:=HKV.out.r.frozen 1
     have y2:=HKV.out.r.frozen 2
     go_wp2_with fail
     (try simp only [Exit.inBlock,Exit.then])
     have HF:Hid (bwBad m0 (its.map It.p) e=true/\Bk (((u1.setCell ⟨rA,0,none⟩ (.slice none 0 0)).setCell ⟨rA,1,none⟩ (.slice none 0 0)).setCell ⟨rA,2,none⟩ (.slice none 0 0)) rA 52 #[.slice none 0 0,.slice none 0 0,.slice none 0 0]/\Below base ws (((u1.setCell ⟨rA,0,none⟩ (.slice none 0 0)).setCell ⟨rA,1,none⟩ (.slice none 0 0)).setCell ⟨rA,2,none⟩ (.slice none 0 0))):=hid (by
      refine ⟨HBAD.out,set3_bk HKV.out.r _ _ _,?_⟩
      have hbx:=HKV.out.bel
      have hra:=HKV.out.ra
      (repeat' first | with_reducible exact hbx | with_reducible refine Below.setCell ?_ hra _))
     first
      | exact HF
      | (apply hE;exact HF)
   | some cm =>
     have hcmm:cm∈x.cms/\cm.k=m0:=by
      unfold cmAt at hcm
      exact ⟨List.mem_of_find?_eq_some hcm,by simpa using List.find?_some hcm⟩
     have hyes:(x.p.2.any fun c=>decide (c.1=m0))=true:=List.any_eq_true.2 ⟨cm.p,List.mem_map_of_mem hcmm.1,decide_eq_true (show cm.p.1=m0 from hcmm.2)⟩
     have HNB:Hid (bwBad m0 (its.map It.p) e=false):=hid (by unfold bwBad;rw [<- HKF.out];simp only [Int.toNat_natCast];rw [HFX.out];simp only [hyes];simp)
     obtain ⟨pc,po,hcA⟩:∃ pc po,cm.A=some ⟨pc,po,none⟩:=by
      have h1:=(HK2.out.o.wd.its.ok x (List.mem_of_getElem? HXI.out.1)).cs.ok cm hcmm.1
      have h2:=(HPL.out x.p (List.mem_map_of_mem (List.mem_of_getElem? HXI.out.1))).2 cm.p (List.mem_map_of_mem hcmm.1) |>.2 hcmm.2
      have h3:0<cm.n:=by
       rw [h1.len]
       exact List.length_pos_iff.2 h2
      obtain ⟨b',o',e',_⟩:=h1.rd.2 h3
      exact ⟨b',o',e'⟩
     rw [hcm] at hRV
     unfold vaV at hRV
     dsimp only at hRV
     rw [hcA] at hRV
     subst hRV
     have hnil:=fun wx=>Lib.run_eql_slice_nil (P:=Try.prog) wx 30 3 (some ⟨pc,po,none⟩) cm.n cm.c 0 0 Try.underlying30
     clear hcm hcmm hyes hcA
     go_upto_region 14 with fail
     obtain ⟨u0,hu0⟩:∃ z,z=w2.drew:=⟨_,rfl⟩
     have HKU:Hid (BwK ws u0 base B ⟨kA,kn,kc,ks,gA,gn,gc,gens,some ⟨ib,io,none⟩,im,ic,its⟩ sA mA oA rA #[.slice bA bn bc,V1,V2,V3,V4,V5] #[.int i64 m0,.int i64 m1,.int i64 m2] bA bn bl):=hid (by rw [hu0];exact HK2.out.below (Below.refl _ _).drew)
     have HSS:Hid (u0.cell? ⟨mA,0,none⟩=some (.int i64 m0)/\u0.cell? ⟨oA,2,none⟩=some (.slice (some ⟨ib,io,none⟩) im ic)/\u0.cell? ⟨ib,io+k*3,none⟩=some (.int i64 x.e)/\u0.cell? ⟨ib,io+k*3+1,none⟩=some (.int i64 x.g)/\u0.cell? ⟨ib,io+k*3+2,none⟩=some (.slice (some ⟨g,0,none⟩) x.n x.n)):=hid (by rw [hu0];exact HS2.out)
     have HVU:=hid (HVA.out u0 (by rw [hu0];exact (Below.refl _ _).drew))
     clear HVA HS2 HK2
     (try refine wp_region_noPanic ?_)
     refine wp_region_H (S:=fun wz=>wz.cell? ⟨mA,0,none⟩=some (.int i64 m0)/\wz.cell? ⟨oA,2,none⟩=some (.slice (some ⟨ib,io,none⟩) im ic)/\wz.cell? ⟨ib,io+k*3,none⟩=some (.int i64 x.e)/\wz.cell? ⟨ib,io+k*3+1,none⟩=some (.int i64 x.g)/\wz.cell? ⟨ib,io+k*3+2,none⟩=some (.slice (some ⟨g,0,none⟩) x.n x.n)) (by kernel_rfl) ?_
     rw [<- hu0]
     clear hu0
     refine wpH 0 (.int i64 (k:Int)) 56 HSS.out ?_
     (try simp only [sP])
     refine wpH 1 (.bool false) 57 HSS.out ?_
     (try simp only [sP])
     refine wpH 2 (.bool false) 58 HSS.out ?_
     (try simp only [sP])
     refine wpH 3 (.pointer (some ⟨oA,2,none⟩)) 59 HSS.out ?_
     (try simp only [sP])
     refine wpH 4 (.slice (some ⟨ib,io,none⟩) im ic) 60 HSS.out ?_
     (try simp only [sP])
     refine wpH 5 (.int i64 (k:Int)) 61 HSS.out ?_
     (try simp only [sP])
     refine wpH 6 (.pointer (some ⟨ib,io+k*3,none⟩)) 62 HSS.out ?_
     (try simp only [sP])
     refine wpH 7 (.agg #[.int i64 x.e,.int i64 x.g,.slice (some ⟨g,0,none⟩) x.n x.n]) 63 HSS.out ?_
     (try simp only [sP])
     refine wpH 8 (.pointer (some ⟨mA,0,none⟩)) 64 HSS.out ?_
     (try simp only [sP])
     refine wpH 9 (.int i64 m0) 65 HSS.out ?_
     (try simp only [sP])
     refine wpAnyH_oneW (i:=10) rfl (by kernel_rfl) (by rfl) ?_
     go_simp
     go_at_call 151
     (with_reducible refine HVU.out.mono ?_)
     rintro e1 u1 ⟨rfl,hv1⟩
     have HKV:=hid (HKU.out.below hv1)
     have HSV:Hid (u1.cell? ⟨mA,0,none⟩=some (.int i64 m0)/\u1.cell? ⟨oA,2,none⟩=some (.slice (some ⟨ib,io,none⟩) im ic)/\u1.cell? ⟨ib,io+k*3,none⟩=some (.int i64 x.e)/\u1.cell? ⟨ib,io+k*3+1,none⟩=some (.int i64 x.g)/\u1.cell? ⟨ib,io+k*3+2,none⟩=some (.slice (some ⟨g,0,none⟩) x.n x.n)):=hid (by
      have hw:∀ p u,u0.cell? p=some u->u1.cell? p=some u:=fun p u h=>(hv1.cell (World.block_lt_of_cell? _ _ h)).trans h
      obtain ⟨h0,h1,h2,h3,h4⟩:=HSS.out
      exact ⟨hw _ _ h0,hw _ _ h1,hw _ _ h2,hw _ _ h3,hw _ _ h4⟩)
     clear hv1 HVU HKU HSS
     refine And.intro HSV.out ?_
     (try simp only [sP])
     refine wpH 11 (.bool false) 67 HSV.out ?_
     (try simp only [sP])
     refine wpH 12 (.bool false) 68 HSV.out ?_
     (try simp only [sP])
     refine wpAnyH_done (by kernel_rfl) ?_ _
     (try refine NoPanic.normal ?_)
     obtain ⟨bb,bo,hbA,hbb,q0,q1,q2,q3,q4,q5,q6,q7,q8,q9,q10,q11,q12⟩:=Rd.by_ HKV.out.b hbn HBI.out
     subst hbA
     have s0:u1.cell? ⟨sA,0,none⟩=some (.slice (some ⟨bb,bo,none⟩) bn bc):=HKV.out.s.cell 0
     obtain ⟨ba,hba⟩:∃ z,z=u1.heap.size:=⟨_,rfl⟩
     obtain ⟨W3,hW3⟩:∃ z,z=u1.alloc (.cells #[.int i64 b.px,.int i64 b.py,.int i64 b.vx,.int i64 b.vy,.int i64 b.ang,.int i64 b.spin,.int i64 b.mass,.int i64 b.inr,.int i64 b.bou,.int i64 b.rub,.slice b.cA b.cn b.cc,.bool b.asl,.int i64 b.calm] 124):=⟨_,rfl⟩
     have hb3:Below u1.heap.size u1 W3:=by rw [hW3];exact (Below.refl _ _).alloc (Nat.le_refl _) _
     have HK3:=hid (HKV.out.below hb3)
     have HBD:Hid (Bk W3 ba 124 #[.int i64 b.px,.int i64 b.py,.int i64 b.vx,.int i64 b.vy,.int i64 b.ang,.int i64 b.spin,.int i64 b.mass,.int i64 b.inr,.int i64 b.bou,.int i64 b.rub,.slice b.cA b.cn b.cc,.bool b.asl,.int i64 b.calm]):=hid (by rw [hW3,hba];exact Bk.new _ _ _)
     have HI3:Hid (W3.cell? ⟨ib,io+k*3,none⟩=some (.int i64 x.e)/\W3.cell? ⟨ib,io+k*3+1,none⟩=some (.int i64 x.g)/\W3.cell? ⟨ib,io+k*3+2,none⟩=some (.slice (some ⟨g,0,none⟩) x.n x.n)):=hid (by
      have hw:∀ p u,u1.cell? p=some u->W3.cell? p=some u:=fun p u h=>(hb3.cell (World.block_lt_of_cell? _ _ h)).trans h
      obtain ⟨h0,h1,h2,h3,h4⟩:=HSV.out
      exact ⟨hw _ _ h2,hw _ _ h3,hw _ _ h4⟩)
     clear hbb hb3 HKV HSV HPL HKE HFX hE
     go_upto_region 17 with fail
     rw [<- hW3,<- hba]
     clear hW3 hba q0 q1 q2 q3 q4 q5 q6 q7 q8 q9 q10 q11 q12 s0
     obtain ⟨cv,hcv⟩:∃ z,z=wiF b.calm 0 1000:=⟨_,rfl⟩
     have hcv0:0<=cv/\cv<=1000:=by rw [hcv];exact wiF_range (by decide)
     obtain ⟨hcv1,hcv2⟩:=hcv0
     have HWI:Hid (Calls Try.prog 152 #[.int i64 b.calm,.int i64 0,.int i64 1000] W3 fun e w'=>e=.returned (.int i64 cv)/\W3=w'):=hid (by rw [hcv];exact within_any _ _ _ (by decide) W3)
     have HCV:Hid (cv=wiF b.calm 0 1000):=hid hcv
     clear hcv
     have d12:W3.cell? ⟨ba,12,none⟩=some (.int i64 b.calm):=HBD.out.cell 12
     have d11:W3.cell? ⟨ba,11,none⟩=some (.bool b.asl):=HBD.out.cell 11
     go_wp2_with fail
     (with_reducible refine HWI.out.mono ?_)
     rintro e1 w4 ⟨rfl,rfl⟩
     clear HWI d12
     cases has:b.asl with
     | false =>
       have HAS:=hid has
       rw [has] at d11
       clear has
       go_upto_region 20 with fail
       first
        | refine bw20_any (d:=d0) HK3.out.o HXI.out.1 HXI.out.2.1 rfl rfl rfl HXI.out.2.2.1 HD.out.1 HXI.out.2.2.2 ⟨HK3.out.ob.cell 0,HK3.out.ob.cell 2,HI3.out.1,HI3.out.2.1,HI3.out.2.2,HK3.out.m.cell 0,HBD.out.cell 0,HBD.out.cell 1,HBD.out.cell 4⟩ HK3.out.sz ?_
        | (go_step;refine bw20_any (d:=d0) HK3.out.o HXI.out.1 HXI.out.2.1 rfl rfl rfl HXI.out.2.2.1 HD.out.1 HXI.out.2.2.2 ⟨HK3.out.ob.cell 0,HK3.out.ob.cell 2,HI3.out.1,HI3.out.2.1,HI3.out.2.2,HK3.out.m.cell 0,HBD.out.cell 0,HBD.out.cell 1,HBD.out.cell 4⟩ HK3.out.sz ?_)
       intros
       rename_i l1 w5 H5
       obtain ⟨hk1,hk2⟩:=List.getElem?_eq_some_iff.1 HXI.out.1
       have HX5:Hid ((its.set k { x with cms:=l1 })[k]?=some { x with cms:=l1 }):=hid (List.getElem?_set_self hk1)
       have HK5:Hid (BwK ws w5 base B ⟨kA,kn,kc,ks,gA,gn,gc,gens,some ⟨ib,io,none⟩,im,ic,(its.set k { x with cms:=l1 })⟩ sA mA oA rA #[.slice (some ⟨bb,bo,none⟩) bn bc,V1,V2,V3,V4,V5] #[.int i64 m0,.int i64 m1,.int i64 m2] (some ⟨bb,bo,none⟩) bn bl):=hid (HK3.out.put H5.out.1 H5.out.2.2.1 H5.out.2.2.2)
       have HB5:=hid (H5.out.2.2.1.bk HBD.out (by decide))
       have HI5:Hid (w5.cell? ⟨ib,io+k*3,none⟩=some (.int i64 x.e)/\w5.cell? ⟨ib,io+k*3+1,none⟩=some (.int i64 x.g)/\w5.cell? ⟨ib,io+k*3+2,none⟩=some (.slice (some ⟨g,0,none⟩) x.n x.n)):=hid (by
        have hr:=Rd.it (k:=k) HK5.out.o.wd.its.ok_.rd HIM.out HX5.out
        obtain ⟨b',o',e1,e2,e3,e4,e5⟩:=hr
        injection e1 with e1
        injection e1 with e1 e1'
        subst e1
        subst e1'
        exact ⟨e3,e4,e5.trans (by rw [show ({ x with cms:=l1 }:It).A=x.A from rfl,HXI.out.2.1,show ({ x with cms:=l1 }:It).c=x.n from HXC.out])⟩)
       have HN5:Hid (∀ c∈l1,0<=c.k):=hid fun c hc=>by
        have hp:(its.map It.p)[k]?=some x.p:=by rw [List.getElem?_map,HXI.out.1];rfl
        have h7:=congrArg (fun z=>z[k]?) H5.out.2.1
        simp only [List.getElem?_map,HX5.out,Option.map_some] at h7
        rw [List.getElem?_set_self (List.getElem?_eq_some_iff.1 hp).1] at h7
        injection h7 with h7
        have h8:c.p∈(x.cms.map Cm.p).map (updC m0 (plF d0 b)):=by
         have h9:=congrArg Prod.snd h7
         have h10:l1.map Cm.p=(x.cms.map Cm.p).map (updC m0 (plF d0 b)):=h9
         rw [<- h10]
         exact List.mem_map_of_mem hc
        obtain ⟨c1,hc1,e1⟩:=List.mem_map.1 h8
        obtain ⟨c0,hc0,rfl⟩:=List.mem_map.1 hc1
        have h11:=HXI.out.2.2.2 c0 hc0
        have h12:c.k=(updC m0 (plF d0 b) c0.p).1:=by rw [e1];rfl
        rw [h12]
        unfold updC
        split
        . next e=>exact e▸h11
        . exact h11
       clear hk1 hk2
       go_upto_region 21 with fail
       first
        | refine bw21_any (d:=d1) (p3:=2*cv) HK5.out.o HX5.out HXI.out.2.1 rfl rfl rfl HXI.out.2.2.1 HD.out.2 HN5.out ⟨HK5.out.ob.cell 0,HK5.out.ob.cell 2,HI5.out.1,HI5.out.2.1,HI5.out.2.2,HK5.out.m.cell 1,HB5.out.cell 2,HB5.out.cell 3,HB5.out.cell 5⟩ HK5.out.sz ?_
        | (go_step;refine bw21_any (d:=d1) (p3:=2*cv) HK5.out.o HX5.out HXI.out.2.1 rfl rfl rfl HXI.out.2.2.1 HD.out.2 HN5.out ⟨HK5.out.ob.cell 0,HK5.out.ob.cell 2,HI5.out.1,HI5.out.2.1,HI5.out.2.2,HK5.out.m.cell 1,HB5.out.cell 2,HB5.out.cell 3,HB5.out.cell 5⟩ HK5.out.sz ?_)
       intros
       rename_i l2 w6 H6
       have HF:Hid (BwK ws w6 base B ⟨kA,kn,kc,ks,gA,gn,gc,gens,some ⟨ib,io,none⟩,im,ic,((its.set k { x with cms:=l1 }).set k { x with cms:=l2 })⟩ sA mA oA rA #[.slice (some ⟨bb,bo,none⟩) bn bc,V1,V2,V3,V4,V5] #[.int i64 m0,.int i64 m1,.int i64 m2] (some ⟨bb,bo,none⟩) bn bl/\((its.set k { x with cms:=l1 }).set k { x with cms:=l2 }).map It.p=bwOne m0 m1 d0 d1 (its.map It.p) (e,b)/\bwBad m0 (its.map It.p) e=false):=hid ⟨HK5.out.put H6.out.1 H6.out.2.2.1 H6.out.2.2.2,by
        have hp:(its.map It.p)[k]?=some x.p:=by rw [List.getElem?_map,HXI.out.1];rfl
        have h5:=H5.out.2.1
        have h6:=H6.out.2.1
        have hx5:({ x with cms:=l1 }:It).p=updI m0 (plF d0 b) x.p:=by
         have h7:=congrArg (fun z=>z[k]?) h5
         simp only [List.getElem?_map,HX5.out,Option.map_some] at h7
         rw [List.getElem?_set_self (List.getElem?_eq_some_iff.1 hp).1] at h7
         injection h7 with h7
        rw [h6,h5,hx5,List.set_set]
        unfold bwOne
        rw [<- HKF.out]
        simp only [Int.toNat_natCast]
        rw [hp]
        have hcw:calmV b=2*cv:=by unfold calmV;rw [HAS.out,<- HCV.out];simp
        show _=(its.map It.p).set k (updI m1 (moF d1 b) (updI m0 (plF d0 b) x.p))
        unfold moF
        rw [hcw],HNB.out⟩
       clear H5 H6 HK3 HK5 HX5 HI3 HI5 HB5 HXI HD HBD
       (try simp only [Exit.inBlock])
       first
        | exact HF
        | (apply hN;exact HF)
        | (go_wp2_with fail;(try simp only [Exit.inBlock,Exit.then]);first | exact HF | (apply hN;exact HF))
     | true =>
       have HAS:=hid has
       rw [has] at d11
       clear has
       go_upto_region 20 with fail
       first
        | refine bw20_any (d:=d0) HK3.out.o HXI.out.1 HXI.out.2.1 rfl rfl rfl HXI.out.2.2.1 HD.out.1 HXI.out.2.2.2 ⟨HK3.out.ob.cell 0,HK3.out.ob.cell 2,HI3.out.1,HI3.out.2.1,HI3.out.2.2,HK3.out.m.cell 0,HBD.out.cell 0,HBD.out.cell 1,HBD.out.cell 4⟩ HK3.out.sz ?_
        | (go_step;refine bw20_any (d:=d0) HK3.out.o HXI.out.1 HXI.out.2.1 rfl rfl rfl HXI.out.2.2.1 HD.out.1 HXI.out.2.2.2 ⟨HK3.out.ob.cell 0,HK3.out.ob.cell 2,HI3.out.1,HI3.out.2.1,HI3.out.2.2,HK3.out.m.cell 0,HBD.out.cell 0,HBD.out.cell 1,HBD.out.cell 4⟩ HK3.out.sz ?_)
       intros
       rename_i l1 w5 H5
       obtain ⟨hk1,hk2⟩:=List.getElem?_eq_some_iff.1 HXI.out.1
       have HX5:Hid ((its.set k { x with cms:=l1 })[k]?=some { x with cms:=l1 }):=hid (List.getElem?_set_self hk1)
       have HK5:Hid (BwK ws w5 base B ⟨kA,kn,kc,ks,gA,gn,gc,gens,some ⟨ib,io,none⟩,im,ic,(its.set k { x with cms:=l1 })⟩ sA mA oA rA #[.slice (some ⟨bb,bo,none⟩) bn bc,V1,V2,V3,V4,V5] #[.int i64 m0,.int i64 m1,.int i64 m2] (some ⟨bb,bo,none⟩) bn bl):=hid (HK3.out.put H5.out.1 H5.out.2.2.1 H5.out.2.2.2)
       have HB5:=hid (H5.out.2.2.1.bk HBD.out (by decide))
       have HI5:Hid (w5.cell? ⟨ib,io+k*3,none⟩=some (.int i64 x.e)/\w5.cell? ⟨ib,io+k*3+1,none⟩=some (.int i64 x.g)/\w5.cell? ⟨ib,io+k*3+2,none⟩=some (.slice (some ⟨g,0,none⟩) x.n x.n)):=hid (by
        have hr:=Rd.it (k:=k) HK5.out.o.wd.its.ok_.rd HIM.out HX5.out
        obtain ⟨b',o',e1,e2,e3,e4,e5⟩:=hr
        injection e1 with e1
        injection e1 with e1 e1'
        subst e1
        subst e1'
        exact ⟨e3,e4,e5.trans (by rw [show ({ x with cms:=l1 }:It).A=x.A from rfl,HXI.out.2.1,show ({ x with cms:=l1 }:It).c=x.n from HXC.out])⟩)
       have HN5:Hid (∀ c∈l1,0<=c.k):=hid fun c hc=>by
        have hp:(its.map It.p)[k]?=some x.p:=by rw [List.getElem?_map,HXI.out.1];rfl
        have h7:=congrArg (fun z=>z[k]?) H5.out.2.1
        simp only [List.getElem?_map,HX5.out,Option.map_some] at h7
        rw [List.getElem?_set_self (List.getElem?_eq_some_iff.1 hp).1] at h7
        injection h7 with h7
        have h8:c.p∈(x.cms.map Cm.p).map (updC m0 (plF d0 b)):=by
         have h9:=congrArg Prod.snd h7
         have h10:l1.map Cm.p=(x.cms.map Cm.p).map (updC m0 (plF d0 b)):=h9
         rw [<- h10]
         exact List.mem_map_of_mem hc
        obtain ⟨c1,hc1,e1⟩:=List.mem_map.1 h8
        obtain ⟨c0,hc0,rfl⟩:=List.mem_map.1 hc1
        have h11:=HXI.out.2.2.2 c0 hc0
        have h12:c.k=(updC m0 (plF d0 b) c0.p).1:=by rw [e1];rfl
        rw [h12]
        unfold updC
        split
        . next e=>exact e▸h11
        . exact h11
       clear hk1 hk2
       go_upto_region 21 with fail
       first
        | refine bw21_any (d:=d1) (p3:=2*cv+1) HK5.out.o HX5.out HXI.out.2.1 rfl rfl rfl HXI.out.2.2.1 HD.out.2 HN5.out ⟨HK5.out.ob.cell 0,HK5.out.ob.cell 2,HI5.out.1,HI5.out.2.1,HI5.out.2.2,HK5.out.m.cell 1,HB5.out.cell 2,HB5.out.cell 3,HB5.out.cell 5⟩ HK5.out.sz ?_
        | (go_step;refine bw21_any (d:=d1) (p3:=2*cv+1) HK5.out.o HX5.out HXI.out.2.1 rfl rfl rfl HXI.out.2.2.1 HD.out.2 HN5.out ⟨HK5.out.ob.cell 0,HK5.out.ob.cell 2,HI5.out.1,HI5.out.2.1,HI5.out.2.2,HK5.out.m.cell 1,HB5.out.cell 2,HB5.out.cell 3,HB5.out.cell 5⟩ HK5.out.sz ?_)
       intros
       rename_i l2 w6 H6
       have HF:Hid (BwK ws w6 base B ⟨kA,kn,kc,ks,gA,gn,gc,gens,some ⟨ib,io,none⟩,im,ic,((its.set k { x with cms:=l1 }).set k { x with cms:=l2 })⟩ sA mA oA rA #[.slice (some ⟨bb,bo,none⟩) bn bc,V1,V2,V3,V4,V5] #[.int i64 m0,.int i64 m1,.int i64 m2] (some ⟨bb,bo,none⟩) bn bl/\((its.set k { x with cms:=l1 }).set k { x with cms:=l2 }).map It.p=bwOne m0 m1 d0 d1 (its.map It.p) (e,b)/\bwBad m0 (its.map It.p) e=false):=hid ⟨HK5.out.put H6.out.1 H6.out.2.2.1 H6.out.2.2.2,by
        have hp:(its.map It.p)[k]?=some x.p:=by rw [List.getElem?_map,HXI.out.1];rfl
        have h5:=H5.out.2.1
        have h6:=H6.out.2.1
        have hx5:({ x with cms:=l1 }:It).p=updI m0 (plF d0 b) x.p:=by
         have h7:=congrArg (fun z=>z[k]?) h5
         simp only [List.getElem?_map,HX5.out,Option.map_some] at h7
         rw [List.getElem?_set_self (List.getElem?_eq_some_iff.1 hp).1] at h7
         injection h7 with h7
        rw [h6,h5,hx5,List.set_set]
        unfold bwOne
        rw [<- HKF.out]
        simp only [Int.toNat_natCast]
        rw [hp]
        have hcw:calmV b=2*cv+1:=by unfold calmV;rw [HAS.out,<- HCV.out];simp
        show _=(its.map It.p).set k (updI m1 (moF d1 b) (updI m0 (plF d0 b) x.p))
        unfold moF
        rw [hcw],HNB.out⟩
       clear H5 H6 HK3 HK5 HX5 HI3 HI5 HB5 HXI HD HBD
       (try simp only [Exit.inBlock])
       first
        | exact HF
        | (apply hN;exact HF)
        | (go_wp2_with fail;(try simp only [Exit.inBlock,Exit.then]);first | exact HF | (apply hN;exact HF))
theorem T.info131:(Try.prog.info? 131).map (fun i=>(i.zero,i.size,i.bytes))=some (some (.agg #[.int i64 0,.int i64 0,.int i64 0,.int i64 0,.int i64 0,.int i64 0,.int i64 0,.int i64 0,.int i64 0,.int i64 0]),10,80):=by kernel_rfl
end Go.Proofs.Ytnidcmhfbkdioaa
