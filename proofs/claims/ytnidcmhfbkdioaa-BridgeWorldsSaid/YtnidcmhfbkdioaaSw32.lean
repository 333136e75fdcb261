/-
  Lemmas for the walk, merged (Py Cl). No condition but those in each statement.
-/
import Derived.Lib.AppendZerosOnto
import Derived.Test.YtnidcmhfbkdioaaSw9
import Derived.Test.YtnidcmhfbkdioaaSw31
namespace Go.Proofs.Ytnidcmhfbkdioaa
open Go.RowKit
open Go.IntKind (i64)
open Go.Lib (hid)
set_option maxRecDepth 100000
theorem own_monoY {w:World} {base base' size n:Nat} {e:TypeId} {v:Value} {xs:List Value} (h:w.ownsRow base e size v n xs) (hb:base'<=base):w.ownsRow base' e size v n xs:=by
 refine ⟨h.1,?_⟩
 rcases h.2 with h2 | ⟨g,cap,cur,h3,h4,h5⟩
 . exact .inl h2
 . exact .inr ⟨g,cap,cur,h3,Nat.le_trans hb h4,h5⟩
theorem T.info3Y:(Try.prog.info? 3).map (fun i=>(i.zero,i.size,i.bytes))=some (some (.int i64 0),1,8):=by kernel_rfl
set_option maxHeartbeats 2000000 in
theorem grow_any (N:Nat) (w:World) (h1:1<=N) (h2:N<=1000000) :
 Calls Try.prog 101 #[.slice none 0 0,.int i64 N] w fun e w'=>∃ (g c:Nat),e=.returned (.slice (some ⟨g,0,none⟩) 0 c)/\Hid (w'.ownsRow w.heap.size 3 1 (.slice (some ⟨g,0,none⟩) 0 c) 0 [])/\Below w.heap.size w w':=by
 obtain ⟨i0,hi0,hz0,hs0,hb0⟩:=info_parts T.info3Y
 have hold:(Builtin.firstCells i0.size 0 (.slice none 0 0)).run Try.prog w.drew=.ok ([]:List Value).toArray w.drew:=run_firstCells_none w.drew i0.size 0 0 0
 have hrz:∀ ty,(Builtin.append_ #[30,3] ty #[.slice none 0 0,.int i64 (N:Int)]).run Try.prog w =
  .ok (.slice (some ⟨w.heap.size,0,none⟩) N (grownCap w N 0 3)) (w.drew.alloc (.cells (Builtin.zeroCells (Value.int i64 0).cells N++Builtin.zeroCells (Value.int i64 0).cells (grownCap w N 0 3-N)) 3)):=fun ty=>by
  have h:=Lib.run_append_grow_zeros w 30 3 ty 3 i0 (.int i64 0) .i64 .i64 Try.underlying30 Try.underlying3 hi0 hz0 none 0 0 [] hold N (by omega) (by omega) (by omega) (by omega) (by rw [hb0];omega) (growslice_fits (by omega) (by rw [hb0];omega))
  simpa using h
 have hGn:N<=grownCap w N 0 3:=grownCap_ge w _ _ _
 have hGm:grownCap w N 0 3<=maxLen:=grownCap_le_maxLen w N 0 3 (by unfold maxLen;omega)
 obtain ⟨G,hG⟩:∃ G,G=grownCap w N 0 3:=⟨_,rfl⟩
 rw [<- hG] at hrz hGn hGm
 have hG63:G<=9223372036854775807:=by unfold maxLen at hGm;omega
 have h1z:¬ ((N:Int)<0):=by omega
 have h2z:(N:Int) > 0:=by omega
 have HPO:Hid ((w.drew.alloc (.cells (Builtin.zeroCells (Value.int i64 0).cells N++Builtin.zeroCells (Value.int i64 0).cells (G-N)) 3)).ownsRow w.heap.size 3 1 (.slice (some ⟨w.heap.size,0,none⟩) 0 G) 0 []/\Below w.heap.size w (w.drew.alloc (.cells (Builtin.zeroCells (Value.int i64 0).cells N++Builtin.zeroCells (Value.int i64 0).cells (G-N)) 3))):=hid
  ⟨⟨rfl,.inr ⟨_,G,_,rfl,Nat.le_refl _,heap_alloc_new w.drew _,Nat.zero_le _,hGm,by simp [Builtin.zeroCells,Value.cells];omega,by simp⟩⟩,((Below.refl _ _).drew).alloc (Nat.le_refl _) _⟩
 clear hold hG hi0 hz0 hs0 hb0
 go_enter Try.func101,Try.ntmps101
 go_wp2_with (at_builtin;refine Lib.wpList_append_run _ rfl _ _ _ _ rfl _ _ rfl rfl _ _ (hrz _) ?_)
 all_goals
  go_ret
  exact ⟨_,_,rfl,hid HPO.out.1,HPO.out.2⟩
structure Sg where
 A:Option Addr
 n:Nat
 c:Nat
 xs:List Int
def sgCs (l:List Sg):List Value:=l.map fun x=>.slice x.A x.n x.c
def catS (l:List Sg):List Int:=l.flatMap Sg.xs
structure SgOk (w:World) (B:Nat) (x:Sg):Prop where
 rd:Rd w B 1 x.A x.n (x.xs.map (Value.int .i64))
 len:x.n=x.xs.length
 cap:x.n<=x.c
 cap2:x.c<=9223372036854775807
theorem SgOk.below {w w':World} {B:Nat} {x:Sg} (h:SgOk w B x) (hb:Below B w w'):SgOk w' B x:=⟨h.rd.below hb,h.len,h.cap,h.cap2⟩
theorem catS_take {l:List Sg} {k:Nat} {x:Sg} (h:l[k]?=some x):catS (l.take (k+1))=catS (l.take k)++x.xs:=by
 rw [List.take_add_one,h];simp [catS]
theorem catS_le (l:List Sg) (k:Nat):(catS (l.take k)).length<=(catS l).length:=by
 have h:catS l=catS (l.take k)++catS (l.drop k):=by
  conv=>lhs;rw [<- List.take_append_drop k l]
  unfold catS;rw [List.flatMap_append]
 rw [h,List.length_append];omega
set_option maxHeartbeats 4000000 in
theorem concat_any {w:World} {B n c:Nat} {A:Option Addr} {l:List Sg} (hr:Rd w B 1 A n (sgCs l)) (hn:n=l.length) (hnc:n<=c) (hc:c<=9223372036854775807) (hok:∀ x∈l,SgOk w B x) (hB:B<=w.heap.size) (h1:1<=(catS l).length) (h2:(catS l).length<=1000000) :
 Calls Try.prog 28 #[.slice A n c] w fun e w'=>∃ (A':Option Addr) (c':Nat),e=.returned (.slice A' (catS l).length c')/\Hid (w'.ownsRow w.heap.size 3 1 (.slice A' (catS l).length c') (catS l).length ((catS l).map (Value.int .i64)))/\Below w.heap.size w w':=by
 obtain ⟨N,hN⟩:∃ N,N=(catS l).length:=⟨_,rfl⟩
 rw [<- hN] at h1 h2 ⊢
 have HN:=hid hN
 have HR:=hid hr
 have HL:=hid hn
 have HO:=hid hok
 have HG:=hid (fun wx=>grow_any N wx h1 h2)
 clear hN hr hn hok
 go_enter Try.func28,Try.ntmps28
 go_wp2_with fail
 go_loopw [3,11] (fun sv iv wr=>∃ (k t:Nat),k<=n/\iv=.int i64 k/\sv=.int i64 t/\t<=N/\Hid (t=(catS (l.take k)).length)/\Hid (Below w.heap.size w wr)) (fun _ iv _=>n-(intOf iv).toNat)
 case atStart=>exact ⟨0,0,Nat.zero_le _,rfl,rfl,Nat.zero_le _,hid rfl,hid (Below.refl _ _)⟩
 case round =>
  obtain ⟨k,t,hk,rfl,rfl,htN,HT,HW⟩:=hrel
  by_cases hlt:k<n
  . obtain ⟨x,hx⟩:∃ x,l[k]?=some x:=⟨_,List.getElem?_eq_getElem (by have:=HL.out;omega)⟩
    have hgx:(sgCs l)[k]?=some (.slice x.A x.n x.c):=by unfold sgCs;rw [List.getElem?_map,hx];rfl
    obtain ⟨b,o,rfl,hbb,q0⟩:=(HR.out.below (HW.out.mono hB)).at1 hlt hgx
    have hxo:=HO.out x (List.mem_of_getElem? hx)
    have hxc:=hxo.cap
    have hxc2:=hxo.cap2
    have ht2:t+x.n=(catS (l.take (k+1))).length:=by rw [catS_take hx,List.length_append,<- HT.out,hxo.len]
    have htN2:t+x.n<=N:=by rw [ht2,HN.out];exact catS_le l (k+1)
    have HT2:=hid ht2
    have hkz:(k:Int)<n:=by omega
    have hkz0:(0:Int)<=k:=by omega
    have hneg:¬ ((t:Int)+x.n<0):=by omega
    clear hx hgx hxo ht2 hbb
    generalize x.A=xA at *
    generalize x.n=xn at *
    generalize x.c=xc at *
    go_wp2_with fail
    go_roundw
    case measure=>simp [intOf];omega
    case rel=>exact ⟨k+1,t+xn,by omega,by go_num,by go_num,htN2,HT2,HW⟩
  . obtain rfl:k=n:=by omega
    have htn:t=N:=by rw [HT.out,HN.out,List.take_of_length_le (by rw [<- HL.out];exact Nat.le_refl _)]
    subst htn
    clear HT
    go_wp2_with fail
    (with_reducible refine (HG.out _).mono ?_)
    rintro e w2 ⟨g,gc,rfl,HO2,hb2⟩
    have HB2:Hid (Below w.heap.size w w2):=hid (HW.out.trans (hb2.mono HW.out.size))
    have HO3:Hid (w2.ownsRow w.heap.size 3 1 (.slice (some ⟨g,0,none⟩) 0 gc) 0 []):=hid (own_monoY HO2.out HW.out.size)
    clear HO2 hb2 HW
    obtain ⟨i0,hi0,hz0,hs0,hb0⟩:=info_parts T.info3Y
    go_wp2_with fail
    go_loopw [6,27] (fun sv iv wr=>∃ (j m c1:Nat) (A1:Option Addr),j<=k/\iv=.int i64 j/\sv=.slice A1 m c1/\m<=t/\Hid (m=(catS (l.take j)).length/\wr.ownsRow w.heap.size 3 1 (.slice A1 m c1) m ((catS (l.take j)).map (Value.int .i64)))/\Hid (Below w.heap.size w wr)) (fun _ iv _=>k-(intOf iv).toNat)
    case atStart=>exact ⟨0,0,gc,some ⟨g,0,none⟩,Nat.zero_le _,rfl,rfl,Nat.zero_le _,hid ⟨rfl,HO3.out⟩,HB2⟩
    case round =>
     clear HO3 HB2
     obtain ⟨j,m,c1,A1,hj,rfl,rfl,hmt,HM,HW⟩:=hrel
     by_cases hlt:j<k
     . obtain ⟨x,hx⟩:∃ x,l[j]?=some x:=⟨_,List.getElem?_eq_getElem (by have:=HL.out;omega)⟩
       have hgx:(sgCs l)[j]?=some (.slice x.A x.n x.c):=by unfold sgCs;rw [List.getElem?_map,hx];rfl
       obtain ⟨b,o,rfl,hbb,q0⟩:=(HR.out.below (HW.out.mono hB)).at1 hlt hgx
       have hxo:=(HO.out x (List.mem_of_getElem? hx)).below (HW.out.mono hB)
       have hxc:=hxo.cap
       have hxc2:=hxo.cap2
       have hm2:m+x.n=(catS (l.take (j+1))).length:=by rw [catS_take hx,List.length_append,<- HM.out.1,hxo.len]
       have hmN2:m+x.n<=t:=by rw [hm2,HN.out];exact catS_le l (j+1)
       have HM2:=hid (And.intro hm2 (catS_take hx))
       have HRX:=hid hxo.rd
       have hkz:(j:Int)<k:=by omega
       have hkz0:(0:Int)<=j:=by omega
       have hwr:w.heap.size<=wr.heap.size:=HW.out.size
       clear hx hgx hxo hm2 hbb
       generalize hxs:x.xs=xs at *
       clear hxs
       generalize x.A=xA at *
       generalize x.n=xn at *
       generalize x.c=xc at *
       go_wp2_with
        (at_builtin
         go_must (refine wpList_append_rd _ rfl (.tmp 31) (.tmp 32) _ rfl w.heap.size 3 i0 (.int i64 0) 1 8 Try.underlying30 hi0 hz0 hs0 hb0 rfl (by decide) (.slice A1 m c1) m ((catS (l.take j)).map (Value.int .i64)) rfl HM.out.2 B xA xn xc (xs.map (Value.int .i64)) rfl HRX.out ?c1 ?c2 ?c3 hwr ?_)
         case c1=>(intro u hu;obtain ⟨z,_,rfl⟩:=List.mem_map.1 hu;rfl)
         case c2=>unfold maxLen;omega
         case c3=>omega
         intro A8 c8 w8 hown8 hg8 _)
       have HM8:Hid (m+xn=(catS (l.take (j+1))).length/\w8.ownsRow w.heap.size 3 1 (.slice A8 (m+xn) c8) (m+xn) ((catS (l.take (j+1))).map (Value.int .i64))):=hid ⟨HM2.out.1,by rw [HM2.out.2,List.map_append];exact hown8⟩
       have HB8:Hid (Below w.heap.size w w8):=hid (HW.out.trans ⟨hg8.os,hg8.tape,hg8.output,hg8.size,fun q hq=>hg8.block q (by omega) (fun e=>by have:=(HM.out.2.lt q e.symm).1;omega)⟩)
       clear hown8 hg8
       go_wp2_with fail
       go_roundw
       case measure=>simp [intOf];omega
       case rel=>exact ⟨j+1,m+xn,c8,A8,by omega,by go_num,rfl,hmN2,HM8,HB8⟩
     . obtain rfl:j=k:=by omega
       have hmn:m=t:=by rw [HM.out.1,HN.out,List.take_of_length_le (by rw [<- HL.out];exact Nat.le_refl _)]
       subst hmn
       have HE:Hid (wr.ownsRow w.heap.size 3 1 (.slice A1 m c1) m ((catS l).map (Value.int .i64))):=hid (by have h:=HM.out.2;rw [List.take_of_length_le (by rw [<- HL.out];exact Nat.le_refl _)] at h;exact h)
       clear HM
       go_wp2_with fail
       go_ret
       exact ⟨A1,c1,rfl,HE,HW.out⟩
def seqRN (n:Nat):Code->Option Code
 | .seq a b=>match a with
   | .region k o f=>if k=n then some (.seq (.region k o f) b) else seqRN n b
   | a=>match seqRN n a with
     | some c=>some c
     | none=>seqRN n b
 | .block _ c=>seqRN n c
 | .loop c=>seqRN n c
 | .scope c=>seqRN n c
 | .cond _ a b=>match seqRN n a with
   | some c=>some c
   | none=>seqRN n b
 | _=>none
noncomputable def sy13:Code:=(Try.f198.body.bind (seqRN 13)).getD .skip
structure SyE (w wI:World) (B s hx kn:Nat) (nm:ByteArray) (A1:Option Addr) (n1 c1:Nat) (A2:Option Addr) (n2 c2:Nat) (A3:Option Addr) (n3 c3:Nat) (l3:List Int) (A4:Option Addr) (n4 c4:Nat) (l4:List Int) (OA:Option Addr) (on oc:Nat) (PA:Option Addr) (pn pc:Nat):Prop where
 st:StrSt w B s
 bx:Bk w hx 307 #[.string nm,.slice A1 n1 c1,.slice A2 n2 c2,.slice A3 n3 c3,.slice A4 n4 c4,.slice OA on oc,.slice PA pn pc]
 r3:RdY w 0 3 1 A3 n3 (l3.map (Value.int .i64))
 r4:RdY w 0 3 1 A4 n4 (l4.map (Value.int .i64))
 cap3:n3<=c3
 cap32:c3<=9223372036854775807
 cap4:n4<=c4
 cap42:c4<=9223372036854775807
 i3:∀ x∈l3,0<=x/\x<(kn:Int)
 i4:∀ x∈l4,0<=x/\x<(kn:Int)
 pos:1<=n3+n4
 few:n3+n4<=kn
 fq:Fq [s] wI w
 lx:wI.heap.size<=hx
 sz:wI.heap.size<=w.heap.size
theorem Kx.delF {w w':World} {B base n:Nat} {v:Value} {xs:List Value} {F:List Nat} (h:Fq F w w') (ho:w.ownsRow base 3 1 v n xs) (hF:∀ k∈F,v.ownBlock=some k) (hB:B<=base):Kx B [3] w w' :=
 ⟨h.size,fun b h1 h2=>h.low b h2 fun hm=>by have:=(ho.lt b (hF b hm)).1;omega,fun b t cs h1 h2=>(h.low b h1.lt fun hm=>own_ne ho h1 (fun e=>h2 (by rw [<- e];simp)) (hF b hm)).trans h1⟩
set_option maxHeartbeats 8000000 in
theorem sy13_any {x0 x1 x2 x3 x4 x5 x6 x8 x9 Aa Ab Ac Ad Ae Af Ag Ah Ai Aj Ak Al Am Ao Ap Aq Ar Au Av Aw Ax Ay Az A7 A9 Be Bl Bu Bv Bw B0 B1 B2 B3 B4 B5 B6 B7 B8 B9 Cg Ch Ci Cj Ck Cp Cq Cr Cs Cu Cw Cx Cy Cz C0 C1 C2 C3 C4 C5 C6 C7 C8 C9 Da Db Dc Dd De Dg Dh Di Dj Dk Dl Dm Dn Dp Dq Dr Ds Dt Du Dv Dw Dx Dy D0 D1 D3 D4 D5 D6 D7 D8 D9 Ee Ef Ei Ek El Em En Eo Es Et Eu Ev Ew Ex Ey Ez E0 E1 E2 E3 E4 E5 E6 E7 E8 E9 Fa Fb Ff Fg Fh Fi Fj Fk Fl Fm Fn Fp Fs Ft Fu Fv Fx Fy Fz F0 F1 F2 F3 F4 F5 F6 F7 F8 F9 Ga Gd Gi Gp Gr Gs Gt Gu Gv Gw Gx Gy Gz G0 G1 G2 G3 G4 G5 G6 G7 G8 G9 Hb Hc Hd:Value} {Q:Exit->Act->World->Prop} {wI w0:World} {B s hx kn:Nat} {nm:ByteArray} {A1 A2 A3 A4 OA PA:Option Addr} {n1 c1 n2 c2 n3 c3 n4 c4 on oc pn pc:Nat} {l1 l2 l3 l4:List Int}
 (hI:SyI w0 wI B s hx nm A1 n1 c1 l1 A2 n2 c2 l2 A3 n3 c3 l3 A4 n4 c4 l4 OA on oc PA pn pc) (hn:SyN kn n1 n2 n3 n4 l3 l4) (hB:B<=s) (hBb:B<=wI.heap.size) (hk:kn<=1000) (hk1:1<=kn)
 (hN:∀ (Jj Jk Jl Jm Jn Jo Jp Jq Jr Js Jt Ju:Value) (A1:Option Addr) (n1 c1:Nat) (A2:Option Addr) (n2 c2:Nat) (A3:Option Addr) (n3 c3:Nat) (l3:List Int) (A4:Option Addr) (n4 c4:Nat) (l4:List Int) (w':World),Hid (SyE w' wI B s hx kn nm A1 n1 c1 A2 n2 c2 A3 n3 c3 l3 A4 n4 c4 l4 OA on oc PA pn pc)->Q .normal ⟨#[x0,x1,x2,x3,x4,x5,x6,.pointer (some ⟨hx,0,none⟩),x8,x9,Aa,Ab,Ac,Ad,Ae,Af,Ag,Ah,Ai,Aj,Ak,Al,Am,Ao,Ap,Aq,Ar,Au,Av,Aw,Ax,Ay,Az,A7,A9,Be,Bl,Bu,Bv,Bw,B0,B1,B2,B3,B4,B5,B6,B7,B8,B9,Cg,Ch,Ci,Cj,Ck,Cp,Cq,Cr,Cs,Cu,Cw,Cx,Jj,Jk,Jl,Jm,Jn,Jo,Jp,Jq,Jr,Js,Jt,Ju,Da,Db,Dc,Dd,De,Dg,Dh,Di,Dj,Dk,Dl,Dm,Dn,Dp,Dq,Dr,Ds,Dt,Du,Dv,Dw,Dx,Dy,D0,D1,D3,D4,D5,D6,D7,D8,D9,Ee,Ef,Ei,Ek,El,Em,En,Eo,Es,Et,Eu,Ev,Ew,Ex,Ey,Ez,E0,E1,E2,E3,E4,E5,E6,E7,E8,E9,Fa,Fb,Ff,Fg,Fh,Fi,Fj,Fk,Fl,Fm,Fn,Fp,Fs,Ft,Fu,Fv,Fx,Fy,Fz,F0,F1,F2,F3,F4,F5,F6,F7,F8,F9,Ga,Gd,Gi,Gp,Gr,Gs,Gt,Gu,Gv,Gw,Gx,Gy,Gz,G0,G1,G2,G3,G4,G5,G6,G7,G8,G9,Hb,Hc,Hd],[]⟩ w') :
 Code.wp Try.prog sy13 Q ⟨#[x0,x1,x2,x3,x4,x5,x6,.pointer (some ⟨hx,0,none⟩),x8,x9,Aa,Ab,Ac,Ad,Ae,Af,Ag,Ah,Ai,Aj,Ak,Al,Am,Ao,Ap,Aq,Ar,Au,Av,Aw,Ax,Ay,Az,A7,A9,Be,Bl,Bu,Bv,Bw,B0,B1,B2,B3,B4,B5,B6,B7,B8,B9,Cg,Ch,Ci,Cj,Ck,Cp,Cq,Cr,Cs,Cu,Cw,Cx,Cy,Cz,C0,C1,C2,C3,C4,C5,C6,C7,C8,C9,Da,Db,Dc,Dd,De,Dg,Dh,Di,Dj,Dk,Dl,Dm,Dn,Dp,Dq,Dr,Ds,Dt,Du,Dv,Dw,Dx,Dy,D0,D1,D3,D4,D5,D6,D7,D8,D9,Ee,Ef,Ei,Ek,El,Em,En,Eo,Es,Et,Eu,Ev,Ew,Ex,Ey,Ez,E0,E1,E2,E3,E4,E5,E6,E7,E8,E9,Fa,Fb,Ff,Fg,Fh,Fi,Fj,Fk,Fl,Fm,Fn,Fp,Fs,Ft,Fu,Fv,Fx,Fy,Fz,F0,F1,F2,F3,F4,F5,F6,F7,F8,F9,Ga,Gd,Gi,Gp,Gr,Gs,Gt,Gu,Gv,Gw,Gx,Gy,Gz,G0,G1,G2,G3,G4,G5,G6,G7,G8,G9,Hb,Hc,Hd],[]⟩ w0:=by
 conv=>arg 2;whnf
 have HI:=hid hI
 have HN:=hid hn
 have p1:w0.cell? ⟨hx,1,none⟩=some (.slice A1 n1 c1):=hI.bx.cell 1
 clear hI hn
 by_cases h0:n1=0
 . have t0:((n1:Int) == 0)=true:=by simp [h0]
   have h34:n3=0/\n4=0:=by have:=HN.out.sum;omega
   obtain ⟨w1,hw1⟩:∃ z,z=w0.alloc (.cells #[.int i64 0] 3):=⟨_,rfl⟩
   obtain ⟨w2,hw2⟩:∃ z,z=w1.alloc (.cells #[.int i64 0] 3):=⟨_,rfl⟩
   obtain ⟨ga,hga⟩:∃ z,z=w0.heap.size:=⟨_,rfl⟩
   obtain ⟨gb,hgb⟩:∃ z,z=w1.heap.size:=⟨_,rfl⟩
   have HA2:Hid (Bk w2 ga 3 #[.int i64 0]):=hid (by rw [hw2,hw1,hga];exact (Bk.new _ _ _).alloc _)
   have HG2:Hid (Bk w2 gb 3 #[.int i64 0]):=hid (by rw [hw2,hgb];exact Bk.new _ _ _)
   have HB2:Hid (Below w0.heap.size w0 w2):=hid (by rw [hw2,hw1];exact Below.al (Below.al (Below.refl _ _) _) _)
   have HI2:Hid (SyI w2 wI B s hx nm A1 n1 c1 l1 A2 n2 c2 l2 A3 n3 c3 l3 A4 n4 c4 l4 OA on oc PA pn pc):=hid (HI.out.next (HI.out.st.below HB2.out (HI.out.st.lo hB)) (Fq.of_below HB2.out))
   have HLT:Hid (∀ k,(Value.slice A2 n2 c2).ownBlock=some k->k<w0.heap.size):=hid fun k hk=>(HI.out.rw.o2.lt k hk).2
   have HGE:Hid (w0.heap.size<=ga/\w0.heap.size<=gb):=hid (by rw [hgb,hw1,hga];simp)
   have p2:w2.cell? ⟨hx,2,none⟩=some (.slice A2 n2 c2):=HI2.out.bx.cell 2
   have HDL:=hid (del235_any HI2.out.rw.o2)
   have e1:w1.heap.size=w0.heap.size+1:=by rw [hw1];simp
   clear h0
   have HW:=hid (And.intro hw1 hw2)
   have HA:=hid (And.intro hga (show gb=w0.heap.size+1 by omega))
   clear hw1 hw2 hga hgb e1
   have p2':((w0.alloc (.cells #[.int i64 0] 3)).alloc (.cells #[.int i64 0] 3)).cell? ⟨hx,2,none⟩=some (.slice A2 n2 c2):=by rw [<- HW.out.1,<- HW.out.2];exact p2
   go_wp2_with fail
   rw [<- HW.out.1,<- HW.out.2,<- HA.out.2,<- HA.out.1]
   (with_reducible refine HDL.out.mono ?_)
   rintro e w3 ⟨⟨m,rfl,hm⟩,F,hF,hq3⟩
   have hkx:Kx B [3] w2 w3:=Kx.delF hq3 HI2.out.rw.o2 hF hBb
   have hnot:∀ k,w0.heap.size<=k->k ∉ F:=fun k hk hm=>by have:=HLT.out k (hF k hm);omega
   have HA3:Hid (Bk w3 ga 3 #[.int i64 0]):=hid ((hq3.low ga HA2.out.lt (hnot ga HGE.out.1)).trans HA2.out)
   have HG3:Hid (Bk w3 gb 3 #[.int i64 0]):=hid ((hq3.low gb HG2.out.lt (hnot gb HGE.out.2)).trans HG2.out)
   have HX3:Hid (Bk w3 hx 307 #[.string nm,.slice A1 n1 c1,.slice A2 n2 c2,.slice A3 n3 c3,.slice A4 n4 c4,.slice OA on oc,.slice PA pn pc]):=hid (hkx.bk HI2.out.bx (by decide))
   have HS3:Hid (StrSt w3 B s):=hid (HI2.out.st.kx hkx (Nat.le_refl _) (HI2.out.st.lo hB) (by decide))
   have HQ3:Hid (Fq [s] wI w3):=hid (HI2.out.fq.trans hq3 (fun k hk=>.inr (HI2.out.rw.o2.lt k (hF k hk)).1))
   have HZ3:Hid (wI.heap.size<=w3.heap.size):=hid (Nat.le_trans HI2.out.sz hq3.size)
   clear hkx hnot hF hq3 HDL p1 p2 p2'
   have q1:w3.cell? ⟨hx,1,none⟩=some (.slice A1 n1 c1):=HX3.out.cell 1
   have q2:w3.cell? ⟨hx,2,none⟩=some (.slice A2 n2 c2):=HX3.out.cell 2
   have q4:w3.cell? ⟨hx,4,none⟩=some (.slice A4 n4 c4):=HX3.out.cell 4
   have f1:=HX3.out.frozen 1
   have f2:=HX3.out.frozen 2
   have f4:=HX3.out.frozen 4
   have hBx:B<=hx:=Nat.le_trans hBb HI.out.lx
   have HF:Hid (SyE (((w3.setCell ⟨hx,1,none⟩ (.slice (some ⟨ga,0,none⟩) 1 1)).setCell ⟨hx,4,none⟩ (.slice (some ⟨gb,0,none⟩) 1 1)).setCell ⟨hx,2,none⟩ (.slice A2 m c2)) wI B s hx kn nm (some ⟨ga,0,none⟩) 1 1 A2 m c2 A3 0 c3 [] (some ⟨gb,0,none⟩) 1 1 [0] OA on oc PA pn pc):=hid (by
    have hk3:=Kx.set3 (B:=B) (F:=[307]) Kx.refl HX3.out hBx (by simp) 1 4 2 (.slice (some ⟨ga,0,none⟩) 1 1) (.slice (some ⟨gb,0,none⟩) 1 1) (.slice A2 m c2)
    have hk30:=hk3.mono (Nat.zero_le _) (fun _ h=>h)
    have hgx:gb≠hx:=HG3.out.ne_ HX3.out (by decide)
    refine ⟨HS3.out.kx hk3 (Nat.le_refl _) (HS3.out.lo hB) (by decide),?_,RdY.nil_ _,?_,Nat.zero_le _,(own_cap2 HI2.out.rw.o3).2,Nat.le_refl _,by omega,(fun x hx=>by cases hx),(fun x hx=>?_),by omega,by omega,((HQ3.out.set (.inr HI.out.lx) 1 _).set (.inr HI.out.lx) 4 _).set (.inr HI.out.lx) 2 _,HI.out.lx,by simpa [World.setCell] using HZ3.out⟩
    . have h:=((HX3.out.set_ 1 (.slice (some ⟨ga,0,none⟩) 1 1)).set_ 4 (.slice (some ⟨gb,0,none⟩) 1 1)).set_ 2 (.slice A2 m c2)
      rw [h34.1] at h
      simpa using h
    . refine RdY.of_bk (hk30.bk HG3.out (by decide)) (by simp) (fun j u hu=>?_)
      cases j with
      | zero=>simpa using hu
      | succ j=>simp at hu
    . rw [show x=0 by simpa using hx];omega)
   clear HI HI2 HA2 HG2 HA3 HG3 HX3 HS3 HQ3
   go_wp2_with fail
   (try simp only [Exit.inBlock,Exit.then])
   first
    | exact HF
    | (apply hN;exact HF)
 . have t0:((n1:Int) == 0)=false:=by simp [h0]
   have HF:Hid (SyE w0 wI B s hx kn nm A1 n1 c1 A2 n2 c2 A3 n3 c3 l3 A4 n4 c4 l4 OA on oc PA pn pc):=hid ⟨HI.out.st,HI.out.bx,RdY.of_own HI.out.rw.o3,RdY.of_own HI.out.rw.o4,(own_cap2 HI.out.rw.o3).1,(own_cap2 HI.out.rw.o3).2,(own_cap2 HI.out.rw.o4).1,(own_cap2 HI.out.rw.o4).2,HN.out.i3,HN.out.i4,by have:=HN.out.sum;omega,by have h1:=HN.out.sum;have h2:=HN.out.b1;omega,HI.out.fq,HI.out.lx,HI.out.sz⟩
   clear h0
   go_wp2_with fail
   (try simp only [Exit.inBlock,Exit.then])
   first
    | exact HF
    | (apply hN;exact HF)
theorem dfn:Df none none:=fun _ _ _ h=>by cases h
set_option maxHeartbeats 16000000 in
theorem system_any {w:World} {B s n kn kc:Nat} {kA:Option Addr} {ks:List Kd} (hst:StrSt w B s) (hB:B<=s) (hkd:KsY w 0 kA kn kc ks) (hone:∀ k∈ks,oneF k.nm k.fds=0) (hfd:∀ k∈ks,1<=k.n) (hkn:kn<=16) (hk1:1<=kn) (hn:n<6) :
 Calls Try.prog 198 #[.slice kA kn kc,.pointer (some ⟨s,0,none⟩),.int i64 (n:Int)] w fun e w'=>∃ (nm:ByteArray) (A1 A2 A3 A4 A5 A6:Option Addr) (n1 c1 n2 c2 n3 c3 n4 c4 n5 c5 n6 c6:Nat),e=.returned (.agg #[.string nm,.slice A1 n1 c1,.slice A2 n2 c2,.slice A3 n3 c3,.slice A4 n4 c4,.slice A5 n5 c5,.slice A6 n6 c6])/\StrSt w' B s/\Fq [s] w w':=by
 obtain ⟨nm,hnm⟩:∃ nm,(#[.string ⟨#[111,110,101]⟩,.string ⟨#[116,119,111]⟩,.string ⟨#[116,104,114,101,101]⟩,.string ⟨#[102,111,117,114]⟩,.string ⟨#[102,105,118,101]⟩,.string ⟨#[115,105,120]⟩]:Array Value)[n]?=some (.string nm):=by
  match n,hn with
  | 0,_=>exact ⟨_,rfl⟩
  | 1,_=>exact ⟨_,rfl⟩
  | 2,_=>exact ⟨_,rfl⟩
  | 3,_=>exact ⟨_,rfl⟩
  | 4,_=>exact ⟨_,rfl⟩
  | 5,_=>exact ⟨_,rfl⟩
 have hget:([.string ⟨#[111,110,101]⟩,.string ⟨#[116,119,111]⟩,.string ⟨#[116,104,114,101,101]⟩,.string ⟨#[102,111,117,114]⟩,.string ⟨#[102,105,118,101]⟩,.string ⟨#[115,105,120]⟩]:List Value)[n]'(by simpa using hn)=.string nm:=by
  have h:=hnm
  rw [Array.getElem?_eq_getElem (by simpa using hn)] at h
  injection h with h
 obtain ⟨wI,hwI⟩:∃ z,z=(((w.alloc (.cells #[.slice kA kn kc] 22)).alloc (.cells #[.pointer (some ⟨s,0,none⟩)] 187)).alloc (.cells #[.string ⟨#[]⟩,.slice none 0 0,.slice none 0 0,.slice none 0 0,.slice none 0 0,.slice none 0 0,.slice none 0 0] 307)).alloc (.cells #[.string ⟨#[111,110,101]⟩,.string ⟨#[116,119,111]⟩,.string ⟨#[116,104,114,101,101]⟩,.string ⟨#[102,111,117,114]⟩,.string ⟨#[102,105,118,101]⟩,.string ⟨#[115,105,120]⟩] 9):=⟨_,rfl⟩
 obtain ⟨w0,hw0⟩:∃ z,z=wI.alloc (.cells #[.string nm,.slice none 0 0,.slice none 0 0,.slice none 0 0,.slice none 0 0,.slice none 0 0,.slice none 0 0] 307):=⟨_,rfl⟩
 have hbI:Below w.heap.size w wI:=by rw [hwI];exact Below.al (Below.al (Below.al (Below.al (Below.refl _ _) _) _) _) _
 have hszI:wI.heap.size=w.heap.size+4:=by rw [hwI];simp
 have HBK:Hid (Bk wI w.heap.size 22 #[.slice kA kn kc]):=hid (by rw [hwI];exact (((Bk.new _ _ _).alloc _).alloc _).alloc _)
 have HBP:Hid (Bk wI (w.heap.size+1) 187 #[.pointer (some ⟨s,0,none⟩)]):=hid (by rw [hwI];exact ((Bk.two _ _ _ _).alloc _).alloc _)
 have HBR:Hid (Bk wI (w.heap.size+2) 307 #[.string ⟨#[]⟩,.slice none 0 0,.slice none 0 0,.slice none 0 0,.slice none 0 0,.slice none 0 0,.slice none 0 0]):=hid (by
  rw [hwI]
  have h:=Bk.new ((w.alloc (.cells #[.slice kA kn kc] 22)).alloc (.cells #[.pointer (some ⟨s,0,none⟩)] 187)) 307 #[.string ⟨#[]⟩,.slice none 0 0,.slice none 0 0,.slice none 0 0,.slice none 0 0,.slice none 0 0,.slice none 0 0]
  exact Bk.alloc (by simpa using h) _)
 have HLI:Hid ((((w.alloc (.cells #[.slice kA kn kc] 22)).alloc (.cells #[.pointer (some ⟨s,0,none⟩)] 187)).alloc (.cells #[.string ⟨#[]⟩,.slice none 0 0,.slice none 0 0,.slice none 0 0,.slice none 0 0,.slice none 0 0,.slice none 0 0] 307)).alloc (.cells #[.string ⟨#[111,110,101]⟩,.string ⟨#[116,119,111]⟩,.string ⟨#[116,104,114,101,101]⟩,.string ⟨#[102,111,117,114]⟩,.string ⟨#[102,105,118,101]⟩,.string ⟨#[115,105,120]⟩] 9)=wI/\wI.cell? ⟨w.heap.size+3,n,none⟩=some (.string nm)):=hid ⟨hwI.symm,by
  rw [hwI]
  have h:=Bk.new (((w.alloc (.cells #[.slice kA kn kc] 22)).alloc (.cells #[.pointer (some ⟨s,0,none⟩)] 187)).alloc (.cells #[.string ⟨#[]⟩,.slice none 0 0,.slice none 0 0,.slice none 0 0,.slice none 0 0,.slice none 0 0,.slice none 0 0] 307)) 9 #[.string ⟨#[111,110,101]⟩,.string ⟨#[116,119,111]⟩,.string ⟨#[116,104,114,101,101]⟩,.string ⟨#[102,111,117,114]⟩,.string ⟨#[102,105,118,101]⟩,.string ⟨#[115,105,120]⟩]
  exact (Bk.cell (by simpa using h) n).trans hnm⟩
 have HST:Hid (StrSt wI B s/\B<=w.heap.size):=hid ⟨hst.below hbI (hst.lo hB),hst.lo hB⟩
 have HBI:=hid hbI
 have HKI:Hid (KsY wI 0 kA kn kc ks):=hid (hkd.keep (F:=[]) (Kx.of_below (B:=0) hbI) (by simp) (by simp))
 have HB0:Hid (Below wI.heap.size wI w0):=hid (by rw [hw0];exact (Below.refl _ _).alloc (Nat.le_refl _) _)
 have HX0:Hid (Bk w0 wI.heap.size 307 #[.string nm,.slice none 0 0,.slice none 0 0,.slice none 0 0,.slice none 0 0,.slice none 0 0,.slice none 0 0]):=hid (by rw [hw0];exact Bk.new _ _ _)
 have HON:=hid hone
 have HFD:Hid (∀ k∈ks,1<=k.n/\k.n<=8):=hid fun k hk=>⟨hfd k hk,by rw [(hkd.ok k hk).len];exact oneF_len (hone k hk)⟩
 have HNX:=hid next_any
 have hkc1:=hkd.cap
 have hkc2:=hkd.cap2
 have hnz:(n:Int)<6:=by omega
 have hnz0:(0:Int)<=n:=by omega
 have hss:s<w.heap.size:=by obtain ⟨cs,h1⟩:=hst.bk;exact h1.lt
 clear hst hkd hone hfd hnm hbI
 have k3:((((w.alloc (.cells #[.slice kA kn kc] 22)).alloc (.cells #[.pointer (some ⟨s,0,none⟩)] 187)).alloc (.cells #[.string ⟨#[]⟩,.slice none 0 0,.slice none 0 0,.slice none 0 0,.slice none 0 0,.slice none 0 0,.slice none 0 0] 307)).alloc (.cells #[.string ⟨#[111,110,101]⟩,.string ⟨#[116,119,111]⟩,.string ⟨#[116,104,114,101,101]⟩,.string ⟨#[102,111,117,114]⟩,.string ⟨#[102,105,118,101]⟩,.string ⟨#[115,105,120]⟩] 9)).cell? ⟨w.heap.size+3,n,none⟩=some (.string nm):=by rw [HLI.out.1];exact HLI.out.2
 have HWI:=hid hwI
 have HW0:=hid hw0
 clear hwI hw0
 have k3b:((((w.alloc (.cells #[.slice kA kn kc] 22)).alloc (.cells #[.pointer (some ⟨s,0,none⟩)] 187)).alloc (.cells #[.string ⟨#[]⟩,.slice none 0 0,.slice none 0 0,.slice none 0 0,.slice none 0 0,.slice none 0 0,.slice none 0 0] 307)).alloc (.cells #[.string ⟨#[111,110,101]⟩,.string ⟨#[116,119,111]⟩,.string ⟨#[116,104,114,101,101]⟩,.string ⟨#[102,111,117,114]⟩,.string ⟨#[102,105,118,101]⟩,.string ⟨#[115,105,120]⟩] 9)).cell? ⟨w.heap.size+2+1,n,none⟩=some (.string nm):=k3
 go_enter Try.func198,Try.ntmps198
 go_upto_region 2 with fail
 rw [<- HWI.out,<- HW0.out]
 clear k3 k3b hget
 have HEQ:Hid (w.heap.size+1+1+1+1=wI.heap.size/\w.heap.size+3+1=wI.heap.size/\w.heap.size+2+1+1=wI.heap.size/\w.heap.size+4=wI.heap.size/\w.heap.size+1+1=w.heap.size+2):=hid (by omega)
 (try rw [HEQ.out.1])
 (try rw [HEQ.out.2.1])
 (try rw [HEQ.out.2.2.1])
 (try rw [HEQ.out.2.2.2.1])
 (try rw [HEQ.out.2.2.2.2])
 obtain ⟨hx,hhx⟩:∃ z,z=wI.heap.size:=⟨_,rfl⟩
 obtain ⟨hk,hhk⟩:∃ z,z=w.heap.size:=⟨_,rfl⟩
 obtain ⟨hp,hhp⟩:∃ z,z=w.heap.size+1:=⟨_,rfl⟩
 obtain ⟨hr,hhr⟩:∃ z,z=w.heap.size+2:=⟨_,rfl⟩
 rw [<- hhx,<- hhr,<- hhp,<- hhk]
 rw [<- hhk] at HBK
 rw [<- hhp] at HBP
 rw [<- hhr] at HBR
 rw [<- hhx] at HX0
 have HL:Hid (wI.heap.size<=hx/\w.heap.size<=hr/\hk<wI.heap.size/\hp<wI.heap.size/\hr<wI.heap.size/\hk≠s/\hp≠s/\hr≠s/\B<=wI.heap.size/\B<=hr):=hid (by have:=HST.out.2;omega)
 clear hhx hhk hhp hhr hszI HEQ HWI HW0 HLI
 have HI0:Hid (SyI w0 wI B s hx nm none 0 0 [] none 0 0 [] none 0 0 [] none 0 0 [] none 0 0 none 0 0):=hid ⟨HST.out.1.below HB0.out (HST.out.1.lo hB),HX0.out,⟨World.ownsRow_nil _ _ _ _,World.ownsRow_nil _ _ _ _,World.ownsRow_nil _ _ _ _,World.ownsRow_nil _ _ _ _,dfn,dfn,dfn,dfn,dfn,dfn⟩,Fq.of_below HB0.out,HL.out.1,HB0.out.size⟩
 have r0:w0.cell? ⟨hk,0,none⟩=some (.slice kA kn kc):=(HBK.out.below HB0.out HBK.out.lt).cell 0
 go_upto_block 0 with fail
 clear r0
 refine sy0_any HI0.out HBP.out HST.out.1 hB HL.out.2.2.2.2.2.2.2.2.1 (by omega) ?_
 intros
 rename_i A1 n1 c1 l1 A2 n2 c2 l2 A3 n3 c3 l3 A4 n4 c4 l4 w1 H1
 clear HI0 HX0 HB0
 first
  | (go_step;refine sy13_any H1.out.2 H1.out.1 hB HL.out.2.2.2.2.2.2.2.2.1 (by omega) hk1 ?_)
  | (go_step;go_step;refine sy13_any H1.out.2 H1.out.1 hB HL.out.2.2.2.2.2.2.2.2.1 (by omega) hk1 ?_)
  | (go_step;go_step;go_step;refine sy13_any H1.out.2 H1.out.1 hB HL.out.2.2.2.2.2.2.2.2.1 (by omega) hk1 ?_)
  | (go_step;go_step;go_step;go_step;refine sy13_any H1.out.2 H1.out.1 hB HL.out.2.2.2.2.2.2.2.2.1 (by omega) hk1 ?_)
  | (go_step;go_step;go_step;go_step;go_step;refine sy13_any H1.out.2 H1.out.1 hB HL.out.2.2.2.2.2.2.2.2.1 (by omega) hk1 ?_)
 clear H1
 intros
 rename_i A1 n1 c1 A2 n2 c2 A3 n3 c3 l3 A4 n4 c4 l4 w2 HE
 have p3:w2.cell? ⟨hx,3,none⟩=some (.slice A3 n3 c3):=HE.out.bx.cell 3
 have p4:w2.cell? ⟨hx,4,none⟩=some (.slice A4 n4 c4):=HE.out.bx.cell 4
 obtain ⟨w3,hw3⟩:∃ z,z=w2.alloc (.cells #[.slice A3 n3 c3,.slice A4 n4 c4] 30):=⟨_,rfl⟩
 obtain ⟨gl,hgl⟩:∃ z,z=w2.heap.size:=⟨_,rfl⟩
 have HB3:Hid (Below w2.heap.size w2 w3):=hid (by rw [hw3];exact (Below.refl _ _).alloc (Nat.le_refl _) _)
 have HG3:Hid (Bk w3 gl 30 #[.slice A3 n3 c3,.slice A4 n4 c4]):=hid (by rw [hw3,hgl];exact Bk.new _ _ _)
 have HLN:Hid (n3=l3.length/\n4=l4.length):=hid ⟨by have:=HE.out.r3.1;simpa using this.symm,by have:=HE.out.r4.1;simpa using this.symm⟩
 have HCT:Hid (Calls Try.prog 28 #[.slice (some ⟨gl,0,none⟩) 2 2] w3 fun e w'=>∃ (A':Option Addr) (c':Nat),e=.returned (.slice A' (l3++l4).length c')/\Hid (w'.ownsRow w3.heap.size 3 1 (.slice A' (l3++l4).length c') (l3++l4).length ((l3++l4).map (Value.int .i64)))/\Below w3.heap.size w3 w'):=hid (by
  have e:catS [⟨A3,n3,c3,l3⟩,⟨A4,n4,c4,l4⟩]=l3++l4:=by simp [catS]
  have h:=concat_any (w:=w3) (B:=w3.heap.size) (n:=2) (c:=2) (A:=some ⟨gl,0,none⟩) (l:=[⟨A3,n3,c3,l3⟩,⟨A4,n4,c4,l4⟩]) ⟨rfl,fun _=>⟨gl,0,rfl,HG3.out.lt,fun j u hu=>by rw [Nat.zero_add];exact (HG3.out.cell j).trans (by simpa [sgCs] using hu)⟩⟩ rfl (Nat.le_refl _) (by omega) (fun x hx=>?_) (Nat.le_refl _) (by rw [e,List.length_append];have h1:=HE.out.pos;have h2:=HLN.out;omega) (by rw [e,List.length_append];have h1:=HE.out.few;have h2:=HLN.out;omega)
  . rw [e] at h;exact h
  . have hk0:=Kx.of_below (B:=0) (F:=[]) HB3.out
    simp only [List.mem_cons,List.not_mem_nil,or_false] at hx
    rcases hx with rfl | rfl
    . exact ⟨(HE.out.r3.keep hk0 (by simp)).rd,HLN.out.1,HE.out.cap3,HE.out.cap32⟩
    . exact ⟨(HE.out.r4.keep hk0 (by simp)).rd,HLN.out.2,HE.out.cap4,HE.out.cap42⟩)
 obtain ⟨sn,hsn⟩:∃ z,z=(l3++l4).length:=⟨_,rfl⟩
 rw [<- hsn] at HCT
 have HSN:Hid (sn=(l3++l4).length):=hid hsn
 have hsn1:0<sn:=by have h1:=HE.out.pos;have h2:=HLN.out;rw [hsn,List.length_append];omega
 have hsn2:sn<=1000:=by have h1:=HE.out.few;have h2:=HLN.out;rw [hsn,List.length_append];omega
 clear hsn
 go_wp2_with fail
 rw [<- hw3,<- hgl]
 clear hw3 hgl p3 p4
 (with_reducible refine HCT.out.mono ?_)
 rintro e w4 ⟨SA,sc,rfl,hown4,hb4⟩
 obtain ⟨w5,hw5⟩:∃ z,z=w4.alloc (.cells #[.slice SA sn sc] 30):=⟨_,rfl⟩
 obtain ⟨hs,hhs⟩:∃ z,z=w4.heap.size:=⟨_,rfl⟩
 have HB5:Hid (Below w2.heap.size w2 w5):=hid (by rw [hw5];exact (HB3.out.trans (hb4.mono HB3.out.size)).alloc (by have h1:=HB3.out.size;have h2:=hb4.size;omega) _)
 have HIO:Hid (OpI w5 wI B s hp hs hk SA sn sc (l3++l4) kA kn kc ks hx nm A1 n1 c1 A2 n2 c2 A3 n3 c3 A4 n4 c4 l4 none 0 0 [] none 0 0):=hid (by
  have hk0:Kx 0 [] w2 w5:=Kx.of_below HB5.out
  have hfq:Fq [s] wI w5:=HE.out.fq.trans (Fq.of_below HB5.out) (SubF.refl _ _)
  have hlow:∀ g t cs,Bk wI g t cs->g≠s->Bk w5 g t cs:=fun g t cs h hne=>(hfq.low g h.lt (by simp;exact hne)).trans h
  have hkw:Kx 0 [189] wI w5:=Kx.fq hfq HST.out.1 (Nat.zero_le _)
  exact ⟨⟨HE.out.st.below HB5.out (HE.out.st.lo hB),hlow _ _ _ HBP.out HL.out.2.2.2.2.2.2.1,by rw [hw5,hhs];exact Bk.new _ _ _,hlow _ _ _ HBK.out HL.out.2.2.2.2.2.1,by rw [hw5];exact (RdY.of_own hown4.out).keep (F:=[]) ((Kx.refl (B:=0)).alloc _) (by simp),(own_cap2 hown4.out).1,(own_cap2 hown4.out).2,hsn1,hsn2,fun x hx=>by rcases List.mem_append.1 hx with h | h;exact HE.out.i3 x h;exact HE.out.i4 x h,HKI.out.keep hkw (by decide) (by decide),HFD.out⟩,
   hk0.bk HE.out.bx (by simp),HE.out.r4.keep hk0 (by simp),HE.out.cap4,HE.out.cap42,HE.out.i4,by have:=HE.out.few;omega,World.ownsRow_nil _ _ _ _,hfq,HE.out.lx,Nat.le_trans HE.out.sz HB5.out.size⟩)
 have HRR:Hid (∀ wz,Fq [s] wI wz->Bk wz hr 307 #[.string ⟨#[]⟩,.slice none 0 0,.slice none 0 0,.slice none 0 0,.slice none 0 0,.slice none 0 0,.slice none 0 0]):=hid fun wz hq=>(hq.low hr HBR.out.lt (by simp;exact HL.out.2.2.2.2.2.2.2.1)).trans HBR.out
 have p0:w5.cell? ⟨hp,0,none⟩=some (.pointer (some ⟨s,0,none⟩)):=HIO.out.arg.bp.cell 0
 clear hown4 hb4 HE HCT HG3 HB3 HB5
 go_upto_region 17 with fail
 rw [<- hw5,<- hhs]
 clear hw5 hhs
 go_wp2_with fail
 (with_reducible refine (HNX.out s B 6 _ HIO.out.arg.st hB (by omega) (by omega)).mono ?_)
 rintro e w6 ⟨N,rfl,hN0,hN1,hst6,hg6⟩
 obtain ⟨N,rfl⟩:∃ M:Nat,N=M:=⟨N.toNat,by omega⟩
 have HIN:Hid (OpI w6 wI B s hp hs hk SA sn sc (l3++l4) kA kn kc ks hx nm A1 n1 c1 A2 n2 c2 A3 n3 c3 A4 n4 c4 l4 none 0 0 [] none 0 0):=hid (HIO.out.next hst6 (Fq.refl.grown hg6 fun g hg=>.inl (by injection hg with hg;simp [hg])))
 have hN6:N<6:=by omega
 clear hst6 hg6 HIO p0 hN0 hN1
 obtain ⟨xs,hxs⟩:∃ xs,xs=l3++l4:=⟨_,rfl⟩
 rw [<- hxs] at HIN HSN
 clear hxs
 go_wp2_with fail
 go_loopw [83] (fun jv wx=>∃ (i oc:Nat) (OA:Option Addr) (os:List Value) (PA:Option Addr) (pn pc:Nat),i<=N/\jv=.int i64 i/\Hid (OpI wx wI B s hp hs hk SA sn sc xs kA kn kc ks hx nm A1 n1 c1 A2 n2 c2 A3 n3 c3 A4 n4 c4 l4 OA i oc os PA pn pc)) (fun jv _=>N-(intOf jv).toNat)
 case atStart=>exact ⟨0,0,none,[],none,0,0,Nat.zero_le _,rfl,HIN⟩
 case round =>
  clear HIN
  obtain ⟨i,oc,OA,os,PA,pn,pc,hi,rfl,HV⟩:=hrel
  by_cases hlt:i<N
  . have hiz:(i:Int)<N:=by omega
    go_upto_if 84 with fail
    first
     | (go_step;refine syOp_any HV.out hB HL.out.2.2.2.2.2.2.2.2.1 HON.out hkn hk1 (by omega) ?_)
     | (go_step;go_step;refine syOp_any HV.out hB HL.out.2.2.2.2.2.2.2.2.1 HON.out hkn hk1 (by omega) ?_)
     | (go_step;go_step;go_step;refine syOp_any HV.out hB HL.out.2.2.2.2.2.2.2.2.1 HON.out hkn hk1 (by omega) ?_)
     | (go_step;go_step;go_step;go_step;refine syOp_any HV.out hB HL.out.2.2.2.2.2.2.2.2.1 HON.out hkn hk1 (by omega) ?_)
     | (go_step;go_step;go_step;go_step;go_step;refine syOp_any HV.out hB HL.out.2.2.2.2.2.2.2.2.1 HON.out hkn hk1 (by omega) ?_)
     | (go_step;go_step;go_step;go_step;go_step;go_step;refine syOp_any HV.out hB HL.out.2.2.2.2.2.2.2.2.1 HON.out hkn hk1 (by omega) ?_)
     | (go_step;go_step;go_step;go_step;go_step;go_step;go_step;refine syOp_any HV.out hB HL.out.2.2.2.2.2.2.2.2.1 HON.out hkn hk1 (by omega) ?_)
    intros
    rename_i OA2 oc2 os2 PA2 pn2 pc2 w7 H7
    clear HV
    go_wp2_with fail
    go_roundw
    case rel=>first | exact ⟨i+1,oc2,OA2,os2,PA2,pn2,pc2,by omega,by go_num,H7⟩ | ((repeat apply Exists.intro);(refine And.intro ?_ ?_);rotate_left;(focus (repeat' first | exact rfl | apply And.intro));exact ⟨i+1,oc2,OA2,os2,PA2,pn2,pc2,by omega,by go_num,H7⟩)
    case measure=>simp [intOf];omega
  . obtain rfl:N=i:=by omega
    have b0:wr.cell? ⟨hx,0,none⟩=some (.string nm):=HV.out.bx.cell 0
    have b1:wr.cell? ⟨hx,1,none⟩=some (.slice A1 n1 c1):=HV.out.bx.cell 1
    have b2:wr.cell? ⟨hx,2,none⟩=some (.slice A2 n2 c2):=HV.out.bx.cell 2
    have b3:wr.cell? ⟨hx,3,none⟩=some (.slice A3 n3 c3):=HV.out.bx.cell 3
    have b4:wr.cell? ⟨hx,4,none⟩=some (.slice A4 n4 c4):=HV.out.bx.cell 4
    have b5:wr.cell? ⟨hx,5,none⟩=some (.slice OA N oc):=HV.out.bx.cell 5
    have b6:wr.cell? ⟨hx,6,none⟩=some (.slice PA pn pc):=HV.out.bx.cell 6
    have hR:=HRR.out wr HV.out.fq
    have z0:wr.cell? ⟨hr,0,none⟩=some (.string ⟨#[]⟩):=hR.cell 0
    have z1:wr.cell? ⟨hr,1,none⟩=some (.slice none 0 0):=hR.cell 1
    have z2:wr.cell? ⟨hr,2,none⟩=some (.slice none 0 0):=hR.cell 2
    have z3:wr.cell? ⟨hr,3,none⟩=some (.slice none 0 0):=hR.cell 3
    have z4:wr.cell? ⟨hr,4,none⟩=some (.slice none 0 0):=hR.cell 4
    have z5:wr.cell? ⟨hr,5,none⟩=some (.slice none 0 0):=hR.cell 5
    have z6:wr.cell? ⟨hr,6,none⟩=some (.slice none 0 0):=hR.cell 6
    have y0:=hR.frozen 0
    have y1:=hR.frozen 1
    have y2:=hR.frozen 2
    have y3:=hR.frozen 3
    have y4:=hR.frozen 4
    have y5:=hR.frozen 5
    have y6:=hR.frozen 6
    have HFIN:Hid (∀ V0 V1 V2 V3 V4 V5 V6,StrSt (((((((wr.setCell ⟨hr,0,none⟩ V0).setCell ⟨hr,1,none⟩ V1).setCell ⟨hr,2,none⟩ V2).setCell ⟨hr,3,none⟩ V3).setCell ⟨hr,4,none⟩ V4).setCell ⟨hr,5,none⟩ V5).setCell ⟨hr,6,none⟩ V6) B s/\Fq [s] w (((((((wr.setCell ⟨hr,0,none⟩ V0).setCell ⟨hr,1,none⟩ V1).setCell ⟨hr,2,none⟩ V2).setCell ⟨hr,3,none⟩ V3).setCell ⟨hr,4,none⟩ V4).setCell ⟨hr,5,none⟩ V5).setCell ⟨hr,6,none⟩ V6)):=hid fun V0 V1 V2 V3 V4 V5 V6=>by
     have hBr:=HL.out.2.2.2.2.2.2.2.2.2
     have hwr:=HL.out.2.1
     have hk7:Kx B [307] wr (((((((wr.setCell ⟨hr,0,none⟩ V0).setCell ⟨hr,1,none⟩ V1).setCell ⟨hr,2,none⟩ V2).setCell ⟨hr,3,none⟩ V3).setCell ⟨hr,4,none⟩ V4).setCell ⟨hr,5,none⟩ V5).setCell ⟨hr,6,none⟩ V6):=(((((((Kx.refl.set hR hBr (by simp) 0 V0).set (hR.set_ 0 V0) hBr (by simp) 1 V1).set ((hR.set_ 0 V0).set_ 1 V1) hBr (by simp) 2 V2).set (((hR.set_ 0 V0).set_ 1 V1).set_ 2 V2) hBr (by simp) 3 V3).set ((((hR.set_ 0 V0).set_ 1 V1).set_ 2 V2).set_ 3 V3) hBr (by simp) 4 V4).set (((((hR.set_ 0 V0).set_ 1 V1).set_ 2 V2).set_ 3 V3).set_ 4 V4) hBr (by simp) 5 V5).set ((((((hR.set_ 0 V0).set_ 1 V1).set_ 2 V2).set_ 3 V3).set_ 4 V4).set_ 5 V5) hBr (by simp) 6 V6)
     have hq0:Fq [s] w wr:=(Fq.of_below HBI.out).trans HV.out.fq (SubF.refl _ _)
     exact ⟨HV.out.arg.st.kx hk7 (Nat.le_refl _) (HV.out.arg.st.lo hB) (by decide),(((((((hq0.set (.inr hwr) 0 V0).set (.inr hwr) 1 V1).set (.inr hwr) 2 V2).set (.inr hwr) 3 V3).set (.inr hwr) 4 V4).set (.inr hwr) 5 V5).set (.inr hwr) 6 V6)⟩
    clear hR HV HRR HBR HBP HBK
    go_wp2_with fail
    (try simp only [Exit.inBlock,Exit.then])
    refine bodyPost_ret (v:=.agg #[.string nm,.slice A1 n1 c1,.slice A2 n2 c2,.slice A3 n3 c3,.slice A4 n4 c4,.slice OA N oc,.slice PA pn pc]) ?_ rfl ⟨nm,A1,A2,A3,A4,OA,PA,n1,c1,n2,c2,n3,c3,n4,c4,N,oc,pn,pc,rfl,(HFIN.out _ _ _ _ _ _ _).1,(HFIN.out _ _ _ _ _ _ _).2⟩
    rw [results_c1 rfl]
    go_simp
end Go.Proofs.Ytnidcmhfbkdioaa
