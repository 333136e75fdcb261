/-
  tourmake.system: the loop over kinds. Conditions: what is read can be read.
-/
import Derived.Test.YtnidcmhfbkdioaaSw27
namespace Go.Proofs.Ytnidcmhfbkdioaa
open Go.RowKit
open Go.IntKind (i64)
open Go.Lib (hid)
set_option maxRecDepth 100000
noncomputable def sy0:Code:=(Try.f198.body.bind (blkN 0)).getD .skip
structure SyI (w wI:World) (B s hx:Nat) (nm:ByteArray) (A1:Option Addr) (n1 c1:Nat) (l1:List Int) (A2:Option Addr) (n2 c2:Nat) (l2:List Int) (A3:Option Addr) (n3 c3:Nat) (l3:List Int) (A4:Option Addr) (n4 c4:Nat) (l4:List Int) (OA:Option Addr) (on oc:Nat) (PA:Option Addr) (pn pc:Nat):Prop where
 st:StrSt w B s
 bx:Bk w hx 307 #[.string nm,.slice A1 n1 c1,.slice A2 n2 c2,.slice A3 n3 c3,.slice A4 n4 c4,.slice OA on oc,.slice PA pn pc]
 rw:SyR w wI.heap.size A1 n1 c1 l1 A2 n2 c2 l2 A3 n3 c3 l3 A4 n4 c4 l4
 fq:Fq [s] wI w
 lx:wI.heap.size<=hx
 sz:wI.heap.size<=w.heap.size
structure SyN (kn n1 n2 n3 n4:Nat) (l3 l4:List Int):Prop where
 sum:n1=n3+n4
 b1:n1<=kn
 b2:n2<=kn
 i3:∀ x∈l3,0<=x/\x<(kn:Int)
 i4:∀ x∈l4,0<=x/\x<(kn:Int)
section
variable {i n1 n2 n3 n4:Nat} {l3 l4:List Int}
theorem inn_up {l:List Int} (h:∀ x∈l,0<=x/\x<(i:Int)):∀ x∈l,0<=x/\x<((i+1:Nat):Int):=fun x hx=>by have:=h x hx;omega
theorem inn_snoc {l:List Int} (h:∀ x∈l,0<=x/\x<(i:Int)):∀ x∈l++[(i:Int)],0<=x/\x<((i+1:Nat):Int):=fun x hx=>by
 rcases List.mem_append.1 hx with hx | hx
 . have:=h x hx;omega
 . rw [show x=(i:Int) by simpa using hx];omega
theorem SyN.add0 (h:SyN i n1 n2 n3 n4 l3 l4):SyN (i+1) n1 n2 n3 n4 l3 l4:=⟨h.sum,by have:=h.b1;omega,by have:=h.b2;omega,inn_up h.i3,inn_up h.i4⟩
theorem SyN.add2 (h:SyN i n1 n2 n3 n4 l3 l4):SyN (i+1) n1 (n2+1) n3 n4 l3 l4:=⟨h.sum,by have:=h.b1;omega,by have:=h.b2;omega,inn_up h.i3,inn_up h.i4⟩
theorem SyN.add3 (h:SyN i n1 n2 n3 n4 l3 l4):SyN (i+1) (n1+1) n2 (n3+1) n4 (l3++[(i:Int)]) l4:=⟨by have:=h.sum;omega,by have:=h.b1;omega,by have:=h.b2;omega,inn_snoc h.i3,inn_up h.i4⟩
theorem SyN.add4 (h:SyN i n1 n2 n3 n4 l3 l4):SyN (i+1) (n1+1) n2 n3 (n4+1) l3 (l4++[(i:Int)]):=⟨by have:=h.sum;omega,by have:=h.b1;omega,by have:=h.b2;omega,inn_up h.i3,inn_snoc h.i4⟩
end
theorem hps_ {wI:World} {B s hp:Nat} {u:Array Value} (h:Bk wI hp 187 u) (hst:StrSt wI B s):hp≠s:=by
 obtain ⟨cs,h1⟩:=hst.bk
 exact h.ne_ h1 (by decide)
theorem SyI.next {w w' wI:World} {B s hx:Nat} {nm:ByteArray} {A1 A2 A3 A4 OA PA:Option Addr} {n1 c1 n2 c2 n3 c3 n4 c4 on oc pn pc:Nat} {l1 l2 l3 l4:List Int} (h:SyI w wI B s hx nm A1 n1 c1 l1 A2 n2 c2 l2 A3 n3 c3 l3 A4 n4 c4 l4 OA on oc PA pn pc) (hst:StrSt w' B s) (hq:Fq [s] w w'):SyI w' wI B s hx nm A1 n1 c1 l1 A2 n2 c2 l2 A3 n3 c3 l3 A4 n4 c4 l4 OA on oc PA pn pc:=by
 have hk:=Kx.fq (B':=0) hq h.st (Nat.zero_le _)
 exact ⟨hst,hk.bk h.bx (by decide),h.rw.kx hk (by decide),h.fq.trans hq (SubF.refl _ _),h.lx,Nat.le_trans h.sz hq.size⟩
set_option maxHeartbeats 16000000 in
theorem sy0_any {x0 x1 x2 x3 x5 x6 x8 x9 Aa Ab Ac Ad Ae Af Ag Ah Ai Al Am Ao Ap Aq Ar Au Av Aw Ax Ay Az A7 A9 Be Bl Bu Bv Bw B0 B1 B2 B3 B4 B5 B6 B7 B8 B9 Cg Ch Ci Cj Ck Cp Cq Cr Cs Cu Cw Cx Cy Cz C0 C1 C2 C3 C4 C5 C6 C7 C8 C9 Da Db Dc Dd De Dg Dh Di Dj Dk Dl Dm Dn Dp Dq Dr Ds Dt Du Dv Dw Dx Dy D0 D1 D3 D4 D5 D6 D7 D8 D9 Ee Ef Ei Ek El Em En Eo Es Et Eu Ev Ew Ex Ey Ez E0 E1 E2 E3 E4 E5 E6 E7 E8 E9 Fa Fb Ff Fg Fh Fi Fj Fk Fl Fm Fn Fp Fs Ft Fu Fv Fx Fy Fz F0 F1 F2 F3 F4 F5 F6 F7 F8 F9 Ga Gd Gi Gp Gr Gs Gt Gu Gv Gw Gx Gy Gz G0 G1 G2 G3 G4 G5 G6 G7 G8 G9 Hb Hc Hd:Value} {Q:Exit->Act->World->Prop} {wI w0:World} {B s hx hp kn:Nat} {nm:ByteArray} {OA PA:Option Addr} {on oc pn pc:Nat}
 (hI:SyI w0 wI B s hx nm none 0 0 [] none 0 0 [] none 0 0 [] none 0 0 [] OA on oc PA pn pc) (hp_:Bk wI hp 187 #[.pointer (some ⟨s,0,none⟩)]) (hsI:StrSt wI B s) (hB:B<=s) (hBb:B<=wI.heap.size) (hk:kn<=1000)
 (hN:∀ (y8 Hv Hw Hx Hy Hz Ia Ib Ic Ie Ig Ih Ii Ij Ik Il Im Io Ip Iq Ir Iu Iw Ix Iy Iz I2 I3 I4 I5 I6 I7 I8 I9 Ja Jb Jc Jd Je Jf Jg Jh Ji:Value) (A1:Option Addr) (n1 c1:Nat) (l1:List Int) (A2:Option Addr) (n2 c2:Nat) (l2:List Int) (A3:Option Addr) (n3 c3:Nat) (l3:List Int) (A4:Option Addr) (n4 c4:Nat) (l4:List Int) (w':World),Hid (SyN kn n1 n2 n3 n4 l3 l4/\SyI w' wI B s hx nm A1 n1 c1 l1 A2 n2 c2 l2 A3 n3 c3 l3 A4 n4 c4 l4 OA on oc PA pn pc)->Q .normal ⟨#[x0,x1,x2,x3,.pointer (some ⟨hp,0,none⟩),x5,x6,.pointer (some ⟨hx,0,none⟩),y8,x9,Aa,Ab,Ac,Ad,Ae,Af,Ag,Ah,Ai,.int i64 (kn:Int),Hv,Hw,Hx,Hy,Hz,Ia,Ib,Ic,Ie,Ig,Ih,Ii,Ij,Ik,Il,Im,Io,Ip,Iq,Ir,Iu,Iw,Ix,Iy,Iz,I2,I3,I4,I5,I6,I7,I8,I9,Ja,Jb,Jc,Jd,Je,Jf,Jg,Jh,Ji,Cy,Cz,C0,C1,C2,C3,C4,C5,C6,C7,C8,C9,Da,Db,Dc,Dd,De,Dg,Dh,Di,Dj,Dk,Dl,Dm,Dn,Dp,Dq,Dr,Ds,Dt,Du,Dv,Dw,Dx,Dy,D0,D1,D3,D4,D5,D6,D7,D8,D9,Ee,Ef,Ei,Ek,El,Em,En,Eo,Es,Et,Eu,Ev,Ew,Ex,Ey,Ez,E0,E1,E2,E3,E4,E5,E6,E7,E8,E9,Fa,Fb,Ff,Fg,Fh,Fi,Fj,Fk,Fl,Fm,Fn,Fp,Fs,Ft,Fu,Fv,Fx,Fy,Fz,F0,F1,F2,F3,F4,F5,F6,F7,F8,F9,Ga,Gd,Gi,Gp,Gr,Gs,Gt,Gu,Gv,Gw,Gx,Gy,Gz,G0,G1,G2,G3,G4,G5,G6,G7,G8,G9,Hb,Hc,Hd],[]⟩ w') :
 Code.wp Try.prog sy0 Q ⟨#[x0,x1,x2,x3,.pointer (some ⟨hp,0,none⟩),x5,x6,.pointer (some ⟨hx,0,none⟩),x8,x9,Aa,Ab,Ac,Ad,Ae,Af,Ag,Ah,Ai,.int i64 (kn:Int),.int i64 0,Al,Am,Ao,Ap,Aq,Ar,Au,Av,Aw,Ax,Ay,Az,A7,A9,Be,Bl,Bu,Bv,Bw,B0,B1,B2,B3,B4,B5,B6,B7,B8,B9,Cg,Ch,Ci,Cj,Ck,Cp,Cq,Cr,Cs,Cu,Cw,Cx,Cy,Cz,C0,C1,C2,C3,C4,C5,C6,C7,C8,C9,Da,Db,Dc,Dd,De,Dg,Dh,Di,Dj,Dk,Dl,Dm,Dn,Dp,Dq,Dr,Ds,Dt,Du,Dv,Dw,Dx,Dy,D0,D1,D3,D4,D5,D6,D7,D8,D9,Ee,Ef,Ei,Ek,El,Em,En,Eo,Es,Et,Eu,Ev,Ew,Ex,Ey,Ez,E0,E1,E2,E3,E4,E5,E6,E7,E8,E9,Fa,Fb,Ff,Fg,Fh,Fi,Fj,Fk,Fl,Fm,Fn,Fp,Fs,Ft,Fu,Fv,Fx,Fy,Fz,F0,F1,F2,F3,F4,F5,F6,F7,F8,F9,Ga,Gd,Gi,Gp,Gr,Gs,Gt,Gu,Gv,Gw,Gx,Gy,Gz,G0,G1,G2,G3,G4,G5,G6,G7,G8,G9,Hb,Hc,Hd],[]⟩ w0:=by
 conv=>arg 2;whnf
 obtain ⟨i3,hi3,hz30,hz31,hz32⟩:=info_parts T.info3
 have HNX:=hid next_any
 have HI:=hid hI
 have hps:hp≠s:=hps_ hp_ hsI
 have HP:Hid (∀ wz,Fq [s] wI wz->wz.cell? ⟨hp,0,none⟩=some (.pointer (some ⟨s,0,none⟩))):=hid fun wz hq=>Bk.cell ((hq.low _ hp_.lt (by simp;exact hps)).trans hp_:Bk wz hp 187 _) 0
 clear hI hp_ hsI
 go_wp2_with fail
 go_loopw [20] (fun jv wx=>∃ (i:Nat) (A1:Option Addr) (n1 c1:Nat) (l1:List Int) (A2:Option Addr) (n2 c2:Nat) (l2:List Int) (A3:Option Addr) (n3 c3:Nat) (l3:List Int) (A4:Option Addr) (n4 c4:Nat) (l4:List Int),i<=kn/\jv=.int i64 i/\Hid (SyN i n1 n2 n3 n4 l3 l4/\SyI wx wI B s hx nm A1 n1 c1 l1 A2 n2 c2 l2 A3 n3 c3 l3 A4 n4 c4 l4 OA on oc PA pn pc)) (fun jv _=>kn-(intOf jv).toNat)
 case atStart=>exact ⟨0,none,0,0,[],none,0,0,[],none,0,0,[],none,0,0,[],Nat.zero_le _,rfl,hid ⟨⟨rfl,Nat.le_refl _,Nat.le_refl _,(fun x hx=>by cases hx),(fun x hx=>by cases hx)⟩,HI.out⟩⟩
 case round =>
  obtain ⟨i,A1,n1,c1,l1,A2,n2,c2,l2,A3,n3,c3,l3,A4,n4,c4,l4,hile,rfl,HV⟩:=hrel
  by_cases hlt:i<kn
  . have hiz:(i:Int)<kn:=by omega
    have p0:=HP.out _ HV.out.2.fq
    have hn1:n1<=1000:=by have:=HV.out.1.b1;omega
    have hn2:n2<=1000:=by have:=HV.out.1.b2;omega
    have hn3:n3<=1000:=by have:=HV.out.1.sum;omega
    have hn4:n4<=1000:=by have:=HV.out.1.sum;omega
    go_wp2_with fail
    (with_reducible refine (HNX.out s B 4 _ HV.out.2.st hB (by omega) (by omega)).mono ?_)
    rintro e w1 ⟨v,rfl,hv0,hv1,hst1,hg1⟩
    have HS1:Hid (SyI w1 wI B s hx nm A1 n1 c1 l1 A2 n2 c2 l2 A3 n3 c3 l3 A4 n4 c4 l4 OA on oc PA pn pc):=hid (HV.out.2.next hst1 (Fq.refl.grown hg1 fun g hg=>.inl (by injection hg with hg;simp [hg])))
    have HNN:Hid (SyN i n1 n2 n3 n4 l3 l4):=hid HV.out.1
    clear hst1 hg1 HV p0
    rcases (show v=0\/v=1\/v=2\/v=3 by omega) with rfl | rfl | rfl | rfl
    . clear hv0 hv1
      go_upto_region 7 with fail
      refine sy7_any HS1.out.bx HS1.out.rw HS1.out.st hB hBb HS1.out.lx HS1.out.fq (Nat.le_refl _) HS1.out.sz hn1 hn3 ?_
      intros
      rename_i g1 d1 gf df w7 H7
      have HVN:Hid (SyN (i+1) (n1+1) n2 (n3+1) n4 (l3++[(i:Int)]) l4/\SyI w7 wI B s hx nm (some ⟨g1,0,none⟩) (n1+1) d1 (l1++[(i:Int)]) A2 n2 c2 l2 (some ⟨gf,0,none⟩) (n3+1) df (l3++[(i:Int)]) A4 n4 c4 l4 OA on oc PA pn pc):=hid ⟨HNN.out.add3,H7.out.2.2.1,H7.out.1,H7.out.2.1,H7.out.2.2.2.1,HS1.out.lx,H7.out.2.2.2.1.size⟩
      clear H7 HS1 HNN
      go_wp2_with fail
      go_roundw
      case rel=>first | exact ⟨i+1,some ⟨g1,0,none⟩,n1+1,d1,l1++[(i:Int)],A2,n2,c2,l2,some ⟨gf,0,none⟩,n3+1,df,l3++[(i:Int)],A4,n4,c4,l4,by omega,by go_num,HVN⟩ | ((repeat apply Exists.intro);(refine And.intro ?_ ?_);rotate_left;(focus (repeat' first | exact rfl | apply And.intro));exact ⟨i+1,some ⟨g1,0,none⟩,n1+1,d1,l1++[(i:Int)],A2,n2,c2,l2,some ⟨gf,0,none⟩,n3+1,df,l3++[(i:Int)],A4,n4,c4,l4,by omega,by go_num,HVN⟩)
      case measure=>simp [intOf];omega
    . clear hv0 hv1
      go_upto_region 9 with fail
      refine sy9_any HS1.out.bx HS1.out.rw HS1.out.st hB hBb HS1.out.lx HS1.out.fq (Nat.le_refl _) HS1.out.sz hn1 hn4 ?_
      intros
      rename_i g1 d1 gf df w7 H7
      have HVN:Hid (SyN (i+1) (n1+1) n2 n3 (n4+1) l3 (l4++[(i:Int)])/\SyI w7 wI B s hx nm (some ⟨g1,0,none⟩) (n1+1) d1 (l1++[(i:Int)]) A2 n2 c2 l2 A3 n3 c3 l3 (some ⟨gf,0,none⟩) (n4+1) df (l4++[(i:Int)]) OA on oc PA pn pc):=hid ⟨HNN.out.add4,H7.out.2.2.1,H7.out.1,H7.out.2.1,H7.out.2.2.2.1,HS1.out.lx,H7.out.2.2.2.1.size⟩
      clear H7 HS1 HNN
      go_wp2_with fail
      go_roundw
      case rel=>first | exact ⟨i+1,some ⟨g1,0,none⟩,n1+1,d1,l1++[(i:Int)],A2,n2,c2,l2,A3,n3,c3,l3,some ⟨gf,0,none⟩,n4+1,df,l4++[(i:Int)],by omega,by go_num,HVN⟩ | ((repeat apply Exists.intro);(refine And.intro ?_ ?_);rotate_left;(focus (repeat' first | exact rfl | apply And.intro));exact ⟨i+1,some ⟨g1,0,none⟩,n1+1,d1,l1++[(i:Int)],A2,n2,c2,l2,A3,n3,c3,l3,some ⟨gf,0,none⟩,n4+1,df,l4++[(i:Int)],by omega,by go_num,HVN⟩)
      case measure=>simp [intOf];omega
    . clear hv0 hv1
      have e2:w1.cell? ⟨hx,2,none⟩=some (.slice A2 n2 c2):=HS1.out.bx.cell 2
      have hsz1:=HS1.out.sz
      go_wp2_with
       (at_builtin
        go_must (refine wpList_append_one _ rfl (.tmp 56) (.tmp 58) _ rfl wI.heap.size 3 i3 (.int i64 0) 1 8 Try.underlying30 hi3 hz30 hz31 hz32 rfl (by decide) (.slice A2 n2 c2) n2 (l2.map (Value.int .i64)) rfl (HS1.out.rw.o2.alloc _) w1.heap.size 1 3 #[.int i64 (i:Int)] rfl (Bk.new _ _ _) rfl ?c1 (n2+1) rfl ?c2 ?c3 ?c4 ?_)
        case c1=>simp [Value.oneCell']
        case c2=>unfold maxLen;omega
        case c3=>omega
        case c4=>(simp;omega)
        intro gA dA wA hownA hgA hatA
        have hSA:SyI (w1.alloc (.cells #[.int i64 (i:Int)] 3)) wI B s hx nm A1 n1 c1 l1 A2 n2 c2 l2 A3 n3 c3 l3 A4 n4 c4 l4 OA on oc PA pn pc:=HS1.out.next (HS1.out.st.below ((Below.refl _ _).alloc (Nat.le_refl _) _) (HS1.out.st.lo hB)) (Fq.of_below ((Below.refl _ _).alloc (Nat.le_refl _) _))
        have hbA:Bk wA hx 307 #[.string nm,.slice A1 n1 c1,.slice A2 n2 c2,.slice A3 n3 c3,.slice A4 n4 c4,.slice OA on oc,.slice PA pn pc]:=hSA.bx.grown hgA (fun e=>own_ne hSA.rw.o2 hSA.bx (by decide) e.symm)
        have hRA:=(hSA.rw.sw12.push1 hownA hgA hatA).sw12
        have z0:wA.cell? ⟨hx,2,none⟩=some (.slice A2 n2 c2):=hbA.cell 2
        have z1:=hbA.frozen 2
        have hkA:Kx B [3,307] (w1.alloc (.cells #[.int i64 (i:Int)] 3)) (wA.setCell ⟨hx,2,none⟩ (.slice (some ⟨gA,0,none⟩) (n2+1) dA)):=(Kx.refl.grown hSA.rw.o2 hgA hBb (by simp)).set hbA (Nat.le_trans hBb HS1.out.lx) (by simp) 2 _
        have HVN:Hid (SyN (i+1) n1 (n2+1) n3 n4 l3 l4/\SyI (wA.setCell ⟨hx,2,none⟩ (.slice (some ⟨gA,0,none⟩) (n2+1) dA)) wI B s hx nm A1 n1 c1 l1 (some ⟨gA,0,none⟩) (n2+1) dA (l2++[(i:Int)]) A3 n3 c3 l3 A4 n4 c4 l4 OA on oc PA pn pc):=hid ⟨HNN.out.add2,hSA.st.kx hkA (Nat.le_refl _) (hSA.st.lo hB) (by decide),by simpa using hbA.set_ 2 (.slice (some ⟨gA,0,none⟩) (n2+1) dA),hRA.kx (D:=0) (F:=[307]) (Kx.refl.set hbA (Nat.zero_le _) (by simp) 2 _) (by decide),(hSA.fq.grown hgA (fun g hg=>.inr (hSA.rw.o2.lt g hg).1)).set (.inr HS1.out.lx) 2 _,HS1.out.lx,by (have h1:=hgA.size;simp at h1;simp [World.setCell];omega)⟩
        clear hSA hbA hRA hkA hownA hgA hatA)
      clear HS1 HNN e2
      go_roundw
      case rel=>first | exact ⟨i+1,A1,n1,c1,l1,some ⟨gA,0,none⟩,n2+1,dA,l2++[(i:Int)],A3,n3,c3,l3,A4,n4,c4,l4,by omega,by go_num,HVN⟩ | ((repeat apply Exists.intro);(refine And.intro ?_ ?_);rotate_left;(focus (repeat' first | exact rfl | apply And.intro));exact ⟨i+1,A1,n1,c1,l1,some ⟨gA,0,none⟩,n2+1,dA,l2++[(i:Int)],A3,n3,c3,l3,A4,n4,c4,l4,by omega,by go_num,HVN⟩)
      case measure=>simp [intOf];omega
    . clear hv0 hv1
      have HVN:Hid (SyN (i+1) n1 n2 n3 n4 l3 l4/\SyI w1 wI B s hx nm A1 n1 c1 l1 A2 n2 c2 l2 A3 n3 c3 l3 A4 n4 c4 l4 OA on oc PA pn pc):=hid ⟨HNN.out.add0,HS1.out⟩
      clear HS1 HNN
      go_wp2_with fail
      go_roundw
      case rel=>first | exact ⟨i+1,A1,n1,c1,l1,A2,n2,c2,l2,A3,n3,c3,l3,A4,n4,c4,l4,by omega,by go_num,HVN⟩ | ((repeat apply Exists.intro);(refine And.intro ?_ ?_);rotate_left;(focus (repeat' first | exact rfl | apply And.intro));exact ⟨i+1,A1,n1,c1,l1,A2,n2,c2,l2,A3,n3,c3,l3,A4,n4,c4,l4,by omega,by go_num,HVN⟩)
      case measure=>simp [intOf];omega
  . obtain rfl:kn=i:=by omega
    go_wp2_with fail
    (try simp only [Exit.inBlock,Exit.then])
    first
     | exact HV
     | (apply hN;exact HV)
end Go.Proofs.Ytnidcmhfbkdioaa
