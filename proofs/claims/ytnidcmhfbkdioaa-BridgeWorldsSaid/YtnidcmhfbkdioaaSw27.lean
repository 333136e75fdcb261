/-
  tourmake.system: a kind goes into two lists. Conditions: rows of the call's own.
-/
import Derived.Test.YtnidcmhfbkdioaaSw26
namespace Go.Proofs.Ytnidcmhfbkdioaa
open Go.RowKit
open Go.IntKind (i64)
open Go.Lib (hid)
set_option maxRecDepth 100000
def Df (A A':Option Addr):Prop:=∀ b o o',A=some ⟨b,o,none⟩->A'≠some ⟨b,o',none⟩
theorem Df.symm {A A':Option Addr} (h:Df A A'):Df A' A:=fun b o o' h1 h2=>h b o' o h2 h1
theorem ownBlk_some {A:Option Addr} {n c b o:Nat} (h:A=some ⟨b,o,none⟩):(Value.slice A n c).ownBlock=some b:=by subst h;rfl
structure SyR (w:World) (base:Nat) (A1:Option Addr) (n1 c1:Nat) (l1:List Int) (A2:Option Addr) (n2 c2:Nat) (l2:List Int) (A3:Option Addr) (n3 c3:Nat) (l3:List Int) (A4:Option Addr) (n4 c4:Nat) (l4:List Int):Prop where
 o1:w.ownsRow base 3 1 (.slice A1 n1 c1) n1 (l1.map (Value.int .i64))
 o2:w.ownsRow base 3 1 (.slice A2 n2 c2) n2 (l2.map (Value.int .i64))
 o3:w.ownsRow base 3 1 (.slice A3 n3 c3) n3 (l3.map (Value.int .i64))
 o4:w.ownsRow base 3 1 (.slice A4 n4 c4) n4 (l4.map (Value.int .i64))
 d12:Df A1 A2
 d13:Df A1 A3
 d14:Df A1 A4
 d23:Df A2 A3
 d24:Df A2 A4
 d34:Df A3 A4
section
variable {w w' w2:World} {base:Nat} {A1 A2 A3 A4:Option Addr} {n1 c1 n2 c2 n3 c3 n4 c4:Nat} {l1 l2 l3 l4:List Int}
theorem SyR.sw12 (h:SyR w base A1 n1 c1 l1 A2 n2 c2 l2 A3 n3 c3 l3 A4 n4 c4 l4):SyR w base A2 n2 c2 l2 A1 n1 c1 l1 A3 n3 c3 l3 A4 n4 c4 l4:=⟨h.o2,h.o1,h.o3,h.o4,h.d12.symm,h.d23,h.d24,h.d13,h.d14,h.d34⟩
theorem SyR.sw13 (h:SyR w base A1 n1 c1 l1 A2 n2 c2 l2 A3 n3 c3 l3 A4 n4 c4 l4):SyR w base A3 n3 c3 l3 A2 n2 c2 l2 A1 n1 c1 l1 A4 n4 c4 l4:=⟨h.o3,h.o2,h.o1,h.o4,h.d23.symm,h.d13.symm,h.d34,h.d12.symm,h.d24,h.d14⟩
theorem SyR.sw14 (h:SyR w base A1 n1 c1 l1 A2 n2 c2 l2 A3 n3 c3 l3 A4 n4 c4 l4):SyR w base A4 n4 c4 l4 A2 n2 c2 l2 A3 n3 c3 l3 A1 n1 c1 l1:=⟨h.o4,h.o2,h.o3,h.o1,h.d24.symm,h.d34.symm,h.d14.symm,h.d23,h.d12.symm,h.d13.symm⟩
theorem SyR.kx {D:Nat} {F:List TypeId} (h:SyR w base A1 n1 c1 l1 A2 n2 c2 l2 A3 n3 c3 l3 A4 n4 c4 l4) (hq:Kx D F w w') (h3:(3:TypeId) ∉ F):SyR w' base A1 n1 c1 l1 A2 n2 c2 l2 A3 n3 c3 l3 A4 n4 c4 l4 :=
 ⟨hq.own h.o1 h3,hq.own h.o2 h3,hq.own h.o3 h3,hq.own h.o4 h3,h.d12,h.d13,h.d14,h.d23,h.d24,h.d34⟩
theorem own_addr {n c g:Nat} {A:Option Addr} {xs:List Value} (h:w.ownsRow base 3 1 (.slice A n c) n xs) (hg:(Value.slice A n c).ownBlock=some g):∃ o,A=some ⟨g,o,none⟩:=by
 obtain ⟨_,h2⟩:=h
 rcases h2 with ⟨hv,_⟩ | ⟨g',cap,cur,hv,_⟩
 . injection hv with h1
   subst h1
   simp [Value.ownBlock] at hg
 . injection hv with h1
   subst h1
   have e:g'=g:=by simpa [Value.ownBlock] using hg
   exact ⟨0,by rw [e]⟩
theorem own_apart {n c n' c':Nat} {A A':Option Addr} {xs ys:List Value} (h:w.ownsRow base 3 1 (.slice A n c) n xs) (h':w.ownsRow base 3 1 (.slice A' n' c') n' ys) (hd:Df A' A) (hg:w.grownBy w' (Value.slice A' n' c').ownBlock):w'.ownsRow base 3 1 (.slice A n c) n xs:=by
 refine own_keepB h fun g hgb=>hg.block g (h.lt g hgb).2 fun e=>?_
 obtain ⟨o,h1⟩:=own_addr h hgb
 obtain ⟨o',h2⟩:=own_addr h' e.symm
 exact hd g o' o h2 h1
theorem df_new {n c:Nat} {A:Option Addr} {xs:List Value} (h:w.ownsRow base 3 1 (.slice A n c) n xs) {g:Nat} (hg:w.heap.size<=g):Df (some ⟨g,0,none⟩) A:=fun b o o' h1 h2=>by
 injection h1 with h1
 injection h1 with h1
 subst h1
 have:=(h.lt g (ownBlk_some h2)).2
 omega
theorem SyR.push1 (h:SyR w base A1 n1 c1 l1 A2 n2 c2 l2 A3 n3 c3 l3 A4 n4 c4 l4) {g c:Nat} {x:Int} (hown:w'.ownsRow base 3 1 (.slice (some ⟨g,0,none⟩) (n1+1) c) (n1+1) (l1.map (Value.int .i64)++[.int i64 x]))
 (hg:w.grownBy w' (Value.slice A1 n1 c1).ownBlock) (hat:(Value.slice A1 n1 c1).ownBlock=some g\/g=w.heap.size):SyR w' base (some ⟨g,0,none⟩) (n1+1) c (l1++[x]) A2 n2 c2 l2 A3 n3 c3 l3 A4 n4 c4 l4:=by
 have hdf:∀ {n c:Nat} {A:Option Addr} {l:List Int},w.ownsRow base 3 1 (.slice A n c) n (l.map (Value.int .i64))->Df A1 A->Df (some ⟨g,0,none⟩) A:=fun ho hd=>by
  rcases hat with h1 | h1
  . obtain ⟨o,hA⟩:∃ o,A1=some ⟨g,o,none⟩:=own_addr h.o1 h1
    intro b o1 o2 e1 e2
    injection e1 with e1
    injection e1 with e1
    subst e1
    exact hd g o o2 hA e2
  . exact df_new ho (by omega)
 exact ⟨by rw [List.map_append];exact hown,own_apart h.o2 h.o1 h.d12 hg,own_apart h.o3 h.o1 h.d13 hg,own_apart h.o4 h.o1 h.d14 hg,hdf h.o2 h.d12,hdf h.o3 h.d13,hdf h.o4 h.d14,h.d23,h.d24,h.d34⟩
end
noncomputable def syR7:Code:=(Try.f198.body.bind (rgnN 7)).getD .skip
set_option maxHeartbeats 8000000 in
theorem sy7_any {x0 x1 x2 x3 x4 x5 x6 x9 Aa Ab Ac Ad Ae Af Ag Ah Ai Aj Ak Al Am Ao Ap Aq Ar Au Av Aw Ax Ay Az A7 A9 Be Bl Bu Bv Bw B0 B1 B2 B3 B4 B5 B6 B7 B8 B9 Cg Ch Ci Cj Ck Cp Cq Cr Cs Cu Cw Cx Cy Cz C0 C1 C2 C3 C4 C5 C6 C7 C8 C9 Da Db Dc Dd De Dg Dh Di Dj Dk Dl Dm Dn Dp Dq Dr Ds Dt Du Dv Dw Dx Dy D0 D1 D3 D4 D5 D6 D7 D8 D9 Ee Ef Ei Ek El Em En Eo Es Et Eu Ev Ew Ex Ey Ez E0 E1 E2 E3 E4 E5 E6 E7 E8 E9 Fa Fb Ff Fg Fh Fi Fj Fk Fl Fm Fn Fp Fs Ft Fu Fv Fx Fy Fz F0 F1 F2 F3 F4 F5 F6 F7 F8 F9 Ga Gd Gi Gp Gr Gs Gt Gu Gv Gw Gx Gy Gz G0 G1 G2 G3 G4 G5 G6 G7 G8 G9 Hb Hc Hd:Value} {Q:Exit->Act->World->Prop} {wI w0:World} {B base s hx i:Nat} {nm:ByteArray} {A1 A2 A3 A4 OA PA:Option Addr} {n1 c1 n2 c2 n3 c3 n4 c4 on oc pn pc:Nat} {l1 l2 l3 l4:List Int}
 (hb:Bk w0 hx 307 #[.string nm,.slice A1 n1 c1,.slice A2 n2 c2,.slice A3 n3 c3,.slice A4 n4 c4,.slice OA on oc,.slice PA pn pc]) (hR:SyR w0 base A1 n1 c1 l1 A2 n2 c2 l2 A3 n3 c3 l3 A4 n4 c4 l4) (hst:StrSt w0 B s) (hB:B<=s) (hBb:B<=base) (hhx:base<=hx) (hQ:Fq [s] wI w0) (hI:wI.heap.size<=base) (hb0:base<=w0.heap.size) (hn1:n1<=1000) (hnf:n3<=1000)
 (hN:∀ (Ic Ie Ig Ih Ii Ij Ik Il Im Io Ip Iq:Value) (g1 d1 gf df:Nat) (w':World),Hid (Bk w' hx 307 #[.string nm,.slice (some ⟨g1,0,none⟩) (n1+1) d1,.slice A2 n2 c2,.slice (some ⟨gf,0,none⟩) (n3+1) df,.slice A4 n4 c4,.slice OA on oc,.slice PA pn pc]/\SyR w' base (some ⟨g1,0,none⟩) (n1+1) d1 (l1++[(i:Int)]) A2 n2 c2 l2 (some ⟨gf,0,none⟩) (n3+1) df (l3++[(i:Int)]) A4 n4 c4 l4/\StrSt w' B s/\Fq [s] wI w'/\Kx 0 [3,307] w0 w')->Q .normal ⟨#[x0,x1,x2,x3,x4,x5,x6,.pointer (some ⟨hx,0,none⟩),.int i64 (i:Int),x9,Aa,Ab,Ac,Ad,Ae,Af,Ag,Ah,Ai,Aj,Ak,Al,Am,Ao,Ap,Aq,Ar,Ic,Ie,Ig,Ih,Ii,Ij,Ik,Il,Im,Io,Ip,Iq,Bw,B0,B1,B2,B3,B4,B5,B6,B7,B8,B9,Cg,Ch,Ci,Cj,Ck,Cp,Cq,Cr,Cs,Cu,Cw,Cx,Cy,Cz,C0,C1,C2,C3,C4,C5,C6,C7,C8,C9,Da,Db,Dc,Dd,De,Dg,Dh,Di,Dj,Dk,Dl,Dm,Dn,Dp,Dq,Dr,Ds,Dt,Du,Dv,Dw,Dx,Dy,D0,D1,D3,D4,D5,D6,D7,D8,D9,Ee,Ef,Ei,Ek,El,Em,En,Eo,Es,Et,Eu,Ev,Ew,Ex,Ey,Ez,E0,E1,E2,E3,E4,E5,E6,E7,E8,E9,Fa,Fb,Ff,Fg,Fh,Fi,Fj,Fk,Fl,Fm,Fn,Fp,Fs,Ft,Fu,Fv,Fx,Fy,Fz,F0,F1,F2,F3,F4,F5,F6,F7,F8,F9,Ga,Gd,Gi,Gp,Gr,Gs,Gt,Gu,Gv,Gw,Gx,Gy,Gz,G0,G1,G2,G3,G4,G5,G6,G7,G8,G9,Hb,Hc,Hd],[]⟩ w') :
 Code.wp Try.prog syR7 Q ⟨#[x0,x1,x2,x3,x4,x5,x6,.pointer (some ⟨hx,0,none⟩),.int i64 (i:Int),x9,Aa,Ab,Ac,Ad,Ae,Af,Ag,Ah,Ai,Aj,Ak,Al,Am,Ao,Ap,Aq,Ar,Au,Av,Aw,Ax,Ay,Az,A7,A9,Be,Bl,Bu,Bv,Bw,B0,B1,B2,B3,B4,B5,B6,B7,B8,B9,Cg,Ch,Ci,Cj,Ck,Cp,Cq,Cr,Cs,Cu,Cw,Cx,Cy,Cz,C0,C1,C2,C3,C4,C5,C6,C7,C8,C9,Da,Db,Dc,Dd,De,Dg,Dh,Di,Dj,Dk,Dl,Dm,Dn,Dp,Dq,Dr,Ds,Dt,Du,Dv,Dw,Dx,Dy,D0,D1,D3,D4,D5,D6,D7,D8,D9,Ee,Ef,Ei,Ek,El,Em,En,Eo,Es,Et,Eu,Ev,Ew,Ex,Ey,Ez,E0,E1,E2,E3,E4,E5,E6,E7,E8,E9,Fa,Fb,Ff,Fg,Fh,Fi,Fj,Fk,Fl,Fm,Fn,Fp,Fs,Ft,Fu,Fv,Fx,Fy,Fz,F0,F1,F2,F3,F4,F5,F6,F7,F8,F9,Ga,Gd,Gi,Gp,Gr,Gs,Gt,Gu,Gv,Gw,Gx,Gy,Gz,G0,G1,G2,G3,G4,G5,G6,G7,G8,G9,Hb,Hc,Hd],[]⟩ w0:=by
 conv=>arg 2;whnf
 obtain ⟨i3,hi3,hz30,hz31,hz32⟩:=info_parts T.info3
 obtain ⟨u0,hu0⟩:∃ z,z=w0.drew:=⟨_,rfl⟩
 have HBu0:Hid (Bk u0 hx 307 #[.string nm,.slice A1 n1 c1,.slice A2 n2 c2,.slice A3 n3 c3,.slice A4 n4 c4,.slice OA on oc,.slice PA pn pc]):=hid (by rw [hu0];exact hb.drew)
 have HRu0:Hid (SyR u0 base A1 n1 c1 l1 A2 n2 c2 l2 A3 n3 c3 l3 A4 n4 c4 l4):=hid (by rw [hu0];exact hR.kx (D:=0) (F:=[]) Kx.refl.drew (by simp))
 have HQu0:Hid (Fq [s] wI u0/\Kx B [3,307] w0 u0/\Kx 0 [3,307] w0 u0/\base<=u0.heap.size):=hid (by rw [hu0];exact ⟨hQ.drew,Kx.refl.drew,Kx.refl.drew,hb0⟩)
 have HST:=hid hst
 have HS:Hid (∀ wz,Bk wz hx 307 #[.string nm,.slice A1 n1 c1,.slice A2 n2 c2,.slice A3 n3 c3,.slice A4 n4 c4,.slice OA on oc,.slice PA pn pc]->wz.cell? ⟨hx,1,none⟩=some (.slice A1 n1 c1)/\wz.cell? ⟨hx,3,none⟩=some (.slice A3 n3 c3)):=hid fun wz h=>⟨h.cell 1,h.cell 3⟩
 clear hb hR hst hQ
 refine wp_region_noPanic ?_
 refine wp_region_L (S:=fun wz=>wz.cell? ⟨hx,1,none⟩=some (.slice A1 n1 c1)/\wz.cell? ⟨hx,3,none⟩=some (.slice A3 n3 c3)) (late:=[11,12,13]) (by kernel_rfl) ?_
 rw [<- hu0]
 clear hu0
 refine wpL 0 (.pointer (some ⟨hx,1,none⟩)) 27 (HS.out _ HBu0.out) ?_
 (try simp only [sP])
 refine wpL 1 (.slice A1 n1 c1) 28 (HS.out _ HBu0.out) ?_
 (try simp only [sP])
 refine wpL 2 (.int i64 (i:Int)) 29 (HS.out _ HBu0.out) ?_
 (try simp only [sP])
 refine wpL 5 (.pointer (some ⟨hx,3,none⟩)) 32 (HS.out _ HBu0.out) ?_
 (try simp only [sP])
 refine wpL 6 (.slice A3 n3 c3) 33 (HS.out _ HBu0.out) ?_
 (try simp only [sP])
 refine wpL 7 (.int i64 (i:Int)) 34 (HS.out _ HBu0.out) ?_
 (try simp only [sP])
 refine wpAnyL_two (i:=3) (j:=8) rfl rfl (by kernel_rfl) (by rfl) (by rfl) ?_ ?_
 . go_simp
   obtain ⟨nb,hnb⟩:∃ z,z=u0.heap.size:=⟨_,rfl⟩
   obtain ⟨v0,hv0⟩:∃ z,z=u0.alloc (.cells #[.int i64 (i:Int)] 3):=⟨_,rfl⟩
   have HBv0:Hid (Bk v0 hx 307 #[.string nm,.slice A1 n1 c1,.slice A2 n2 c2,.slice A3 n3 c3,.slice A4 n4 c4,.slice OA on oc,.slice PA pn pc]):=hid (by rw [hv0];exact HBu0.out.alloc _)
   have HRv0:Hid (SyR v0 base A1 n1 c1 l1 A2 n2 c2 l2 A3 n3 c3 l3 A4 n4 c4 l4):=hid (by rw [hv0];exact HRu0.out.kx (D:=0) (F:=[]) (Kx.refl.alloc _) (by simp))
   have HQv0:Hid (Fq [s] wI v0/\Kx B [3,307] w0 v0/\Kx 0 [3,307] w0 v0/\base<=v0.heap.size):=hid (by rw [hv0];obtain ⟨q0,q1,q2,q3⟩:=HQu0.out;exact ⟨q0.alloc _,q1.alloc _,q2.alloc _,by simp;omega⟩)
   have Hnbv0:Hid (Bk v0 nb 3 #[.int i64 (i:Int)]):=hid (by rw [hv0,hnb];exact Bk.new _ _ _)
   rw [<- hv0,<- hnb]
   clear hv0 hnb
   refine And.intro (HS.out _ HBv0.out) ?_
   (try simp only [sP])
   refine wpAnyL_two (i:=4) (j:=8) rfl rfl (by kernel_rfl) (by rfl) (by rfl) ?_ ?_
   . refine wp_append_one (.tmp 28) (.tmp 30) 30 rfl base 3 i3 (.int i64 0) 1 8 Try.underlying30 hi3 hz30 hz31 hz32 rfl (by decide) (.slice A1 n1 c1) n1 (l1.map (Value.int .i64)) rfl HRv0.out.o1 nb 1 3 #[.int i64 (i:Int)] rfl Hnbv0.out rfl (by simp [Value.oneCell']) (n1+1) rfl (by unfold maxLen;omega) (by omega) HQv0.out.2.2.2 ?_
     intro g1 d1 v1 hown hgr hat
     have HBv1:Hid (Bk v1 hx 307 #[.string nm,.slice A1 n1 c1,.slice A2 n2 c2,.slice A3 n3 c3,.slice A4 n4 c4,.slice OA on oc,.slice PA pn pc]):=hid (HBv0.out.grown hgr (fun e=>own_ne HRv0.out.o1 HBv0.out (by decide) e.symm))
     have HRv1:Hid (SyR v1 base (some ⟨g1,0,none⟩) (n1+1) d1 (l1++[(i:Int)]) A2 n2 c2 l2 A3 n3 c3 l3 A4 n4 c4 l4):=hid (HRv0.out.push1 hown hgr hat)
     have HQv1:Hid (Fq [s] wI v1/\Kx B [3,307] w0 v1/\Kx 0 [3,307] w0 v1/\base<=v1.heap.size):=hid (by obtain ⟨q0,q1,q2,q3⟩:=HQv0.out;exact ⟨q0.grown hgr (fun g hg=>.inr (Nat.le_trans hI (HRv0.out.o1.lt g hg).1)),q1.grown HRv0.out.o1 hgr hBb (by simp),q2.grown HRv0.out.o1 hgr (Nat.zero_le _) (by simp),Nat.le_trans q3 hgr.size⟩)
     clear hown hgr hat
     refine And.intro (HS.out _ HBv1.out) ?_
     (try simp only [sP])
     refine wpL 10 (.pointer (some ⟨hx,1,none⟩)) 37 (HS.out _ HBv1.out) ?_
     (try simp only [sP])
     refine wpAnyL_one (i:=8) rfl (by kernel_rfl) (by rfl) ?_
     go_simp
     obtain ⟨ne,hne⟩:∃ z,z=v1.heap.size:=⟨_,rfl⟩
     obtain ⟨v2,hv2⟩:∃ z,z=v1.alloc (.cells #[.int i64 (i:Int)] 3):=⟨_,rfl⟩
     have HBv2:Hid (Bk v2 hx 307 #[.string nm,.slice A1 n1 c1,.slice A2 n2 c2,.slice A3 n3 c3,.slice A4 n4 c4,.slice OA on oc,.slice PA pn pc]):=hid (by rw [hv2];exact HBv1.out.alloc _)
     have HRv2:Hid (SyR v2 base (some ⟨g1,0,none⟩) (n1+1) d1 (l1++[(i:Int)]) A2 n2 c2 l2 A3 n3 c3 l3 A4 n4 c4 l4):=hid (by rw [hv2];exact HRv1.out.kx (D:=0) (F:=[]) (Kx.refl.alloc _) (by simp))
     have HQv2:Hid (Fq [s] wI v2/\Kx B [3,307] w0 v2/\Kx 0 [3,307] w0 v2/\base<=v2.heap.size):=hid (by rw [hv2];obtain ⟨q0,q1,q2,q3⟩:=HQv1.out;exact ⟨q0.alloc _,q1.alloc _,q2.alloc _,by simp;omega⟩)
     have Hnev2:Hid (Bk v2 ne 3 #[.int i64 (i:Int)]):=hid (by rw [hv2,hne];exact Bk.new _ _ _)
     rw [<- hv2,<- hne]
     clear hv2 hne
     refine And.intro (HS.out _ HBv2.out) ?_
     (try simp only [sP])
     refine wpAnyL_one (i:=9) rfl (by kernel_rfl) (by rfl) ?_
     refine wp_append_one (.tmp 33) (.tmp 35) 30 rfl base 3 i3 (.int i64 0) 1 8 Try.underlying30 hi3 hz30 hz31 hz32 rfl (by decide) (.slice A3 n3 c3) n3 (l3.map (Value.int .i64)) rfl HRv2.out.o3 ne 1 3 #[.int i64 (i:Int)] rfl Hnev2.out rfl (by simp [Value.oneCell']) (n3+1) rfl (by unfold maxLen;omega) (by omega) HQv2.out.2.2.2 ?_
     intro gf df v3 hown hgr hat
     have HBv3:Hid (Bk v3 hx 307 #[.string nm,.slice A1 n1 c1,.slice A2 n2 c2,.slice A3 n3 c3,.slice A4 n4 c4,.slice OA on oc,.slice PA pn pc]):=hid (HBv2.out.grown hgr (fun e=>own_ne HRv2.out.o3 HBv2.out (by decide) e.symm))
     have HRv3:Hid (SyR v3 base (some ⟨g1,0,none⟩) (n1+1) d1 (l1++[(i:Int)]) A2 n2 c2 l2 (some ⟨gf,0,none⟩) (n3+1) df (l3++[(i:Int)]) A4 n4 c4 l4):=hid ((HRv2.out.sw13.push1 hown hgr hat).sw13)
     have HQv3:Hid (Fq [s] wI v3/\Kx B [3,307] w0 v3/\Kx 0 [3,307] w0 v3/\base<=v3.heap.size):=hid (by obtain ⟨q0,q1,q2,q3⟩:=HQv2.out;exact ⟨q0.grown hgr (fun g hg=>.inr (Nat.le_trans hI (HRv2.out.o3.lt g hg).1)),q1.grown HRv2.out.o3 hgr hBb (by simp),q2.grown HRv2.out.o3 hgr (Nat.zero_le _) (by simp),Nat.le_trans q3 hgr.size⟩)
     clear hown hgr hat
     refine And.intro (HS.out _ HBv3.out) ?_
     (try simp only [sP])
     have q0:v3.cell? ⟨hx,1,none⟩=some (.slice A1 n1 c1):=HBv3.out.cell 1
     have q1:=HBv3.out.frozen 1
     have q2:v3.cell? ⟨hx,3,none⟩=some (.slice A3 n3 c3):=HBv3.out.cell 3
     have q3:=HBv3.out.frozen 3
     have q4:(v3.setCell ⟨hx,1,none⟩ (.slice (some ⟨g1,0,none⟩) (n1+1) d1)).cell? ⟨hx,3,none⟩=some (.slice A3 n3 c3):=(HBv3.out.set_ 1 _).cell 3
     have q5:=(HBv3.out.set_ 1 (.slice (some ⟨g1,0,none⟩) (n1+1) d1)).frozen 3
     refine wpAnyL_late (i:=11) rfl (by kernel_rfl) (by rfl) (by kernel_rfl) ?_
     go_simp
     (try simp only [sP])
     refine wpAnyL_late (i:=12) rfl (by kernel_rfl) (by rfl) (by kernel_rfl) ?_
     go_simp
     (try simp only [sP])
     refine wpAnyL_late (i:=13) rfl (by kernel_rfl) (by rfl) (by kernel_rfl) ?_
     go_simp
     (try simp only [sP])
     clear q0 q1 q2 q3 q4 q5
     refine wpAnyL_done (by kernel_rfl) ?_ _
     refine NoPanic.normal ?_
     have hkB:Kx B [3,307] w0 ((v3.setCell ⟨hx,1,none⟩ (.slice (some ⟨g1,0,none⟩) (n1+1) d1)).setCell ⟨hx,3,none⟩ (.slice (some ⟨gf,0,none⟩) (n3+1) df)):=(HQv3.out.2.1.set HBv3.out (Nat.le_trans hBb hhx) (by simp) 1 _).set (HBv3.out.set_ 1 _) (Nat.le_trans hBb hhx) (by simp) 3 _
     have HF:Hid (Bk ((v3.setCell ⟨hx,1,none⟩ (.slice (some ⟨g1,0,none⟩) (n1+1) d1)).setCell ⟨hx,3,none⟩ (.slice (some ⟨gf,0,none⟩) (n3+1) df)) hx 307 #[.string nm,.slice (some ⟨g1,0,none⟩) (n1+1) d1,.slice A2 n2 c2,.slice (some ⟨gf,0,none⟩) (n3+1) df,.slice A4 n4 c4,.slice OA on oc,.slice PA pn pc]/\SyR ((v3.setCell ⟨hx,1,none⟩ (.slice (some ⟨g1,0,none⟩) (n1+1) d1)).setCell ⟨hx,3,none⟩ (.slice (some ⟨gf,0,none⟩) (n3+1) df)) base (some ⟨g1,0,none⟩) (n1+1) d1 (l1++[(i:Int)]) A2 n2 c2 l2 (some ⟨gf,0,none⟩) (n3+1) df (l3++[(i:Int)]) A4 n4 c4 l4/\StrSt ((v3.setCell ⟨hx,1,none⟩ (.slice (some ⟨g1,0,none⟩) (n1+1) d1)).setCell ⟨hx,3,none⟩ (.slice (some ⟨gf,0,none⟩) (n3+1) df)) B s/\Fq [s] wI ((v3.setCell ⟨hx,1,none⟩ (.slice (some ⟨g1,0,none⟩) (n1+1) d1)).setCell ⟨hx,3,none⟩ (.slice (some ⟨gf,0,none⟩) (n3+1) df))/\Kx 0 [3,307] w0 ((v3.setCell ⟨hx,1,none⟩ (.slice (some ⟨g1,0,none⟩) (n1+1) d1)).setCell ⟨hx,3,none⟩ (.slice (some ⟨gf,0,none⟩) (n3+1) df))):=hid ⟨by simpa using (HBv3.out.set_ 1 (.slice (some ⟨g1,0,none⟩) (n1+1) d1)).set_ 3 (.slice (some ⟨gf,0,none⟩) (n3+1) df),HRv3.out.kx (D:=0) (F:=[307]) ((Kx.refl.set HBv3.out (Nat.zero_le _) (by simp) 1 _).set (HBv3.out.set_ 1 _) (Nat.zero_le _) (by simp) 3 _) (by decide),HST.out.kx hkB (Nat.le_refl _) (HST.out.lo hB) (by decide),(HQv3.out.1.set (.inr (Nat.le_trans hI hhx)) 1 _).set (.inr (Nat.le_trans hI hhx)) 3 _,hkB.mono (Nat.zero_le _) (fun _ h=>h)⟩
     (apply hN;exact HF)
   . go_simp
     obtain ⟨ne,hne⟩:∃ z,z=v0.heap.size:=⟨_,rfl⟩
     obtain ⟨v1,hv1⟩:∃ z,z=v0.alloc (.cells #[.int i64 (i:Int)] 3):=⟨_,rfl⟩
     have HBv1:Hid (Bk v1 hx 307 #[.string nm,.slice A1 n1 c1,.slice A2 n2 c2,.slice A3 n3 c3,.slice A4 n4 c4,.slice OA on oc,.slice PA pn pc]):=hid (by rw [hv1];exact HBv0.out.alloc _)
     have HRv1:Hid (SyR v1 base A1 n1 c1 l1 A2 n2 c2 l2 A3 n3 c3 l3 A4 n4 c4 l4):=hid (by rw [hv1];exact HRv0.out.kx (D:=0) (F:=[]) (Kx.refl.alloc _) (by simp))
     have HQv1:Hid (Fq [s] wI v1/\Kx B [3,307] w0 v1/\Kx 0 [3,307] w0 v1/\base<=v1.heap.size):=hid (by rw [hv1];obtain ⟨q0,q1,q2,q3⟩:=HQv0.out;exact ⟨q0.alloc _,q1.alloc _,q2.alloc _,by simp;omega⟩)
     have Hnev1:Hid (Bk v1 ne 3 #[.int i64 (i:Int)]):=hid (by rw [hv1,hne];exact Bk.new _ _ _)
     have Hnbv1:Hid (Bk v1 nb 3 #[.int i64 (i:Int)]):=hid (by rw [hv1];exact Hnbv0.out.alloc _)
     have HNE:Hid ((Value.slice A1 n1 c1).ownBlock≠some ne):=hid (fun e=>by (have h1:=(HRv0.out.o1.lt ne e).2;omega))
     rw [<- hv1,<- hne]
     clear hv1 hne
     refine And.intro (HS.out _ HBv1.out) ?_
     (try simp only [sP])
     refine wpAnyL_one (i:=4) rfl (by kernel_rfl) (by rfl) ?_
     refine wp_append_one (.tmp 28) (.tmp 30) 30 rfl base 3 i3 (.int i64 0) 1 8 Try.underlying30 hi3 hz30 hz31 hz32 rfl (by decide) (.slice A1 n1 c1) n1 (l1.map (Value.int .i64)) rfl HRv1.out.o1 nb 1 3 #[.int i64 (i:Int)] rfl Hnbv1.out rfl (by simp [Value.oneCell']) (n1+1) rfl (by unfold maxLen;omega) (by omega) HQv1.out.2.2.2 ?_
     intro g1 d1 v2 hown hgr hat
     have HBv2:Hid (Bk v2 hx 307 #[.string nm,.slice A1 n1 c1,.slice A2 n2 c2,.slice A3 n3 c3,.slice A4 n4 c4,.slice OA on oc,.slice PA pn pc]):=hid (HBv1.out.grown hgr (fun e=>own_ne HRv1.out.o1 HBv1.out (by decide) e.symm))
     have HRv2:Hid (SyR v2 base (some ⟨g1,0,none⟩) (n1+1) d1 (l1++[(i:Int)]) A2 n2 c2 l2 A3 n3 c3 l3 A4 n4 c4 l4):=hid (HRv1.out.push1 hown hgr hat)
     have HQv2:Hid (Fq [s] wI v2/\Kx B [3,307] w0 v2/\Kx 0 [3,307] w0 v2/\base<=v2.heap.size):=hid (by obtain ⟨q0,q1,q2,q3⟩:=HQv1.out;exact ⟨q0.grown hgr (fun g hg=>.inr (Nat.le_trans hI (HRv1.out.o1.lt g hg).1)),q1.grown HRv1.out.o1 hgr hBb (by simp),q2.grown HRv1.out.o1 hgr (Nat.zero_le _) (by simp),Nat.le_trans q3 hgr.size⟩)
     have Hnev2:Hid (Bk v2 ne 3 #[.int i64 (i:Int)]):=hid (Hnev1.out.grown hgr (fun e=>HNE.out e.symm))
     clear hown hgr hat
     refine And.intro (HS.out _ HBv2.out) ?_
     (try simp only [sP])
     refine wpL 10 (.pointer (some ⟨hx,1,none⟩)) 37 (HS.out _ HBv2.out) ?_
     (try simp only [sP])
     refine wpAnyL_one (i:=9) rfl (by kernel_rfl) (by rfl) ?_
     refine wp_append_one (.tmp 33) (.tmp 35) 30 rfl base 3 i3 (.int i64 0) 1 8 Try.underlying30 hi3 hz30 hz31 hz32 rfl (by decide) (.slice A3 n3 c3) n3 (l3.map (Value.int .i64)) rfl HRv2.out.o3 ne 1 3 #[.int i64 (i:Int)] rfl Hnev2.out rfl (by simp [Value.oneCell']) (n3+1) rfl (by unfold maxLen;omega) (by omega) HQv2.out.2.2.2 ?_
     intro gf df v3 hown hgr hat
     have HBv3:Hid (Bk v3 hx 307 #[.string nm,.slice A1 n1 c1,.slice A2 n2 c2,.slice A3 n3 c3,.slice A4 n4 c4,.slice OA on oc,.slice PA pn pc]):=hid (HBv2.out.grown hgr (fun e=>own_ne HRv2.out.o3 HBv2.out (by decide) e.symm))
     have HRv3:Hid (SyR v3 base (some ⟨g1,0,none⟩) (n1+1) d1 (l1++[(i:Int)]) A2 n2 c2 l2 (some ⟨gf,0,none⟩) (n3+1) df (l3++[(i:Int)]) A4 n4 c4 l4):=hid ((HRv2.out.sw13.push1 hown hgr hat).sw13)
     have HQv3:Hid (Fq [s] wI v3/\Kx B [3,307] w0 v3/\Kx 0 [3,307] w0 v3/\base<=v3.heap.size):=hid (by obtain ⟨q0,q1,q2,q3⟩:=HQv2.out;exact ⟨q0.grown hgr (fun g hg=>.inr (Nat.le_trans hI (HRv2.out.o3.lt g hg).1)),q1.grown HRv2.out.o3 hgr hBb (by simp),q2.grown HRv2.out.o3 hgr (Nat.zero_le _) (by simp),Nat.le_trans q3 hgr.size⟩)
     clear hown hgr hat
     refine And.intro (HS.out _ HBv3.out) ?_
     (try simp only [sP])
     have q0:v3.cell? ⟨hx,1,none⟩=some (.slice A1 n1 c1):=HBv3.out.cell 1
     have q1:=HBv3.out.frozen 1
     have q2:v3.cell? ⟨hx,3,none⟩=some (.slice A3 n3 c3):=HBv3.out.cell 3
     have q3:=HBv3.out.frozen 3
     have q4:(v3.setCell ⟨hx,1,none⟩ (.slice (some ⟨g1,0,none⟩) (n1+1) d1)).cell? ⟨hx,3,none⟩=some (.slice A3 n3 c3):=(HBv3.out.set_ 1 _).cell 3
     have q5:=(HBv3.out.set_ 1 (.slice (some ⟨g1,0,none⟩) (n1+1) d1)).frozen 3
     refine wpAnyL_late (i:=11) rfl (by kernel_rfl) (by rfl) (by kernel_rfl) ?_
     go_simp
     (try simp only [sP])
     refine wpAnyL_late (i:=12) rfl (by kernel_rfl) (by rfl) (by kernel_rfl) ?_
     go_simp
     (try simp only [sP])
     refine wpAnyL_late (i:=13) rfl (by kernel_rfl) (by rfl) (by kernel_rfl) ?_
     go_simp
     (try simp only [sP])
     clear q0 q1 q2 q3 q4 q5
     refine wpAnyL_done (by kernel_rfl) ?_ _
     refine NoPanic.normal ?_
     have hkB:Kx B [3,307] w0 ((v3.setCell ⟨hx,1,none⟩ (.slice (some ⟨g1,0,none⟩) (n1+1) d1)).setCell ⟨hx,3,none⟩ (.slice (some ⟨gf,0,none⟩) (n3+1) df)):=(HQv3.out.2.1.set HBv3.out (Nat.le_trans hBb hhx) (by simp) 1 _).set (HBv3.out.set_ 1 _) (Nat.le_trans hBb hhx) (by simp) 3 _
     have HF:Hid (Bk ((v3.setCell ⟨hx,1,none⟩ (.slice (some ⟨g1,0,none⟩) (n1+1) d1)).setCell ⟨hx,3,none⟩ (.slice (some ⟨gf,0,none⟩) (n3+1) df)) hx 307 #[.string nm,.slice (some ⟨g1,0,none⟩) (n1+1) d1,.slice A2 n2 c2,.slice (some ⟨gf,0,none⟩) (n3+1) df,.slice A4 n4 c4,.slice OA on oc,.slice PA pn pc]/\SyR ((v3.setCell ⟨hx,1,none⟩ (.slice (some ⟨g1,0,none⟩) (n1+1) d1)).setCell ⟨hx,3,none⟩ (.slice (some ⟨gf,0,none⟩) (n3+1) df)) base (some ⟨g1,0,none⟩) (n1+1) d1 (l1++[(i:Int)]) A2 n2 c2 l2 (some ⟨gf,0,none⟩) (n3+1) df (l3++[(i:Int)]) A4 n4 c4 l4/\StrSt ((v3.setCell ⟨hx,1,none⟩ (.slice (some ⟨g1,0,none⟩) (n1+1) d1)).setCell ⟨hx,3,none⟩ (.slice (some ⟨gf,0,none⟩) (n3+1) df)) B s/\Fq [s] wI ((v3.setCell ⟨hx,1,none⟩ (.slice (some ⟨g1,0,none⟩) (n1+1) d1)).setCell ⟨hx,3,none⟩ (.slice (some ⟨gf,0,none⟩) (n3+1) df))/\Kx 0 [3,307] w0 ((v3.setCell ⟨hx,1,none⟩ (.slice (some ⟨g1,0,none⟩) (n1+1) d1)).setCell ⟨hx,3,none⟩ (.slice (some ⟨gf,0,none⟩) (n3+1) df))):=hid ⟨by simpa using (HBv3.out.set_ 1 (.slice (some ⟨g1,0,none⟩) (n1+1) d1)).set_ 3 (.slice (some ⟨gf,0,none⟩) (n3+1) df),HRv3.out.kx (D:=0) (F:=[307]) ((Kx.refl.set HBv3.out (Nat.zero_le _) (by simp) 1 _).set (HBv3.out.set_ 1 _) (Nat.zero_le _) (by simp) 3 _) (by decide),HST.out.kx hkB (Nat.le_refl _) (HST.out.lo hB) (by decide),(HQv3.out.1.set (.inr (Nat.le_trans hI hhx)) 1 _).set (.inr (Nat.le_trans hI hhx)) 3 _,hkB.mono (Nat.zero_le _) (fun _ h=>h)⟩
     (apply hN;exact HF)
 . go_simp
   obtain ⟨ne,hne⟩:∃ z,z=u0.heap.size:=⟨_,rfl⟩
   obtain ⟨v0,hv0⟩:∃ z,z=u0.alloc (.cells #[.int i64 (i:Int)] 3):=⟨_,rfl⟩
   have HBv0:Hid (Bk v0 hx 307 #[.string nm,.slice A1 n1 c1,.slice A2 n2 c2,.slice A3 n3 c3,.slice A4 n4 c4,.slice OA on oc,.slice PA pn pc]):=hid (by rw [hv0];exact HBu0.out.alloc _)
   have HRv0:Hid (SyR v0 base A1 n1 c1 l1 A2 n2 c2 l2 A3 n3 c3 l3 A4 n4 c4 l4):=hid (by rw [hv0];exact HRu0.out.kx (D:=0) (F:=[]) (Kx.refl.alloc _) (by simp))
   have HQv0:Hid (Fq [s] wI v0/\Kx B [3,307] w0 v0/\Kx 0 [3,307] w0 v0/\base<=v0.heap.size):=hid (by rw [hv0];obtain ⟨q0,q1,q2,q3⟩:=HQu0.out;exact ⟨q0.alloc _,q1.alloc _,q2.alloc _,by simp;omega⟩)
   have Hnev0:Hid (Bk v0 ne 3 #[.int i64 (i:Int)]):=hid (by rw [hv0,hne];exact Bk.new _ _ _)
   have HNE:Hid ((Value.slice A1 n1 c1).ownBlock≠some ne):=hid (fun e=>by (have h1:=(HRu0.out.o1.lt ne e).2;omega))
   rw [<- hv0,<- hne]
   clear hv0 hne
   refine And.intro (HS.out _ HBv0.out) ?_
   (try simp only [sP])
   refine wpAnyL_one (i:=3) rfl (by kernel_rfl) (by rfl) ?_
   go_simp
   obtain ⟨nb,hnb⟩:∃ z,z=v0.heap.size:=⟨_,rfl⟩
   obtain ⟨v1,hv1⟩:∃ z,z=v0.alloc (.cells #[.int i64 (i:Int)] 3):=⟨_,rfl⟩
   have HBv1:Hid (Bk v1 hx 307 #[.string nm,.slice A1 n1 c1,.slice A2 n2 c2,.slice A3 n3 c3,.slice A4 n4 c4,.slice OA on oc,.slice PA pn pc]):=hid (by rw [hv1];exact HBv0.out.alloc _)
   have HRv1:Hid (SyR v1 base A1 n1 c1 l1 A2 n2 c2 l2 A3 n3 c3 l3 A4 n4 c4 l4):=hid (by rw [hv1];exact HRv0.out.kx (D:=0) (F:=[]) (Kx.refl.alloc _) (by simp))
   have HQv1:Hid (Fq [s] wI v1/\Kx B [3,307] w0 v1/\Kx 0 [3,307] w0 v1/\base<=v1.heap.size):=hid (by rw [hv1];obtain ⟨q0,q1,q2,q3⟩:=HQv0.out;exact ⟨q0.alloc _,q1.alloc _,q2.alloc _,by simp;omega⟩)
   have Hnbv1:Hid (Bk v1 nb 3 #[.int i64 (i:Int)]):=hid (by rw [hv1,hnb];exact Bk.new _ _ _)
   have Hnev1:Hid (Bk v1 ne 3 #[.int i64 (i:Int)]):=hid (by rw [hv1];exact Hnev0.out.alloc _)
   rw [<- hv1,<- hnb]
   clear hv1 hnb
   refine And.intro (HS.out _ HBv1.out) ?_
   (try simp only [sP])
   refine wpAnyL_one (i:=4) rfl (by kernel_rfl) (by rfl) ?_
   refine wp_append_one (.tmp 28) (.tmp 30) 30 rfl base 3 i3 (.int i64 0) 1 8 Try.underlying30 hi3 hz30 hz31 hz32 rfl (by decide) (.slice A1 n1 c1) n1 (l1.map (Value.int .i64)) rfl HRv1.out.o1 nb 1 3 #[.int i64 (i:Int)] rfl Hnbv1.out rfl (by simp [Value.oneCell']) (n1+1) rfl (by unfold maxLen;omega) (by omega) HQv1.out.2.2.2 ?_
   intro g1 d1 v2 hown hgr hat
   have HBv2:Hid (Bk v2 hx 307 #[.string nm,.slice A1 n1 c1,.slice A2 n2 c2,.slice A3 n3 c3,.slice A4 n4 c4,.slice OA on oc,.slice PA pn pc]):=hid (HBv1.out.grown hgr (fun e=>own_ne HRv1.out.o1 HBv1.out (by decide) e.symm))
   have HRv2:Hid (SyR v2 base (some ⟨g1,0,none⟩) (n1+1) d1 (l1++[(i:Int)]) A2 n2 c2 l2 A3 n3 c3 l3 A4 n4 c4 l4):=hid (HRv1.out.push1 hown hgr hat)
   have HQv2:Hid (Fq [s] wI v2/\Kx B [3,307] w0 v2/\Kx 0 [3,307] w0 v2/\base<=v2.heap.size):=hid (by obtain ⟨q0,q1,q2,q3⟩:=HQv1.out;exact ⟨q0.grown hgr (fun g hg=>.inr (Nat.le_trans hI (HRv1.out.o1.lt g hg).1)),q1.grown HRv1.out.o1 hgr hBb (by simp),q2.grown HRv1.out.o1 hgr (Nat.zero_le _) (by simp),Nat.le_trans q3 hgr.size⟩)
   have Hnev2:Hid (Bk v2 ne 3 #[.int i64 (i:Int)]):=hid (Hnev1.out.grown hgr (fun e=>HNE.out e.symm))
   clear hown hgr hat
   refine And.intro (HS.out _ HBv2.out) ?_
   (try simp only [sP])
   refine wpL 10 (.pointer (some ⟨hx,1,none⟩)) 37 (HS.out _ HBv2.out) ?_
   (try simp only [sP])
   refine wpAnyL_one (i:=9) rfl (by kernel_rfl) (by rfl) ?_
   refine wp_append_one (.tmp 33) (.tmp 35) 30 rfl base 3 i3 (.int i64 0) 1 8 Try.underlying30 hi3 hz30 hz31 hz32 rfl (by decide) (.slice A3 n3 c3) n3 (l3.map (Value.int .i64)) rfl HRv2.out.o3 ne 1 3 #[.int i64 (i:Int)] rfl Hnev2.out rfl (by simp [Value.oneCell']) (n3+1) rfl (by unfold maxLen;omega) (by omega) HQv2.out.2.2.2 ?_
   intro gf df v3 hown hgr hat
   have HBv3:Hid (Bk v3 hx 307 #[.string nm,.slice A1 n1 c1,.slice A2 n2 c2,.slice A3 n3 c3,.slice A4 n4 c4,.slice OA on oc,.slice PA pn pc]):=hid (HBv2.out.grown hgr (fun e=>own_ne HRv2.out.o3 HBv2.out (by decide) e.symm))
   have HRv3:Hid (SyR v3 base (some ⟨g1,0,none⟩) (n1+1) d1 (l1++[(i:Int)]) A2 n2 c2 l2 (some ⟨gf,0,none⟩) (n3+1) df (l3++[(i:Int)]) A4 n4 c4 l4):=hid ((HRv2.out.sw13.push1 hown hgr hat).sw13)
   have HQv3:Hid (Fq [s] wI v3/\Kx B [3,307] w0 v3/\Kx 0 [3,307] w0 v3/\base<=v3.heap.size):=hid (by obtain ⟨q0,q1,q2,q3⟩:=HQv2.out;exact ⟨q0.grown hgr (fun g hg=>.inr (Nat.le_trans hI (HRv2.out.o3.lt g hg).1)),q1.grown HRv2.out.o3 hgr hBb (by simp),q2.grown HRv2.out.o3 hgr (Nat.zero_le _) (by simp),Nat.le_trans q3 hgr.size⟩)
   clear hown hgr hat
   refine And.intro (HS.out _ HBv3.out) ?_
   (try simp only [sP])
   have q0:v3.cell? ⟨hx,1,none⟩=some (.slice A1 n1 c1):=HBv3.out.cell 1
   have q1:=HBv3.out.frozen 1
   have q2:v3.cell? ⟨hx,3,none⟩=some (.slice A3 n3 c3):=HBv3.out.cell 3
   have q3:=HBv3.out.frozen 3
   have q4:(v3.setCell ⟨hx,1,none⟩ (.slice (some ⟨g1,0,none⟩) (n1+1) d1)).cell? ⟨hx,3,none⟩=some (.slice A3 n3 c3):=(HBv3.out.set_ 1 _).cell 3
   have q5:=(HBv3.out.set_ 1 (.slice (some ⟨g1,0,none⟩) (n1+1) d1)).frozen 3
   refine wpAnyL_late (i:=11) rfl (by kernel_rfl) (by rfl) (by kernel_rfl) ?_
   go_simp
   (try simp only [sP])
   refine wpAnyL_late (i:=12) rfl (by kernel_rfl) (by rfl) (by kernel_rfl) ?_
   go_simp
   (try simp only [sP])
   refine wpAnyL_late (i:=13) rfl (by kernel_rfl) (by rfl) (by kernel_rfl) ?_
   go_simp
   (try simp only [sP])
   clear q0 q1 q2 q3 q4 q5
   refine wpAnyL_done (by kernel_rfl) ?_ _
   refine NoPanic.normal ?_
   have hkB:Kx B [3,307] w0 ((v3.setCell ⟨hx,1,none⟩ (.slice (some ⟨g1,0,none⟩) (n1+1) d1)).setCell ⟨hx,3,none⟩ (.slice (some ⟨gf,0,none⟩) (n3+1) df)):=(HQv3.out.2.1.set HBv3.out (Nat.le_trans hBb hhx) (by simp) 1 _).set (HBv3.out.set_ 1 _) (Nat.le_trans hBb hhx) (by simp) 3 _
   have HF:Hid (Bk ((v3.setCell ⟨hx,1,none⟩ (.slice (some ⟨g1,0,none⟩) (n1+1) d1)).setCell ⟨hx,3,none⟩ (.slice (some ⟨gf,0,none⟩) (n3+1) df)) hx 307 #[.string nm,.slice (some ⟨g1,0,none⟩) (n1+1) d1,.slice A2 n2 c2,.slice (some ⟨gf,0,none⟩) (n3+1) df,.slice A4 n4 c4,.slice OA on oc,.slice PA pn pc]/\SyR ((v3.setCell ⟨hx,1,none⟩ (.slice (some ⟨g1,0,none⟩) (n1+1) d1)).setCell ⟨hx,3,none⟩ (.slice (some ⟨gf,0,none⟩) (n3+1) df)) base (some ⟨g1,0,none⟩) (n1+1) d1 (l1++[(i:Int)]) A2 n2 c2 l2 (some ⟨gf,0,none⟩) (n3+1) df (l3++[(i:Int)]) A4 n4 c4 l4/\StrSt ((v3.setCell ⟨hx,1,none⟩ (.slice (some ⟨g1,0,none⟩) (n1+1) d1)).setCell ⟨hx,3,none⟩ (.slice (some ⟨gf,0,none⟩) (n3+1) df)) B s/\Fq [s] wI ((v3.setCell ⟨hx,1,none⟩ (.slice (some ⟨g1,0,none⟩) (n1+1) d1)).setCell ⟨hx,3,none⟩ (.slice (some ⟨gf,0,none⟩) (n3+1) df))/\Kx 0 [3,307] w0 ((v3.setCell ⟨hx,1,none⟩ (.slice (some ⟨g1,0,none⟩) (n1+1) d1)).setCell ⟨hx,3,none⟩ (.slice (some ⟨gf,0,none⟩) (n3+1) df))):=hid ⟨by simpa using (HBv3.out.set_ 1 (.slice (some ⟨g1,0,none⟩) (n1+1) d1)).set_ 3 (.slice (some ⟨gf,0,none⟩) (n3+1) df),HRv3.out.kx (D:=0) (F:=[307]) ((Kx.refl.set HBv3.out (Nat.zero_le _) (by simp) 1 _).set (HBv3.out.set_ 1 _) (Nat.zero_le _) (by simp) 3 _) (by decide),HST.out.kx hkB (Nat.le_refl _) (HST.out.lo hB) (by decide),(HQv3.out.1.set (.inr (Nat.le_trans hI hhx)) 1 _).set (.inr (Nat.le_trans hI hhx)) 3 _,hkB.mono (Nat.zero_le _) (fun _ h=>h)⟩
   (apply hN;exact HF)
noncomputable def syR9:Code:=(Try.f198.body.bind (rgnN 9)).getD .skip
set_option maxHeartbeats 8000000 in
theorem sy9_any {x0 x1 x2 x3 x4 x5 x6 x9 Aa Ab Ac Ad Ae Af Ag Ah Ai Aj Ak Al Am Ao Ap Aq Ar Au Av Aw Ax Ay Az A7 A9 Be Bl Bu Bv Bw B0 B1 B2 B3 B4 B5 B6 B7 B8 B9 Cg Ch Ci Cj Ck Cp Cq Cr Cs Cu Cw Cx Cy Cz C0 C1 C2 C3 C4 C5 C6 C7 C8 C9 Da Db Dc Dd De Dg Dh Di Dj Dk Dl Dm Dn Dp Dq Dr Ds Dt Du Dv Dw Dx Dy D0 D1 D3 D4 D5 D6 D7 D8 D9 Ee Ef Ei Ek El Em En Eo Es Et Eu Ev Ew Ex Ey Ez E0 E1 E2 E3 E4 E5 E6 E7 E8 E9 Fa Fb Ff Fg Fh Fi Fj Fk Fl Fm Fn Fp Fs Ft Fu Fv Fx Fy Fz F0 F1 F2 F3 F4 F5 F6 F7 F8 F9 Ga Gd Gi Gp Gr Gs Gt Gu Gv Gw Gx Gy Gz G0 G1 G2 G3 G4 G5 G6 G7 G8 G9 Hb Hc Hd:Value} {Q:Exit->Act->World->Prop} {wI w0:World} {B base s hx i:Nat} {nm:ByteArray} {A1 A2 A3 A4 OA PA:Option Addr} {n1 c1 n2 c2 n3 c3 n4 c4 on oc pn pc:Nat} {l1 l2 l3 l4:List Int}
 (hb:Bk w0 hx 307 #[.string nm,.slice A1 n1 c1,.slice A2 n2 c2,.slice A3 n3 c3,.slice A4 n4 c4,.slice OA on oc,.slice PA pn pc]) (hR:SyR w0 base A1 n1 c1 l1 A2 n2 c2 l2 A3 n3 c3 l3 A4 n4 c4 l4) (hst:StrSt w0 B s) (hB:B<=s) (hBb:B<=base) (hhx:base<=hx) (hQ:Fq [s] wI w0) (hI:wI.heap.size<=base) (hb0:base<=w0.heap.size) (hn1:n1<=1000) (hnf:n4<=1000)
 (hN:∀ (Iw Ix Iy Iz I2 I3 I4 I5 I6 I7 I8 I9:Value) (g1 d1 gf df:Nat) (w':World),Hid (Bk w' hx 307 #[.string nm,.slice (some ⟨g1,0,none⟩) (n1+1) d1,.slice A2 n2 c2,.slice A3 n3 c3,.slice (some ⟨gf,0,none⟩) (n4+1) df,.slice OA on oc,.slice PA pn pc]/\SyR w' base (some ⟨g1,0,none⟩) (n1+1) d1 (l1++[(i:Int)]) A2 n2 c2 l2 A3 n3 c3 l3 (some ⟨gf,0,none⟩) (n4+1) df (l4++[(i:Int)])/\StrSt w' B s/\Fq [s] wI w'/\Kx 0 [3,307] w0 w')->Q .normal ⟨#[x0,x1,x2,x3,x4,x5,x6,.pointer (some ⟨hx,0,none⟩),.int i64 (i:Int),x9,Aa,Ab,Ac,Ad,Ae,Af,Ag,Ah,Ai,Aj,Ak,Al,Am,Ao,Ap,Aq,Ar,Au,Av,Aw,Ax,Ay,Az,A7,A9,Be,Bl,Bu,Bv,Bw,B0,Iw,Ix,Iy,Iz,I2,I3,I4,I5,I6,I7,I8,I9,Cj,Ck,Cp,Cq,Cr,Cs,Cu,Cw,Cx,Cy,Cz,C0,C1,C2,C3,C4,C5,C6,C7,C8,C9,Da,Db,Dc,Dd,De,Dg,Dh,Di,Dj,Dk,Dl,Dm,Dn,Dp,Dq,Dr,Ds,Dt,Du,Dv,Dw,Dx,Dy,D0,D1,D3,D4,D5,D6,D7,D8,D9,Ee,Ef,Ei,Ek,El,Em,En,Eo,Es,Et,Eu,Ev,Ew,Ex,Ey,Ez,E0,E1,E2,E3,E4,E5,E6,E7,E8,E9,Fa,Fb,Ff,Fg,Fh,Fi,Fj,Fk,Fl,Fm,Fn,Fp,Fs,Ft,Fu,Fv,Fx,Fy,Fz,F0,F1,F2,F3,F4,F5,F6,F7,F8,F9,Ga,Gd,Gi,Gp,Gr,Gs,Gt,Gu,Gv,Gw,Gx,Gy,Gz,G0,G1,G2,G3,G4,G5,G6,G7,G8,G9,Hb,Hc,Hd],[]⟩ w') :
 Code.wp Try.prog syR9 Q ⟨#[x0,x1,x2,x3,x4,x5,x6,.pointer (some ⟨hx,0,none⟩),.int i64 (i:Int),x9,Aa,Ab,Ac,Ad,Ae,Af,Ag,Ah,Ai,Aj,Ak,Al,Am,Ao,Ap,Aq,Ar,Au,Av,Aw,Ax,Ay,Az,A7,A9,Be,Bl,Bu,Bv,Bw,B0,B1,B2,B3,B4,B5,B6,B7,B8,B9,Cg,Ch,Ci,Cj,Ck,Cp,Cq,Cr,Cs,Cu,Cw,Cx,Cy,Cz,C0,C1,C2,C3,C4,C5,C6,C7,C8,C9,Da,Db,Dc,Dd,De,Dg,Dh,Di,Dj,Dk,Dl,Dm,Dn,Dp,Dq,Dr,Ds,Dt,Du,Dv,Dw,Dx,Dy,D0,D1,D3,D4,D5,D6,D7,D8,D9,Ee,Ef,Ei,Ek,El,Em,En,Eo,Es,Et,Eu,Ev,Ew,Ex,Ey,Ez,E0,E1,E2,E3,E4,E5,E6,E7,E8,E9,Fa,Fb,Ff,Fg,Fh,Fi,Fj,Fk,Fl,Fm,Fn,Fp,Fs,Ft,Fu,Fv,Fx,Fy,Fz,F0,F1,F2,F3,F4,F5,F6,F7,F8,F9,Ga,Gd,Gi,Gp,Gr,Gs,Gt,Gu,Gv,Gw,Gx,Gy,Gz,G0,G1,G2,G3,G4,G5,G6,G7,G8,G9,Hb,Hc,Hd],[]⟩ w0:=by
 conv=>arg 2;whnf
 obtain ⟨i3,hi3,hz30,hz31,hz32⟩:=info_parts T.info3
 obtain ⟨u0,hu0⟩:∃ z,z=w0.drew:=⟨_,rfl⟩
 have HBu0:Hid (Bk u0 hx 307 #[.string nm,.slice A1 n1 c1,.slice A2 n2 c2,.slice A3 n3 c3,.slice A4 n4 c4,.slice OA on oc,.slice PA pn pc]):=hid (by rw [hu0];exact hb.drew)
 have HRu0:Hid (SyR u0 base A1 n1 c1 l1 A2 n2 c2 l2 A3 n3 c3 l3 A4 n4 c4 l4):=hid (by rw [hu0];exact hR.kx (D:=0) (F:=[]) Kx.refl.drew (by simp))
 have HQu0:Hid (Fq [s] wI u0/\Kx B [3,307] w0 u0/\Kx 0 [3,307] w0 u0/\base<=u0.heap.size):=hid (by rw [hu0];exact ⟨hQ.drew,Kx.refl.drew,Kx.refl.drew,hb0⟩)
 have HST:=hid hst
 have HS:Hid (∀ wz,Bk wz hx 307 #[.string nm,.slice A1 n1 c1,.slice A2 n2 c2,.slice A3 n3 c3,.slice A4 n4 c4,.slice OA on oc,.slice PA pn pc]->wz.cell? ⟨hx,1,none⟩=some (.slice A1 n1 c1)/\wz.cell? ⟨hx,4,none⟩=some (.slice A4 n4 c4)):=hid fun wz h=>⟨h.cell 1,h.cell 4⟩
 clear hb hR hst hQ
 refine wp_region_noPanic ?_
 refine wp_region_L (S:=fun wz=>wz.cell? ⟨hx,1,none⟩=some (.slice A1 n1 c1)/\wz.cell? ⟨hx,4,none⟩=some (.slice A4 n4 c4)) (late:=[11,12,13]) (by kernel_rfl) ?_
 rw [<- hu0]
 clear hu0
 refine wpL 0 (.pointer (some ⟨hx,1,none⟩)) 41 (HS.out _ HBu0.out) ?_
 (try simp only [sP])
 refine wpL 1 (.slice A1 n1 c1) 42 (HS.out _ HBu0.out) ?_
 (try simp only [sP])
 refine wpL 2 (.int i64 (i:Int)) 43 (HS.out _ HBu0.out) ?_
 (try simp only [sP])
 refine wpL 5 (.pointer (some ⟨hx,4,none⟩)) 46 (HS.out _ HBu0.out) ?_
 (try simp only [sP])
 refine wpL 6 (.slice A4 n4 c4) 47 (HS.out _ HBu0.out) ?_
 (try simp only [sP])
 refine wpL 7 (.int i64 (i:Int)) 48 (HS.out _ HBu0.out) ?_
 (try simp only [sP])
 refine wpAnyL_two (i:=3) (j:=8) rfl rfl (by kernel_rfl) (by rfl) (by rfl) ?_ ?_
 . go_simp
   obtain ⟨nb,hnb⟩:∃ z,z=u0.heap.size:=⟨_,rfl⟩
   obtain ⟨v0,hv0⟩:∃ z,z=u0.alloc (.cells #[.int i64 (i:Int)] 3):=⟨_,rfl⟩
   have HBv0:Hid (Bk v0 hx 307 #[.string nm,.slice A1 n1 c1,.slice A2 n2 c2,.slice A3 n3 c3,.slice A4 n4 c4,.slice OA on oc,.slice PA pn pc]):=hid (by rw [hv0];exact HBu0.out.alloc _)
   have HRv0:Hid (SyR v0 base A1 n1 c1 l1 A2 n2 c2 l2 A3 n3 c3 l3 A4 n4 c4 l4):=hid (by rw [hv0];exact HRu0.out.kx (D:=0) (F:=[]) (Kx.refl.alloc _) (by simp))
   have HQv0:Hid (Fq [s] wI v0/\Kx B [3,307] w0 v0/\Kx 0 [3,307] w0 v0/\base<=v0.heap.size):=hid (by rw [hv0];obtain ⟨q0,q1,q2,q3⟩:=HQu0.out;exact ⟨q0.alloc _,q1.alloc _,q2.alloc _,by simp;omega⟩)
   have Hnbv0:Hid (Bk v0 nb 3 #[.int i64 (i:Int)]):=hid (by rw [hv0,hnb];exact Bk.new _ _ _)
   rw [<- hv0,<- hnb]
   clear hv0 hnb
   refine And.intro (HS.out _ HBv0.out) ?_
   (try simp only [sP])
   refine wpAnyL_two (i:=4) (j:=8) rfl rfl (by kernel_rfl) (by rfl) (by rfl) ?_ ?_
   . refine wp_append_one (.tmp 42) (.tmp 44) 30 rfl base 3 i3 (.int i64 0) 1 8 Try.underlying30 hi3 hz30 hz31 hz32 rfl (by decide) (.slice A1 n1 c1) n1 (l1.map (Value.int .i64)) rfl HRv0.out.o1 nb 1 3 #[.int i64 (i:Int)] rfl Hnbv0.out rfl (by simp [Value.oneCell']) (n1+1) rfl (by unfold maxLen;omega) (by omega) HQv0.out.2.2.2 ?_
     intro g1 d1 v1 hown hgr hat
     have HBv1:Hid (Bk v1 hx 307 #[.string nm,.slice A1 n1 c1,.slice A2 n2 c2,.slice A3 n3 c3,.slice A4 n4 c4,.slice OA on oc,.slice PA pn pc]):=hid (HBv0.out.grown hgr (fun e=>own_ne HRv0.out.o1 HBv0.out (by decide) e.symm))
     have HRv1:Hid (SyR v1 base (some ⟨g1,0,none⟩) (n1+1) d1 (l1++[(i:Int)]) A2 n2 c2 l2 A3 n3 c3 l3 A4 n4 c4 l4):=hid (HRv0.out.push1 hown hgr hat)
     have HQv1:Hid (Fq [s] wI v1/\Kx B [3,307] w0 v1/\Kx 0 [3,307] w0 v1/\base<=v1.heap.size):=hid (by obtain ⟨q0,q1,q2,q3⟩:=HQv0.out;exact ⟨q0.grown hgr (fun g hg=>.inr (Nat.le_trans hI (HRv0.out.o1.lt g hg).1)),q1.grown HRv0.out.o1 hgr hBb (by simp),q2.grown HRv0.out.o1 hgr (Nat.zero_le _) (by simp),Nat.le_trans q3 hgr.size⟩)
     clear hown hgr hat
     refine And.intro (HS.out _ HBv1.out) ?_
     (try simp only [sP])
     refine wpL 10 (.pointer (some ⟨hx,1,none⟩)) 51 (HS.out _ HBv1.out) ?_
     (try simp only [sP])
     refine wpAnyL_one (i:=8) rfl (by kernel_rfl) (by rfl) ?_
     go_simp
     obtain ⟨ne,hne⟩:∃ z,z=v1.heap.size:=⟨_,rfl⟩
     obtain ⟨v2,hv2⟩:∃ z,z=v1.alloc (.cells #[.int i64 (i:Int)] 3):=⟨_,rfl⟩
     have HBv2:Hid (Bk v2 hx 307 #[.string nm,.slice A1 n1 c1,.slice A2 n2 c2,.slice A3 n3 c3,.slice A4 n4 c4,.slice OA on oc,.slice PA pn pc]):=hid (by rw [hv2];exact HBv1.out.alloc _)
     have HRv2:Hid (SyR v2 base (some ⟨g1,0,none⟩) (n1+1) d1 (l1++[(i:Int)]) A2 n2 c2 l2 A3 n3 c3 l3 A4 n4 c4 l4):=hid (by rw [hv2];exact HRv1.out.kx (D:=0) (F:=[]) (Kx.refl.alloc _) (by simp))
     have HQv2:Hid (Fq [s] wI v2/\Kx B [3,307] w0 v2/\Kx 0 [3,307] w0 v2/\base<=v2.heap.size):=hid (by rw [hv2];obtain ⟨q0,q1,q2,q3⟩:=HQv1.out;exact ⟨q0.alloc _,q1.alloc _,q2.alloc _,by simp;omega⟩)
     have Hnev2:Hid (Bk v2 ne 3 #[.int i64 (i:Int)]):=hid (by rw [hv2,hne];exact Bk.new _ _ _)
     rw [<- hv2,<- hne]
     clear hv2 hne
     refine And.intro (HS.out _ HBv2.out) ?_
     (try simp only [sP])
     refine wpAnyL_one (i:=9) rfl (by kernel_rfl) (by rfl) ?_
     refine wp_append_one (.tmp 47) (.tmp 49) 30 rfl base 3 i3 (.int i64 0) 1 8 Try.underlying30 hi3 hz30 hz31 hz32 rfl (by decide) (.slice A4 n4 c4) n4 (l4.map (Value.int .i64)) rfl HRv2.out.o4 ne 1 3 #[.int i64 (i:Int)] rfl Hnev2.out rfl (by simp [Value.oneCell']) (n4+1) rfl (by unfold maxLen;omega) (by omega) HQv2.out.2.2.2 ?_
     intro gf df v3 hown hgr hat
     have HBv3:Hid (Bk v3 hx 307 #[.string nm,.slice A1 n1 c1,.slice A2 n2 c2,.slice A3 n3 c3,.slice A4 n4 c4,.slice OA on oc,.slice PA pn pc]):=hid (HBv2.out.grown hgr (fun e=>own_ne HRv2.out.o4 HBv2.out (by decide) e.symm))
     have HRv3:Hid (SyR v3 base (some ⟨g1,0,none⟩) (n1+1) d1 (l1++[(i:Int)]) A2 n2 c2 l2 A3 n3 c3 l3 (some ⟨gf,0,none⟩) (n4+1) df (l4++[(i:Int)])):=hid ((HRv2.out.sw14.push1 hown hgr hat).sw14)
     have HQv3:Hid (Fq [s] wI v3/\Kx B [3,307] w0 v3/\Kx 0 [3,307] w0 v3/\base<=v3.heap.size):=hid (by obtain ⟨q0,q1,q2,q3⟩:=HQv2.out;exact ⟨q0.grown hgr (fun g hg=>.inr (Nat.le_trans hI (HRv2.out.o4.lt g hg).1)),q1.grown HRv2.out.o4 hgr hBb (by simp),q2.grown HRv2.out.o4 hgr (Nat.zero_le _) (by simp),Nat.le_trans q3 hgr.size⟩)
     clear hown hgr hat
     refine And.intro (HS.out _ HBv3.out) ?_
     (try simp only [sP])
     have q0:v3.cell? ⟨hx,1,none⟩=some (.slice A1 n1 c1):=HBv3.out.cell 1
     have q1:=HBv3.out.frozen 1
     have q2:v3.cell? ⟨hx,4,none⟩=some (.slice A4 n4 c4):=HBv3.out.cell 4
     have q3:=HBv3.out.frozen 4
     have q4:(v3.setCell ⟨hx,1,none⟩ (.slice (some ⟨g1,0,none⟩) (n1+1) d1)).cell? ⟨hx,4,none⟩=some (.slice A4 n4 c4):=(HBv3.out.set_ 1 _).cell 4
     have q5:=(HBv3.out.set_ 1 (.slice (some ⟨g1,0,none⟩) (n1+1) d1)).frozen 4
     refine wpAnyL_late (i:=11) rfl (by kernel_rfl) (by rfl) (by kernel_rfl) ?_
     go_simp
     (try simp only [sP])
     refine wpAnyL_late (i:=12) rfl (by kernel_rfl) (by rfl) (by kernel_rfl) ?_
     go_simp
     (try simp only [sP])
     refine wpAnyL_late (i:=13) rfl (by kernel_rfl) (by rfl) (by kernel_rfl) ?_
     go_simp
     (try simp only [sP])
     clear q0 q1 q2 q3 q4 q5
     refine wpAnyL_done (by kernel_rfl) ?_ _
     refine NoPanic.normal ?_
     have hkB:Kx B [3,307] w0 ((v3.setCell ⟨hx,1,none⟩ (.slice (some ⟨g1,0,none⟩) (n1+1) d1)).setCell ⟨hx,4,none⟩ (.slice (some ⟨gf,0,none⟩) (n4+1) df)):=(HQv3.out.2.1.set HBv3.out (Nat.le_trans hBb hhx) (by simp) 1 _).set (HBv3.out.set_ 1 _) (Nat.le_trans hBb hhx) (by simp) 4 _
     have HF:Hid (Bk ((v3.setCell ⟨hx,1,none⟩ (.slice (some ⟨g1,0,none⟩) (n1+1) d1)).setCell ⟨hx,4,none⟩ (.slice (some ⟨gf,0,none⟩) (n4+1) df)) hx 307 #[.string nm,.slice (some ⟨g1,0,none⟩) (n1+1) d1,.slice A2 n2 c2,.slice A3 n3 c3,.slice (some ⟨gf,0,none⟩) (n4+1) df,.slice OA on oc,.slice PA pn pc]/\SyR ((v3.setCell ⟨hx,1,none⟩ (.slice (some ⟨g1,0,none⟩) (n1+1) d1)).setCell ⟨hx,4,none⟩ (.slice (some ⟨gf,0,none⟩) (n4+1) df)) base (some ⟨g1,0,none⟩) (n1+1) d1 (l1++[(i:Int)]) A2 n2 c2 l2 A3 n3 c3 l3 (some ⟨gf,0,none⟩) (n4+1) df (l4++[(i:Int)])/\StrSt ((v3.setCell ⟨hx,1,none⟩ (.slice (some ⟨g1,0,none⟩) (n1+1) d1)).setCell ⟨hx,4,none⟩ (.slice (some ⟨gf,0,none⟩) (n4+1) df)) B s/\Fq [s] wI ((v3.setCell ⟨hx,1,none⟩ (.slice (some ⟨g1,0,none⟩) (n1+1) d1)).setCell ⟨hx,4,none⟩ (.slice (some ⟨gf,0,none⟩) (n4+1) df))/\Kx 0 [3,307] w0 ((v3.setCell ⟨hx,1,none⟩ (.slice (some ⟨g1,0,none⟩) (n1+1) d1)).setCell ⟨hx,4,none⟩ (.slice (some ⟨gf,0,none⟩) (n4+1) df))):=hid ⟨by simpa using (HBv3.out.set_ 1 (.slice (some ⟨g1,0,none⟩) (n1+1) d1)).set_ 4 (.slice (some ⟨gf,0,none⟩) (n4+1) df),HRv3.out.kx (D:=0) (F:=[307]) ((Kx.refl.set HBv3.out (Nat.zero_le _) (by simp) 1 _).set (HBv3.out.set_ 1 _) (Nat.zero_le _) (by simp) 4 _) (by decide),HST.out.kx hkB (Nat.le_refl _) (HST.out.lo hB) (by decide),(HQv3.out.1.set (.inr (Nat.le_trans hI hhx)) 1 _).set (.inr (Nat.le_trans hI hhx)) 4 _,hkB.mono (Nat.zero_le _) (fun _ h=>h)⟩
     (apply hN;exact HF)
   . go_simp
     obtain ⟨ne,hne⟩:∃ z,z=v0.heap.size:=⟨_,rfl⟩
     obtain ⟨v1,hv1⟩:∃ z,z=v0.alloc (.cells #[.int i64 (i:Int)] 3):=⟨_,rfl⟩
     have HBv1:Hid (Bk v1 hx 307 #[.string nm,.slice A1 n1 c1,.slice A2 n2 c2,.slice A3 n3 c3,.slice A4 n4 c4,.slice OA on oc,.slice PA pn pc]):=hid (by rw [hv1];exact HBv0.out.alloc _)
     have HRv1:Hid (SyR v1 base A1 n1 c1 l1 A2 n2 c2 l2 A3 n3 c3 l3 A4 n4 c4 l4):=hid (by rw [hv1];exact HRv0.out.kx (D:=0) (F:=[]) (Kx.refl.alloc _) (by simp))
     have HQv1:Hid (Fq [s] wI v1/\Kx B [3,307] w0 v1/\Kx 0 [3,307] w0 v1/\base<=v1.heap.size):=hid (by rw [hv1];obtain ⟨q0,q1,q2,q3⟩:=HQv0.out;exact ⟨q0.alloc _,q1.alloc _,q2.alloc _,by simp;omega⟩)
     have Hnev1:Hid (Bk v1 ne 3 #[.int i64 (i:Int)]):=hid (by rw [hv1,hne];exact Bk.new _ _ _)
     have Hnbv1:Hid (Bk v1 nb 3 #[.int i64 (i:Int)]):=hid (by rw [hv1];exact Hnbv0.out.alloc _)
     have HNE:Hid ((Value.slice A1 n1 c1).ownBlock≠some ne):=hid (fun e=>by (have h1:=(HRv0.out.o1.lt ne e).2;omega))
     rw [<- hv1,<- hne]
     clear hv1 hne
     refine And.intro (HS.out _ HBv1.out) ?_
     (try simp only [sP])
     refine wpAnyL_one (i:=4) rfl (by kernel_rfl) (by rfl) ?_
     refine wp_append_one (.tmp 42) (.tmp 44) 30 rfl base 3 i3 (.int i64 0) 1 8 Try.underlying30 hi3 hz30 hz31 hz32 rfl (by decide) (.slice A1 n1 c1) n1 (l1.map (Value.int .i64)) rfl HRv1.out.o1 nb 1 3 #[.int i64 (i:Int)] rfl Hnbv1.out rfl (by simp [Value.oneCell']) (n1+1) rfl (by unfold maxLen;omega) (by omega) HQv1.out.2.2.2 ?_
     intro g1 d1 v2 hown hgr hat
     have HBv2:Hid (Bk v2 hx 307 #[.string nm,.slice A1 n1 c1,.slice A2 n2 c2,.slice A3 n3 c3,.slice A4 n4 c4,.slice OA on oc,.slice PA pn pc]):=hid (HBv1.out.grown hgr (fun e=>own_ne HRv1.out.o1 HBv1.out (by decide) e.symm))
     have HRv2:Hid (SyR v2 base (some ⟨g1,0,none⟩) (n1+1) d1 (l1++[(i:Int)]) A2 n2 c2 l2 A3 n3 c3 l3 A4 n4 c4 l4):=hid (HRv1.out.push1 hown hgr hat)
     have HQv2:Hid (Fq [s] wI v2/\Kx B [3,307] w0 v2/\Kx 0 [3,307] w0 v2/\base<=v2.heap.size):=hid (by obtain ⟨q0,q1,q2,q3⟩:=HQv1.out;exact ⟨q0.grown hgr (fun g hg=>.inr (Nat.le_trans hI (HRv1.out.o1.lt g hg).1)),q1.grown HRv1.out.o1 hgr hBb (by simp),q2.grown HRv1.out.o1 hgr (Nat.zero_le _) (by simp),Nat.le_trans q3 hgr.size⟩)
     have Hnev2:Hid (Bk v2 ne 3 #[.int i64 (i:Int)]):=hid (Hnev1.out.grown hgr (fun e=>HNE.out e.symm))
     clear hown hgr hat
     refine And.intro (HS.out _ HBv2.out) ?_
     (try simp only [sP])
     refine wpL 10 (.pointer (some ⟨hx,1,none⟩)) 51 (HS.out _ HBv2.out) ?_
     (try simp only [sP])
     refine wpAnyL_one (i:=9) rfl (by kernel_rfl) (by rfl) ?_
     refine wp_append_one (.tmp 47) (.tmp 49) 30 rfl base 3 i3 (.int i64 0) 1 8 Try.underlying30 hi3 hz30 hz31 hz32 rfl (by decide) (.slice A4 n4 c4) n4 (l4.map (Value.int .i64)) rfl HRv2.out.o4 ne 1 3 #[.int i64 (i:Int)] rfl Hnev2.out rfl (by simp [Value.oneCell']) (n4+1) rfl (by unfold maxLen;omega) (by omega) HQv2.out.2.2.2 ?_
     intro gf df v3 hown hgr hat
     have HBv3:Hid (Bk v3 hx 307 #[.string nm,.slice A1 n1 c1,.slice A2 n2 c2,.slice A3 n3 c3,.slice A4 n4 c4,.slice OA on oc,.slice PA pn pc]):=hid (HBv2.out.grown hgr (fun e=>own_ne HRv2.out.o4 HBv2.out (by decide) e.symm))
     have HRv3:Hid (SyR v3 base (some ⟨g1,0,none⟩) (n1+1) d1 (l1++[(i:Int)]) A2 n2 c2 l2 A3 n3 c3 l3 (some ⟨gf,0,none⟩) (n4+1) df (l4++[(i:Int)])):=hid ((HRv2.out.sw14.push1 hown hgr hat).sw14)
     have HQv3:Hid (Fq [s] wI v3/\Kx B [3,307] w0 v3/\Kx 0 [3,307] w0 v3/\base<=v3.heap.size):=hid (by obtain ⟨q0,q1,q2,q3⟩:=HQv2.out;exact ⟨q0.grown hgr (fun g hg=>.inr (Nat.le_trans hI (HRv2.out.o4.lt g hg).1)),q1.grown HRv2.out.o4 hgr hBb (by simp),q2.grown HRv2.out.o4 hgr (Nat.zero_le _) (by simp),Nat.le_trans q3 hgr.size⟩)
     clear hown hgr hat
     refine And.intro (HS.out _ HBv3.out) ?_
     (try simp only [sP])
     have q0:v3.cell? ⟨hx,1,none⟩=some (.slice A1 n1 c1):=HBv3.out.cell 1
     have q1:=HBv3.out.frozen 1
     have q2:v3.cell? ⟨hx,4,none⟩=some (.slice A4 n4 c4):=HBv3.out.cell 4
     have q3:=HBv3.out.frozen 4
     have q4:(v3.setCell ⟨hx,1,none⟩ (.slice (some ⟨g1,0,none⟩) (n1+1) d1)).cell? ⟨hx,4,none⟩=some (.slice A4 n4 c4):=(HBv3.out.set_ 1 _).cell 4
     have q5:=(HBv3.out.set_ 1 (.slice (some ⟨g1,0,none⟩) (n1+1) d1)).frozen 4
     refine wpAnyL_late (i:=11) rfl (by kernel_rfl) (by rfl) (by kernel_rfl) ?_
     go_simp
     (try simp only [sP])
     refine wpAnyL_late (i:=12) rfl (by kernel_rfl) (by rfl) (by kernel_rfl) ?_
     go_simp
     (try simp only [sP])
     refine wpAnyL_late (i:=13) rfl (by kernel_rfl) (by rfl) (by kernel_rfl) ?_
     go_simp
     (try simp only [sP])
     clear q0 q1 q2 q3 q4 q5
     refine wpAnyL_done (by kernel_rfl) ?_ _
     refine NoPanic.normal ?_
     have hkB:Kx B [3,307] w0 ((v3.setCell ⟨hx,1,none⟩ (.slice (some ⟨g1,0,none⟩) (n1+1) d1)).setCell ⟨hx,4,none⟩ (.slice (some ⟨gf,0,none⟩) (n4+1) df)):=(HQv3.out.2.1.set HBv3.out (Nat.le_trans hBb hhx) (by simp) 1 _).set (HBv3.out.set_ 1 _) (Nat.le_trans hBb hhx) (by simp) 4 _
     have HF:Hid (Bk ((v3.setCell ⟨hx,1,none⟩ (.slice (some ⟨g1,0,none⟩) (n1+1) d1)).setCell ⟨hx,4,none⟩ (.slice (some ⟨gf,0,none⟩) (n4+1) df)) hx 307 #[.string nm,.slice (some ⟨g1,0,none⟩) (n1+1) d1,.slice A2 n2 c2,.slice A3 n3 c3,.slice (some ⟨gf,0,none⟩) (n4+1) df,.slice OA on oc,.slice PA pn pc]/\SyR ((v3.setCell ⟨hx,1,none⟩ (.slice (some ⟨g1,0,none⟩) (n1+1) d1)).setCell ⟨hx,4,none⟩ (.slice (some ⟨gf,0,none⟩) (n4+1) df)) base (some ⟨g1,0,none⟩) (n1+1) d1 (l1++[(i:Int)]) A2 n2 c2 l2 A3 n3 c3 l3 (some ⟨gf,0,none⟩) (n4+1) df (l4++[(i:Int)])/\StrSt ((v3.setCell ⟨hx,1,none⟩ (.slice (some ⟨g1,0,none⟩) (n1+1) d1)).setCell ⟨hx,4,none⟩ (.slice (some ⟨gf,0,none⟩) (n4+1) df)) B s/\Fq [s] wI ((v3.setCell ⟨hx,1,none⟩ (.slice (some ⟨g1,0,none⟩) (n1+1) d1)).setCell ⟨hx,4,none⟩ (.slice (some ⟨gf,0,none⟩) (n4+1) df))/\Kx 0 [3,307] w0 ((v3.setCell ⟨hx,1,none⟩ (.slice (some ⟨g1,0,none⟩) (n1+1) d1)).setCell ⟨hx,4,none⟩ (.slice (some ⟨gf,0,none⟩) (n4+1) df))):=hid ⟨by simpa using (HBv3.out.set_ 1 (.slice (some ⟨g1,0,none⟩) (n1+1) d1)).set_ 4 (.slice (some ⟨gf,0,none⟩) (n4+1) df),HRv3.out.kx (D:=0) (F:=[307]) ((Kx.refl.set HBv3.out (Nat.zero_le _) (by simp) 1 _).set (HBv3.out.set_ 1 _) (Nat.zero_le _) (by simp) 4 _) (by decide),HST.out.kx hkB (Nat.le_refl _) (HST.out.lo hB) (by decide),(HQv3.out.1.set (.inr (Nat.le_trans hI hhx)) 1 _).set (.inr (Nat.le_trans hI hhx)) 4 _,hkB.mono (Nat.zero_le _) (fun _ h=>h)⟩
     (apply hN;exact HF)
 . go_simp
   obtain ⟨ne,hne⟩:∃ z,z=u0.heap.size:=⟨_,rfl⟩
   obtain ⟨v0,hv0⟩:∃ z,z=u0.alloc (.cells #[.int i64 (i:Int)] 3):=⟨_,rfl⟩
   have HBv0:Hid (Bk v0 hx 307 #[.string nm,.slice A1 n1 c1,.slice A2 n2 c2,.slice A3 n3 c3,.slice A4 n4 c4,.slice OA on oc,.slice PA pn pc]):=hid (by rw [hv0];exact HBu0.out.alloc _)
   have HRv0:Hid (SyR v0 base A1 n1 c1 l1 A2 n2 c2 l2 A3 n3 c3 l3 A4 n4 c4 l4):=hid (by rw [hv0];exact HRu0.out.kx (D:=0) (F:=[]) (Kx.refl.alloc _) (by simp))
   have HQv0:Hid (Fq [s] wI v0/\Kx B [3,307] w0 v0/\Kx 0 [3,307] w0 v0/\base<=v0.heap.size):=hid (by rw [hv0];obtain ⟨q0,q1,q2,q3⟩:=HQu0.out;exact ⟨q0.alloc _,q1.alloc _,q2.alloc _,by simp;omega⟩)
   have Hnev0:Hid (Bk v0 ne 3 #[.int i64 (i:Int)]):=hid (by rw [hv0,hne];exact Bk.new _ _ _)
   have HNE:Hid ((Value.slice A1 n1 c1).ownBlock≠some ne):=hid (fun e=>by (have h1:=(HRu0.out.o1.lt ne e).2;omega))
   rw [<- hv0,<- hne]
   clear hv0 hne
   refine And.intro (HS.out _ HBv0.out) ?_
   (try simp only [sP])
   refine wpAnyL_one (i:=3) rfl (by kernel_rfl) (by rfl) ?_
   go_simp
   obtain ⟨nb,hnb⟩:∃ z,z=v0.heap.size:=⟨_,rfl⟩
   obtain ⟨v1,hv1⟩:∃ z,z=v0.alloc (.cells #[.int i64 (i:Int)] 3):=⟨_,rfl⟩
   have HBv1:Hid (Bk v1 hx 307 #[.string nm,.slice A1 n1 c1,.slice A2 n2 c2,.slice A3 n3 c3,.slice A4 n4 c4,.slice OA on oc,.slice PA pn pc]):=hid (by rw [hv1];exact HBv0.out.alloc _)
   have HRv1:Hid (SyR v1 base A1 n1 c1 l1 A2 n2 c2 l2 A3 n3 c3 l3 A4 n4 c4 l4):=hid (by rw [hv1];exact HRv0.out.kx (D:=0) (F:=[]) (Kx.refl.alloc _) (by simp))
   have HQv1:Hid (Fq [s] wI v1/\Kx B [3,307] w0 v1/\Kx 0 [3,307] w0 v1/\base<=v1.heap.size):=hid (by rw [hv1];obtain ⟨q0,q1,q2,q3⟩:=HQv0.out;exact ⟨q0.alloc _,q1.alloc _,q2.alloc _,by simp;omega⟩)
   have Hnbv1:Hid (Bk v1 nb 3 #[.int i64 (i:Int)]):=hid (by rw [hv1,hnb];exact Bk.new _ _ _)
   have Hnev1:Hid (Bk v1 ne 3 #[.int i64 (i:Int)]):=hid (by rw [hv1];exact Hnev0.out.alloc _)
   rw [<- hv1,<- hnb]
   clear hv1 hnb
   refine And.intro (HS.out _ HBv1.out) ?_
   (try simp only [sP])
   refine wpAnyL_one (i:=4) rfl (by kernel_rfl) (by rfl) ?_
   refine wp_append_one (.tmp 42) (.tmp 44) 30 rfl base 3 i3 (.int i64 0) 1 8 Try.underlying30 hi3 hz30 hz31 hz32 rfl (by decide) (.slice A1 n1 c1) n1 (l1.map (Value.int .i64)) rfl HRv1.out.o1 nb 1 3 #[.int i64 (i:Int)] rfl Hnbv1.out rfl (by simp [Value.oneCell']) (n1+1) rfl (by unfold maxLen;omega) (by omega) HQv1.out.2.2.2 ?_
   intro g1 d1 v2 hown hgr hat
   have HBv2:Hid (Bk v2 hx 307 #[.string nm,.slice A1 n1 c1,.slice A2 n2 c2,.slice A3 n3 c3,.slice A4 n4 c4,.slice OA on oc,.slice PA pn pc]):=hid (HBv1.out.grown hgr (fun e=>own_ne HRv1.out.o1 HBv1.out (by decide) e.symm))
   have HRv2:Hid (SyR v2 base (some ⟨g1,0,none⟩) (n1+1) d1 (l1++[(i:Int)]) A2 n2 c2 l2 A3 n3 c3 l3 A4 n4 c4 l4):=hid (HRv1.out.push1 hown hgr hat)
   have HQv2:Hid (Fq [s] wI v2/\Kx B [3,307] w0 v2/\Kx 0 [3,307] w0 v2/\base<=v2.heap.size):=hid (by obtain ⟨q0,q1,q2,q3⟩:=HQv1.out;exact ⟨q0.grown hgr (fun g hg=>.inr (Nat.le_trans hI (HRv1.out.o1.lt g hg).1)),q1.grown HRv1.out.o1 hgr hBb (by simp),q2.grown HRv1.out.o1 hgr (Nat.zero_le _) (by simp),Nat.le_trans q3 hgr.size⟩)
   have Hnev2:Hid (Bk v2 ne 3 #[.int i64 (i:Int)]):=hid (Hnev1.out.grown hgr (fun e=>HNE.out e.symm))
   clear hown hgr hat
   refine And.intro (HS.out _ HBv2.out) ?_
   (try simp only [sP])
   refine wpL 10 (.pointer (some ⟨hx,1,none⟩)) 51 (HS.out _ HBv2.out) ?_
   (try simp only [sP])
   refine wpAnyL_one (i:=9) rfl (by kernel_rfl) (by rfl) ?_
   refine wp_append_one (.tmp 47) (.tmp 49) 30 rfl base 3 i3 (.int i64 0) 1 8 Try.underlying30 hi3 hz30 hz31 hz32 rfl (by decide) (.slice A4 n4 c4) n4 (l4.map (Value.int .i64)) rfl HRv2.out.o4 ne 1 3 #[.int i64 (i:Int)] rfl Hnev2.out rfl (by simp [Value.oneCell']) (n4+1) rfl (by unfold maxLen;omega) (by omega) HQv2.out.2.2.2 ?_
   intro gf df v3 hown hgr hat
   have HBv3:Hid (Bk v3 hx 307 #[.string nm,.slice A1 n1 c1,.slice A2 n2 c2,.slice A3 n3 c3,.slice A4 n4 c4,.slice OA on oc,.slice PA pn pc]):=hid (HBv2.out.grown hgr (fun e=>own_ne HRv2.out.o4 HBv2.out (by decide) e.symm))
   have HRv3:Hid (SyR v3 base (some ⟨g1,0,none⟩) (n1+1) d1 (l1++[(i:Int)]) A2 n2 c2 l2 A3 n3 c3 l3 (some ⟨gf,0,none⟩) (n4+1) df (l4++[(i:Int)])):=hid ((HRv2.out.sw14.push1 hown hgr hat).sw14)
   have HQv3:Hid (Fq [s] wI v3/\Kx B [3,307] w0 v3/\Kx 0 [3,307] w0 v3/\base<=v3.heap.size):=hid (by obtain ⟨q0,q1,q2,q3⟩:=HQv2.out;exact ⟨q0.grown hgr (fun g hg=>.inr (Nat.le_trans hI (HRv2.out.o4.lt g hg).1)),q1.grown HRv2.out.o4 hgr hBb (by simp),q2.grown HRv2.out.o4 hgr (Nat.zero_le _) (by simp),Nat.le_trans q3 hgr.size⟩)
   clear hown hgr hat
   refine And.intro (HS.out _ HBv3.out) ?_
   (try simp only [sP])
   have q0:v3.cell? ⟨hx,1,none⟩=some (.slice A1 n1 c1):=HBv3.out.cell 1
   have q1:=HBv3.out.frozen 1
   have q2:v3.cell? ⟨hx,4,none⟩=some (.slice A4 n4 c4):=HBv3.out.cell 4
   have q3:=HBv3.out.frozen 4
   have q4:(v3.setCell ⟨hx,1,none⟩ (.slice (some ⟨g1,0,none⟩) (n1+1) d1)).cell? ⟨hx,4,none⟩=some (.slice A4 n4 c4):=(HBv3.out.set_ 1 _).cell 4
   have q5:=(HBv3.out.set_ 1 (.slice (some ⟨g1,0,none⟩) (n1+1) d1)).frozen 4
   refine wpAnyL_late (i:=11) rfl (by kernel_rfl) (by rfl) (by kernel_rfl) ?_
   go_simp
   (try simp only [sP])
   refine wpAnyL_late (i:=12) rfl (by kernel_rfl) (by rfl) (by kernel_rfl) ?_
   go_simp
   (try simp only [sP])
   refine wpAnyL_late (i:=13) rfl (by kernel_rfl) (by rfl) (by kernel_rfl) ?_
   go_simp
   (try simp only [sP])
   clear q0 q1 q2 q3 q4 q5
   refine wpAnyL_done (by kernel_rfl) ?_ _
   refine NoPanic.normal ?_
   have hkB:Kx B [3,307] w0 ((v3.setCell ⟨hx,1,none⟩ (.slice (some ⟨g1,0,none⟩) (n1+1) d1)).setCell ⟨hx,4,none⟩ (.slice (some ⟨gf,0,none⟩) (n4+1) df)):=(HQv3.out.2.1.set HBv3.out (Nat.le_trans hBb hhx) (by simp) 1 _).set (HBv3.out.set_ 1 _) (Nat.le_trans hBb hhx) (by simp) 4 _
   have HF:Hid (Bk ((v3.setCell ⟨hx,1,none⟩ (.slice (some ⟨g1,0,none⟩) (n1+1) d1)).setCell ⟨hx,4,none⟩ (.slice (some ⟨gf,0,none⟩) (n4+1) df)) hx 307 #[.string nm,.slice (some ⟨g1,0,none⟩) (n1+1) d1,.slice A2 n2 c2,.slice A3 n3 c3,.slice (some ⟨gf,0,none⟩) (n4+1) df,.slice OA on oc,.slice PA pn pc]/\SyR ((v3.setCell ⟨hx,1,none⟩ (.slice (some ⟨g1,0,none⟩) (n1+1) d1)).setCell ⟨hx,4,none⟩ (.slice (some ⟨gf,0,none⟩) (n4+1) df)) base (some ⟨g1,0,none⟩) (n1+1) d1 (l1++[(i:Int)]) A2 n2 c2 l2 A3 n3 c3 l3 (some ⟨gf,0,none⟩) (n4+1) df (l4++[(i:Int)])/\StrSt ((v3.setCell ⟨hx,1,none⟩ (.slice (some ⟨g1,0,none⟩) (n1+1) d1)).setCell ⟨hx,4,none⟩ (.slice (some ⟨gf,0,none⟩) (n4+1) df)) B s/\Fq [s] wI ((v3.setCell ⟨hx,1,none⟩ (.slice (some ⟨g1,0,none⟩) (n1+1) d1)).setCell ⟨hx,4,none⟩ (.slice (some ⟨gf,0,none⟩) (n4+1) df))/\Kx 0 [3,307] w0 ((v3.setCell ⟨hx,1,none⟩ (.slice (some ⟨g1,0,none⟩) (n1+1) d1)).setCell ⟨hx,4,none⟩ (.slice (some ⟨gf,0,none⟩) (n4+1) df))):=hid ⟨by simpa using (HBv3.out.set_ 1 (.slice (some ⟨g1,0,none⟩) (n1+1) d1)).set_ 4 (.slice (some ⟨gf,0,none⟩) (n4+1) df),HRv3.out.kx (D:=0) (F:=[307]) ((Kx.refl.set HBv3.out (Nat.zero_le _) (by simp) 1 _).set (HBv3.out.set_ 1 _) (Nat.zero_le _) (by simp) 4 _) (by decide),HST.out.kx hkB (Nat.le_refl _) (HST.out.lo hB) (by decide),(HQv3.out.1.set (.inr (Nat.le_trans hI hhx)) 1 _).set (.inr (Nat.le_trans hI hhx)) 4 _,hkB.mono (Nat.zero_le _) (fun _ h=>h)⟩
   (apply hN;exact HF)
end Go.Proofs.Ytnidcmhfbkdioaa
