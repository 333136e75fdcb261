/-
  tourmake.system: an operation's parts are drawn. Conditions: what is read can be read.
-/
import Derived.Test.YtnidcmhfbkdioaaSw28
import Derived.Test.YtnidcmhfbkdioaaSw12
namespace Go.Proofs.Ytnidcmhfbkdioaa
open Go.RowKit
open Go.IntKind (i64)
open Go.Lib (hid)
set_option maxRecDepth 100000
structure OpI (w wI:World) (B s hp hs hk:Nat) (SA:Option Addr) (sn sc:Nat) (xs:List Int) (kA:Option Addr) (kn kc:Nat) (ks:List Kd) (hx:Nat) (nm:ByteArray) (A1:Option Addr) (n1 c1:Nat) (A2:Option Addr) (n2 c2:Nat) (A3:Option Addr) (n3 c3:Nat) (A4:Option Addr) (n4 c4:Nat) (l4:List Int) (OA:Option Addr) (on oc:Nat) (os:List Value) (PA:Option Addr) (pn pc:Nat):Prop where
 arg:ArgI w B s hp hs hk SA sn sc xs kA kn kc ks
 bx:Bk w hx 307 #[.string nm,.slice A1 n1 c1,.slice A2 n2 c2,.slice A3 n3 c3,.slice A4 n4 c4,.slice OA on oc,.slice PA pn pc]
 w4:RdY w 0 3 1 A4 n4 (l4.map (Value.int .i64))
 cap4:n4<=c4
 cap42:c4<=9223372036854775807
 i4:∀ x∈l4,0<=x/\x<(kn:Int)
 few4:n4<=1000
 ops:w.ownsRow wI.heap.size 344 11 (.slice OA on oc) on os
 fq:Fq [s] wI w
 lx:wI.heap.size<=hx
 sz:wI.heap.size<=w.heap.size
section
variable {w w' wI:World} {B s hp hs hk hx ho sn sc kn kc n1 c1 n2 c2 n3 c3 n4 c4 on oc pn pc:Nat} {SA kA A1 A2 A3 A4 OA PA:Option Addr} {xs l4:List Int} {ks:List Kd} {nm:ByteArray} {os:List Value}
theorem OpI.next (h:OpI w wI B s hp hs hk SA sn sc xs kA kn kc ks hx nm A1 n1 c1 A2 n2 c2 A3 n3 c3 A4 n4 c4 l4 OA on oc os PA pn pc) (hst:StrSt w' B s) (hq:Fq [s] w w'):OpI w' wI B s hp hs hk SA sn sc xs kA kn kc ks hx nm A1 n1 c1 A2 n2 c2 A3 n3 c3 A4 n4 c4 l4 OA on oc os PA pn pc:=by
 have hk:=Kx.fq (B':=0) hq h.arg.st (Nat.zero_le _)
 exact ⟨h.arg.fq hst hq,hk.bk h.bx (by decide),h.w4.keep hk (by decide),h.cap4,h.cap42,h.i4,h.few4,hk.own h.ops (by decide),h.fq.trans hq (SubF.refl _ _),h.lx,Nat.le_trans h.sz hq.size⟩
theorem OpI.drew_ (h:OpI w wI B s hp hs hk SA sn sc xs kA kn kc ks hx nm A1 n1 c1 A2 n2 c2 A3 n3 c3 A4 n4 c4 l4 OA on oc os PA pn pc) (hB:B<=s):OpI w.drew wI B s hp hs hk SA sn sc xs kA kn kc ks hx nm A1 n1 c1 A2 n2 c2 A3 n3 c3 A4 n4 c4 l4 OA on oc os PA pn pc:=h.next (h.arg.st.below (Below.refl _ _).drew (h.arg.st.lo hB)) Fq.refl.drew
end
section
variable {w w' wI:World} {B s hp hs hk hx ho sn sc kn kc n1 c1 n2 c2 n3 c3 n4 c4 on oc pn pc:Nat} {SA kA A1 A2 A3 A4 OA PA:Option Addr} {xs l4:List Int} {ks:List Kd} {nm:ByteArray} {os:List Value}
theorem OpI.op {cs:Array Value} (h:OpI w wI B s hp hs hk SA sn sc xs kA kn kc ks hx nm A1 n1 c1 A2 n2 c2 A3 n3 c3 A4 n4 c4 l4 OA on oc os PA pn pc) (hB:B<=s) (_ho:Bk w ho 344 cs) (_hoI:wI.heap.size<=ho) (hq:Kx B [344] w w') (hf:Fq [s] wI w') (hno:w'.ownsRow wI.heap.size 344 11 (.slice OA on oc) on os):OpI w' wI B s hp hs hk SA sn sc xs kA kn kc ks hx nm A1 n1 c1 A2 n2 c2 A3 n3 c3 A4 n4 c4 l4 OA on oc os PA pn pc:=by
 have hk:=hq.mono (Nat.zero_le _) (fun _ h=>h)
 exact ⟨⟨h.arg.st.kx hq (Nat.le_refl _) (h.arg.st.lo hB) (by decide),hk.bk h.arg.bp (by decide),hk.bk h.arg.bs (by decide),hk.bk h.arg.bk (by decide),h.arg.rd.keep hk (by decide),h.arg.cap,h.arg.cap2,h.arg.pos,h.arg.few,h.arg.inn,h.arg.kd.keep hk (by decide) (by decide),h.arg.fd⟩,hk.bk h.bx (by decide),h.w4.keep hk (by decide),h.cap4,h.cap42,h.i4,h.few4,hno,hf,h.lx,Nat.le_trans h.sz hq.size⟩
end
noncomputable def syR25:Code:=(Try.f198.body.bind (rgnN 25)).getD .skip
set_option maxHeartbeats 8000000 in
theorem sy25_any {x0 x1 x2 x5 x6 x8 x9 Ac Ad Ae Af Ag Ah Ai Aj Ak Al Am Ao Ap Aq Ar Au Av Aw Ax Ay Az A7 A9 Be Bl Bu Bv Bw B0 B1 B2 B3 B4 B5 B6 B7 B8 B9 Cg Ch Ci Cj Ck Cp Cq Cr Cs Cu Cw Cx Cy Cz C0 C1 C2 C3 C4 C5 C6 C7 C8 C9 Da Db Dc Dd De Dg Dh Di Dj Dk Dl Dm Dn Dp Dq Dr Ds Dt Du Dv Dw Dx Dy D0 D1 D3 D4 D5 D6 D7 D8 D9 Ee Ef Ei Ek El Em En Eo Es Et Eu Ev Ew Ex Ey Ez E0 E1 E2 E3 E4 E5 E6 E7 E8 E9 Fa Fb Ff Fg Fh Fi Fj Fk Fl Fm Fn Fp Fs Ft Fu Fv Fx Fy Fz F0 F1 F2 F3 F4 F5 F6 F7 F8 F9 Ga Gd Gi Gp Gr Gs Gt Gu Gv Gw Gx Gy Gz G0 G1 G2 G3 G4 G5 G6 G7 G8 G9 Hb Hc Hd:Value} {Q:Exit->Act->World->Prop} {wI w0:World} {B s hp hs hk hx ho sn sc kn kc n1 c1 n2 c2 n3 c3 n4 c4 on oc pn pc:Nat} {SA kA A1 A2 A3 A4 OA PA:Option Addr} {xs l4:List Int} {ks:List Kd} {nm:ByteArray} {os:List Value} {_d _t0 _t1:Int} {_a0:Bool} {_a1 _a2 _a3:Int} {_b0:Bool} {_b1 _b2 _b3:Int}
 (hI:OpI w0 wI B s hp hs hk SA sn sc xs kA kn kc ks hx nm A1 n1 c1 A2 n2 c2 A3 n3 c3 A4 n4 c4 l4 OA on oc os PA pn pc) (hB:B<=s) (h4:0<n4)
 (hN:∀ (Ly Lz L0 L1 L2 L3 L4 L5 L6:Value) (x:Nat) (w':World),Hid (x<kn/\OpI w' wI B s hp hs hk SA sn sc xs kA kn kc ks hx nm A1 n1 c1 A2 n2 c2 A3 n3 c3 A4 n4 c4 l4 OA on oc os PA pn pc/\Fq [s] w0 w')->Q .normal ⟨#[x0,x1,x2,.pointer (some ⟨hk,0,none⟩),.pointer (some ⟨hp,0,none⟩),x5,x6,.pointer (some ⟨hx,0,none⟩),x8,x9,.func (.func 237) #[] #[.pointer (some ⟨hp,0,none⟩),.pointer (some ⟨hs,0,none⟩),.pointer (some ⟨hk,0,none⟩)],.pointer (some ⟨ho,0,none⟩),.int i64 (x:Int),Ad,Ae,Af,Ag,Ah,Ai,Aj,Ak,Al,Am,Ao,Ap,Aq,Ar,Au,Av,Aw,Ax,Ay,Az,A7,A9,Be,Bl,Bu,Bv,Bw,B0,B1,B2,B3,B4,B5,B6,B7,B8,B9,Cg,Ch,Ci,Cj,Ck,Cp,Cq,Cr,Cs,Cu,Cw,Cx,Cy,Cz,C0,C1,C2,C3,C4,C5,C6,C7,C8,C9,Da,Db,Dc,Dd,De,Dg,Dh,Di,Dj,Dk,Dl,Dm,Dn,Dp,Dq,Dr,Ds,Dt,Du,Dv,Dw,Dx,Dy,D0,D1,D3,D4,D5,D6,D7,D8,D9,Ee,Ef,Ei,Ek,El,Em,En,Eo,Es,Et,Eu,Ev,Ew,Ex,Ey,Ez,E0,E1,E2,E3,E4,E5,E6,E7,Ly,Lz,L0,L1,L2,L3,L4,L5,L6,Fk,Fl,Fm,Fn,Fp,Fs,Ft,Fu,Fv,Fx,Fy,Fz,F0,F1,F2,F3,F4,F5,F6,F7,F8,F9,Ga,Gd,Gi,Gp,Gr,Gs,Gt,Gu,Gv,Gw,Gx,Gy,Gz,G0,G1,G2,G3,G4,G5,G6,G7,G8,G9,Hb,Hc,Hd],[]⟩ w') :
 Code.wp Try.prog syR25 Q ⟨#[x0,x1,x2,.pointer (some ⟨hk,0,none⟩),.pointer (some ⟨hp,0,none⟩),x5,x6,.pointer (some ⟨hx,0,none⟩),x8,x9,.func (.func 237) #[] #[.pointer (some ⟨hp,0,none⟩),.pointer (some ⟨hs,0,none⟩),.pointer (some ⟨hk,0,none⟩)],.pointer (some ⟨ho,0,none⟩),Ac,Ad,Ae,Af,Ag,Ah,Ai,Aj,Ak,Al,Am,Ao,Ap,Aq,Ar,Au,Av,Aw,Ax,Ay,Az,A7,A9,Be,Bl,Bu,Bv,Bw,B0,B1,B2,B3,B4,B5,B6,B7,B8,B9,Cg,Ch,Ci,Cj,Ck,Cp,Cq,Cr,Cs,Cu,Cw,Cx,Cy,Cz,C0,C1,C2,C3,C4,C5,C6,C7,C8,C9,Da,Db,Dc,Dd,De,Dg,Dh,Di,Dj,Dk,Dl,Dm,Dn,Dp,Dq,Dr,Ds,Dt,Du,Dv,Dw,Dx,Dy,D0,D1,D3,D4,D5,D6,D7,D8,D9,Ee,Ef,Ei,Ek,El,Em,En,Eo,Es,Et,Eu,Ev,Ew,Ex,Ey,Ez,E0,E1,E2,E3,E4,E5,E6,E7,E8,E9,Fa,Fb,Ff,Fg,Fh,Fi,Fj,Fk,Fl,Fm,Fn,Fp,Fs,Ft,Fu,Fv,Fx,Fy,Fz,F0,F1,F2,F3,F4,F5,F6,F7,F8,F9,Ga,Gd,Gi,Gp,Gr,Gs,Gt,Gu,Gv,Gw,Gx,Gy,Gz,G0,G1,G2,G3,G4,G5,G6,G7,G8,G9,Hb,Hc,Hd],[]⟩ w0:=by
 conv=>arg 2;whnf
 have HNX:=hid next_any
 obtain ⟨u1,hu1⟩:∃ z,z=w0.drew:=⟨_,rfl⟩
 have HC1:Hid (OpI u1 wI B s hp hs hk SA sn sc xs kA kn kc ks hx nm A1 n1 c1 A2 n2 c2 A3 n3 c3 A4 n4 c4 l4 OA on oc os PA pn pc):=hid (by rw [hu1];exact hI.drew_ hB)
 have HQ1:Hid (Fq [s] w0 u1):=hid (by rw [hu1];exact Fq.refl.drew)
 have hc4:=hI.cap4
 have hc42:=hI.cap42
 have hf4:=hI.few4
 have HS:Hid (∀ wz,OpI wz wI B s hp hs hk SA sn sc xs kA kn kc ks hx nm A1 n1 c1 A2 n2 c2 A3 n3 c3 A4 n4 c4 l4 OA on oc os PA pn pc->wz.cell? ⟨hp,0,none⟩=some (.pointer (some ⟨s,0,none⟩))/\wz.cell? ⟨hx,4,none⟩=some (.slice A4 n4 c4)):=hid fun wz h=>⟨h.arg.bp.cell 0,h.bx.cell 4⟩
 clear hI
 refine wp_region_noPanic ?_
 refine wp_region_H (S:=fun wz=>wz.cell? ⟨hp,0,none⟩=some (.pointer (some ⟨s,0,none⟩))/\wz.cell? ⟨hx,4,none⟩=some (.slice A4 n4 c4)) (by kernel_rfl) ?_
 rw [<- hu1]
 clear hu1
 refine wpH 0 (.pointer (some ⟨hx,4,none⟩)) 130 (HS.out _ HC1.out) ?_
 (try simp only [sP])
 refine wpH 1 (.slice A4 n4 c4) 131 (HS.out _ HC1.out) ?_
 (try simp only [sP])
 refine wpH 2 (.pointer (some ⟨s,0,none⟩)) 132 (HS.out _ HC1.out) ?_
 (try simp only [sP])
 refine wpH 3 (.pointer (some ⟨hx,4,none⟩)) 133 (HS.out _ HC1.out) ?_
 (try simp only [sP])
 refine wpH 4 (.slice A4 n4 c4) 134 (HS.out _ HC1.out) ?_
 (try simp only [sP])
 refine wpH 5 (.int i64 (n4:Int)) 135 (HS.out _ HC1.out) ?_
 (try simp only [sP])
 refine wpAnyH_oneW (i:=6) rfl (by kernel_rfl) (by rfl) ?_
 go_simp
 go_at_call 98
 (with_reducible refine (HNX.out s B n4 _ HC1.out.arg.st hB (by omega) (by omega)).mono ?_)
 rintro e u2 ⟨p,rfl,hp0,hp1,hst2,hg2⟩
 obtain ⟨p,rfl⟩:∃ N:Nat,p=N:=⟨p.toNat,by omega⟩
 have HQ2:Hid (Fq [s] u1 u2):=hid (Fq.refl.grown hg2 fun g hg=>.inl (by injection hg with hg;simp [hg]))
 have HC2:Hid (OpI u2 wI B s hp hs hk SA sn sc xs kA kn kc ks hx nm A1 n1 c1 A2 n2 c2 A3 n3 c3 A4 n4 c4 l4 OA on oc os PA pn pc):=hid (HC1.out.next hst2 HQ2.out)
 clear hst2 hg2
 refine And.intro (HS.out _ HC2.out) ?_
 (try simp only [sP])
 have hpn:p<n4:=by omega
 obtain ⟨x,hx_⟩:∃ x,l4[p]?=some x:=⟨_,List.getElem?_eq_getElem (by have:=HC2.out.w4.1;simp at this;omega)⟩
 obtain ⟨sb,so,rfl,hsb,hsc⟩:=HC2.out.w4.rd.at1 hpn (u:=.int i64 x) (by rw [List.getElem?_map,hx_];rfl)
 have hxin:=HC2.out.i4 x (List.mem_of_getElem? hx_)
 obtain ⟨x,rfl⟩:∃ N:Nat,x=N:=⟨x.toNat,by omega⟩
 have hsc2:u2.cell? ⟨sb,so+p,none⟩=some (.int i64 x):=hsc
 clear hx_ hsb hsc
 refine wpAnyH_oneW (i:=7) rfl (by kernel_rfl) (by rfl) ?_
 go_simp
 refine And.intro (HS.out _ HC2.out) ?_
 (try simp only [sP])
 refine wpAnyH_oneW (i:=8) rfl (by kernel_rfl) (by rfl) ?_
 go_simp
 refine And.intro (HS.out _ HC2.out) ?_
 (try simp only [sP])
 refine wpAnyH_oneW (i:=9) rfl (by kernel_rfl) (by rfl) ?_
 go_simp
 refine And.intro (HS.out _ HC2.out) ?_
 (try simp only [sP])
 refine wpAnyH_done (by kernel_rfl) ?_ _
 refine NoPanic.normal ?_
 exact hN _ _ _ _ _ _ _ _ _ x _ (hid ⟨by omega,HC2.out,HQ1.out.trans HQ2.out (SubF.refl _ _)⟩)
noncomputable def syR26:Code:=(Try.f198.body.bind (rgnN 26)).getD .skip
set_option maxHeartbeats 8000000 in
theorem sy26_any {x0 x1 x2 x5 x6 x8 x9 Ad Ae Af Ag Ah Ai Aj Ak Al Am Ao Ap Aq Ar Au Av Aw Ax Ay Az A7 A9 Be Bl Bu Bv Bw B0 B1 B2 B3 B4 B5 B6 B7 B8 B9 Cg Ch Ci Cj Ck Cp Cq Cr Cs Cu Cw Cx Cy Cz C0 C1 C2 C3 C4 C5 C6 C7 C8 C9 Da Db Dc Dd De Dg Dh Di Dj Dk Dl Dm Dn Dp Dq Dr Ds Dt Du Dv Dw Dx Dy D0 D1 D3 D4 D5 D6 D7 D8 D9 Ee Ef Ei Ek El Em En Eo Es Et Eu Ev Ew Ex Ey Ez E0 E1 E2 E3 E4 E5 E6 E7 E8 E9 Fa Fb Ff Fg Fh Fi Fj Fk Fl Fm Fn Fp Fs Ft Fu Fv Fx Fy Fz F0 F1 F2 F3 F4 F5 F6 F7 F8 F9 Ga Gd Gi Gp Gr Gs Gt Gu Gv Gw Gx Gy Gz G0 G1 G2 G3 G4 G5 G6 G7 G8 G9 Hb Hc Hd:Value} {Q:Exit->Act->World->Prop} {wI w0:World} {B s hp hs hk hx ho sn sc kn kc n1 c1 n2 c2 n3 c3 n4 c4 on oc pn pc:Nat} {SA kA A1 A2 A3 A4 OA PA:Option Addr} {xs l4:List Int} {ks:List Kd} {nm:ByteArray} {os:List Value} {d t0 t1:Int} {a0:Bool} {a1 a2 a3:Int} {b0:Bool} {b1 b2 b3:Int}
 (hI:OpI w0 wI B s hp hs hk SA sn sc xs kA kn kc ks hx nm A1 n1 c1 A2 n2 c2 A3 n3 c3 A4 n4 c4 l4 OA on oc os PA pn pc) (hB:B<=s) {x:Nat} (hx_:x<kn) (ho_:Bk w0 ho 344 #[.int i64 d,.int i64 t0,.int i64 t1,.bool a0,.int i64 a1,.int i64 a2,.int i64 a3,.bool b0,.int i64 b1,.int i64 b2,.int i64 b3]) (hoI:wI.heap.size<=ho) (hBI:B<=wI.heap.size) (hno:(Value.slice OA on oc).ownBlock≠some ho)
 (hN:∀ (L7 L8 L9 Mi Mm Mp Mr Ms Mv Mx My:Value) (u0 u1:Int) (w':World),Hid (OpI w' wI B s hp hs hk SA sn sc xs kA kn kc ks hx nm A1 n1 c1 A2 n2 c2 A3 n3 c3 A4 n4 c4 l4 OA on oc os PA pn pc/\Bk w' ho 344 #[.int i64 d,.int i64 u0,.int i64 u1,.bool a0,.int i64 a1,.int i64 a2,.int i64 a3,.bool b0,.int i64 b1,.int i64 b2,.int i64 b3]/\Fq [s] wI w')->Q .normal ⟨#[x0,x1,x2,.pointer (some ⟨hk,0,none⟩),.pointer (some ⟨hp,0,none⟩),x5,x6,.pointer (some ⟨hx,0,none⟩),x8,x9,.func (.func 237) #[] #[.pointer (some ⟨hp,0,none⟩),.pointer (some ⟨hs,0,none⟩),.pointer (some ⟨hk,0,none⟩)],.pointer (some ⟨ho,0,none⟩),.int i64 (x:Int),Ad,Ae,Af,Ag,Ah,Ai,Aj,Ak,Al,Am,Ao,Ap,Aq,Ar,Au,Av,Aw,Ax,Ay,Az,A7,A9,Be,Bl,Bu,Bv,Bw,B0,B1,B2,B3,B4,B5,B6,B7,B8,B9,Cg,Ch,Ci,Cj,Ck,Cp,Cq,Cr,Cs,Cu,Cw,Cx,Cy,Cz,C0,C1,C2,C3,C4,C5,C6,C7,C8,C9,Da,Db,Dc,Dd,De,Dg,Dh,Di,Dj,Dk,Dl,Dm,Dn,Dp,Dq,Dr,Ds,Dt,Du,Dv,Dw,Dx,Dy,D0,D1,D3,D4,D5,D6,D7,D8,D9,Ee,Ef,Ei,Ek,El,Em,En,Eo,Es,Et,Eu,Ev,Ew,Ex,Ey,Ez,E0,E1,E2,E3,E4,E5,E6,E7,E8,E9,Fa,Fb,Ff,Fg,Fh,Fi,Fj,L7,L8,L9,Mi,Mm,Mp,Mr,Ms,Mv,Mx,My,Fz,F0,F1,F2,F3,F4,F5,F6,F7,F8,F9,Ga,Gd,Gi,Gp,Gr,Gs,Gt,Gu,Gv,Gw,Gx,Gy,Gz,G0,G1,G2,G3,G4,G5,G6,G7,G8,G9,Hb,Hc,Hd],[]⟩ w') :
 Code.wp Try.prog syR26 Q ⟨#[x0,x1,x2,.pointer (some ⟨hk,0,none⟩),.pointer (some ⟨hp,0,none⟩),x5,x6,.pointer (some ⟨hx,0,none⟩),x8,x9,.func (.func 237) #[] #[.pointer (some ⟨hp,0,none⟩),.pointer (some ⟨hs,0,none⟩),.pointer (some ⟨hk,0,none⟩)],.pointer (some ⟨ho,0,none⟩),.int i64 (x:Int),Ad,Ae,Af,Ag,Ah,Ai,Aj,Ak,Al,Am,Ao,Ap,Aq,Ar,Au,Av,Aw,Ax,Ay,Az,A7,A9,Be,Bl,Bu,Bv,Bw,B0,B1,B2,B3,B4,B5,B6,B7,B8,B9,Cg,Ch,Ci,Cj,Ck,Cp,Cq,Cr,Cs,Cu,Cw,Cx,Cy,Cz,C0,C1,C2,C3,C4,C5,C6,C7,C8,C9,Da,Db,Dc,Dd,De,Dg,Dh,Di,Dj,Dk,Dl,Dm,Dn,Dp,Dq,Dr,Ds,Dt,Du,Dv,Dw,Dx,Dy,D0,D1,D3,D4,D5,D6,D7,D8,D9,Ee,Ef,Ei,Ek,El,Em,En,Eo,Es,Et,Eu,Ev,Ew,Ex,Ey,Ez,E0,E1,E2,E3,E4,E5,E6,E7,E8,E9,Fa,Fb,Ff,Fg,Fh,Fi,Fj,Fk,Fl,Fm,Fn,Fp,Fs,Ft,Fu,Fv,Fx,Fy,Fz,F0,F1,F2,F3,F4,F5,F6,F7,F8,F9,Ga,Gd,Gi,Gp,Gr,Gs,Gt,Gu,Gv,Gw,Gx,Gy,Gz,G0,G1,G2,G3,G4,G5,G6,G7,G8,G9,Hb,Hc,Hd],[]⟩ w0:=by
 conv=>arg 2;whnf
 have HNX:=hid next_any
 have HI:=hid hI
 obtain ⟨k,hk_⟩:∃ k,ks[x]?=some k:=⟨_,List.getElem?_eq_getElem (by have:=hI.arg.kd.len;omega)⟩
 obtain ⟨kb,ko,rfl,hkbl,q0,q1⟩:=hI.arg.kd.rd.rd.kd hx_ hk_
 have hkf:=hI.arg.fd k (List.mem_of_getElem? hk_)
 have hkko:=hI.arg.kd.ok k (List.mem_of_getElem? hk_)
 have hkc1:=hkko.cap
 have hkc2:=hkko.cap2
 have hkn1:=hI.arg.kd.cap
 have hkn2:=hI.arg.kd.cap2
 have hxz:(x:Int)<kn:=by omega
 have hxz0:(0:Int)<=x:=by omega
 have HKV:Hid (∀ wz,OpI wz wI B s hp hs hk SA sn sc xs (some ⟨kb,ko,none⟩) kn kc ks hx nm A1 n1 c1 A2 n2 c2 A3 n3 c3 A4 n4 c4 l4 OA on oc os PA pn pc->wz.cell? ⟨hp,0,none⟩=some (.pointer (some ⟨s,0,none⟩))/\wz.cell? ⟨hk,0,none⟩=some (.slice (some ⟨kb,ko,none⟩) kn kc)/\wz.cell? ⟨kb,ko+x*2+1,none⟩=some (.slice k.A k.n k.c)):=hid fun wz h=>by
  obtain ⟨b',o',hA,_,_,q1'⟩:=h.arg.kd.rd.rd.kd hx_ hk_
  injection hA with hA
  injection hA with h1 h2
  subst h1;subst h2
  exact ⟨h.arg.bp.cell 0,h.arg.bk.cell 0,q1'⟩
 clear hk_ hkko hkbl q0 q1 hI
 generalize k.A=fA at *
 generalize k.n=fn at *
 generalize k.c=fc at *
 have hosn:ho≠s:=by
  obtain ⟨cs,h1⟩:=HI.out.arg.st.bk
  exact ho_.ne_ h1 (by decide)
 obtain ⟨u3,hu3⟩:∃ z,z=w0.drew:=⟨_,rfl⟩
 have HC3:Hid (OpI u3 wI B s hp hs hk SA sn sc xs (some ⟨kb,ko,none⟩) kn kc ks hx nm A1 n1 c1 A2 n2 c2 A3 n3 c3 A4 n4 c4 l4 OA on oc os PA pn pc):=hid (by rw [hu3];exact HI.out.drew_ hB)
 have HO3:Hid (Bk u3 ho 344 #[.int i64 d,.int i64 t0,.int i64 t1,.bool a0,.int i64 a1,.int i64 a2,.int i64 a3,.bool b0,.int i64 b1,.int i64 b2,.int i64 b3]):=hid (by rw [hu3];exact ho_.drew)
 have HBO:Hid (B<=ho):=hid (Nat.le_trans hBI hoI)
 clear HI ho_
 refine wp_region_noPanic ?_
 refine wp_region_L (late:=[11]) (S:=fun wz=>wz.cell? ⟨hp,0,none⟩=some (.pointer (some ⟨s,0,none⟩))/\wz.cell? ⟨hk,0,none⟩=some (.slice (some ⟨kb,ko,none⟩) kn kc)/\wz.cell? ⟨kb,ko+x*2+1,none⟩=some (.slice fA fn fc)) (by kernel_rfl) ?_
 rw [<- hu3]
 clear hu3
 refine wpL 0 (.int i64 (x:Int)) 139 (HKV.out _ HC3.out) ?_
 (try simp only [sP])
 refine wpL 1 (.pointer (some ⟨s,0,none⟩)) 140 (HKV.out _ HC3.out) ?_
 (try simp only [sP])
 refine wpL 2 (.slice (some ⟨kb,ko,none⟩) kn kc) 141 (HKV.out _ HC3.out) ?_
 (try simp only [sP])
 refine wpL 3 (.int i64 (x:Int)) 142 (HKV.out _ HC3.out) ?_
 (try simp only [sP])
 refine wpL 4 (.pointer (some ⟨kb,ko+x*2,none⟩)) 143 (HKV.out _ HC3.out) ?_
 (try simp only [sP])
 refine wpL 5 (.pointer (some ⟨kb,ko+x*2+1,none⟩)) 144 (HKV.out _ HC3.out) ?_
 (try simp only [sP])
 refine wpL 6 (.slice fA fn fc) 145 (HKV.out _ HC3.out) ?_
 (try simp only [sP])
 refine wpL 7 (.int i64 (fn:Int)) 146 (HKV.out _ HC3.out) ?_
 (try simp only [sP])
 refine wpAnyL_one (i:=8) rfl (by kernel_rfl) (by rfl) ?_
 go_simp
 go_at_call 98
 (with_reducible refine (HNX.out s B fn _ HC3.out.arg.st hB (by omega) (by omega)).mono ?_)
 rintro e u4 ⟨y,rfl,hy0,hy1,hst4,hg4⟩
 have HQ4:Hid (Fq [s] u3 u4):=hid (Fq.refl.grown hg4 fun g hg=>.inl (by injection hg with hg;simp [hg]))
 have HC4:Hid (OpI u4 wI B s hp hs hk SA sn sc xs (some ⟨kb,ko,none⟩) kn kc ks hx nm A1 n1 c1 A2 n2 c2 A3 n3 c3 A4 n4 c4 l4 OA on oc os PA pn pc):=hid (HC3.out.next hst4 HQ4.out)
 have hO4:Bk u4 ho 344 #[.int i64 d,.int i64 t0,.int i64 t1,.bool a0,.int i64 a1,.int i64 a2,.int i64 a3,.bool b0,.int i64 b1,.int i64 b2,.int i64 b3]:=HO3.out.grown hg4 (fun e=>by injection e with e;omega)
 clear hst4 hg4
 refine And.intro (HKV.out _ HC4.out) ?_
 (try simp only [sP])
 refine wpL 9 (.agg #[.int i64 (x:Int),.int i64 y]) 148 (HKV.out _ HC4.out) ?_
 (try simp only [sP])
 refine wpL 10 (.pointer (some ⟨ho,1,none⟩)) 149 (HKV.out _ HC4.out) ?_
 (try simp only [sP])
 have z1:u4.cell? ⟨ho,1,none⟩=some (.int i64 t0):=hO4.cell 1
 have z2:u4.cell? ⟨ho,2,none⟩=some (.int i64 t1):=hO4.cell 2
 have y1:=hO4.frozen 1
 have y2:=hO4.frozen 2
 have HF:Hid (OpI ((u4.setCell ⟨ho,1,none⟩ (.int i64 (x:Int))).setCell ⟨ho,2,none⟩ (.int i64 y)) wI B s hp hs hk SA sn sc xs (some ⟨kb,ko,none⟩) kn kc ks hx nm A1 n1 c1 A2 n2 c2 A3 n3 c3 A4 n4 c4 l4 OA on oc os PA pn pc/\Bk ((u4.setCell ⟨ho,1,none⟩ (.int i64 (x:Int))).setCell ⟨ho,2,none⟩ (.int i64 y)) ho 344 #[.int i64 d,.int i64 (x:Int),.int i64 y,.bool a0,.int i64 a1,.int i64 a2,.int i64 a3,.bool b0,.int i64 b1,.int i64 b2,.int i64 b3]/\Fq [s] wI ((u4.setCell ⟨ho,1,none⟩ (.int i64 (x:Int))).setCell ⟨ho,2,none⟩ (.int i64 y))):=hid (by
  have h:=HC4.out.op hB hO4 hoI ((Kx.refl.set hO4 HBO.out (by simp) 1 (.int i64 (x:Int))).set (hO4.set_ 1 _) HBO.out (by simp) 2 (.int i64 y)) ((HC4.out.fq.set (.inr hoI) 1 _).set (.inr hoI) 2 _) (own_farB (own_farB HC4.out.ops hno) hno)
  exact ⟨h,by simpa using (hO4.set_ 1 (.int i64 (x:Int))).set_ 2 (.int i64 y),h.fq⟩)
 clear hO4
 refine wpAnyL_late (i:=11) rfl (by kernel_rfl) (by rfl) (by kernel_rfl) ?_
 go_simp
 (try simp only [sP])
 refine wpAnyL_done (by kernel_rfl) ?_ _
 refine NoPanic.normal ?_
 (apply hN;exact HF)
noncomputable def syR23:Code:=(Try.f198.body.bind (rgnN 23)).getD .skip
set_option maxHeartbeats 8000000 in
theorem sy23_any {x0 x1 x2 x5 x6 x8 x9 Ac Ad Ae Af Ag Ah Ai Aj Ak Al Am Ao Ap Aq Ar Au Av Aw Ax Ay Az A7 A9 Be Bl Bu Bv Bw B0 B1 B2 B3 B4 B5 B6 B7 B8 B9 Cg Ch Ci Cj Ck Cp Cq Cr Cs Cu Cw Cx Cy Cz C0 C1 C2 C3 C4 C5 C6 C7 C8 C9 Da Db Dc Dd De Dg Dh Di Dj Dk Dl Dm Dn Dp Dq Dr Ds Dt Du Dv Dw Dx Dy D0 D1 D3 D4 D5 D6 D7 D8 D9 Ee Ef Ei Ek El Em En Eo Es Et Eu Ev Ew Ex Ey Ez E0 E1 E2 E3 E4 E5 E6 E7 E8 E9 Fa Fb Ff Fg Fh Fi Fj Fk Fl Fm Fn Fp Fs Ft Fu Fv Fx Fy Fz F0 F1 F2 F3 F4 F5 F6 F7 F8 F9 Ga Gd Gi Gp Gr Gs Gt Gu Gv Gw Gx Gy Gz G0 G1 G2 G3 G4 G5 G6 G7 G8 G9 Hb Hc Hd:Value} {Q:Exit->Act->World->Prop} {wI w0:World} {B s hp hs hk hx ho sn sc kn kc n1 c1 n2 c2 n3 c3 n4 c4 on oc pn pc:Nat} {SA kA A1 A2 A3 A4 OA PA:Option Addr} {xs l4:List Int} {ks:List Kd} {nm:ByteArray} {os:List Value} {d t0 t1:Int} {a0:Bool} {a1 a2 a3:Int} {b0:Bool} {b1 b2 b3:Int}
 (hI:OpI w0 wI B s hp hs hk SA sn sc xs kA kn kc ks hx nm A1 n1 c1 A2 n2 c2 A3 n3 c3 A4 n4 c4 l4 OA on oc os PA pn pc) (hB:B<=s) (ho_:Bk w0 ho 344 #[.int i64 d,.int i64 t0,.int i64 t1,.bool a0,.int i64 a1,.int i64 a2,.int i64 a3,.bool b0,.int i64 b1,.int i64 b2,.int i64 b3]) (hoI:wI.heap.size<=ho) (hBI:B<=wI.heap.size) (hno:(Value.slice OA on oc).ownBlock≠some ho)
 (hN:∀ (Lp Lq Lr Ls Lt:Value) (e0:Bool) (e1 e2 e3:Int) (w':World),Hid (OpI w' wI B s hp hs hk SA sn sc xs kA kn kc ks hx nm A1 n1 c1 A2 n2 c2 A3 n3 c3 A4 n4 c4 l4 OA on oc os PA pn pc/\Bk w' ho 344 #[.int i64 12,.int i64 0,.int i64 0,.bool a0,.int i64 a1,.int i64 a2,.int i64 a3,.bool e0,.int i64 e1,.int i64 e2,.int i64 e3]/\Fq [s] wI w')->Q .normal ⟨#[x0,x1,x2,.pointer (some ⟨hk,0,none⟩),.pointer (some ⟨hp,0,none⟩),x5,x6,.pointer (some ⟨hx,0,none⟩),x8,x9,.func (.func 237) #[] #[.pointer (some ⟨hp,0,none⟩),.pointer (some ⟨hs,0,none⟩),.pointer (some ⟨hk,0,none⟩)],.pointer (some ⟨ho,0,none⟩),Ac,Ad,Ae,Af,Ag,Ah,Ai,Aj,Ak,Al,Am,Ao,Ap,Aq,Ar,Au,Av,Aw,Ax,Ay,Az,A7,A9,Be,Bl,Bu,Bv,Bw,B0,B1,B2,B3,B4,B5,B6,B7,B8,B9,Cg,Ch,Ci,Cj,Ck,Cp,Cq,Cr,Cs,Cu,Cw,Cx,Cy,Cz,C0,C1,C2,C3,C4,C5,C6,C7,C8,C9,Da,Db,Dc,Dd,De,Dg,Dh,Di,Dj,Dk,Dl,Dm,Dn,Dp,Dq,Dr,Ds,Dt,Du,Dv,Dw,Dx,Dy,D0,D1,D3,D4,D5,D6,D7,D8,D9,Ee,Ef,Ei,Ek,El,Em,En,Eo,Es,Et,Eu,Ev,Ew,Ex,Ey,Lp,Lq,Lr,Ls,Lt,E4,E5,E6,E7,E8,E9,Fa,Fb,Ff,Fg,Fh,Fi,Fj,Fk,Fl,Fm,Fn,Fp,Fs,Ft,Fu,Fv,Fx,Fy,Fz,F0,F1,F2,F3,F4,F5,F6,F7,F8,F9,Ga,Gd,Gi,Gp,Gr,Gs,Gt,Gu,Gv,Gw,Gx,Gy,Gz,G0,G1,G2,G3,G4,G5,G6,G7,G8,G9,Hb,Hc,Hd],[]⟩ w') :
 Code.wp Try.prog syR23 Q ⟨#[x0,x1,x2,.pointer (some ⟨hk,0,none⟩),.pointer (some ⟨hp,0,none⟩),x5,x6,.pointer (some ⟨hx,0,none⟩),x8,x9,.func (.func 237) #[] #[.pointer (some ⟨hp,0,none⟩),.pointer (some ⟨hs,0,none⟩),.pointer (some ⟨hk,0,none⟩)],.pointer (some ⟨ho,0,none⟩),Ac,Ad,Ae,Af,Ag,Ah,Ai,Aj,Ak,Al,Am,Ao,Ap,Aq,Ar,Au,Av,Aw,Ax,Ay,Az,A7,A9,Be,Bl,Bu,Bv,Bw,B0,B1,B2,B3,B4,B5,B6,B7,B8,B9,Cg,Ch,Ci,Cj,Ck,Cp,Cq,Cr,Cs,Cu,Cw,Cx,Cy,Cz,C0,C1,C2,C3,C4,C5,C6,C7,C8,C9,Da,Db,Dc,Dd,De,Dg,Dh,Di,Dj,Dk,Dl,Dm,Dn,Dp,Dq,Dr,Ds,Dt,Du,Dv,Dw,Dx,Dy,D0,D1,D3,D4,D5,D6,D7,D8,D9,Ee,Ef,Ei,Ek,El,Em,En,Eo,Es,Et,Eu,Ev,Ew,Ex,Ey,Ez,E0,E1,E2,E3,E4,E5,E6,E7,E8,E9,Fa,Fb,Ff,Fg,Fh,Fi,Fj,Fk,Fl,Fm,Fn,Fp,Fs,Ft,Fu,Fv,Fx,Fy,Fz,F0,F1,F2,F3,F4,F5,F6,F7,F8,F9,Ga,Gd,Gi,Gp,Gr,Gs,Gt,Gu,Gv,Gw,Gx,Gy,Gz,G0,G1,G2,G3,G4,G5,G6,G7,G8,G9,Hb,Hc,Hd],[]⟩ w0:=by
 conv=>arg 2;whnf
 have HI:=hid hI
 have HS:Hid (∀ wz,Bk wz ho 344 #[.int i64 d,.int i64 t0,.int i64 t1,.bool a0,.int i64 a1,.int i64 a2,.int i64 a3,.bool b0,.int i64 b1,.int i64 b2,.int i64 b3]->wz.cell? ⟨ho,3,none⟩=some (.bool a0)/\wz.cell? ⟨ho,4,none⟩=some (.int i64 a1)/\wz.cell? ⟨ho,5,none⟩=some (.int i64 a2)/\wz.cell? ⟨ho,6,none⟩=some (.int i64 a3)):=hid fun wz h=>⟨h.cell 3,h.cell 4,h.cell 5,h.cell 6⟩
 have HBO:Hid (B<=ho):=hid (Nat.le_trans hBI hoI)
 obtain ⟨u1,hu1⟩:∃ z,z=w0.drew:=⟨_,rfl⟩
 have HC1:Hid (OpI u1 wI B s hp hs hk SA sn sc xs kA kn kc ks hx nm A1 n1 c1 A2 n2 c2 A3 n3 c3 A4 n4 c4 l4 OA on oc os PA pn pc):=hid (by rw [hu1];exact HI.out.drew_ hB)
 have HO1:Hid (Bk u1 ho 344 #[.int i64 d,.int i64 t0,.int i64 t1,.bool a0,.int i64 a1,.int i64 a2,.int i64 a3,.bool b0,.int i64 b1,.int i64 b2,.int i64 b3]):=hid (by rw [hu1];exact ho_.drew)
 have HE:Hid (∀ args w,(callFunc 237 args).run Try.prog w=.ok (.enter 237 args) w):=hid (fun _ _=>by kernel_rfl)
 clear hI ho_ HI
 refine wp_region_noPanic ?_
 refine wp_region_L (late:=[5]) (S:=fun wz=>wz.cell? ⟨ho,3,none⟩=some (.bool a0)/\wz.cell? ⟨ho,4,none⟩=some (.int i64 a1)/\wz.cell? ⟨ho,5,none⟩=some (.int i64 a2)/\wz.cell? ⟨ho,6,none⟩=some (.int i64 a3)) (by kernel_rfl) ?_
 rw [<- hu1]
 clear hu1
 refine wpL 0 (.pointer (some ⟨ho,3,none⟩)) 121 (HS.out _ HO1.out) ?_
 (try simp only [sP])
 refine wpL 1 (.agg #[.bool a0,.int i64 a1,.int i64 a2,.int i64 a3]) 122 (HS.out _ HO1.out) ?_
 (try simp only [sP])
 refine wpL 2 (.func (.func 237) #[] #[.pointer (some ⟨hp,0,none⟩),.pointer (some ⟨hs,0,none⟩),.pointer (some ⟨hk,0,none⟩)]) 123 (HS.out _ HO1.out) ?_
 (try simp only [sP])
 refine wpAnyL_one (i:=3) rfl (by kernel_rfl) (by rfl) ?_
 go_simp
 go_at_call 237
 (with_reducible refine (arg237_any HC1.out.arg hB).mono ?_)
 rintro e u2 ⟨e0,e1,e2,e3,rfl,hst2,hq2⟩
 have HC2:Hid (OpI u2 wI B s hp hs hk SA sn sc xs kA kn kc ks hx nm A1 n1 c1 A2 n2 c2 A3 n3 c3 A4 n4 c4 l4 OA on oc os PA pn pc):=hid (HC1.out.next hst2 hq2)
 have HO2:Hid (Bk u2 ho 344 #[.int i64 d,.int i64 t0,.int i64 t1,.bool a0,.int i64 a1,.int i64 a2,.int i64 a3,.bool b0,.int i64 b1,.int i64 b2,.int i64 b3]):=hid ((Kx.fq (B':=0) hq2 HC1.out.arg.st (Nat.zero_le _)).bk HO1.out (by decide))
 clear hst2 hq2
 refine And.intro (HS.out _ HO2.out) ?_
 (try simp only [sP])
 refine wpL 4 (.agg #[.int i64 12,.int i64 0,.int i64 0,.bool a0,.int i64 a1,.int i64 a2,.int i64 a3,.bool e0,.int i64 e1,.int i64 e2,.int i64 e3]) 125 (HS.out _ HO2.out) ?_
 (try simp only [sP])
 have z0:u2.cell? ⟨ho,0,none⟩=some (.int i64 d):=HO2.out.cell 0
 have y0:=HO2.out.frozen 0
 have z1:u2.cell? ⟨ho,1,none⟩=some (.int i64 t0):=HO2.out.cell 1
 have y1:=HO2.out.frozen 1
 have z2:u2.cell? ⟨ho,2,none⟩=some (.int i64 t1):=HO2.out.cell 2
 have y2:=HO2.out.frozen 2
 have z3:u2.cell? ⟨ho,3,none⟩=some (.bool a0):=HO2.out.cell 3
 have y3:=HO2.out.frozen 3
 have z4:u2.cell? ⟨ho,4,none⟩=some (.int i64 a1):=HO2.out.cell 4
 have y4:=HO2.out.frozen 4
 have z5:u2.cell? ⟨ho,5,none⟩=some (.int i64 a2):=HO2.out.cell 5
 have y5:=HO2.out.frozen 5
 have z6:u2.cell? ⟨ho,6,none⟩=some (.int i64 a3):=HO2.out.cell 6
 have y6:=HO2.out.frozen 6
 have z7:u2.cell? ⟨ho,7,none⟩=some (.bool b0):=HO2.out.cell 7
 have y7:=HO2.out.frozen 7
 have z8:u2.cell? ⟨ho,8,none⟩=some (.int i64 b1):=HO2.out.cell 8
 have y8:=HO2.out.frozen 8
 have z9:u2.cell? ⟨ho,9,none⟩=some (.int i64 b2):=HO2.out.cell 9
 have y9:=HO2.out.frozen 9
 have z10:u2.cell? ⟨ho,10,none⟩=some (.int i64 b3):=HO2.out.cell 10
 have Hl:=HO2.out.frozen 10
 have HF:Hid (OpI (((((((((((u2.setCell ⟨ho,0,none⟩ (.int i64 12)).setCell ⟨ho,1,none⟩ (.int i64 0)).setCell ⟨ho,2,none⟩ (.int i64 0)).setCell ⟨ho,3,none⟩ (.bool a0)).setCell ⟨ho,4,none⟩ (.int i64 a1)).setCell ⟨ho,5,none⟩ (.int i64 a2)).setCell ⟨ho,6,none⟩ (.int i64 a3)).setCell ⟨ho,7,none⟩ (.bool e0)).setCell ⟨ho,8,none⟩ (.int i64 e1)).setCell ⟨ho,9,none⟩ (.int i64 e2)).setCell ⟨ho,10,none⟩ (.int i64 e3)) wI B s hp hs hk SA sn sc xs kA kn kc ks hx nm A1 n1 c1 A2 n2 c2 A3 n3 c3 A4 n4 c4 l4 OA on oc os PA pn pc/\Bk (((((((((((u2.setCell ⟨ho,0,none⟩ (.int i64 12)).setCell ⟨ho,1,none⟩ (.int i64 0)).setCell ⟨ho,2,none⟩ (.int i64 0)).setCell ⟨ho,3,none⟩ (.bool a0)).setCell ⟨ho,4,none⟩ (.int i64 a1)).setCell ⟨ho,5,none⟩ (.int i64 a2)).setCell ⟨ho,6,none⟩ (.int i64 a3)).setCell ⟨ho,7,none⟩ (.bool e0)).setCell ⟨ho,8,none⟩ (.int i64 e1)).setCell ⟨ho,9,none⟩ (.int i64 e2)).setCell ⟨ho,10,none⟩ (.int i64 e3)) ho 344 #[.int i64 12,.int i64 0,.int i64 0,.bool a0,.int i64 a1,.int i64 a2,.int i64 a3,.bool e0,.int i64 e1,.int i64 e2,.int i64 e3]/\Fq [s] wI (((((((((((u2.setCell ⟨ho,0,none⟩ (.int i64 12)).setCell ⟨ho,1,none⟩ (.int i64 0)).setCell ⟨ho,2,none⟩ (.int i64 0)).setCell ⟨ho,3,none⟩ (.bool a0)).setCell ⟨ho,4,none⟩ (.int i64 a1)).setCell ⟨ho,5,none⟩ (.int i64 a2)).setCell ⟨ho,6,none⟩ (.int i64 a3)).setCell ⟨ho,7,none⟩ (.bool e0)).setCell ⟨ho,8,none⟩ (.int i64 e1)).setCell ⟨ho,9,none⟩ (.int i64 e2)).setCell ⟨ho,10,none⟩ (.int i64 e3))):=hid (by
  have h:=HC2.out.op hB HO2.out hoI ((((((((((((Kx.refl (B:=B) (F:=[344])).set HO2.out HBO.out (by simp) 0 (.int i64 12)).set (HO2.out.set_ 0 (.int i64 12)) HBO.out (by simp) 1 (.int i64 0)).set ((HO2.out.set_ 0 (.int i64 12)).set_ 1 (.int i64 0)) HBO.out (by simp) 2 (.int i64 0)).set (((HO2.out.set_ 0 (.int i64 12)).set_ 1 (.int i64 0)).set_ 2 (.int i64 0)) HBO.out (by simp) 3 (.bool a0)).set ((((HO2.out.set_ 0 (.int i64 12)).set_ 1 (.int i64 0)).set_ 2 (.int i64 0)).set_ 3 (.bool a0)) HBO.out (by simp) 4 (.int i64 a1)).set (((((HO2.out.set_ 0 (.int i64 12)).set_ 1 (.int i64 0)).set_ 2 (.int i64 0)).set_ 3 (.bool a0)).set_ 4 (.int i64 a1)) HBO.out (by simp) 5 (.int i64 a2)).set ((((((HO2.out.set_ 0 (.int i64 12)).set_ 1 (.int i64 0)).set_ 2 (.int i64 0)).set_ 3 (.bool a0)).set_ 4 (.int i64 a1)).set_ 5 (.int i64 a2)) HBO.out (by simp) 6 (.int i64 a3)).set (((((((HO2.out.set_ 0 (.int i64 12)).set_ 1 (.int i64 0)).set_ 2 (.int i64 0)).set_ 3 (.bool a0)).set_ 4 (.int i64 a1)).set_ 5 (.int i64 a2)).set_ 6 (.int i64 a3)) HBO.out (by simp) 7 (.bool e0)).set ((((((((HO2.out.set_ 0 (.int i64 12)).set_ 1 (.int i64 0)).set_ 2 (.int i64 0)).set_ 3 (.bool a0)).set_ 4 (.int i64 a1)).set_ 5 (.int i64 a2)).set_ 6 (.int i64 a3)).set_ 7 (.bool e0)) HBO.out (by simp) 8 (.int i64 e1)).set (((((((((HO2.out.set_ 0 (.int i64 12)).set_ 1 (.int i64 0)).set_ 2 (.int i64 0)).set_ 3 (.bool a0)).set_ 4 (.int i64 a1)).set_ 5 (.int i64 a2)).set_ 6 (.int i64 a3)).set_ 7 (.bool e0)).set_ 8 (.int i64 e1)) HBO.out (by simp) 9 (.int i64 e2)).set ((((((((((HO2.out.set_ 0 (.int i64 12)).set_ 1 (.int i64 0)).set_ 2 (.int i64 0)).set_ 3 (.bool a0)).set_ 4 (.int i64 a1)).set_ 5 (.int i64 a2)).set_ 6 (.int i64 a3)).set_ 7 (.bool e0)).set_ 8 (.int i64 e1)).set_ 9 (.int i64 e2)) HBO.out (by simp) 10 (.int i64 e3)) (((((((((((HC2.out.fq.set (.inr hoI) 0 (.int i64 12)).set (.inr hoI) 1 (.int i64 0)).set (.inr hoI) 2 (.int i64 0)).set (.inr hoI) 3 (.bool a0)).set (.inr hoI) 4 (.int i64 a1)).set (.inr hoI) 5 (.int i64 a2)).set (.inr hoI) 6 (.int i64 a3)).set (.inr hoI) 7 (.bool e0)).set (.inr hoI) 8 (.int i64 e1)).set (.inr hoI) 9 (.int i64 e2)).set (.inr hoI) 10 (.int i64 e3)) (own_farB (own_farB (own_farB (own_farB (own_farB (own_farB (own_farB (own_farB (own_farB (own_farB (own_farB HC2.out.ops hno) hno) hno) hno) hno) hno) hno) hno) hno) hno) hno)
  exact ⟨h,by simpa using (((((((((((HO2.out.set_ 0 (.int i64 12)).set_ 1 (.int i64 0)).set_ 2 (.int i64 0)).set_ 3 (.bool a0)).set_ 4 (.int i64 a1)).set_ 5 (.int i64 a2)).set_ 6 (.int i64 a3)).set_ 7 (.bool e0)).set_ 8 (.int i64 e1)).set_ 9 (.int i64 e2)).set_ 10 (.int i64 e3)),h.fq⟩)
 refine wpAnyL_late (i:=5) rfl (by kernel_rfl) (by rfl) (by kernel_rfl) ?_
 go_simp
 (try simp only [sP])
 refine wpAnyL_done (by kernel_rfl) ?_ _
 refine NoPanic.normal ?_
 (apply hN;exact HF)
end Go.Proofs.Ytnidcmhfbkdioaa
