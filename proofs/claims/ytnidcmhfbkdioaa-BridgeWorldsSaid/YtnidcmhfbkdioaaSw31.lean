/-
  tourmake.system: one operation. Conditions: what is read can be read.
-/
import Derived.Test.YtnidcmhfbkdioaaSw30
namespace Go.Proofs.Ytnidcmhfbkdioaa
open Go.RowKit
open Go.IntKind (i64)
open Go.Lib (hid)
set_option maxRecDepth 100000
noncomputable def syR31:Code:=(Try.f198.body.bind (rgnN 31)).getD .skip
noncomputable def syOp:Code:=(Try.f198.body.bind (blkN 4)).getD .skip
theorem T.info344:(Try.prog.info? 344).map (fun i=>(i.zero,i.size,i.bytes))=some (some (.agg #[.int i64 0,.int i64 0,.int i64 0,.bool false,.int i64 0,.int i64 0,.int i64 0,.bool false,.int i64 0,.int i64 0,.int i64 0]),11,88):=by kernel_rfl
section
variable {w w8 wI:World} {B s hp hs hk hx ho sn sc kn kc n1 c1 n2 c2 n3 c3 n4 c4 on oc pn pc:Nat} {SA kA A1 A2 A3 A4 OA PA:Option Addr} {xs l4:List Int} {ks:List Kd} {nm:ByteArray} {os:List Value}
theorem OpI.push {g8 c8:Nat} {cs:List Value} {o:Obj} (h:OpI w wI B s hp hs hk SA sn sc xs kA kn kc ks hx nm A1 n1 c1 A2 n2 c2 A3 n3 c3 A4 n4 c4 l4 OA on oc os PA pn pc) (hB:B<=s) (hBI:B<=wI.heap.size) (hown:w8.ownsRow wI.heap.size 344 11 (.slice (some ⟨g8,0,none⟩) (on+1) c8) (on+1) (os++cs)) (hg:(w.alloc o).grownBy w8 (Value.slice OA on oc).ownBlock):OpI (w8.setCell ⟨hx,5,none⟩ (.slice (some ⟨g8,0,none⟩) (on+1) c8)) wI B s hp hs hk SA sn sc xs kA kn kc ks hx nm A1 n1 c1 A2 n2 c2 A3 n3 c3 A4 n4 c4 l4 (some ⟨g8,0,none⟩) (on+1) c8 (os++cs) PA pn pc:=by
 have hbx:Bk w8 hx 307 #[.string nm,.slice A1 n1 c1,.slice A2 n2 c2,.slice A3 n3 c3,.slice A4 n4 c4,.slice OA on oc,.slice PA pn pc]:=(h.bx.alloc _).grown hg (fun e=>own_ne h.ops h.bx (by decide) e.symm)
 have hq:Kx B [344,307] w (w8.setCell ⟨hx,5,none⟩ (.slice (some ⟨g8,0,none⟩) (on+1) c8)):=((((Kx.refl (B:=B)).alloc _).grown (h.ops.alloc _) hg hBI (by simp)).set hbx (Nat.le_trans hBI h.lx) (by simp) 5 _)
 have hk:=hq.mono (Nat.zero_le _) (fun _ h=>h)
 exact ⟨⟨h.arg.st.kx hq (Nat.le_refl _) (h.arg.st.lo hB) (by decide),hk.bk h.arg.bp (by decide),hk.bk h.arg.bs (by decide),hk.bk h.arg.bk (by decide),h.arg.rd.keep hk (by decide),h.arg.cap,h.arg.cap2,h.arg.pos,h.arg.few,h.arg.inn,h.arg.kd.keep hk (by decide) (by decide),h.arg.fd⟩,by simpa using hbx.set_ 5 (.slice (some ⟨g8,0,none⟩) (on+1) c8),h.w4.keep hk (by decide),h.cap4,h.cap42,h.i4,h.few4,own_far hown hbx (by decide) 5 _,((h.fq.alloc _).grown hg (fun g hg=>.inr (h.ops.lt g hg).1)).set (.inr h.lx) 5 _,h.lx,Nat.le_trans h.sz hq.size⟩
end
set_option maxHeartbeats 8000000 in
theorem sy31_any {x0 x1 x2 x5 x6 x8 x9 Ac Ad Ae Af Ag Ah Ai Aj Ak Al Am Ao Ap Aq Ar Au Av Aw Ax Ay Az A7 A9 Be Bl Bu Bv Bw B0 B1 B2 B3 B4 B5 B6 B7 B8 B9 Cg Ch Ci Cj Ck Cp Cq Cr Cs Cu Cw Cx Cy Cz C0 C1 C2 C3 C4 C5 C6 C7 C8 C9 Da Db Dc Dd De Dg Dh Di Dj Dk Dl Dm Dn Dp Dq Dr Ds Dt Du Dv Dw Dx Dy D0 D1 D3 D4 D5 D6 D7 D8 D9 Ee Ef Ei Ek El Em En Eo Es Et Eu Ev Ew Ex Ey Ez E0 E1 E2 E3 E4 E5 E6 E7 E8 E9 Fa Fb Ff Fg Fh Fi Fj Fk Fl Fm Fn Fp Fs Ft Fu Fv Fx Fy Fz F0 F1 F2 F3 F4 F5 F6 F7 F8 F9 Ga Gd Gi Gp Gr Gs Gt Gu Gv Gw Gx Gy Gz G0 G1 G2 G3 G4 G5 G6 G7 G8 G9 Hb Hc Hd:Value} {Q:Exit->Act->World->Prop} {wI w0:World} {B s hp hs hk hx ho sn sc kn kc n1 c1 n2 c2 n3 c3 n4 c4 on oc pn pc:Nat} {SA kA A1 A2 A3 A4 OA PA:Option Addr} {xs l4:List Int} {ks:List Kd} {nm:ByteArray} {os:List Value} {d t0 t1:Int} {a0:Bool} {a1 a2 a3:Int} {b0:Bool} {b1 b2 b3:Int}
 (hI:OpI w0 wI B s hp hs hk SA sn sc xs kA kn kc ks hx nm A1 n1 c1 A2 n2 c2 A3 n3 c3 A4 n4 c4 l4 OA on oc os PA pn pc) (hB:B<=s) (hBI:B<=wI.heap.size) (ho_:Bk w0 ho 344 #[.int i64 d,.int i64 t0,.int i64 t1,.bool a0,.int i64 a1,.int i64 a2,.int i64 a3,.bool b0,.int i64 b1,.int i64 b2,.int i64 b3]) (hon:on<=100)
 (hN:∀ (Nx Ny Nz N0 N1 N2:Value) (OA2:Option Addr) (oc2:Nat) (os2:List Value) (w':World),Hid (OpI w' wI B s hp hs hk SA sn sc xs kA kn kc ks hx nm A1 n1 c1 A2 n2 c2 A3 n3 c3 A4 n4 c4 l4 OA2 (on+1) oc2 os2 PA pn pc)->Q .normal ⟨#[x0,x1,x2,.pointer (some ⟨hk,0,none⟩),.pointer (some ⟨hp,0,none⟩),x5,x6,.pointer (some ⟨hx,0,none⟩),x8,x9,.func (.func 237) #[] #[.pointer (some ⟨hp,0,none⟩),.pointer (some ⟨hs,0,none⟩),.pointer (some ⟨hk,0,none⟩)],.pointer (some ⟨ho,0,none⟩),Ac,Ad,Ae,Af,Ag,Ah,Ai,Aj,Ak,Al,Am,Ao,Ap,Aq,Ar,Au,Av,Aw,Ax,Ay,Az,A7,A9,Be,Bl,Bu,Bv,Bw,B0,B1,B2,B3,B4,B5,B6,B7,B8,B9,Cg,Ch,Ci,Cj,Ck,Cp,Cq,Cr,Cs,Cu,Cw,Cx,Cy,Cz,C0,C1,C2,C3,C4,C5,C6,C7,C8,C9,Da,Db,Dc,Dd,De,Dg,Dh,Di,Dj,Dk,Dl,Dm,Dn,Dp,Dq,Dr,Ds,Dt,Du,Dv,Dw,Dx,Dy,D0,D1,D3,D4,D5,D6,D7,D8,D9,Ee,Ef,Ei,Ek,El,Em,En,Eo,Es,Et,Eu,Ev,Ew,Ex,Ey,Ez,E0,E1,E2,E3,E4,E5,E6,E7,E8,E9,Fa,Fb,Ff,Fg,Fh,Fi,Fj,Fk,Fl,Fm,Fn,Fp,Fs,Ft,Fu,Fv,Fx,Fy,Fz,F0,F1,F2,F3,F4,F5,F6,F7,F8,F9,Ga,Gd,Gi,Gp,Gr,Gs,Gt,Gu,Gv,Gw,Gx,Gy,Gz,G0,G1,G2,G3,G4,Nx,Ny,Nz,N0,N1,N2,Hc,Hd],[]⟩ w') :
 Code.wp Try.prog syR31 Q ⟨#[x0,x1,x2,.pointer (some ⟨hk,0,none⟩),.pointer (some ⟨hp,0,none⟩),x5,x6,.pointer (some ⟨hx,0,none⟩),x8,x9,.func (.func 237) #[] #[.pointer (some ⟨hp,0,none⟩),.pointer (some ⟨hs,0,none⟩),.pointer (some ⟨hk,0,none⟩)],.pointer (some ⟨ho,0,none⟩),Ac,Ad,Ae,Af,Ag,Ah,Ai,Aj,Ak,Al,Am,Ao,Ap,Aq,Ar,Au,Av,Aw,Ax,Ay,Az,A7,A9,Be,Bl,Bu,Bv,Bw,B0,B1,B2,B3,B4,B5,B6,B7,B8,B9,Cg,Ch,Ci,Cj,Ck,Cp,Cq,Cr,Cs,Cu,Cw,Cx,Cy,Cz,C0,C1,C2,C3,C4,C5,C6,C7,C8,C9,Da,Db,Dc,Dd,De,Dg,Dh,Di,Dj,Dk,Dl,Dm,Dn,Dp,Dq,Dr,Ds,Dt,Du,Dv,Dw,Dx,Dy,D0,D1,D3,D4,D5,D6,D7,D8,D9,Ee,Ef,Ei,Ek,El,Em,En,Eo,Es,Et,Eu,Ev,Ew,Ex,Ey,Ez,E0,E1,E2,E3,E4,E5,E6,E7,E8,E9,Fa,Fb,Ff,Fg,Fh,Fi,Fj,Fk,Fl,Fm,Fn,Fp,Fs,Ft,Fu,Fv,Fx,Fy,Fz,F0,F1,F2,F3,F4,F5,F6,F7,F8,F9,Ga,Gd,Gi,Gp,Gr,Gs,Gt,Gu,Gv,Gw,Gx,Gy,Gz,G0,G1,G2,G3,G4,G5,G6,G7,G8,G9,Hb,Hc,Hd],[]⟩ w0:=by
 conv=>arg 2;whnf
 obtain ⟨iO,hiO,hz0,hz1,hz2⟩:=info_parts T.info344
 have HI:=hid hI
 have p0:w0.cell? ⟨hx,5,none⟩=some (.slice OA on oc):=hI.bx.cell 5
 have k0:w0.cell? ⟨ho,0,none⟩=some (.int i64 d):=ho_.cell 0
 have k1:w0.cell? ⟨ho,1,none⟩=some (.int i64 t0):=ho_.cell 1
 have k2:w0.cell? ⟨ho,2,none⟩=some (.int i64 t1):=ho_.cell 2
 have k3:w0.cell? ⟨ho,3,none⟩=some (.bool a0):=ho_.cell 3
 have k4:w0.cell? ⟨ho,4,none⟩=some (.int i64 a1):=ho_.cell 4
 have k5:w0.cell? ⟨ho,5,none⟩=some (.int i64 a2):=ho_.cell 5
 have k6:w0.cell? ⟨ho,6,none⟩=some (.int i64 a3):=ho_.cell 6
 have k7:w0.cell? ⟨ho,7,none⟩=some (.bool b0):=ho_.cell 7
 have k8:w0.cell? ⟨ho,8,none⟩=some (.int i64 b1):=ho_.cell 8
 have k9:w0.cell? ⟨ho,9,none⟩=some (.int i64 b2):=ho_.cell 9
 have k10:w0.cell? ⟨ho,10,none⟩=some (.int i64 b3):=ho_.cell 10
 have hsz:=hI.sz
 clear hI ho_
 go_wp2_with
  (at_builtin
   go_must (refine wpList_append_one _ rfl (.tmp 180) (.tmp 182) _ rfl wI.heap.size 344 iO (.agg #[.int i64 0,.int i64 0,.int i64 0,.bool false,.int i64 0,.int i64 0,.int i64 0,.bool false,.int i64 0,.int i64 0,.int i64 0]) 11 88 Try.underlying305 hiO hz0 hz1 hz2 rfl (by decide) (.slice OA on oc) on os rfl (HI.out.ops.alloc _) w0.heap.size 1 344 #[.int i64 d,.int i64 t0,.int i64 t1,.bool a0,.int i64 a1,.int i64 a2,.int i64 a3,.bool b0,.int i64 b1,.int i64 b2,.int i64 b3] rfl (Bk.new _ _ _) rfl ?c1 (on+1) rfl ?c2 ?c3 ?c4 ?_)
   case c1=>simp [Value.oneCell']
   case c2=>unfold maxLen;omega
   case c3=>omega
   case c4=>(simp;omega)
   intro g8 c8 w8 hown8 hg8 hat8
   have hbx:Bk w8 hx 307 #[.string nm,.slice A1 n1 c1,.slice A2 n2 c2,.slice A3 n3 c3,.slice A4 n4 c4,.slice OA on oc,.slice PA pn pc]:=(HI.out.bx.alloc _).grown hg8 (fun e=>own_ne HI.out.ops HI.out.bx (by decide) e.symm)
   have z0:w8.cell? ⟨hx,5,none⟩=some (.slice OA on oc):=hbx.cell 5
   have z1:=hbx.frozen 5
   have HF:=hid (HI.out.push hB hBI hown8 hg8)
   clear hbx hown8 hg8 hat8)
 (try refine NoPanic.normal ?_)
 (try simp only [Exit.inBlock,Exit.then])
 first
  | exact HF
  | (apply hN;exact HF)
set_option maxHeartbeats 16000000 in
theorem syOp_any {x0 x1 x2 x5 x6 x8 x9 Ab Ac Ad Ae Af Ag Ah Ai Aj Ak Al Am Ao Ap Aq Ar Au Av Aw Ax Ay Az A7 A9 Be Bl Bu Bv Bw B0 B1 B2 B3 B4 B5 B6 B7 B8 B9 Cg Ch Ci Cj Ck Cp Cq Cr Cs Cu Cw Cx Cy Cz C0 C1 C2 C3 C4 C5 C6 C7 C8 C9 Da Db Dc Dd De Dg Dh Di Dj Dk Dl Dm Dn Dp Dq Dr Ds Dt Du Dv Dw Dx Dy D0 D1 D3 D4 D5 D6 D7 D8 D9 Ee Ef Ei Ek El Em En Eo Es Et Eu Ev Ew Ex Ey Ez E0 E1 E2 E3 E4 E5 E6 E7 E8 E9 Fa Fb Ff Fg Fh Fi Fj Fk Fl Fm Fn Fp Fs Ft Fu Fv Fx Fy Fz F0 F1 F2 F3 F4 F5 F6 F7 F8 F9 Ga Gd Gi Gp Gr Gs Gt Gu Gv Gw Gx Gy Gz G0 G1 G2 G3 G4 G5 G6 G7 G8 G9 Hb Hc Hd:Value} {Q:Exit->Act->World->Prop} {wI w0:World} {B s hp hs hk hx sn sc kn kc n1 c1 n2 c2 n3 c3 n4 c4 on oc pn pc:Nat} {SA kA A1 A2 A3 A4 OA PA:Option Addr} {xs l4:List Int} {ks:List Kd} {nm:ByteArray} {os:List Value}
 (hI:OpI w0 wI B s hp hs hk SA sn sc xs kA kn kc ks hx nm A1 n1 c1 A2 n2 c2 A3 n3 c3 A4 n4 c4 l4 OA on oc os PA pn pc) (hB:B<=s) (hBI:B<=wI.heap.size) (hone:∀ k∈ks,oneF k.nm k.fds=0) (hkn:kn<=16) (hk1:1<=kn) (hon:on<=100)
 (hN:∀ (Hm Hn J7 J8 J9 Kk Kq Ks Kt Ku Kv Kw Ky K0 K1 K2 K3 K4 K5 K6 K7 K8 K9 La Lb Lc Ld Le Lf Lg Lh Li Lj Lk Ll Lm Ln Lo Lp Lq Lr Ls Lt Lu Lv Lw Lx Ly Lz L0 L1 L2 L3 L4 L5 L6 L7 L8 L9 Mi Mm Mp Mr Ms Mv Mx My M0 M3 M4 M5 M6 M7 M8 M9 Na Nb Nc Nd Nf Ng Nh Ni Nj Nk Nl Nm Nn Np Nq Nr Ns Nt Nu Nv Nw Nx Ny Nz N0 N1 N2:Value) (OA2:Option Addr) (oc2:Nat) (os2:List Value) (PA2:Option Addr) (pn2 pc2:Nat) (w':World),Hid (OpI w' wI B s hp hs hk SA sn sc xs kA kn kc ks hx nm A1 n1 c1 A2 n2 c2 A3 n3 c3 A4 n4 c4 l4 OA2 (on+1) oc2 os2 PA2 pn2 pc2)->Q .normal ⟨#[x0,x1,x2,.pointer (some ⟨hk,0,none⟩),.pointer (some ⟨hp,0,none⟩),x5,x6,.pointer (some ⟨hx,0,none⟩),x8,x9,.func (.func 237) #[] #[.pointer (some ⟨hp,0,none⟩),.pointer (some ⟨hs,0,none⟩),.pointer (some ⟨hk,0,none⟩)],Hm,Hn,Ad,Ae,Af,Ag,Ah,Ai,Aj,Ak,Al,Am,Ao,Ap,Aq,Ar,Au,Av,Aw,Ax,Ay,Az,A7,A9,Be,Bl,Bu,Bv,Bw,B0,B1,B2,B3,B4,B5,B6,B7,B8,B9,Cg,Ch,Ci,Cj,Ck,Cp,Cq,Cr,Cs,Cu,Cw,Cx,Cy,Cz,C0,C1,C2,C3,C4,C5,C6,C7,C8,C9,Da,Db,Dc,Dd,De,Dg,Dh,Di,Dj,Dk,Dl,J7,J8,J9,Kk,Kq,Ks,Kt,Ku,Kv,Kw,Ky,K0,K1,K2,K3,K4,K5,K6,K7,K8,K9,La,Lb,Lc,Ld,Le,Lf,Lg,Lh,Li,Lj,Lk,Ll,Lm,Ln,Lo,Lp,Lq,Lr,Ls,Lt,Lu,Lv,Lw,Lx,Ly,Lz,L0,L1,L2,L3,L4,L5,L6,L7,L8,L9,Mi,Mm,Mp,Mr,Ms,Mv,Mx,My,M0,M3,M4,M5,M6,M7,M8,M9,Na,Nb,Nc,Nd,Nf,Ng,Nh,Ni,Nj,Nk,Nl,Nm,Nn,Np,Nq,Nr,Ns,Nt,Nu,Nv,Nw,Nx,Ny,Nz,N0,N1,N2,Hc,Hd],[]⟩ w') :
 Code.wp Try.prog syOp Q ⟨#[x0,x1,x2,.pointer (some ⟨hk,0,none⟩),.pointer (some ⟨hp,0,none⟩),x5,x6,.pointer (some ⟨hx,0,none⟩),x8,x9,.func (.func 237) #[] #[.pointer (some ⟨hp,0,none⟩),.pointer (some ⟨hs,0,none⟩),.pointer (some ⟨hk,0,none⟩)],Ab,Ac,Ad,Ae,Af,Ag,Ah,Ai,Aj,Ak,Al,Am,Ao,Ap,Aq,Ar,Au,Av,Aw,Ax,Ay,Az,A7,A9,Be,Bl,Bu,Bv,Bw,B0,B1,B2,B3,B4,B5,B6,B7,B8,B9,Cg,Ch,Ci,Cj,Ck,Cp,Cq,Cr,Cs,Cu,Cw,Cx,Cy,Cz,C0,C1,C2,C3,C4,C5,C6,C7,C8,C9,Da,Db,Dc,Dd,De,Dg,Dh,Di,Dj,Dk,Dl,Dm,Dn,Dp,Dq,Dr,Ds,Dt,Du,Dv,Dw,Dx,Dy,D0,D1,D3,D4,D5,D6,D7,D8,D9,Ee,Ef,Ei,Ek,El,Em,En,Eo,Es,Et,Eu,Ev,Ew,Ex,Ey,Ez,E0,E1,E2,E3,E4,E5,E6,E7,E8,E9,Fa,Fb,Ff,Fg,Fh,Fi,Fj,Fk,Fl,Fm,Fn,Fp,Fs,Ft,Fu,Fv,Fx,Fy,Fz,F0,F1,F2,F3,F4,F5,F6,F7,F8,F9,Ga,Gd,Gi,Gp,Gr,Gs,Gt,Gu,Gv,Gw,Gx,Gy,Gz,G0,G1,G2,G3,G4,G5,G6,G7,G8,G9,Hb,Hc,Hd],[]⟩ w0:=by
 conv=>arg 2;whnf
 have HNX:=hid next_any
 have HI:=hid hI
 have HON:=hid hone
 have p0:w0.cell? ⟨hp,0,none⟩=some (.pointer (some ⟨s,0,none⟩)):=hI.arg.bp.cell 0
 clear hI hone
 go_wp2_with fail
 (with_reducible refine (HNX.out s B 13 _ HI.out.arg.st hB (by omega) (by omega)).mono ?_)
 rintro e w1 ⟨d,rfl,hd0,hd1,hst1,hg1⟩
 have HI1:Hid (OpI w1 wI B s hp hs hk SA sn sc xs kA kn kc ks hx nm A1 n1 c1 A2 n2 c2 A3 n3 c3 A4 n4 c4 l4 OA on oc os PA pn pc):=hid (HI.out.next hst1 (Fq.refl.grown hg1 fun g hg=>.inl (by injection hg with hg;simp [hg])))
 clear hst1 hg1 HI p0
 go_wp2_with fail
 (with_reducible refine (arg237_any HI1.out.arg hB).mono ?_)
 rintro e w2 ⟨a0,a1,a2,a3,rfl,hst2,hq2⟩
 have HI2:Hid (OpI w2 wI B s hp hs hk SA sn sc xs kA kn kc ks hx nm A1 n1 c1 A2 n2 c2 A3 n3 c3 A4 n4 c4 l4 OA on oc os PA pn pc):=hid (HI1.out.next hst2 hq2)
 clear hst2 hq2 HI1
 obtain ⟨w3,hw3⟩:∃ z,z=w2.alloc (.cells #[.int i64 d,.int i64 0,.int i64 0,.bool a0,.int i64 a1,.int i64 a2,.int i64 a3,.bool false,.int i64 0,.int i64 0,.int i64 0] 344):=⟨_,rfl⟩
 obtain ⟨ho,hho⟩:∃ z,z=w2.heap.size:=⟨_,rfl⟩
 have HO3:Hid (Bk w3 ho 344 #[.int i64 d,.int i64 0,.int i64 0,.bool a0,.int i64 a1,.int i64 a2,.int i64 a3,.bool false,.int i64 0,.int i64 0,.int i64 0]):=hid (by rw [hw3,hho];exact Bk.new _ _ _)
 have HI3:Hid (OpI w3 wI B s hp hs hk SA sn sc xs kA kn kc ks hx nm A1 n1 c1 A2 n2 c2 A3 n3 c3 A4 n4 c4 l4 OA on oc os PA pn pc):=hid (by rw [hw3];exact HI2.out.next (HI2.out.arg.st.below ((Below.refl _ _).alloc (Nat.le_refl _) _) (HI2.out.arg.st.lo hB)) (Fq.of_below ((Below.refl _ _).alloc (Nat.le_refl _) _)))
 have hno:(Value.slice OA on oc).ownBlock≠some ho:=fun e=>by have:=(HI2.out.ops.lt ho e).2;omega
 have hoI:wI.heap.size<=ho:=by have:=HI2.out.sz;omega
 go_upto_region 20 with fail
 rw [<- hw3,<- hho]
 clear hw3 hho HI2
 have p4:w3.cell? ⟨ho,0,none⟩=some (.int i64 d):=HO3.out.cell 0
 rcases (show d=0\/d=1\/d=2\/d=3\/d=4\/d=5\/d=6\/d=7\/d=8\/d=9\/d=10\/d=11\/d=12 by omega) with rfl | rfl | rfl | rfl | rfl | rfl | rfl | rfl | rfl | rfl | rfl | rfl | rfl
 . clear hd0 hd1
   go_upto_block 5 with fail
   clear p4
   refine sySw_any HI3.out hB hBI HO3.out hoI hno HON.out hkn hk1 (by decide) (by decide) ?_
   intros
   rename_i d' t0' t1' a0' a1' a2' a3' b0' b1' b2' b3' PA' pn' pc' w7 H7
   have HI7:=hid H7.out.1
   have HO7:=hid H7.out.2
   clear H7
   go_upto_region 31 with fail
   refine sy31_any HI7.out hB hBI HO7.out hon ?_
   intros
   rename_i OA2 oc2 os2 w8 HF
   clear HI7 HO7
   go_wp2_with fail
   (try simp only [Exit.inBlock,Exit.then])
   first
    | exact HF
    | (apply hN;exact HF)
 . clear hd0 hd1
   go_wp2_with fail
   (with_reducible refine (arg237_any HI3.out.arg hB).mono ?_)
   rintro e w4 ⟨b0,b1,b2,b3,rfl,hst4,hq4⟩
   have HI4:Hid (OpI w4 wI B s hp hs hk SA sn sc xs kA kn kc ks hx nm A1 n1 c1 A2 n2 c2 A3 n3 c3 A4 n4 c4 l4 OA on oc os PA pn pc):=hid (HI3.out.next hst4 hq4)
   have HO4:Hid (Bk w4 ho 344 #[.int i64 1,.int i64 0,.int i64 0,.bool a0,.int i64 a1,.int i64 a2,.int i64 a3,.bool false,.int i64 0,.int i64 0,.int i64 0]):=hid ((Kx.fq (B':=0) hq4 HI3.out.arg.st (Nat.zero_le _)).bk HO3.out (by decide))
   clear hst4 hq4 HI3 HO3 p4
   have z7:w4.cell? ⟨ho,7,none⟩=some (.bool false):=HO4.out.cell 7
   have z8:w4.cell? ⟨ho,8,none⟩=some (.int i64 0):=HO4.out.cell 8
   have z9:w4.cell? ⟨ho,9,none⟩=some (.int i64 0):=HO4.out.cell 9
   have z10:w4.cell? ⟨ho,10,none⟩=some (.int i64 0):=HO4.out.cell 10
   have y7:=HO4.out.frozen 7
   have y8:=HO4.out.frozen 8
   have y9:=HO4.out.frozen 9
   have Hl:=HO4.out.frozen 10
   obtain ⟨w5,hw5⟩:∃ z,z=(((w4.setCell ⟨ho,7,none⟩ (.bool b0)).setCell ⟨ho,8,none⟩ (.int i64 b1)).setCell ⟨ho,9,none⟩ (.int i64 b2)).setCell ⟨ho,10,none⟩ (.int i64 b3):=⟨_,rfl⟩
   have HO5:Hid (Bk w5 ho 344 #[.int i64 1,.int i64 0,.int i64 0,.bool a0,.int i64 a1,.int i64 a2,.int i64 a3,.bool b0,.int i64 b1,.int i64 b2,.int i64 b3]):=hid (by rw [hw5];simpa using (((HO4.out.set_ 7 (.bool b0)).set_ 8 (.int i64 b1)).set_ 9 (.int i64 b2)).set_ 10 (.int i64 b3))
   have HI5:Hid (OpI w5 wI B s hp hs hk SA sn sc xs kA kn kc ks hx nm A1 n1 c1 A2 n2 c2 A3 n3 c3 A4 n4 c4 l4 OA on oc os PA pn pc):=hid (by
    have hBO:B<=ho:=Nat.le_trans hBI hoI
    rw [hw5]
    exact HI4.out.op hB HO4.out hoI ((((Kx.refl.set HO4.out hBO (by simp) 7 (.bool b0)).set (HO4.out.set_ 7 _) hBO (by simp) 8 (.int i64 b1)).set ((HO4.out.set_ 7 _).set_ 8 _) hBO (by simp) 9 (.int i64 b2)).set (((HO4.out.set_ 7 _).set_ 8 _).set_ 9 _) hBO (by simp) 10 (.int i64 b3)) ((((HI4.out.fq.set (.inr hoI) 7 _).set (.inr hoI) 8 _).set (.inr hoI) 9 _).set (.inr hoI) 10 _) (own_farB (own_farB (own_farB (own_farB HI4.out.ops hno) hno) hno) hno))
   go_upto_block 5 with fail
   rw [<- hw5]
   clear hw5 z7 z8 z9 z10 y7 y8 y9 Hl HI4 HO4
   refine sySw_any HI5.out hB hBI HO5.out hoI hno HON.out hkn hk1 (by decide) (by decide) ?_
   intros
   rename_i d' t0' t1' a0' a1' a2' a3' b0' b1' b2' b3' PA' pn' pc' w7 H7
   have HI7:=hid H7.out.1
   have HO7:=hid H7.out.2
   clear H7
   go_upto_region 31 with fail
   refine sy31_any HI7.out hB hBI HO7.out hon ?_
   intros
   rename_i OA2 oc2 os2 w8 HF
   clear HI7 HO7
   go_wp2_with fail
   (try simp only [Exit.inBlock,Exit.then])
   first
    | exact HF
    | (apply hN;exact HF)
 . clear hd0 hd1
   go_wp2_with fail
   (with_reducible refine (arg237_any HI3.out.arg hB).mono ?_)
   rintro e w4 ⟨b0,b1,b2,b3,rfl,hst4,hq4⟩
   have HI4:Hid (OpI w4 wI B s hp hs hk SA sn sc xs kA kn kc ks hx nm A1 n1 c1 A2 n2 c2 A3 n3 c3 A4 n4 c4 l4 OA on oc os PA pn pc):=hid (HI3.out.next hst4 hq4)
   have HO4:Hid (Bk w4 ho 344 #[.int i64 2,.int i64 0,.int i64 0,.bool a0,.int i64 a1,.int i64 a2,.int i64 a3,.bool false,.int i64 0,.int i64 0,.int i64 0]):=hid ((Kx.fq (B':=0) hq4 HI3.out.arg.st (Nat.zero_le _)).bk HO3.out (by decide))
   clear hst4 hq4 HI3 HO3 p4
   have z7:w4.cell? ⟨ho,7,none⟩=some (.bool false):=HO4.out.cell 7
   have z8:w4.cell? ⟨ho,8,none⟩=some (.int i64 0):=HO4.out.cell 8
   have z9:w4.cell? ⟨ho,9,none⟩=some (.int i64 0):=HO4.out.cell 9
   have z10:w4.cell? ⟨ho,10,none⟩=some (.int i64 0):=HO4.out.cell 10
   have y7:=HO4.out.frozen 7
   have y8:=HO4.out.frozen 8
   have y9:=HO4.out.frozen 9
   have Hl:=HO4.out.frozen 10
   obtain ⟨w5,hw5⟩:∃ z,z=(((w4.setCell ⟨ho,7,none⟩ (.bool b0)).setCell ⟨ho,8,none⟩ (.int i64 b1)).setCell ⟨ho,9,none⟩ (.int i64 b2)).setCell ⟨ho,10,none⟩ (.int i64 b3):=⟨_,rfl⟩
   have HO5:Hid (Bk w5 ho 344 #[.int i64 2,.int i64 0,.int i64 0,.bool a0,.int i64 a1,.int i64 a2,.int i64 a3,.bool b0,.int i64 b1,.int i64 b2,.int i64 b3]):=hid (by rw [hw5];simpa using (((HO4.out.set_ 7 (.bool b0)).set_ 8 (.int i64 b1)).set_ 9 (.int i64 b2)).set_ 10 (.int i64 b3))
   have HI5:Hid (OpI w5 wI B s hp hs hk SA sn sc xs kA kn kc ks hx nm A1 n1 c1 A2 n2 c2 A3 n3 c3 A4 n4 c4 l4 OA on oc os PA pn pc):=hid (by
    have hBO:B<=ho:=Nat.le_trans hBI hoI
    rw [hw5]
    exact HI4.out.op hB HO4.out hoI ((((Kx.refl.set HO4.out hBO (by simp) 7 (.bool b0)).set (HO4.out.set_ 7 _) hBO (by simp) 8 (.int i64 b1)).set ((HO4.out.set_ 7 _).set_ 8 _) hBO (by simp) 9 (.int i64 b2)).set (((HO4.out.set_ 7 _).set_ 8 _).set_ 9 _) hBO (by simp) 10 (.int i64 b3)) ((((HI4.out.fq.set (.inr hoI) 7 _).set (.inr hoI) 8 _).set (.inr hoI) 9 _).set (.inr hoI) 10 _) (own_farB (own_farB (own_farB (own_farB HI4.out.ops hno) hno) hno) hno))
   go_upto_block 5 with fail
   rw [<- hw5]
   clear hw5 z7 z8 z9 z10 y7 y8 y9 Hl HI4 HO4
   refine sySw_any HI5.out hB hBI HO5.out hoI hno HON.out hkn hk1 (by decide) (by decide) ?_
   intros
   rename_i d' t0' t1' a0' a1' a2' a3' b0' b1' b2' b3' PA' pn' pc' w7 H7
   have HI7:=hid H7.out.1
   have HO7:=hid H7.out.2
   clear H7
   go_upto_region 31 with fail
   refine sy31_any HI7.out hB hBI HO7.out hon ?_
   intros
   rename_i OA2 oc2 os2 w8 HF
   clear HI7 HO7
   go_wp2_with fail
   (try simp only [Exit.inBlock,Exit.then])
   first
    | exact HF
    | (apply hN;exact HF)
 . clear hd0 hd1
   go_wp2_with fail
   (with_reducible refine (arg237_any HI3.out.arg hB).mono ?_)
   rintro e w4 ⟨b0,b1,b2,b3,rfl,hst4,hq4⟩
   have HI4:Hid (OpI w4 wI B s hp hs hk SA sn sc xs kA kn kc ks hx nm A1 n1 c1 A2 n2 c2 A3 n3 c3 A4 n4 c4 l4 OA on oc os PA pn pc):=hid (HI3.out.next hst4 hq4)
   have HO4:Hid (Bk w4 ho 344 #[.int i64 3,.int i64 0,.int i64 0,.bool a0,.int i64 a1,.int i64 a2,.int i64 a3,.bool false,.int i64 0,.int i64 0,.int i64 0]):=hid ((Kx.fq (B':=0) hq4 HI3.out.arg.st (Nat.zero_le _)).bk HO3.out (by decide))
   clear hst4 hq4 HI3 HO3 p4
   have z7:w4.cell? ⟨ho,7,none⟩=some (.bool false):=HO4.out.cell 7
   have z8:w4.cell? ⟨ho,8,none⟩=some (.int i64 0):=HO4.out.cell 8
   have z9:w4.cell? ⟨ho,9,none⟩=some (.int i64 0):=HO4.out.cell 9
   have z10:w4.cell? ⟨ho,10,none⟩=some (.int i64 0):=HO4.out.cell 10
   have y7:=HO4.out.frozen 7
   have y8:=HO4.out.frozen 8
   have y9:=HO4.out.frozen 9
   have Hl:=HO4.out.frozen 10
   obtain ⟨w5,hw5⟩:∃ z,z=(((w4.setCell ⟨ho,7,none⟩ (.bool b0)).setCell ⟨ho,8,none⟩ (.int i64 b1)).setCell ⟨ho,9,none⟩ (.int i64 b2)).setCell ⟨ho,10,none⟩ (.int i64 b3):=⟨_,rfl⟩
   have HO5:Hid (Bk w5 ho 344 #[.int i64 3,.int i64 0,.int i64 0,.bool a0,.int i64 a1,.int i64 a2,.int i64 a3,.bool b0,.int i64 b1,.int i64 b2,.int i64 b3]):=hid (by rw [hw5];simpa using (((HO4.out.set_ 7 (.bool b0)).set_ 8 (.int i64 b1)).set_ 9 (.int i64 b2)).set_ 10 (.int i64 b3))
   have HI5:Hid (OpI w5 wI B s hp hs hk SA sn sc xs kA kn kc ks hx nm A1 n1 c1 A2 n2 c2 A3 n3 c3 A4 n4 c4 l4 OA on oc os PA pn pc):=hid (by
    have hBO:B<=ho:=Nat.le_trans hBI hoI
    rw [hw5]
    exact HI4.out.op hB HO4.out hoI ((((Kx.refl.set HO4.out hBO (by simp) 7 (.bool b0)).set (HO4.out.set_ 7 _) hBO (by simp) 8 (.int i64 b1)).set ((HO4.out.set_ 7 _).set_ 8 _) hBO (by simp) 9 (.int i64 b2)).set (((HO4.out.set_ 7 _).set_ 8 _).set_ 9 _) hBO (by simp) 10 (.int i64 b3)) ((((HI4.out.fq.set (.inr hoI) 7 _).set (.inr hoI) 8 _).set (.inr hoI) 9 _).set (.inr hoI) 10 _) (own_farB (own_farB (own_farB (own_farB HI4.out.ops hno) hno) hno) hno))
   go_upto_block 5 with fail
   rw [<- hw5]
   clear hw5 z7 z8 z9 z10 y7 y8 y9 Hl HI4 HO4
   refine sySw_any HI5.out hB hBI HO5.out hoI hno HON.out hkn hk1 (by decide) (by decide) ?_
   intros
   rename_i d' t0' t1' a0' a1' a2' a3' b0' b1' b2' b3' PA' pn' pc' w7 H7
   have HI7:=hid H7.out.1
   have HO7:=hid H7.out.2
   clear H7
   go_upto_region 31 with fail
   refine sy31_any HI7.out hB hBI HO7.out hon ?_
   intros
   rename_i OA2 oc2 os2 w8 HF
   clear HI7 HO7
   go_wp2_with fail
   (try simp only [Exit.inBlock,Exit.then])
   first
    | exact HF
    | (apply hN;exact HF)
 . clear hd0 hd1
   go_wp2_with fail
   (with_reducible refine (arg237_any HI3.out.arg hB).mono ?_)
   rintro e w4 ⟨b0,b1,b2,b3,rfl,hst4,hq4⟩
   have HI4:Hid (OpI w4 wI B s hp hs hk SA sn sc xs kA kn kc ks hx nm A1 n1 c1 A2 n2 c2 A3 n3 c3 A4 n4 c4 l4 OA on oc os PA pn pc):=hid (HI3.out.next hst4 hq4)
   have HO4:Hid (Bk w4 ho 344 #[.int i64 4,.int i64 0,.int i64 0,.bool a0,.int i64 a1,.int i64 a2,.int i64 a3,.bool false,.int i64 0,.int i64 0,.int i64 0]):=hid ((Kx.fq (B':=0) hq4 HI3.out.arg.st (Nat.zero_le _)).bk HO3.out (by decide))
   clear hst4 hq4 HI3 HO3 p4
   have z7:w4.cell? ⟨ho,7,none⟩=some (.bool false):=HO4.out.cell 7
   have z8:w4.cell? ⟨ho,8,none⟩=some (.int i64 0):=HO4.out.cell 8
   have z9:w4.cell? ⟨ho,9,none⟩=some (.int i64 0):=HO4.out.cell 9
   have z10:w4.cell? ⟨ho,10,none⟩=some (.int i64 0):=HO4.out.cell 10
   have y7:=HO4.out.frozen 7
   have y8:=HO4.out.frozen 8
   have y9:=HO4.out.frozen 9
   have Hl:=HO4.out.frozen 10
   obtain ⟨w5,hw5⟩:∃ z,z=(((w4.setCell ⟨ho,7,none⟩ (.bool b0)).setCell ⟨ho,8,none⟩ (.int i64 b1)).setCell ⟨ho,9,none⟩ (.int i64 b2)).setCell ⟨ho,10,none⟩ (.int i64 b3):=⟨_,rfl⟩
   have HO5:Hid (Bk w5 ho 344 #[.int i64 4,.int i64 0,.int i64 0,.bool a0,.int i64 a1,.int i64 a2,.int i64 a3,.bool b0,.int i64 b1,.int i64 b2,.int i64 b3]):=hid (by rw [hw5];simpa using (((HO4.out.set_ 7 (.bool b0)).set_ 8 (.int i64 b1)).set_ 9 (.int i64 b2)).set_ 10 (.int i64 b3))
   have HI5:Hid (OpI w5 wI B s hp hs hk SA sn sc xs kA kn kc ks hx nm A1 n1 c1 A2 n2 c2 A3 n3 c3 A4 n4 c4 l4 OA on oc os PA pn pc):=hid (by
    have hBO:B<=ho:=Nat.le_trans hBI hoI
    rw [hw5]
    exact HI4.out.op hB HO4.out hoI ((((Kx.refl.set HO4.out hBO (by simp) 7 (.bool b0)).set (HO4.out.set_ 7 _) hBO (by simp) 8 (.int i64 b1)).set ((HO4.out.set_ 7 _).set_ 8 _) hBO (by simp) 9 (.int i64 b2)).set (((HO4.out.set_ 7 _).set_ 8 _).set_ 9 _) hBO (by simp) 10 (.int i64 b3)) ((((HI4.out.fq.set (.inr hoI) 7 _).set (.inr hoI) 8 _).set (.inr hoI) 9 _).set (.inr hoI) 10 _) (own_farB (own_farB (own_farB (own_farB HI4.out.ops hno) hno) hno) hno))
   go_upto_block 5 with fail
   rw [<- hw5]
   clear hw5 z7 z8 z9 z10 y7 y8 y9 Hl HI4 HO4
   refine sySw_any HI5.out hB hBI HO5.out hoI hno HON.out hkn hk1 (by decide) (by decide) ?_
   intros
   rename_i d' t0' t1' a0' a1' a2' a3' b0' b1' b2' b3' PA' pn' pc' w7 H7
   have HI7:=hid H7.out.1
   have HO7:=hid H7.out.2
   clear H7
   go_upto_region 31 with fail
   refine sy31_any HI7.out hB hBI HO7.out hon ?_
   intros
   rename_i OA2 oc2 os2 w8 HF
   clear HI7 HO7
   go_wp2_with fail
   (try simp only [Exit.inBlock,Exit.then])
   first
    | exact HF
    | (apply hN;exact HF)
 . clear hd0 hd1
   go_wp2_with fail
   (with_reducible refine (arg237_any HI3.out.arg hB).mono ?_)
   rintro e w4 ⟨b0,b1,b2,b3,rfl,hst4,hq4⟩
   have HI4:Hid (OpI w4 wI B s hp hs hk SA sn sc xs kA kn kc ks hx nm A1 n1 c1 A2 n2 c2 A3 n3 c3 A4 n4 c4 l4 OA on oc os PA pn pc):=hid (HI3.out.next hst4 hq4)
   have HO4:Hid (Bk w4 ho 344 #[.int i64 5,.int i64 0,.int i64 0,.bool a0,.int i64 a1,.int i64 a2,.int i64 a3,.bool false,.int i64 0,.int i64 0,.int i64 0]):=hid ((Kx.fq (B':=0) hq4 HI3.out.arg.st (Nat.zero_le _)).bk HO3.out (by decide))
   clear hst4 hq4 HI3 HO3 p4
   have z7:w4.cell? ⟨ho,7,none⟩=some (.bool false):=HO4.out.cell 7
   have z8:w4.cell? ⟨ho,8,none⟩=some (.int i64 0):=HO4.out.cell 8
   have z9:w4.cell? ⟨ho,9,none⟩=some (.int i64 0):=HO4.out.cell 9
   have z10:w4.cell? ⟨ho,10,none⟩=some (.int i64 0):=HO4.out.cell 10
   have y7:=HO4.out.frozen 7
   have y8:=HO4.out.frozen 8
   have y9:=HO4.out.frozen 9
   have Hl:=HO4.out.frozen 10
   obtain ⟨w5,hw5⟩:∃ z,z=(((w4.setCell ⟨ho,7,none⟩ (.bool b0)).setCell ⟨ho,8,none⟩ (.int i64 b1)).setCell ⟨ho,9,none⟩ (.int i64 b2)).setCell ⟨ho,10,none⟩ (.int i64 b3):=⟨_,rfl⟩
   have HO5:Hid (Bk w5 ho 344 #[.int i64 5,.int i64 0,.int i64 0,.bool a0,.int i64 a1,.int i64 a2,.int i64 a3,.bool b0,.int i64 b1,.int i64 b2,.int i64 b3]):=hid (by rw [hw5];simpa using (((HO4.out.set_ 7 (.bool b0)).set_ 8 (.int i64 b1)).set_ 9 (.int i64 b2)).set_ 10 (.int i64 b3))
   have HI5:Hid (OpI w5 wI B s hp hs hk SA sn sc xs kA kn kc ks hx nm A1 n1 c1 A2 n2 c2 A3 n3 c3 A4 n4 c4 l4 OA on oc os PA pn pc):=hid (by
    have hBO:B<=ho:=Nat.le_trans hBI hoI
    rw [hw5]
    exact HI4.out.op hB HO4.out hoI ((((Kx.refl.set HO4.out hBO (by simp) 7 (.bool b0)).set (HO4.out.set_ 7 _) hBO (by simp) 8 (.int i64 b1)).set ((HO4.out.set_ 7 _).set_ 8 _) hBO (by simp) 9 (.int i64 b2)).set (((HO4.out.set_ 7 _).set_ 8 _).set_ 9 _) hBO (by simp) 10 (.int i64 b3)) ((((HI4.out.fq.set (.inr hoI) 7 _).set (.inr hoI) 8 _).set (.inr hoI) 9 _).set (.inr hoI) 10 _) (own_farB (own_farB (own_farB (own_farB HI4.out.ops hno) hno) hno) hno))
   go_upto_block 5 with fail
   rw [<- hw5]
   clear hw5 z7 z8 z9 z10 y7 y8 y9 Hl HI4 HO4
   refine sySw_any HI5.out hB hBI HO5.out hoI hno HON.out hkn hk1 (by decide) (by decide) ?_
   intros
   rename_i d' t0' t1' a0' a1' a2' a3' b0' b1' b2' b3' PA' pn' pc' w7 H7
   have HI7:=hid H7.out.1
   have HO7:=hid H7.out.2
   clear H7
   go_upto_region 31 with fail
   refine sy31_any HI7.out hB hBI HO7.out hon ?_
   intros
   rename_i OA2 oc2 os2 w8 HF
   clear HI7 HO7
   go_wp2_with fail
   (try simp only [Exit.inBlock,Exit.then])
   first
    | exact HF
    | (apply hN;exact HF)
 . clear hd0 hd1
   go_wp2_with fail
   (with_reducible refine (arg237_any HI3.out.arg hB).mono ?_)
   rintro e w4 ⟨b0,b1,b2,b3,rfl,hst4,hq4⟩
   have HI4:Hid (OpI w4 wI B s hp hs hk SA sn sc xs kA kn kc ks hx nm A1 n1 c1 A2 n2 c2 A3 n3 c3 A4 n4 c4 l4 OA on oc os PA pn pc):=hid (HI3.out.next hst4 hq4)
   have HO4:Hid (Bk w4 ho 344 #[.int i64 6,.int i64 0,.int i64 0,.bool a0,.int i64 a1,.int i64 a2,.int i64 a3,.bool false,.int i64 0,.int i64 0,.int i64 0]):=hid ((Kx.fq (B':=0) hq4 HI3.out.arg.st (Nat.zero_le _)).bk HO3.out (by decide))
   clear hst4 hq4 HI3 HO3 p4
   have z7:w4.cell? ⟨ho,7,none⟩=some (.bool false):=HO4.out.cell 7
   have z8:w4.cell? ⟨ho,8,none⟩=some (.int i64 0):=HO4.out.cell 8
   have z9:w4.cell? ⟨ho,9,none⟩=some (.int i64 0):=HO4.out.cell 9
   have z10:w4.cell? ⟨ho,10,none⟩=some (.int i64 0):=HO4.out.cell 10
   have y7:=HO4.out.frozen 7
   have y8:=HO4.out.frozen 8
   have y9:=HO4.out.frozen 9
   have Hl:=HO4.out.frozen 10
   obtain ⟨w5,hw5⟩:∃ z,z=(((w4.setCell ⟨ho,7,none⟩ (.bool b0)).setCell ⟨ho,8,none⟩ (.int i64 b1)).setCell ⟨ho,9,none⟩ (.int i64 b2)).setCell ⟨ho,10,none⟩ (.int i64 b3):=⟨_,rfl⟩
   have HO5:Hid (Bk w5 ho 344 #[.int i64 6,.int i64 0,.int i64 0,.bool a0,.int i64 a1,.int i64 a2,.int i64 a3,.bool b0,.int i64 b1,.int i64 b2,.int i64 b3]):=hid (by rw [hw5];simpa using (((HO4.out.set_ 7 (.bool b0)).set_ 8 (.int i64 b1)).set_ 9 (.int i64 b2)).set_ 10 (.int i64 b3))
   have HI5:Hid (OpI w5 wI B s hp hs hk SA sn sc xs kA kn kc ks hx nm A1 n1 c1 A2 n2 c2 A3 n3 c3 A4 n4 c4 l4 OA on oc os PA pn pc):=hid (by
    have hBO:B<=ho:=Nat.le_trans hBI hoI
    rw [hw5]
    exact HI4.out.op hB HO4.out hoI ((((Kx.refl.set HO4.out hBO (by simp) 7 (.bool b0)).set (HO4.out.set_ 7 _) hBO (by simp) 8 (.int i64 b1)).set ((HO4.out.set_ 7 _).set_ 8 _) hBO (by simp) 9 (.int i64 b2)).set (((HO4.out.set_ 7 _).set_ 8 _).set_ 9 _) hBO (by simp) 10 (.int i64 b3)) ((((HI4.out.fq.set (.inr hoI) 7 _).set (.inr hoI) 8 _).set (.inr hoI) 9 _).set (.inr hoI) 10 _) (own_farB (own_farB (own_farB (own_farB HI4.out.ops hno) hno) hno) hno))
   go_upto_block 5 with fail
   rw [<- hw5]
   clear hw5 z7 z8 z9 z10 y7 y8 y9 Hl HI4 HO4
   refine sySw_any HI5.out hB hBI HO5.out hoI hno HON.out hkn hk1 (by decide) (by decide) ?_
   intros
   rename_i d' t0' t1' a0' a1' a2' a3' b0' b1' b2' b3' PA' pn' pc' w7 H7
   have HI7:=hid H7.out.1
   have HO7:=hid H7.out.2
   clear H7
   go_upto_region 31 with fail
   refine sy31_any HI7.out hB hBI HO7.out hon ?_
   intros
   rename_i OA2 oc2 os2 w8 HF
   clear HI7 HO7
   go_wp2_with fail
   (try simp only [Exit.inBlock,Exit.then])
   first
    | exact HF
    | (apply hN;exact HF)
 . clear hd0 hd1
   go_upto_block 5 with fail
   clear p4
   refine sySw_any HI3.out hB hBI HO3.out hoI hno HON.out hkn hk1 (by decide) (by decide) ?_
   intros
   rename_i d' t0' t1' a0' a1' a2' a3' b0' b1' b2' b3' PA' pn' pc' w7 H7
   have HI7:=hid H7.out.1
   have HO7:=hid H7.out.2
   clear H7
   go_upto_region 31 with fail
   refine sy31_any HI7.out hB hBI HO7.out hon ?_
   intros
   rename_i OA2 oc2 os2 w8 HF
   clear HI7 HO7
   go_wp2_with fail
   (try simp only [Exit.inBlock,Exit.then])
   first
    | exact HF
    | (apply hN;exact HF)
 . clear hd0 hd1
   go_upto_block 5 with fail
   clear p4
   refine sySw_any HI3.out hB hBI HO3.out hoI hno HON.out hkn hk1 (by decide) (by decide) ?_
   intros
   rename_i d' t0' t1' a0' a1' a2' a3' b0' b1' b2' b3' PA' pn' pc' w7 H7
   have HI7:=hid H7.out.1
   have HO7:=hid H7.out.2
   clear H7
   go_upto_region 31 with fail
   refine sy31_any HI7.out hB hBI HO7.out hon ?_
   intros
   rename_i OA2 oc2 os2 w8 HF
   clear HI7 HO7
   go_wp2_with fail
   (try simp only [Exit.inBlock,Exit.then])
   first
    | exact HF
    | (apply hN;exact HF)
 . clear hd0 hd1
   go_upto_block 5 with fail
   clear p4
   refine sySw_any HI3.out hB hBI HO3.out hoI hno HON.out hkn hk1 (by decide) (by decide) ?_
   intros
   rename_i d' t0' t1' a0' a1' a2' a3' b0' b1' b2' b3' PA' pn' pc' w7 H7
   have HI7:=hid H7.out.1
   have HO7:=hid H7.out.2
   clear H7
   go_upto_region 31 with fail
   refine sy31_any HI7.out hB hBI HO7.out hon ?_
   intros
   rename_i OA2 oc2 os2 w8 HF
   clear HI7 HO7
   go_wp2_with fail
   (try simp only [Exit.inBlock,Exit.then])
   first
    | exact HF
    | (apply hN;exact HF)
 . clear hd0 hd1
   go_upto_block 5 with fail
   clear p4
   refine sySw_any HI3.out hB hBI HO3.out hoI hno HON.out hkn hk1 (by decide) (by decide) ?_
   intros
   rename_i d' t0' t1' a0' a1' a2' a3' b0' b1' b2' b3' PA' pn' pc' w7 H7
   have HI7:=hid H7.out.1
   have HO7:=hid H7.out.2
   clear H7
   go_upto_region 31 with fail
   refine sy31_any HI7.out hB hBI HO7.out hon ?_
   intros
   rename_i OA2 oc2 os2 w8 HF
   clear HI7 HO7
   go_wp2_with fail
   (try simp only [Exit.inBlock,Exit.then])
   first
    | exact HF
    | (apply hN;exact HF)
 . clear hd0 hd1
   go_upto_block 5 with fail
   clear p4
   refine sySw_any HI3.out hB hBI HO3.out hoI hno HON.out hkn hk1 (by decide) (by decide) ?_
   intros
   rename_i d' t0' t1' a0' a1' a2' a3' b0' b1' b2' b3' PA' pn' pc' w7 H7
   have HI7:=hid H7.out.1
   have HO7:=hid H7.out.2
   clear H7
   go_upto_region 31 with fail
   refine sy31_any HI7.out hB hBI HO7.out hon ?_
   intros
   rename_i OA2 oc2 os2 w8 HF
   clear HI7 HO7
   go_wp2_with fail
   (try simp only [Exit.inBlock,Exit.then])
   first
    | exact HF
    | (apply hN;exact HF)
 . clear hd0 hd1
   go_wp2_with fail
   (with_reducible refine (arg237_any HI3.out.arg hB).mono ?_)
   rintro e w4 ⟨b0,b1,b2,b3,rfl,hst4,hq4⟩
   have HI4:Hid (OpI w4 wI B s hp hs hk SA sn sc xs kA kn kc ks hx nm A1 n1 c1 A2 n2 c2 A3 n3 c3 A4 n4 c4 l4 OA on oc os PA pn pc):=hid (HI3.out.next hst4 hq4)
   have HO4:Hid (Bk w4 ho 344 #[.int i64 12,.int i64 0,.int i64 0,.bool a0,.int i64 a1,.int i64 a2,.int i64 a3,.bool false,.int i64 0,.int i64 0,.int i64 0]):=hid ((Kx.fq (B':=0) hq4 HI3.out.arg.st (Nat.zero_le _)).bk HO3.out (by decide))
   clear hst4 hq4 HI3 HO3 p4
   have z7:w4.cell? ⟨ho,7,none⟩=some (.bool false):=HO4.out.cell 7
   have z8:w4.cell? ⟨ho,8,none⟩=some (.int i64 0):=HO4.out.cell 8
   have z9:w4.cell? ⟨ho,9,none⟩=some (.int i64 0):=HO4.out.cell 9
   have z10:w4.cell? ⟨ho,10,none⟩=some (.int i64 0):=HO4.out.cell 10
   have y7:=HO4.out.frozen 7
   have y8:=HO4.out.frozen 8
   have y9:=HO4.out.frozen 9
   have Hl:=HO4.out.frozen 10
   obtain ⟨w5,hw5⟩:∃ z,z=(((w4.setCell ⟨ho,7,none⟩ (.bool b0)).setCell ⟨ho,8,none⟩ (.int i64 b1)).setCell ⟨ho,9,none⟩ (.int i64 b2)).setCell ⟨ho,10,none⟩ (.int i64 b3):=⟨_,rfl⟩
   have HO5:Hid (Bk w5 ho 344 #[.int i64 12,.int i64 0,.int i64 0,.bool a0,.int i64 a1,.int i64 a2,.int i64 a3,.bool b0,.int i64 b1,.int i64 b2,.int i64 b3]):=hid (by rw [hw5];simpa using (((HO4.out.set_ 7 (.bool b0)).set_ 8 (.int i64 b1)).set_ 9 (.int i64 b2)).set_ 10 (.int i64 b3))
   have HI5:Hid (OpI w5 wI B s hp hs hk SA sn sc xs kA kn kc ks hx nm A1 n1 c1 A2 n2 c2 A3 n3 c3 A4 n4 c4 l4 OA on oc os PA pn pc):=hid (by
    have hBO:B<=ho:=Nat.le_trans hBI hoI
    rw [hw5]
    exact HI4.out.op hB HO4.out hoI ((((Kx.refl.set HO4.out hBO (by simp) 7 (.bool b0)).set (HO4.out.set_ 7 _) hBO (by simp) 8 (.int i64 b1)).set ((HO4.out.set_ 7 _).set_ 8 _) hBO (by simp) 9 (.int i64 b2)).set (((HO4.out.set_ 7 _).set_ 8 _).set_ 9 _) hBO (by simp) 10 (.int i64 b3)) ((((HI4.out.fq.set (.inr hoI) 7 _).set (.inr hoI) 8 _).set (.inr hoI) 9 _).set (.inr hoI) 10 _) (own_farB (own_farB (own_farB (own_farB HI4.out.ops hno) hno) hno) hno))
   go_upto_block 5 with fail
   rw [<- hw5]
   clear hw5 z7 z8 z9 z10 y7 y8 y9 Hl HI4 HO4
   refine sySw_any HI5.out hB hBI HO5.out hoI hno HON.out hkn hk1 (by decide) (by decide) ?_
   intros
   rename_i d' t0' t1' a0' a1' a2' a3' b0' b1' b2' b3' PA' pn' pc' w7 H7
   have HI7:=hid H7.out.1
   have HO7:=hid H7.out.2
   clear H7
   go_upto_region 31 with fail
   refine sy31_any HI7.out hB hBI HO7.out hon ?_
   intros
   rename_i OA2 oc2 os2 w8 HF
   clear HI7 HO7
   go_wp2_with fail
   (try simp only [Exit.inBlock,Exit.then])
   first
    | exact HF
    | (apply hN;exact HF)
end Go.Proofs.Ytnidcmhfbkdioaa
