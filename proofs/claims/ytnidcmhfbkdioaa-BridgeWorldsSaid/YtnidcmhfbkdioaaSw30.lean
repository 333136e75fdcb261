/-
  tourmake.system: the rest of an operation. Conditions: what is read can be read.
-/
import Derived.Deep.CutBlock
import Derived.Test.YtnidcmhfbkdioaaSw29
namespace Go.Proofs.Ytnidcmhfbkdioaa
open Go.RowKit
open Go.IntKind (i64)
open Go.Lib (hid)
set_option maxRecDepth 100000
noncomputable def sySw:Code:=(Try.f198.body.bind (blkN 5)).getD .skip
section
variable {w w' wI:World} {B s hp hs hk hx ho sn sc kn kc n1 c1 n2 c2 n3 c3 n4 c4 on oc pn pc:Nat} {SA kA A1 A2 A3 A4 OA PA:Option Addr} {xs l4:List Int} {ks:List Kd} {nm:ByteArray} {os:List Value}
theorem OpI.at6 (h:OpI w wI B s hp hs hk SA sn sc xs kA kn kc ks hx nm A1 n1 c1 A2 n2 c2 A3 n3 c3 A4 n4 c4 l4 OA on oc os PA pn pc) (hB:B<=s) (hBI:B<=wI.heap.size) (PA2:Option Addr) (pn2 pc2:Nat):OpI (w.setCell ⟨hx,6,none⟩ (.slice PA2 pn2 pc2)) wI B s hp hs hk SA sn sc xs kA kn kc ks hx nm A1 n1 c1 A2 n2 c2 A3 n3 c3 A4 n4 c4 l4 OA on oc os PA2 pn2 pc2:=by
 have hq:Kx B [307] w (w.setCell ⟨hx,6,none⟩ (.slice PA2 pn2 pc2)):=Kx.refl.set h.bx (Nat.le_trans hBI h.lx) (by simp) 6 _
 have hk:=hq.mono (Nat.zero_le _) (fun _ h=>h)
 exact ⟨⟨h.arg.st.kx hq (Nat.le_refl _) (h.arg.st.lo hB) (by decide),hk.bk h.arg.bp (by decide),hk.bk h.arg.bs (by decide),hk.bk h.arg.bk (by decide),h.arg.rd.keep hk (by decide),h.arg.cap,h.arg.cap2,h.arg.pos,h.arg.few,h.arg.inn,h.arg.kd.keep hk (by decide) (by decide),h.arg.fd⟩,by simpa using h.bx.set_ 6 (.slice PA2 pn2 pc2),h.w4.keep hk (by decide),h.cap4,h.cap42,h.i4,h.few4,hk.own h.ops (by decide),h.fq.set (.inr h.lx) 6 _,h.lx,Nat.le_trans h.sz hq.size⟩
end
set_option maxHeartbeats 16000000 in
theorem sySw_any {x0 x1 x2 x5 x6 x8 x9 Ac Ad Ae Af Ag Ah Ai Aj Ak Al Am Ao Ap Aq Ar Au Av Aw Ax Ay Az A7 A9 Be Bl Bu Bv Bw B0 B1 B2 B3 B4 B5 B6 B7 B8 B9 Cg Ch Ci Cj Ck Cp Cq Cr Cs Cu Cw Cx Cy Cz C0 C1 C2 C3 C4 C5 C6 C7 C8 C9 Da Db Dc Dd De Dg Dh Di Dj Dk Dl Dm Dn Dp Dq Dr Ds Dt Du Dv Dw Dx Dy D0 D1 D3 D4 D5 D6 D7 D8 D9 Ee Ef Ei Ek El Em En Eo Es Et Eu Ev Ew Ex Ey Ez E0 E1 E2 E3 E4 E5 E6 E7 E8 E9 Fa Fb Ff Fg Fh Fi Fj Fk Fl Fm Fn Fp Fs Ft Fu Fv Fx Fy Fz F0 F1 F2 F3 F4 F5 F6 F7 F8 F9 Ga Gd Gi Gp Gr Gs Gt Gu Gv Gw Gx Gy Gz G0 G1 G2 G3 G4 G5 G6 G7 G8 G9 Hb Hc Hd:Value} {Q:Exit->Act->World->Prop} {wI w0:World} {B s hp hs hk hx ho sn sc kn kc n1 c1 n2 c2 n3 c3 n4 c4 on oc pn pc:Nat} {SA kA A1 A2 A3 A4 OA PA:Option Addr} {xs l4:List Int} {ks:List Kd} {nm:ByteArray} {os:List Value} {d t0 t1:Int} {a0:Bool} {a1 a2 a3:Int} {b0:Bool} {b1 b2 b3:Int}
 (hI:OpI w0 wI B s hp hs hk SA sn sc xs kA kn kc ks hx nm A1 n1 c1 A2 n2 c2 A3 n3 c3 A4 n4 c4 l4 OA on oc os PA pn pc) (hB:B<=s) (hBI:B<=wI.heap.size) (ho_:Bk w0 ho 344 #[.int i64 d,.int i64 t0,.int i64 t1,.bool a0,.int i64 a1,.int i64 a2,.int i64 a3,.bool b0,.int i64 b1,.int i64 b2,.int i64 b3]) (hoI:wI.heap.size<=ho) (hno:(Value.slice OA on oc).ownBlock≠some ho)
 (hone:∀ k∈ks,oneF k.nm k.fds=0) (hkn:kn<=16) (hk1:1<=kn) (hd0:0<=d) (hd1:d<13)
 (hN:∀ (Hn Lf Lg Lh Li Lj Lk Ll Lm Ln Lo Lp Lq Lr Ls Lt Lu Lv Lw Lx Ly Lz L0 L1 L2 L3 L4 L5 L6 L7 L8 L9 Mi Mm Mp Mr Ms Mv Mx My M0 M3 M4 M5 M6 M7 M8 M9 Na Nb Nc Nd Nf Ng Nh Ni Nj Nk Nl Nm Nn Np Nq Nr Ns Nt Nu Nv Nw:Value) (d t0 t1:Int) (a0:Bool) (a1 a2 a3:Int) (b0:Bool) (b1 b2 b3:Int) (PA:Option Addr) (pn pc:Nat) (w':World),Hid (OpI w' wI B s hp hs hk SA sn sc xs kA kn kc ks hx nm A1 n1 c1 A2 n2 c2 A3 n3 c3 A4 n4 c4 l4 OA on oc os PA pn pc/\Bk w' ho 344 #[.int i64 d,.int i64 t0,.int i64 t1,.bool a0,.int i64 a1,.int i64 a2,.int i64 a3,.bool b0,.int i64 b1,.int i64 b2,.int i64 b3])->Q .normal ⟨#[x0,x1,x2,.pointer (some ⟨hk,0,none⟩),.pointer (some ⟨hp,0,none⟩),x5,x6,.pointer (some ⟨hx,0,none⟩),x8,x9,.func (.func 237) #[] #[.pointer (some ⟨hp,0,none⟩),.pointer (some ⟨hs,0,none⟩),.pointer (some ⟨hk,0,none⟩)],.pointer (some ⟨ho,0,none⟩),Hn,Ad,Ae,Af,Ag,Ah,Ai,Aj,Ak,Al,Am,Ao,Ap,Aq,Ar,Au,Av,Aw,Ax,Ay,Az,A7,A9,Be,Bl,Bu,Bv,Bw,B0,B1,B2,B3,B4,B5,B6,B7,B8,B9,Cg,Ch,Ci,Cj,Ck,Cp,Cq,Cr,Cs,Cu,Cw,Cx,Cy,Cz,C0,C1,C2,C3,C4,C5,C6,C7,C8,C9,Da,Db,Dc,Dd,De,Dg,Dh,Di,Dj,Dk,Dl,Dm,Dn,Dp,Dq,Dr,Ds,Dt,Du,Dv,Dw,Dx,Dy,D0,D1,D3,D4,D5,D6,D7,D8,D9,Ee,Ef,Ei,Ek,El,Lf,Lg,Lh,Li,Lj,Lk,Ll,Lm,Ln,Lo,Lp,Lq,Lr,Ls,Lt,Lu,Lv,Lw,Lx,Ly,Lz,L0,L1,L2,L3,L4,L5,L6,L7,L8,L9,Mi,Mm,Mp,Mr,Ms,Mv,Mx,My,M0,M3,M4,M5,M6,M7,M8,M9,Na,Nb,Nc,Nd,Nf,Ng,Nh,Ni,Nj,Nk,Nl,Nm,Nn,Np,Nq,Nr,Ns,Nt,Nu,Nv,Nw,G5,G6,G7,G8,G9,Hb,Hc,Hd],[]⟩ w') :
 Code.wp Try.prog sySw Q ⟨#[x0,x1,x2,.pointer (some ⟨hk,0,none⟩),.pointer (some ⟨hp,0,none⟩),x5,x6,.pointer (some ⟨hx,0,none⟩),x8,x9,.func (.func 237) #[] #[.pointer (some ⟨hp,0,none⟩),.pointer (some ⟨hs,0,none⟩),.pointer (some ⟨hk,0,none⟩)],.pointer (some ⟨ho,0,none⟩),Ac,Ad,Ae,Af,Ag,Ah,Ai,Aj,Ak,Al,Am,Ao,Ap,Aq,Ar,Au,Av,Aw,Ax,Ay,Az,A7,A9,Be,Bl,Bu,Bv,Bw,B0,B1,B2,B3,B4,B5,B6,B7,B8,B9,Cg,Ch,Ci,Cj,Ck,Cp,Cq,Cr,Cs,Cu,Cw,Cx,Cy,Cz,C0,C1,C2,C3,C4,C5,C6,C7,C8,C9,Da,Db,Dc,Dd,De,Dg,Dh,Di,Dj,Dk,Dl,Dm,Dn,Dp,Dq,Dr,Ds,Dt,Du,Dv,Dw,Dx,Dy,D0,D1,D3,D4,D5,D6,D7,D8,D9,Ee,Ef,Ei,Ek,El,Em,En,Eo,Es,Et,Eu,Ev,Ew,Ex,Ey,Ez,E0,E1,E2,E3,E4,E5,E6,E7,E8,E9,Fa,Fb,Ff,Fg,Fh,Fi,Fj,Fk,Fl,Fm,Fn,Fp,Fs,Ft,Fu,Fv,Fx,Fy,Fz,F0,F1,F2,F3,F4,F5,F6,F7,F8,F9,Ga,Gd,Gi,Gp,Gr,Gs,Gt,Gu,Gv,Gw,Gx,Gy,Gz,G0,G1,G2,G3,G4,G5,G6,G7,G8,G9,Hb,Hc,Hd],[]⟩ w0:=by
 conv=>arg 2;whnf
 have HNX:=hid next_any
 have HI:=hid hI
 have HO:=hid ho_
 have HON:=hid hone
 have p0:w0.cell? ⟨hp,0,none⟩=some (.pointer (some ⟨s,0,none⟩)):=hI.arg.bp.cell 0
 have p1:w0.cell? ⟨hk,0,none⟩=some (.slice kA kn kc):=hI.arg.bk.cell 0
 have p2:w0.cell? ⟨hx,4,none⟩=some (.slice A4 n4 c4):=hI.bx.cell 4
 have p3:w0.cell? ⟨hx,6,none⟩=some (.slice PA pn pc):=hI.bx.cell 6
 have p4:w0.cell? ⟨ho,0,none⟩=some (.int i64 d):=ho_.cell 0
 have hosn:ho≠s:=by
  obtain ⟨cs,h1⟩:=hI.arg.st.bk
  exact ho_.ne_ h1 (by decide)
 have hkc1:=hI.arg.kd.cap
 have hkc2:=hI.arg.kd.cap2
 have hc4:=hI.cap4
 clear hI ho_ hone
 by_cases hd7:d<=7
 . by_cases hn0:n4=0
   . have t0_:((n4:Int) == 0)=true:=by simp [hn0]
     clear hn0
     go_upto_region 23 with fail
     refine sy23_any HI.out hB HO.out hoI hBI hno ?_
     intros
     rename_i e0 e1 e2 e3 w7 H7
     have HF:=hid (And.intro H7.out.1 H7.out.2.1)
     clear H7 HI HO p0 p1 p2 p3 p4
     go_wp2_with fail
     (try simp only [Exit.inBlock,Exit.then])
     first
      | exact HF
      | (apply hN;exact HF)
   . have t0_:((n4:Int) == 0)=false:=by simp [hn0]
     have hn4:0<n4:=by omega
     clear hn0
     go_upto_region 25 with fail
     refine sy25_any (_d:=0) (_t0:=0) (_t1:=0) (_a0:=true) (_a1:=0) (_a2:=0) (_a3:=0) (_b0:=true) (_b1:=0) (_b2:=0) (_b3:=0) HI.out hB hn4 ?_
     intros
     rename_i x w6 H6
     have HO6:Hid (Bk w6 ho 344 #[.int i64 d,.int i64 t0,.int i64 t1,.bool a0,.int i64 a1,.int i64 a2,.int i64 a3,.bool b0,.int i64 b1,.int i64 b2,.int i64 b3]):=hid ((Kx.fq (B':=0) H6.out.2.2 HI.out.arg.st (Nat.zero_le _)).bk HO.out (by decide))
     have hxk:=H6.out.1
     have HI6:=hid H6.out.2.1
     clear H6 HI HO p0 p1 p2 p3 p4
     go_upto_region 26 with fail
     refine sy26_any HI6.out hB hxk HO6.out hoI hBI hno ?_
     intros
     rename_i u0 u1 w7 H7
     have HF:=hid (And.intro H7.out.1 H7.out.2.1)
     clear H7 HI6 HO6
     go_wp2_with fail
     (try simp only [Exit.inBlock,Exit.then])
     first
      | exact HF
      | (apply hN;exact HF)
 . rcases (show d=8\/d=9\/d=10\/d=11\/d=12 by omega) with rfl | rfl | rfl | rfl | rfl
   . clear hd7 hd0 hd1
     go_wp2_with fail
     (with_reducible refine (HNX.out s B kn _ HI.out.arg.st hB (by omega) (by omega)).mono ?_)
     rintro e w7 ⟨v,rfl,hv0,hv1,hst7,hg7⟩
     have HI7:Hid (OpI w7 wI B s hp hs hk SA sn sc xs kA kn kc ks hx nm A1 n1 c1 A2 n2 c2 A3 n3 c3 A4 n4 c4 l4 OA on oc os PA pn pc):=hid (HI.out.next hst7 (Fq.refl.grown hg7 fun g hg=>.inl (by injection hg with hg;simp [hg])))
     have HO7:Hid (Bk w7 ho 344 #[.int i64 8,.int i64 t0,.int i64 t1,.bool a0,.int i64 a1,.int i64 a2,.int i64 a3,.bool b0,.int i64 b1,.int i64 b2,.int i64 b3]):=hid (HO.out.grown hg7 (fun e=>by injection e with e;omega))
     clear hst7 hg7 p0 p1 p2 p3 p4
     have z1:w7.cell? ⟨ho,1,none⟩=some (.int i64 t0):=HO7.out.cell 1
     have z2:w7.cell? ⟨ho,2,none⟩=some (.int i64 t1):=HO7.out.cell 2
     have y1:=HO7.out.frozen 1
     have y2:=HO7.out.frozen 2
     have hBO:B<=ho:=Nat.le_trans hBI hoI
     have HF:Hid (OpI ((w7.setCell ⟨ho,1,none⟩ (.int i64 v)).setCell ⟨ho,2,none⟩ (.int i64 0)) wI B s hp hs hk SA sn sc xs kA kn kc ks hx nm A1 n1 c1 A2 n2 c2 A3 n3 c3 A4 n4 c4 l4 OA on oc os PA pn pc/\Bk ((w7.setCell ⟨ho,1,none⟩ (.int i64 v)).setCell ⟨ho,2,none⟩ (.int i64 0)) ho 344 #[.int i64 8,.int i64 v,.int i64 0,.bool a0,.int i64 a1,.int i64 a2,.int i64 a3,.bool b0,.int i64 b1,.int i64 b2,.int i64 b3]):=hid
      ⟨HI7.out.op hB HO7.out hoI ((Kx.refl.set HO7.out hBO (by simp) 1 (.int i64 v)).set (HO7.out.set_ 1 _) hBO (by simp) 2 (.int i64 0)) ((HI7.out.fq.set (.inr hoI) 1 _).set (.inr hoI) 2 _) (own_farB (own_farB HI7.out.ops hno) hno),by simpa using (HO7.out.set_ 1 (.int i64 v)).set_ 2 (.int i64 0)⟩
     clear HI HO HI7 HO7
     go_wp2_with fail
     (try simp only [Exit.inBlock,Exit.then])
     first
      | exact HF
      | (apply hN;exact HF)
   . clear hd7 hd0 hd1
     go_wp2_with fail
     (with_reducible refine (HNX.out s B kn _ HI.out.arg.st hB (by omega) (by omega)).mono ?_)
     rintro e w7 ⟨v,rfl,hv0,hv1,hst7,hg7⟩
     have HI7:Hid (OpI w7 wI B s hp hs hk SA sn sc xs kA kn kc ks hx nm A1 n1 c1 A2 n2 c2 A3 n3 c3 A4 n4 c4 l4 OA on oc os PA pn pc):=hid (HI.out.next hst7 (Fq.refl.grown hg7 fun g hg=>.inl (by injection hg with hg;simp [hg])))
     have HO7:Hid (Bk w7 ho 344 #[.int i64 9,.int i64 t0,.int i64 t1,.bool a0,.int i64 a1,.int i64 a2,.int i64 a3,.bool b0,.int i64 b1,.int i64 b2,.int i64 b3]):=hid (HO.out.grown hg7 (fun e=>by injection e with e;omega))
     clear hst7 hg7 p0 p1 p2 p3 p4
     have z1:w7.cell? ⟨ho,1,none⟩=some (.int i64 t0):=HO7.out.cell 1
     have z2:w7.cell? ⟨ho,2,none⟩=some (.int i64 t1):=HO7.out.cell 2
     have y1:=HO7.out.frozen 1
     have y2:=HO7.out.frozen 2
     have hBO:B<=ho:=Nat.le_trans hBI hoI
     have HF:Hid (OpI ((w7.setCell ⟨ho,1,none⟩ (.int i64 v)).setCell ⟨ho,2,none⟩ (.int i64 0)) wI B s hp hs hk SA sn sc xs kA kn kc ks hx nm A1 n1 c1 A2 n2 c2 A3 n3 c3 A4 n4 c4 l4 OA on oc os PA pn pc/\Bk ((w7.setCell ⟨ho,1,none⟩ (.int i64 v)).setCell ⟨ho,2,none⟩ (.int i64 0)) ho 344 #[.int i64 9,.int i64 v,.int i64 0,.bool a0,.int i64 a1,.int i64 a2,.int i64 a3,.bool b0,.int i64 b1,.int i64 b2,.int i64 b3]):=hid
      ⟨HI7.out.op hB HO7.out hoI ((Kx.refl.set HO7.out hBO (by simp) 1 (.int i64 v)).set (HO7.out.set_ 1 _) hBO (by simp) 2 (.int i64 0)) ((HI7.out.fq.set (.inr hoI) 1 _).set (.inr hoI) 2 _) (own_farB (own_farB HI7.out.ops hno) hno),by simpa using (HO7.out.set_ 1 (.int i64 v)).set_ 2 (.int i64 0)⟩
     clear HI HO HI7 HO7
     go_wp2_with fail
     (try simp only [Exit.inBlock,Exit.then])
     first
      | exact HF
      | (apply hN;exact HF)
   . clear hd7 hd0 hd1
     have HF:Hid (OpI w0 wI B s hp hs hk SA sn sc xs kA kn kc ks hx nm A1 n1 c1 A2 n2 c2 A3 n3 c3 A4 n4 c4 l4 OA on oc os PA pn pc/\Bk w0 ho 344 #[.int i64 10,.int i64 t0,.int i64 t1,.bool a0,.int i64 a1,.int i64 a2,.int i64 a3,.bool b0,.int i64 b1,.int i64 b2,.int i64 b3]):=hid ⟨HI.out,HO.out⟩
     go_wp2_with fail
     (try simp only [Exit.inBlock,Exit.then])
     first
      | exact HF
      | (apply hN;exact HF)
   . clear hd7 hd0 hd1
     by_cases hp0:pn=0
     . have t0_:((pn:Int) == 0)=true:=by simp [hp0]
       clear hp0
       have HMK:=hid (mkcomps_any s B kA kn kc ks w0 HI.out.arg.st hB (HI.out.arg.kd.more (Nat.zero_le _)) HON.out hkn)
       go_wp2_with fail
       (with_reducible refine HMK.out.mono ?_)
       rintro e w7 ⟨CA,cc,l,rfl,hcs7,hst7,hq7⟩
       have HI7:Hid (OpI w7 wI B s hp hs hk SA sn sc xs kA kn kc ks hx nm A1 n1 c1 A2 n2 c2 A3 n3 c3 A4 n4 c4 l4 OA on oc os PA pn pc):=hid (HI.out.next hst7 hq7)
       have HO7:Hid (Bk w7 ho 344 #[.int i64 11,.int i64 t0,.int i64 t1,.bool a0,.int i64 a1,.int i64 a2,.int i64 a3,.bool b0,.int i64 b1,.int i64 b2,.int i64 b3]):=hid ((Kx.fq (B':=0) hq7 HI.out.arg.st (Nat.zero_le _)).bk HO.out (by decide))
       clear hcs7 hst7 hq7 HMK p0 p1 p2 p3 p4
       have z0:w7.cell? ⟨hx,6,none⟩=some (.slice PA pn pc):=HI7.out.bx.cell 6
       have z1:=HI7.out.bx.frozen 6
       have HF:Hid (OpI (w7.setCell ⟨hx,6,none⟩ (.slice CA l.length cc)) wI B s hp hs hk SA sn sc xs kA kn kc ks hx nm A1 n1 c1 A2 n2 c2 A3 n3 c3 A4 n4 c4 l4 OA on oc os CA l.length cc/\Bk (w7.setCell ⟨hx,6,none⟩ (.slice CA l.length cc)) ho 344 #[.int i64 11,.int i64 t0,.int i64 t1,.bool a0,.int i64 a1,.int i64 a2,.int i64 a3,.bool b0,.int i64 b1,.int i64 b2,.int i64 b3]):=hid ⟨HI7.out.at6 hB hBI CA l.length cc,HO7.out.far (p:=⟨hx,6,none⟩) (HO7.out.ne_ HI7.out.bx (by decide)) _⟩
       clear HI HO HI7 HO7
       go_wp2_with fail
       (try simp only [Exit.inBlock,Exit.then])
       first
        | exact HF
        | (apply hN;exact HF)
     . have t0_:((pn:Int) == 0)=false:=by simp [hp0]
       clear hp0
       have HF:Hid (OpI w0 wI B s hp hs hk SA sn sc xs kA kn kc ks hx nm A1 n1 c1 A2 n2 c2 A3 n3 c3 A4 n4 c4 l4 OA on oc os PA pn pc/\Bk w0 ho 344 #[.int i64 11,.int i64 t0,.int i64 t1,.bool a0,.int i64 a1,.int i64 a2,.int i64 a3,.bool b0,.int i64 b1,.int i64 b2,.int i64 b3]):=hid ⟨HI.out,HO.out⟩
       go_wp2_with fail
       (try simp only [Exit.inBlock,Exit.then])
       first
        | exact HF
        | (apply hN;exact HF)
   . clear hd7 hd0 hd1
     have HF:Hid (OpI w0 wI B s hp hs hk SA sn sc xs kA kn kc ks hx nm A1 n1 c1 A2 n2 c2 A3 n3 c3 A4 n4 c4 l4 OA on oc os PA pn pc/\Bk w0 ho 344 #[.int i64 12,.int i64 t0,.int i64 t1,.bool a0,.int i64 a1,.int i64 a2,.int i64 a3,.bool b0,.int i64 b1,.int i64 b2,.int i64 b3]):=hid ⟨HI.out,HO.out⟩
     go_wp2_with fail
     (try simp only [Exit.inBlock,Exit.then])
     first
      | exact HF
      | (apply hN;exact HF)
end Go.Proofs.Ytnidcmhfbkdioaa
