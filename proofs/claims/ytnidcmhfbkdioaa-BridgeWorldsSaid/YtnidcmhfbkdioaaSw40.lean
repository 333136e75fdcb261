/-
  Lemmas for the walk, merged (Eh Bj). No condition but those in each statement.
-/
import Derived.Test.YtnidcmhfbkdioaaSw39
import Derived.Test.YtnidcmhfbkdioaaSw13
import Derived.Test.YtnidcmhfbkdioaaSw14
namespace Go.Proofs.Ytnidcmhfbkdioaa
open Go.RowKit
open Go.IntKind (i64)
open Go.Lib (hid)
set_option maxRecDepth 100000
def conOk (el:List (Int × Int)) (c:Ct):Bool:=decide (0<=c.a)&&decide (c.a<el.length)&&decide (0<=c.b)&&decide (c.b<el.length)
def conN (el:List (Int × Int)) (c:Ct):Ct:={ c with a:=(el.getD c.a.toNat (0,0)).1,b:=(el.getD c.b.toNat (0,0)).1 }
noncomputable def bwCon:Code:=(Try.f66.body.bind (blkN 3)).getD .skip
set_option maxHeartbeats 16000000 in
theorem bwCon_any {x0 x1 x3 x4 x5 x7 x8 x9 Aa Ab Ac Ad Ae Af Ag Ah Aj Ak Al Am Ao Ap Aq Ar Au Av Aw Ax Ay Az A7 A9 Be Bl Bu Bv Bw B0 B1 B2 B3 B4 B5 B6 B7 B8 B9 Cg Ch Ci Cj Ck Cp Cq Cr Cs Cu Cw Cx Cy Cz C0 C1 C2 C3 C4 C5 C6 C7 C8 C9 Da Db Dc Dd De Dg Dh Di Dj Dk Dl Dm Dn Dp Dq Dr Ds Dt Du Dv Dw Dx Dy D0 D1 D3 D4 D5 D6 D7 D8 D9 Ee Ef Ei Ek El Em En Eo Es Et Eu Ev Ew Ex Ey Ez E0 E1 E3 E5 E6 E7 E8 E9 Fa Fb Ff Fg Fh Fi Fj Fk Fl Fm Fn Fp Fs Ft Fu Fv Fx Fy Fz F0 F1 F2 F3 F4 F5 F6 F7 F8 F9 Ga Gd Gi Gp Gr Gs Gt Gu Gv Gw Gx Gy Gz:Value} {Q:Exit->Act->World->Prop} {w0:World} {B base j cn cc kn kc en ec rA:Nat} {eA cA kA:Option Addr} {el:List (Int × Int)} {cl D:List Ct} {ct:Ct}
 (hrd:Rd w0 B 10 cA cn (ctCs cl)) (hjn:j<cn) (_hcap:cn<=cc) (_hcap2:cc<=9223372036854775807) (hj:cl[j]?=some ct)
 (hel:Rd w0 B 2 eA en (enCs el)) (hen:en=el.length) (_hec:en<=ec) (_hec2:ec<=9223372036854775807)
 (hr:Bk w0 rA 52 #[.slice none 0 0,.slice none 0 0,.slice none 0 0]) (hra:base<=rA) (hO:w0.ownsRow base 131 10 (.slice kA kn kc) kn (ctCs D)) (hkn:(kn+1)*80<=140737488355328) (hbase:base<=w0.heap.size) (hB:B<=w0.heap.size)
 (hN:∀ (Hv Lw Lx Ly Lz L0 L1 L2 L3 L4 L5 L6 L7 L8 L9 Mi Mm Mp Mr Ms Mv Mx My M0 M3 M4 M5 M6 M7 M8 M9 Na Nb Nc Nd Nf Ng Nh Ni Nj Nk Nl Nm Nn:Value) (gc c':Nat) (w':World),Hid (conOk el ct=true/\w'.ownsRow base 131 10 (.slice (some ⟨gc,0,none⟩) (kn+1) c') (kn+1) (ctCs (D++[conN el ct]))/\Kx 0 [131] w0 w'/\Below base w0 w')->Q .normal ⟨#[x0,x1,.slice eA en ec,x3,x4,x5,.pointer (some ⟨rA,0,none⟩),x7,x8,x9,Aa,Ab,Ac,Ad,Ae,Af,Ag,Ah,.slice (some ⟨gc,0,none⟩) (kn+1) c',Aj,Hv,Al,Am,Ao,Ap,Aq,Ar,Au,Av,Aw,Ax,Ay,Az,A7,A9,Be,Bl,Bu,Bv,Bw,B0,B1,B2,B3,B4,B5,B6,B7,B8,B9,Cg,Ch,Ci,Cj,Ck,Cp,Cq,Cr,Cs,Cu,Cw,Cx,Cy,Cz,C0,C1,C2,C3,C4,C5,C6,C7,C8,C9,Da,Db,Dc,Dd,De,Dg,Dh,Di,Dj,Dk,Dl,Dm,Dn,Dp,Dq,Dr,Ds,Dt,Du,Dv,Dw,Dx,Dy,D0,D1,D3,D4,D5,D6,D7,D8,D9,Ee,Ef,Ei,Ek,El,Em,En,Eo,Es,Et,Eu,Ev,Ew,Ex,Ey,Ez,E0,E1,.slice cA cn cc,E3,.int i64 (j:Int),E5,Lw,Lx,Ly,Lz,L0,L1,L2,L3,L4,L5,L6,L7,L8,L9,Mi,Mm,Mp,Mr,Ms,Mv,Mx,My,M0,M3,M4,M5,M6,M7,M8,M9,Na,Nb,Nc,Nd,Nf,Ng,Nh,Ni,Nj,Nk,Nl,Nm,Nn,Gx,Gy,Gz],[]⟩ w')
 (hE:∀ (Hv Lw Lx Ly Lz L0 L1 L2 L3 L4 L5 L6 L7 L8 L9 Mi Mm Mp Mr Ms Mv Mx My M0 M3 M4 M5 M6 M7 M8 M9 Na Nb Nc Nd Nf Ng Nh Ni Nj Nk Nl Nm Nn:Value) (w':World),Hid (conOk el ct=false/\Bk w' rA 52 #[.slice none 0 0,.slice none 0 0,.slice none 0 0]/\Below base w0 w')->Q .ret ⟨#[x0,x1,.slice eA en ec,x3,x4,x5,.pointer (some ⟨rA,0,none⟩),.slice none 0 0,.int i64 1,x9,Aa,Ab,Ac,Ad,Ae,Af,Ag,Ah,.slice kA kn kc,Aj,Hv,Al,Am,Ao,Ap,Aq,Ar,Au,Av,Aw,Ax,Ay,Az,A7,A9,Be,Bl,Bu,Bv,Bw,B0,B1,B2,B3,B4,B5,B6,B7,B8,B9,Cg,Ch,Ci,Cj,Ck,Cp,Cq,Cr,Cs,Cu,Cw,Cx,Cy,Cz,C0,C1,C2,C3,C4,C5,C6,C7,C8,C9,Da,Db,Dc,Dd,De,Dg,Dh,Di,Dj,Dk,Dl,Dm,Dn,Dp,Dq,Dr,Ds,Dt,Du,Dv,Dw,Dx,Dy,D0,D1,D3,D4,D5,D6,D7,D8,D9,Ee,Ef,Ei,Ek,El,Em,En,Eo,Es,Et,Eu,Ev,Ew,Ex,Ey,Ez,E0,E1,.slice cA cn cc,E3,.int i64 (j:Int),E5,Lw,Lx,Ly,Lz,L0,L1,L2,L3,L4,L5,L6,L7,L8,L9,Mi,Mm,Mp,Mr,Ms,Mv,Mx,My,M0,M3,M4,M5,M6,M7,M8,M9,Na,Nb,Nc,Nd,Nf,Ng,Nh,Ni,Nj,Nk,Nl,Nm,Nn,Gx,Gy,Gz],[]⟩ w') :
 Code.wp Try.prog bwCon Q ⟨#[x0,x1,.slice eA en ec,x3,x4,x5,.pointer (some ⟨rA,0,none⟩),x7,x8,x9,Aa,Ab,Ac,Ad,Ae,Af,Ag,Ah,.slice kA kn kc,Aj,Ak,Al,Am,Ao,Ap,Aq,Ar,Au,Av,Aw,Ax,Ay,Az,A7,A9,Be,Bl,Bu,Bv,Bw,B0,B1,B2,B3,B4,B5,B6,B7,B8,B9,Cg,Ch,Ci,Cj,Ck,Cp,Cq,Cr,Cs,Cu,Cw,Cx,Cy,Cz,C0,C1,C2,C3,C4,C5,C6,C7,C8,C9,Da,Db,Dc,Dd,De,Dg,Dh,Di,Dj,Dk,Dl,Dm,Dn,Dp,Dq,Dr,Ds,Dt,Du,Dv,Dw,Dx,Dy,D0,D1,D3,D4,D5,D6,D7,D8,D9,Ee,Ef,Ei,Ek,El,Em,En,Eo,Es,Et,Eu,Ev,Ew,Ex,Ey,Ez,E0,E1,.slice cA cn cc,E3,.int i64 (j:Int),E5,E6,E7,E8,E9,Fa,Fb,Ff,Fg,Fh,Fi,Fj,Fk,Fl,Fm,Fn,Fp,Fs,Ft,Fu,Fv,Fx,Fy,Fz,F0,F1,F2,F3,F4,F5,F6,F7,F8,F9,Ga,Gd,Gi,Gp,Gr,Gs,Gt,Gu,Gv,Gw,Gx,Gy,Gz],[]⟩ w0:=by
 conv=>arg 2;whnf
 obtain ⟨iC,hiC,hC0,hC1,hC2⟩:=info_parts T.info131
 obtain ⟨bi,oi,hcA,hbi,q0,q1,q2,q3,q4,q5,q6,q7,q8,q9⟩:=Rd.ct hrd hjn hj
 subst hcA
 have hjz:(j:Int)<cn:=by omega
 have hjz0:(0:Int)<=j:=by omega
 obtain ⟨ca,hca⟩:∃ z,z=w0.heap.size:=⟨_,rfl⟩
 obtain ⟨W1,hW1⟩:∃ z,z=w0.alloc (.cells #[.int i64 ct.a,.int i64 ct.b,.int i64 ct.id,.int i64 ct.px,.int i64 ct.py,.int i64 ct.nx,.int i64 ct.ny,.int i64 ct.dp,.int i64 ct.ps,.int i64 ct.sl] 131):=⟨_,rfl⟩
 have hb1:Below w0.heap.size w0 W1:=by rw [hW1];exact (Below.refl _ _).alloc (Nat.le_refl _) _
 have HCA:Hid (Bk W1 ca 131 #[.int i64 ct.a,.int i64 ct.b,.int i64 ct.id,.int i64 ct.px,.int i64 ct.py,.int i64 ct.nx,.int i64 ct.ny,.int i64 ct.dp,.int i64 ct.ps,.int i64 ct.sl]):=hid (by rw [hW1,hca];exact Bk.new _ _ _)
 have HO1:Hid (W1.ownsRow base 131 10 (.slice kA kn kc) kn (ctCs D)):=hid ((Kx.of_below (B:=0) (F:=[]) hb1).own hO (by simp))
 have HNE:Hid ((Value.slice kA kn kc).ownBlock≠some ca):=hid (by
  intro e
  have:=(hO.lt ca e).2
  omega)
 have HR1:Hid (Bk W1 rA 52 #[.slice none 0 0,.slice none 0 0,.slice none 0 0]):=hid (hr.below hb1 hr.lt)
 have HEL:Hid (Rd W1 B 2 eA en (enCs el)/\en=el.length/\B<=ca):=hid ⟨hel.below (hb1.mono hB),hen,by rw [hca];exact hB⟩
 have HB1:Hid (Kx 0 [131] w0 W1/\Below base w0 W1):=hid ⟨Kx.of_below hb1,hb1.mono hbase⟩
 have HSZ:Hid (base<=W1.heap.size/\base<=ca):=hid ⟨Nat.le_trans hbase hb1.size,by rw [hca];exact hbase⟩
 have HKN:=hid hkn
 have HBC:Hid (B<=ca):=hid (by rw [hca];exact hB)
 clear hrd hj hO hb1 hbi hel hen hr hB
 go_upto_region 27 with fail
 rw [<- hW1,<- hca]
 clear q0 q1 q2 q3 q4 q5 q6 q7 q8 q9 hW1 hca
 have i0:W1.cell? ⟨ca,0,none⟩=some (.int i64 ct.a):=HCA.out.cell 0
 have i1:W1.cell? ⟨ca,1,none⟩=some (.int i64 ct.b):=HCA.out.cell 1
 by_cases h1:ct.a<0
 . have t0:decide (ct.a<0)=true:=decide_eq_true h1
   have HBAD:Hid (conOk el ct=false):=hid (by unfold conOk;simp;omega)
   clear hN
   have z0:W1.cell? ⟨rA,0,none⟩=some (.slice none 0 0):=HR1.out.cell 0
   have z1:W1.cell? ⟨rA,1,none⟩=some (.slice none 0 0):=HR1.out.cell 1
   have z2:W1.cell? ⟨rA,2,none⟩=some (.slice none 0 0):=HR1.out.cell 2
   have y0:=HR1.out.frozen 0
   have y1:=HR1.out.frozen 1
   have y2:=HR1.out.frozen 2
   go_wp2_with fail
   (try simp only [Exit.inBlock,Exit.then])
   have HF:Hid (conOk el ct=false/\Bk (((W1.setCell ⟨rA,0,none⟩ (.slice none 0 0)).setCell ⟨rA,1,none⟩ (.slice none 0 0)).setCell ⟨rA,2,none⟩ (.slice none 0 0)) rA 52 #[.slice none 0 0,.slice none 0 0,.slice none 0 0]/\Below base w0 (((W1.setCell ⟨rA,0,none⟩ (.slice none 0 0)).setCell ⟨rA,1,none⟩ (.slice none 0 0)).setCell ⟨rA,2,none⟩ (.slice none 0 0))):=hid (by
    refine ⟨HBAD.out,set3_bk HR1.out _ _ _,?_⟩
    have hbx:=HB1.out.2
    (repeat' first | with_reducible exact hbx | with_reducible refine Below.setCell ?_ hra _))
   first
    | exact HF
    | (apply hE;exact HF)
 . have t0:decide (ct.a<0)=false:=decide_eq_false h1
   by_cases h2:(en:Int)<=ct.a
   . have t1:decide (ct.a>=(en:Int))=true:=decide_eq_true h2
     have HBAD:Hid (conOk el ct=false):=hid (by unfold conOk;have hl:=HEL.out.2.1;simp;omega)
     clear hN
     have z0:W1.cell? ⟨rA,0,none⟩=some (.slice none 0 0):=HR1.out.cell 0
     have z1:W1.cell? ⟨rA,1,none⟩=some (.slice none 0 0):=HR1.out.cell 1
     have z2:W1.cell? ⟨rA,2,none⟩=some (.slice none 0 0):=HR1.out.cell 2
     have y0:=HR1.out.frozen 0
     have y1:=HR1.out.frozen 1
     have y2:=HR1.out.frozen 2
     go_wp2_with fail
     (try simp only [Exit.inBlock,Exit.then])
     have HF:Hid (conOk el ct=false/\Bk (((W1.setCell ⟨rA,0,none⟩ (.slice none 0 0)).setCell ⟨rA,1,none⟩ (.slice none 0 0)).setCell ⟨rA,2,none⟩ (.slice none 0 0)) rA 52 #[.slice none 0 0,.slice none 0 0,.slice none 0 0]/\Below base w0 (((W1.setCell ⟨rA,0,none⟩ (.slice none 0 0)).setCell ⟨rA,1,none⟩ (.slice none 0 0)).setCell ⟨rA,2,none⟩ (.slice none 0 0))):=hid (by
      refine ⟨HBAD.out,set3_bk HR1.out _ _ _,?_⟩
      have hbx:=HB1.out.2
      (repeat' first | with_reducible exact hbx | with_reducible refine Below.setCell ?_ hra _))
     first
      | exact HF
      | (apply hE;exact HF)
   . have t1:decide (ct.a>=(en:Int))=false:=decide_eq_false h2
     by_cases h3:ct.b<0
     . have t2:decide (ct.b<0)=true:=decide_eq_true h3
       have HBAD:Hid (conOk el ct=false):=hid (by unfold conOk;simp;omega)
       clear hN
       have z0:W1.cell? ⟨rA,0,none⟩=some (.slice none 0 0):=HR1.out.cell 0
       have z1:W1.cell? ⟨rA,1,none⟩=some (.slice none 0 0):=HR1.out.cell 1
       have z2:W1.cell? ⟨rA,2,none⟩=some (.slice none 0 0):=HR1.out.cell 2
       have y0:=HR1.out.frozen 0
       have y1:=HR1.out.frozen 1
       have y2:=HR1.out.frozen 2
       go_wp2_with fail
       (try simp only [Exit.inBlock,Exit.then])
       have HF:Hid (conOk el ct=false/\Bk (((W1.setCell ⟨rA,0,none⟩ (.slice none 0 0)).setCell ⟨rA,1,none⟩ (.slice none 0 0)).setCell ⟨rA,2,none⟩ (.slice none 0 0)) rA 52 #[.slice none 0 0,.slice none 0 0,.slice none 0 0]/\Below base w0 (((W1.setCell ⟨rA,0,none⟩ (.slice none 0 0)).setCell ⟨rA,1,none⟩ (.slice none 0 0)).setCell ⟨rA,2,none⟩ (.slice none 0 0))):=hid (by
        refine ⟨HBAD.out,set3_bk HR1.out _ _ _,?_⟩
        have hbx:=HB1.out.2
        (repeat' first | with_reducible exact hbx | with_reducible refine Below.setCell ?_ hra _))
       first
        | exact HF
        | (apply hE;exact HF)
     . have t2:decide (ct.b<0)=false:=decide_eq_false h3
       by_cases h4:(en:Int)<=ct.b
       . have t3:decide (ct.b>=(en:Int))=true:=decide_eq_true h4
         have HBAD:Hid (conOk el ct=false):=hid (by unfold conOk;have hl:=HEL.out.2.1;simp;omega)
         clear hN
         have z0:W1.cell? ⟨rA,0,none⟩=some (.slice none 0 0):=HR1.out.cell 0
         have z1:W1.cell? ⟨rA,1,none⟩=some (.slice none 0 0):=HR1.out.cell 1
         have z2:W1.cell? ⟨rA,2,none⟩=some (.slice none 0 0):=HR1.out.cell 2
         have y0:=HR1.out.frozen 0
         have y1:=HR1.out.frozen 1
         have y2:=HR1.out.frozen 2
         go_wp2_with fail
         (try simp only [Exit.inBlock,Exit.then])
         have HF:Hid (conOk el ct=false/\Bk (((W1.setCell ⟨rA,0,none⟩ (.slice none 0 0)).setCell ⟨rA,1,none⟩ (.slice none 0 0)).setCell ⟨rA,2,none⟩ (.slice none 0 0)) rA 52 #[.slice none 0 0,.slice none 0 0,.slice none 0 0]/\Below base w0 (((W1.setCell ⟨rA,0,none⟩ (.slice none 0 0)).setCell ⟨rA,1,none⟩ (.slice none 0 0)).setCell ⟨rA,2,none⟩ (.slice none 0 0))):=hid (by
          refine ⟨HBAD.out,set3_bk HR1.out _ _ _,?_⟩
          have hbx:=HB1.out.2
          (repeat' first | with_reducible exact hbx | with_reducible refine Below.setCell ?_ hra _))
         first
          | exact HF
          | (apply hE;exact HF)
       . have t3:decide (ct.b>=(en:Int))=false:=decide_eq_false h4
         clear hE
         obtain ⟨na,hna⟩:∃ n:Nat,ct.a=n:=⟨ct.a.toNat,by omega⟩
         obtain ⟨nb,hnb⟩:∃ n:Nat,ct.b=n:=⟨ct.b.toNat,by omega⟩
         have hal:na<en:=by omega
         have hbl:nb<en:=by omega
         obtain ⟨e1,he1⟩:∃ e,el[na]?=some e:=⟨_,List.getElem?_eq_getElem (by rw [<- HEL.out.2.1];exact hal)⟩
         obtain ⟨e2,he2⟩:∃ e,el[nb]?=some e:=⟨_,List.getElem?_eq_getElem (by rw [<- HEL.out.2.1];exact hbl)⟩
         obtain ⟨eb,eo,heA,heb,p0,p1⟩:=Rd.enW HEL.out.1 hal he1
         obtain ⟨eb',eo',heA',heb',p0',p1'⟩:=Rd.enW HEL.out.1 hbl he2
         have heq:eb'=eb/\eo'=eo:=by
          rw [heA] at heA'
          injection heA' with h
          injection h with h h'
          exact ⟨h.symm,h'.symm⟩
         obtain ⟨rfl,rfl⟩:=heq
         subst heA
         have HOK:Hid (conOk el ct=true/\conN el ct={ ct with a:=e1.1,b:=e2.1 }):=hid (by
          have hl:=HEL.out.2.1
          constructor
          . unfold conOk
            simp only [Bool.and_eq_true,decide_eq_true_eq]
            omega
          . unfold conN
            rw [hna,hnb,Int.toNat_natCast,Int.toNat_natCast,List.getD_eq_getElem?_getD,List.getD_eq_getElem?_getD,he1,he2]
            rfl)
         have hnaz:(na:Int)<en:=by omega
         have hnaz0:(0:Int)<=na:=by omega
         have hnbz:(nb:Int)<en:=by omega
         have hnbz0:(0:Int)<=nb:=by omega
         have HP:Hid (W1.cell? ⟨eb',eo'+na*2,none⟩=some (.int i64 e1.1)/\W1.cell? ⟨eb',eo'+nb*2,none⟩=some (.int i64 e2.1)):=hid ⟨p0,p0'⟩
         have HCE:Hid (ca≠eb'):=hid (by have h1:=HBC.out;omega)
         clear p0 p1 p0' p1' he1 he2 heA' heb heb'
         go_upto_region 29 with fail
         clear t0 t1 t2 t3 h1 h2 h3 h4
         obtain ⟨u0,hu0⟩:∃ z,z=W1.drew:=⟨_,rfl⟩
         have HCU:Hid (Bk u0 ca 131 #[.int i64 ct.a,.int i64 ct.b,.int i64 ct.id,.int i64 ct.px,.int i64 ct.py,.int i64 ct.nx,.int i64 ct.ny,.int i64 ct.dp,.int i64 ct.ps,.int i64 ct.sl]):=hid (by rw [hu0];exact HCA.out)
         have HTT:Hid (u0.cell? ⟨eb',eo'+na*2,none⟩=some (.int i64 e1.1)/\u0.cell? ⟨eb',eo'+nb*2,none⟩=some (.int i64 e2.1)):=hid (by rw [hu0];exact HP.out)
         have HSS:Hid (u0.cell? ⟨ca,0,none⟩=some (.int i64 (na:Int))/\u0.cell? ⟨ca,1,none⟩=some (.int i64 (nb:Int))):=hid ⟨by rw [<- hna];exact HCU.out.cell 0,by rw [<- hnb];exact HCU.out.cell 1⟩
         obtain ⟨W2,hW2⟩:∃ z,z=(u0.setCell ⟨ca,0,none⟩ (.int i64 e1.1)).setCell ⟨ca,1,none⟩ (.int i64 e2.1):=⟨_,rfl⟩
         have HC2:Hid (Bk W2 ca 131 #[.int i64 e1.1,.int i64 e2.1,.int i64 ct.id,.int i64 ct.px,.int i64 ct.py,.int i64 ct.nx,.int i64 ct.ny,.int i64 ct.dp,.int i64 ct.ps,.int i64 ct.sl]):=hid (by rw [hW2];simpa using (HCU.out.set_ 0 (.int i64 e1.1)).set_ 1 (.int i64 e2.1))
         have HO2:Hid (W2.ownsRow base 131 10 (.slice kA kn kc) kn (ctCs D)):=hid (by rw [hW2,hu0];exact own_farB (own_farB ((Kx.refl (B:=0) (F:=[])).drew.own HO1.out (by simp)) HNE.out) HNE.out)
         have HB2:Hid (Kx 0 [131] w0 W2/\Below base w0 W2/\base<=W2.heap.size):=hid (by
          have hk:Kx 0 [131] w0 W2:=by rw [hW2,hu0];exact ((HB1.out.1.drew).set (hu0▸HCU.out) (Nat.zero_le _) (by simp) 0 _).set ((hu0▸HCU.out:Bk W1.drew ca 131 #[.int i64 ct.a,.int i64 ct.b,.int i64 ct.id,.int i64 ct.px,.int i64 ct.py,.int i64 ct.nx,.int i64 ct.ny,.int i64 ct.dp,.int i64 ct.ps,.int i64 ct.sl]).set_ 0 (.int i64 e1.1)) (Nat.zero_le _) (by simp) 1 _
          refine ⟨hk,?_,?_⟩
          . rw [hW2,hu0]
            exact ((HB1.out.2.drew).setCell (p:=⟨ca,0,none⟩) HSZ.out.2 _).setCell (p:=⟨ca,1,none⟩) HSZ.out.2 _
          . rw [hW2,hu0]
            have h1:=HSZ.out.1
            simpa using h1)
         have HT1:Hid ((u0.setCell ⟨ca,0,none⟩ (.int i64 e1.1)).cell? ⟨eb',eo'+na*2,none⟩=some (.int i64 e1.1)/\(u0.setCell ⟨ca,0,none⟩ (.int i64 e1.1)).cell? ⟨eb',eo'+nb*2,none⟩=some (.int i64 e2.1)):=hid ⟨(World.cell?_setCell_far _ _ _ _ (by exact HCE.out)).trans HTT.out.1,(World.cell?_setCell_far _ _ _ _ (by exact HCE.out)).trans HTT.out.2⟩
         have HT2:Hid (W2.cell? ⟨eb',eo'+na*2,none⟩=some (.int i64 e1.1)/\W2.cell? ⟨eb',eo'+nb*2,none⟩=some (.int i64 e2.1)):=hid (by rw [hW2];exact ⟨(World.cell?_setCell_far _ _ _ _ (by exact HCE.out)).trans HT1.out.1,(World.cell?_setCell_far _ _ _ _ (by exact HCE.out)).trans HT1.out.2⟩)
         (try refine wp_region_noPanic ?_)
         refine wp_region_M (S:=fun wz=>wz.cell? ⟨ca,0,none⟩=some (.int i64 (na:Int))/\wz.cell? ⟨ca,1,none⟩=some (.int i64 (nb:Int))) (T:=fun wz=>wz.cell? ⟨eb',eo'+na*2,none⟩=some (.int i64 e1.1)/\wz.cell? ⟨eb',eo'+nb*2,none⟩=some (.int i64 e2.1)) (late:=[13,15]) (by kernel_rfl) ?_
         rw [<- hu0]
         clear hu0 i0 i1 hna hnb
         refine wpAnyM_val (i:=0) (v:=.slice (some ⟨eb',eo',none⟩) en ec) (d:=some 153) rfl rfl (by kernel_rfl) (by kernel_rfl) (by kernel_rfl) (by kernel_rfl) (fun _ _ _ h=>h) (Or.inl ⟨by rfl,fun w hS=>by (obtain ⟨h0,h1⟩:=hS;go_simp)⟩) (fun _=>HSS.out) HTT.out ?_
         (try simp only [sP])
         refine wpAnyM_val (i:=1) (v:=.pointer (some ⟨ca,0,none⟩)) (d:=some 154) rfl rfl (by kernel_rfl) (by kernel_rfl) (by kernel_rfl) (by kernel_rfl) (fun _ _ _ h=>h) (Or.inl ⟨by rfl,fun w hS=>by (obtain ⟨h0,h1⟩:=hS;go_simp)⟩) (fun _=>HSS.out) HTT.out ?_
         (try simp only [sP])
         refine wpAnyM_valS (i:=2) (v:=.int i64 (na:Int)) (d:=some 155) rfl rfl (by kernel_rfl) (by kernel_rfl) (by kernel_rfl) (by kernel_rfl) (by kernel_rfl) (fun _ _ _ h=>h) (Or.inl ⟨by rfl,fun w hS=>by (obtain ⟨h0,h1⟩:=hS;go_simp)⟩) HSS.out HTT.out ?_
         (try simp only [sP])
         refine wpAnyM_val (i:=3) (v:=.pointer (some ⟨eb',eo'+na*2,none⟩)) (d:=some 156) rfl rfl (by kernel_rfl) (by kernel_rfl) (by kernel_rfl) (by kernel_rfl) (fun _ _ _ h=>h) (Or.inl ⟨by rfl,fun w hS=>by (obtain ⟨h0,h1⟩:=hS;go_simp)⟩) (fun _=>HSS.out) HTT.out ?_
         (try simp only [sP])
         refine wpAnyM_val (i:=4) (v:=.pointer (some ⟨eb',eo'+na*2,none⟩)) (d:=some 157) rfl rfl (by kernel_rfl) (by kernel_rfl) (by kernel_rfl) (by kernel_rfl) (fun _ _ _ h=>h) (Or.inl ⟨by rfl,fun w hS=>by (obtain ⟨h0,h1⟩:=hS;go_simp)⟩) (fun _=>HSS.out) HTT.out ?_
         (try simp only [sP])
         refine wpAnyM_val (i:=5) (v:=.int i64 e1.1) (d:=some 158) rfl rfl (by kernel_rfl) (by kernel_rfl) (by kernel_rfl) (by kernel_rfl) (fun _ _ _ h=>h) (Or.inl ⟨by rfl,fun w hS=>by (obtain ⟨h0,h1⟩:=hS;go_simp)⟩) (fun _=>HSS.out) HTT.out ?_
         (try simp only [sP])
         refine wpAnyM_val (i:=6) (v:=.slice (some ⟨eb',eo',none⟩) en ec) (d:=some 159) rfl rfl (by kernel_rfl) (by kernel_rfl) (by kernel_rfl) (by kernel_rfl) (fun _ _ _ h=>h) (Or.inl ⟨by rfl,fun w hS=>by (obtain ⟨h0,h1⟩:=hS;go_simp)⟩) (fun _=>HSS.out) HTT.out ?_
         (try simp only [sP])
         refine wpAnyM_val (i:=7) (v:=.pointer (some ⟨ca,1,none⟩)) (d:=some 160) rfl rfl (by kernel_rfl) (by kernel_rfl) (by kernel_rfl) (by kernel_rfl) (fun _ _ _ h=>h) (Or.inl ⟨by rfl,fun w hS=>by (obtain ⟨h0,h1⟩:=hS;go_simp)⟩) (fun _=>HSS.out) HTT.out ?_
         (try simp only [sP])
         refine wpAnyM_valS (i:=8) (v:=.int i64 (nb:Int)) (d:=some 161) rfl rfl (by kernel_rfl) (by kernel_rfl) (by kernel_rfl) (by kernel_rfl) (by kernel_rfl) (fun _ _ _ h=>h) (Or.inl ⟨by rfl,fun w hS=>by (obtain ⟨h0,h1⟩:=hS;go_simp)⟩) HSS.out HTT.out ?_
         (try simp only [sP])
         refine wpAnyM_val (i:=9) (v:=.pointer (some ⟨eb',eo'+nb*2,none⟩)) (d:=some 162) rfl rfl (by kernel_rfl) (by kernel_rfl) (by kernel_rfl) (by kernel_rfl) (fun _ _ _ h=>h) (Or.inl ⟨by rfl,fun w hS=>by (obtain ⟨h0,h1⟩:=hS;go_simp)⟩) (fun _=>HSS.out) HTT.out ?_
         (try simp only [sP])
         refine wpAnyM_val (i:=10) (v:=.pointer (some ⟨eb',eo'+nb*2,none⟩)) (d:=some 163) rfl rfl (by kernel_rfl) (by kernel_rfl) (by kernel_rfl) (by kernel_rfl) (fun _ _ _ h=>h) (Or.inl ⟨by rfl,fun w hS=>by (obtain ⟨h0,h1⟩:=hS;go_simp)⟩) (fun _=>HSS.out) HTT.out ?_
         (try simp only [sP])
         refine wpAnyM_val (i:=11) (v:=.int i64 e2.1) (d:=some 164) rfl rfl (by kernel_rfl) (by kernel_rfl) (by kernel_rfl) (by kernel_rfl) (fun _ _ _ h=>h) (Or.inl ⟨by rfl,fun w hS=>by (obtain ⟨h0,h1⟩:=hS;go_simp)⟩) (fun _=>HSS.out) HTT.out ?_
         (try simp only [sP])
         refine wpAnyM_val (i:=12) (v:=.pointer (some ⟨ca,0,none⟩)) (d:=some 165) rfl rfl (by kernel_rfl) (by kernel_rfl) (by kernel_rfl) (by kernel_rfl) (fun _ _ _ h=>h) (Or.inl ⟨by rfl,fun w hS=>by (obtain ⟨h0,h1⟩:=hS;go_simp)⟩) (fun _=>HSS.out) HTT.out ?_
         (try simp only [sP])
         have x0:u0.cell? ⟨ca,0,none⟩=some (.int i64 (na:Int)):=HSS.out.1
         have x1:u0.frozen? ⟨ca,0,none⟩=false:=HCU.out.frozen 0
         refine wpAnyM_late (i:=13) rfl (by kernel_rfl) (by rfl) (by kernel_rfl) (by simp) ?_
         go_simp
         clear x0 x1
         first
          | refine And.intro HT1.out ?_
          | refine And.intro HTT.out ?_
         (try simp only [sP])
         refine wpAnyM_val (i:=14) (v:=.pointer (some ⟨ca,1,none⟩)) (d:=some 166) rfl rfl (by kernel_rfl) (by kernel_rfl) (by kernel_rfl) (by kernel_rfl) (fun _ _ _ h=>h) (Or.inl ⟨by rfl,fun w hS=>by (obtain ⟨h0,h1⟩:=hS;go_simp)⟩) (fun h=>absurd (h 13 (by simp)) (by simp)) HT1.out ?_
         (try simp only [sP])
         have x0:(u0.setCell ⟨ca,0,none⟩ (.int i64 e1.1)).cell? ⟨ca,1,none⟩=some (.int i64 (nb:Int)):=(World.cell?_setCell_other _ _ _ _ (by intro e;injection e with _ e;omega)).trans HSS.out.2
         have x1:(u0.setCell ⟨ca,0,none⟩ (.int i64 e1.1)).frozen? ⟨ca,1,none⟩=false:=(HCU.out.set_ 0 (.int i64 e1.1)).frozen 1
         refine wpAnyM_late (i:=15) rfl (by kernel_rfl) (by rfl) (by kernel_rfl) (by simp) ?_
         go_simp
         clear x0 x1
         rw [<- hW2]
         clear hW2
         first
          | refine And.intro HT2.out ?_
          | refine And.intro HT1.out ?_
         (try simp only [sP])
         refine wpAnyM_done (by kernel_rfl) ?_ _
         (try refine NoPanic.normal ?_)
         clear HCU HSS HTT HT1 HT2 HP HCA HO1 HR1 HEL
         have j0:W2.cell? ⟨ca,0,none⟩=some (.int i64 e1.1):=HC2.out.cell 0
         have j1:W2.cell? ⟨ca,1,none⟩=some (.int i64 e2.1):=HC2.out.cell 1
         have j2:W2.cell? ⟨ca,2,none⟩=some (.int i64 ct.id):=HC2.out.cell 2
         have j3:W2.cell? ⟨ca,3,none⟩=some (.int i64 ct.px):=HC2.out.cell 3
         have j4:W2.cell? ⟨ca,4,none⟩=some (.int i64 ct.py):=HC2.out.cell 4
         have j5:W2.cell? ⟨ca,5,none⟩=some (.int i64 ct.nx):=HC2.out.cell 5
         have j6:W2.cell? ⟨ca,6,none⟩=some (.int i64 ct.ny):=HC2.out.cell 6
         have j7:W2.cell? ⟨ca,7,none⟩=some (.int i64 ct.dp):=HC2.out.cell 7
         have j8:W2.cell? ⟨ca,8,none⟩=some (.int i64 ct.ps):=HC2.out.cell 8
         have j9:W2.cell? ⟨ca,9,none⟩=some (.int i64 ct.sl):=HC2.out.cell 9
         go_wp2_with
          (at_builtin
           go_must (refine wpList_append_one _ rfl (.tmp 167) (.tmp 169) 76 rfl base 131 iC (.agg #[.int i64 0,.int i64 0,.int i64 0,.int i64 0,.int i64 0,.int i64 0,.int i64 0,.int i64 0,.int i64 0,.int i64 0]) 10 80 Try.underlying76 hiC hC0 hC1 hC2 rfl (by decide) (.slice kA kn kc) kn (ctCs D) rfl (HO2.out.alloc _) W2.heap.size 1 131 #[.int i64 e1.1,.int i64 e2.1,.int i64 ct.id,.int i64 ct.px,.int i64 ct.py,.int i64 ct.nx,.int i64 ct.ny,.int i64 ct.dp,.int i64 ct.ps,.int i64 ct.sl] rfl (Bk.new W2 _ _) rfl ?c1 (kn+1) rfl ?c2 ?c3 ?c4 ?_)
           case c1=>simp [Value.oneCell']
           case c2=>unfold maxLen;have h:=HKN.out;omega
           case c3=>have h:=HKN.out;omega
           case c4=>(have h1:=HB2.out.2.2;simp;omega)
           intro g8 c8 w8 hown8 hg8 hat8
           have HF:Hid (conOk el ct=true/\w8.ownsRow base 131 10 (.slice (some ⟨g8,0,none⟩) (kn+1) c8) (kn+1) (ctCs (D++[conN el ct]))/\Kx 0 [131] w0 w8/\Below base w0 w8):=hid (by
            refine ⟨HOK.out.1,?_,?_,?_⟩
            . rw [HOK.out.2,ctCs_app]
              exact hown8
            . exact HB2.out.1.trans ((Kz.refl.alloc _).grown (HO2.out.alloc _) hg8 (by simp)).kx
            . exact HB2.out.2.1.trans (((Below.refl _ _).alloc HB2.out.2.2 _).trans (grown_below (HO2.out.alloc _) hg8 (by have h1:=HB2.out.2.2;simp;omega))))
           clear hown8 hg8 hat8 j0 j1 j2 j3 j4 j5 j6 j7 j8 j9)
         (try simp only [Exit.inBlock,Exit.then])
         first
          | exact HF
          | (apply hN;exact HF)
theorem results_ctt {fn:Func} {p q r:Tmp} {ty:TypeId} (h:fn.results=#[.cell p ty,.tmp q,.tmp r]) (tmps:Array Value) (P:Program) (w:World) :
 (results fn tmps).run P w =
  ((asAddr (tmps.getD p undef)).run P w).andThen fun a w₁=>((loadVar ty a).run P w₁).andThen fun v w₂=>.ok (.tuple #[v,tmps.getD q undef,tmps.getD r undef]) w₂:=by
 simp only [results,h]
 simp [Sem.run_bind,Result.andThen]
structure ScR (w:World) (base:Nat) (A:Option Addr) (n c:Nat) (kA:Option Addr) (kn kc:Nat) (E:Option Addr) (ec:Nat) (q:List (Bo × (Int × Int))) (D:List Ct):Prop where
 bm:∃ l,BmI w base A n c l/\l.map Bm.b=q.map Prod.fst
 en:w.ownsRow base 128 2 (.slice E n ec) n (enCs (q.map Prod.snd))
 len:n=q.length
 ct:w.ownsRow base 131 10 (.slice kA kn kc) kn (ctCs D)
theorem bodiesF_take {m0 m1 m2:Int} {l:List It} {k:Nat} {it:It} (h:l[k]?=some it):bodiesF m0 m1 m2 (l.take (k+1))=bodiesF m0 m1 m2 (l.take k)++((bodyF m0 m1 m2 it.cms).map fun b=>(b,(it.e,it.g))).toList:=by
 unfold bodiesF
 rw [List.take_add_one,h,List.filterMap_append]
 cases hb:bodyF m0 m1 m2 it.cms <;> simp [hb]
end Go.Proofs.Ytnidcmhfbkdioaa
