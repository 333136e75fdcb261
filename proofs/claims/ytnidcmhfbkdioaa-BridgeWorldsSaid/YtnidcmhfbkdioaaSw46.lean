/-
  Lemmas for the walk, merged (Gm Ge Gb). No condition but those in each statement.
-/
import Derived.Test.YtnidcmhfbkdioaaSw45
import Derived.Test.YtnidcmhfbkdioaaSw22
import Derived.Test.YtnidcmhfbkdioaaSw37
namespace Go.Proofs.Ytnidcmhfbkdioaa
open Go.RowKit
open Go.IntKind (i64)
open Go.Lib (hid)
set_option maxRecDepth 100000
noncomputable def lwEnt:Code:=(Try.f13.body.bind (blkN 3)).getD .skip
set_option maxHeartbeats 16000000 in
theorem lwEnt_any {x0 x1 x2 x3 x4 x6 x7 x8 x9 Aa Ab Ac Ad Ag Ah Ai Aj Ak Al Am Ao Ap Aq Ar Au Av Aw Ax Ay Az A7 A9 Be Bl Bu Bv Bw B0 B1 B2 B3 B4 B5 B6 B7 B8 B9 Cg Ch Ci Cj Ck Cp Cq Cr Cs Cu Cw Cx Cy Cz C0 C1 C2 C3 C4 C5 C6 C7 C8 C9 Da Db Dc Dd De Dg Dh Di Dj Dk Dl Dm Dn Dp Dq Dr Ds Dt Dv Dx Dy D0 D1 D3 D4 D5 D6 D7 D8 D9 Ee Ef Ei Ek El Em En Eo Es Et Eu Ev Ew Ex Ey Ez E0 E1 E2 E3 E4 E5 E6 E7 E8 E9 Fa Fb Ff Fg Fh Fi Fj Fk Fl Fm Fn Fp Fs Ft Fu Fv Fx Fy Fz F0 F1 F2 F3 F4 F5 F6 F7 F8 F9 Ga Gd Gi Gp Gr Gs Gt Gu Gv Gw Gx Gy Gz G0 G1 G2 G3 G4 G5 G6 G7 G8 G9 Hb Hc Hd He Hf Hg Hh Hi Hj Hk:Value} {Q:Exit->Act->World->Prop} {w0:World} {B hw aA i en ec im ic:Nat} {bd m0:Int} {eA iA:Option Addr} {el:List (Int × Int)} {e:Int × Int} {its:List It} {V0 V1 A1 A2 A3 A4:Value}
 (hwb:Bk w0 hw 52 #[V0,V1,.slice iA im ic]) (hit:IsOk w0 B iA im ic its) (ha:Bk w0 aA 141 #[.int i64 m0,A1,A2,A3,A4]) (hel:Rd w0 B 2 eA en (enCs el)) (hen:i<en) (_hec:en<=ec) (_hec2:ec<=9223372036854775807) (hei:el[i]?=some e)
 (hp:bd=0->PlOk m0 (its.map It.p)/\∀ it∈its,∀ cm∈it.cms,cm.n<=1048576)
 (hN:∀ (Ht Hu K0 K1 K2 K3 K4 K5 K6 K7 K8 K9 La Lb Lc Ld Le Lf Lg Lh Li Lj Lk Ll Lm:Value) (w':World),Hid (Below w0.heap.size w0 w')->Q .normal ⟨#[x0,x1,x2,x3,x4,.pointer (some ⟨hw,0,none⟩),x6,x7,x8,x9,Aa,Ab,Ac,Ad,.int i64 (if bd≠0 then bd else if bwBad m0 (its.map It.p) e=true then 4 else 0),.pointer (some ⟨aA,0,none⟩),Ag,Ah,Ht,Hu,Ak,Al,Am,Ao,Ap,Aq,Ar,Au,Av,Aw,Ax,Ay,Az,A7,A9,Be,Bl,Bu,Bv,Bw,B0,B1,B2,B3,B4,B5,B6,B7,B8,B9,Cg,Ch,Ci,Cj,Ck,Cp,Cq,Cr,Cs,Cu,Cw,Cx,Cy,Cz,C0,C1,C2,C3,C4,C5,C6,C7,C8,C9,Da,Db,Dc,Dd,De,Dg,Dh,Di,Dj,Dk,Dl,Dm,Dn,Dp,Dq,Dr,Ds,Dt,.slice eA en ec,Dv,.int i64 (i:Int),Dx,K0,K1,K2,K3,K4,K5,K6,K7,K8,K9,La,Lb,Lc,Ld,Le,Lf,Lg,Lh,Li,Lj,Lk,Ll,Lm,Ex,Ey,Ez,E0,E1,E2,E3,E4,E5,E6,E7,E8,E9,Fa,Fb,Ff,Fg,Fh,Fi,Fj,Fk,Fl,Fm,Fn,Fp,Fs,Ft,Fu,Fv,Fx,Fy,Fz,F0,F1,F2,F3,F4,F5,F6,F7,F8,F9,Ga,Gd,Gi,Gp,Gr,Gs,Gt,Gu,Gv,Gw,Gx,Gy,Gz,G0,G1,G2,G3,G4,G5,G6,G7,G8,G9,Hb,Hc,Hd,He,Hf,Hg,Hh,Hi,Hj,Hk],[]⟩ w') :
 Code.wp Try.prog lwEnt Q ⟨#[x0,x1,x2,x3,x4,.pointer (some ⟨hw,0,none⟩),x6,x7,x8,x9,Aa,Ab,Ac,Ad,.int i64 bd,.pointer (some ⟨aA,0,none⟩),Ag,Ah,Ai,Aj,Ak,Al,Am,Ao,Ap,Aq,Ar,Au,Av,Aw,Ax,Ay,Az,A7,A9,Be,Bl,Bu,Bv,Bw,B0,B1,B2,B3,B4,B5,B6,B7,B8,B9,Cg,Ch,Ci,Cj,Ck,Cp,Cq,Cr,Cs,Cu,Cw,Cx,Cy,Cz,C0,C1,C2,C3,C4,C5,C6,C7,C8,C9,Da,Db,Dc,Dd,De,Dg,Dh,Di,Dj,Dk,Dl,Dm,Dn,Dp,Dq,Dr,Ds,Dt,.slice eA en ec,Dv,.int i64 (i:Int),Dx,Dy,D0,D1,D3,D4,D5,D6,D7,D8,D9,Ee,Ef,Ei,Ek,El,Em,En,Eo,Es,Et,Eu,Ev,Ew,Ex,Ey,Ez,E0,E1,E2,E3,E4,E5,E6,E7,E8,E9,Fa,Fb,Ff,Fg,Fh,Fi,Fj,Fk,Fl,Fm,Fn,Fp,Fs,Ft,Fu,Fv,Fx,Fy,Fz,F0,F1,F2,F3,F4,F5,F6,F7,F8,F9,Ga,Gd,Gi,Gp,Gr,Gs,Gt,Gu,Gv,Gw,Gx,Gy,Gz,G0,G1,G2,G3,G4,G5,G6,G7,G8,G9,Hb,Hc,Hd,He,Hf,Hg,Hh,Hi,Hj,Hk],[]⟩ w0:=by
 conv=>arg 2;whnf
 obtain ⟨eb,eo,heA,heb,q0,q1⟩:=Rd.enW hel hen hei
 subst heA
 have hiz:(i:Int)<en:=by omega
 have hiz0:(0:Int)<=i:=by omega
 obtain ⟨na,hna⟩:∃ z,z=w0.heap.size:=⟨_,rfl⟩
 obtain ⟨W1,hW1⟩:∃ z,z=w0.alloc (.cells #[.int i64 e.1,.int i64 e.2] 128):=⟨_,rfl⟩
 have hb1:Below w0.heap.size w0 W1:=by rw [hW1];exact (Below.refl _ _).alloc (Nat.le_refl _) _
 have hea:Bk W1 na 128 #[.int i64 e.1,.int i64 e.2]:=by rw [hW1,hna];exact Bk.new _ _ _
 have hlo:B<=w0.heap.size:=hit.lo
 obtain ⟨K,hKf⟩:∃ z,z=idxF (fun x:It=>decide (x.e=e.1/\x.g=e.2)) its:=⟨_,rfl⟩
 have HFI:Hid (Calls Try.prog 68 #[.slice iA im ic,.func (.func 69) #[] #[.pointer (some ⟨na,0,none⟩)]] W1 fun e' w'=>e'=.returned (.int i64 K)/\Below W1.heap.size W1 w'):=hid (by
  rw [hKf]
  exact idxEntL_any na e.1 e.2 (hit.below (hb1.mono hlo)) ⟨hea.cell 0,hea.cell 1⟩ hea.lt)
 have HKF:Hid (K=findP (its.map It.p) e.1 e.2):=hid (by rw [hKf,<- findEnt_p];rfl)
 have HKE:Hid (K=idxF (fun x:It=>decide (x.e=e.1/\x.g=e.2)) its):=hid hKf
 have HP:=hid hp
 have HWB:Hid (Bk W1 hw 52 #[V0,V1,.slice iA im ic]):=hid (hwb.below hb1 hwb.lt)
 have HAA:Hid (Bk W1 aA 141 #[.int i64 m0,A1,A2,A3,A4]):=hid (ha.below hb1 ha.lt)
 have HIT:Hid (IsOk W1 B iA im ic its):=hid (hit.below (hb1.mono hlo))
 have HB1:Hid (Below w0.heap.size w0 W1):=hid hb1
 have HLO:Hid (B<=w0.heap.size):=hid hlo
 clear hwb hit ha hel heb hei hp hb1 hea hlo hKf
 go_upto_region 18 with fail
 rw [<- hW1,<- hna]
 clear q0 q1 hW1 hna
 have o2:W1.cell? ⟨hw,2,none⟩=some (.slice iA im ic):=HWB.out.cell 2
 go_wp2_with fail
 (with_reducible refine HFI.out.mono ?_)
 rintro e' w2 ⟨rfl,hb2⟩
 have HWB2:=hid (HWB.out.below hb2 HWB.out.lt)
 have HAA2:=hid (HAA.out.below hb2 HAA.out.lt)
 have HIT2:Hid (IsOk w2 B iA im ic its):=hid (HIT.out.below (hb2.mono (Nat.le_trans HLO.out HB1.out.size)))
 have HB2:Hid (Below w0.heap.size w0 w2):=hid (HB1.out.trans (hb2.mono HB1.out.size))
 clear HFI hb2 o2 HWB HAA HIT HB1
 by_cases hbd:bd=0
 . subst hbd
   obtain ⟨hpl,hsz⟩:=HP.out rfl
   rw [if_neg (show ¬ ((0:Int)≠0) by decide)] at hN
   by_cases hneg:K<0
   . have hbad:bwBad m0 (its.map It.p) e=true:=by unfold bwBad;rw [<- HKF.out];simp [hneg]
     rw [if_pos hbad] at hN
     clear hbad hpl hsz
     go_upto_region 19 with fail
     obtain ⟨u0,hu0⟩:∃ z,z=w2.drew:=⟨_,rfl⟩
     have HBU:Hid (Below w0.heap.size w0 u0):=hid (by rw [hu0];exact HB2.out.drew)
     have HSS:Hid (u0.cell? ⟨aA,0,none⟩=some (.int i64 m0)):=hid (by rw [hu0];exact HAA2.out.cell 0)
     (try refine wp_region_noPanic ?_)
     refine wp_region_H (S:=fun wz=>wz.cell? ⟨aA,0,none⟩=some (.int i64 m0)) (by kernel_rfl) ?_
     rw [<- hu0]
     clear hu0
     refine wpH 0 (.int i64 0) 102 HSS.out ?_
     (try simp only [sP])
     refine wpH 1 (.bool true) 103 HSS.out ?_
     (try simp only [sP])
     refine wpH 2 (.bool true) 104 HSS.out ?_
     (try simp only [sP])
     refine wpH 3 (.int i64 K) 105 HSS.out ?_
     (try simp only [sP])
     refine wpH 4 (.bool true) 106 HSS.out ?_
     (try simp only [sP])
     refine wpH 5 (.bool true) 107 HSS.out ?_
     (try simp only [sP])
     refine wpHn 6 108 HSS.out ?_
     (try simp only [sP])
     refine wpHn 7 109 HSS.out ?_
     (try simp only [sP])
     refine wpHn 8 110 HSS.out ?_
     (try simp only [sP])
     refine wpHn 9 111 HSS.out ?_
     (try simp only [sP])
     refine wpHn 10 112 HSS.out ?_
     (try simp only [sP])
     refine wpHn 11 113 HSS.out ?_
     (try simp only [sP])
     refine wpHn 12 114 HSS.out ?_
     (try simp only [sP])
     refine wpHn 13 115 HSS.out ?_
     (try simp only [sP])
     refine wpHn 14 116 HSS.out ?_
     (try simp only [sP])
     refine wpH 15 (.bool true) 117 HSS.out ?_
     (try simp only [sP])
     refine wpH 16 (.bool true) 118 HSS.out ?_
     (try simp only [sP])
     refine wpAnyH_done (by kernel_rfl) ?_ _
     (try refine NoPanic.normal ?_)
     have HE:Hid (Below w0.heap.size w0 u0):=HBU
     go_wp2_with fail
     (try simp only [Exit.inBlock,Exit.then])
     first
      | exact HE
      | (apply hN;exact HE)
   . obtain ⟨k,x,hKk,hx⟩:=idxF_some (p:=fun x:It=>decide (x.e=e.1/\x.g=e.2)) (l:=its) (by have h:=HKE.out;rw [<- h];exact hneg)
     obtain rfl:K=(k:Int):=by have h:=HKE.out;rw [h];exact hKk
     have hkim:k<im:=by have h1:=(List.getElem?_eq_some_iff.1 hx).1;have h2:=HIT2.out.len;omega
     have hkz:(k:Int)<im:=by omega
     have hkz0:(0:Int)<=k:=by omega
     have hkneg:¬ ((k:Int)<0):=by omega
     have hIC:im<=ic:=HIT2.out.cap
     have hIC2:ic<=9223372036854775807:=HIT2.out.cap2
     obtain ⟨ib,io,hiA,hib,i0,i1,i2⟩:=HIT2.out.rd.it hkim hx
     subst hiA
     have hmem:=List.mem_of_getElem? hx
     have hplx:=hpl x.p (List.mem_map_of_mem hmem)
     have HS2:Hid (w2.cell? ⟨aA,0,none⟩=some (.int i64 m0)/\w2.cell? ⟨hw,2,none⟩=some (.slice (some ⟨ib,io,none⟩) im ic)/\w2.cell? ⟨ib,io+k*3,none⟩=some (.int i64 x.e)/\w2.cell? ⟨ib,io+k*3+1,none⟩=some (.int i64 x.g)/\w2.cell? ⟨ib,io+k*3+2,none⟩=some (.slice x.A x.n x.c)):=hid ⟨HAA2.out.cell 0,HWB2.out.cell 2,i0,i1,i2⟩
     have HVA:Hid (∀ wz,Below w2.heap.size w2 wz->Calls Try.prog 70 #[.agg #[.int i64 x.e,.int i64 x.g,.slice x.A x.n x.c],.int i64 m0] wz (RvP wz x.cms m0)):=hid fun wz hz =>
      rvals_any (((HIT2.out.ok x hmem).cs).below (hz.mono HIT2.out.lo)) x.e x.g m0 (hsz x hmem)
     have HFX:Hid ((its.map It.p)[k]?=some x.p):=hid (by rw [List.getElem?_map,hx];rfl)
     cases hcm:cmAt x.cms m0 with
     | none =>
       have hno:(x.p.2.any fun c=>decide (c.1=m0))=false:=by
        unfold cmAt at hcm
        rw [List.find?_eq_none] at hcm
        rw [List.any_eq_false]
        intro c hc
        obtain ⟨c',h1,h2⟩:=List.mem_map.1 (show c∈x.cms.map Cm.p from hc)
        have h3:=hcm c' h1
        rw [<- h2]
        exact h3
       have hbad:bwBad m0 (its.map It.p) e=true:=by unfold bwBad;rw [<- HKF.out];simp only [Int.toNat_natCast];rw [HFX.out];simp only [hno];simp
       rw [if_pos hbad] at hN
       have HVN:Hid (∀ wz,Below w2.heap.size w2 wz->Calls Try.prog 70 #[.agg #[.int i64 x.e,.int i64 x.g,.slice x.A x.n x.c],.int i64 m0] wz fun r w'=>r=.returned (.slice none 0 0)/\Below wz.heap.size wz w'):=hid fun wz hz=>by
        have h1:=HVA.out wz hz
        unfold RvP at h1
        rw [hcm,ite_self] at h1
        exact h1
       have hnil:=fun wx=>Lib.run_eql_slice_nil (P:=Try.prog) wx 30 3 none 0 0 0 0 Try.underlying30
       clear hcm hno hbad hpl hsz hplx hmem hx hib i0 i1 i2 hKk HVA
       go_upto_region 19 with fail
       obtain ⟨u0,hu0⟩:∃ z,z=w2.drew:=⟨_,rfl⟩
       have HBU:Hid (Below w0.heap.size w0 u0):=hid (by rw [hu0];exact HB2.out.drew)
       have HSS:Hid (u0.cell? ⟨aA,0,none⟩=some (.int i64 m0)/\u0.cell? ⟨hw,2,none⟩=some (.slice (some ⟨ib,io,none⟩) im ic)/\u0.cell? ⟨ib,io+k*3,none⟩=some (.int i64 x.e)/\u0.cell? ⟨ib,io+k*3+1,none⟩=some (.int i64 x.g)/\u0.cell? ⟨ib,io+k*3+2,none⟩=some (.slice x.A x.n x.c)):=hid (by rw [hu0];exact HS2.out)
       have HVU:=hid (HVN.out u0 (by rw [hu0];exact (Below.refl _ _).drew))
       clear HVN HS2
       (try refine wp_region_noPanic ?_)
       refine wp_region_H (S:=fun wz=>wz.cell? ⟨aA,0,none⟩=some (.int i64 m0)/\wz.cell? ⟨hw,2,none⟩=some (.slice (some ⟨ib,io,none⟩) im ic)/\wz.cell? ⟨ib,io+k*3,none⟩=some (.int i64 x.e)/\wz.cell? ⟨ib,io+k*3+1,none⟩=some (.int i64 x.g)/\wz.cell? ⟨ib,io+k*3+2,none⟩=some (.slice x.A x.n x.c)) (by kernel_rfl) ?_
       rw [<- hu0]
       clear hu0
       refine wpH 0 (.int i64 0) 102 HSS.out ?_
       (try simp only [sP])
       refine wpH 1 (.bool true) 103 HSS.out ?_
       (try simp only [sP])
       refine wpH 2 (.bool true) 104 HSS.out ?_
       (try simp only [sP])
       refine wpH 3 (.int i64 (k:Int)) 105 HSS.out ?_
       (try simp only [sP])
       refine wpH 4 (.bool false) 106 HSS.out ?_
       (try simp only [sP])
       refine wpH 5 (.bool false) 107 HSS.out ?_
       (try simp only [sP])
       refine wpH 6 (.pointer (some ⟨hw,2,none⟩)) 108 HSS.out ?_
       (try simp only [sP])
       refine wpH 7 (.slice (some ⟨ib,io,none⟩) im ic) 109 HSS.out ?_
       (try simp only [sP])
       refine wpH 8 (.int i64 (k:Int)) 110 HSS.out ?_
       (try simp only [sP])
       refine wpH 9 (.pointer (some ⟨ib,io+k*3,none⟩)) 111 HSS.out ?_
       (try simp only [sP])
       refine wpH 10 (.agg #[.int i64 x.e,.int i64 x.g,.slice x.A x.n x.c]) 112 HSS.out ?_
       (try simp only [sP])
       refine wpH 11 (.pointer (some ⟨aA,0,none⟩)) 113 HSS.out ?_
       (try simp only [sP])
       refine wpH 12 (.int i64 m0) 114 HSS.out ?_
       (try simp only [sP])
       refine wpAnyH_oneW (i:=13) rfl (by kernel_rfl) (by rfl) ?_
       go_simp
       go_at_call 70
       (with_reducible refine HVU.out.mono ?_)
       rintro r u1 ⟨rfl,hv1⟩
       have HBV:Hid (Below w0.heap.size w0 u1):=hid (HBU.out.trans (hv1.mono HBU.out.size))
       have HSV:Hid (u1.cell? ⟨aA,0,none⟩=some (.int i64 m0)/\u1.cell? ⟨hw,2,none⟩=some (.slice (some ⟨ib,io,none⟩) im ic)/\u1.cell? ⟨ib,io+k*3,none⟩=some (.int i64 x.e)/\u1.cell? ⟨ib,io+k*3+1,none⟩=some (.int i64 x.g)/\u1.cell? ⟨ib,io+k*3+2,none⟩=some (.slice x.A x.n x.c)):=hid (by
        have hw:∀ p u,u0.cell? p=some u->u1.cell? p=some u:=fun p u h=>(hv1.cell (World.block_lt_of_cell? _ _ h)).trans h
        obtain ⟨h0,h1,h2,h3,h4⟩:=HSS.out
        exact ⟨hw _ _ h0,hw _ _ h1,hw _ _ h2,hw _ _ h3,hw _ _ h4⟩)
       clear hv1 HVU HSS
       refine And.intro HSV.out ?_
       (try simp only [sP])
       refine wpH 14 (.bool true) 116 HSV.out ?_
       (try simp only [sP])
       refine wpH 15 (.bool true) 117 HSV.out ?_
       (try simp only [sP])
       refine wpH 16 (.bool true) 118 HSV.out ?_
       (try simp only [sP])
       refine wpAnyH_done (by kernel_rfl) ?_ _
       (try refine NoPanic.normal ?_)
       have HE:Hid (Below w0.heap.size w0 u1):=HBV
       go_wp2_with fail
       (try simp only [Exit.inBlock,Exit.then])
       first
        | exact HE
        | (apply hN;exact HE)
     | some cm =>
       have hcmm:cm∈x.cms/\cm.k=m0:=by
        unfold cmAt at hcm
        exact ⟨List.mem_of_find?_eq_some hcm,by simpa using List.find?_some hcm⟩
       have hyes:(x.p.2.any fun c=>decide (c.1=m0))=true:=List.any_eq_true.2 ⟨cm.p,List.mem_map_of_mem hcmm.1,decide_eq_true (show cm.p.1=m0 from hcmm.2)⟩
       have hbad:bwBad m0 (its.map It.p) e=false:=by unfold bwBad;rw [<- HKF.out];simp only [Int.toNat_natCast];rw [HFX.out];simp only [hyes];simp
       rw [if_neg (by rw [hbad];simp)] at hN
       have hcp:=hplx.2 cm.p (List.mem_map_of_mem hcmm.1)
       have h0:0<=m0:=by rw [<- hcmm.2];exact hcp.1
       have hcn:0<cm.n:=by
        rw [((HIT2.out.ok x hmem).cs.ok cm hcmm.1).len]
        exact List.length_pos_iff.2 (hcp.2 hcmm.2)
       have HVN:Hid (∀ wz,Below w2.heap.size w2 wz->Calls Try.prog 70 #[.agg #[.int i64 x.e,.int i64 x.g,.slice x.A x.n x.c],.int i64 m0] wz fun r w'=>∃ (g c':Nat),r=.returned (.slice (some ⟨g,0,none⟩) cm.n c')/\Below wz.heap.size wz w'):=hid fun wz hz=>by
        have h1:=HVA.out wz hz
        unfold RvP at h1
        rw [hcm,if_pos h0] at h1
        refine h1.mono ?_
        rintro r w' ⟨A',c',rfl,ho,hb⟩
        rcases ho.2 with ⟨_,e2⟩ | ⟨g,cap,cur,e1,_⟩
        . omega
        . injection e1 with e1
          subst e1
          exact ⟨g,c',rfl,hb⟩
       have hnil:=fun wx g c=>Lib.run_eql_slice_nil (P:=Try.prog) wx 30 3 (some ⟨g,0,none⟩) cm.n c 0 0 Try.underlying30
       clear hcm hyes hbad hpl hsz hplx hmem hx hib i0 i1 i2 hKk HVA hcmm hcp h0 hcn
       go_upto_region 19 with fail
       obtain ⟨u0,hu0⟩:∃ z,z=w2.drew:=⟨_,rfl⟩
       have HBU:Hid (Below w0.heap.size w0 u0):=hid (by rw [hu0];exact HB2.out.drew)
       have HSS:Hid (u0.cell? ⟨aA,0,none⟩=some (.int i64 m0)/\u0.cell? ⟨hw,2,none⟩=some (.slice (some ⟨ib,io,none⟩) im ic)/\u0.cell? ⟨ib,io+k*3,none⟩=some (.int i64 x.e)/\u0.cell? ⟨ib,io+k*3+1,none⟩=some (.int i64 x.g)/\u0.cell? ⟨ib,io+k*3+2,none⟩=some (.slice x.A x.n x.c)):=hid (by rw [hu0];exact HS2.out)
       have HVU:=hid (HVN.out u0 (by rw [hu0];exact (Below.refl _ _).drew))
       clear HVN HS2
       (try refine wp_region_noPanic ?_)
       refine wp_region_H (S:=fun wz=>wz.cell? ⟨aA,0,none⟩=some (.int i64 m0)/\wz.cell? ⟨hw,2,none⟩=some (.slice (some ⟨ib,io,none⟩) im ic)/\wz.cell? ⟨ib,io+k*3,none⟩=some (.int i64 x.e)/\wz.cell? ⟨ib,io+k*3+1,none⟩=some (.int i64 x.g)/\wz.cell? ⟨ib,io+k*3+2,none⟩=some (.slice x.A x.n x.c)) (by kernel_rfl) ?_
       rw [<- hu0]
       clear hu0
       refine wpH 0 (.int i64 0) 102 HSS.out ?_
       (try simp only [sP])
       refine wpH 1 (.bool true) 103 HSS.out ?_
       (try simp only [sP])
       refine wpH 2 (.bool true) 104 HSS.out ?_
       (try simp only [sP])
       refine wpH 3 (.int i64 (k:Int)) 105 HSS.out ?_
       (try simp only [sP])
       refine wpH 4 (.bool false) 106 HSS.out ?_
       (try simp only [sP])
       refine wpH 5 (.bool false) 107 HSS.out ?_
       (try simp only [sP])
       refine wpH 6 (.pointer (some ⟨hw,2,none⟩)) 108 HSS.out ?_
       (try simp only [sP])
       refine wpH 7 (.slice (some ⟨ib,io,none⟩) im ic) 109 HSS.out ?_
       (try simp only [sP])
       refine wpH 8 (.int i64 (k:Int)) 110 HSS.out ?_
       (try simp only [sP])
       refine wpH 9 (.pointer (some ⟨ib,io+k*3,none⟩)) 111 HSS.out ?_
       (try simp only [sP])
       refine wpH 10 (.agg #[.int i64 x.e,.int i64 x.g,.slice x.A x.n x.c]) 112 HSS.out ?_
       (try simp only [sP])
       refine wpH 11 (.pointer (some ⟨aA,0,none⟩)) 113 HSS.out ?_
       (try simp only [sP])
       refine wpH 12 (.int i64 m0) 114 HSS.out ?_
       (try simp only [sP])
       refine wpAnyH_oneW (i:=13) rfl (by kernel_rfl) (by rfl) ?_
       go_simp
       go_at_call 70
       (with_reducible refine HVU.out.mono ?_)
       rintro r u1 ⟨g,c',rfl,hv1⟩
       have HBV:Hid (Below w0.heap.size w0 u1):=hid (HBU.out.trans (hv1.mono HBU.out.size))
       have HSV:Hid (u1.cell? ⟨aA,0,none⟩=some (.int i64 m0)/\u1.cell? ⟨hw,2,none⟩=some (.slice (some ⟨ib,io,none⟩) im ic)/\u1.cell? ⟨ib,io+k*3,none⟩=some (.int i64 x.e)/\u1.cell? ⟨ib,io+k*3+1,none⟩=some (.int i64 x.g)/\u1.cell? ⟨ib,io+k*3+2,none⟩=some (.slice x.A x.n x.c)):=hid (by
        have hw:∀ p u,u0.cell? p=some u->u1.cell? p=some u:=fun p u h=>(hv1.cell (World.block_lt_of_cell? _ _ h)).trans h
        obtain ⟨h0,h1,h2,h3,h4⟩:=HSS.out
        exact ⟨hw _ _ h0,hw _ _ h1,hw _ _ h2,hw _ _ h3,hw _ _ h4⟩)
       clear hv1 HVU HSS
       refine And.intro HSV.out ?_
       (try simp only [sP])
       refine wpH 14 (.bool false) 116 HSV.out ?_
       (try simp only [sP])
       refine wpH 15 (.bool false) 117 HSV.out ?_
       (try simp only [sP])
       refine wpH 16 (.bool false) 118 HSV.out ?_
       (try simp only [sP])
       refine wpAnyH_done (by kernel_rfl) ?_ _
       (try refine NoPanic.normal ?_)
       have HE:Hid (Below w0.heap.size w0 u1):=HBV
       go_wp2_with fail
       (try simp only [Exit.inBlock,Exit.then])
       first
        | exact HE
        | (apply hN;exact HE)
 . rw [if_pos hbd] at hN
   have t0:(bd == 0)=false:=by simpa using hbd
   go_upto_region 19 with fail
   obtain ⟨u0,hu0⟩:∃ z,z=w2.drew:=⟨_,rfl⟩
   have HBU:Hid (Below w0.heap.size w0 u0):=hid (by rw [hu0];exact HB2.out.drew)
   have HSS:Hid (u0.cell? ⟨aA,0,none⟩=some (.int i64 m0)):=hid (by rw [hu0];exact HAA2.out.cell 0)
   (try refine wp_region_noPanic ?_)
   refine wp_region_H (S:=fun wz=>wz.cell? ⟨aA,0,none⟩=some (.int i64 m0)) (by kernel_rfl) ?_
   rw [<- hu0]
   clear hu0
   refine wpH 0 (.int i64 bd) 102 HSS.out ?_
   (try simp only [sP])
   refine wpH 1 (.bool false) 103 HSS.out ?_
   (try simp only [sP])
   refine wpH 2 (.bool false) 104 HSS.out ?_
   (try simp only [sP])
   refine wpHn 3 105 HSS.out ?_
   (try simp only [sP])
   refine wpHn 4 106 HSS.out ?_
   (try simp only [sP])
   refine wpHn 5 107 HSS.out ?_
   (try simp only [sP])
   refine wpHn 6 108 HSS.out ?_
   (try simp only [sP])
   refine wpHn 7 109 HSS.out ?_
   (try simp only [sP])
   refine wpHn 8 110 HSS.out ?_
   (try simp only [sP])
   refine wpHn 9 111 HSS.out ?_
   (try simp only [sP])
   refine wpHn 10 112 HSS.out ?_
   (try simp only [sP])
   refine wpHn 11 113 HSS.out ?_
   (try simp only [sP])
   refine wpHn 12 114 HSS.out ?_
   (try simp only [sP])
   refine wpHn 13 115 HSS.out ?_
   (try simp only [sP])
   refine wpHn 14 116 HSS.out ?_
   (try simp only [sP])
   refine wpHn 15 117 HSS.out ?_
   (try simp only [sP])
   refine wpH 16 (.bool false) 118 HSS.out ?_
   (try simp only [sP])
   refine wpAnyH_done (by kernel_rfl) ?_ _
   (try refine NoPanic.normal ?_)
   have HE:Hid (Below w0.heap.size w0 u0):=HBU
   go_wp2_with fail
   (try simp only [Exit.inBlock,Exit.then])
   first
    | exact HE
    | (apply hN;exact HE)
noncomputable def lwCon:Code:=(Try.f13.body.bind (blkN 5)).getD .skip
set_option maxHeartbeats 16000000 in
theorem lwCon_any {x0 x1 x2 x3 x5 x6 x7 x8 x9 Aa Ab Ac Ad Af Ag Ah Ai Aj Ak Al Am Ao Ap Aq Ar Au Av Aw Ax Ay Az A7 A9 Be Bl Bu Bv Bw B0 B1 B2 B3 B4 B5 B6 B7 B8 B9 Cg Ch Ci Cj Ck Cp Cq Cr Cs Cu Cw Cx Cy Cz C0 C1 C2 C3 C4 C5 C6 C7 C8 C9 Da Db Dc Dd De Dg Dh Di Dj Dk Dl Dm Dn Dp Dq Dr Ds Dt Du Dv Dw Dx Dy D0 D1 D3 D4 D5 D6 D7 D8 D9 Ee Ef Ei Ek El Em En Eo Es Et Eu Ev Ew Ex Ey E0 E2 E3 E4 E5 E6 E7 E8 E9 Fa Fb Ff Fg Fh Fi Fj Fk Fl Fm Fn Fp Fs Ft Fu Fv Fx Fy Fz F0 F1 F2 F3 F4 F5 F6 F7 F8 F9 Ga Gd Gi Gp Gr Gs Gt Gu Gv Gw Gx Gy Gz G0 G1 G2 G3 G4 G5 G6 G7 G8 G9 Hb Hc Hd He Hf Hg Hh Hi Hj Hk:Value} {Q:Exit->Act->World->Prop} {w0:World} {B j cn cc en ec:Nat} {bd:Int} {eA cA:Option Addr} {el:List (Int × Int)} {cl:List Ct} {ct:Ct}
 (hrd:Rd w0 B 10 cA cn (ctCs cl)) (hjn:j<cn) (_hcap:cn<=cc) (_hcap2:cc<=9223372036854775807) (hj:cl[j]?=some ct) (hen:en=el.length)
 (hN:∀ (Hw Lt Lu Lv Lw Lx Ly Lz L0 L1 L2 L3 L4 L5 L6 L7 L8 L9 Mi Mm Mp Mr Ms Mv Mx My M0 M3 M4:Value) (w':World),Hid (Below w0.heap.size w0 w')->Q .normal ⟨#[x0,x1,x2,x3,.slice eA en ec,x5,x6,x7,x8,x9,Aa,Ab,Ac,Ad,.int i64 (if bd≠0 then bd else if conOk el ct=false then 1 else 0),Af,Ag,Ah,Ai,Aj,Ak,Hw,Am,Ao,Ap,Aq,Ar,Au,Av,Aw,Ax,Ay,Az,A7,A9,Be,Bl,Bu,Bv,Bw,B0,B1,B2,B3,B4,B5,B6,B7,B8,B9,Cg,Ch,Ci,Cj,Ck,Cp,Cq,Cr,Cs,Cu,Cw,Cx,Cy,Cz,C0,C1,C2,C3,C4,C5,C6,C7,C8,C9,Da,Db,Dc,Dd,De,Dg,Dh,Di,Dj,Dk,Dl,Dm,Dn,Dp,Dq,Dr,Ds,Dt,Du,Dv,Dw,Dx,Dy,D0,D1,D3,D4,D5,D6,D7,D8,D9,Ee,Ef,Ei,Ek,El,Em,En,Eo,Es,Et,Eu,Ev,Ew,Ex,Ey,.slice cA cn cc,E0,.int i64 (j:Int),E2,Lt,Lu,Lv,Lw,Lx,Ly,Lz,L0,L1,L2,L3,L4,L5,L6,L7,L8,L9,Mi,Mm,Mp,Mr,Ms,Mv,Mx,My,M0,M3,M4,F2,F3,F4,F5,F6,F7,F8,F9,Ga,Gd,Gi,Gp,Gr,Gs,Gt,Gu,Gv,Gw,Gx,Gy,Gz,G0,G1,G2,G3,G4,G5,G6,G7,G8,G9,Hb,Hc,Hd,He,Hf,Hg,Hh,Hi,Hj,Hk],[]⟩ w') :
 Code.wp Try.prog lwCon Q ⟨#[x0,x1,x2,x3,.slice eA en ec,x5,x6,x7,x8,x9,Aa,Ab,Ac,Ad,.int i64 bd,Af,Ag,Ah,Ai,Aj,Ak,Al,Am,Ao,Ap,Aq,Ar,Au,Av,Aw,Ax,Ay,Az,A7,A9,Be,Bl,Bu,Bv,Bw,B0,B1,B2,B3,B4,B5,B6,B7,B8,B9,Cg,Ch,Ci,Cj,Ck,Cp,Cq,Cr,Cs,Cu,Cw,Cx,Cy,Cz,C0,C1,C2,C3,C4,C5,C6,C7,C8,C9,Da,Db,Dc,Dd,De,Dg,Dh,Di,Dj,Dk,Dl,Dm,Dn,Dp,Dq,Dr,Ds,Dt,Du,Dv,Dw,Dx,Dy,D0,D1,D3,D4,D5,D6,D7,D8,D9,Ee,Ef,Ei,Ek,El,Em,En,Eo,Es,Et,Eu,Ev,Ew,Ex,Ey,.slice cA cn cc,E0,.int i64 (j:Int),E2,E3,E4,E5,E6,E7,E8,E9,Fa,Fb,Ff,Fg,Fh,Fi,Fj,Fk,Fl,Fm,Fn,Fp,Fs,Ft,Fu,Fv,Fx,Fy,Fz,F0,F1,F2,F3,F4,F5,F6,F7,F8,F9,Ga,Gd,Gi,Gp,Gr,Gs,Gt,Gu,Gv,Gw,Gx,Gy,Gz,G0,G1,G2,G3,G4,G5,G6,G7,G8,G9,Hb,Hc,Hd,He,Hf,Hg,Hh,Hi,Hj,Hk],[]⟩ w0:=by
 conv=>arg 2;whnf
 obtain ⟨bi,oi,hcA,hbi,q0,q1,q2,q3,q4,q5,q6,q7,q8,q9⟩:=Rd.ct hrd hjn hj
 subst hcA
 have hjz:(j:Int)<cn:=by omega
 have hjz0:(0:Int)<=j:=by omega
 obtain ⟨ca,hca⟩:∃ z,z=w0.heap.size:=⟨_,rfl⟩
 obtain ⟨W1,hW1⟩:∃ z,z=w0.alloc (.cells #[.int i64 ct.a,.int i64 ct.b,.int i64 ct.id,.int i64 ct.px,.int i64 ct.py,.int i64 ct.nx,.int i64 ct.ny,.int i64 ct.dp,.int i64 ct.ps,.int i64 ct.sl] 131):=⟨_,rfl⟩
 have HE:Hid (Below w0.heap.size w0 W1):=hid (by rw [hW1];exact (Below.refl _ _).alloc (Nat.le_refl _) _)
 have HCA:Hid (Bk W1 ca 131 #[.int i64 ct.a,.int i64 ct.b,.int i64 ct.id,.int i64 ct.px,.int i64 ct.py,.int i64 ct.nx,.int i64 ct.ny,.int i64 ct.dp,.int i64 ct.ps,.int i64 ct.sl]):=hid (by rw [hW1,hca];exact Bk.new _ _ _)
 have hcok:conOk el ct=(decide (0<=ct.a)&&decide (ct.a<en)&&decide (0<=ct.b)&&decide (ct.b<en)):=by rw [hen];rfl
 have HCO:=hid hcok
 clear hrd hj hbi hen hcok
 go_upto_region 25 with fail
 rw [<- hW1,<- hca]
 clear q0 q1 q2 q3 q4 q5 q6 q7 q8 q9 hW1 hca
 have i0:W1.cell? ⟨ca,0,none⟩=some (.int i64 ct.a):=HCA.out.cell 0
 have i1:W1.cell? ⟨ca,1,none⟩=some (.int i64 ct.b):=HCA.out.cell 1
 by_cases hbd:bd=0
 . subst hbd
   rw [if_neg (show ¬ ((0:Int)≠0) by decide)] at hN
   by_cases h1:ct.a<0
   . have t0:decide (ct.a<0)=true:=decide_eq_true h1
     rw [if_pos (by rw [HCO.out];first | (simp;omega) | simp)] at hN
     go_wp2_with fail
     all_goals (try simp only [Exit.inBlock,Exit.then])
     all_goals (first | exact HE | (apply hN;exact HE))
   . have t0:decide (ct.a<0)=false:=decide_eq_false h1
     by_cases h2:(en:Int)<=ct.a
     . have t1:decide (ct.a>=(en:Int))=true:=decide_eq_true h2
       rw [if_pos (by rw [HCO.out];first | (simp;omega) | simp)] at hN
       go_wp2_with fail
       all_goals (try simp only [Exit.inBlock,Exit.then])
       all_goals (first | exact HE | (apply hN;exact HE))
     . have t1:decide (ct.a>=(en:Int))=false:=decide_eq_false h2
       by_cases h3:ct.b<0
       . have t2:decide (ct.b<0)=true:=decide_eq_true h3
         rw [if_pos (by rw [HCO.out];first | (simp;omega) | simp)] at hN
         go_wp2_with fail
         all_goals (try simp only [Exit.inBlock,Exit.then])
         all_goals (first | exact HE | (apply hN;exact HE))
       . have t2:decide (ct.b<0)=false:=decide_eq_false h3
         by_cases h4:(en:Int)<=ct.b
         . have t3:decide (ct.b>=(en:Int))=true:=decide_eq_true h4
           rw [if_pos (by rw [HCO.out];first | (simp;omega) | simp)] at hN
           go_wp2_with fail
           all_goals (try simp only [Exit.inBlock,Exit.then])
           all_goals (first | exact HE | (apply hN;exact HE))
         . have t3:decide (ct.b>=(en:Int))=false:=decide_eq_false h4
           rw [if_neg (by rw [HCO.out];first | (simp;omega) | simp)] at hN
           go_wp2_with fail
           all_goals (try simp only [Exit.inBlock,Exit.then])
           all_goals (first | exact HE | (apply hN;exact HE))
 . rw [if_pos hbd] at hN
   have t0:(bd == 0)=false:=by simpa using hbd
   go_wp2_with fail
   all_goals (try simp only [Exit.inBlock,Exit.then])
   all_goals (first | exact HE | (apply hN;exact HE))
theorem own_setW {w:World} {base n c g i size:Nat} {e:TypeId} {xs:List Value} (h:w.ownsRow base e size (.slice (some ⟨g,0,none⟩) n c) n xs) (_hi:i<n*size) (u:Value):(w.setCell ⟨g,i,none⟩ u).ownsRow base e size (.slice (some ⟨g,0,none⟩) n c) n (xs.set i u):=by
 obtain ⟨h1,h2⟩:=h
 refine ⟨by rw [List.length_set];exact h1,?_⟩
 rcases h2 with ⟨e1,_⟩ | ⟨g',cap,cur,e1,e2,e3,e4,e5,e6,e7⟩
 . injection e1 with e1;cases e1
 . injection e1 with f1 _ f2
   injection f1 with f1
   injection f1 with f1
   subst f1
   subst f2
   have hb:Bk w g e cur:=e3
   refine .inr ⟨g,c,cur.setIfInBounds i u,rfl,e2,hb.set_ i u,e4,e5,by rw [Array.size_setIfInBounds];exact e6,?_⟩
   rw [Array.toList_setIfInBounds,List.take_set,e7]
structure FqR (v:Value) (base:Nat) (w w':World):Prop where
 low:∀ b,b<w.heap.size->some b≠v.ownBlock->w'.heap[b]?=w.heap[b]?
 kx:Kx 0 [166] w w'
 bel:Below base w w'
section
variable {v:Value} {base:Nat} {w w' w2:World}
theorem FqR.refl:FqR v base w w:=⟨fun _ _ _=>rfl,Kx.refl,Below.refl _ _⟩
theorem FqR.trans (h:FqR v base w w') (k:FqR v base w' w2):FqR v base w w2 :=
 ⟨fun b h1 h2=>(k.low b (Nat.lt_of_lt_of_le h1 h.kx.size) h2).trans (h.low b h1 h2),h.kx.trans k.kx,h.bel.trans k.bel⟩
theorem FqR.of_below (h:Below w.heap.size w w') (hb:base<=w.heap.size):FqR v base w w':=⟨fun b h1 _=>h.block b h1,Kx.of_below h,h.mono hb⟩
theorem FqR.set {n c g i:Nat} {xs:List Value} (ho:w.ownsRow base 166 2 (.slice (some ⟨g,0,none⟩) n c) n xs) (u:Value):FqR (.slice (some ⟨g,0,none⟩) n c) base w (w.setCell ⟨g,i,none⟩ u):=by
 have hlo:=(ho.lt g rfl).1
 obtain ⟨cur,hb⟩:∃ cur,Bk w g 166 cur:=by
  rcases ho.2 with ⟨e1,_⟩ | ⟨g',cap,cur,e1,_,e3,_⟩
  . injection e1 with e1;cases e1
  . injection e1 with f1
    injection f1 with f1
    injection f1 with f1
    subst f1
    exact ⟨cur,e3⟩
 refine ⟨fun b _ h2=>Below.heap_setCell _ _ _ _ (by show b≠g;rintro rfl;exact h2 rfl),Kx.refl.set hb (Nat.zero_le _) (by simp) _ _,(Below.refl _ _).setCell (p:=⟨g,i,none⟩) hlo _⟩
theorem FqR.other {base' size m:Nat} {e:TypeId} {z:Value} {xs:List Value} (h:FqR v base w w') (ho:w.ownsRow base' e size z m xs) (hne:∀ g,z.ownBlock=some g->v.ownBlock≠some g):w'.ownsRow base' e size z m xs:=by
 refine ⟨ho.1,?_⟩
 rcases ho.2 with h1 | ⟨g,cap,cur,h1,h2,h3,h4⟩
 . exact .inl h1
 . have hz:z.ownBlock=some g:=by rw [h1];rfl
   exact .inr ⟨g,cap,cur,h1,h2,(h.low g (lt_of_some h3) fun e=>hne g hz e.symm).trans h3,h4⟩
end
structure SeR (w:World) (base:Nat) (A:Option Addr) (n c:Nat) (upd:Cv->Cv) (l l1:List Cm) (k:Nat):Prop where
 own:w.ownsRow base 166 2 (.slice A n c) n (cmCs l1)
 len:l1.length=l.length
 val:l1.map Cm.p=(l.take k).map (fun c=>upd c.p)++(l.drop k).map Cm.p
 cm:∀ c∈l1,CmY w 0 c
section
variable {w w':World} {base n c k:Nat} {A:Option Addr} {upd:Cv->Cv} {l l1:List Cm} {x:Cm}
theorem SeR.at_ (h:SeR w base A n c upd l l1 k) (hx:l1[k]?=some x):∃ y,l[k]?=some y/\x.p=y.p:=by
 have hk:k<l1.length:=(List.getElem?_eq_some_iff.1 hx).1
 have hkl:k<l.length:=by rw [<- h.len];exact hk
 refine ⟨_,List.getElem?_eq_getElem hkl,?_⟩
 have e:=congrArg (fun z=>z[k]?) h.val
 simp only [List.getElem?_map,hx,Option.map_some] at e
 rw [List.getElem?_append_right (by simp;omega)] at e
 simp only [List.length_map,List.length_take,List.getElem?_map,List.getElem?_drop] at e
 rw [show k+(k-min k l.length)=k by omega,List.getElem?_eq_getElem hkl] at e
 simpa using e
theorem SeR.below (h:SeR w base A n c upd l l1 k) (hb:Below w.heap.size w w'):SeR w' base A n c upd l l1 k :=
 have hk:Kx 0 [] w w':=Kx.of_below hb
 ⟨hk.own h.own (by simp),h.len,h.val,fun z hz=>(h.cm z hz).keep hk (by simp)⟩
theorem SeR.skip (h:SeR w base A n c upd l l1 k) (hx:l1[k]?=some x) (hu:upd x.p=x.p):SeR w base A n c upd l l1 (k+1):=by
 obtain ⟨y,hy,e⟩:=h.at_ hx
 refine ⟨h.own,h.len,?_,h.cm⟩
 have h1:=map_set_take (f:=fun c:Cm=>upd c.p) (g:=Cm.p) h.val hy
 rw [<- h1]
 have e2:upd y.p=x.p:=by rw [<- e];exact hu
 show _=(l1.map Cm.p).set k (upd y.p)
 rw [e2]
 have h3:(l1.map Cm.p)[k]?=some x.p:=by rw [List.getElem?_map,hx];rfl
 exact (List.set_getElem_self' h3).symm
theorem SeR.put {g c' B:Nat} {A':Option Addr} {fv:List Int} {F:List TypeId} (h:SeR w base (some ⟨g,0,none⟩) n c upd l l1 k) (hx:l1[k]?=some x) (hn:n=l.length) (hu:upd x.p=(x.k,fv)) (hk:Kx B F w w') (hF:(166:TypeId) ∉ F) (hF3:(3:TypeId) ∉ F)
 (hc:CmY w' 0 ⟨x.k,A',fv.length,c',fv⟩):SeR (w'.setCell ⟨g,k*2+1,none⟩ (.slice A' fv.length c')) base (some ⟨g,0,none⟩) n c upd l (l1.set k ⟨x.k,A',fv.length,c',fv⟩) (k+1):=by
 obtain ⟨y,hy,e⟩:=h.at_ hx
 have ho:=hk.own h.own hF
 have hkl:k<l1.length:=(List.getElem?_eq_some_iff.1 hx).1
 have hkx:=(FqR.set (i:=k*2+1) ho (.slice A' fv.length c')).kx
 refine ⟨?_,by rw [List.length_set];exact h.len,?_,fun z hz=>?_⟩
 . rw [<- cmCs_set (y:=⟨x.k,A',fv.length,c',fv⟩) hx rfl]
   exact own_setW ho (by have:=h.len;omega) _
 . rw [List.map_set]
   have e2:(⟨x.k,A',fv.length,c',fv⟩:Cm).p=upd y.p:=by rw [<- e,hu];rfl
   rw [e2]
   exact map_set_take (f:=fun c:Cm=>upd c.p) (g:=Cm.p) h.val hy
 . rcases List.mem_or_eq_of_mem_set hz with hz | rfl
   . exact ((h.cm z hz).keep (hk.mono (Nat.zero_le _) (fun _ h=>h)) hF3).keep hkx (by decide)
   . exact hc.keep hkx (by decide)
end
structure OutR (w:World) (base:Nat) (y:Wd):Prop where
 wd:WdY w 0 y
 sp:ItR w base y.its
theorem OutR.keep {w w':World} {base:Nat} {y:Wd} {F:List TypeId} (h:OutR w base y) (hk:Kx 0 F w w') (h3:(3:TypeId) ∉ F) (h166:(166:TypeId) ∉ F) (h147:(147:TypeId) ∉ F) (h66:(66:TypeId) ∉ F) (h63:(63:TypeId) ∉ F):OutR w' base y :=
 ⟨h.wd.keep hk h3 h166 h147 h66 h63,h.sp.keep hk h166⟩
theorem OutR.below {w w':World} {base:Nat} {y:Wd} (h:OutR w base y) (hb:Below w.heap.size w w'):OutR w' base y:=h.keep (F:=[]) (Kx.of_below hb) (by simp) (by simp) (by simp) (by simp) (by simp)
theorem ItR.ne {w:World} {base k j g g':Nat} {l:List It} {x z:It} (h:ItR w base l) (hk:l[k]?=some x) (hj:l[j]?=some z) (hne:j≠k) (hg:(Value.slice x.A x.n x.c).ownBlock=some g) (hg':(Value.slice z.A z.n z.c).ownBlock=some g'):g'≠g:=by
 obtain ⟨hk1,hk2⟩:=List.getElem?_eq_some_iff.1 hk
 obtain ⟨hj1,hj2⟩:=List.getElem?_eq_some_iff.1 hj
 have hp:=List.pairwise_iff_getElem.1 h.apart
 rcases Nat.lt_or_gt_of_ne hne with h1 | h1
 . exact hp j k hj1 hk1 h1 g' g (by rw [hj2];exact hg') (by rw [hk2];exact hg)
 . exact (hp k j hk1 hj1 h1 g g' (by rw [hk2];exact hg) (by rw [hj2];exact hg')).symm
theorem OutR.set_ {w w':World} {base k:Nat} {upd:Cv->Cv} {y:Wd} {x:It} {l':List Cm} (h:OutR w base y) (hx:y.its[k]?=some x) (hS:SeR w' base x.A x.n x.c upd x.cms l' x.cms.length) (hq:FqR (.slice x.A x.n x.c) base w w') :
 OutR w' base { y with its:=y.its.set k { x with cms:=l' } }/\(y.its.set k { x with cms:=l' }).map It.p=(y.its.map It.p).set k (x.p.1,x.p.2.map upd):=by
 obtain ⟨hk1,hk2⟩:=List.getElem?_eq_some_iff.1 hx
 have hmem:=List.mem_of_getElem? hx
 have hk:=hq.kx
 have hoth:∀ j z,y.its[j]?=some z->j≠k->w'.ownsRow base 166 2 (.slice z.A z.n z.c) z.n (cmCs z.cms):=fun j z hz hjk =>
  hq.other (h.sp.row z (List.mem_of_getElem? hz)) fun g hg hg'=>h.sp.ne hx hz hjk hg' hg rfl
 have hval:l'.map Cm.p=x.cms.map fun c=>upd c.p:=by
  have:=hS.val
  simpa using this
 have hrow:∀ z∈y.its.set k { x with cms:=l' },w'.ownsRow base 166 2 (.slice z.A z.n z.c) z.n (cmCs z.cms):=fun z hz=>by
  obtain ⟨j,hj⟩:=List.getElem?_of_mem hz
  by_cases hjk:j=k
  . subst hjk
    rw [List.getElem?_set_self hk1] at hj
    injection hj with hj
    subst hj
    exact hS.own
  . rw [List.getElem?_set_ne (Ne.symm hjk)] at hj
    exact hoth j z hj hjk
 have hity:∀ z∈y.its.set k { x with cms:=l' },ItY w' 0 z:=fun z hz=>by
  have hr:=hrow z hz
  obtain ⟨j,hj⟩:=List.getElem?_of_mem hz
  by_cases hjk:j=k
  . subst hjk
    rw [List.getElem?_set_self hk1] at hj
    injection hj with hj
    subst hj
    have hi:=h.wd.its.ok x hmem
    exact ⟨⟨RdY.of_own hr,hi.cs.len.trans hS.len.symm,hi.cs.cap,hi.cs.cap2,hS.cm⟩,hi.wf1,hi.wf2⟩
  . rw [List.getElem?_set_ne (Ne.symm hjk)] at hj
    have hi:=h.wd.its.ok z (List.mem_of_getElem? hj)
    exact ⟨⟨RdY.of_own hr,hi.cs.len,hi.cs.cap,hi.cs.cap2,fun c hc=>(hi.cs.ok c hc).keep hk (by decide)⟩,hi.wf1,hi.wf2⟩
 refine ⟨⟨⟨h.wd.ks.keep hk (by decide) (by decide),h.wd.gs.keep hk (by decide),⟨?_,by rw [List.length_set];exact h.wd.its.len,h.wd.its.cap,h.wd.its.cap2,hity⟩⟩,⟨hrow,?_⟩⟩,?_⟩
 . show RdY w' 0 147 3 y.iA y.im (itCs (y.its.set k { x with cms:=l' }))
   rw [itCs_set (z:={ x with cms:=l' }) hx rfl]
   exact h.wd.its.rd.keep hk (by decide)
 . have ha:(y.its.set k { x with cms:=l' }).map (fun z=>Value.slice z.A z.n z.c)=y.its.map fun z=>Value.slice z.A z.n z.c:=by
    rw [List.map_set]
    exact List.set_getElem_self' (by rw [List.getElem?_map,hx];rfl)
   have hp:(y.its.map fun z=>Value.slice z.A z.n z.c).Pairwise fun a b=>∀ g g',a.ownBlock=some g->b.ownBlock=some g'->g≠g':=List.pairwise_map.2 h.sp.apart
   rw [<- ha] at hp
   exact List.pairwise_map.1 hp
 . rw [List.map_set]
   congr 1
   show ((x.e,x.g),l'.map Cm.p)=_
   rw [hval]
   show _=((x.e,x.g),(x.cms.map Cm.p).map upd)
   rw [List.map_map]
   rfl
def heldE (v:Value):Option (DataW Value × List MemPlace):=some (.held v,[])
def MpV (w:World) (b n:Nat) (f:Int->Option Value):Prop :=
 ∃ D:DataW Value,w.ownsMap Try.prog 3 heldE b n D/\∀ (k:Int) (z:DataW Value),D.atKey (.int i64 k) z=match f k with | some v=>.held v | none=>z
theorem MpV.made (w:World):MpV (w.alloc (.map #[] 0)) w.heap.size 0 fun _=>none :=
 ⟨.map [],World.ownsMap_made w Try.prog 3 _,fun _ _=>rfl⟩
theorem MpV.lt {w:World} {b n:Nat} {f:Int->Option Value} (h:MpV w b n f):b<w.heap.size:=by
 obtain ⟨D,h1,_⟩:=h
 exact h1.lt
theorem MpV.obj {w:World} {b n:Nat} {f:Int->Option Value} (h:MpV w b n f):∃ es clock,w.heap[b]?=some (.map es clock):=by
 obtain ⟨D,⟨es,clock,h1,_⟩,_⟩:=h
 exact ⟨es,clock,h1⟩
theorem MpV.kept {w w':World} {b n:Nat} {f:Int->Option Value} (h:MpV w b n f) (hb:w'.heap[b]?=w.heap[b]?):MpV w' b n f:=by
 obtain ⟨D,⟨es,clock,h1,h2⟩,h3⟩:=h
 exact ⟨D,⟨es,clock,hb.trans h1,h2⟩,h3⟩
theorem held_inj {a b:Value} (h:(DataW.held a:DataW Value)=.held b):a=b:=by
 injection h with h
theorem MpV.look {w:World} {b n:Nat} {f:Int->Option Value} (h:MpV w b n f) {t:TypeId} (ht:Try.prog.underlying t=some (.map 3 30)) {k:Int} (hk:(Lit.int i64 k).wf=true) (wx:World) (hx:wx.heap[b]?=w.heap[b]?) :
 (Instr.lookup t (.map (some b)) (.int i64 k) true).run Try.prog wx=.ok (.tuple #[(f k).getD (.slice none 0 0),.bool (f k).isSome]) wx:=by
 obtain ⟨D,⟨es,clock,h1,h2,_,hD⟩,h3⟩:=h
 have hz:(zeroValue 30).run Try.prog wx=.ok (.slice none 0 0) wx:=by kernel_rfl
 subst hD
 rcases Maps.fit_look true (Maps.int_keyed Try.underlying3) ht hz (hx.trans h1) h2 (Maps.keyOf_int_mk Try.underlying3 hk) with ⟨hrun,_,hat⟩ | ⟨e0,y,_,_,hrun,hRv,hat,_⟩
 . rw [hrun]
   cases hf:f k with
   | none=>rfl
   | some v =>
     have e:=(h3 k .nil).symm.trans (hat _)
     rw [hf] at e
     cases e
 . have hy:y=(.held e0.val,[]):=by
    have h4:some (DataW.held e0.val,[])=some y:=hRv
    injection h4 with h4
    exact h4.symm
   rw [hrun]
   cases hf:f k with
   | none =>
     have e1:=(h3 k .nil).symm.trans (hat _)
     rw [hf,hy] at e1
     cases e1
   | some v =>
     have e1:=(h3 k .nil).symm.trans (hat _)
     rw [hf,hy] at e1
     have e2:=held_inj e1
     rw [e2]
     rfl
theorem MpV.put {w:World} {b n:Nat} {f:Int->Option Value} (h:MpV w b n f) {t:TypeId} (ht:Try.prog.underlying t=some (.map 3 30)) (hn:n<maxLen) {k:Int} {v:Value} (hk:(Lit.int i64 k).wf=true) :
 ∃ w',(Instr.mapUpdate t (.map (some b)) (.int i64 k) v).run Try.prog w=.ok () w'/\MpV w' b (n+1) (fun j=>if j=k then some v else f j)/\w.grownBy w' (some b):=by
 obtain ⟨D,h1,h3⟩:=h
 obtain ⟨w',hr,ho,hg⟩:=h1.update (Maps.int_keyed Try.underlying3) ht hn (Maps.keyOf_int_mk Try.underlying3 hk) (R:=heldE) (val:=v) rfl
 refine ⟨w',hr,⟨_,ho,fun j z=>?_⟩,hg⟩
 have hD:Maps.IsMap D:=by obtain ⟨es,clock,_,_,_,rfl⟩:=h1;exact ⟨_,rfl⟩
 dsimp only
 by_cases hj:j=k
 . subst hj
   rw [if_pos rfl,Maps.atKey_put_same (k:=.int i64 j) hD trivial]
 . rw [if_neg hj,Maps.atKey_put_other (by intro e;injection e with _ e;exact hj e),h3]
end Go.Proofs.Ytnidcmhfbkdioaa
