/-
  The walk of BridgeWorlds. Conditions: what is read can be read; what memory holds.
-/
import Derived.Test.YtnidcmhfbkdioaaSw51
import Derived.Test.YtnidcmhfbkdioaaSw34
namespace Go.Proofs.Ytnidcmhfbkdioaa
open Go.RowKit
open Go.IntKind (i64)
open Go.Lib (hid)
set_option maxRecDepth 100000
theorem BwH.fresh {w wx w':World} {hw hs en ec bn bc:Nat} {y:Wd} {eA bA:Option Addr} {el:List (Int × Int)} {bl:List By} {VJ VC VG VH VS:Value} (h:BwH w wx hw hs y eA en ec el bA bn bc bl VJ VC VG VH VS) (hb:Below wx.heap.size wx w'):BwH w w' hw hs y eA en ec el bA bn bc bl VJ VC VG VH VS :=
 ⟨h.wb.bel hb,h.sb.bel hb,h.ok.fresh hb,h.kz,(h.er.below hb).more hb.size,h.el_,h.ec1,h.ec2,(h.br.below hb).more hb.size,h.bl_,h.bc1,h.bc2,h.bel.trans (hb.mono h.bel.size)⟩
set_option maxHeartbeats 16000000 in
theorem bridgeWorlds_any {w:World} {ln lc xn xc bn0 bc0 jn jc cn cc en0 ec0:Nat} {lA xA bA0 jA cA eA0:Option Addr} {ls xs:List Int} {x:Wd} {bl0:List By} {cl:List Ct} {el0:List (Int × Int)} {gx gy st:Int}
 (h:WdOk w w.heap.size x) (hkz:∀ k∈x.ks,k.n*32<=140737488351232)
 (hl:Rd w w.heap.size 1 lA ln (ls.map (Value.int .i64))) (hln:ln=ls.length) (hlc:ln<=lc) (hlc2:lc<=9223372036854775807) (hlz:∀ z∈ls,(Lit.int i64 z).wf=true)
 (hx:Rd w w.heap.size 1 xA xn (xs.map (Value.int .i64))) (hxn:xn=xs.length) (hxc:xn<=xc) (hxc2:xc<=9223372036854775807) (hxz:∀ z∈xs,(Lit.int i64 z).wf=true)
 (hS:SceW w bA0 bn0 bc0 bl0 cA cn cc cl)
 (hel:en0=el0.length) (hec:en0<=ec0) (hec2:ec0<=9223372036854775807) (her:Rd w w.heap.size 2 eA0 en0 (enCs el0)) :
 Calls Try.prog 13 #[x.v,.slice lA ln lc,.slice xA xn xc,.agg #[.slice bA0 bn0 bc0,.slice jA jn jc,.slice cA cn cc,.int i64 gx,.int i64 gy,.int i64 st],.slice eA0 en0 ec0] w fun e w'=>e=.returned (.bool true)/\Below w.heap.size w w':=by
 obtain ⟨W0,hW0⟩:∃ z,z=(w.alloc (.cells #[.slice x.kA x.kn x.kc,.slice x.gA x.gn x.gc,.slice x.iA x.im x.ic] 52)).alloc (.cells #[.slice bA0 bn0 bc0,.slice jA jn jc,.slice cA cn cc,.int i64 gx,.int i64 gy,.int i64 st] 115):=⟨_,rfl⟩
 have HB0:Hid (Below w.heap.size w W0):=hid (by rw [hW0];exact Below.al (Below.al (Below.refl _ _) _) _)
 obtain ⟨hw,hhw⟩:∃ z,z=w.heap.size:=⟨_,rfl⟩
 obtain ⟨hs,hhs⟩:∃ z,z=w.heap.size+1:=⟨_,rfl⟩
 have HWB:Hid (Bk W0 hw 52 #[.slice x.kA x.kn x.kc,.slice x.gA x.gn x.gc,.slice x.iA x.im x.ic]):=hid (by rw [hW0,hhw];exact (Bk.new _ _ _).alloc _)
 have HSB:Hid (Bk W0 hs 115 #[.slice bA0 bn0 bc0,.slice jA jn jc,.slice cA cn cc,.int i64 gx,.int i64 gy,.int i64 st]):=hid (by rw [hW0,hhs];exact Bk.two _ _ _ _)
 have HHW:Hid (w.heap.size<=hw/\w.heap.size<=hs):=hid (by omega)
 have HX:Hid (WdOk w w.heap.size x/\∀ k∈x.ks,k.n*32<=140737488351232):=hid ⟨h,hkz⟩
 have HL:=hid (And.intro hl (And.intro hln (And.intro hlc (And.intro hlc2 hlz))))
 have HXS:=hid (And.intro hx (And.intro hxn (And.intro hxc (And.intro hxc2 hxz))))
 have HSC:=hid hS
 have HEE:Hid (en0=el0.length/\en0<=ec0/\ec0<=9223372036854775807/\Rd w w.heap.size 2 eA0 en0 (enCs el0)):=hid ⟨hel,hec,hec2,her⟩
 have hcc:cn<=cc:=hS.hcc
 have hcc2:cc<=9223372036854775807:=hS.hcc2
 clear h hkz hl hln hlc hlc2 hlz hx hxn hxc hxc2 hxz hS hel hec hec2 her
 show Calls Try.prog 13 #[.agg #[.slice x.kA x.kn x.kc,.slice x.gA x.gn x.gc,.slice x.iA x.im x.ic],.slice lA ln lc,.slice xA xn xc,.agg #[.slice bA0 bn0 bc0,.slice jA jn jc,.slice cA cn cc,.int i64 gx,.int i64 gy,.int i64 st],.slice eA0 en0 ec0] w _
 go_enter Try.func13,Try.ntmps13
 go_upto_if 26 with fail
 rw [<- hW0,<- hhs,<- hhw]
 clear hW0 hhs hhw
 go_cut [4] from 26 to 58 (fun ev wx=>∃ (y:Wd) (eA bA:Option Addr) (en ec bn bc:Nat) (el:List (Int × Int)) (bl:List By),ev=.slice eA en ec/\Hid (BwH w wx hw hs y eA en ec el bA bn bc bl (.slice jA jn jc) (.slice cA cn cc) (.int i64 gx) (.int i64 gy) (.int i64 st)))
 case first =>
  by_cases h0:ln=0
  . have h0z:¬ ((ln:Int) > 0):=by omega
    have HF:Hid (BwH w W0 hw hs x eA0 en0 ec0 el0 bA0 bn0 bc0 bl0 (.slice jA jn jc) (.slice cA cn cc) (.int i64 gx) (.int i64 gy) (.int i64 st)):=hid
     ⟨HWB.out,HSB.out,HX.out.1.fresh HB0.out,fun k hk=>by have h1:=HX.out.2 k hk;omega,(HEE.out.2.2.2.below HB0.out).more HB0.out.size,HEE.out.1,HEE.out.2.1,HEE.out.2.2.1,(HSC.out.hbr.below HB0.out).more HB0.out.size,HSC.out.hbl,HSC.out.hbc,HSC.out.hbc2,HB0.out⟩
    clear h0
    go_wp2_with fail
    go_meet
    case rel=>exact ⟨x,eA0,bA0,en0,ec0,bn0,bc0,el0,bl0,rfl,HF⟩
  . have h0z:(ln:Int) > 0:=by omega
    clear h0
    first
     | (refine bwHead_any HL.out.1 HL.out.2.1 HL.out.2.2.1 HL.out.2.2.2.1 HL.out.2.2.2.2 HXS.out.1 HXS.out.2.1 HXS.out.2.2.1 HXS.out.2.2.2.1 HXS.out.2.2.2.2 HB0.out HWB.out HSB.out HHW.out.1 HHW.out.2 HSC.out.hbr HSC.out.hbl HSC.out.hbz ?_)
     | (go_step;refine bwHead_any HL.out.1 HL.out.2.1 HL.out.2.2.1 HL.out.2.2.2.1 HL.out.2.2.2.2 HXS.out.1 HXS.out.2.1 HXS.out.2.2.1 HXS.out.2.2.2.1 HXS.out.2.2.2.2 HB0.out HWB.out HSB.out HHW.out.1 HHW.out.2 HSC.out.hbr HSC.out.hbl HSC.out.hbz ?_)
     | (go_step;go_step;refine bwHead_any HL.out.1 HL.out.2.1 HL.out.2.2.1 HL.out.2.2.2.1 HL.out.2.2.2.2 HXS.out.1 HXS.out.2.1 HXS.out.2.2.1 HXS.out.2.2.2.1 HXS.out.2.2.2.2 HB0.out HWB.out HSB.out HHW.out.1 HHW.out.2 HSC.out.hbr HSC.out.hbl HSC.out.hbz ?_)
     | (go_step;go_step;go_step;refine bwHead_any HL.out.1 HL.out.2.1 HL.out.2.2.1 HL.out.2.2.2.1 HL.out.2.2.2.2 HXS.out.1 HXS.out.2.1 HXS.out.2.2.1 HXS.out.2.2.2.1 HXS.out.2.2.2.2 HB0.out HWB.out HSB.out HHW.out.1 HHW.out.2 HSC.out.hbr HSC.out.hbl HSC.out.hbz ?_)
    intros
    rename_i y E n ec el bA' bc' bl' w9 H9
    clear HWB HSB HB0
    go_wp2_with fail
    go_meet
    case rel=>exact ⟨y,E,bA',n,ec,n,bc',el,bl',rfl,H9⟩
 case rest =>
  obtain ⟨y,eA,bA,en,ec,bn,bc,el,bl,rfl,HY⟩:=hcut
  clear HWB HSB HX HL HXS HB0 HEE
  obtain ⟨w1,rfl⟩:∃ q,q=wc:=⟨_,rfl⟩
  obtain ⟨⟨⟨m0,m1,m2⟩,mv⟩,hmv⟩:∃ z,z=mapF (y.ks.map Kd.p):=⟨_,rfl⟩
  obtain ⟨cv,hcv⟩:∃ z,z=wcheckF y.p:=⟨_,rfl⟩
  have HMV:=hid hmv
  have HCV:=hid hcv
  have HVW:Hid (cv=0->checkF y.p.ks=0/\VW holdK y.p):=hid fun h1=>vw_of (hcv.symm.trans h1)
  have HCR:Hid (∀ wx,Below w1.heap.size w1 wx->Rd wx wx.heap.size 10 cA cn (ctCs cl)):=hid fun wx hb=>by
   have hb2:=HY.out.bel.trans (hb.mono HY.out.bel.size)
   exact (HSC.out.hcr.below hb2).more hb2.size
  have HBW:Hid (Calls Try.prog 66 #[y.v,.agg #[.slice bA bn bc,.slice jA jn jc,.slice cA cn cc,.int i64 gx,.int i64 gy,.int i64 st],.slice eA en ec] w1 (BwP w1 cv mv en bn m0 m1 (kdAt y.p.ks m0) (kdAt y.p.ks m1) y.p (el.zip bl) el cl)):=hid
   (bworld_any HY.out.ok HY.out.br HY.out.bl_ HY.out.bc1 HY.out.bc2 (HCR.out w1 (Below.refl _ _)) HSC.out.hcl hcc hcc2 (by have:=HSC.out.hcz;omega) HY.out.er HY.out.el_ HY.out.ec1 HY.out.ec2 hcv hmv.symm (fun h1=>small_of (HVW.out h1).1 (HVW.out h1).2) (fun h1 h2=>PlOk.of_valid (HVW.out h1).2 (HVW.out h1).1 (by rw [<- h2];exact hmv.symm)) (fun _ h2=>mapF_kd (by rw [<- h2];exact hmv.symm)))
  have HBO:Hid (∀ w:World,Calls Try.prog 21 #[] w fun e w'=>e=.returned (.bool true)/\Below w.heap.size w w'):=hid bodies_say
  clear hmv hcv
  have q0:w1.cell? ⟨hw,0,none⟩=some (.slice y.kA y.kn y.kc):=HY.out.wb.cell 0
  have q1:w1.cell? ⟨hw,1,none⟩=some (.slice y.gA y.gn y.gc):=HY.out.wb.cell 1
  have q2:w1.cell? ⟨hw,2,none⟩=some (.slice y.iA y.im y.ic):=HY.out.wb.cell 2
  have p0:w1.cell? ⟨hs,0,none⟩=some (.slice bA bn bc):=HY.out.sb.cell 0
  have p1:w1.cell? ⟨hs,1,none⟩=some (.slice jA jn jc):=HY.out.sb.cell 1
  have p2:w1.cell? ⟨hs,2,none⟩=some (.slice cA cn cc):=HY.out.sb.cell 2
  have p3:w1.cell? ⟨hs,3,none⟩=some (.int i64 gx):=HY.out.sb.cell 3
  have p4:w1.cell? ⟨hs,4,none⟩=some (.int i64 gy):=HY.out.sb.cell 4
  have p5:w1.cell? ⟨hs,5,none⟩=some (.int i64 st):=HY.out.sb.cell 5
  go_wp2_with fail
  clear q0 q1 q2 p0 p1 p2 p3 p4 p5
  show Calls Try.prog 66 #[y.v,.agg #[.slice bA bn bc,.slice jA jn jc,.slice cA cn cc,.int i64 gx,.int i64 gy,.int i64 st],.slice eA en ec] w1 _
  (with_reducible refine HBW.out.mono ?_)
  rintro e w2 hP
  obtain ⟨hb2,G,QA,qn,qc,E,rfl,HS⟩:=hP.says HY.out.el_ HY.out.bl_
  have HY2:=hid (HY.out.fresh hb2)
  have HCR2:Hid (∀ wx,Below w2.heap.size w2 wx->Rd wx wx.heap.size 10 cA cn (ctCs cl)):=hid fun wx hb=>HCR.out wx (hb2.trans (hb.mono hb2.size))
  clear hP hb2 HY HCR HBW
  simp only [Wd.v]
  obtain ⟨gA3,hgA3⟩:∃ z,z=w2.heap.size:=⟨_,rfl⟩
  obtain ⟨w3,hw3⟩:∃ z,z=w2.alloc (.cells #[.slice G.kA G.kn G.kc,.slice G.gA G.gn G.gc,.slice G.iA G.im G.ic] 52):=⟨_,rfl⟩
  have hb3:Below w2.heap.size w2 w3:=by rw [hw3];exact (Below.refl _ _).alloc (Nat.le_refl _) _
  have HG3:Hid (Bk w3 gA3 52 #[.slice G.kA G.kn G.kc,.slice G.gA G.gn G.gc,.slice G.iA G.im G.ic]):=hid (by rw [hw3,hgA3];exact Bk.new _ _ _)
  have HY3:=hid (HY2.out.fresh hb3)
  have HCR3:Hid (∀ wx,Below w3.heap.size w3 wx->Rd wx wx.heap.size 10 cA cn (ctCs cl)):=hid fun wx hb=>HCR2.out wx (hb3.trans (hb.mono hb3.size))
  have HB23:=hid hb3
  clear hb3 HY2 HCR2
  go_upto_region 9 with fail
  rw [<- hw3,<- hgA3]
  clear hw3 hgA3
  have q0:w3.cell? ⟨hw,0,none⟩=some (.slice y.kA y.kn y.kc):=HY3.out.wb.cell 0
  have q1:w3.cell? ⟨hw,1,none⟩=some (.slice y.gA y.gn y.gc):=HY3.out.wb.cell 1
  have q2:w3.cell? ⟨hw,2,none⟩=some (.slice y.iA y.im y.ic):=HY3.out.wb.cell 2
  have HCK:Hid (Calls Try.prog 32 #[y.v] w3 fun e w'=>e=.returned (.int i64 cv)/\Below w3.heap.size w3 w'):=hid (by rw [HCV.out];exact wcheck_any HY3.out.ok)
  go_wp2_with fail
  clear q0 q1 q2
  show Calls Try.prog 32 #[y.v] w3 _
  (with_reducible refine HCK.out.mono ?_)
  rintro e w4 ⟨rfl,hb4⟩
  have HB4:Hid (Below w3.heap.size w3 w4):=hid hb4
  clear hb4 HCK
  obtain ⟨b1,hb1⟩:∃ z,z=if cv≠0 then cv else mv:=⟨_,rfl⟩
  obtain ⟨b2,hb2⟩:∃ z,z=lwB2 cv mv en bn:=⟨_,rfl⟩
  have HB12:Hid (b1=(if cv≠0 then cv else mv)/\b2=lwB2 cv mv en bn/\b2=if b1≠0 then b1 else if en≠bn then 1 else 0):=hid ⟨hb1,hb2,by rw [hb2,hb1];exact lwB2_of cv mv en bn⟩
  clear hb1 hb2
  go_upto_if 69 with fail
  go_cut [14] from 69 to 76 (fun bv wx=>bv=.int i64 b1/\Hid (Below w3.heap.size w3 wx))
  case first =>
   by_cases hc:cv=0
   . have hb1:b1=mv:=by rw [HB12.out.1,if_neg (by simp [hc])]
     have t0:(cv == 0)=true:=by simp [hc]
     have HMF:Hid (Calls Try.prog 20 #[.slice y.kA y.kn y.kc] w4 (OfP w4 ((m0,m1,m2),mv))):=hid (by
      have h1:=mapFault_says (HY3.out.fresh HB4.out).ok.ks
      rw [<- HMV.out] at h1
      exact h1)
     have q0:w4.cell? ⟨hw,0,none⟩=some (.slice y.kA y.kn y.kc):=(HY3.out.wb.bel HB4.out).cell 0
     have HM1:=hid hb1
     clear hc hb1
     go_wp2_with fail
     (with_reducible refine HMF.out.mono ?_)
     rintro e w5 ⟨rfl,hb5⟩
     have HB5:Hid (Below w3.heap.size w3 w5):=hid (HB4.out.trans (hb5.mono HB4.out.size))
     clear hb5 q0 HMF
     dsimp only
     go_wp2_with fail
     go_meet
     case rel=>exact ⟨by rw [HM1.out],HB5⟩
   . have hb1:b1=cv:=by rw [HB12.out.1,if_pos hc]
     have t0:(cv == 0)=false:=by simpa using hc
     have HM1:=hid hb1
     clear hc hb1
     go_wp2_with fail
     go_meet
     case rel=>exact ⟨by rw [HM1.out],HB4⟩
  case rest =>
   obtain ⟨rfl,HB5⟩:=hcut
   clear HB4
   obtain ⟨w5,rfl⟩:∃ q,q=wc:=⟨_,rfl⟩
   go_step
   go_step
   go_cut [14] from 76 to 86 (fun bv wx=>bv=.int i64 b2/\Hid (Below w3.heap.size w3 wx))
   case first =>
    by_cases hc:b1=0
    . have t0:(b1 == 0)=true:=by simp [hc]
      have p0:w5.cell? ⟨hs,0,none⟩=some (.slice bA bn bc):=(HY3.out.sb.bel HB5.out).cell 0
      by_cases hne:en=bn
      . have hb2:b2=0:=by rw [HB12.out.2.2,if_neg (by simp [hc]),if_neg (by simp [hne])]
        have hnez:(en:Int)=bn:=by omega
        have t1:((en:Int) != (bn:Int))=false:=by rw [hnez];exact bne_self_eq_false _
        have HM1:Hid (b2=b1):=hid (hb2.trans hc.symm)
        clear hc hb2 hne hnez
        go_wp2_with fail
        go_meet
        case rel=>exact ⟨by rw [HM1.out],HB5⟩
      . have hb2:b2=1:=by rw [HB12.out.2.2,if_neg (by simp [hc]),if_pos hne]
        have hnez:¬ ((en:Int)=bn):=by omega
        have t1:((en:Int) != (bn:Int))=true:=bne_iff_ne.2 hnez
        have HM1:=hid hb2
        clear hc hb2 hne
        go_wp2_with fail
        go_meet
        case rel=>exact ⟨by rw [HM1.out],HB5⟩
    . have hb2:b2=b1:=by rw [HB12.out.2.2,if_pos hc]
      have t0:(b1 == 0)=false:=by simpa using hc
      have HM1:=hid hb2
      clear hc hb2
      go_wp2_with fail
      go_meet
      case rel=>exact ⟨by rw [HM1.out],HB5⟩
   case rest =>
    obtain ⟨rfl,HB6⟩:=hcut
    clear HB5
    obtain ⟨w6,rfl⟩:∃ q,q=wc:=⟨_,rfl⟩
    have HY6:=hid (HY3.out.fresh HB6.out)
    obtain ⟨a0,ha0⟩:∃ z,z=(spec (y.ks.map Kd.p) sp0).1:=⟨_,rfl⟩
    obtain ⟨a1,ha1⟩:∃ z,z=(spec (y.ks.map Kd.p) sp1).1:=⟨_,rfl⟩
    obtain ⟨a2,ha2⟩:∃ z,z=(spec (y.ks.map Kd.p) sp2).1:=⟨_,rfl⟩
    obtain ⟨a3,ha3⟩:∃ z,z=(spec (y.ks.map Kd.p) sp3).1:=⟨_,rfl⟩
    obtain ⟨a4,ha4⟩:∃ z,z=(spec (y.ks.map Kd.p) sp4).1:=⟨_,rfl⟩
    have HSX:Hid (spX (y.ks.map Kd.p)=.agg #[.int i64 a0,.int i64 a1,.int i64 a2,.int i64 a3,.int i64 a4]):=hid (by unfold spX;rw [ha0,ha1,ha2,ha3,ha4])
    have HA0:Hid (b2=0->a0=m0/\a1=m1/\(a0=a1->a0<0)/\(Lit.int i64 a0).wf=true/\(Lit.int i64 a1).wf=true):=hid fun hz=>by
     obtain ⟨h1,h2,_⟩:=lwB2_ok (HB12.out.2.1.symm.trans hz)
     obtain ⟨s0,s1,_⟩:=mapF_ok (show mapF (y.ks.map Kd.p)=((m0,m1,m2),0) by rw [<- h2];exact HMV.out.symm)
     have e0:a0=m0:=by rw [ha0,s0]
     have e1:a1=m1:=by rw [ha1,s1]
     have hk:(y.ks.map Kd.p).length<=9223372036854775807:=by
      rw [List.length_map,<- HY6.out.ok.ks.len]
      exact Nat.le_trans HY6.out.ok.ks.cap HY6.out.ok.ks.cap2
     refine ⟨e0,e1,?_,?_,?_⟩
     . rw [e0,e1];exact spec_ne s0 s1
     . rw [e0];exact spec_wf s0 hk
     . rw [e1];exact spec_wf s1 hk
    obtain ⟨c0,c1,c2,c3,c4,HSP⟩:∃ c0 c1 c2 c3 c4:Bool,Hid (Calls Try.prog 67 #[.slice y.kA y.kn y.kc] w6 fun e w'=>e=.returned (.tuple #[.agg #[.int i64 a0,.int i64 a1,.int i64 a2,.int i64 a3,.int i64 a4],.agg #[.bool c0,.bool c1,.bool c2,.bool c3,.bool c4]])/\Below w6.heap.size w6 w'):=by
     have h1:=specialL_any HY6.out.ok.ks HY6.out.kz
     unfold SpecP at h1
     rw [HSX.out] at h1
     exact ⟨_,_,_,_,_,hid h1⟩
    clear ha0 ha1 ha2 ha3 ha4
    have q0:w6.cell? ⟨hw,0,none⟩=some (.slice y.kA y.kn y.kc):=HY6.out.wb.cell 0
    go_wp2_with fail
    (with_reducible refine HSP.out.mono ?_)
    rintro e w7 ⟨rfl,hb7⟩
    have HB7:Hid (Below w3.heap.size w3 w7):=hid (HB6.out.trans (hb7.mono HB6.out.size))
    clear q0 hb7 HSP HB6 HY6
    go_upto_region 15 with fail
    obtain ⟨aA,haA⟩:∃ z,z=w7.heap.size:=⟨_,rfl⟩
    obtain ⟨W8,hW8⟩:∃ z,z=(w7.alloc (.cells #[.int i64 a0,.int i64 a1,.int i64 a2,.int i64 a3,.int i64 a4] 141)).alloc (.cells #[.bool c0,.bool c1,.bool c2,.bool c3,.bool c4] 142):=⟨_,rfl⟩
    rw [<- hW8,<- haA]
    have hb8:Below w7.heap.size w7 W8:=by rw [hW8];exact ((Below.refl _ _).alloc (Nat.le_refl _) _).alloc (by simp) _
    have HAA:Hid (Bk W8 aA 141 #[.int i64 a0,.int i64 a1,.int i64 a2,.int i64 a3,.int i64 a4]):=hid (by rw [hW8,haA];exact (Bk.new _ _ _).alloc _)
    have HB8:Hid (Below w3.heap.size w3 W8):=hid (HB7.out.trans (hb8.mono HB7.out.size))
    have HY8:=hid (HY3.out.fresh HB8.out)
    have HG8:=hid (HG3.out.bel HB8.out)
    have HCR8:Hid (∀ wx,Below W8.heap.size W8 wx->Rd wx wx.heap.size 10 cA cn (ctCs cl)):=hid fun wx hb=>HCR3.out wx (HB8.out.trans (hb.mono HB8.out.size))
    have HB28:Hid (Below w2.heap.size w2 W8):=hid (HB23.out.trans (HB8.out.mono HB23.out.size))
    have hec1:en<=ec:=HY8.out.ec1
    have hec2:ec<=9223372036854775807:=HY8.out.ec2
    clear hb8 hW8 haA HB7 HB8 HY3 HG3 HCR3 HB23
    go_wp2_with fail
    go_loopw [14,94] (fun bv iv wx=>∃ (i:Nat) (b:Int),i<=en/\iv=.int i64 i/\bv=.int i64 b/\Hid (b=lwE b2 a0 y.p.its (el.take i)/\Below W8.heap.size W8 wx)) (fun _ iv _=>en-(intOf iv).toNat)
    case atStart=>exact ⟨0,b2,Nat.zero_le _,rfl,rfl,hid ⟨by unfold lwE;simp,Below.refl _ _⟩⟩
    case round =>
     obtain ⟨i,b,hi,rfl,rfl,HW⟩:=hrel
     obtain ⟨w9,rfl⟩:∃ q,q=wr:=⟨_,rfl⟩
     by_cases hlt:i<en
     . obtain ⟨e,hee⟩:∃ z,el[i]?=some z:=⟨_,List.getElem?_eq_getElem (by rw [<- HY8.out.el_];exact hlt)⟩
       have HEI:=hid hee
       have hiz:(i:Int)<en:=by omega
       have hiz0:(0:Int)<=i:=by omega
       have HY9:=hid (HY8.out.fresh HW.out.2)
       have HA9:=hid (HAA.out.bel HW.out.2)
       have HP9:Hid (b=0->PlOk a0 (y.its.map It.p)/\∀ it∈y.its,∀ cm∈it.cms,cm.n<=1048576):=hid fun hz=>by
        have hz2:=lwE_ok (HW.out.1.symm.trans hz)
        obtain ⟨h1,h2,_⟩:=lwB2_ok (HB12.out.2.1.symm.trans hz2)
        rw [(HA0.out hz2).1]
        refine ⟨PlOk.of_valid (HVW.out h1).2 (HVW.out h1).1 (by rw [<- h2];exact HMV.out.symm),fun it hit cm hcm=>?_⟩
        have h3:=(small_of (HVW.out h1).1 (HVW.out h1).2).vals it.p (List.mem_map_of_mem (f:=It.p) hit) cm.p (List.mem_map_of_mem (f:=Cm.p) hcm)
        have h4:=((HY9.out.ok.its.ok it hit).cs.ok cm hcm).len
        have h5:cm.p.2.length=cm.vals.length:=rfl
        omega
       clear hee
       go_upto_if 95 with fail
       first
        | (refine lwEnt_any HY9.out.wb HY9.out.ok.its HA9.out HY9.out.er hlt hec1 hec2 HEI.out HP9.out ?_)
        | (go_step;refine lwEnt_any HY9.out.wb HY9.out.ok.its HA9.out HY9.out.er hlt hec1 hec2 HEI.out HP9.out ?_)
        | (go_step;go_step;refine lwEnt_any HY9.out.wb HY9.out.ok.its HA9.out HY9.out.er hlt hec1 hec2 HEI.out HP9.out ?_)
        | (go_step;go_step;go_step;refine lwEnt_any HY9.out.wb HY9.out.ok.its HA9.out HY9.out.er hlt hec1 hec2 HEI.out HP9.out ?_)
        | (go_step;go_step;go_step;go_step;refine lwEnt_any HY9.out.wb HY9.out.ok.its HA9.out HY9.out.er hlt hec1 hec2 HEI.out HP9.out ?_)
        | (go_step;go_step;go_step;go_step;go_step;refine lwEnt_any HY9.out.wb HY9.out.ok.its HA9.out HY9.out.er hlt hec1 hec2 HEI.out HP9.out ?_)
        | (go_step;go_step;go_step;go_step;go_step;go_step;refine lwEnt_any HY9.out.wb HY9.out.ok.its HA9.out HY9.out.er hlt hec1 hec2 HEI.out HP9.out ?_)
        | (go_step;go_step;go_step;go_step;go_step;go_step;go_step;refine lwEnt_any HY9.out.wb HY9.out.ok.its HA9.out HY9.out.er hlt hec1 hec2 HEI.out HP9.out ?_)
        | (go_step;go_step;go_step;go_step;go_step;go_step;go_step;go_step;refine lwEnt_any HY9.out.wb HY9.out.ok.its HA9.out HY9.out.er hlt hec1 hec2 HEI.out HP9.out ?_)
        | (go_step;go_step;go_step;go_step;go_step;go_step;go_step;go_step;go_step;refine lwEnt_any HY9.out.wb HY9.out.ok.its HA9.out HY9.out.er hlt hec1 hec2 HEI.out HP9.out ?_)
       intros
       rename_i w10 H10
       have HN:Hid ((if b≠0 then b else if bwBad a0 (y.its.map It.p) e=true then 4 else 0)=lwE b2 a0 y.p.its (el.take (i+1))/\Below W8.heap.size W8 w10):=hid ⟨by
        rw [List.take_add_one,HEI.out,Option.toList_some,lwE_snoc,<- HW.out.1]
        rfl,HW.out.2.trans (H10.out.mono HW.out.2.size)⟩
       obtain ⟨bN,hbN⟩:∃ z,z=(if b≠0 then b else if bwBad a0 (y.its.map It.p) e=true then 4 else 0):=⟨_,rfl⟩
       rw [<- hbN] at HN
       rw [<- hbN]
       clear hbN H10 HW HY9 HA9 HP9 HEI
       go_wp2_with fail
       go_roundw
       case measure=>simp [intOf];omega
       case rel=>exact ⟨i+1,bN,by omega,by go_num,rfl,HN⟩
     . obtain rfl:en=i:=by omega
       have HBE:Hid (b=lwE b2 m0 y.p.its el):=hid (by
        rw [HW.out.1,List.take_of_length_le (by rw [<- HY8.out.el_];omega)]
        exact lwE_at fun hz=>(HA0.out hz).1)
       have HB9:=hid HW.out.2
       have HY9:=hid (HY8.out.fresh HB9.out)
       have HG9:=hid (HG8.out.bel HB9.out)
       have HCR9:Hid (∀ wx,Below w9.heap.size w9 wx->Rd wx wx.heap.size 10 cA cn (ctCs cl)):=hid fun wx hb=>HCR8.out wx (HB9.out.trans (hb.mono HB9.out.size))
       have HB29:Hid (Below w2.heap.size w2 w9):=hid (HB28.out.trans (HB9.out.mono HB28.out.size))
       have p2:w9.cell? ⟨hs,2,none⟩=some (.slice cA cn cc):=HY9.out.sb.cell 2
       clear HW HB9 HY8 HG8 HCR8 HB28 HAA
       go_wp2_with fail
       clear p2
       go_loopw [14,123] (fun bv jv wx=>∃ (j:Nat) (b':Int),j<=cn/\jv=.int i64 j/\bv=.int i64 b'/\Hid (b'=lwC b el (cl.take j)/\Below w9.heap.size w9 wx)) (fun _ jv _=>cn-(intOf jv).toNat)
       case atStart=>exact ⟨0,b,Nat.zero_le _,rfl,rfl,hid ⟨by unfold lwC;simp,Below.refl _ _⟩⟩
       case round =>
        obtain ⟨j,b',hj,rfl,rfl,HV⟩:=hrel
        obtain ⟨wA,rfl⟩:∃ q,q=wr:=⟨_,rfl⟩
        by_cases hlt2:j<cn
        . obtain ⟨ct,hct⟩:∃ z,cl[j]?=some z:=⟨_,List.getElem?_eq_getElem (by have:=HSC.out.hcl;omega)⟩
          have HCT:=hid hct
          have hjz:(j:Int)<cn:=by omega
          have hjz0:(0:Int)<=j:=by omega
          have HRC:=hid (HCR9.out wA HV.out.2)
          clear hct
          go_upto_if 124 with fail
          first
           | (refine lwCon_any HRC.out hlt2 hcc hcc2 HCT.out HY9.out.el_ ?_)
           | (go_step;refine lwCon_any HRC.out hlt2 hcc hcc2 HCT.out HY9.out.el_ ?_)
           | (go_step;go_step;refine lwCon_any HRC.out hlt2 hcc hcc2 HCT.out HY9.out.el_ ?_)
           | (go_step;go_step;go_step;refine lwCon_any HRC.out hlt2 hcc hcc2 HCT.out HY9.out.el_ ?_)
           | (go_step;go_step;go_step;go_step;refine lwCon_any HRC.out hlt2 hcc hcc2 HCT.out HY9.out.el_ ?_)
           | (go_step;go_step;go_step;go_step;go_step;refine lwCon_any HRC.out hlt2 hcc hcc2 HCT.out HY9.out.el_ ?_)
           | (go_step;go_step;go_step;go_step;go_step;go_step;refine lwCon_any HRC.out hlt2 hcc hcc2 HCT.out HY9.out.el_ ?_)
           | (go_step;go_step;go_step;go_step;go_step;go_step;go_step;refine lwCon_any HRC.out hlt2 hcc hcc2 HCT.out HY9.out.el_ ?_)
           | (go_step;go_step;go_step;go_step;go_step;go_step;go_step;go_step;refine lwCon_any HRC.out hlt2 hcc hcc2 HCT.out HY9.out.el_ ?_)
           | (go_step;go_step;go_step;go_step;go_step;go_step;go_step;go_step;go_step;refine lwCon_any HRC.out hlt2 hcc hcc2 HCT.out HY9.out.el_ ?_)
          intros
          rename_i w10 H10
          have HN:Hid ((if b'≠0 then b' else if conOk el ct=false then 1 else 0)=lwC b el (cl.take (j+1))/\Below w9.heap.size w9 w10):=hid ⟨by
           rw [List.take_add_one,HCT.out,Option.toList_some,lwC_snoc,<- HV.out.1],HV.out.2.trans (H10.out.mono HV.out.2.size)⟩
          obtain ⟨bN,hbN⟩:∃ z,z=(if b'≠0 then b' else if conOk el ct=false then 1 else 0):=⟨_,rfl⟩
          rw [<- hbN] at HN
          rw [<- hbN]
          clear hbN H10 HV HCT HRC
          go_wp2_with fail
          go_roundw
          case measure=>simp [intOf];omega
          case rel=>exact ⟨j+1,bN,by omega,by go_num,rfl,HN⟩
        . obtain rfl:cn=j:=by omega
          have HBC:Hid (b'=lwC (lwE (lwB2 cv mv en bn) m0 y.p.its el) el cl):=hid (by
           rw [HV.out.1,List.take_of_length_le (by rw [<- HSC.out.hcl];omega),HBE.out,HB12.out.2.1])
          have HYA:=hid (HY9.out.fresh HV.out.2)
          have HGA:=hid (HG9.out.bel HV.out.2)
          have HB2A:Hid (Below w2.heap.size w2 wA):=hid (HB29.out.trans (HV.out.2.mono HB29.out.size))
          have HCA:Hid (Rd wA wA.heap.size 10 cA cn (ctCs cl)):=hid (HCR9.out wA HV.out.2)
          have hEb:E=b':=by rw [HBC.out];exact HS.out.1
          have HS2:Hid ((b'≠0->G.kn=0/\qn=0)/\(b'=0->cv=0/\mv=0/\en=bn/\qn=cl.length/\WdY w2 0 G/\G.p={ y.p with its:=bwF m0 m1 (kdAt y.p.ks m0) (kdAt y.p.ks m1) y.p.its (el.zip bl) }/\w2.ownsRow w1.heap.size 131 10 (.slice QA qn qc) qn (ctCs (cl.map (conN el))) /\
           (∀ i r,(el.zip bl)[i]?=some r->bwBad m0 (bwF m0 m1 (kdAt y.p.ks m0) (kdAt y.p.ks m1) y.p.its ((el.zip bl).take i)) r.1=false)/\∀ c∈cl,conOk el c=true)):=hid (by rw [HBC.out];exact HS.out.2)
          subst hEb
          have HB2Z:Hid (E=0->b2=0):=hid fun hz=>by
           obtain ⟨h1,h2,h3,_⟩:=HS2.out.2 hz
           rw [HB12.out.2.1]
           unfold lwB2
           rw [if_neg (by simp [h1]),if_neg (by simp [h2]),if_neg (by simp [h3])]
          clear HV HY9 HG9 HB29 HCR9 HS HBE HBC
          go_wp2_with fail
          (with_reducible refine (HBO.out wA).mono ?_)
          rintro e wB ⟨rfl,hbB⟩
          have HYB:=hid (HYA.out.fresh hbB)
          have HGB:=hid (HGA.out.bel hbB)
          have HB2B:Hid (Below w2.heap.size w2 wB):=hid (HB2A.out.trans (hbB.mono HB2A.out.size))
          have HCB:Hid (Rd wB wB.heap.size 10 cA cn (ctCs cl)):=hid ((HCA.out.below hbB).more hbB.size)
          clear hbB HYA HGA HB2A HCA
          by_cases hE:E=0
          . obtain ⟨h1,h2,h3,h4,h5,h6,h7,h8,h9⟩:=HS2.out.2 hE
            have hz2:=HB2Z.out hE
            have HMV2:Hid (mapF (y.ks.map Kd.p)=((m0,m1,m2),0)):=hid (by rw [<- h2];exact HMV.out.symm)
            have t0:(E != 0)=false:=by simp [hE]
            have t1:(E == 0)=true:=by simp [hE]
            have HFI:Hid (qn=cl.length/\WdY w2 0 G/\G.p={ y.p with its:=bwF m0 m1 (kdAt y.p.ks m0) (kdAt y.p.ks m1) y.p.its (el.zip bl) }/\w2.ownsRow w1.heap.size 131 10 (.slice QA qn qc) qn (ctCs (cl.map (conN el)))/\(∀ i r,(el.zip bl)[i]?=some r->bwBad m0 (bwF m0 m1 (kdAt y.p.ks m0) (kdAt y.p.ks m1) y.p.its ((el.zip bl).take i)) r.1=false)):=hid ⟨h4,h5,h6,h7,h8⟩
            have HVV:Hid (VW holdK y.p):=hid (HVW.out h1).2
            have HMO:Hid (Calls Try.prog 71 #[y.v,.agg #[.slice bA bn bc,.slice jA jn jc,.slice cA cn cc,.int i64 gx,.int i64 gy,.int i64 st],.slice eA en ec] wB fun e w'=>Below wB.heap.size wB w'/\∃ (y2:Wd) (A:Option Addr) (n c:Nat),e=.returned (.tuple #[y2.v,.slice A n c])/\n=cl.length/\Hid (WdY w' 0 y2/\y2.p={ y.p with its:=mvF m0 m1 (kdAt y.p.ks m0) (kdAt y.p.ks m1) y.p.its (el.zip bl) }/\w'.ownsRow wB.heap.size 131 10 (.slice A n c) n (ctCs (cl.map (conN el))))):=hid (by
             obtain ⟨e0,e1,e2,e3,e4⟩:=HA0.out hz2
             have hk:=mapF_kd HMV2.out
             have hsx:=HSX.out
             rw [e0,e1] at hsx
             rw [e0] at e2 e3
             rw [e1] at e2 e4
             refine moved_any HYB.out.ok (small_of (HVW.out h1).1 (HVW.out h1).2) hsx HYB.out.br HYB.out.bl_ HYB.out.bc1 HYB.out.bc2 HCB.out HSC.out.hcl hcc hcc2 (by have:=HSC.out.hcz;omega) HYB.out.er HYB.out.el_ HYB.out.ec1 HYB.out.ec2 e2 e3 e4 (vw_nn HVV.out) (fun h=>?_) (fun h=>?_) (by omega) h9
             . obtain ⟨⟨K,k1,k2⟩,_⟩:=hk.1 h
               rw [List.getElem?_map] at k2
               obtain ⟨z,k3,k4⟩:=Option.map_eq_some_iff.1 k2
               exact ⟨K,z,k1,k3,k4⟩
             . obtain ⟨⟨K,k1,k2⟩,_⟩:=hk.2 h
               rw [List.getElem?_map] at k2
               obtain ⟨z,k3,k4⟩:=Option.map_eq_some_iff.1 k2
               exact ⟨K,z,k1,k3,k4⟩)
            have HEZ:=hid hE
            have q0:wB.cell? ⟨hw,0,none⟩=some (.slice y.kA y.kn y.kc):=HYB.out.wb.cell 0
            have q1:wB.cell? ⟨hw,1,none⟩=some (.slice y.gA y.gn y.gc):=HYB.out.wb.cell 1
            have q2:wB.cell? ⟨hw,2,none⟩=some (.slice y.iA y.im y.ic):=HYB.out.wb.cell 2
            have p0:wB.cell? ⟨hs,0,none⟩=some (.slice bA bn bc):=HYB.out.sb.cell 0
            have p1:wB.cell? ⟨hs,1,none⟩=some (.slice jA jn jc):=HYB.out.sb.cell 1
            have p2:wB.cell? ⟨hs,2,none⟩=some (.slice cA cn cc):=HYB.out.sb.cell 2
            have p3:wB.cell? ⟨hs,3,none⟩=some (.int i64 gx):=HYB.out.sb.cell 3
            have p4:wB.cell? ⟨hs,4,none⟩=some (.int i64 gy):=HYB.out.sb.cell 4
            have p5:wB.cell? ⟨hs,5,none⟩=some (.int i64 st):=HYB.out.sb.cell 5
            clear h1 h2 h3 h4 h5 h6 h7 h8 h9 hz2 hE HS2 HB2Z HA0 HB12 HSX HCV HVW HMV
            go_wp2_with fail
            clear q0 q1 q2 p0 p1 p2 p3 p4 p5
            show Calls Try.prog 71 #[y.v,.agg #[.slice bA bn bc,.slice jA jn jc,.slice cA cn cc,.int i64 gx,.int i64 gy,.int i64 st],.slice eA en ec] wB _
            (with_reducible refine HMO.out.mono ?_)
            rintro e wC ⟨hbC,y2,A2,n2,d2,rfl,hn2,HM2⟩
            obtain ⟨vA,hvA⟩:∃ z,z=wC.heap.size:=⟨_,rfl⟩
            obtain ⟨wD,hwD⟩:∃ z,z=wC.alloc (.cells #[.slice y2.kA y2.kn y2.kc,.slice y2.gA y2.gn y2.gc,.slice y2.iA y2.im y2.ic] 52):=⟨_,rfl⟩
            have hbCD:Below wC.heap.size wC wD:=by rw [hwD];exact (Below.refl _ _).alloc (Nat.le_refl _) _
            have hbD:Below wB.heap.size wB wD:=hbC.trans (hbCD.mono hbC.size)
            have HVD:Hid (Bk wD vA 52 #[.slice y2.kA y2.kn y2.kc,.slice y2.gA y2.gn y2.gc,.slice y2.iA y2.im y2.ic]):=hid (by rw [hwD,hvA];exact Bk.new _ _ _)
            have HGD:=hid (HGB.out.bel hbD)
            have HYD:=hid (HYB.out.fresh hbD)
            have HB2D:Hid (Below w2.heap.size w2 wD):=hid (HB2B.out.trans (hbD.mono HB2B.out.size))
            have HEQ:Hid (Calls Try.prog 38 #[G.v,y2.v] wD fun e w'=>e=.returned (.bool true)/\Below wD.heap.size wD w'):=hid (by
             have hk1:Kx 0 [] w2 wD:=Kx.of_below HB2D.out
             have hk2:Kx 0 [] wC wD:=Kx.of_below hbCD
             have o1:=(HFI.out.2.1.keep hk1 (by simp) (by simp) (by simp) (by simp) (by simp)).ok_
             have o2:=(HM2.out.1.keep hk2 (by simp) (by simp) (by simp) (by simp) (by simp)).ok_
             have h1:=wsame_any o1 o2
             have hpp:G.p=y2.p:=by
              rw [HFI.out.2.2.1,HM2.out.2.1,mv_all _ _ HVV.out.sorted HFI.out.2.2.2.2]
             rw [decide_eq_true hpp] at h1
             exact h1)
            obtain ⟨rfl⟩:n2=qn:=hn2.trans HFI.out.1.symm
            have HEC:Hid (∀ wx,Below wD.heap.size wD wx->Calls Try.prog 61 #[.slice QA qn qc,.slice A2 qn d2] wx fun e w'=>e=.returned (.bool true)/\∃ m,wx.drewN m=w'):=hid fun wx hb=>by
             have hc1:=own_cap2 HFI.out.2.2.2.1
             have hk1:Kx 0 [] w2 wx:=Kx.of_below (HB2D.out.trans (hb.mono HB2D.out.size))
             have hk2:Kx 0 [] wC wx:=Kx.of_below (hbCD.trans (hb.mono hbCD.size))
             exact eq61_any (l:=cl.map (conN el)) (by rw [List.length_map];exact hn2) (by omega) (Rd.of_own (hk1.own HFI.out.2.2.2.1 (by simp))) (Rd.of_own (hk2.own HM2.out.2.2 (by simp)))
            clear hbC hbCD hbD hn2 HM2 HMO HGB HYB HB2B HCB HFI HVV
            simp only [Wd.v]
            go_upto_region 31 with fail
            rw [<- hwD,<- hvA]
            clear hwD hvA
            have g0:wD.cell? ⟨gA3,0,none⟩=some (.slice G.kA G.kn G.kc):=HGD.out.cell 0
            have g1:wD.cell? ⟨gA3,1,none⟩=some (.slice G.gA G.gn G.gc):=HGD.out.cell 1
            have g2:wD.cell? ⟨gA3,2,none⟩=some (.slice G.iA G.im G.ic):=HGD.out.cell 2
            have v0:wD.cell? ⟨vA,0,none⟩=some (.slice y2.kA y2.kn y2.kc):=HVD.out.cell 0
            have v1:wD.cell? ⟨vA,1,none⟩=some (.slice y2.gA y2.gn y2.gc):=HVD.out.cell 1
            have v2:wD.cell? ⟨vA,2,none⟩=some (.slice y2.iA y2.im y2.ic):=HVD.out.cell 2
            go_wp2_with fail
            show Calls Try.prog 38 #[G.v,y2.v] wD _
            (with_reducible refine HEQ.out.mono ?_)
            rintro e wE ⟨rfl,hbE⟩
            have HBE2:=hid hbE
            clear hbE g0 g1 g2 v0 v1 v2
            go_wp2_with fail
            (with_reducible refine (HEC.out wE HBE2.out).mono ?_)
            rintro e wF ⟨rfl,m,rfl⟩
            go_wp2_with fail
            go_ret
            exact ⟨rfl,HYD.out.bel.trans ((Below.dn HBE2.out m).mono HYD.out.bel.size)⟩
          . obtain ⟨h1,h2⟩:=HS2.out.1 hE
            have t0:(E != 0)=true:=by simpa using hE
            have g0:wB.cell? ⟨gA3,0,none⟩=some (.slice G.kA 0 G.kc):=by have hz:=HGB.out.cell 0;rw [h1] at hz;exact hz
            subst h2
            clear h1 hE HS2 HB2Z HA0 HB12 HSX HCV HVW HMV
            go_wp2_with fail
            (with_reducible refine (HBO.out wB).mono ?_)
            rintro e wC ⟨rfl,hbC⟩
            have g3:wC.cell? ⟨gA3,0,none⟩=some (.slice G.kA 0 G.kc):=(hbC.cell (p:=⟨gA3,0,none⟩) HGB.out.lt).trans g0
            have HBC2:=hid hbC
            clear hbC g0
            go_wp2_with fail
            go_ret
            exact ⟨rfl,HYB.out.bel.trans (HBC2.out.mono HYB.out.bel.size)⟩
end Go.Proofs.Ytnidcmhfbkdioaa
