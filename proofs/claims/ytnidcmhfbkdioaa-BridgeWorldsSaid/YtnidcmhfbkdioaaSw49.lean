/-
  tourref4.Moved. Conditions: what is read can be read; a small world; every entity has a body, every contact names bodies that there are; contacts that memory holds.
-/
import Derived.Test.YtnidcmhfbkdioaaSw48
import Derived.Test.YtnidcmhfbkdioaaSw44
namespace Go.Proofs.Ytnidcmhfbkdioaa
open Go.RowKit
open Go.IntKind (i64)
open Go.Lib (hid)
set_option maxRecDepth 100000
set_option maxHeartbeats 16000000 in
theorem moved_any {w:World} {B bn bc jn jc cn cc en ec:Nat} {bA jA cA eA:Option Addr} {bl:List By} {cl:List Ct} {el:List (Int × Int)} {x:Wd} {gx gy st m0 m1 m2 m3 m4:Int} {d0 d1:ByteArray × List Fd}
 (h:WdOk w B x) (hs:SmallV x.p) (hX:spX (x.ks.map Kd.p)=.agg #[.int i64 m0,.int i64 m1,.int i64 m2,.int i64 m3,.int i64 m4])
 (hb:Rd w B 13 bA bn (byCs bl)) (hbl:bn=bl.length) (hbc:bn<=bc) (hbc2:bc<=9223372036854775807)
 (hc:Rd w B 10 cA cn (ctCs cl)) (hcl:cn=cl.length) (hcc:cn<=cc) (hcc2:cc<=9223372036854775807) (hcn:cn*80<=140737488355328)
 (he:Rd w B 2 eA en (enCs el)) (hel:en=el.length) (hec:en<=ec) (hec2:ec<=9223372036854775807)
 (hne:m0=m1->m0<0) (hw0:(Lit.int i64 m0).wf=true) (hw1:(Lit.int i64 m1).wf=true) (hnn:NNk x.p.its)
 (hd0:0<=m0->∃ (K:Nat) (z:Kd),m0=K/\x.ks[K]?=some z/\z.p=d0) (hd1:0<=m1->∃ (K:Nat) (z:Kd),m1=K/\x.ks[K]?=some z/\z.p=d1)
 (hen:en<=bn) (hok:∀ c∈cl,conOk el c=true) :
 Calls Try.prog 71 #[x.v,.agg #[.slice bA bn bc,.slice jA jn jc,.slice cA cn cc,.int i64 gx,.int i64 gy,.int i64 st],.slice eA en ec] w fun e w'=>Below w.heap.size w w'/\∃ (y:Wd) (A:Option Addr) (n c:Nat),e=.returned (.tuple #[y.v,.slice A n c])/\n=cl.length/\Hid (WdY w' 0 y/\y.p={ x.p with its:=mvF m0 m1 d0 d1 x.p.its (el.zip bl) }/\w'.ownsRow w.heap.size 131 10 (.slice A n c) n (ctCs (cl.map (conN el)))):=by
 have hsp0:∀ w1,Below w.heap.size w w1->∃ Y:Value,(∃ y0 y1 y2 y3 y4:Bool,Y=.agg #[.bool y0,.bool y1,.bool y2,.bool y3,.bool y4])/\Calls Try.prog 67 #[.slice x.kA x.kn x.kc] w1 fun e w'=>e=.returned (.tuple #[.agg #[.int i64 m0,.int i64 m1,.int i64 m2,.int i64 m3,.int i64 m4],Y])/\Below w1.heap.size w1 w':=fun w1 hb=>by
  have:=special_any (h.ks.below (hb.mono h.ks.lo)) (fun k hk=>by rw [(h.ks.ok k hk).len];exact hs.fds _ (List.mem_map_of_mem (f:=Kd.p) hk))
  unfold SpecP at this
  rw [hX] at this
  exact ⟨spY (x.ks.map Kd.p),⟨_,_,_,_,_,rfl⟩,this⟩
 have hcp0:=fun (w1:World) (hb:Below w.heap.size w w1)=>copyR2_any (h.below (hb.mono h.ks.lo)) hs
 obtain ⟨xp,hxp⟩:∃ z,z=x.p:=⟨_,rfl⟩
 rw [<- hxp] at hcp0 hnn
 have HKS:Hid (KsOk w B x.kA x.kn x.kc x.ks):=hid h.ks
 rw [<- hxp]
 clear hxp hs hX
 obtain ⟨kA,kn,kc,ks,gA,gn,gc,gens,iA,im,ic,its⟩:=x
 dsimp only [Wd.v] at hsp0 hcp0 hd0 hd1 HKS ⊢
 have hlo:B<=w.heap.size:=h.ks.lo
 clear h
 obtain ⟨base,hbase⟩:∃ z,z=w.heap.size:=⟨_,rfl⟩
 obtain ⟨W0,hW0⟩:∃ z,z=((w.alloc (.cells #[.slice kA kn kc,.slice gA gn gc,.slice iA im ic] 52)).alloc (.cells #[.slice bA bn bc,.slice jA jn jc,.slice cA cn cc,.int i64 gx,.int i64 gy,.int i64 st] 115)).alloc (.cells #[.slice none 0 0,.slice none 0 0,.slice none 0 0] 52):=⟨_,rfl⟩
 have hb0:Below w.heap.size w W0:=by rw [hW0];exact (((Below.refl _ _).alloc (Nat.le_refl _) _).alloc (by simp) _).alloc (by simp;omega) _
 obtain ⟨wA,hwA⟩:∃ z,z=base:=⟨_,rfl⟩
 obtain ⟨sA,hsA⟩:∃ z,z=base+1:=⟨_,rfl⟩
 obtain ⟨rA,hrA⟩:∃ z,z=base+1+1:=⟨_,rfl⟩
 have HWA:Hid (Bk W0 wA 52 #[.slice kA kn kc,.slice gA gn gc,.slice iA im ic]):=hid (by rw [hW0,hwA,hbase];exact ((Bk.new _ _ _).alloc _).alloc _)
 have HSA:Hid (Bk W0 sA 115 #[.slice bA bn bc,.slice jA jn jc,.slice cA cn cc,.int i64 gx,.int i64 gy,.int i64 st]):=hid (by rw [hW0,hsA,hbase];exact (Bk.twoB _ _ _ _).alloc _)
 have HRA:Hid (Bk W0 rA 52 #[.slice none 0 0,.slice none 0 0,.slice none 0 0]):=hid (by
  rw [hW0,hrA,hbase]
  simpa using Bk.new ((w.alloc (.cells #[.slice kA kn kc,.slice gA gn gc,.slice iA im ic] 52)).alloc (.cells #[.slice bA bn bc,.slice jA jn jc,.slice cA cn cc,.int i64 gx,.int i64 gy,.int i64 st] 115)) 52 #[.slice none 0 0,.slice none 0 0,.slice none 0 0])
 obtain ⟨Y,⟨y0,y1,y2,y3,y4,hY⟩,hsp⟩:=hsp0 W0 hb0
 subst hY
 have HSP:=hid hsp
 have HCP:=hid hcp0
 have HB0:=hid hb0
 have HBS:Hid (base=w.heap.size):=hid hbase
 have HLO:Hid (B<=base):=hid (by rw [hbase];exact hlo)
 have HRL:Hid (base<=rA):=hid (by omega)
 have HBR:Hid (Rd w B 13 bA bn (byCs bl)/\bn=bl.length):=hid ⟨hb,hbl⟩
 have HCR:Hid (Rd w B 10 cA cn (ctCs cl)/\cn=cl.length/\cn*80<=140737488355328):=hid ⟨hc,hcl,hcn⟩
 have HER:Hid (Rd w B 2 eA en (enCs el)/\en=el.length):=hid ⟨he,hel⟩
 have HNE:=hid hne
 have HWF:Hid ((Lit.int i64 m0).wf=true/\(Lit.int i64 m1).wf=true):=hid ⟨hw0,hw1⟩
 have HN0:=hid hnn
 have HD0:=hid hd0
 have HD1:=hid hd1
 have HOK:=hid hok
 have hcc_:=hcc
 have hec_:=hec
 have hbc_:=hbc
 clear hsp0 hsp hcp0 hb0 hlo hb hbl hc hcl hcn he hel hne hw0 hw1 hnn hd0 hd1 hok
 go_enter Try.func71,Try.ntmps71
 go_upto_region 1 with fail
 rw [<- hW0,<- hbase]
 rw [<- hrA,<- hsA,<- hwA]
 clear hW0 hbase hrA hsA hwA
 have a0:W0.cell? ⟨wA,0,none⟩=some (.slice kA kn kc):=HWA.out.cell 0
 go_wp2_with fail
 (with_reducible refine HSP.out.mono ?_)
 rintro e w2 ⟨rfl,hb2⟩
 have HWA2:=hid (HWA.out.below hb2 HWA.out.lt)
 have HSA2:=hid (HSA.out.below hb2 HSA.out.lt)
 have HRA2:=hid (HRA.out.below hb2 HRA.out.lt)
 have HB2:Hid (Below w.heap.size w w2):=hid (HB0.out.trans (hb2.mono HB0.out.size))
 clear a0 hb2 HWA HSA HRA HSP HB0
 go_upto_region 2 with fail
 obtain ⟨aA,haA⟩:∃ z,z=w2.heap.size:=⟨_,rfl⟩
 obtain ⟨W4,hW4⟩:∃ z,z=(w2.alloc (.cells #[.int i64 m0,.int i64 m1,.int i64 m2,.int i64 m3,.int i64 m4] 141)).alloc (.cells #[.bool y0,.bool y1,.bool y2,.bool y3,.bool y4] 142):=⟨_,rfl⟩
 rw [<- hW4,<- haA]
 have hb4:Below w2.heap.size w2 W4:=by rw [hW4];exact ((Below.refl _ _).alloc (Nat.le_refl _) _).alloc (by simp) _
 have HAA:Hid (Bk W4 aA 141 #[.int i64 m0,.int i64 m1,.int i64 m2,.int i64 m3,.int i64 m4]):=hid (by rw [hW4,haA];exact (Bk.new _ _ _).alloc _)
 have HWA4:=hid (HWA2.out.below hb4 HWA2.out.lt)
 have HSA4:=hid (HSA2.out.below hb4 HSA2.out.lt)
 have HRA4:=hid (HRA2.out.below hb4 HRA2.out.lt)
 have HB4:Hid (Below w.heap.size w W4):=hid (HB2.out.trans (hb4.mono HB2.out.size))
 clear hW4 haA hb4 HB2 HWA2 HSA2 HRA2
 have a0:W4.cell? ⟨wA,0,none⟩=some (.slice kA kn kc):=HWA4.out.cell 0
 have a1:W4.cell? ⟨wA,1,none⟩=some (.slice gA gn gc):=HWA4.out.cell 1
 have a2:W4.cell? ⟨wA,2,none⟩=some (.slice iA im ic):=HWA4.out.cell 2
 go_wp2_with fail
 (with_reducible refine (HCP.out W4 HB4.out).mono ?_)
 rintro e w5 ⟨y,rfl,hy,hy3⟩
 clear a0 a1 a2 HCP
 obtain ⟨pkA,pkn,pkc,pks,pgA,pgn,pgc,pgens,piA,pim,pic,pits⟩:=y
 obtain ⟨oA,hoA⟩:∃ z,z=w5.heap.size:=⟨_,rfl⟩
 obtain ⟨W7,hW7⟩:∃ z,z=w5.alloc (.cells #[.slice pkA pkn pkc,.slice pgA pgn pgc,.slice piA pim pic] 52):=⟨_,rfl⟩
 have hb57:Below w5.heap.size w5 W7:=by rw [hW7];exact (Below.refl _ _).alloc (Nat.le_refl _) _
 have hb7:Below W4.heap.size W4 W7:=hy3.trans (hb57.mono hy3.size)
 have HB7:Hid (Below w.heap.size w W7):=hid (HB4.out.trans (hb7.mono HB4.out.size))
 have HK7:Hid (MvK W7 base ⟨pkA,pkn,pkc,pks,pgA,pgn,pgc,pgens,piA,pim,pic,pits⟩ wA sA aA oA rA #[.slice kA kn kc,.slice gA gn gc,.slice iA im ic] #[.slice bA bn bc,.slice jA jn jc,.slice cA cn cc,.int i64 gx,.int i64 gy,.int i64 st] #[.int i64 m0,.int i64 m1,.int i64 m2,.int i64 m3,.int i64 m4]):=hid (by
  obtain ⟨h1,h2,h3⟩:=hy.out
  have hlo:base<=W4.heap.size:=by rw [HBS.out];exact HB4.out.size
  have hOS:OutR w5 base ⟨pkA,pkn,pkc,pks,pgA,pgn,pgc,pgens,piA,pim,pic,pits⟩:=⟨h1,⟨fun z hz=>own_lo2 (h3.row z hz) hlo,h3.apart⟩⟩
  refine ⟨hOS.below hb57,HWA4.out.below hb7 HWA4.out.lt,HSA4.out.below hb7 HSA4.out.lt,HAA.out.below hb7 HAA.out.lt,by rw [hW7,hoA];exact Bk.new _ _ _,HRA4.out.below hb7 HRA4.out.lt⟩)
 have HIP:Hid (pits.map It.p=xp.its/\pks.map Kd.p=xp.ks/\pgens=xp.gens):=hid (by
  have h2:=hy.out.2.1
  rw [<- h2]
  exact ⟨rfl,rfl,rfl⟩)
 clear hy hy3 hb57 hb7 HWA4 HSA4 HRA4 HAA HB4
 go_upto_region 3 with fail
 rw [<- hW7,<- hoA]
 clear hW7 hoA
 go_wp2_with fail
 go_loopw [35] (fun iv wx=>∃ (i:Nat) (its1:List It),i<=en/\iv=.int i64 i/\Hid (MvK wx base ⟨pkA,pkn,pkc,pks,pgA,pgn,pgc,pgens,piA,pim,pic,its1⟩ wA sA aA oA rA #[.slice kA kn kc,.slice gA gn gc,.slice iA im ic] #[.slice bA bn bc,.slice jA jn jc,.slice cA cn cc,.int i64 gx,.int i64 gy,.int i64 st] #[.int i64 m0,.int i64 m1,.int i64 m2,.int i64 m3,.int i64 m4]/\its1.map It.p=mvF m0 m1 d0 d1 xp.its ((el.zip bl).take i)/\Below w.heap.size w wx)) (fun iv _=>en-(intOf iv).toNat)
 case atStart=>exact ⟨0,pits,Nat.zero_le _,rfl,hid ⟨HK7.out,HIP.out.1,HB7.out⟩⟩
 case round =>
  clear HK7 HB7
  obtain ⟨i,its1,hi,rfl,HST⟩:=hrel
  obtain ⟨w3,rfl⟩:∃ z,z=wr:=⟨_,rfl⟩
  by_cases hlt:i<en
  . have hltb:i<bn:=by omega
    obtain ⟨e,hee⟩:∃ z,el[i]?=some z:=⟨_,List.getElem?_eq_getElem (by rw [<- HER.out.2];exact hlt)⟩
    obtain ⟨b,hbb⟩:∃ z,bl[i]?=some z:=⟨_,List.getElem?_eq_getElem (by rw [<- HBR.out.2];exact hltb)⟩
    have HZZ:Hid ((el.zip bl)[i]?=some (e,b)):=hid (by rw [List.getElem?_zip_eq_some];exact ⟨hee,hbb⟩)
    have hiz:(i:Int)<en:=by omega
    have hiz0:(0:Int)<=i:=by omega
    have hizb:(i:Int)<bn:=by omega
    have HNN:Hid (NNk (its1.map It.p)):=hid (by rw [HST.out.2.1];exact HN0.out.keep (KeepL.mvF (m0:=m0) (m1:=m1) (d0:=d0) (d1:=d1) _ _))
    have HBB:Hid (Below base w w3):=hid (by rw [HBS.out];exact HST.out.2.2)
    obtain ⟨eb,eo,heA,heb,q0,q1⟩:=Rd.enW (HER.out.1.below (HBB.out.mono HLO.out)) hlt hee
    obtain ⟨bb,bo,hbA,hbb2,r0,r1,r2,r3,r4,r5,r6,r7,r8,r9,r10,r11,r12⟩:=Rd.by_ (HBR.out.1.below (HBB.out.mono HLO.out)) hltb hbb
    subst heA
    have HBA:=hid hbA
    clear hbA
    obtain ⟨ea,hea⟩:∃ z,z=w3.heap.size:=⟨_,rfl⟩
    obtain ⟨W4,hW4⟩:∃ z,z=w3.alloc (.cells #[.int i64 e.1,.int i64 e.2] 128):=⟨_,rfl⟩
    have hb4:Below w3.heap.size w3 W4:=by rw [hW4];exact (Below.refl _ _).alloc (Nat.le_refl _) _
    have HE4:Hid (Bk W4 ea 128 #[.int i64 e.1,.int i64 e.2]):=hid (by rw [hW4,hea];exact Bk.new _ _ _)
    have HK4:=hid (HST.out.1.below hb4)
    have HB4:Hid (Below w.heap.size w W4):=hid (HST.out.2.2.trans (hb4.mono HST.out.2.2.size))
    have HBQ:Hid (W4.cell? ⟨bb,bo+i*13,none⟩=some (.int i64 b.px)/\W4.cell? ⟨bb,bo+i*13+1,none⟩=some (.int i64 b.py)/\W4.cell? ⟨bb,bo+i*13+2,none⟩=some (.int i64 b.vx)/\W4.cell? ⟨bb,bo+i*13+3,none⟩=some (.int i64 b.vy)/\W4.cell? ⟨bb,bo+i*13+4,none⟩=some (.int i64 b.ang)/\W4.cell? ⟨bb,bo+i*13+5,none⟩=some (.int i64 b.spin)/\W4.cell? ⟨bb,bo+i*13+6,none⟩=some (.int i64 b.mass)/\W4.cell? ⟨bb,bo+i*13+7,none⟩=some (.int i64 b.inr)/\W4.cell? ⟨bb,bo+i*13+8,none⟩=some (.int i64 b.bou)/\W4.cell? ⟨bb,bo+i*13+9,none⟩=some (.int i64 b.rub)/\W4.cell? ⟨bb,bo+i*13+10,none⟩=some (.slice b.cA b.cn b.cc)/\W4.cell? ⟨bb,bo+i*13+11,none⟩=some (.bool b.asl)/\W4.cell? ⟨bb,bo+i*13+12,none⟩=some (.int i64 b.calm)):=hid (by
     have hw:∀ p u,w3.cell? p=some u->W4.cell? p=some u:=fun p u h=>(hb4.cell (World.block_lt_of_cell? _ _ h)).trans h
     exact ⟨hw _ _ r0,hw _ _ r1,hw _ _ r2,hw _ _ r3,hw _ _ r4,hw _ _ r5,hw _ _ r6,hw _ _ r7,hw _ _ r8,hw _ _ r9,hw _ _ r10,hw _ _ r11,hw _ _ r12⟩)
    clear hee hbb heb hbb2 hb4 HBB r0 r1 r2 r3 r4 r5 r6 r7 r8 r9 r10 r11 r12
    go_upto_region 6 with fail
    rw [<- hW4,<- hea]
    clear hW4 hea q0 q1
    obtain ⟨c0,c1,c2,c3,c4,c5,c6,c7,c8,c9,c10,c11,c12⟩:=HBQ.out
    have s0:W4.cell? ⟨sA,0,none⟩=some (.slice (some ⟨bb,bo,none⟩) bn bc):=by rw [<- HBA.out];exact HK4.out.s.cell 0
    obtain ⟨ba,hba⟩:∃ z,z=W4.heap.size:=⟨_,rfl⟩
    obtain ⟨w5,hw5⟩:∃ z,z=W4.alloc (.cells #[.int i64 b.px,.int i64 b.py,.int i64 b.vx,.int i64 b.vy,.int i64 b.ang,.int i64 b.spin,.int i64 b.mass,.int i64 b.inr,.int i64 b.bou,.int i64 b.rub,.slice b.cA b.cn b.cc,.bool b.asl,.int i64 b.calm] 124):=⟨_,rfl⟩
    have hb5:Below W4.heap.size W4 w5:=by rw [hw5];exact (Below.refl _ _).alloc (Nat.le_refl _) _
    have HBD5:Hid (Bk w5 ba 124 #[.int i64 b.px,.int i64 b.py,.int i64 b.vx,.int i64 b.vy,.int i64 b.ang,.int i64 b.spin,.int i64 b.mass,.int i64 b.inr,.int i64 b.bou,.int i64 b.rub,.slice b.cA b.cn b.cc,.bool b.asl,.int i64 b.calm]):=hid (by rw [hw5,hba];exact Bk.new _ _ _)
    have HK5:=hid (HK4.out.below hb5)
    have HE5:=hid (HE4.out.below hb5 HE4.out.lt)
    have HB5:Hid (Below w.heap.size w w5):=hid (HB4.out.trans (hb5.mono HB4.out.size))
    clear hb5 HK4 HE4 HB4 HBQ
    go_upto_region 7 with fail
    rw [<- hw5,<- hba]
    clear hw5 hba s0 c0 c1 c2 c3 c4 c5 c6 c7 c8 c9 c10 c11 c12
    have HNR:=hid (rnear_any b.calm 0 1000 w5)
    have d12:w5.cell? ⟨ba,12,none⟩=some (.int i64 b.calm):=HBD5.out.cell 12
    have d11:w5.cell? ⟨ba,11,none⟩=some (.bool b.asl):=HBD5.out.cell 11
    have hcv0:0<=wiF b.calm 0 1000/\wiF b.calm 0 1000<=1000:=wiF_range (by decide)
    obtain ⟨cv,hcv⟩:∃ z,z=wiF b.calm 0 1000:=⟨_,rfl⟩
    rw [<- hcv] at HNR hcv0
    obtain ⟨hcv1,hcv2⟩:=hcv0
    have HCV:Hid (cv=wiF b.calm 0 1000):=hid hcv
    clear hcv
    go_wp2_with fail
    (with_reducible refine HNR.out.mono ?_)
    rintro e1 w4 ⟨rfl,rfl⟩
    clear HNR d12
    go_upto_if 50 with fail
    go_cut [14] from 44 to 53 (fun qv wx=>qv=.int i64 (calmV b)/\w5=wx)
    case first =>
     cases has:b.asl with
     | false =>
       have HCW:Hid (calmV b=2*cv):=hid (by unfold calmV;rw [has,<- HCV.out];simp)
       rw [has] at d11
       clear has
       go_wp2_with fail
       go_meet
       case rel=>exact ⟨by rw [HCW.out],rfl⟩
     | true =>
       have HCW:Hid (calmV b=2*cv+1):=hid (by unfold calmV;rw [has,<- HCV.out];simp)
       rw [has] at d11
       clear has
       go_wp2_with fail
       go_meet
       case rel=>exact ⟨by rw [HCW.out],rfl⟩
    case rest =>
     obtain ⟨rfl,rfl⟩:=hcut
     clear d11 HCV hcv1 hcv2
     go_upto_region 10 with fail
     first
      | (refine mvMap_any (q3:=calmV b) HWF.out.1 HWF.out.2 ⟨HK5.out.a.cell 0,HK5.out.a.cell 1,HBD5.out.cell 0,HBD5.out.cell 1,HBD5.out.cell 2,HBD5.out.cell 3,HBD5.out.cell 4,HBD5.out.cell 5⟩ ?_)
      | (go_step;refine mvMap_any (q3:=calmV b) HWF.out.1 HWF.out.2 ⟨HK5.out.a.cell 0,HK5.out.a.cell 1,HBD5.out.cell 0,HBD5.out.cell 1,HBD5.out.cell 2,HBD5.out.cell 3,HBD5.out.cell 4,HBD5.out.cell 5⟩ ?_)
      | (go_step;go_step;refine mvMap_any (q3:=calmV b) HWF.out.1 HWF.out.2 ⟨HK5.out.a.cell 0,HK5.out.a.cell 1,HBD5.out.cell 0,HBD5.out.cell 1,HBD5.out.cell 2,HBD5.out.cell 3,HBD5.out.cell 4,HBD5.out.cell 5⟩ ?_)
      | (go_step;go_step;go_step;refine mvMap_any (q3:=calmV b) HWF.out.1 HWF.out.2 ⟨HK5.out.a.cell 0,HK5.out.a.cell 1,HBD5.out.cell 0,HBD5.out.cell 1,HBD5.out.cell 2,HBD5.out.cell 3,HBD5.out.cell 4,HBD5.out.cell 5⟩ ?_)
      | (go_step;go_step;go_step;go_step;refine mvMap_any (q3:=calmV b) HWF.out.1 HWF.out.2 ⟨HK5.out.a.cell 0,HK5.out.a.cell 1,HBD5.out.cell 0,HBD5.out.cell 1,HBD5.out.cell 2,HBD5.out.cell 3,HBD5.out.cell 4,HBD5.out.cell 5⟩ ?_)
     intros
     rename_i mb va vb w6 H6
     have HK6:=hid (HK5.out.below H6.out.2)
     have HMV6:Hid (MvF w6 mb va vb m0 m1 b.px b.py b.ang b.vx b.vy b.spin (calmV b)):=hid H6.out.1
     have HE6:=hid (HE5.out.below H6.out.2 HE5.out.lt)
     have HB6:Hid (Below w.heap.size w w6):=hid (HB5.out.trans (H6.out.2.mono HB5.out.size))
     clear H6 HK5 HE5 HBD5 HB5
     have o2:w6.cell? ⟨oA,2,none⟩=some (.slice piA pim pic):=HK6.out.ob.cell 2
     go_wp2_with fail
     clear o2
     obtain ⟨wi,hwi⟩:∃ z,z=w6:=⟨_,rfl⟩
     have HWI:=hid hwi
     clear hwi
     go_loopw [81] (fun tv wx=>∃ (t:Nat) (its2:List It),t<=pim/\tv=.int i64 t/\Hid (MvK wx base ⟨pkA,pkn,pkc,pks,pgA,pgn,pgc,pgens,piA,pim,pic,its2⟩ wA sA aA oA rA #[.slice kA kn kc,.slice gA gn gc,.slice iA im ic] #[.slice bA bn bc,.slice jA jn jc,.slice cA cn cc,.int i64 gx,.int i64 gy,.int i64 st] #[.int i64 m0,.int i64 m1,.int i64 m2,.int i64 m3,.int i64 m4]/\its2.map It.p=((its1.map It.p).take t).map (fun x:Iv=>if x.1=e then bwUp m0 m1 d0 d1 b x else x)++((its1.map It.p).drop t).map id/\MvF wx mb va vb m0 m1 b.px b.py b.ang b.vx b.vy b.spin (calmV b)/\Bk wx ea 128 #[.int i64 e.1,.int i64 e.2]/\Below w.heap.size w wx)) (fun tv _=>pim-(intOf tv).toNat)
     case atStart=>exact ⟨0,its1,Nat.zero_le _,rfl,hid ⟨HK6.out,by simp,HMV6.out,HE6.out,HB6.out⟩⟩
     case round =>
      clear HK6 HMV6 HE6 HB6
      obtain ⟨t,its2,ht,rfl,HT⟩:=hrel
      obtain ⟨w7,rfl⟩:∃ z,z=wr:=⟨_,rfl⟩
      have HIC:Hid (pim<=pic/\pic<=9223372036854775807/\pim=its2.length):=hid ⟨HT.out.1.o.wd.its.cap,HT.out.1.o.wd.its.cap2,HT.out.1.o.wd.its.len⟩
      obtain ⟨hic1,hic2,hic3⟩:=HIC.out
      by_cases htl:t<pim
      . obtain ⟨x,hx⟩:∃ z,its2[t]?=some z:=⟨_,List.getElem?_eq_getElem (by rw [<- hic3];exact htl)⟩
        have HX:=hid hx
        obtain ⟨xb,xo,hxA,hxb,i0,i1,i2⟩:=Rd.it HT.out.1.o.wd.its.ok_.rd htl hx
        dsimp only at hxA
        subst hxA
        have htz:(t:Int)<pim:=by omega
        have htz0:(0:Int)<=t:=by omega
        have HXL:Hid ((its1.map It.p)[t]?=some x.p):=hid (by
         have h1:=congrArg List.length HT.out.2.1
         simp only [List.length_map,List.length_append,List.length_take,List.length_drop] at h1
         obtain ⟨z,hz⟩:∃ z,(its1.map It.p)[t]?=some z:=⟨_,List.getElem?_eq_getElem (by rw [List.length_map];omega)⟩
         have h2:=part_at HT.out.2.1 hz
         rw [List.getElem?_map,hx] at h2
         injection h2 with h2
         rw [hz,h2]
         rfl)
        have HNX:Hid (∀ c∈x.cms,0<=c.k):=hid fun c hc=>HNN.out x.p (List.mem_of_getElem? HXL.out) c.p (List.mem_map_of_mem hc)
        have hitc:=(HT.out.1.o.wd.its.ok x (List.mem_of_getElem? hx)).cs
        have HXC:Hid (x.n=x.cms.length/\x.n<=x.c/\x.c<=9223372036854775807):=hid ⟨hitc.len,hitc.cap,hitc.cap2⟩
        clear hx hxb hitc
        obtain ⟨xe,hxe⟩:∃ z,z=x.e:=⟨_,rfl⟩
        obtain ⟨xg,hxg⟩:∃ z,z=x.g:=⟨_,rfl⟩
        obtain ⟨xA,hxA⟩:∃ z,z=x.A:=⟨_,rfl⟩
        obtain ⟨xn,hxn⟩:∃ z,z=x.n:=⟨_,rfl⟩
        obtain ⟨xc,hxc⟩:∃ z,z=x.c:=⟨_,rfl⟩
        rw [<- hxe] at i0
        rw [<- hxg] at i1
        rw [<- hxA,<- hxn,<- hxc] at i2
        have HXE:Hid (xe=x.e/\xg=x.g/\xA=x.A/\xn=x.n/\xc=x.c):=hid ⟨hxe,hxg,hxA,hxn,hxc⟩
        obtain ⟨hxc1,hxc2,hxc3⟩:=HXC.out
        rw [<- hxn] at hxc1 hxc2
        rw [<- hxc] at hxc2 hxc3
        clear hxe hxg hxA hxn hxc hxc1
        obtain ⟨xa,hxa⟩:∃ z,z=w7.heap.size:=⟨_,rfl⟩
        obtain ⟨w8,hw8⟩:∃ z,z=w7.alloc (.cells #[.int i64 xe,.int i64 xg,.slice xA xn xc] 147):=⟨_,rfl⟩
        have hb8:Below w7.heap.size w7 w8:=by rw [hw8];exact (Below.refl _ _).alloc (Nat.le_refl _) _
        have HXB:Hid (Bk w8 xa 147 #[.int i64 xe,.int i64 xg,.slice xA xn xc]):=hid (by rw [hw8,hxa];exact Bk.new _ _ _)
        have HK8:=hid (HT.out.1.below hb8)
        have HMV8:=hid (HT.out.2.2.1.below hb8)
        have HE8:=hid (HT.out.2.2.2.1.below hb8 HT.out.2.2.2.1.lt)
        have HB8:Hid (Below w.heap.size w w8):=hid (HT.out.2.2.2.2.trans (hb8.mono HT.out.2.2.2.2.size))
        have HPT:=hid HT.out.2.1
        clear hb8 HT
        go_upto_region 14 with fail
        rw [<- hw8,<- hxa]
        clear hw8 hxa i0 i1 i2
        have e0:w8.cell? ⟨ea,0,none⟩=some (.int i64 e.1):=HE8.out.cell 0
        have e1:w8.cell? ⟨ea,1,none⟩=some (.int i64 e.2):=HE8.out.cell 1
        have y0:w8.cell? ⟨xa,0,none⟩=some (.int i64 xe):=HXB.out.cell 0
        have y1:w8.cell? ⟨xa,1,none⟩=some (.int i64 xg):=HXB.out.cell 1
        have y2:w8.cell? ⟨xa,2,none⟩=some (.slice xA xn xc):=HXB.out.cell 2
        have hq:=fun wx=>eq128 xe xg e.1 e.2 wx
        by_cases hee:xe=e.1/\xg=e.2
        . have HEE:Hid (x.p.1=e):=hid (Prod.ext (by rw [<- hee.1,HXE.out.1];rfl) (by rw [<- hee.2,HXE.out.2.1];rfl))
          have hd:decide (xe=e.1/\xg=e.2)=true:=decide_eq_true hee
          rw [hd] at hq
          clear hee hd
          go_upto_region 16 with fail
          clear hq e0 e1 y0 y1 y2
          have HS0:Hid (SeR w8 base xA xn xc (upC m0 m1 d0 d1 b) x.cms x.cms 0):=hid (by
           have h1:=HK8.out.o.sp.row x (List.mem_of_getElem? HX.out)
           rw [HXE.out.2.2.1,HXE.out.2.2.2.1,HXE.out.2.2.2.2]
           exact ⟨h1,rfl,by simp,(HK8.out.o.wd.its.ok x (List.mem_of_getElem? HX.out)).cs.ok⟩)
          obtain ⟨wj,hwj⟩:∃ z,z=w8:=⟨_,rfl⟩
          have HWJ:=hid hwj
          clear hwj
          go_wp2_with fail
          go_loopw [92] (fun jv wx=>∃ (j:Nat) (l1:List Cm),j<=xn/\jv=.int i64 j/\Hid (SeR wx base xA xn xc (upC m0 m1 d0 d1 b) x.cms l1 j/\FqR (.slice xA xn xc) base w8 wx/\MvF wx mb va vb m0 m1 b.px b.py b.ang b.vx b.vy b.spin (calmV b))) (fun jv _=>xn-(intOf jv).toNat)
          case atStart=>exact ⟨0,x.cms,Nat.zero_le _,rfl,hid ⟨HS0.out,FqR.refl,HMV8.out⟩⟩
          case round =>
           obtain ⟨j,l1,hj,rfl,HJ⟩:=hrel
           obtain ⟨w9,rfl⟩:∃ z,z=wr:=⟨_,rfl⟩
           by_cases hjl:j<xn
           . obtain ⟨g,rfl⟩:∃ g,xA=some ⟨g,0,none⟩:=by
              rcases HJ.out.1.own.2 with ⟨_,e2⟩ | ⟨g,cap,cur,e1,_⟩
              . omega
              . injection e1 with e1
                exact ⟨g,e1⟩
             have hjz:(j:Int)<xn:=by omega
             have hjz0:(0:Int)<=j:=by omega
             have HCN:Hid (xn=x.cms.length):=hid (by rw [HXE.out.2.2.2.1];exact HXC.out.1)
             obtain ⟨z,hz⟩:∃ z,l1[j]?=some z:=⟨_,List.getElem?_eq_getElem (by rw [HJ.out.1.len,<- HCN.out];exact hjl)⟩
             have HZ:=hid hz
             have HZK:Hid (0<=z.k):=hid (by
              obtain ⟨y,hy,he⟩:=HJ.out.1.at_ HZ.out
              have h1:=HNX.out y (List.mem_of_getElem? hy)
              have h2:z.k=y.k:=congrArg Prod.fst he
              omega)
             have HWB:Hid (Bk w9 wA 52 #[.slice kA kn kc,.slice gA gn gc,.slice iA im ic]/\Bk w9 xa 147 #[.int i64 xe,.int i64 xg,.slice (some ⟨g,0,none⟩) xn xc]/\KsOk w9 B kA kn kc ks/\base<=w9.heap.size):=hid (by
              have hk:=HJ.out.2.1.kx
              have hb:Below base w w9:=(by rw [HBS.out];exact HB8.out:Below base w w8).trans HJ.out.2.1.bel
              exact ⟨hk.bk HK8.out.wb (by decide),hk.bk HXB.out (by decide),HKS.out.below (hb.mono HLO.out),by rw [HBS.out];exact (by rw [<- HBS.out];exact hb:Below w.heap.size w w9).size⟩)
             obtain ⟨f,hf1,vn,hf2⟩:=HJ.out.2.2.says HNE.out HD0.out HD1.out z HZK.out
             have HF1:=hid hf1
             have HF2:=hid hf2
             clear hz hf1 hf2
             go_upto_if 93 with fail
             first
              | (refine mvCm_any HWB.out.2.2.1 HLO.out HWB.out.2.2.2 HWB.out.1 HWB.out.2.1 HF1.out HJ.out.1 HCN.out hjl HZ.out HF2.out ?_)
              | (go_step;refine mvCm_any HWB.out.2.2.1 HLO.out HWB.out.2.2.2 HWB.out.1 HWB.out.2.1 HF1.out HJ.out.1 HCN.out hjl HZ.out HF2.out ?_)
              | (go_step;go_step;refine mvCm_any HWB.out.2.2.1 HLO.out HWB.out.2.2.2 HWB.out.1 HWB.out.2.1 HF1.out HJ.out.1 HCN.out hjl HZ.out HF2.out ?_)
              | (go_step;go_step;go_step;refine mvCm_any HWB.out.2.2.1 HLO.out HWB.out.2.2.2 HWB.out.1 HWB.out.2.1 HF1.out HJ.out.1 HCN.out hjl HZ.out HF2.out ?_)
              | (go_step;go_step;go_step;go_step;refine mvCm_any HWB.out.2.2.1 HLO.out HWB.out.2.2.2 HWB.out.1 HWB.out.2.1 HF1.out HJ.out.1 HCN.out hjl HZ.out HF2.out ?_)
              | (go_step;go_step;go_step;go_step;go_step;refine mvCm_any HWB.out.2.2.1 HLO.out HWB.out.2.2.2 HWB.out.1 HWB.out.2.1 HF1.out HJ.out.1 HCN.out hjl HZ.out HF2.out ?_)
             intros
             rename_i l2 wA2 H9
             have HJN:Hid (SeR wA2 base (some ⟨g,0,none⟩) xn xc (upC m0 m1 d0 d1 b) x.cms l2 (j+1)/\FqR (.slice (some ⟨g,0,none⟩) xn xc) base w8 wA2/\MvF wA2 mb va vb m0 m1 b.px b.py b.ang b.vx b.vy b.spin (calmV b)):=hid ⟨H9.out.1,HJ.out.2.1.trans H9.out.2,HJ.out.2.2.fqr HJ.out.1.own H9.out.2⟩
             clear H9 HJ HF1 HF2 HWB HZ HZK HCN
             go_wp2_with fail
             go_roundw
             case measure=>simp [intOf];omega
             case rel=>exact ⟨j+1,l2,by omega,by go_num,HJN⟩
           . obtain rfl:xn=j:=by omega
             have HSE:Hid (SeR w9 base x.A x.n x.c (upC m0 m1 d0 d1 b) x.cms l1 x.cms.length/\FqR (.slice x.A x.n x.c) base w8 w9):=hid (by
              have h1:=HJ.out.1
              have h2:=HJ.out.2.1
              rw [HXE.out.2.2.1,HXE.out.2.2.2.2] at h1 h2
              have h3:xn=x.cms.length:=by rw [HXE.out.2.2.2.1];exact HXC.out.1
              rw [<- h3,<- HXE.out.2.2.2.1]
              exact ⟨h1,h2⟩)
             obtain ⟨hO,hP⟩:=HK8.out.o.set_ HX.out HSE.out.1 HSE.out.2
             have HTN:Hid (MvK w9 base ⟨pkA,pkn,pkc,pks,pgA,pgn,pgc,pgens,some ⟨xb,xo,none⟩,pim,pic,(its2.set t { x with cms:=l1 })⟩ wA sA aA oA rA #[.slice kA kn kc,.slice gA gn gc,.slice iA im ic] #[.slice bA bn bc,.slice jA jn jc,.slice cA cn cc,.int i64 gx,.int i64 gy,.int i64 st] #[.int i64 m0,.int i64 m1,.int i64 m2,.int i64 m3,.int i64 m4]/\(its2.set t { x with cms:=l1 }).map It.p=((its1.map It.p).take (t+1)).map (fun x:Iv=>if x.1=e then bwUp m0 m1 d0 d1 b x else x)++((its1.map It.p).drop (t+1)).map id/\MvF w9 mb va vb m0 m1 b.px b.py b.ang b.vx b.vy b.spin (calmV b)/\Bk w9 ea 128 #[.int i64 e.1,.int i64 e.2]/\Below w.heap.size w w9):=hid ⟨HK8.out.put hO HSE.out.2.kx,by
              rw [hP,HPT.out,<- map_set_take rfl HXL.out]
              congr 1
              show (x.p.1,x.p.2.map _)=if x.p.1=e then _ else _
              rw [if_pos HEE.out,bwUp_eq],HJ.out.2.2,HSE.out.2.kx.bk HE8.out (by decide),HB8.out.trans (by rw [<- HBS.out];exact HSE.out.2.bel)⟩
             clear hO hP HSE HJ HS0 HK8 HMV8 HE8 HB8 HXB
             go_wp2_with fail
             (try simp only [Exit.inBlock,Exit.then])
             go_roundw
             case measure=>simp [intOf];omega
             case rel=>exact ⟨t+1,its2.set t { x with cms:=l1 },by omega,by go_num,HTN⟩
        . have HEE:Hid (x.p.1≠e):=hid fun h=>hee ⟨by rw [HXE.out.1,<- h];rfl,by rw [HXE.out.2.1,<- h];rfl⟩
          have hd:decide (xe=e.1/\xg=e.2)=false:=decide_eq_false hee
          rw [hd] at hq
          clear hee hd
          have HTN:Hid (MvK w8 base ⟨pkA,pkn,pkc,pks,pgA,pgn,pgc,pgens,some ⟨xb,xo,none⟩,pim,pic,its2⟩ wA sA aA oA rA #[.slice kA kn kc,.slice gA gn gc,.slice iA im ic] #[.slice bA bn bc,.slice jA jn jc,.slice cA cn cc,.int i64 gx,.int i64 gy,.int i64 st] #[.int i64 m0,.int i64 m1,.int i64 m2,.int i64 m3,.int i64 m4]/\its2.map It.p=((its1.map It.p).take (t+1)).map (fun x:Iv=>if x.1=e then bwUp m0 m1 d0 d1 b x else x)++((its1.map It.p).drop (t+1)).map id/\MvF w8 mb va vb m0 m1 b.px b.py b.ang b.vx b.vy b.spin (calmV b)/\Bk w8 ea 128 #[.int i64 e.1,.int i64 e.2]/\Below w.heap.size w w8):=hid ⟨HK8.out,by
           rw [<- map_set_take HPT.out HXL.out]
           show _=(its2.map It.p).set t (if x.p.1=e then _ else _)
           rw [if_neg HEE.out]
           exact (List.set_getElem_self' (by rw [List.getElem?_map,HX.out];rfl)).symm,HMV8.out,HE8.out,HB8.out⟩
          clear HK8 HMV8 HE8 HB8 HXB HPT
          go_wp2_with fail
          (try simp only [Exit.inBlock,Exit.then])
          go_roundw
          case measure=>simp [intOf];omega
          case rel=>exact ⟨t+1,its2,by omega,by go_num,HTN⟩
      . obtain rfl:pim=t:=by omega
        have HSN:Hid (MvK w7 base ⟨pkA,pkn,pkc,pks,pgA,pgn,pgc,pgens,piA,pim,pic,its2⟩ wA sA aA oA rA #[.slice kA kn kc,.slice gA gn gc,.slice iA im ic] #[.slice bA bn bc,.slice jA jn jc,.slice cA cn cc,.int i64 gx,.int i64 gy,.int i64 st] #[.int i64 m0,.int i64 m1,.int i64 m2,.int i64 m3,.int i64 m4]/\its2.map It.p=mvF m0 m1 d0 d1 xp.its ((el.zip bl).take (i+1))/\Below w.heap.size w w7):=hid ⟨HT.out.1,by
         have h1:pim=(its1.map It.p).length:=by
          have h2:=congrArg List.length HT.out.2.1
          simp only [List.length_map,List.length_append,List.length_take,List.length_drop] at h2
          rw [List.length_map]
          omega
         rw [HT.out.2.1,h1,List.take_length,List.drop_length,List.map_nil,List.append_nil,mvF_take HZZ.out,<- HST.out.2.1]
         rfl,HT.out.2.2.2.2⟩
        clear HT HST
        go_wp2_with fail
        (try simp only [Exit.inBlock,Exit.then])
        go_roundw
        case measure=>simp [intOf];omega
        case rel=>exact ⟨i+1,its2,by omega,by go_num,HSN⟩
  . obtain rfl:en=i:=by omega
    have HIT:Hid (its1.map It.p=mvF m0 m1 d0 d1 xp.its (el.zip bl)):=hid (by
     rw [HST.out.2.1,List.take_of_length_le (by rw [List.length_zip,<- HER.out.2,<- HBR.out.2];omega)])
    have HKI:=hid HST.out.1
    have HB9:=hid HST.out.2.2
    have s2:w3.cell? ⟨sA,2,none⟩=some (.slice cA cn cc):=HKI.out.s.cell 2
    clear HST
    go_wp2_with fail
    clear s2
    go_loopw [22,127] (fun qv jv wx=>∃ (j kc':Nat) (kA':Option Addr),j<=cn/\jv=.int i64 j/\qv=.slice kA' j kc'/\Hid (wx.ownsRow base 131 10 (.slice kA' j kc') j (ctCs ((cl.take j).map (conN el)))/\Kx 0 [131] w3 wx/\Below base w3 wx)) (fun _ jv _=>cn-(intOf jv).toNat)
    case atStart=>exact ⟨0,0,none,Nat.zero_le _,rfl,rfl,hid ⟨by simpa [ctCs] using World.ownsRow_nil _ _ _ _,Kx.refl,Below.refl _ _⟩⟩
    case round =>
     obtain ⟨j,kc',kA',hj,rfl,rfl,HCS⟩:=hrel
     obtain ⟨w7,rfl⟩:∃ z,z=wr:=⟨_,rfl⟩
     have HBJ:Hid (Below base w w7):=hid ((by rw [HBS.out];exact HB9.out:Below base w w3).trans HCS.out.2.2)
     by_cases hlt2:j<cn
     . obtain ⟨ct,hct⟩:∃ ct,cl[j]?=some ct:=⟨_,List.getElem?_eq_getElem (by have:=HCR.out.2.1;omega)⟩
       have HCT:=hid hct
       have hjz:(j:Int)<cn:=by omega
       have hjz0:(0:Int)<=j:=by omega
       clear hct
       have HRC:Hid (Rd w7 B 10 cA cn (ctCs cl)):=hid (HCR.out.1.below (HBJ.out.mono HLO.out))
       have HEL2:Hid (Rd w7 B 2 eA en (enCs el)):=hid (HER.out.1.below (HBJ.out.mono HLO.out))
       have HKN:Hid ((j+1)*80<=140737488355328):=hid (by have h2:=HCR.out.2.2;omega)
       have HSZ:Hid (base<=w7.heap.size):=hid (by rw [HBS.out];exact (by rw [<- HBS.out];exact HBJ.out:Below w.heap.size w w7).size)
       have HSB:Hid (B<=w7.heap.size):=hid (Nat.le_trans HLO.out HSZ.out)
       have HCO:=hid HCS.out.1
       have HOC:=hid (HOK.out ct (List.mem_of_getElem? HCT.out))
       go_upto_if 128 with fail
       first
        | (refine mvCon_any HRC.out hlt2 hcc hcc2 HCT.out HEL2.out HER.out.2 hec hec2 HOC.out HCO.out HKN.out HSZ.out HSB.out ?_)
        | (go_step;refine mvCon_any HRC.out hlt2 hcc hcc2 HCT.out HEL2.out HER.out.2 hec hec2 HOC.out HCO.out HKN.out HSZ.out HSB.out ?_)
        | (go_step;go_step;refine mvCon_any HRC.out hlt2 hcc hcc2 HCT.out HEL2.out HER.out.2 hec hec2 HOC.out HCO.out HKN.out HSZ.out HSB.out ?_)
        | (go_step;go_step;go_step;refine mvCon_any HRC.out hlt2 hcc hcc2 HCT.out HEL2.out HER.out.2 hec hec2 HOC.out HCO.out HKN.out HSZ.out HSB.out ?_)
        | (go_step;go_step;go_step;go_step;refine mvCon_any HRC.out hlt2 hcc hcc2 HCT.out HEL2.out HER.out.2 hec hec2 HOC.out HCO.out HKN.out HSZ.out HSB.out ?_)
        | (go_step;go_step;go_step;go_step;go_step;refine mvCon_any HRC.out hlt2 hcc hcc2 HCT.out HEL2.out HER.out.2 hec hec2 HOC.out HCO.out HKN.out HSZ.out HSB.out ?_)
       intros
       rename_i gc9 c9 w9 H9
       have HSN:Hid (w9.ownsRow base 131 10 (.slice (some ⟨gc9,0,none⟩) (j+1) c9) (j+1) (ctCs ((cl.take (j+1)).map (conN el)))/\Kx 0 [131] w3 w9/\Below base w3 w9):=hid (by
        obtain ⟨_,p2,p3,p4⟩:=H9.out
        refine ⟨?_,HCS.out.2.1.trans p3,HCS.out.2.2.trans p4⟩
        rw [List.take_add_one,HCT.out,Option.toList_some,List.map_append,List.map_cons,List.map_nil]
        exact p2)
       clear HCS H9 HRC HEL2 HCO HKN HSZ HSB HCT HBJ HOC
       go_wp2_with fail
       go_roundw
       case measure=>simp [intOf];omega
       case rel=>exact ⟨j+1,c9,some ⟨gc9,0,none⟩,by omega,by go_num,rfl,HSN⟩
     . obtain rfl:cn=j:=by omega
       have HOB:Hid (Bk w7 oA 52 #[.slice pkA pkn pkc,.slice pgA pgn pgc,.slice piA pim pic]):=hid (HCS.out.2.1.bk HKI.out.ob (by decide))
       have HRB:Hid (Bk w7 rA 52 #[.slice none 0 0,.slice none 0 0,.slice none 0 0]):=hid (HCS.out.2.1.bk HKI.out.r (by decide))
       have o0:w7.cell? ⟨oA,0,none⟩=some (.slice pkA pkn pkc):=HOB.out.cell 0
       have o1:w7.cell? ⟨oA,1,none⟩=some (.slice pgA pgn pgc):=HOB.out.cell 1
       have o2:w7.cell? ⟨oA,2,none⟩=some (.slice piA pim pic):=HOB.out.cell 2
       have z0:w7.cell? ⟨rA,0,none⟩=some (.slice none 0 0):=HRB.out.cell 0
       have z1:w7.cell? ⟨rA,1,none⟩=some (.slice none 0 0):=HRB.out.cell 1
       have z2:w7.cell? ⟨rA,2,none⟩=some (.slice none 0 0):=HRB.out.cell 2
       have y0:=HRB.out.frozen 0
       have y1:=HRB.out.frozen 1
       have y2:=HRB.out.frozen 2
       go_wp2_with fail
       (try simp only [Exit.inBlock,Exit.then])
       refine bodyPost_ret (v:=.tuple #[.agg #[.slice pkA pkn pkc,.slice pgA pgn pgc,.slice piA pim pic],.slice kA' cn kc']) ?_ rfl ?_
       . rw [results_cell_tmp rfl]
         go_simp
       . obtain ⟨we,hwe⟩:∃ z,z=((w7.setCell ⟨rA,0,none⟩ (.slice pkA pkn pkc)).setCell ⟨rA,1,none⟩ (.slice pgA pgn pgc)).setCell ⟨rA,2,none⟩ (.slice piA pim pic):=⟨_,rfl⟩
         have hke:Kx 0 [52] w7 we:=by
          rw [hwe]
          exact Kx.set3 Kx.refl HRB.out (Nat.zero_le _) (by simp) 0 1 2 _ _ _
         have hbe:Below base w7 we:=by
          rw [hwe]
          have hlo:=HRL.out
          have hbx:=Below.refl base w7
          (repeat' first | with_reducible exact hbx | with_reducible refine Below.setCell ?_ hlo _)
         rw [<- hwe]
         refine ⟨by rw [<- HBS.out];exact HBJ.out.trans hbe,⟨pkA,pkn,pkc,pks,pgA,pgn,pgc,pgens,piA,pim,pic,its1⟩,kA',cn,kc',rfl,HCR.out.2.1,hid ⟨?_,?_,?_⟩⟩
         . exact (HKI.out.o.wd.keep HCS.out.2.1 (by decide) (by decide) (by decide) (by decide) (by decide)).keep hke (by decide) (by decide) (by decide) (by decide) (by decide)
         . have h2:=HIP.out
           show (⟨pks.map Kd.p,pgens,its1.map It.p⟩:Wv Kp2)=_
           rw [HIT.out,h2.2.1,h2.2.2]
         . rw [<- HBS.out]
           have h1:=HCS.out.1
           rw [show cl.take cn=cl from by rw [HCR.out.2.1];exact List.take_length] at h1
           exact hke.own h1 (by decide)
end Go.Proofs.Ytnidcmhfbkdioaa
