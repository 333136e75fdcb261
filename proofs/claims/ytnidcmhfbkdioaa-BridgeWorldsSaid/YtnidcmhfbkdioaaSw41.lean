/-
  bridge.World. Conditions: what is read can be read; contacts that memory holds; a place and a motion hold values.
-/
import Derived.Test.YtnidcmhfbkdioaaSw10
import Derived.Test.YtnidcmhfbkdioaaSw40
namespace Go.Proofs.Ytnidcmhfbkdioaa
open Go.RowKit
open Go.IntKind (i64)
open Go.Lib (hid)
set_option maxRecDepth 100000
def bwF (m0 m1:Int) (d0 d1:ByteArray × List Fd) (l:List Iv) (rs:List ((Int × Int) × By)):List Iv:=rs.foldl (bwOne m0 m1 d0 d1) l
def kdAt (ks:List (ByteArray × List Fd)) (m:Int):ByteArray × List Fd:=ks.getD m.toNat (⟨#[]⟩,[])
theorem bwF_take {m0 m1:Int} {d0 d1:ByteArray × List Fd} {l:List Iv} {rs:List ((Int × Int) × By)} {i:Nat} {r:(Int × Int) × By} (h:rs[i]?=some r):bwF m0 m1 d0 d1 l (rs.take (i+1))=bwOne m0 m1 d0 d1 (bwF m0 m1 d0 d1 l (rs.take i)) r:=by
 unfold bwF
 rw [List.take_add_one,h,List.foldl_append]
 rfl
theorem PlOk.one {m0 m1:Int} {d0 d1:ByteArray × List Fd} {l:List Iv} {r:(Int × Int) × By} (h:PlOk m0 l) (h0:0<=m0->∀ b,plF d0 b≠[]) (h1:0<=m1->∀ b,moF d1 b≠[]):PlOk m0 (bwOne m0 m1 d0 d1 l r):=by
 unfold bwOne
 cases hx:l[(findP l r.1.1 r.1.2).toNat]? with
 | none=>exact h
 | some x =>
   intro z hz
   rcases List.mem_or_eq_of_mem_set hz with hz | rfl
   . exact h z hz
   . obtain ⟨g1,g2⟩:=h x (List.mem_of_getElem? hx)
     refine ⟨by simpa [bwUp,updI] using g1,fun c hc=>?_⟩
     have hc':c∈(x.2.map (updC m0 (plF d0 r.2))).map (updC m1 (moF d1 r.2)):=hc
     obtain ⟨c1,hc1,rfl⟩:=List.mem_map.1 hc'
     obtain ⟨c0,hc0,rfl⟩:=List.mem_map.1 hc1
     obtain ⟨n0,n1⟩:=g2 c0 hc0
     unfold updC
     by_cases e0:c0.1=m0
     . rw [if_pos e0]
       by_cases e1:((m0,plF d0 r.2):Cv).1=m1
       . rw [if_pos e1]
         have e2:0<=m1:=by rw [<- e1];exact e0▸n0
         exact ⟨e2,fun _=>h1 e2 _⟩
       . rw [if_neg e1]
         have e2:0<=m0:=e0▸n0
         exact ⟨e2,fun _=>h0 e2 _⟩
     . rw [if_neg e0]
       by_cases e1:c0.1=m1
       . rw [if_pos e1]
         have e2:0<=m1:=e1▸n0
         exact ⟨e2,fun _=>h1 e2 _⟩
       . rw [if_neg e1]
         exact ⟨n0,n1⟩
theorem PlOk.bwF {m0 m1:Int} {d0 d1:ByteArray × List Fd} {rs:List ((Int × Int) × By)} (h0:0<=m0->∀ b,plF d0 b≠[]) (h1:0<=m1->∀ b,moF d1 b≠[]):∀ {l:List Iv},PlOk m0 l->PlOk m0 (bwF m0 m1 d0 d1 l rs):=by
 induction rs with
 | nil=>intro l h;exact h
 | cons r rs ih=>intro l h;exact ih (h.one h0 h1)
def BwP (w:World) (cv mv:Int) (en bn:Nat) (m0 m1:Int) (d0 d1:ByteArray × List Fd) (p:Wv Kp2) (rs:List ((Int × Int) × By)) (el:List (Int × Int)) (cl:List Ct) (e:Ending) (w':World):Prop :=
 Below w.heap.size w w' /\
 ((cv≠0/\e=.returned (.tuple #[.agg #[.slice none 0 0,.slice none 0 0,.slice none 0 0],.slice none 0 0,.int i64 cv])) \/
  (cv=0/\mv≠0/\e=.returned (.tuple #[.agg #[.slice none 0 0,.slice none 0 0,.slice none 0 0],.slice none 0 0,.int i64 mv])) \/
  (cv=0/\mv=0/\en≠bn/\e=.returned (.tuple #[.agg #[.slice none 0 0,.slice none 0 0,.slice none 0 0],.slice none 0 0,.int i64 1])) \/
  (cv=0/\mv=0/\en=bn/\(∃ i r,rs[i]?=some r/\bwBad m0 (bwF m0 m1 d0 d1 p.its (rs.take i)) r.1=true)/\e=.returned (.tuple #[.agg #[.slice none 0 0,.slice none 0 0,.slice none 0 0],.slice none 0 0,.int i64 4])) \/
  (cv=0/\mv=0/\en=bn/\(∀ i r,rs[i]?=some r->bwBad m0 (bwF m0 m1 d0 d1 p.its (rs.take i)) r.1=false)/\(∃ c∈cl,conOk el c=false)/\e=.returned (.tuple #[.agg #[.slice none 0 0,.slice none 0 0,.slice none 0 0],.slice none 0 0,.int i64 1])) \/
  (cv=0/\mv=0/\en=bn/\(∀ i r,rs[i]?=some r->bwBad m0 (bwF m0 m1 d0 d1 p.its (rs.take i)) r.1=false)/\(∀ c∈cl,conOk el c=true)/\∃ (y:Wd) (A:Option Addr) (n c:Nat),e=.returned (.tuple #[y.v,.slice A n c,.int i64 0])/\n=cl.length/\Hid (WdY w' 0 y/\y.p={ p with its:=bwF m0 m1 d0 d1 p.its rs }/\w'.ownsRow w.heap.size 131 10 (.slice A n c) n (ctCs (cl.map (conN el))))))
set_option maxHeartbeats 16000000 in
theorem bworld_any {w:World} {B bn bc jn jc cn cc en ec:Nat} {bA jA cA eA:Option Addr} {bl:List By} {cl:List Ct} {el:List (Int × Int)} {x:Wd} {gx gy st m0 m1 m2 cv mv:Int} {d0 d1:ByteArray × List Fd}
 (h:WdOk w B x) (hb:Rd w B 13 bA bn (byCs bl)) (hbl:bn=bl.length) (hbc:bn<=bc) (hbc2:bc<=9223372036854775807)
 (hc:Rd w B 10 cA cn (ctCs cl)) (hcl:cn=cl.length) (hcc:cn<=cc) (hcc2:cc<=9223372036854775807) (hcn:cn*80<=140737488355328)
 (he:Rd w B 2 eA en (enCs el)) (hel:en=el.length) (hec:en<=ec) (hec2:ec<=9223372036854775807)
 (hcv:cv=wcheckF x.p) (hmv:mapF (x.ks.map Kd.p)=((m0,m1,m2),mv)) (hsm:cv=0->SmallV x.p) (hpl:cv=0->mv=0->PlOk m0 x.p.its)
 (hK:cv=0->mv=0->(0<=m0->(∃ K:Nat,m0=K/\(x.ks.map Kd.p)[K]?=some d0)/\∀ b,plF d0 b≠[])/\(0<=m1->(∃ K:Nat,m1=K/\(x.ks.map Kd.p)[K]?=some d1)/\∀ b,moF d1 b≠[])) :
 Calls Try.prog 66 #[x.v,.agg #[.slice bA bn bc,.slice jA jn jc,.slice cA cn cc,.int i64 gx,.int i64 gy,.int i64 st],.slice eA en ec] w (BwP w cv mv en bn m0 m1 d0 d1 x.p (el.zip bl) el cl):=by
 have hck0:=fun (w1:World) (hb:Below w.heap.size w w1)=>wcheck_any (h.below (hb.mono h.ks.lo))
 rw [<- hcv] at hck0
 have hof0:=fun (w1:World) (hb:Below w.heap.size w w1)=>of_says (h.ks.below (hb.mono h.ks.lo))
 rw [hmv] at hof0
 have hcp0:=fun (w1:World) (hb:Below w.heap.size w w1) (hs:SmallV x.p)=>wcopy2_any (h.below (hb.mono h.ks.lo)) hs
 have HLO:Hid (B<=w.heap.size):=hid h.ks.lo
 obtain ⟨xp,hxp⟩:∃ z,z=x.p:=⟨_,rfl⟩
 rw [<- hxp] at hsm hpl hcp0
 have hxk:xp.ks=x.ks.map Kd.p:=by rw [hxp];rfl
 have hxi:xp.its=x.its.map It.p:=by rw [hxp];rfl
 rw [<- hxk] at hK
 rw [<- hxp]
 clear hcv hmv hxp hxk hxi
 obtain ⟨kA,kn,kc,ks,gA,gn,gc,gens,iA,im,ic,its⟩:=x
 dsimp only [Wd.v] at hck0 hof0 hcp0 ⊢
 clear h
 obtain ⟨base,hbase⟩:∃ z,z=w.heap.size:=⟨_,rfl⟩
 obtain ⟨W0,hW0⟩:∃ z,z=((w.alloc (.cells #[.slice kA kn kc,.slice gA gn gc,.slice iA im ic] 52)).alloc (.cells #[.slice bA bn bc,.slice jA jn jc,.slice cA cn cc,.int i64 gx,.int i64 gy,.int i64 st] 115)).alloc (.cells #[.slice none 0 0,.slice none 0 0,.slice none 0 0] 52):=⟨_,rfl⟩
 have hb0:Below w.heap.size w W0:=by rw [hW0];exact (((Below.refl _ _).alloc (Nat.le_refl _) _).alloc (by simp) _).alloc (by simp;omega) _
 have HWA:Hid (Bk W0 base 52 #[.slice kA kn kc,.slice gA gn gc,.slice iA im ic]):=hid (by rw [hW0,hbase];exact ((Bk.new _ _ _).alloc _).alloc _)
 have HSA:Hid (Bk W0 (base+1) 115 #[.slice bA bn bc,.slice jA jn jc,.slice cA cn cc,.int i64 gx,.int i64 gy,.int i64 st]):=hid (by rw [hW0,hbase];exact (Bk.twoB _ _ _ _).alloc _)
 have HRA:Hid (Bk W0 (base+1+1) 52 #[.slice none 0 0,.slice none 0 0,.slice none 0 0]):=hid (by
  rw [hW0,hbase]
  simpa using Bk.new ((w.alloc (.cells #[.slice kA kn kc,.slice gA gn gc,.slice iA im ic] 52)).alloc (.cells #[.slice bA bn bc,.slice jA jn jc,.slice cA cn cc,.int i64 gx,.int i64 gy,.int i64 st] 115)) 52 #[.slice none 0 0,.slice none 0 0,.slice none 0 0])
 have HCK:=hid hck0
 have HOF:=hid hof0
 have HCP:=hid hcp0
 have HB0:=hid hb0
 have HBS:Hid (base=w.heap.size):=hid hbase
 have HBR:Hid (Rd w B 13 bA bn (byCs bl)/\bn=bl.length):=hid ⟨hb,hbl⟩
 have HBC:Hid (bn<=bc/\bc<=9223372036854775807):=hid ⟨hbc,hbc2⟩
 have HCR:Hid (Rd w B 10 cA cn (ctCs cl)/\cn=cl.length/\cn*80<=140737488355328):=hid ⟨hc,hcl,hcn⟩
 have HCC:Hid (cn<=cc/\cc<=9223372036854775807):=hid ⟨hcc,hcc2⟩
 have HER:Hid (Rd w B 2 eA en (enCs el)):=hid he
 have HEN:Hid (en=el.length):=hid hel
 have HEC:Hid (en<=ec/\ec<=9223372036854775807):=hid ⟨hec,hec2⟩
 have HSM:=hid hsm
 have HPL:=hid hpl
 have HKK:=hid hK
 have he63:en<=9223372036854775807:=Nat.le_trans hec hec2
 have hc63:cn<=9223372036854775807:=Nat.le_trans hcc hcc2
 clear hck0 hof0 hcp0 hb0 hb hbl hbc hbc2 hc hcl hcc hcc2 hcn he hel hec hec2 hsm hpl hK
 go_enter Try.func66,Try.ntmps66
 go_upto_region 1 with fail
 rw [<- hW0,<- hbase]
 clear hW0 hbase
 obtain ⟨rA,hrA⟩:∃ z,z=base+1+1:=⟨_,rfl⟩
 rw [<- hrA] at HRA ⊢
 have HRL:Hid (base<=rA):=hid (by omega)
 clear hrA
 obtain ⟨sA,hsA⟩:∃ z,z=base+1:=⟨_,rfl⟩
 rw [<- hsA] at HSA ⊢
 clear hsA
 have a0:W0.cell? ⟨base,0,none⟩=some (.slice kA kn kc):=HWA.out.cell 0
 have a1:W0.cell? ⟨base,1,none⟩=some (.slice gA gn gc):=HWA.out.cell 1
 have a2:W0.cell? ⟨base,2,none⟩=some (.slice iA im ic):=HWA.out.cell 2
 go_wp2_with fail
 (with_reducible refine (HCK.out W0 HB0.out).mono ?_)
 rintro e w2 ⟨rfl,hb2⟩
 have HWA2:=hid (HWA.out.below hb2 HWA.out.lt)
 have HSA2:=hid (HSA.out.below hb2 HSA.out.lt)
 have HRA2:=hid (HRA.out.below hb2 HRA.out.lt)
 have HB2:Hid (Below w.heap.size w w2):=hid (HB0.out.trans (hb2.mono HB0.out.size))
 clear a0 a1 a2 hb2 HWA HSA HRA HCK
 by_cases hc:cv=0
 . have HCV:=hid hc
   have t0:(cv != 0)=false:=by simpa using hc
   clear hc
   have b0:w2.cell? ⟨base,0,none⟩=some (.slice kA kn kc):=HWA2.out.cell 0
   have b1:w2.cell? ⟨base,1,none⟩=some (.slice gA gn gc):=HWA2.out.cell 1
   have b2:w2.cell? ⟨base,2,none⟩=some (.slice iA im ic):=HWA2.out.cell 2
   go_wp2_with fail
   (with_reducible refine (HOF.out w2 HB2.out).mono ?_)
   rintro e w3 ⟨rfl,hb3⟩
   obtain ⟨mA,hmA⟩:∃ z,z=w3.heap.size:=⟨_,rfl⟩
   obtain ⟨W4,hW4⟩:∃ z,z=w3.alloc (.cells #[.int i64 m0,.int i64 m1,.int i64 m2] 24):=⟨_,rfl⟩
   have hb4:Below w2.heap.size w2 W4:=by rw [hW4];exact hb3.alloc hb3.size _
   have HMA:Hid (Bk W4 mA 24 #[.int i64 m0,.int i64 m1,.int i64 m2]):=hid (by rw [hW4,hmA];exact Bk.new _ _ _)
   have HWA4:=hid (HWA2.out.below hb4 HWA2.out.lt)
   have HSA4:=hid (HSA2.out.below hb4 HSA2.out.lt)
   have HRA4:=hid (HRA2.out.below hb4 HRA2.out.lt)
   have HB4:Hid (Below w.heap.size w W4):=hid (HB2.out.trans (hb4.mono HB2.out.size))
   clear b0 b1 b2 HWA2 HSA2 HRA2 hb4 HOF
   go_upto_region 5 with fail
   rw [<- hW4,<- hmA]
   clear hW4 hmA hb3 HB2
   by_cases hm:mv=0
   . have HMV:=hid hm
     have t1:(mv != 0)=false:=by simpa using hm
     clear hm
     have s0:W4.cell? ⟨sA,0,none⟩=some (.slice bA bn bc):=HSA4.out.cell 0
     by_cases hne:en=bn
     . have HNE:=hid hne
       have hnez:(en:Int)=bn:=by omega
       have t2:((en:Int) != (bn:Int))=false:=by rw [hnez];exact bne_self_eq_false _
       have HPF:Hid ((0<=m0->∀ b,plF d0 b≠[])/\(0<=m1->∀ b,moF d1 b≠[])):=hid ⟨fun h=>((HKK.out HCV.out HMV.out).1 h).2,fun h=>((HKK.out HCV.out HMV.out).2 h).2⟩
       have HDP:Hid ((0<=m0->∃ K:Nat,m0=K/\xp.ks[K]?=some d0)/\(0<=m1->∃ K:Nat,m1=K/\xp.ks[K]?=some d1)):=hid ⟨fun h=>((HKK.out HCV.out HMV.out).1 h).1,fun h=>((HKK.out HCV.out HMV.out).2 h).1⟩
       clear hne HKK
       have b0:W4.cell? ⟨base,0,none⟩=some (.slice kA kn kc):=HWA4.out.cell 0
       have b1:W4.cell? ⟨base,1,none⟩=some (.slice gA gn gc):=HWA4.out.cell 1
       have b2:W4.cell? ⟨base,2,none⟩=some (.slice iA im ic):=HWA4.out.cell 2
       go_wp2_with fail
       (with_reducible refine (HCP.out W4 HB4.out (HSM.out HCV.out)).mono ?_)
       rintro e w5 ⟨y,rfl,hy1,hy2,hy3,hy4⟩
       obtain ⟨pkA,pkn,pkc,pks,pgA,pgn,pgc,pgens,piA,pim,pic,pits⟩:=y
       dsimp only [Wd.v]
       obtain ⟨oA,hoA⟩:∃ z,z=w5.heap.size:=⟨_,rfl⟩
       obtain ⟨W7,hW7⟩:∃ z,z=w5.alloc (.cells #[.slice pkA pkn pkc,.slice pgA pgn pgc,.slice piA pim pic] 52):=⟨_,rfl⟩
       have hb7:Below W4.heap.size W4 W7:=by rw [hW7];exact hy3.alloc hy3.size _
       have hb57:Below w5.heap.size w5 W7:=by rw [hW7];exact (Below.refl _ _).alloc (Nat.le_refl _) _
       have HB7:Hid (Below w.heap.size w W7):=hid (HB4.out.trans (hb7.mono HB4.out.size))
       have HKI0:Hid (BwK W7 W7 base B ⟨pkA,pkn,pkc,pks,pgA,pgn,pgc,pgens,piA,pim,pic,pits⟩ sA mA oA rA #[.slice bA bn bc,.slice jA jn jc,.slice cA cn cc,.int i64 gx,.int i64 gy,.int i64 st] #[.int i64 m0,.int i64 m1,.int i64 m2] bA bn bl):=hid (by
        have hOS:OutS w5 base ⟨pkA,pkn,pkc,pks,pgA,pgn,pgc,pgens,piA,pim,pic,pits⟩:=⟨hy1,⟨fun z hz=>by
         obtain ⟨g,h1,h2,h3,h4⟩:=hy4.row z hz
         exact ⟨g,h1,h2,by have h5:=HB4.out.size;have h6:=HBS.out;omega,h4⟩,hy4.apart⟩⟩
        refine ⟨hOS.keep (F:=[]) (Kx.of_below hb57) (by simp) (by simp) (by simp) (by simp) (by simp),HSA4.out.below hb7 HSA4.out.lt,HMA.out.below hb7 HMA.out.lt,by rw [hW7,hoA];exact Bk.new _ _ _,HRA4.out.below hb7 HRA4.out.lt,HBR.out.1.below (HB7.out.mono HLO.out),Kx.refl,Below.refl _ _,by rw [HBS.out];exact HLO.out,by have h1:=HB7.out.size;have h2:=HBS.out;omega,HRL.out⟩)
       have HIP:Hid (pits.map It.p=xp.its/\pks.map Kd.p=xp.ks/\pgens=xp.gens):=hid (by rw [<- hy2];exact ⟨rfl,rfl,rfl⟩)
       clear b0 b1 b2 s0 hy1 hy2 hy3 hy4 hb7 hb57 HWA4 HSA4 HRA4 HMA HB4 HCP HSM
       go_upto_region 10 with fail
       rw [<- hW7,<- hoA]
       clear hW7 hoA
       go_wp2_with fail
       go_loopw [48] (fun iv wx=>∃ (i:Nat) (its1:List It),i<=en/\iv=.int i64 i/\Hid (BwK W7 wx base B ⟨pkA,pkn,pkc,pks,pgA,pgn,pgc,pgens,piA,pim,pic,its1⟩ sA mA oA rA #[.slice bA bn bc,.slice jA jn jc,.slice cA cn cc,.int i64 gx,.int i64 gy,.int i64 st] #[.int i64 m0,.int i64 m1,.int i64 m2] bA bn bl/\its1.map It.p=bwF m0 m1 d0 d1 xp.its ((el.zip bl).take i)/\∀ j r,j<i->(el.zip bl)[j]?=some r->bwBad m0 (bwF m0 m1 d0 d1 xp.its ((el.zip bl).take j)) r.1=false)) (fun iv _=>en-(intOf iv).toNat)
       case atStart=>exact ⟨0,pits,Nat.zero_le _,rfl,hid ⟨HKI0.out,by simpa [bwF] using HIP.out.1,fun j r hj=>absurd hj (Nat.not_lt_zero _)⟩⟩
       case round =>
        clear HKI0
        obtain ⟨i,its1,hi,rfl,HST⟩:=hrel
        by_cases hlt:i<en
        . have hltb:i<bn:=by have:=HNE.out;omega
          obtain ⟨ee,hee⟩:∃ z,el[i]?=some z:=⟨_,List.getElem?_eq_getElem (by rw [<- HEN.out];exact hlt)⟩
          obtain ⟨bb,hbb⟩:∃ z,bl[i]?=some z:=⟨_,List.getElem?_eq_getElem (by rw [<- HBR.out.2];exact hltb)⟩
          have HEI:=hid hee
          have HBI:=hid hbb
          have HZ:Hid ((el.zip bl)[i]?=some (ee,bb)):=hid (by rw [List.getElem?_zip_eq_some];exact ⟨hee,hbb⟩)
          have hiz:(i:Int)<en:=by omega
          have hiz0:(0:Int)<=i:=by omega
          have HKI:Hid (BwK W7 wr base B ⟨pkA,pkn,pkc,pks,pgA,pgn,pgc,pgens,piA,pim,pic,its1⟩ sA mA oA rA #[.slice bA bn bc,.slice jA jn jc,.slice cA cn cc,.int i64 gx,.int i64 gy,.int i64 st] #[.int i64 m0,.int i64 m1,.int i64 m2] bA bn bl):=hid HST.out.1
          have HEL:Hid (Rd wr B 2 eA en (enCs el)):=hid (HER.out.below (by
           have h1:Below base w wr:=(by rw [HBS.out];exact HB7.out:Below base w W7).trans HKI.out.bel
           exact h1.mono HKI.out.lo))
          have hmk:pks.map Kd.p=xp.ks:=HIP.out.2.1
          have HD:Hid ((0<=m0->∃ (K:Nat) (z:Kd),m0=K/\pks[K]?=some z/\z.p=d0)/\(0<=m1->∃ (K:Nat) (z:Kd),m1=K/\pks[K]?=some z/\z.p=d1)):=hid (by
           constructor
           . intro h
             obtain ⟨K,e1,e2⟩:=HDP.out.1 h
             rw [<- hmk,List.getElem?_map] at e2
             obtain ⟨z,e3,e4⟩:=Option.map_eq_some_iff.1 e2
             exact ⟨K,z,e1,e3,e4⟩
           . intro h
             obtain ⟨K,e1,e2⟩:=HDP.out.2 h
             rw [<- hmk,List.getElem?_map] at e2
             obtain ⟨z,e3,e4⟩:=Option.map_eq_some_iff.1 e2
             exact ⟨K,z,e1,e3,e4⟩)
          have HPI:Hid (PlOk m0 (its1.map It.p)):=hid (by rw [HST.out.2.1];exact PlOk.bwF HPF.out.1 HPF.out.2 (HPL.out HCV.out HMV.out))
          clear hee hbb hmk
          go_upto_if 49 with fail
          first
           | (refine bwItem_any HKI.out HEL.out hlt HEC.out.1 HEC.out.2 HEI.out hltb HBC.out.1 HBC.out.2 HBI.out HPI.out HD.out.1 HD.out.2 ?_ ?_)
           | (go_step;refine bwItem_any HKI.out HEL.out hlt HEC.out.1 HEC.out.2 HEI.out hltb HBC.out.1 HBC.out.2 HBI.out HPI.out HD.out.1 HD.out.2 ?_ ?_)
           | (go_step;go_step;refine bwItem_any HKI.out HEL.out hlt HEC.out.1 HEC.out.2 HEI.out hltb HBC.out.1 HBC.out.2 HBI.out HPI.out HD.out.1 HD.out.2 ?_ ?_)
           | (go_step;go_step;go_step;refine bwItem_any HKI.out HEL.out hlt HEC.out.1 HEC.out.2 HEI.out hltb HBC.out.1 HBC.out.2 HBI.out HPI.out HD.out.1 HD.out.2 ?_ ?_)
           | (go_step;go_step;go_step;go_step;refine bwItem_any HKI.out HEL.out hlt HEC.out.1 HEC.out.2 HEI.out hltb HBC.out.1 HBC.out.2 HBI.out HPI.out HD.out.1 HD.out.2 ?_ ?_)
           | (go_step;go_step;go_step;go_step;go_step;refine bwItem_any HKI.out HEL.out hlt HEC.out.1 HEC.out.2 HEI.out hltb HBC.out.1 HBC.out.2 HBI.out HPI.out HD.out.1 HD.out.2 ?_ ?_)
          . intros
            rename_i its2 w8 H8
            have HSN:Hid (BwK W7 w8 base B ⟨pkA,pkn,pkc,pks,pgA,pgn,pgc,pgens,piA,pim,pic,its2⟩ sA mA oA rA #[.slice bA bn bc,.slice jA jn jc,.slice cA cn cc,.int i64 gx,.int i64 gy,.int i64 st] #[.int i64 m0,.int i64 m1,.int i64 m2] bA bn bl/\its2.map It.p=bwF m0 m1 d0 d1 xp.its ((el.zip bl).take (i+1))/\∀ j r,j<i+1->(el.zip bl)[j]?=some r->bwBad m0 (bwF m0 m1 d0 d1 xp.its ((el.zip bl).take j)) r.1=false):=hid (by
             obtain ⟨p1,p2,p3⟩:=H8.out
             refine ⟨p1,?_,fun j r hj hr=>?_⟩
             . rw [p2,HST.out.2.1,bwF_take HZ.out]
             . by_cases hji:j=i
               . subst hji
                 rw [HZ.out] at hr
                 injection hr with hr
                 rw [<- HST.out.2.1,<- hr]
                 exact p3
               . exact HST.out.2.2 j r (by omega) hr)
            clear HST H8 HKI HEL HEI HBI HZ HD HPI
            go_wp2_with fail
            go_roundw
            case measure=>simp [intOf];omega
            case rel=>exact ⟨i+1,its2,by omega,by go_num,HSN⟩
          . intros
            rename_i w8 H8
            have HF:Hid (∃ i r,(el.zip bl)[i]?=some r/\bwBad m0 (bwF m0 m1 d0 d1 xp.its ((el.zip bl).take i)) r.1=true):=hid ⟨i,_,HZ.out,by rw [<- HST.out.2.1];exact H8.out.1⟩
            have HB8:Hid (Below w.heap.size w w8):=hid (HB7.out.trans (by rw [<- HBS.out];exact H8.out.2.2))
            have HR8:=hid H8.out.2.1
            clear HST H8 HKI HEL HEI HBI HZ HD HPI
            have z0:w8.cell? ⟨rA,0,none⟩=some (.slice none 0 0):=HR8.out.cell 0
            have z1:w8.cell? ⟨rA,1,none⟩=some (.slice none 0 0):=HR8.out.cell 1
            have z2:w8.cell? ⟨rA,2,none⟩=some (.slice none 0 0):=HR8.out.cell 2
            go_wp2_with fail
            (try simp only [Exit.inBlock,Exit.then])
            refine bodyPost_ret (v:=.tuple #[.agg #[.slice none 0 0,.slice none 0 0,.slice none 0 0],.slice none 0 0,.int i64 4]) ?_ rfl ?_
            . rw [results_ctt rfl]
              go_simp
            . exact ⟨HB8.out,.inr (.inr (.inr (.inl ⟨HCV.out,HMV.out,HNE.out,HF.out,rfl⟩)))⟩
        . obtain rfl:en=i:=by omega
          have HZL:Hid ((el.zip bl).length=en):=hid (by rw [List.length_zip,<- HEN.out,<- HBR.out.2,<- HNE.out];simp)
          have HGO:Hid (∀ j r,(el.zip bl)[j]?=some r->bwBad m0 (bwF m0 m1 d0 d1 xp.its ((el.zip bl).take j)) r.1=false):=hid fun j r hr=>HST.out.2.2 j r (by have h1:=(List.getElem?_eq_some_iff.1 hr).1;have h2:=HZL.out;omega) hr
          have HIT:Hid (its1.map It.p=bwF m0 m1 d0 d1 xp.its (el.zip bl)):=hid (by
           have h1:=HST.out.2.1
           rwa [show (el.zip bl).take en=el.zip bl from by rw [<- HZL.out];exact List.take_length] at h1)
          have HKI:Hid (BwK W7 wr base B ⟨pkA,pkn,pkc,pks,pgA,pgn,pgc,pgens,piA,pim,pic,its1⟩ sA mA oA rA #[.slice bA bn bc,.slice jA jn jc,.slice cA cn cc,.int i64 gx,.int i64 gy,.int i64 st] #[.int i64 m0,.int i64 m1,.int i64 m2] bA bn bl):=hid HST.out.1
          obtain ⟨wi,hwi⟩:∃ z,z=wr:=⟨_,rfl⟩
          have HWI:=hid hwi
          have HB9:Hid (Below base w wr):=hid ((by rw [HBS.out];exact HB7.out:Below base w W7).trans HKI.out.bel)
          have s2:wr.cell? ⟨sA,2,none⟩=some (.slice cA cn cc):=HKI.out.s.cell 2
          clear HST hwi
          go_wp2_with fail
          clear s2
          go_loopw [18,126] (fun qv jv wx=>∃ (j kc':Nat) (kA':Option Addr),j<=cn/\jv=.int i64 j/\qv=.slice kA' j kc'/\Hid (wx.ownsRow base 131 10 (.slice kA' j kc') j (ctCs ((cl.take j).map (conN el)))/\Kx 0 [131] wi wx/\Below base wi wx/\∀ k c,k<j->cl[k]?=some c->conOk el c=true)) (fun _ jv _=>cn-(intOf jv).toNat)
          case atStart=>exact ⟨0,0,none,Nat.zero_le _,rfl,rfl,hid (by rw [HWI.out];exact ⟨by simpa [ctCs] using World.ownsRow_nil _ _ _ _,Kx.refl,Below.refl _ _,fun k c hk=>absurd hk (Nat.not_lt_zero _)⟩)⟩
          case round =>
           obtain ⟨j,kc',kA',hj,rfl,rfl,HCS⟩:=hrel
           have HKJ:Hid (BwK W7 wi base B ⟨pkA,pkn,pkc,pks,pgA,pgn,pgc,pgens,piA,pim,pic,its1⟩ sA mA oA rA #[.slice bA bn bc,.slice jA jn jc,.slice cA cn cc,.int i64 gx,.int i64 gy,.int i64 st] #[.int i64 m0,.int i64 m1,.int i64 m2] bA bn bl):=hid (by rw [HWI.out];exact HKI.out)
           have HBJ:Hid (Below base w wr):=hid ((by rw [HWI.out];exact HB9.out:Below base w wi).trans HCS.out.2.2.1)
           have HR2:Hid (Bk wr rA 52 #[.slice none 0 0,.slice none 0 0,.slice none 0 0]):=hid (HCS.out.2.1.bk HKJ.out.r (by decide))
           have HRB:Hid (base<=rA):=HRL
           by_cases hlt2:j<cn
           . obtain ⟨ct,hct⟩:∃ ct,cl[j]?=some ct:=⟨_,List.getElem?_eq_getElem (by have:=HCR.out.2.1;omega)⟩
             have HCT:=hid hct
             have hjz:(j:Int)<cn:=by omega
             have hjz0:(0:Int)<=j:=by omega
             clear hct
             have HRC:Hid (Rd wr B 10 cA cn (ctCs cl)):=hid (HCR.out.1.below (HBJ.out.mono HKJ.out.lo))
             have HEL2:Hid (Rd wr B 2 eA en (enCs el)):=hid (HER.out.below (HBJ.out.mono HKJ.out.lo))
             have HCO:Hid (wr.ownsRow base 131 10 (.slice kA' j kc') j (ctCs ((cl.take j).map (conN el)))):=hid HCS.out.1
             have HKN:Hid ((j+1)*80<=140737488355328):=hid (by have h2:=HCR.out.2.2;omega)
             have HSZ:Hid (base<=wr.heap.size):=hid (Nat.le_trans HKJ.out.sz HCS.out.2.1.size)
             have HSB:Hid (B<=wr.heap.size):=hid (Nat.le_trans HKJ.out.lo HSZ.out)
             go_upto_if 127 with fail
             first
              | (refine bwCon_any HRC.out hlt2 HCC.out.1 HCC.out.2 HCT.out HEL2.out HEN.out HEC.out.1 HEC.out.2 HR2.out HRB.out HCO.out HKN.out HSZ.out HSB.out ?_ ?_)
              | (go_step;refine bwCon_any HRC.out hlt2 HCC.out.1 HCC.out.2 HCT.out HEL2.out HEN.out HEC.out.1 HEC.out.2 HR2.out HRB.out HCO.out HKN.out HSZ.out HSB.out ?_ ?_)
              | (go_step;go_step;refine bwCon_any HRC.out hlt2 HCC.out.1 HCC.out.2 HCT.out HEL2.out HEN.out HEC.out.1 HEC.out.2 HR2.out HRB.out HCO.out HKN.out HSZ.out HSB.out ?_ ?_)
              | (go_step;go_step;go_step;refine bwCon_any HRC.out hlt2 HCC.out.1 HCC.out.2 HCT.out HEL2.out HEN.out HEC.out.1 HEC.out.2 HR2.out HRB.out HCO.out HKN.out HSZ.out HSB.out ?_ ?_)
              | (go_step;go_step;go_step;go_step;refine bwCon_any HRC.out hlt2 HCC.out.1 HCC.out.2 HCT.out HEL2.out HEN.out HEC.out.1 HEC.out.2 HR2.out HRB.out HCO.out HKN.out HSZ.out HSB.out ?_ ?_)
              | (go_step;go_step;go_step;go_step;go_step;refine bwCon_any HRC.out hlt2 HCC.out.1 HCC.out.2 HCT.out HEL2.out HEN.out HEC.out.1 HEC.out.2 HR2.out HRB.out HCO.out HKN.out HSZ.out HSB.out ?_ ?_)
             . intros
               rename_i gc9 c9 w9 H9
               have HSN:Hid (w9.ownsRow base 131 10 (.slice (some ⟨gc9,0,none⟩) (j+1) c9) (j+1) (ctCs ((cl.take (j+1)).map (conN el)))/\Kx 0 [131] wi w9/\Below base wi w9/\∀ k c,k<j+1->cl[k]?=some c->conOk el c=true):=hid (by
                obtain ⟨p1,p2,p3,p4⟩:=H9.out
                refine ⟨?_,HCS.out.2.1.trans p3,HCS.out.2.2.1.trans p4,fun k c hk hc=>?_⟩
                . rw [List.take_add_one,HCT.out,Option.toList_some,List.map_append,List.map_cons,List.map_nil]
                  exact p2
                . by_cases hkj:k=j
                  . subst hkj
                    rw [HCT.out] at hc
                    injection hc with hc
                    rw [<- hc]
                    exact p1
                  . exact HCS.out.2.2.2 k c (by omega) hc)
               clear HCS H9 HRC HEL2 HCO HKN HSZ HSB HCT HKJ HBJ HR2
               go_wp2_with fail
               go_roundw
               case measure=>simp [intOf];omega
               case rel=>exact ⟨j+1,c9,some ⟨gc9,0,none⟩,by omega,by go_num,rfl,HSN⟩
             . intros
               rename_i w9 H9
               have HF:Hid (∃ c∈cl,conOk el c=false):=hid ⟨ct,List.mem_of_getElem? HCT.out,H9.out.1⟩
               have HB8:Hid (Below w.heap.size w w9):=hid (by rw [<- HBS.out];exact HBJ.out.trans H9.out.2.2)
               have HR8:=hid H9.out.2.1
               clear HCS H9 HRC HEL2 HCO HKN HSZ HSB HCT HKJ HBJ HR2
               have z0:w9.cell? ⟨rA,0,none⟩=some (.slice none 0 0):=HR8.out.cell 0
               have z1:w9.cell? ⟨rA,1,none⟩=some (.slice none 0 0):=HR8.out.cell 1
               have z2:w9.cell? ⟨rA,2,none⟩=some (.slice none 0 0):=HR8.out.cell 2
               go_wp2_with fail
               (try simp only [Exit.inBlock,Exit.then])
               refine bodyPost_ret (v:=.tuple #[.agg #[.slice none 0 0,.slice none 0 0,.slice none 0 0],.slice none 0 0,.int i64 1]) ?_ rfl ?_
               . rw [results_ctt rfl]
                 go_simp
               . exact ⟨HB8.out,.inr (.inr (.inr (.inr (.inl ⟨HCV.out,HMV.out,HNE.out,HGO.out,HF.out,rfl⟩))))⟩
           . obtain rfl:cn=j:=by omega
             have HKW:Hid (BwK W7 wi base B ⟨pkA,pkn,pkc,pks,pgA,pgn,pgc,pgens,piA,pim,pic,its1⟩ sA mA oA rA #[.slice bA bn bc,.slice jA jn jc,.slice cA cn cc,.int i64 gx,.int i64 gy,.int i64 st] #[.int i64 m0,.int i64 m1,.int i64 m2] bA bn bl):=HKJ
             have HOB:Hid (Bk wr oA 52 #[.slice pkA pkn pkc,.slice pgA pgn pgc,.slice piA pim pic]):=hid (HCS.out.2.1.bk HKJ.out.ob (by decide))
             have o0:wr.cell? ⟨oA,0,none⟩=some (.slice pkA pkn pkc):=HOB.out.cell 0
             have o1:wr.cell? ⟨oA,1,none⟩=some (.slice pgA pgn pgc):=HOB.out.cell 1
             have o2:wr.cell? ⟨oA,2,none⟩=some (.slice piA pim pic):=HOB.out.cell 2
             have z0:wr.cell? ⟨rA,0,none⟩=some (.slice none 0 0):=HR2.out.cell 0
             have z1:wr.cell? ⟨rA,1,none⟩=some (.slice none 0 0):=HR2.out.cell 1
             have z2:wr.cell? ⟨rA,2,none⟩=some (.slice none 0 0):=HR2.out.cell 2
             have y0:=HR2.out.frozen 0
             have y1:=HR2.out.frozen 1
             have y2:=HR2.out.frozen 2
             go_wp2_with fail
             (try simp only [Exit.inBlock,Exit.then])
             refine bodyPost_ret (v:=.tuple #[.agg #[.slice pkA pkn pkc,.slice pgA pgn pgc,.slice piA pim pic],.slice kA' cn kc',.int i64 0]) ?_ rfl ?_
             . rw [results_ctt rfl]
               go_simp
             . obtain ⟨we,hwe⟩:∃ z,z=((wr.setCell ⟨rA,0,none⟩ (.slice pkA pkn pkc)).setCell ⟨rA,1,none⟩ (.slice pgA pgn pgc)).setCell ⟨rA,2,none⟩ (.slice piA pim pic):=⟨_,rfl⟩
               have hke:Kx 0 [52] wr we:=by
                rw [hwe]
                exact (((Kx.refl (B:=0)).set HR2.out (Nat.zero_le _) (by simp) 0 _).set (HR2.out.set_ 0 (.slice pkA pkn pkc)) (Nat.zero_le _) (by simp) 1 _).set ((HR2.out.set_ 0 (.slice pkA pkn pkc)).set_ 1 (.slice pgA pgn pgc)) (Nat.zero_le _) (by simp) 2 _
               have hbe:Below base wr we:=by
                rw [hwe]
                have hlo:=HRL.out
                have hbx:=Below.refl base wr
                (repeat' first | with_reducible exact hbx | with_reducible refine Below.setCell ?_ hlo _)
               rw [<- hwe]
               refine ⟨by rw [<- HBS.out];exact HBJ.out.trans hbe,.inr (.inr (.inr (.inr (.inr ⟨HCV.out,HMV.out,HNE.out,HGO.out,fun c hc=>?_,⟨pkA,pkn,pkc,pks,pgA,pgn,pgc,pgens,piA,pim,pic,its1⟩,kA',cn,kc',rfl,HCR.out.2.1,hid ⟨?_,?_,?_⟩⟩))))⟩
               . obtain ⟨k,hk⟩:=List.getElem?_of_mem hc
                 exact HCS.out.2.2.2 k c (by have h1:=(List.getElem?_eq_some_iff.1 hk).1;have h2:=HCR.out.2.1;omega) hk
               . exact ((HKW.out.o.wd.keep HCS.out.2.1 (by decide) (by decide) (by decide) (by decide) (by decide))).keep hke (by decide) (by decide) (by decide) (by decide) (by decide)
               . have h1:=HIT.out
                 have h2:=HIP.out
                 show (⟨pks.map Kd.p,pgens,its1.map It.p⟩:Wv Kp2)=_
                 rw [h1,h2.2.1,h2.2.2]
               . rw [<- HBS.out]
                 have h1:=HCS.out.1
                 rw [show cl.take cn=cl from by rw [HCR.out.2.1];exact List.take_length] at h1
                 exact hke.own h1 (by decide)
     . have hnez:¬ ((en:Int)=bn):=by omega
       have t2:((en:Int) != (bn:Int))=true:=bne_iff_ne.2 hnez
       have HNE:=hid hne
       clear hne
       have z0:W4.cell? ⟨rA,0,none⟩=some (.slice none 0 0):=HRA4.out.cell 0
       have z1:W4.cell? ⟨rA,1,none⟩=some (.slice none 0 0):=HRA4.out.cell 1
       have z2:W4.cell? ⟨rA,2,none⟩=some (.slice none 0 0):=HRA4.out.cell 2
       have y0:=HRA4.out.frozen 0
       have y1:=HRA4.out.frozen 1
       have y2:=HRA4.out.frozen 2
       go_wp2_with fail
       (try simp only [Exit.inBlock,Exit.then])
       refine bodyPost_ret (v:=.tuple #[.agg #[.slice none 0 0,.slice none 0 0,.slice none 0 0],.slice none 0 0,.int i64 1]) ?_ rfl ?_
       . rw [results_ctt rfl]
         go_simp
       . refine ⟨?_,.inr (.inr (.inl ⟨HCV.out,HMV.out,HNE.out,rfl⟩))⟩
         have hlo:w.heap.size<=rA:=by have h1:=HBS.out;have h2:=HRL.out;omega
         have hbx:=HB4.out
         (repeat' first | with_reducible exact hbx | with_reducible refine Below.setCell ?_ hlo _)
   . have HMV:=hid hm
     have t1:(mv != 0)=true:=by simpa using hm
     clear hm
     have z0:W4.cell? ⟨rA,0,none⟩=some (.slice none 0 0):=HRA4.out.cell 0
     have z1:W4.cell? ⟨rA,1,none⟩=some (.slice none 0 0):=HRA4.out.cell 1
     have z2:W4.cell? ⟨rA,2,none⟩=some (.slice none 0 0):=HRA4.out.cell 2
     have y0:=HRA4.out.frozen 0
     have y1:=HRA4.out.frozen 1
     have y2:=HRA4.out.frozen 2
     go_wp2_with fail
     (try simp only [Exit.inBlock,Exit.then])
     refine bodyPost_ret (v:=.tuple #[.agg #[.slice none 0 0,.slice none 0 0,.slice none 0 0],.slice none 0 0,.int i64 mv]) ?_ rfl ?_
     . rw [results_ctt rfl]
       go_simp
     . refine ⟨?_,.inr (.inl ⟨HCV.out,HMV.out,rfl⟩)⟩
       have hlo:w.heap.size<=rA:=by have h1:=HBS.out;have h2:=HRL.out;omega
       have hbx:=HB4.out
       (repeat' first | with_reducible exact hbx | with_reducible refine Below.setCell ?_ hlo _)
 . have HCV:=hid hc
   have t0:(cv != 0)=true:=by simpa using hc
   clear hc
   have z0:w2.cell? ⟨rA,0,none⟩=some (.slice none 0 0):=HRA2.out.cell 0
   have z1:w2.cell? ⟨rA,1,none⟩=some (.slice none 0 0):=HRA2.out.cell 1
   have z2:w2.cell? ⟨rA,2,none⟩=some (.slice none 0 0):=HRA2.out.cell 2
   have y0:=HRA2.out.frozen 0
   have y1:=HRA2.out.frozen 1
   have y2:=HRA2.out.frozen 2
   go_wp2_with fail
   (try simp only [Exit.inBlock,Exit.then])
   refine bodyPost_ret (v:=.tuple #[.agg #[.slice none 0 0,.slice none 0 0,.slice none 0 0],.slice none 0 0,.int i64 cv]) ?_ rfl ?_
   . rw [results_ctt rfl]
     go_simp
   . refine ⟨?_,.inl ⟨HCV.out,rfl⟩⟩
     have hlo:w.heap.size<=rA:=by have h1:=HBS.out;have h2:=HRL.out;omega
     have hbx:=HB2.out
     (repeat' first | with_reducible exact hbx | with_reducible refine Below.setCell ?_ hlo _)
end Go.Proofs.Ytnidcmhfbkdioaa
