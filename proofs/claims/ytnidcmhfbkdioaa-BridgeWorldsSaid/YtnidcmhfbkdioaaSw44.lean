/-
  Lemmas for the walk, merged (Bq Br Ej Ep). No condition but those in each statement.
-/
import Derived.Test.YtnidcmhfbkdioaaSw40
import Derived.Test.YtnidcmhfbkdioaaSw43
import Derived.Test.YtnidcmhfbkdioaaSw14
import Derived.Test.YtnidcmhfbkdioaaSw41
import Derived.Test.YtnidcmhfbkdioaaSw17
namespace Go.Proofs.Ytnidcmhfbkdioaa
open Go.RowKit
open Go.IntKind (i64)
open Go.Lib (hid)
set_option maxRecDepth 100000
def ctrF (en:List (Int × Int)) (l:List Ct):List Ct:=l.flatMap (ctR1 en)
theorem ctrF_take {en:List (Int × Int)} {l:List Ct} {k:Nat} {c:Ct} (h:l[k]?=some c):ctrF en (l.take (k+1))=ctrF en (l.take k)++ctR1 en c:=by
 unfold ctrF
 rw [List.take_add_one,h,List.flatMap_append]
 simp
def SoP (w:World) (q:List (Bo × (Int × Int))) (D:List Ct) (e:Ending) (w':World):Prop :=
 Below w.heap.size w w'/\∃ A n c kA kn kc E ec,e=.returned (.tuple #[.agg #[.slice A n c,.slice none 0 0,.slice kA kn kc,.int i64 0,.int i64 0,.int i64 0],.slice E n ec])/\ScR w' w.heap.size A n c kA kn kc E ec q D
structure ItV (it:It) (m0 m1 m2:Int):Prop where
 v0:VaOk it.cms m0 3
 v1:VaOk it.cms m1 4
 v2:VaOk it.cms m2 5
 neg:∀ k,k<0->cmAt it.cms k=none
 szs:∀ cm∈it.cms,cm.n<=1048576
set_option maxHeartbeats 16000000 in
theorem sceneOf_any {w:World} {B cn cc:Nat} {cA:Option Addr} {cl:List Ct} {x:Wd} {m0 m1 m2 m3 m4:Int} (h:WdOk w B x) (hrd:Rd w B 10 cA cn (ctCs cl)) (hcl:cn=cl.length) (hcap:cn<=cc) (hcap2:cc<=9223372036854775807) (hcn:cn*80<=140737488355328)
 (hsm:∀ k∈x.ks,k.n<=1048576) (hX:spX (x.ks.map Kd.p)=.agg #[.int i64 m0,.int i64 m1,.int i64 m2,.int i64 m3,.int i64 m4]) (him:x.its.length<=256) (hva:∀ it∈x.its,ItV it m0 m1 m2) :
 Calls Try.prog 57 #[x.v,.slice cA cn cc] w (SoP w (bodiesF m0 m1 m2 x.its) (ctrF ((bodiesF m0 m1 m2 x.its).map Prod.snd) cl)):=by
 have hsp0:∀ w1,Below w.heap.size w w1->∃ Y:Value,(∃ y0 y1 y2 y3 y4:Bool,Y=.agg #[.bool y0,.bool y1,.bool y2,.bool y3,.bool y4])/\Calls Try.prog 67 #[.slice x.kA x.kn x.kc] w1 fun e w'=>e=.returned (.tuple #[.agg #[.int i64 m0,.int i64 m1,.int i64 m2,.int i64 m3,.int i64 m4],Y])/\Below w1.heap.size w1 w':=fun w1 hb=>by
  have:=special_any (h.ks.below (hb.mono h.ks.lo)) hsm
  unfold SpecP at this
  rw [hX] at this
  exact ⟨spY (x.ks.map Kd.p),⟨_,_,_,_,_,rfl⟩,this⟩
 obtain ⟨kA,kn,kc,ks,gA,gn,gc,gens,iA,im,ic,its⟩:=x
 obtain ⟨hk,hg,hi⟩:=h
 dsimp only at hk hg hi hsp0 hva him
 dsimp only [Wd.v]
 clear hX hsm
 obtain ⟨Q,hQ⟩:∃ Q,Q=bodiesF m0 m1 m2 its:=⟨_,rfl⟩
 rw [<- hQ]
 obtain ⟨base,hbase⟩:∃ z,z=w.heap.size:=⟨_,rfl⟩
 obtain ⟨W0,hW0⟩:∃ z,z=(w.alloc (.cells #[.slice kA kn kc,.slice gA gn gc,.slice iA im ic] 52)).alloc (.cells #[.slice none 0 0,.slice none 0 0,.slice none 0 0,.int i64 0,.int i64 0,.int i64 0] 115):=⟨_,rfl⟩
 have hb0:Below w.heap.size w W0:=by rw [hW0];exact ((Below.refl _ _).alloc (Nat.le_refl _) _).alloc (by simp) _
 have HWA:Hid (Bk W0 base 52 #[.slice kA kn kc,.slice gA gn gc,.slice iA im ic]):=hid (by rw [hW0,hbase];exact (Bk.new _ _ _).alloc _)
 have HRA:Hid (Bk W0 (base+1) 115 #[.slice none 0 0,.slice none 0 0,.slice none 0 0,.int i64 0,.int i64 0,.int i64 0]):=hid (by rw [hW0,hbase];exact Bk.twoB _ _ _ _)
 obtain ⟨Y,⟨y0,y1,y2,y3,y4,hY⟩,hsp⟩:=hsp0 W0 hb0
 subst hY
 have HSP:=hid hsp
 have HI:=hid hi
 have HVA:=hid hva
 have HIM:Hid (im<=256):=hid (by rw [hi.len];exact him)
 have HRD:Hid (Rd w B 10 cA cn (ctCs cl)/\cn=cl.length/\cn<=cc/\cc<=9223372036854775807/\cn*80<=140737488355328):=hid ⟨hrd,hcl,hcap,hcap2,hcn⟩
 have HB0:=hid hb0
 have HQ:=hid hQ
 have HBS:Hid (base=w.heap.size):=hid hbase
 have HLO:Hid (B<=w.heap.size):=hid hi.lo
 have hicap:=hi.cap
 have hicap2:=hi.cap2
 clear hk hg hi hsp0 hsp hva hrd hcl hb0 hQ hcn him
 go_enter Try.func57,Try.ntmps57
 go_upto_region 1 with fail
 rw [<- hW0,<- hbase]
 clear hW0 hbase
 have a0:W0.cell? ⟨base,0,none⟩=some (.slice kA kn kc):=HWA.out.cell 0
 have a1:W0.cell? ⟨base,1,none⟩=some (.slice gA gn gc):=HWA.out.cell 1
 have a2:W0.cell? ⟨base,2,none⟩=some (.slice iA im ic):=HWA.out.cell 2
 go_wp2_with fail
 (with_reducible refine HSP.out.mono ?_)
 rintro e w2 ⟨rfl,hb2⟩
 have HWA2:=hid (HWA.out.below hb2 HWA.out.lt)
 have HRA2:Hid (Bk w2 (base+1) 115 #[.slice none 0 0,.slice none 0 0,.slice none 0 0,.int i64 0,.int i64 0,.int i64 0]):=hid (HRA.out.below hb2 HRA.out.lt)
 have HB2:Hid (Below w.heap.size w w2):=hid (HB0.out.trans (hb2.mono HB0.out.size))
 clear a0 a1 a2 hb2 HWA HRA HSP
 go_upto_region 2 with fail
 obtain ⟨mA,hmA⟩:∃ z,z=w2.heap.size:=⟨_,rfl⟩
 obtain ⟨W4,hW4⟩:∃ z,z=(w2.alloc (.cells #[.int i64 m0,.int i64 m1,.int i64 m2,.int i64 m3,.int i64 m4] 141)).alloc (.cells #[.bool y0,.bool y1,.bool y2,.bool y3,.bool y4] 142):=⟨_,rfl⟩
 rw [<- hW4,<- hmA]
 have hb4:Below w2.heap.size w2 W4:=by rw [hW4];exact ((Below.refl _ _).alloc (Nat.le_refl _) _).alloc (by simp) _
 have HMA:Hid (Bk W4 mA 141 #[.int i64 m0,.int i64 m1,.int i64 m2,.int i64 m3,.int i64 m4]):=hid (by rw [hW4,hmA];exact (Bk.new _ _ _).alloc _)
 have HWA4:=hid (HWA2.out.below hb4 HWA2.out.lt)
 have HRA4:Hid (Bk W4 (base+1) 115 #[.slice none 0 0,.slice none 0 0,.slice none 0 0,.int i64 0,.int i64 0,.int i64 0]):=hid (HRA2.out.below hb4 HRA2.out.lt)
 have HB4:Hid (Below w.heap.size w W4):=hid (HB2.out.trans (hb4.mono HB2.out.size))
 clear hW4 hmA hb4 HB2 HWA2 HRA2
 obtain ⟨sA,hsA⟩:∃ z,z=W4.heap.size:=⟨_,rfl⟩
 obtain ⟨W5,hW5⟩:∃ z,z=W4.alloc (.cells #[.slice none 0 0,.slice none 0 0,.slice none 0 0,.int i64 0,.int i64 0,.int i64 0] 115):=⟨_,rfl⟩
 obtain ⟨eA,heA⟩:∃ z,z=W5.heap.size:=⟨_,rfl⟩
 obtain ⟨W6,hW6⟩:∃ z,z=W5.alloc (.cells #[.slice none 0 0] 116):=⟨_,rfl⟩
 go_upto_region 3 with fail
 rw [<- hW5,<- hsA]
 have hb5:Below W4.heap.size W4 W5:=by rw [hW5];exact (Below.refl _ _).alloc (Nat.le_refl _) _
 have HSA5:Hid (Bk W5 sA 115 #[.slice none 0 0,.slice none 0 0,.slice none 0 0,.int i64 0,.int i64 0,.int i64 0]):=hid (by rw [hW5,hsA];exact Bk.new _ _ _)
 clear hW5
 go_upto_region 4 with fail
 rw [<- hW6,<- heA]
 have hb6:Below W4.heap.size W4 W6:=by rw [hW6];exact hb5.alloc hb5.size _
 have HS6:Hid (ScI W6 base sA none 0 0 none 0 0 0 0 []):=hid ⟨by rw [hW6];exact HSA5.out.alloc _,⟨[],⟨World.ownsRow_nil _ _ _ _,rfl,by simp⟩,rfl⟩,World.ownsRow_nil _ _ _ _,rfl,by have h1:=HBS.out;have h2:=HB4.out.size;rw [hsA];omega⟩
 have HEA6:Hid (Bk W6 eA 116 #[.slice none 0 0]):=hid (by rw [hW6,heA];exact Bk.new _ _ _)
 have HEO:Hid (base<=eA):=hid (by have h1:=HBS.out;have h2:=HB4.out.size;have h3:=hb5.size;rw [heA];omega)
 have HWA6:=hid (HWA4.out.below hb6 HWA4.out.lt)
 have HRA6:Hid (Bk W6 (base+1) 115 #[.slice none 0 0,.slice none 0 0,.slice none 0 0,.int i64 0,.int i64 0,.int i64 0]):=hid (HRA4.out.below hb6 HRA4.out.lt)
 have HMA6:=hid (HMA.out.below hb6 HMA.out.lt)
 have HB6:Hid (Below w.heap.size w W6):=hid (HB4.out.trans (hb6.mono HB4.out.size))
 have HNS:Hid (base+1≠sA):=hid (by rw [hsA];have:=HRA4.out.lt;omega)
 clear hW6 heA hsA hb5 hb6 HSA5 HWA4 HRA4 HMA HB4
 have b2:W6.cell? ⟨base,2,none⟩=some (.slice iA im ic):=HWA6.out.cell 2
 go_wp2_with fail
 clear b2
 go_loopw [28] (fun kv wx=>∃ (k n c ec:Nat) (A E:Option Addr),k<=im/\kv=.int i64 k/\Hid (n<=k/\ScI wx base sA A n c E ec 0 0 0 (bodiesF m0 m1 m2 (its.take k))/\Bk wx eA 116 #[.slice E n ec])/\Hid (Below w.heap.size w wx/\Bk wx (base+1) 115 #[.slice none 0 0,.slice none 0 0,.slice none 0 0,.int i64 0,.int i64 0,.int i64 0]/\Bk wx mA 141 #[.int i64 m0,.int i64 m1,.int i64 m2,.int i64 m3,.int i64 m4])) (fun kv _=>im-(intOf kv).toNat)
 case atStart=>exact ⟨0,0,0,0,none,none,by omega,rfl,hid ⟨by omega,by simpa [bodiesF] using HS6.out,HEA6.out⟩,hid ⟨HB6.out,HRA6.out,HMA6.out⟩⟩
 case round =>
  clear HS6 HEA6 HWA6 HRA6 HMA6 HB6
  obtain ⟨k,n,c,ec,A,E,hk,rfl,HST,HKP⟩:=hrel
  by_cases hlt:k<im
  . obtain ⟨it,hit⟩:∃ it,its[k]?=some it:=⟨_,List.getElem?_eq_getElem (by have:=HI.out.len;omega)⟩
    have HIT:=hid hit
    have hkz:(k:Int)<im:=by omega
    have hkz0:(0:Int)<=k:=by omega
    have HISr:Hid (IsOk wr B iA im ic its):=hid (HI.out.below (HKP.out.1.mono HLO.out))
    have HVr:=hid (HVA.out it (List.mem_of_getElem? hit))
    have HBB:Hid (B<=base/\base<=wr.heap.size/\n<=256):=hid (by have h1:=HBS.out;have h2:=HLO.out;have h3:=HKP.out.1.size;have h4:=HST.out.1;have h5:=HIM.out;omega)
    clear hit
    go_upto_if 29 with fail
    first
     | (go_step;refine soItem_any HISr.out HIT.out HKP.out.2.2 HST.out.2.1 HST.out.2.2 HEO.out HVr.out.v0 HVr.out.v1 HVr.out.v2 HVr.out.neg HVr.out.szs HBB.out.2.2 HBB.out.1 HBB.out.2.1 ?_ ?_)
     | (go_step;go_step;refine soItem_any HISr.out HIT.out HKP.out.2.2 HST.out.2.1 HST.out.2.2 HEO.out HVr.out.v0 HVr.out.v1 HVr.out.v2 HVr.out.neg HVr.out.szs HBB.out.2.2 HBB.out.1 HBB.out.2.1 ?_ ?_)
     | (go_step;go_step;go_step;refine soItem_any HISr.out HIT.out HKP.out.2.2 HST.out.2.1 HST.out.2.2 HEO.out HVr.out.v0 HVr.out.v1 HVr.out.v2 HVr.out.neg HVr.out.szs HBB.out.2.2 HBB.out.1 HBB.out.2.1 ?_ ?_)
     | (go_step;go_step;go_step;go_step;refine soItem_any HISr.out HIT.out HKP.out.2.2 HST.out.2.1 HST.out.2.2 HEO.out HVr.out.v0 HVr.out.v1 HVr.out.v2 HVr.out.neg HVr.out.szs HBB.out.2.2 HBB.out.1 HBB.out.2.1 ?_ ?_)
     | (go_step;go_step;go_step;go_step;go_step;refine soItem_any HISr.out HIT.out HKP.out.2.2 HST.out.2.1 HST.out.2.2 HEO.out HVr.out.v0 HVr.out.v1 HVr.out.v2 HVr.out.neg HVr.out.szs HBB.out.2.2 HBB.out.1 HBB.out.2.1 ?_ ?_)
    . intros
      rename_i w7 H7
      have HSN:Hid (n<=k+1/\ScI w7 base sA A n c E ec 0 0 0 (bodiesF m0 m1 m2 (its.take (k+1)))/\Bk w7 eA 116 #[.slice E n ec]):=hid (by
       rw [bodiesF_take HIT.out,H7.out.1]
       simp only [Option.map_none,Option.toList_none,List.append_nil]
       exact ⟨by have:=HST.out.1;omega,HST.out.2.1.keep (F:=[]) (Kx.of_below H7.out.2) (by simp) (by simp) (by simp) (by simp),HST.out.2.2.below H7.out.2 HST.out.2.2.lt⟩)
      have HKN:Hid (Below w.heap.size w w7/\Bk w7 (base+1) 115 #[.slice none 0 0,.slice none 0 0,.slice none 0 0,.int i64 0,.int i64 0,.int i64 0]/\Bk w7 mA 141 #[.int i64 m0,.int i64 m1,.int i64 m2,.int i64 m3,.int i64 m4]):=hid ⟨HKP.out.1.trans (H7.out.2.mono HKP.out.1.size),HKP.out.2.1.below H7.out.2 HKP.out.2.1.lt,HKP.out.2.2.below H7.out.2 HKP.out.2.2.lt⟩
      clear HST HKP H7 HISr HVr HBB HIT
      go_wp2_with fail
      go_roundw
      case measure=>simp [intOf];omega
      case rel=>exact ⟨k+1,n,c,ec,A,E,by omega,by go_num,HSN,HKN⟩
    . intros
      rename_i gB cB gE cE b w7 H7
      have HSN:Hid (n+1<=k+1/\ScI w7 base sA (some ⟨gB,0,none⟩) (n+1) cB (some ⟨gE,0,none⟩) cE 0 0 0 (bodiesF m0 m1 m2 (its.take (k+1)))/\Bk w7 eA 116 #[.slice (some ⟨gE,0,none⟩) (n+1) cE]):=hid (by
       obtain ⟨p2,p3,p4,p5,p6,p7⟩:=H7.out
       rw [bodiesF_take HIT.out,p2]
       simp only [Option.map_some,Option.toList_some]
       exact ⟨by have:=HST.out.1;omega,p3,p4⟩)
      have HKN:Hid (Below w.heap.size w w7/\Bk w7 (base+1) 115 #[.slice none 0 0,.slice none 0 0,.slice none 0 0,.int i64 0,.int i64 0,.int i64 0]/\Bk w7 mA 141 #[.int i64 m0,.int i64 m1,.int i64 m2,.int i64 m3,.int i64 m4]):=hid ⟨HKP.out.1.trans (by rw [<- HBS.out];exact H7.out.2.2.2.2.2),H7.out.2.2.2.2.1 _ _ HNS.out HKP.out.2.1,H7.out.2.2.2.1.bk HKP.out.2.2 (by decide)⟩
      clear HST HKP H7 HISr HVr HBB HIT
      go_wp2_with fail
      go_roundw
      case measure=>simp [intOf];omega
      case rel=>exact ⟨k+1,n+1,cB,cE,some ⟨gB,0,none⟩,some ⟨gE,0,none⟩,by omega,by go_num,HSN,HKN⟩
  . obtain rfl:im=k:=by omega
    have HEND:Hid (its.take im=its):=hid (by rw [HI.out.len];exact List.take_length)
    have HBQ:Hid (n=Q.length):=hid (by rw [HQ.out,<- HEND.out];exact HST.out.2.1.len)
    have HSC:Hid (ScI wr base sA A n c E ec 0 0 0 Q):=hid (by rw [HQ.out,<- HEND.out];exact HST.out.2.1)
    have HEE:Hid (Bk wr eA 116 #[.slice E n ec]):=hid HST.out.2.2
    have HSA:Hid (base<=sA):=hid HST.out.2.1.lo
    have HCO:Hid (Bk wr sA 115 #[.slice A n c,.slice none 0 0,.slice none 0 0,.int i64 0,.int i64 0,.int i64 0]):=hid HST.out.2.1.s
    have HBW:Hid (base<=wr.heap.size/\B<=base):=hid (by have h1:=HBS.out;have h2:=HKP.out.1.size;have h3:=HLO.out;omega)
    have HBR:Hid (Below w.heap.size w wr/\Bk wr (base+1) 115 #[.slice none 0 0,.slice none 0 0,.slice none 0 0,.int i64 0,.int i64 0,.int i64 0]):=hid ⟨HKP.out.1,HKP.out.2.1⟩
    have hcn:cn<=cc:=hcap
    obtain ⟨wi,hwi⟩:∃ z,z=wr:=⟨_,rfl⟩
    have HWI:=hid hwi
    clear HST HKP hwi
    go_wp2_with fail
    go_loopw [54] (fun jv wx=>∃ (j:Nat),j<=cn/\jv=.int i64 j/\Hid (∃ pA pn pc,Bk wx sA 115 #[.slice A n c,.slice none 0 0,.slice pA pn pc,.int i64 0,.int i64 0,.int i64 0]/\wx.ownsRow base 131 10 (.slice pA pn pc) pn (ctCs (ctrF (Q.map Prod.snd) (cl.take j)))/\pn<=j)/\Hid (Kz [131,115] wi wx/\Below base wi wx/\∀ g cs,g≠sA->Bk wi g 115 cs->Bk wx g 115 cs)) (fun jv _=>cn-(intOf jv).toNat)
    case atStart=>exact ⟨0,Nat.zero_le _,rfl,hid ⟨none,0,0,HCO.out,by simpa [ctrF,ctCs] using World.ownsRow_nil _ _ _ _,Nat.le_refl _⟩,hid (by rw [HWI.out];exact ⟨Kz.refl,Below.refl _ _,fun _ _ _ h=>h⟩)⟩
    case round =>
     clear HCO
     obtain ⟨j,hj,rfl,HCS,HCK⟩:=hrel
     obtain ⟨pA,pn,pc,hcs⟩:=HCS.out
     have HCS:=hid hcs
     clear hcs
     have HENr:Hid (Bk wr eA 116 #[.slice E n ec]/\wr.ownsRow base 128 2 (.slice E n ec) n (enCs (Q.map Prod.snd))):=hid (by
      refine ⟨HCK.out.1.kx.bk (by rw [HWI.out];exact HEE.out) (by decide),HCK.out.1.kx.own (by rw [HWI.out];exact HSC.out.en) (by decide)⟩)
     by_cases hlt2:j<cn
     . obtain ⟨ct,hct⟩:∃ ct,cl[j]?=some ct:=⟨_,List.getElem?_eq_getElem (by have:=HRD.out.2.1;omega)⟩
       have HCT:=hid hct
       have hjz:(j:Int)<cn:=by omega
       have hjz0:(0:Int)<=j:=by omega
       clear hct
       have HRC:Hid (Rd wr B 10 cA cn (ctCs cl)):=hid (HRD.out.1.below ((HBR.out.1.mono HLO.out).trans (by rw [<- HWI.out];exact HCK.out.2.1.mono HBW.out.2)))
       have HPN:Hid ((pn+1)*80<=140737488355328/\n=(Q.map Prod.snd).length):=hid ⟨by have h1:=HCS.out.2.2;have h2:=HRD.out.2.2.2.2;omega,by rw [List.length_map];exact HBQ.out⟩
       have HSZ:Hid (base<=wr.heap.size):=hid (by have h1:=HBW.out.1;have h2:=HCK.out.2.1.size;have h3:=HWI.out;subst h3;omega)
       go_upto_if 55 with fail
       first
        | (go_step;refine soCon_any HRC.out HRD.out.2.1 HRD.out.2.2.1 HRD.out.2.2.2.1 HCT.out HENr.out.1 HENr.out.2 HPN.out.2 HCS.out.1 HCS.out.2.1 HPN.out.1 HSZ.out HSA.out ?_)
        | (go_step;go_step;refine soCon_any HRC.out HRD.out.2.1 HRD.out.2.2.1 HRD.out.2.2.2.1 HCT.out HENr.out.1 HENr.out.2 HPN.out.2 HCS.out.1 HCS.out.2.1 HPN.out.1 HSZ.out HSA.out ?_)
        | (go_step;go_step;go_step;refine soCon_any HRC.out HRD.out.2.1 HRD.out.2.2.1 HRD.out.2.2.2.1 HCT.out HENr.out.1 HENr.out.2 HPN.out.2 HCS.out.1 HCS.out.2.1 HPN.out.1 HSZ.out HSA.out ?_)
        | (go_step;go_step;go_step;go_step;refine soCon_any HRC.out HRD.out.2.1 HRD.out.2.2.1 HRD.out.2.2.2.1 HCT.out HENr.out.1 HENr.out.2 HPN.out.2 HCS.out.1 HCS.out.2.1 HPN.out.1 HSZ.out HSA.out ?_)
        | (go_step;go_step;go_step;go_step;go_step;refine soCon_any HRC.out HRD.out.2.1 HRD.out.2.2.1 HRD.out.2.2.2.1 HCT.out HENr.out.1 HENr.out.2 HPN.out.2 HCS.out.1 HCS.out.2.1 HPN.out.1 HSZ.out HSA.out ?_)
       intros
       rename_i w7 H7
       have HSN:Hid (∃ pA pn pc,Bk w7 sA 115 #[.slice A n c,.slice none 0 0,.slice pA pn pc,.int i64 0,.int i64 0,.int i64 0]/\w7.ownsRow base 131 10 (.slice pA pn pc) pn (ctCs (ctrF (Q.map Prod.snd) (cl.take (j+1))))/\pn<=j+1):=hid (by
        obtain ⟨⟨qA,qn,qc,p1,p2,p3⟩,_⟩:=H7.out
        refine ⟨qA,qn,qc,p1,?_,by have:=HCS.out.2.2;omega⟩
        rw [ctrF_take HCT.out]
        exact p2)
       have HKN:Hid (Kz [131,115] wi w7/\Below base wi w7/\∀ g cs,g≠sA->Bk wi g 115 cs->Bk w7 g 115 cs):=hid ⟨HCK.out.1.trans H7.out.2.1,HCK.out.2.1.trans H7.out.2.2.1,fun g cs hg hh=>H7.out.2.2.2 g cs hg (HCK.out.2.2 g cs hg hh)⟩
       clear HCS HCK H7 HRC HPN HSZ HCT HENr
       go_wp2_with fail
       go_roundw
       case measure=>simp [intOf];omega
       case rel =>
        first
         | exact ⟨j+1,by omega,by go_num,HSN,HKN⟩
         | (refine ⟨_,_,_,_,_,_,_,_,_,_,_,_,_,_,_,_,_,_,_,_,_,_,_,_,_,_,_,_,_,_,_,_,?_,rfl⟩;exact ⟨j+1,by omega,by go_num,HSN,HKN⟩)
     . obtain rfl:cn=j:=by omega
       have HR8:Hid (Bk wr (base+1) 115 #[.slice none 0 0,.slice none 0 0,.slice none 0 0,.int i64 0,.int i64 0,.int i64 0]):=hid (HCK.out.2.2 _ _ HNS.out (by rw [HWI.out];exact HBR.out.2))
       have HB8:Hid (Below base w wr):=hid ((by rw [HBS.out];exact HBR.out.1:Below base w _).trans (by rw [<- HWI.out];exact HCK.out.2.1))
       go_upto_region 20 with fail
       obtain ⟨u0,hu0⟩:∃ z,z=wr.drew:=⟨_,rfl⟩
       have HRu:Hid (Bk u0 (base+1) 115 #[.slice none 0 0,.slice none 0 0,.slice none 0 0,.int i64 0,.int i64 0,.int i64 0]/\Bk u0 sA 115 #[.slice A n c,.slice none 0 0,.slice pA pn pc,.int i64 0,.int i64 0,.int i64 0]/\Bk u0 eA 116 #[.slice E n ec]/\Below base w u0/\Kx 0 [] wr u0):=hid (by rw [hu0];exact ⟨HR8.out.drew,HCS.out.1.drew,HENr.out.1.drew,HB8.out.drew,Kx.refl.drew⟩)
       have z0:u0.cell? ⟨base+1,0,none⟩=some (.slice none 0 0):=HRu.out.1.cell 0
       have y0:=HRu.out.1.frozen 0
       have z1:u0.cell? ⟨base+1,1,none⟩=some (.slice none 0 0):=HRu.out.1.cell 1
       have y1:=HRu.out.1.frozen 1
       have z2:u0.cell? ⟨base+1,2,none⟩=some (.slice none 0 0):=HRu.out.1.cell 2
       have y2:=HRu.out.1.frozen 2
       have z3:u0.cell? ⟨base+1,3,none⟩=some (.int i64 0):=HRu.out.1.cell 3
       have y3:=HRu.out.1.frozen 3
       have z4:u0.cell? ⟨base+1,4,none⟩=some (.int i64 0):=HRu.out.1.cell 4
       have y4:=HRu.out.1.frozen 4
       have z5:u0.cell? ⟨base+1,5,none⟩=some (.int i64 0):=HRu.out.1.cell 5
       have y5:=HRu.out.1.frozen 5
       have hs0:u0.cell? ⟨sA,0,none⟩=some (.slice A n c)/\u0.cell? ⟨sA,1,none⟩=some (.slice none 0 0)/\u0.cell? ⟨sA,2,none⟩=some (.slice pA pn pc)/\u0.cell? ⟨sA,3,none⟩=some (.int i64 0)/\u0.cell? ⟨sA,4,none⟩=some (.int i64 0)/\u0.cell? ⟨sA,5,none⟩=some (.int i64 0)/\u0.cell? ⟨eA,0,none⟩=some (.slice E n ec):=⟨HRu.out.2.1.cell 0,HRu.out.2.1.cell 1,HRu.out.2.1.cell 2,HRu.out.2.1.cell 3,HRu.out.2.1.cell 4,HRu.out.2.1.cell 5,HRu.out.2.2.1.cell 0⟩
       refine wp_region_noPanic ?_
       refine wp_region_H (S:=fun wz=>wz.cell? ⟨sA,0,none⟩=some (.slice A n c)/\wz.cell? ⟨sA,1,none⟩=some (.slice none 0 0)/\wz.cell? ⟨sA,2,none⟩=some (.slice pA pn pc)/\wz.cell? ⟨sA,3,none⟩=some (.int i64 0)/\wz.cell? ⟨sA,4,none⟩=some (.int i64 0)/\wz.cell? ⟨sA,5,none⟩=some (.int i64 0)/\wz.cell? ⟨eA,0,none⟩=some (.slice E n ec)) (by kernel_rfl) ?_
       rw [<- hu0]
       clear hu0
       refine wpH 0 (.agg #[.slice A n c,.slice none 0 0,.slice pA pn pc,.int i64 0,.int i64 0,.int i64 0]) 83 hs0 ?_
       (try simp only [sP])
       refine wpH 1 (.slice E n ec) 84 hs0 ?_
       (try simp only [sP])
       refine wpAnyH_oneW (i:=2) rfl (by kernel_rfl) (by rfl) ?_
       go_simp
       have HNE1:Hid (eA≠base+1):=hid (HRu.out.2.2.1.ne_ HRu.out.1 (by decide))
       have k1:=HRu.out.2.1.far (p:=⟨base+1,0,none⟩) (fun e=>HNS.out e.symm) (.slice A n c)
       have l1:=HRu.out.2.2.1.far (p:=⟨base+1,0,none⟩) HNE1.out (.slice A n c)
       have k2:=k1.far (p:=⟨base+1,1,none⟩) (fun e=>HNS.out e.symm) (.slice none 0 0)
       have l2:=l1.far (p:=⟨base+1,1,none⟩) HNE1.out (.slice none 0 0)
       have k3:=k2.far (p:=⟨base+1,2,none⟩) (fun e=>HNS.out e.symm) (.slice pA pn pc)
       have l3:=l2.far (p:=⟨base+1,2,none⟩) HNE1.out (.slice pA pn pc)
       have k4:=k3.far (p:=⟨base+1,3,none⟩) (fun e=>HNS.out e.symm) (.int i64 0)
       have l4:=l3.far (p:=⟨base+1,3,none⟩) HNE1.out (.int i64 0)
       have k5:=k4.far (p:=⟨base+1,4,none⟩) (fun e=>HNS.out e.symm) (.int i64 0)
       have l5:=l4.far (p:=⟨base+1,4,none⟩) HNE1.out (.int i64 0)
       have k6:=k5.far (p:=⟨base+1,5,none⟩) (fun e=>HNS.out e.symm) (.int i64 0)
       have l6:=l5.far (p:=⟨base+1,5,none⟩) HNE1.out (.int i64 0)
       have c0:(u0.setCell ⟨base+1,0,none⟩ (.slice A n c)).cell? ⟨sA,0,none⟩=some (.slice A n c):=k1.cell 0
       have d0:((((((u0.setCell ⟨base+1,0,none⟩ (.slice A n c)).setCell ⟨base+1,1,none⟩ (.slice none 0 0)).setCell ⟨base+1,2,none⟩ (.slice pA pn pc)).setCell ⟨base+1,3,none⟩ (.int i64 0)).setCell ⟨base+1,4,none⟩ (.int i64 0)).setCell ⟨base+1,5,none⟩ (.int i64 0)).cell? ⟨sA,0,none⟩=some (.slice A n c):=k6.cell 0
       have f0:(u0.setCell ⟨base+1,0,none⟩ (.slice A n c)).cell? ⟨eA,0,none⟩=some (.slice E n ec):=l1.cell 0
       have c1:((u0.setCell ⟨base+1,0,none⟩ (.slice A n c)).setCell ⟨base+1,1,none⟩ (.slice none 0 0)).cell? ⟨sA,1,none⟩=some (.slice none 0 0):=k2.cell 1
       have d1:((((((u0.setCell ⟨base+1,0,none⟩ (.slice A n c)).setCell ⟨base+1,1,none⟩ (.slice none 0 0)).setCell ⟨base+1,2,none⟩ (.slice pA pn pc)).setCell ⟨base+1,3,none⟩ (.int i64 0)).setCell ⟨base+1,4,none⟩ (.int i64 0)).setCell ⟨base+1,5,none⟩ (.int i64 0)).cell? ⟨sA,1,none⟩=some (.slice none 0 0):=k6.cell 1
       have f1:((u0.setCell ⟨base+1,0,none⟩ (.slice A n c)).setCell ⟨base+1,1,none⟩ (.slice none 0 0)).cell? ⟨eA,0,none⟩=some (.slice E n ec):=l2.cell 0
       have c2:(((u0.setCell ⟨base+1,0,none⟩ (.slice A n c)).setCell ⟨base+1,1,none⟩ (.slice none 0 0)).setCell ⟨base+1,2,none⟩ (.slice pA pn pc)).cell? ⟨sA,2,none⟩=some (.slice pA pn pc):=k3.cell 2
       have d2:((((((u0.setCell ⟨base+1,0,none⟩ (.slice A n c)).setCell ⟨base+1,1,none⟩ (.slice none 0 0)).setCell ⟨base+1,2,none⟩ (.slice pA pn pc)).setCell ⟨base+1,3,none⟩ (.int i64 0)).setCell ⟨base+1,4,none⟩ (.int i64 0)).setCell ⟨base+1,5,none⟩ (.int i64 0)).cell? ⟨sA,2,none⟩=some (.slice pA pn pc):=k6.cell 2
       have f2:(((u0.setCell ⟨base+1,0,none⟩ (.slice A n c)).setCell ⟨base+1,1,none⟩ (.slice none 0 0)).setCell ⟨base+1,2,none⟩ (.slice pA pn pc)).cell? ⟨eA,0,none⟩=some (.slice E n ec):=l3.cell 0
       have c3:((((u0.setCell ⟨base+1,0,none⟩ (.slice A n c)).setCell ⟨base+1,1,none⟩ (.slice none 0 0)).setCell ⟨base+1,2,none⟩ (.slice pA pn pc)).setCell ⟨base+1,3,none⟩ (.int i64 0)).cell? ⟨sA,3,none⟩=some (.int i64 0):=k4.cell 3
       have d3:((((((u0.setCell ⟨base+1,0,none⟩ (.slice A n c)).setCell ⟨base+1,1,none⟩ (.slice none 0 0)).setCell ⟨base+1,2,none⟩ (.slice pA pn pc)).setCell ⟨base+1,3,none⟩ (.int i64 0)).setCell ⟨base+1,4,none⟩ (.int i64 0)).setCell ⟨base+1,5,none⟩ (.int i64 0)).cell? ⟨sA,3,none⟩=some (.int i64 0):=k6.cell 3
       have f3:((((u0.setCell ⟨base+1,0,none⟩ (.slice A n c)).setCell ⟨base+1,1,none⟩ (.slice none 0 0)).setCell ⟨base+1,2,none⟩ (.slice pA pn pc)).setCell ⟨base+1,3,none⟩ (.int i64 0)).cell? ⟨eA,0,none⟩=some (.slice E n ec):=l4.cell 0
       have c4:(((((u0.setCell ⟨base+1,0,none⟩ (.slice A n c)).setCell ⟨base+1,1,none⟩ (.slice none 0 0)).setCell ⟨base+1,2,none⟩ (.slice pA pn pc)).setCell ⟨base+1,3,none⟩ (.int i64 0)).setCell ⟨base+1,4,none⟩ (.int i64 0)).cell? ⟨sA,4,none⟩=some (.int i64 0):=k5.cell 4
       have d4:((((((u0.setCell ⟨base+1,0,none⟩ (.slice A n c)).setCell ⟨base+1,1,none⟩ (.slice none 0 0)).setCell ⟨base+1,2,none⟩ (.slice pA pn pc)).setCell ⟨base+1,3,none⟩ (.int i64 0)).setCell ⟨base+1,4,none⟩ (.int i64 0)).setCell ⟨base+1,5,none⟩ (.int i64 0)).cell? ⟨sA,4,none⟩=some (.int i64 0):=k6.cell 4
       have f4:(((((u0.setCell ⟨base+1,0,none⟩ (.slice A n c)).setCell ⟨base+1,1,none⟩ (.slice none 0 0)).setCell ⟨base+1,2,none⟩ (.slice pA pn pc)).setCell ⟨base+1,3,none⟩ (.int i64 0)).setCell ⟨base+1,4,none⟩ (.int i64 0)).cell? ⟨eA,0,none⟩=some (.slice E n ec):=l5.cell 0
       have c5:((((((u0.setCell ⟨base+1,0,none⟩ (.slice A n c)).setCell ⟨base+1,1,none⟩ (.slice none 0 0)).setCell ⟨base+1,2,none⟩ (.slice pA pn pc)).setCell ⟨base+1,3,none⟩ (.int i64 0)).setCell ⟨base+1,4,none⟩ (.int i64 0)).setCell ⟨base+1,5,none⟩ (.int i64 0)).cell? ⟨sA,5,none⟩=some (.int i64 0):=k6.cell 5
       have d5:((((((u0.setCell ⟨base+1,0,none⟩ (.slice A n c)).setCell ⟨base+1,1,none⟩ (.slice none 0 0)).setCell ⟨base+1,2,none⟩ (.slice pA pn pc)).setCell ⟨base+1,3,none⟩ (.int i64 0)).setCell ⟨base+1,4,none⟩ (.int i64 0)).setCell ⟨base+1,5,none⟩ (.int i64 0)).cell? ⟨sA,5,none⟩=some (.int i64 0):=k6.cell 5
       have f5:((((((u0.setCell ⟨base+1,0,none⟩ (.slice A n c)).setCell ⟨base+1,1,none⟩ (.slice none 0 0)).setCell ⟨base+1,2,none⟩ (.slice pA pn pc)).setCell ⟨base+1,3,none⟩ (.int i64 0)).setCell ⟨base+1,4,none⟩ (.int i64 0)).setCell ⟨base+1,5,none⟩ (.int i64 0)).cell? ⟨eA,0,none⟩=some (.slice E n ec):=l6.cell 0
       obtain ⟨g0,g1,g2,g3,g4,g5,g6⟩:=hs0
       have hSE:((((((u0.setCell ⟨base+1,0,none⟩ (.slice A n c)).setCell ⟨base+1,1,none⟩ (.slice none 0 0)).setCell ⟨base+1,2,none⟩ (.slice pA pn pc)).setCell ⟨base+1,3,none⟩ (.int i64 0)).setCell ⟨base+1,4,none⟩ (.int i64 0)).setCell ⟨base+1,5,none⟩ (.int i64 0)).cell? ⟨sA,0,none⟩=some (.slice A n c)/\((((((u0.setCell ⟨base+1,0,none⟩ (.slice A n c)).setCell ⟨base+1,1,none⟩ (.slice none 0 0)).setCell ⟨base+1,2,none⟩ (.slice pA pn pc)).setCell ⟨base+1,3,none⟩ (.int i64 0)).setCell ⟨base+1,4,none⟩ (.int i64 0)).setCell ⟨base+1,5,none⟩ (.int i64 0)).cell? ⟨sA,1,none⟩=some (.slice none 0 0)/\((((((u0.setCell ⟨base+1,0,none⟩ (.slice A n c)).setCell ⟨base+1,1,none⟩ (.slice none 0 0)).setCell ⟨base+1,2,none⟩ (.slice pA pn pc)).setCell ⟨base+1,3,none⟩ (.int i64 0)).setCell ⟨base+1,4,none⟩ (.int i64 0)).setCell ⟨base+1,5,none⟩ (.int i64 0)).cell? ⟨sA,2,none⟩=some (.slice pA pn pc)/\((((((u0.setCell ⟨base+1,0,none⟩ (.slice A n c)).setCell ⟨base+1,1,none⟩ (.slice none 0 0)).setCell ⟨base+1,2,none⟩ (.slice pA pn pc)).setCell ⟨base+1,3,none⟩ (.int i64 0)).setCell ⟨base+1,4,none⟩ (.int i64 0)).setCell ⟨base+1,5,none⟩ (.int i64 0)).cell? ⟨sA,3,none⟩=some (.int i64 0)/\((((((u0.setCell ⟨base+1,0,none⟩ (.slice A n c)).setCell ⟨base+1,1,none⟩ (.slice none 0 0)).setCell ⟨base+1,2,none⟩ (.slice pA pn pc)).setCell ⟨base+1,3,none⟩ (.int i64 0)).setCell ⟨base+1,4,none⟩ (.int i64 0)).setCell ⟨base+1,5,none⟩ (.int i64 0)).cell? ⟨sA,4,none⟩=some (.int i64 0)/\((((((u0.setCell ⟨base+1,0,none⟩ (.slice A n c)).setCell ⟨base+1,1,none⟩ (.slice none 0 0)).setCell ⟨base+1,2,none⟩ (.slice pA pn pc)).setCell ⟨base+1,3,none⟩ (.int i64 0)).setCell ⟨base+1,4,none⟩ (.int i64 0)).setCell ⟨base+1,5,none⟩ (.int i64 0)).cell? ⟨sA,5,none⟩=some (.int i64 0)/\((((((u0.setCell ⟨base+1,0,none⟩ (.slice A n c)).setCell ⟨base+1,1,none⟩ (.slice none 0 0)).setCell ⟨base+1,2,none⟩ (.slice pA pn pc)).setCell ⟨base+1,3,none⟩ (.int i64 0)).setCell ⟨base+1,4,none⟩ (.int i64 0)).setCell ⟨base+1,5,none⟩ (.int i64 0)).cell? ⟨eA,0,none⟩=some (.slice E n ec):=⟨d0,d1,d2,d3,d4,d5,f5⟩
       refine And.intro (by and_intros <;> with_reducible assumption) ?_
       (try simp only [sP])
       clear k1 l1 c0 d0 f0 g0 k2 l2 c1 d1 f1 g1 k3 l3 c2 d2 f2 g2 k4 l4 c3 d3 f3 g3 k5 l5 c4 d4 f4 g4 k6 l6 c5 d5 f5 g5 g6
       refine wpH 3 (.slice E n ec) 5 hSE ?_
       (try simp only [sP])
       refine wpAnyH_done (by kernel_rfl) ?_ _
       refine NoPanic.normal ?_
       obtain ⟨wf,hwf⟩:∃ z,z=((((((u0.setCell ⟨base+1,0,none⟩ (.slice A n c)).setCell ⟨base+1,1,none⟩ (.slice none 0 0)).setCell ⟨base+1,2,none⟩ (.slice pA pn pc)).setCell ⟨base+1,3,none⟩ (.int i64 0)).setCell ⟨base+1,4,none⟩ (.int i64 0)).setCell ⟨base+1,5,none⟩ (.int i64 0)):=⟨_,rfl⟩
       have HWF:Hid (Bk wf (base+1) 115 #[.slice A n c,.slice none 0 0,.slice pA pn pc,.int i64 0,.int i64 0,.int i64 0]/\Below base w wf/\Kx 0 [115] wr wf):=hid (by
        rw [hwf]
        refine ⟨set6_bk HRu.out.1 _ _ _ _ _ _,?_,(((((((HRu.out.2.2.2.2.mono (Nat.le_refl _) (by simp)).set HRu.out.1 (Nat.zero_le _) (by simp) 0 _).set (HRu.out.1.set_ 0 (.slice A n c)) (Nat.zero_le _) (by simp) 1 _).set ((HRu.out.1.set_ 0 (.slice A n c)).set_ 1 (.slice none 0 0)) (Nat.zero_le _) (by simp) 2 _).set (((HRu.out.1.set_ 0 (.slice A n c)).set_ 1 (.slice none 0 0)).set_ 2 (.slice pA pn pc)) (Nat.zero_le _) (by simp) 3 _).set ((((HRu.out.1.set_ 0 (.slice A n c)).set_ 1 (.slice none 0 0)).set_ 2 (.slice pA pn pc)).set_ 3 (.int i64 0)) (Nat.zero_le _) (by simp) 4 _).set (((((HRu.out.1.set_ 0 (.slice A n c)).set_ 1 (.slice none 0 0)).set_ 2 (.slice pA pn pc)).set_ 3 (.int i64 0)).set_ 4 (.int i64 0)) (Nat.zero_le _) (by simp) 5 _)⟩
        have hlo:base<=base+1:=by omega
        have hbx:=HRu.out.2.2.2.1
        (repeat' first | with_reducible exact hbx | with_reducible refine Below.setCell ?_ hlo _))
       rw [<- hwf]
       clear hwf hSE
       have w0:=HWF.out.1.cell 0
       have w1':=HWF.out.1.cell 1
       have w2':=HWF.out.1.cell 2
       have w3':=HWF.out.1.cell 3
       have w4':=HWF.out.1.cell 4
       have w5':=HWF.out.1.cell 5
       go_wp2_with fail
       (try simp only [Exit.inBlock,Exit.then])
       refine bodyPost_ret (v:=.tuple #[.agg #[.slice A n c,.slice none 0 0,.slice pA pn pc,.int i64 0,.int i64 0,.int i64 0],.slice E n ec]) ?_ rfl ?_
       . rw [results_cell_tmp rfl]
         go_simp
       . have hkk:Kx 0 [131,115] wi wf:=HCK.out.1.kx.trans (HWF.out.2.2.mono (Nat.le_refl _) (by simp))
         refine ⟨by rw [<- HBS.out];exact HWF.out.2.1,A,n,c,pA,pn,pc,E,ec,rfl,?_,?_,HBQ.out,?_⟩
         . rw [<- HBS.out]
           obtain ⟨l,hl,hlq⟩:=HSC.out.bm
           rw [<- HWI.out] at hl
           exact ⟨l,hl.keep hkk (by decide) (by decide),hlq⟩
         . rw [<- HBS.out]
           have:=HSC.out.en
           rw [<- HWI.out] at this
           exact hkk.own this (by decide)
         . rw [<- HBS.out]
           have:=HCS.out.2.1
           rw [HRD.out.2.1,List.take_length] at this
           exact HWF.out.2.2.own this (by decide)
theorem nearF_rng (f:Fd) (v:Int) : -8589934592<=nearF f v/\nearF f v<=8589934592:=by
 unfold nearF
 by_cases h:fieldF f=0
 . rw [if_pos h]
   have hO:=h
   unfold fieldF at h
   have hc:nameF f.nm=true/\1<=f.bits/\f.bits<=32 /\ -4294967296<=f.low/\f.low<=4294967296:=by
    by_cases hc:nameF f.nm=true/\1<=f.bits/\f.bits<=32 /\ -4294967296<=f.low/\f.low<=4294967296
    . exact hc
    . rw [if_neg hc] at h;cases h
   have hp:(2:Int)^f.bits.toNat<=4294967296:=by
    have h1:f.bits.toNat<=32:=by omega
    have h2:(2:Nat)^f.bits.toNat<=2^32:=Nat.pow_le_pow_right (by omega) h1
    have h3:((2^f.bits.toNat:Nat):Int)<=((2^32:Nat):Int):=Int.ofNat_le.2 h2
    simpa using h3
   have hp0:(0:Int)<(2:Int)^f.bits.toNat:=Int.pow_pos (by omega)
   have e:highF f=f.low+2^f.bits.toNat-1:=by
    unfold highF
    rw [if_pos hO]
    omega
   rw [e]
   have h1:=Int.min_def v (f.low+2^f.bits.toNat-1)
   have h2:=Int.max_def f.low (min v (f.low+2^f.bits.toNat-1))
   split at h2 <;> split at h1 <;> omega
 . rw [if_neg h];omega
theorem holdK_rng {d:Kp2} {v:List Int} (h:holdK d v=true):∀ x∈v,-8589934592<=x/\x<=8589934592:=by
 obtain ⟨_,h2,h3⟩:=holdK_iff.1 h
 intro x hx
 obtain ⟨i,hi,e⟩:=List.mem_iff_getElem.1 hx
 have hf:d.2[i]?=some (d.2[i]'(by omega)):=List.getElem?_eq_getElem _
 have e2:=h3 i _ hf
 have e3:v.getD i 0=x:=by simp [List.getD,List.getElem?_eq_getElem hi,e]
 rw [e3] at e2
 rw [<- e2]
 exact nearF_rng _ _
theorem cmAt_mem {l:List Cm} {k:Int} {cm:Cm} (h:cmAt l k=some cm):cm∈l/\cm.k=k:=⟨List.mem_of_find?_eq_some h,by simpa using List.find?_some h⟩
theorem va_of {ks:List Kp2} {l:List Cm} {m:Int} {N:Nat} (hvc:VCs holdK ks (l.map Cm.p)) (hm:∀ (k:Nat) d,m=k->ks[k]?=some d->d.2.length=N):VaOk l m N:=by
 constructor
 . intro cm hc
   obtain ⟨h1,h2⟩:=cmAt_mem hc
   obtain ⟨k,d,e1,e2,e3⟩:=hvc.ok (Cm.p cm) (List.mem_map_of_mem h1)
   have e4:=(holdK_iff.1 e3).2.1
   have e5:(Cm.p cm).1=cm.k:=rfl
   rw [<- hm k d (by rw [<- h2,<- e5,e1]) e2]
   exact e4
 . intro cm hc
   obtain ⟨h1,h2⟩:=cmAt_mem hc
   obtain ⟨k,d,e1,e2,e3⟩:=hvc.ok (Cm.p cm) (List.mem_map_of_mem h1)
   exact holdK_rng e3
theorem named_len {ks:List (ByteArray × List Fd)} {nm:ByteArray} {ns:List ByteArray} {m:Int} (h:namedF ks nm ns=(m,true)) (k:Nat) (d:ByteArray × List Fd) (hk:m=k) (hd:ks[k]?=some d):d.2.length=ns.length:=by
 unfold namedF at h
 by_cases hf:findF (ks.map (·.1)) nm<0
 . rw [if_pos hf] at h
   injection h with h1
   omega
 . rw [if_neg hf] at h
   cases hg:ks[(findF (ks.map (·.1)) nm).toNat]? with
   | none =>
     rw [hg] at h
     injection h with h1
     omega
   | some x =>
     rw [hg] at h
     injection h with h1 h2
     have e:(findF (ks.map (·.1)) nm).toNat=k:=by omega
     rw [e,hd] at hg
     injection hg with hg
     subst hg
     have:=of_decide_eq_true h2
     rw [<- this,List.length_map]
theorem mapF_ok {ks:List (ByteArray × List Fd)} {m0 m1 m2:Int} (h:mapF ks=((m0,m1,m2),0)):spec ks sp0=(m0,true)/\spec ks sp1=(m1,true)/\spec ks sp2=(m2,true):=by
 unfold mapF at h
 by_cases h0:checkF ks≠0
 . rw [if_pos h0] at h
   injection h with _ h
   exact absurd h h0
 . rw [if_neg h0] at h
   generalize spec ks sp0=r0 at *
   generalize spec ks sp1=r1 at *
   generalize spec ks sp2=r2 at *
   obtain ⟨a0,b0⟩:=r0
   obtain ⟨a1,b1⟩:=r1
   obtain ⟨a2,b2⟩:=r2
   dsimp only at h
   cases b0 <;> cases b1 <;> cases b2 <;> simp at h ⊢ <;> omega
theorem itv_of {w:World} {B:Nat} {x:Wd} {m0 m1 m2:Int} (h:WdOk w B x) (hc:wcheckF x.p=0) (hm:mapF (x.ks.map Kd.p)=((m0,m1,m2),0)):∀ it∈x.its,ItV it m0 m1 m2:=by
 obtain ⟨_,hv⟩:=vw_of hc
 obtain ⟨s0,s1,s2⟩:=mapF_ok hm
 intro it hit
 have hvc:VCs holdK (x.ks.map Kd.p) (it.cms.map Cm.p):=(hv.ok (It.p it) (List.mem_map_of_mem hit)).2.2
 refine ⟨va_of hvc fun k d e1 e2=>named_len s0 k d e1 e2,va_of hvc fun k d e1 e2=>named_len s1 k d e1 e2,va_of hvc fun k d e1 e2=>named_len s2 k d e1 e2,fun k hk=>?_,fun cm hcm=>?_⟩
 . cases hq:cmAt it.cms k with
   | none=>rfl
   | some cm =>
     obtain ⟨h1,h2⟩:=cmAt_mem hq
     obtain ⟨j,d,e1,_⟩:=hvc.ok (Cm.p cm) (List.mem_map_of_mem h1)
     have e5:(Cm.p cm).1=cm.k:=rfl
     omega
 . obtain ⟨j,d,e1,e2,e3⟩:=hvc.ok (Cm.p cm) (List.mem_map_of_mem hcm)
   have e4:=(holdK_iff.1 e3).1
   have e6:=(holdK_iff.1 e3).2.1
   have e5:=oneF_small e4
   have e7:=((h.its.ok it hit).cs.ok cm hcm).len
   have e8:(Cm.p cm).2=cm.vals:=rfl
   rw [e8] at e6
   omega
theorem fit_ne {d:ByteArray × List Fd} {vs:List Int} (h1:oneF d.1 d.2=0) (h2:d.2.length=vs.length) (h3:0<vs.length):(fitF d.1 d.2 vs).1≠[]:=by
 unfold fitF
 rw [if_neg (by simp [h1]),if_neg (by simp [h2])]
 intro h
 have h4:=congrArg List.length h
 simp only [zipF,List.length_zipWith,List.length_nil] at h4
 omega
theorem named_at {ks:List (ByteArray × List Fd)} {nm:ByteArray} {ns:List ByteArray} {m:Int} (h:namedF ks nm ns=(m,true)) (hm:0<=m):∃ K:Nat,m=K/\ks[K]?=some (kdAt ks m)/\(kdAt ks m).2.length=ns.length:=by
 have hx:∃ d,ks[m.toNat]?=some d:=by
  unfold namedF at h
  by_cases hf:findF (ks.map (·.1)) nm<0
  . rw [if_pos hf] at h
    injection h with h1
    omega
  . rw [if_neg hf] at h
    cases hg:ks[(findF (ks.map (·.1)) nm).toNat]? with
    | none =>
      rw [hg] at h
      injection h with h1
      omega
    | some x =>
      rw [hg] at h
      injection h with h1 h2
      rw [<- h1]
      exact ⟨x,hg⟩
 obtain ⟨d,hd⟩:=hx
 have e:kdAt ks m=d:=by
  unfold kdAt
  rw [List.getD_eq_getElem?_getD,hd]
  rfl
 refine ⟨m.toNat,by omega,by rw [e];exact hd,?_⟩
 rw [e]
 exact named_len h m.toNat d (by omega) hd
theorem mapF_kd {ks:List (ByteArray × List Fd)} {m0 m1 m2:Int} (h:mapF ks=((m0,m1,m2),0)) :
 (0<=m0->(∃ K:Nat,m0=K/\ks[K]?=some (kdAt ks m0))/\∀ b,plF (kdAt ks m0) b≠[])/\(0<=m1->(∃ K:Nat,m1=K/\ks[K]?=some (kdAt ks m1))/\∀ b,moF (kdAt ks m1) b≠[]):=by
 have hc:checkF ks=0:=by
  unfold mapF at h
  by_cases h0:checkF ks≠0
  . rw [if_pos h0] at h
    exact absurd (congrArg Prod.snd h) h0
  . exact Decidable.not_not.1 h0
 obtain ⟨_,h1⟩:=check_len hc
 obtain ⟨s0,s1,_⟩:=mapF_ok h
 constructor
 . intro hm
   obtain ⟨K,e1,e2,e3⟩:=named_at s0 hm
   exact ⟨⟨K,e1,e2⟩,fun b=>fit_ne (h1 _ (List.mem_of_getElem? e2)) e3 (by simp)⟩
 . intro hm
   obtain ⟨K,e1,e2,e3⟩:=named_at s1 hm
   exact ⟨⟨K,e1,e2⟩,fun b=>fit_ne (h1 _ (List.mem_of_getElem? e2)) e3 (by simp)⟩
theorem PlOk.of_valid {p:Wv Kp2} {m0 m1 m2:Int} (h:VW holdK p) (hc:checkF p.ks=0) (hm:mapF p.ks=((m0,m1,m2),0)):PlOk m0 p.its:=fun x hx=>by
 obtain ⟨h1,_⟩:=check_len hc
 obtain ⟨s0,_,_⟩:=mapF_ok hm
 have hv:=(h.ok x hx).2.2
 refine ⟨by have:=hv.len_le;omega,fun c hcm=>?_⟩
 obtain ⟨k,d,e1,e2,e3⟩:=hv.ok c hcm
 refine ⟨by omega,fun e=>?_⟩
 have h3:=named_len s0 k d (by omega) e2
 have h4:=(holdK_iff.1 e3).2.1
 intro h5
 rw [h5,h3] at h4
 simp [sp0] at h4
def KeepC (m0 m1:Int) (x y:Iv):Prop:=y.1=x.1/\y.2.length=x.2.length/\∀ (j:Nat) (c d:Cv),x.2[j]?=some c->y.2[j]?=some d->d.1=c.1/\(c.1≠m0->c.1≠m1->d.2=c.2)
def KeepL (m0 m1:Int) (l l':List Iv):Prop:=l'.length=l.length/\∀ (i:Nat) (x y:Iv),l[i]?=some x->l'[i]?=some y->KeepC m0 m1 x y
theorem KeepC.refl {m0 m1:Int} (x:Iv):KeepC m0 m1 x x:=⟨rfl,rfl,fun j c d h1 h2=>by rw [h1] at h2;injection h2 with h2;subst h2;exact ⟨rfl,fun _ _=>rfl⟩⟩
theorem KeepC.trans {m0 m1:Int} {x y z:Iv} (h:KeepC m0 m1 x y) (k:KeepC m0 m1 y z):KeepC m0 m1 x z:=by
 refine ⟨k.1.trans h.1,k.2.1.trans h.2.1,fun j c d h1 h2=>?_⟩
 have hj:j<y.2.length:=by rw [h.2.1];exact (List.getElem?_eq_some_iff.1 h1).1
 have hy:=List.getElem?_eq_getElem hj
 obtain ⟨a1,a2⟩:=h.2.2 j c _ h1 hy
 obtain ⟨b1,b2⟩:=k.2.2 j _ d hy h2
 exact ⟨b1.trans a1,fun g0 g1=>(b2 (by rw [a1];exact g0) (by rw [a1];exact g1)).trans (a2 g0 g1)⟩
theorem KeepL.refl {m0 m1:Int} (l:List Iv):KeepL m0 m1 l l:=⟨rfl,fun i x y h1 h2=>by rw [h1] at h2;injection h2 with h2;subst h2;exact KeepC.refl _⟩
theorem KeepL.trans {m0 m1:Int} {a b c:List Iv} (h:KeepL m0 m1 a b) (k:KeepL m0 m1 b c):KeepL m0 m1 a c:=by
 refine ⟨k.1.trans h.1,fun i x y h1 h2=>?_⟩
 have hi:i<b.length:=by rw [h.1];exact (List.getElem?_eq_some_iff.1 h1).1
 have hb:=List.getElem?_eq_getElem hi
 exact (h.2 i x _ h1 hb).trans (k.2 i _ y hb h2)
theorem KeepC.up {m0 m1:Int} {d0 d1:ByteArray × List Fd} {b:By} (x:Iv):KeepC m0 m1 x (bwUp m0 m1 d0 d1 b x):=by
 refine ⟨rfl,by simp [bwUp,updI],fun j c d h1 h2=>?_⟩
 have h3:((x.2.map (updC m0 (plF d0 b))).map (updC m1 (moF d1 b)))[j]?=some d:=h2
 rw [List.getElem?_map,List.getElem?_map,h1] at h3
 have h4:updC m1 (moF d1 b) (updC m0 (plF d0 b) c)=d:=by simpa using h3
 rw [<- h4]
 unfold updC
 by_cases e0:c.1=m0
 . rw [if_pos e0]
   by_cases e1:((m0,plF d0 b):Cv).1=m1
   . rw [if_pos e1];exact ⟨by rw [e0];exact e1.symm,fun h=>absurd e0 h⟩
   . rw [if_neg e1];exact ⟨e0.symm,fun h=>absurd e0 h⟩
 . rw [if_neg e0]
   by_cases e1:c.1=m1
   . rw [if_pos e1];exact ⟨e1.symm,fun _ h=>absurd e1 h⟩
   . rw [if_neg e1];exact ⟨rfl,fun _ _=>rfl⟩
theorem KeepL.one {m0 m1:Int} {d0 d1:ByteArray × List Fd} (l:List Iv) (r:(Int × Int) × By):KeepL m0 m1 l (bwOne m0 m1 d0 d1 l r):=by
 unfold bwOne
 cases hx:l[(findP l r.1.1 r.1.2).toNat]? with
 | none=>exact KeepL.refl l
 | some z =>
   refine ⟨by simp,fun i x y h1 h2=>?_⟩
   have hi:=(List.getElem?_eq_some_iff.1 h1).1
   by_cases e:i=(findP l r.1.1 r.1.2).toNat
   . rw [<- e] at hx h2
     rw [List.getElem?_set_self hi] at h2
     injection h2 with h2
     rw [hx] at h1
     injection h1 with h1
     rw [<- h2,<- h1]
     exact KeepC.up z
   . have h3:(l.set (findP l r.1.1 r.1.2).toNat (bwUp m0 m1 d0 d1 r.2 z))[i]?=l[i]?:=List.getElem?_set_ne (Ne.symm e)
     have h4:=h3.symm.trans h2
     rw [h1] at h4
     injection h4 with h4
     rw [<- h4]
     exact KeepC.refl _
theorem KeepL.bwF {m0 m1:Int} {d0 d1:ByteArray × List Fd} (rs:List ((Int × Int) × By)):∀ l:List Iv,KeepL m0 m1 l (bwF m0 m1 d0 d1 l rs):=by
 induction rs with
 | nil=>intro l;exact KeepL.refl l
 | cons r rs ih=>intro l;exact (KeepL.one l r).trans (ih _)
theorem KeepL.ents {m0 m1:Int} {l l':List Iv} (h:KeepL m0 m1 l l'):l'.map Prod.fst=l.map Prod.fst:=by
 apply List.ext_getElem?
 intro i
 rw [List.getElem?_map,List.getElem?_map]
 by_cases hi:i<l.length
 . have hi':i<l'.length:=by rw [h.1];exact hi
   rw [List.getElem?_eq_getElem hi,List.getElem?_eq_getElem hi']
   have:=(h.2 i _ _ (List.getElem?_eq_getElem hi) (List.getElem?_eq_getElem hi')).1
   simp [this]
 . rw [List.getElem?_eq_none (show l'.length<=i by rw [h.1];omega),List.getElem?_eq_none (show l.length<=i by omega)]
theorem findP_ents (l:List Iv) (N M:Int):findP l N M=idxF (fun e:Int × Int=>decide (e.1=N/\e.2=M)) (l.map Prod.fst):=by
 unfold findP
 rw [idxF_map]
def cvAt (l:List Cv) (k:Int):Option (List Int):=(l.find? fun c=>decide (c.1=k)).map Prod.snd
def bodyP (m0 m1 m2:Int) (l:List Cv):Option Bo :=
 match cvAt l m0,cvAt l m2 with
 | some p,some s=>match cvAt l m1 with
   | some v=>if atI s 2<1 then some (bo0 p s) else some (bo1 p s v)
   | none=>some (bo0 p s)
 | _,_=>none
def Bo.by_ (b:Bo) (A:Option Addr) (n c:Nat):By:=⟨b.px,b.py,b.vx,b.vy,b.ang,b.spin,b.mass,b.inr,b.bou,b.rub,A,n,c,b.asl,b.calm⟩
end Go.Proofs.Ytnidcmhfbkdioaa
