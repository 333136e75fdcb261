/-
  tourref4.CopyWorld: the copy's components lie in rows apart from each other. Conditions: a small world that can be read.
-/
import Derived.Test.YtnidcmhfbkdioaaSw21
import Derived.Test.YtnidcmhfbkdioaaSw11
namespace Go.Proofs.Ytnidcmhfbkdioaa
open Go.RowKit
open Go.IntKind (i64)
open Go.Lib (hid)
set_option maxRecDepth 100000
structure ItR (w:World) (base:Nat) (l:List It):Prop where
 row:∀ x∈l,w.ownsRow base 166 2 (.slice x.A x.n x.c) x.n (cmCs x.cms)
 apart:l.Pairwise fun a b=>∀ g g',(Value.slice a.A a.n a.c).ownBlock=some g->(Value.slice b.A b.n b.c).ownBlock=some g'->g≠g'
theorem ItR.nil {w:World} {base:Nat}:ItR w base []:=⟨(fun x hx=>by cases hx),List.Pairwise.nil⟩
theorem ItR.keep {w w':World} {base B:Nat} {l:List It} {F:List TypeId} (h:ItR w base l) (hk:Kx B F w w') (hF:(166:TypeId) ∉ F):ItR w' base l :=
 ⟨fun x hx=>hk.own (h.row x hx) hF,h.apart⟩
theorem ItR.snoc {w:World} {base H:Nat} {l:List It} {it:It} (h:ItR w base l) (hb:base<=H) (hold:∀ x∈l,∀ g,(Value.slice x.A x.n x.c).ownBlock=some g->g<H) (hr:w.ownsRow H 166 2 (.slice it.A it.n it.c) it.n (cmCs it.cms)):ItR w base (l++[it]):=by
 refine ⟨fun x hx=>?_,?_⟩
 . rcases List.mem_append.1 hx with hx | hx
   . exact h.row x hx
   . rw [show x=it by simpa using hx];exact own_lo2 hr hb
 . refine List.pairwise_append.2 ⟨h.apart,List.pairwise_singleton _ _,fun a ha b hb' g g' h1 h2=>?_⟩
   rw [show b=it by simpa using hb'] at h2
   have e1:=hold a ha g h1
   have e2:=(hr.lt g' h2).1
   omega
structure CWJ (ho base:Nat) (wr:World) (kA:Option Addr) (kn kc:Nat) (ks:List Kd) (GA:Option Addr) (n gc:Nat) (G:List Int) (IA:Option Addr) (q ic:Nat) (its:List It):Prop where
 bo:Bk wr ho 52 #[.slice kA kn kc,.slice GA n gc,.slice IA q ic]
 kown:wr.ownsRow base 63 2 (.slice kA kn kc) kn (kdCs ks)
 kok:∀ k∈ks,KdY wr 0 k
 klen:kn=ks.length
 gs:GsY wr 0 GA n gc G
 iown:wr.ownsRow base 147 3 (.slice IA q ic) q (itCs its)
 len:q=its.length
 iok:∀ it∈its,ItY wr 0 it
 fr:ItR wr base its
 lo:base<=ho
section
variable {ho base:Nat} {wr w':World} {kA:Option Addr} {kn kc:Nat} {ks:List Kd} {GA:Option Addr} {n gc:Nat} {G:List Int} {IA:Option Addr} {q ic:Nat} {its:List It}
theorem CWJ.kx {B:Nat} {F:List TypeId} (H:CWJ ho base wr kA kn kc ks GA n gc G IA q ic its) (hq:Kx B F wr w') (h52:(52:TypeId) ∉ F) (h63:(63:TypeId) ∉ F) (h66:(66:TypeId) ∉ F) (h3:(3:TypeId) ∉ F) (h147:(147:TypeId) ∉ F) (h166:(166:TypeId) ∉ F):CWJ ho base w' kA kn kc ks GA n gc G IA q ic its :=
 have hq0:=hq.mono (Nat.zero_le _) (G:=F) (fun _ h=>h)
 ⟨hq.bk H.bo h52,hq.own H.kown h63,fun k hk=>(H.kok k hk).keep hq0 h66,H.klen,H.gs.keep hq0 h3,hq.own H.iown h147,H.len,fun it hit=>(H.iok it hit).keep hq0 h3 h166,H.fr.keep hq h166,H.lo⟩
theorem CWJ.below (H:CWJ ho base wr kA kn kc ks GA n gc G IA q ic its) (hb:Below wr.heap.size wr w'):CWJ ho base w' kA kn kc ks GA n gc G IA q ic its :=
 H.kx (F:=[]) (Kx.of_below (B:=0) hb) (by simp) (by simp) (by simp) (by simp) (by simp) (by simp)
theorem CWJ.kind (H:CWJ ho base wr kA kn kc ks GA n gc G none 0 0 []) {w8:World} {g8 c8:Nat} {k:Kd} {o:Obj} (hk:KdY wr 0 k)
 (hown8:w8.ownsRow base 63 2 (.slice (some ⟨g8,0,none⟩) (kn+1) c8) (kn+1) (kdCs ks++[.string k.nm,.slice k.A k.n k.c])) (hg8:(wr.alloc o).grownBy w8 (Value.slice kA kn kc).ownBlock) :
 CWJ ho base (w8.setCell ⟨ho,0,none⟩ (.slice (some ⟨g8,0,none⟩) (kn+1) c8)) (some ⟨g8,0,none⟩) (kn+1) c8 (ks++[k]) GA n gc G none 0 0 []:=by
 have hq7:Kx 0 [63] wr w8:=((Kx.refl (B:=0)).alloc _).grown (H.kown.alloc _) hg8 (Nat.zero_le _) (by simp)
 have bo:=hq7.bk H.bo (by decide)
 have hset:Kx 0 [52] w8 (w8.setCell ⟨ho,0,none⟩ (.slice (some ⟨g8,0,none⟩) (kn+1) c8)):=Kx.set Kx.refl bo (Nat.zero_le _) (by simp) 0 _
 refine ⟨by simpa using bo.set_ 0 (.slice (some ⟨g8,0,none⟩) (kn+1) c8),?_,fun x hx=>?_,by simp [H.klen],(H.gs.keep hq7 (by decide)).keep hset (by decide),hset.own (hq7.own H.iown (by decide)) (by decide),rfl,(fun x hx=>by cases hx),ItR.nil,H.lo⟩
 . rw [show kdCs (ks++[k])=kdCs ks++[.string k.nm,.slice k.A k.n k.c] by simp [kdCs,Kd.cs]]
   exact hset.own hown8 (by decide)
 . rcases List.mem_append.1 hx with hx | hx
   . exact ((H.kok x hx).keep hq7 (by decide)).keep hset (by decide)
   . rw [show x=k by simpa using hx];exact (hk.keep hq7 (by decide)).keep hset (by decide)
theorem CWJ.item (H:CWJ ho base wr kA kn kc ks GA n gc G IA q ic its) {w8:World} {g8 c8:Nat} {it:It} {o:Obj} {H0:Nat} (hi:ItY wr 0 it) (hH:base<=H0) (hold:∀ x∈its,∀ g,(Value.slice x.A x.n x.c).ownBlock=some g->g<H0) (hf:wr.ownsRow H0 166 2 (.slice it.A it.n it.c) it.n (cmCs it.cms))
 (hown8:w8.ownsRow base 147 3 (.slice (some ⟨g8,0,none⟩) (q+1) c8) (q+1) (itCs its++[.int i64 it.e,.int i64 it.g,.slice it.A it.n it.c])) (hg8:(wr.alloc o).grownBy w8 (Value.slice IA q ic).ownBlock) :
 CWJ ho base (w8.setCell ⟨ho,2,none⟩ (.slice (some ⟨g8,0,none⟩) (q+1) c8)) kA kn kc ks GA n gc G (some ⟨g8,0,none⟩) (q+1) c8 (its++[it]):=by
 have hq7:Kx 0 [147] wr w8:=((Kx.refl (B:=0)).alloc _).grown (H.iown.alloc _) hg8 (Nat.zero_le _) (by simp)
 have bo:=hq7.bk H.bo (by decide)
 have hset:Kx 0 [52] w8 (w8.setCell ⟨ho,2,none⟩ (.slice (some ⟨g8,0,none⟩) (q+1) c8)):=Kx.set Kx.refl bo (Nat.zero_le _) (by simp) 2 _
 refine ⟨by simpa using bo.set_ 2 (.slice (some ⟨g8,0,none⟩) (q+1) c8),hset.own (hq7.own H.kown (by decide)) (by decide),fun k hk=>((H.kok k hk).keep hq7 (by decide)).keep hset (by decide),H.klen,(H.gs.keep hq7 (by decide)).keep hset (by decide),?_,by simp [H.len],fun x hx=>?_,((H.fr.snoc hH hold hf).keep hq7 (by decide)).keep hset (by decide),H.lo⟩
 . rw [itCs_snoc];exact hset.own hown8 (by decide)
 . rcases List.mem_append.1 hx with hx | hx
   . exact ((H.iok x hx).keep hq7 (by decide) (by decide)).keep hset (by decide) (by decide)
   . rw [show x=it by simpa using hx];exact (hi.keep hq7 (by decide) (by decide)).keep hset (by decide) (by decide)
theorem CWJ.wd (H:CWJ ho base wr kA kn kc ks GA n gc G IA q ic its):WdY wr 0 ⟨kA,kn,kc,ks,GA,n,gc,G,IA,q,ic,its⟩:=by
 have hc:=own_cap2 H.kown
 exact ⟨⟨.of_own H.kown,H.klen,hc.1,hc.2,H.kok⟩,H.gs,IsY.of_own H.iown H.len H.iok⟩
end
set_option maxHeartbeats 8000000 in
theorem copyR2_any {w:World} {B:Nat} {x:Wd} (h:WdOk w B x) (hs:SmallV x.p) :
 Calls Try.prog 108 #[.agg #[.slice x.kA x.kn x.kc,.slice x.gA x.gn x.gc,.slice x.iA x.im x.ic]] w fun e w'=>∃ y:Wd,e=.returned (.agg #[.slice y.kA y.kn y.kc,.slice y.gA y.gn y.gc,.slice y.iA y.im y.ic])/\Hid (WdY w' 0 y/\y.p=x.p/\ItR w' w.heap.size y.its)/\Below w.heap.size w w':=by
 obtain ⟨kA,kn,kc,ks,GA,gn,gc,G,IA,im,ic,its⟩:=x
 have hks:KsOk w B kA kn kc ks:=h.ks
 have hgs:GsOk w B GA gn gc G:=h.gs
 have his:IsOk w B IA im ic its:=h.its
 show Calls Try.prog 108 #[.agg #[.slice kA kn kc,.slice GA gn gc,.slice IA im ic]] w _
 obtain ⟨W0,hW0⟩:∃ W0,W0=(w.alloc (.cells #[.slice kA kn kc,.slice GA gn gc,.slice IA im ic] 52)).alloc (.cells #[.slice none 0 0,.slice none 0 0,.slice none 0 0] 52):=⟨_,rfl⟩
 have hb0:Below w.heap.size w W0:=by rw [hW0];exact Below.al (Below.al (Below.refl _ _) _) _
 have hbw:Bk W0 w.heap.size 52 #[.slice kA kn kc,.slice GA gn gc,.slice IA im ic]:=by rw [hW0];exact (Bk.new _ _ _).alloc _
 have hbR:Bk W0 (w.heap.size+1) 52 #[.slice none 0 0,.slice none 0 0,.slice none 0 0]:=by rw [hW0];exact Bk.two _ _ _ _
 obtain ⟨r,hrr⟩:∃ r,r=w.heap.size+1:=⟨_,rfl⟩
 rw [<- hrr] at hbR
 have hB:B<=w.heap.size:=hks.lo
 have hrW:r<W0.heap.size:=hbR.lt
 have hwr:w.heap.size<r:=by omega
 have hkn2:kn<=1048576:=by have h1:=hks.len;have h2:=hs.ks;simp [Wd.p] at h2;omega
 have hgn2:gn<=1048576:=by have h1:=hgs.len;have h2:=hs.gens;simp [Wd.p] at h2;omega
 have him2:im<=1048576:=by have h1:=his.len;have h2:=hs.its;simp [Wd.p] at h2;omega
 have hkcap:=hks.cap
 have hkcap2:=hks.cap2
 have hicap:=his.cap
 have hicap2:=his.cap2
 have HKS:=hid hks
 have HGS:=hid hgs
 have HIS:=hid his
 have HSM:=hid hs
 have HB0:=hid hb0
 have HWB:Hid (∀ wx,Below W0.heap.size W0 wx->Bk wx w.heap.size 52 #[.slice kA kn kc,.slice GA gn gc,.slice IA im ic]):=hid fun wx hb=>hbw.below2 hb
 have HRB:Hid (∀ wx,Below W0.heap.size W0 wx->Bk wx r 52 #[.slice none 0 0,.slice none 0 0,.slice none 0 0]):=hid fun wx hb=>hbR.below2 hb
 have HBW:Hid (∀ wx,Below W0.heap.size W0 wx->Below w.heap.size w wx):=hid fun wx hb=>hb0.trans (hb.mono hb0.size)
 have hg:Calls Try.prog 103 #[.slice GA gn gc] W0 (RetS W0 3 1 gn (G.map (Value.int .i64))):=cloneInts_any GA gn gc B (G.map (Value.int .i64)) W0 (hgs.rd.below (hb0.mono hB)) (by intro u hu;obtain ⟨z,_,rfl⟩:=List.mem_map.1 hu;rfl) (Nat.le_trans hB hb0.size) (by omega)
 have HG:=hid hg
 have c1:W0.cell? ⟨w.heap.size,1,none⟩=some (.slice GA gn gc):=hbw.cell 1
 have HRR:=hid hrr
 clear h hs hks hgs his hb0 hbw hbR hg hrr
 go_enter Try.func108,Try.ntmps108
 go_wp2_with fail
 rw [<- hW0,<- HRR.out]
 clear hW0
 (with_reducible refine HG.out.mono ?_)
 rintro e w1 ⟨GA',gc',rfl,hown1,hb1⟩
 clear c1 HG
 obtain ⟨w2,hw2⟩:∃ w2,w2=w1.alloc (.cells #[.slice none 0 0,.slice GA' gn gc',.slice none 0 0] 52):=⟨_,rfl⟩
 obtain ⟨ho,hho⟩:∃ ho,ho=w1.heap.size:=⟨_,rfl⟩
 have HBL2:Hid (Below W0.heap.size W0 w2):=hid (by rw [hw2];exact Below.al hb1 _)
 have hoW:W0.heap.size<=ho:=by rw [hho];exact hb1.size
 have HI2:Hid (CWJ ho w.heap.size w2 none 0 0 [] GA' gn gc' G none 0 0 []):=hid ⟨by rw [hw2,hho];exact Bk.new _ _ _,World.ownsRow_nil _ _ _ _,(fun x hx=>by cases hx),rfl,(GsY.own hown1 HGS.out.wf).keep (F:=[]) (by rw [hw2];exact (Kx.refl (B:=0)).alloc _) (by simp),World.ownsRow_nil _ _ _ _,rfl,(fun x hx=>by cases hx),ItR.nil,by omega⟩
 have HGK2:Hid (∀ q,(Value.slice none 0 0).ownBlock=some q->W0.heap.size<=q/\q<w2.heap.size):=hid (fun q hq=>by simp [Value.ownBlock] at hq)
 have c0:w2.cell? ⟨w.heap.size,0,none⟩=some (.slice kA kn kc):=(HWB.out w2 HBL2.out).cell 0
 have HHO:=hid hho
 clear hown1 hb1 hho
 obtain ⟨iK,hiK,hzK0,hzK1,hzK2⟩:=info_parts T.infoKd
 obtain ⟨i1,hi1,hz10,hz11,hz12⟩:=info_parts T.infoCm
 obtain ⟨iI,hiI,hzI0,hzI1,hzI2⟩:=info_parts T.infoIt
 go_upto_region 2 with fail
 rw [<- hw2,<- HHO.out]
 clear hw2
 go_wp2_with fail
 go_loopw [18] (fun iv wr=>∃ (k kc1:Nat) (KA:Option Addr) (ks1:List Kd),k<=kn/\iv=.int i64 k/\Hid (CWJ ho w.heap.size wr KA k kc1 ks1 GA' gn gc' G none 0 0 []/\ks1.map Kd.p=(ks.take k).map Kd.p)/\Hid (Below W0.heap.size W0 wr)/\Hid (∀ q,(Value.slice KA k kc1).ownBlock=some q->W0.heap.size<=q/\q<wr.heap.size)) (fun iv _=>kn-(intOf iv).toNat)
 case atStart=>exact ⟨0,0,none,[],Nat.zero_le _,rfl,hid ⟨HI2.out,rfl⟩,HBL2,HGK2⟩
 case round =>
  clear HI2 HBL2 c0 HGK2
  obtain ⟨k,kc1,KA,ks1,hk,rfl,HI,HBL,HGK⟩:=hrel
  by_cases hlt:k<kn
  . have hkz:(k:Int)<kn:=by omega
    have hk0:(0:Int)<=k:=by omega
    obtain ⟨x,hx⟩:∃ x,ks[k]?=some x:=⟨_,List.getElem?_eq_getElem (by have:=HKS.out.len;omega)⟩
    have hkw:=HKS.out.below ((HBW.out wr HBL.out).mono hB)
    obtain ⟨b,o,rfl,hbb,q0,q1⟩:=hkw.rd.kd hlt hx
    have hko:=hkw.ok x (List.mem_of_getElem? hx)
    have hfl:x.n=x.fds.length:=hko.len
    have hf2:x.n<=1048576:=by rw [hfl];exact HSM.out.fds _ (List.mem_map_of_mem (f:=Kd.p) (List.mem_of_getElem? hx))
    have hws:W0.heap.size<=wr.heap.size:=HBL.out.size
    have hBw:B<=wr.heap.size:=by omega
    have hrd:Rd wr B 3 x.A x.n (fdCs x.fds):=hko.rd
    have HCL:Hid (∀ wx,Below wr.heap.size wr wx->Calls Try.prog 175 #[.slice x.A x.n x.c] wx (RetS wx 66 3 x.n (fdCs x.fds))):=hid fun wx hb=>cloneFds_any x.A x.n x.c B (fdCs x.fds) wx (hrd.below (hb.mono hBw)) (by intro u hu;obtain ⟨f,_,hf⟩:=List.mem_flatMap.1 hu;simp [Fd.cs] at hf;rcases hf with rfl | rfl | rfl <;> rfl) (Nat.le_trans hBw hb.size) (by omega)
    have HX:=hid hx
    have HFL:=hid hfl
    have HP:Hid (x.p=(x.nm,x.fds)):=hid rfl
    clear hx hkw hko hfl hrd
    generalize hnm:x.nm=nm at *
    generalize hfA:x.A=fA at *
    generalize hfn:x.n=fn at *
    generalize hfc:x.c=fc at *
    generalize hfds:x.fds=fds at *
    clear hnm hfA hfn hfc hfds
    obtain ⟨hk,hhk⟩:∃ hk,hk=wr.heap.size:=⟨_,rfl⟩
    obtain ⟨w1,hw1⟩:∃ w1,w1=wr.alloc (.cells #[.string nm,.slice fA fn fc] 63):=⟨_,rfl⟩
    have HB1:Hid (Below wr.heap.size wr w1):=hid (by rw [hw1];exact Below.al (Below.refl _ _) _)
    have hk1:Bk w1 hk 63 #[.string nm,.slice fA fn fc]:=by rw [hw1,hhk];exact Bk.new _ _ _
    have HI1:=hid (HI.out.1.below HB1.out)
    have HNK:Hid ((Value.slice KA k kc1).ownBlock≠some hk):=hid (fun e=>by have:=(HGK.out _ e).2;omega)
    have HHK:=hid hhk
    clear hhk
    have s1:w1.drew.cell? ⟨ho,0,none⟩=some (.slice KA k kc1)/\w1.drew.cell? ⟨hk,0,none⟩=some (.string nm)/\w1.drew.cell? ⟨hk,1,none⟩=some (.slice fA fn fc):=⟨HI1.out.bo.cell 0,hk1.cell 0,hk1.cell 1⟩
    go_wp2_with fail
    rw [<- hw1,<- HHK.out]
    clear hw1 q0 q1
    refine wp_region_E (S:=fun wx=>wx.cell? ⟨ho,0,none⟩=some (.slice KA k kc1)/\wx.cell? ⟨hk,0,none⟩=some (.string nm)/\wx.cell? ⟨hk,1,none⟩=some (.slice fA fn fc)) (last:=11) (by kernel_rfl) ?_
    refine wpE 0 (.pointer (some ⟨ho,0,none⟩)) 22 s1 ?_
    (try simp only [sP])
    refine wpE 1 (.slice KA k kc1) 23 s1 ?_
    (try simp only [sP])
    refine wpE 2 (.pointer (some ⟨hk,0,none⟩)) 24 s1 ?_
    (try simp only [sP])
    refine wpE 3 (.string nm) 25 s1 ?_
    (try simp only [sP])
    refine wpE 4 (.pointer (some ⟨hk,1,none⟩)) 26 s1 ?_
    (try simp only [sP])
    refine wpE 5 (.slice fA fn fc) 27 s1 ?_
    (try simp only [sP])
    refine wpAnyE_one (i:=6) rfl (by kernel_rfl) rfl ?_
    go_simp
    (with_reducible refine (HCL.out _ HB1.out.drew).mono ?_)
    rintro e w3 ⟨FA,fc3,rfl,hownF,hb3⟩
    have HI3:=hid ((HI1.out.kx (F:=[]) (Kx.refl (B:=0) |>.drew) (by simp) (by simp) (by simp) (by simp) (by simp) (by simp)).below hb3)
    have hk3:=hk1.drew.below2 hb3
    have s3:w3.cell? ⟨ho,0,none⟩=some (.slice KA k kc1)/\w3.cell? ⟨hk,0,none⟩=some (.string nm)/\w3.cell? ⟨hk,1,none⟩=some (.slice fA fn fc):=⟨HI3.out.bo.cell 0,hk3.cell 0,hk3.cell 1⟩
    have hw3:wr.heap.size<=w3.heap.size:=Nat.le_trans HB1.out.size hb3.size
    refine ⟨s3,?_⟩
    (try simp only [sP])
    refine wpE 7 (.agg #[.string nm,.slice FA fn fc3]) 29 s3 ?_
    (try simp only [sP])
    refine wpAnyE_one (i:=8) rfl (by kernel_rfl) rfl ?_
    go_simp
    have s8:(w3.alloc (.cells #[.string nm,.slice FA fn fc3] 63)).cell? ⟨ho,0,none⟩=some (.slice KA k kc1)/\(w3.alloc (.cells #[.string nm,.slice FA fn fc3] 63)).cell? ⟨hk,0,none⟩=some (.string nm)/\(w3.alloc (.cells #[.string nm,.slice FA fn fc3] 63)).cell? ⟨hk,1,none⟩=some (.slice fA fn fc):=⟨(HI3.out.bo.alloc _).cell 0,(hk3.alloc _).cell 0,(hk3.alloc _).cell 1⟩
    refine And.intro (by first | exact s8 | exact ⟨s8.1,s8.2.1⟩) ?_
    (try simp only [sP])
    refine wpAnyE_if (i:=9) rfl (by kernel_rfl) rfl ?_
    refine step_append_one rfl (.tmp 23) (.tmp 30) 22 rfl w.heap.size 63 iK (.agg #[.string ByteArray.empty,.slice none 0 0]) 2 40 Try.underlying22 hiK hzK0 hzK1 hzK2 rfl (by decide) (.slice KA k kc1) k (kdCs ks1) rfl (HI3.out.kown.alloc _) w3.heap.size 1 63 #[.string nm,.slice FA fn fc3] rfl (Bk.new w3 _ _) rfl ?c1 (k+1) rfl ?c2 ?c3 ?c4 ?_
    case c1=>simp [Value.oneCell']
    case c2=>unfold maxLen;omega
    case c3=>omega
    case c4=>(simp;omega)
    intro gA cA wA hownA hgA hatA
    have hboA:=(HI3.out.bo.alloc (.cells #[.string nm,.slice FA fn fc3] 63)).grown hgA (fun e=>own_ne HI3.out.kown HI3.out.bo (by decide) e.symm)
    have hkA:wA.cell? ⟨hk,0,none⟩=some (.string nm)/\wA.cell? ⟨hk,1,none⟩=some (.slice fA fn fc):=by
     have hne:some hk≠(Value.slice KA k kc1).ownBlock:=fun e=>HNK.out (e.symm)
     have h1:=(hk3.alloc (.cells #[.string nm,.slice FA fn fc3] 63)).grown hgA hne
     exact ⟨h1.cell 0,h1.cell 1⟩
    have sA:wA.cell? ⟨ho,0,none⟩=some (.slice KA k kc1)/\wA.cell? ⟨hk,0,none⟩=some (.string nm)/\wA.cell? ⟨hk,1,none⟩=some (.slice fA fn fc):=⟨hboA.cell 0,hkA.1,hkA.2⟩
    have fA0:=hboA.frozen 0
    have cA0:wA.cell? ⟨ho,0,none⟩=some (.slice KA k kc1):=sA.1
    refine ⟨fun _=>sA,?_⟩
    (try simp only [sP])
    refine wpE 10 (.pointer (some ⟨ho,0,none⟩)) 32 sA ?_
    (try simp only [sP])
    refine wpAnyE_one (i:=11) rfl (by kernel_rfl) rfl ?_
    go_simp
    refine wpAnyE_done (by kernel_rfl) ?_ _
    have hcF:=own_cap2 hownF
    have hKD:KdY w3 0 (⟨nm,FA,fn,fc3,fds⟩:Kd):=⟨.of_own hownF,HFL.out,hcF.1,hcF.2⟩
    have hCN:=HI3.out.kind hKD hownA hgA
    have HEQ:Hid ((ks1++[(⟨nm,FA,fn,fc3,fds⟩:Kd)]).map Kd.p=(ks.take (k+1)).map Kd.p):=hid (by rw [take_map_succ HX.out,List.map_append,HI.out.2,HP.out];rfl)
    have HBN:Hid (Below W0.heap.size W0 (wA.setCell ⟨ho,0,none⟩ (.slice (some ⟨gA,0,none⟩) (k+1) cA))):=hid ((((HBL.out.trans ((HB1.out.drew.trans (hb3.mono HB1.out.size)).mono HBL.out.size)).alloc (by omega) _).grown hgA (by simp;omega) (fun q hq=>(HGK.out q hq).1)).setCell (p:=⟨ho,0,none⟩) (by omega) _)
    have HGN:Hid (∀ q,(Value.slice (some ⟨gA,0,none⟩) (k+1) cA).ownBlock=some q->W0.heap.size<=q/\q<(wA.setCell ⟨ho,0,none⟩ (.slice (some ⟨gA,0,none⟩) (k+1) cA)).heap.size):=hid (fun q hq=>by
     have h1:=(hCN.kown.lt q hq).2
     refine ⟨?_,h1⟩
     have e:gA=q:=by simpa [Value.ownBlock] using hq
     subst e
     rcases hatA with h2 | h2
     . exact (HGK.out _ h2).1
     . rw [h2];simp;omega)
    have HIN:=hid hCN
    clear hCN hKD hcF hownA hgA hatA hboA hkA sA fA0 cA0 s8 s3 s1 hk3 hownF hb3 HI3
    go_wp2_with fail
    go_roundw
    case rel=>exact ⟨k+1,cA,some ⟨gA,0,none⟩,ks1++[(⟨nm,FA,fn,fc3,fds⟩:Kd)],by omega,by go_num,hid ⟨HIN.out,HEQ.out⟩,HBN,HGN⟩
    case measure=>simp [intOf];omega
  . obtain rfl:kn=k:=by omega
    have HEK:Hid (ks1.map Kd.p=ks.map Kd.p):=hid (by rw [HI.out.2,List.take_of_length_le (by have:=HKS.out.len;omega)])
    have c2:wr.cell? ⟨w.heap.size,2,none⟩=some (.slice IA im ic):=(HWB.out wr HBL.out).cell 2
    go_wp2_with fail
    go_loopw [37] (fun iv wx=>∃ (i ic1:Nat) (IA1:Option Addr) (l1:List It),i<=im/\iv=.int i64 i/\Hid (CWJ ho w.heap.size wx KA kn kc1 ks1 GA' gn gc' G IA1 i ic1 l1/\l1.map It.p=(its.take i).map It.p)/\Hid (Below W0.heap.size W0 wx)/\Hid (∀ q,(Value.slice IA1 i ic1).ownBlock=some q->W0.heap.size<=q)) (fun iv _=>im-(intOf iv).toNat)
    case atStart=>exact ⟨0,0,none,[],Nat.zero_le _,rfl,hid ⟨HI.out.1,rfl⟩,HBL,hid (fun q hq=>by simp [Value.ownBlock] at hq)⟩
    case round =>
     clear HI HBL c2 HGK
     obtain ⟨i,ic1,IA1,l1,hi,rfl,HI,HBL,HGK⟩:=hrel
     obtain ⟨wo,rfl⟩:∃ x,x=wr:=⟨_,rfl⟩
     by_cases hlt:i<im
     . have hiz:(i:Int)<im:=by omega
       obtain ⟨x,hx⟩:∃ x,its[i]?=some x:=⟨_,List.getElem?_eq_getElem (by have:=HIS.out.len;omega)⟩
       have hcw:=HIS.out.below ((HBW.out wo HBL.out).mono hB)
       have hxo:=hcw.ok x (List.mem_of_getElem? hx)
       obtain ⟨b,o,rfl,hbb,q0,q1,q2⟩:=hcw.rd.it hlt hx
       have hxcap:=hxo.cs.cap
       have hxcap2:=hxo.cs.cap2
       have HXL:Hid (x.n=x.cms.length):=hid hxo.cs.len
       have hx16:x.n<=1048576:=by rw [HXL.out];have h1:=HSM.out.cms _ (List.mem_map_of_mem (f:=It.p) (List.mem_of_getElem? hx));simp [It.p] at h1;exact h1
       have HXC:Hid (CsOk wo B x.A x.n x.c x.cms/\(∀ c∈x.cms,c.vals.length<=1048576)):=hid ⟨hxo.cs,fun c hc=>HSM.out.vals _ (List.mem_map_of_mem (f:=It.p) (List.mem_of_getElem? hx)) _ (List.mem_map_of_mem (f:=Cm.p) hc)⟩
       have HXI:Hid (its[i]?=some x/\(Lit.int i64 x.e).wf=true/\(Lit.int i64 x.g).wf=true/\x.p=((x.e,x.g),x.cms.map Cm.p)):=hid ⟨hx,hxo.wf1,hxo.wf2,rfl⟩
       clear hx hcw hxo
       generalize hxe:x.e=xe at *
       generalize hxg:x.g=xg at *
       generalize hxA:x.A=xA at *
       generalize hxn:x.n=xn at *
       generalize hxc:x.c=xc at *
       clear hxe hxg hxA hxn hxc
       obtain ⟨H,hH⟩:∃ H,H=wo.heap.size:=⟨_,rfl⟩
       obtain ⟨w1,hw1⟩:∃ w1,w1=(wo.alloc (.cells #[.int i64 xe,.int i64 xg,.slice xA xn xc] 147)).alloc (.cells #[.int i64 xe,.int i64 xg,.slice none 0 0] 147):=⟨_,rfl⟩
       have HB1:Hid (Below wo.heap.size wo w1):=hid (by rw [hw1];exact Below.al (Below.al (Below.refl _ _) _) _)
       have HL0:Hid (LJ H (H+1) xe xg (x.cms.map Cm.p) w1 0 none 0 []):=hid ⟨by rw [hw1,hH];exact Bk.two _ _ _ _,World.ownsRow_nil _ _ _ _,rfl,(fun z hz=>by cases hz),rfl,(fun z hz=>by cases hz),by omega⟩
       have hWo:W0.heap.size<=wo.heap.size:=HBL.out.size
       have HHH:=hid hH
       have hHw:w.heap.size<=H:=by omega
       have hBo:B<=wo.heap.size:=by omega
       clear hH
       go_wp2_with fail
       rw [<- hw1,<- HHH.out]
       clear hw1 q0 q1 q2
       go_loopw [47] (fun jv wx=>∃ (j oc:Nat) (OA:Option Addr) (cl:List Cm),j<=xn/\jv=.int i64 j/\Hid (LJ H (H+1) xe xg (x.cms.map Cm.p) wx j OA oc cl)/\Hid (Below wo.heap.size wo wx)) (fun jv _=>xn-(intOf jv).toNat)
       case atStart=>exact ⟨0,0,none,[],Nat.zero_le _,rfl,HL0,HB1⟩
       case round =>
        clear HL0 HB1
        obtain ⟨j,oc,OA,cl,hj,rfl,HL,HBo⟩:=hrel
        obtain ⟨wm,rfl⟩:∃ x,x=wr:=⟨_,rfl⟩
        have hom:wo.heap.size<=wm.heap.size:=HBo.out.size
        by_cases hjl:j<xn
        . have hjz:(j:Int)<xn:=by omega
          obtain ⟨cm,hcm⟩:∃ cm,x.cms[j]?=some cm:=⟨_,List.getElem?_eq_getElem (by have h:=HXL.out;omega)⟩
          have hcs:=HXC.out.1.below (HBo.out.mono hBo)
          have hco:=hcs.ok cm (List.mem_of_getElem? hcm)
          obtain ⟨b',o',rfl,hbb',p0,p1⟩:=hcs.rd.cm hjl hcm
          have hvl:=hco.len
          have hv8:=HXC.out.2 cm (List.mem_of_getElem? hcm)
          have hvn8:cm.n<=1048576:=by omega
          have HCL:Hid (∀ wx,Below wm.heap.size wm wx->Calls Try.prog 103 #[.slice cm.A cm.n cm.c] wx (RetS wx 3 1 cm.n (cm.vals.map (Value.int .i64)))):=hid fun wx hb=>cloneInts_any cm.A cm.n cm.c B (cm.vals.map (Value.int .i64)) wx (hco.rd.below (hb.mono (by omega))) (by intro u hu;obtain ⟨z,_,rfl⟩:=List.mem_map.1 hu;rfl) (by have:=hb.size;omega) (by omega)
          obtain ⟨ck,hck⟩:∃ ck,ck=cm.k:=⟨_,rfl⟩
          have HCI:Hid ((x.cms.map Cm.p)[j]?=some cm.p/\ck=cm.k):=hid ⟨by rw [List.getElem?_map,hcm];rfl,hck⟩
          have HWF:=hid hco.wf
          have HVL:=hid hvl
          clear hcm hcs hco hvl hv8
          rw [<- hck] at p0 HWF
          clear hck
          generalize hcA:cm.A=vA at *
          generalize hcn:cm.n=vn at *
          generalize hcc:cm.c=vcc at *
          clear hcA hcn hcc
          obtain ⟨hc,hhc⟩:∃ hc,hc=wm.heap.size:=⟨_,rfl⟩
          obtain ⟨w2,hw2⟩:∃ w2,w2=wm.alloc (.cells #[.int i64 ck,.slice vA vn vcc] 166):=⟨_,rfl⟩
          have HB2:Hid (Below wm.heap.size wm w2):=hid (by rw [hw2];exact Below.al (Below.refl _ _) _)
          have hc2:Bk w2 hc 166 #[.int i64 ck,.slice vA vn vcc]:=by rw [hw2,hhc];exact Bk.new _ _ _
          have HL2:=hid (HL.out.below HB2.out)
          have HNK:Hid ((Value.slice OA j oc).ownBlock≠some hc):=hid (fun e=>by have:=(HL.out.own.lt _ e).2;omega)
          have HHC:=hid hhc
          have hHm:H<=wm.heap.size:=by have:=HHH.out;omega
          clear hhc
          have s1:w2.drew.cell? ⟨H+1,2,none⟩=some (.slice OA j oc)/\w2.drew.cell? ⟨hc,0,none⟩=some (.int i64 ck)/\w2.drew.cell? ⟨hc,1,none⟩=some (.slice vA vn vcc):=⟨HL2.out.bx.cell 2,hc2.cell 0,hc2.cell 1⟩
          go_wp2_with fail
          rw [<- hw2,<- HHC.out]
          clear hw2 p0 p1
          refine wp_region_E (S:=fun wx=>wx.cell? ⟨H+1,2,none⟩=some (.slice OA j oc)/\wx.cell? ⟨hc,0,none⟩=some (.int i64 ck)/\wx.cell? ⟨hc,1,none⟩=some (.slice vA vn vcc)) (last:=11) (by kernel_rfl) ?_
          refine wpE 0 (.pointer (some ⟨H+1,2,none⟩)) 51 s1 ?_
          (try simp only [sP])
          refine wpE 1 (.slice OA j oc) 52 s1 ?_
          (try simp only [sP])
          refine wpE 2 (.pointer (some ⟨hc,0,none⟩)) 53 s1 ?_
          (try simp only [sP])
          refine wpE 3 (.int i64 ck) 54 s1 ?_
          (try simp only [sP])
          refine wpE 4 (.pointer (some ⟨hc,1,none⟩)) 55 s1 ?_
          (try simp only [sP])
          refine wpE 5 (.slice vA vn vcc) 56 s1 ?_
          (try simp only [sP])
          refine wpAnyE_one (i:=6) rfl (by kernel_rfl) rfl ?_
          go_simp
          (with_reducible refine (HCL.out _ HB2.out.drew).mono ?_)
          rintro e w3 ⟨VA,vc3,rfl,hownV,hb3⟩
          have HL3:=hid ((HL2.out.below (Below.refl _ _).drew).below hb3)
          have hk3:=hc2.drew.below2 hb3
          have s3:w3.cell? ⟨H+1,2,none⟩=some (.slice OA j oc)/\w3.cell? ⟨hc,0,none⟩=some (.int i64 ck)/\w3.cell? ⟨hc,1,none⟩=some (.slice vA vn vcc):=⟨HL3.out.bx.cell 2,hk3.cell 0,hk3.cell 1⟩
          have hw3:wm.heap.size<=w3.heap.size:=Nat.le_trans HB2.out.size hb3.size
          refine ⟨s3,?_⟩
          (try simp only [sP])
          refine wpE 7 (.agg #[.int i64 ck,.slice VA vn vc3]) 58 s3 ?_
          (try simp only [sP])
          refine wpAnyE_one (i:=8) rfl (by kernel_rfl) rfl ?_
          go_simp
          have s8:(w3.alloc (.cells #[.int i64 ck,.slice VA vn vc3] 166)).cell? ⟨H+1,2,none⟩=some (.slice OA j oc)/\(w3.alloc (.cells #[.int i64 ck,.slice VA vn vc3] 166)).cell? ⟨hc,0,none⟩=some (.int i64 ck)/\(w3.alloc (.cells #[.int i64 ck,.slice VA vn vc3] 166)).cell? ⟨hc,1,none⟩=some (.slice vA vn vcc):=⟨(HL3.out.bx.alloc _).cell 2,(hk3.alloc _).cell 0,(hk3.alloc _).cell 1⟩
          refine And.intro (by first | exact s8 | exact ⟨s8.1,s8.2.1⟩) ?_
          (try simp only [sP])
          refine wpAnyE_if (i:=9) rfl (by kernel_rfl) rfl ?_
          refine step_append_one rfl (.tmp 52) (.tmp 59) 38 rfl H 166 i1 (.agg #[.int i64 0,.slice none 0 0]) 2 32 Try.underlying38 hi1 hz10 hz11 hz12 rfl (by decide) (.slice OA j oc) j (cmCs cl) rfl (HL3.out.own.alloc _) w3.heap.size 1 166 #[.int i64 ck,.slice VA vn vc3] rfl (Bk.new w3 _ _) rfl ?c1 (j+1) rfl ?c2 ?c3 ?c4 ?_
          case c1=>simp [Value.oneCell']
          case c2=>unfold maxLen;omega
          case c3=>omega
          case c4=>(simp;omega)
          intro gA cA wA hownA hgA hatA
          have hboA:=(HL3.out.bx.alloc (.cells #[.int i64 ck,.slice VA vn vc3] 166)).grown hgA (fun e=>own_ne HL3.out.own HL3.out.bx (by decide) e.symm)
          have hkA:wA.cell? ⟨hc,0,none⟩=some (.int i64 ck)/\wA.cell? ⟨hc,1,none⟩=some (.slice vA vn vcc):=by
           have hne:some hc≠(Value.slice OA j oc).ownBlock:=fun e=>HNK.out (e.symm)
           have h1:=(hk3.alloc (.cells #[.int i64 ck,.slice VA vn vc3] 166)).grown hgA hne
           exact ⟨h1.cell 0,h1.cell 1⟩
          have sA:wA.cell? ⟨H+1,2,none⟩=some (.slice OA j oc)/\wA.cell? ⟨hc,0,none⟩=some (.int i64 ck)/\wA.cell? ⟨hc,1,none⟩=some (.slice vA vn vcc):=⟨hboA.cell 2,hkA.1,hkA.2⟩
          have fA0:=hboA.frozen 2
          have cA0:wA.cell? ⟨H+1,2,none⟩=some (.slice OA j oc):=sA.1
          refine ⟨fun _=>sA,?_⟩
          (try simp only [sP])
          refine wpE 10 (.pointer (some ⟨H+1,2,none⟩)) 61 sA ?_
          (try simp only [sP])
          refine wpAnyE_one (i:=11) rfl (by kernel_rfl) rfl ?_
          go_simp
          refine wpAnyE_done (by kernel_rfl) ?_ _
          have hcF:=own_cap2 hownV
          have hCM:CmY w3 0 (⟨ck,VA,vn,vc3,cm.vals⟩:Cm):=⟨.of_own hownV,HVL.out,hcF.1,hcF.2,HWF.out⟩
          have hLN:=HL3.out.snoc (z:=⟨ck,VA,vn,vc3,cm.vals⟩) hCM (fun b o hA=>by
           have h1:=(hownV.lt b (by rw [show VA=some ⟨b,o,none⟩ from hA];rfl)).1
           have h2:=HB2.out.size
           have h3:(w2.drew).heap.size=w2.heap.size:=rfl
           omega) (by rw [HCI.out.1];show some (cm.k,cm.vals)=some (ck,cm.vals);rw [<- HCI.out.2]) hownA hgA
          have HBN:Hid (Below wo.heap.size wo (wA.setCell ⟨H+1,2,none⟩ (.slice (some ⟨gA,0,none⟩) (j+1) cA))):=hid ((((HBo.out.trans ((HB2.out.drew.trans (hb3.mono HB2.out.size)).mono HBo.out.size)).alloc (by omega) _).grown hgA (by simp;omega) (fun q hq=>by have:=(HL3.out.own.lt q hq).1;have:=HHH.out;omega)).setCell (p:=⟨H+1,2,none⟩) (by show wo.heap.size<=H+1;have:=HHH.out;omega) _)
          have HLN:=hid hLN
          clear hLN hCM hcF hownA hgA hatA hboA hkA sA fA0 cA0 s8 s3 s1 hk3 hownV hb3 HL3
          go_wp2_with fail
          go_roundw
          case rel=>exact ⟨j+1,cA,some ⟨gA,0,none⟩,cl++[(⟨ck,VA,vn,vc3,cm.vals⟩:Cm)],by omega,by go_num,HLN,HBN⟩
          case measure=>simp [intOf];omega
        . obtain rfl:xn=j:=by omega
          have HIm:=hid (HI.out.1.below HBo.out)
          have k2:wm.cell? ⟨ho,2,none⟩=some (.slice IA1 i ic1):=HIm.out.bo.cell 2
          have x0:wm.cell? ⟨H+1,0,none⟩=some (.int i64 xe):=HL.out.bx.cell 0
          have x1:wm.cell? ⟨H+1,1,none⟩=some (.int i64 xg):=HL.out.bx.cell 1
          have x2:wm.cell? ⟨H+1,2,none⟩=some (.slice OA xn oc):=HL.out.bx.cell 2
          go_wp2_with
           (at_builtin
            go_must (refine wpList_append_one _ rfl (.tmp 64) (.tmp 66) _ rfl w.heap.size 147 iI (.agg #[.int i64 0,.int i64 0,.slice none 0 0]) 3 40 Try.underlying50 hiI hzI0 hzI1 hzI2 rfl (by decide) (.slice IA1 i ic1) i (itCs l1) rfl (HIm.out.iown.alloc _) wm.heap.size 1 147 #[.int i64 xe,.int i64 xg,.slice OA xn oc] rfl (Bk.new _ _ _) rfl ?c1 (i+1) rfl ?c2 ?c3 ?c4 ?_)
            case c1=>simp [Value.oneCell']
            case c2=>unfold maxLen;omega
            case c3=>omega
            case c4=>(simp;omega)
            intro gA cA wA hownA hgA hatA
            have hboA:=(HIm.out.bo.alloc (.cells #[.int i64 xe,.int i64 xg,.slice OA xn oc] 147)).grown hgA (fun e=>own_ne HIm.out.iown HIm.out.bo (by decide) e.symm)
            have kA2:wA.cell? ⟨ho,2,none⟩=some (.slice IA1 i ic1):=hboA.cell 2
            have fA2:wA.frozen? ⟨ho,2,none⟩=false:=hboA.frozen 2)
          have hcap:=own_cap2 HL.out.own
          have hIT:ItY wm 0 (⟨xe,xg,OA,xn,oc,cl⟩:It):=⟨⟨.of_own HL.out.own,HL.out.len,hcap.1,hcap.2,HL.out.ok⟩,HXI.out.2.1,HXI.out.2.2.1⟩
          have hCN:=HIm.out.item hIT hHw (fun x hx g hg=>by have h1:=((HI.out.1.fr.row x hx).lt g hg).2;have h2:=HHH.out;omega) HL.out.own hownA hgA
          have HBN:Hid (Below W0.heap.size W0 (wA.setCell ⟨ho,2,none⟩ (.slice (some ⟨gA,0,none⟩) (i+1) cA))):=hid ((((HBL.out.trans (HBo.out.mono HBL.out.size)).alloc (by omega) _).grown hgA (by simp;omega) (fun q hq=>HGK.out q hq)).setCell (p:=⟨ho,2,none⟩) (by omega) _)
          have HEQ:Hid ((l1++[(⟨xe,xg,OA,xn,oc,cl⟩:It)]).map It.p=(its.take (i+1)).map It.p):=hid (by
           rw [take_map_succ HXI.out.1,List.map_append,HI.out.2,HXI.out.2.2.2]
           show _++[((xe,xg),cl.map Cm.p)]=_
           rw [HL.out.eq,List.take_of_length_le (l:=x.cms.map Cm.p) (by have:=HXL.out;simp;omega)])
          have HGN:Hid (∀ q,(Value.slice (some ⟨gA,0,none⟩) (i+1) cA).ownBlock=some q->W0.heap.size<=q):=hid (fun q hq=>by
           have e:gA=q:=by simpa [Value.ownBlock] using hq
           subst e
           rcases hatA with h2 | h2
           . exact HGK.out _ h2
           . rw [h2];simp;omega)
          have HIN:=hid hCN
          clear hCN hIT hcap hownA hgA hatA hboA kA2 fA2 k2 x0 x1 x2 HIm
          go_wp2_with fail
          go_roundw
          case rel=>exact ⟨i+1,cA,some ⟨gA,0,none⟩,l1++[(⟨xe,xg,OA,xn,oc,cl⟩:It)],by omega,by go_num,hid ⟨HIN.out,HEQ.out⟩,HBN,HGN⟩
          case measure=>simp [intOf];omega
     . obtain rfl:im=i:=by omega
       have hrh:r≠ho:=by omega
       have hrh2:ho≠r:=by omega
       have b0:wo.cell? ⟨ho,0,none⟩=some (.slice KA kn kc1):=HI.out.1.bo.cell 0
       have b1:wo.cell? ⟨ho,1,none⟩=some (.slice GA' gn gc'):=HI.out.1.bo.cell 1
       have b2:wo.cell? ⟨ho,2,none⟩=some (.slice IA1 im ic1):=HI.out.1.bo.cell 2
       have hR:=HRB.out wo HBL.out
       have n0:wo.cell? ⟨r,0,none⟩=some (.slice none 0 0):=hR.cell 0
       have n1:wo.cell? ⟨r,1,none⟩=some (.slice none 0 0):=hR.cell 1
       have n2:wo.cell? ⟨r,2,none⟩=some (.slice none 0 0):=hR.cell 2
       have m0:=hR.frozen 0
       have m1:=hR.frozen 1
       have m2:=hR.frozen 2
       have HR:=hid hR
       clear hR
       go_wp2_with fail
       (try simp only [Exit.inBlock,Exit.then])
       refine bodyPost_ret (v:=.agg #[.slice KA kn kc1,.slice GA' gn gc',.slice IA1 im ic1]) ?_ rfl ⟨⟨KA,kn,kc1,ks1,GA',gn,gc',G,IA1,im,ic1,l1⟩,rfl,hid ⟨HI.out.1.wd.keep (F:=[52]) (Kx.set3 (B:=0) Kx.refl HR.out (Nat.zero_le _) (by simp) 0 1 2 _ _ _) (by decide) (by decide) (by decide) (by decide) (by decide),?_,HI.out.1.fr.keep (F:=[52]) (Kx.set3 (B:=0) Kx.refl HR.out (Nat.zero_le _) (by simp) 0 1 2 _ _ _) (by decide)⟩,below3 (HBW.out wo HBL.out) (by omega) _ _ _⟩
       . rw [results_c1 rfl]
         go_simp
       . show (⟨ks1.map Kd.p,G,l1.map It.p⟩:Wv Kp2)=⟨ks.map Kd.p,G,its.map It.p⟩
         rw [HEK.out,HI.out.2,List.take_of_length_le (by have:=HIS.out.len;omega)]
end Go.Proofs.Ytnidcmhfbkdioaa
