/-
  Lemmas for the walk, merged (Eb Mf Ea). No condition but those in each statement.
-/
import Derived.Test.YtnidcmhfbkdioaaSw9
import Derived.Test.YtnidcmhfbkdioaaSw8
namespace Go.Proofs.Ytnidcmhfbkdioaa
open Go.RowKit
open Go.IntKind (i64)
open Go.Lib (hid)
set_option maxRecDepth 100000
theorem Fill.bk_ {w:World} {g size n:Nat} {t:TypeId} {xs:List Value} (h:Fill w g t size n n xs):Bk w g t xs.toArray:=by
 obtain ⟨cs,h1,h2,h3⟩:=h.bk
 rw [List.take_of_length_le (by rw [Array.length_toList];omega)] at h3
 rw [<- h3]
 simpa using h1
structure ItS (w:World) (base:Nat) (l:List It):Prop where
 row:∀ x∈l,∃ g,x.A=some ⟨g,0,none⟩/\x.c=x.n/\base<=g/\Bk w g 166 (cmCs x.cms).toArray
 apart:l.Pairwise fun a b=>∀ g g',a.A=some ⟨g,0,none⟩->b.A=some ⟨g',0,none⟩->g≠g'
theorem ItS.nil {w:World} {base:Nat}:ItS w base []:=⟨(fun x hx=>by cases hx),List.Pairwise.nil⟩
theorem ItS.keep {w w':World} {base B:Nat} {l:List It} {F:List TypeId} (h:ItS w base l) (hk:Kx B F w w') (hF:(166:TypeId) ∉ F):ItS w' base l :=
 ⟨fun x hx=>by
  obtain ⟨g,h1,h2,h3,h4⟩:=h.row x hx
  exact ⟨g,h1,h2,h3,hk.bk h4 hF⟩,h.apart⟩
theorem ItS.snoc {w w':World} {base B g n:Nat} {l:List It} {F:List TypeId} {e q:Int} {cms:List Cm} (h:ItS w base l) (hk:Kx B F w w') (hg:w.heap.size<=g) (hb:Bk w' g 166 (cmCs cms).toArray) (hbase:base<=g) (hF:(166:TypeId) ∉ F:=by decide):ItS w' base (l++[(⟨e,q,some ⟨g,0,none⟩,n,n,cms⟩:It)]):=by
 refine ⟨fun x hx=>?_,?_⟩
 . rcases List.mem_append.1 hx with hx | hx
   . obtain ⟨g',h1,h2,h3,h4⟩:=h.row x hx
     exact ⟨g',h1,h2,h3,hk.bk h4 hF⟩
   . rw [show x=⟨e,q,some ⟨g,0,none⟩,n,n,cms⟩ by simpa using hx]
     exact ⟨g,rfl,rfl,hbase,hb⟩
 . refine List.pairwise_append.2 ⟨h.apart,List.pairwise_singleton _ _,fun a ha b hb'=>?_⟩
   rw [show b=⟨e,q,some ⟨g,0,none⟩,n,n,cms⟩ by simpa using hb']
   intro g1 g2 h1 h2
   obtain ⟨g',e1,_,_,h4⟩:=h.row a ha
   rw [e1] at h1
   injection h1 with h1
   injection h1 with h1
   injection h2 with h2
   injection h2 with h2
   have:=h4.lt
   omega
set_option maxHeartbeats 1600000 in
theorem copyComps2_any {w:World} {B n c:Nat} {A:Option Addr} {l:List Cm} (h:CsOk w B A n c l) (hn:n<=1048576) (hv:∀ x∈l,x.n<=1048576) :
 Calls Try.prog 170 #[.slice A n c] w fun e w'=>∃ g l',e=.returned (.slice (some ⟨g,0,none⟩) n n)/\CsY w' 0 (some ⟨g,0,none⟩) n n l'/\l'.map Cm.p=l.map Cm.p/\Below w.heap.size w w'/\w.heap.size<=g/\Bk w' g 166 (cmCs l').toArray:=by
 obtain ⟨i0,hi0,hz0,hz1,hz2⟩:=info_parts T.infoCm
 have hlo:=h.lo
 have hcap:=h.cap
 have hcap2:=h.cap2
 have HC:=hid h
 have HV:=hid hv
 clear h hv
 go_enter Try.func170,Try.ntmps170
 go_wp2_with
  (at_make
   go_must (refine wpList_make_full _ rfl _ _ 38 rfl w.heap.size 166 i0 (.agg #[.int i64 0,.slice none 0 0]) 2 Try.underlying38 hi0 hz0 hz1 .i64 .i64 _ _ n rfl rfl rfl rfl (by rw [hz2];omega) (by unfold maxLen;omega) (Nat.le_refl _) ?_)
   go_loud (
    intro w3 hown3 hg3
    obtain ⟨hgc,hf3⟩:=Fill.made hown3
    have hb3:=(Below.refl w.heap.size w).grown hg3 (Nat.le_refl _) (fun q hq=>by cases hq)
    clear hown3 hg3))
 obtain ⟨gO,hgO⟩:∃ g,g=w.heap.size:=⟨_,rfl⟩
 rw [<- hgO] at hf3 ⊢
 have hgc:w.heap.size<=gO:=by omega
 have HI0:Hid (Fill w3 gO 166 2 n 0 (cmCs [])/\Below w.heap.size w w3):=hid ⟨hf3,hb3⟩
 have HGO:=hid hgO
 clear hf3 hb3 hgO
 go_loopw [11] (fun iv wr=>∃ (k:Nat) (l1:List Cm),k<=n/\iv=.int i64 k/\Hid (Fill wr gO 166 2 n k (cmCs l1)/\Below w.heap.size w wr)/\Hid (l1.map Cm.p=(l.take k).map Cm.p/\∀ x∈l1,CmY wr 0 x)) (fun iv _=>n-(intOf iv).toNat)
 case atStart=>exact ⟨0,[],Nat.zero_le _,rfl,HI0,hid ⟨rfl,(fun x hx=>by cases hx)⟩⟩
 case round =>
  clear HI0
  obtain ⟨k,l1,hk,rfl,HI,HL⟩:=hrel
  by_cases hlt:k<n
  . have hkz:(k:Int)<n:=by omega
    obtain ⟨x,hx⟩:∃ x,l[k]?=some x:=⟨_,List.getElem?_eq_getElem (by have:=HC.out.len;omega)⟩
    have hcw:=HC.out.below (HI.out.2.mono hlo)
    have hxo:=hcw.ok x (List.mem_of_getElem? hx)
    have hxs:=HV.out x (List.mem_of_getElem? hx)
    obtain ⟨b,o,rfl,hbb,q0,q1⟩:=hcw.rd.cm hlt hx
    have hcl:=fun wx (hb:Below B wr wx) (hB:B<=wx.heap.size)=>cloneInts_any x.A x.n x.c B (x.vals.map (Value.int .i64)) wx (hxo.rd.below hb) (by intro u hu;obtain ⟨z,_,rfl⟩:=List.mem_map.1 hu;rfl) hB (by omega)
    have HCL:=hid hcl
    have HX:=hid (And.intro hx hxo)
    clear hx hcw hxo hcl
    generalize hxk:x.k=xk at *
    generalize hxA:x.A=xA at *
    generalize hxn:x.n=xn at *
    generalize hxc:x.c=xc at *
    have HXV:=hid (And.intro hxk (And.intro hxA (And.intro hxn hxc)))
    clear hxk hxA hxn hxc
    go_wp2_with fail
    have hb1:=(Below.refl wr.heap.size wr).alloc (Nat.le_refl _) (.cells #[.int i64 xk,.slice xA xn xc] 166)
    have hh1:=Bk.new wr 166 #[.int i64 xk,.slice xA xn xc]
    have hO1:=HI.out.1.below (hb1) HI.out.1.lt
    have hw1:=HI.out.2.trans (hb1.mono HI.out.2.size)
    have hgh:gO<wr.heap.size:=HI.out.1.lt
    have hB1:B<=wr.heap.size:=Nat.le_trans hlo HI.out.2.size
    have hbB:Below B wr (wr.alloc (.cells #[.int i64 xk,.slice xA xn xc] 166)):=hb1.mono hB1
    have HB1:=hid hb1
    clear hb1 q0 q1
    generalize wr.alloc (.cells #[.int i64 xk,.slice xA xn xc] 166)=W1 at *
    generalize hhh:wr.heap.size=hh at *
    have hgh2:hh≠gO:=by omega
    have s1:W1.drew.cell? ⟨hh,0,none⟩=some (.int i64 xk)/\W1.drew.cell? ⟨hh,1,none⟩=some (.slice xA xn xc):=⟨hh1.cell 0,hh1.cell 1⟩
    have HH1:=hid hh1
    have HO1:=hid hO1
    have HW1:=hid hw1
    have hw1s:=hh1.lt
    have hB2:B<=W1.drew.heap.size:=Nat.le_trans hB1 (Nat.le_of_lt hw1s)
    clear hh1 hO1 hw1
    go_region_held3 (fun wx=>wx.cell? ⟨hh,0,none⟩=some (.int i64 xk)/\wx.cell? ⟨hh,1,none⟩=some (.slice xA xn xc))
     (first | (with_reducible exact s1) | (with_reducible exact s3) | (with_reducible exact s4) | go_keep)
     (first
      | (go_at_call 103
         (with_reducible refine (HCL.out _ hbB.drew hB2).mono ?_)
         rintro e w3 ⟨A3,c3,rfl,hown3,hb3⟩
         have hh3:=HH1.out.drew.below hb3 HH1.out.lt
         have hO3:=Fill.below (w:=W1.drew) (HO1.out.keep (F:=[]) (Kx.refl (B:=0) |>.drew) (by simp)) hb3 (by have:=HO1.out.lt;exact this)
         have s3:w3.cell? ⟨hh,0,none⟩=some (.int i64 xk)/\w3.cell? ⟨hh,1,none⟩=some (.slice xA xn xc):=⟨hh3.cell 0,hh3.cell 1⟩
         have hh4:=(hh3.far (p:=⟨gO,k*2,none⟩) hgh2 (.int i64 xk)).far (p:=⟨gO,k*2+1,none⟩) hgh2 (.slice A3 xn c3)
         have s4:((w3.setCell ⟨gO,k*2,none⟩ (.int i64 xk)).setCell ⟨gO,k*2+1,none⟩ (.slice A3 xn c3)).cell? ⟨hh,0,none⟩=some (.int i64 xk)/\((w3.setCell ⟨gO,k*2,none⟩ (.int i64 xk)).setCell ⟨gO,k*2+1,none⟩ (.slice A3 xn c3)).cell? ⟨hh,1,none⟩=some (.slice xA xn xc):=⟨hh4.cell 0,hh4.cell 1⟩
         obtain ⟨u0,o0⟩:=hO3.at_ (j:=k*2) (by omega)
         obtain ⟨u1,o1⟩:=hO3.at_ (j:=k*2+1) (by omega)
         have p0:=hO3.frozen (k*2)
         have p1:=hO3.frozen (k*2+1)
         have hI4:=hO3.step2 hlt (.int i64 xk) (.slice A3 xn c3)
         have hw4:Below w.heap.size w ((w3.setCell ⟨gO,k*2,none⟩ (.int i64 xk)).setCell ⟨gO,k*2+1,none⟩ (.slice A3 xn c3)):=((HW1.out.trans ((show Below W1.heap.size W1 w3 from ⟨hb3.os,hb3.tape,hb3.output,hb3.size,hb3.block⟩).mono HW1.out.size)).setCell (p:=⟨gO,k*2,none⟩) hgc _).setCell (p:=⟨gO,k*2+1,none⟩) hgc _
         have HI4:=hid (And.intro hI4 hw4)
         have HN3:=hid (And.intro hown3 hb3)
         have HO3:=hid hO3
         clear hb3 hh3 hO3 hh4 hI4 hw4 hown3))
    have hkx:Kx 0 [166] wr ((w3.setCell ⟨gO,k*2,none⟩ (.int i64 xk)).setCell ⟨gO,k*2+1,none⟩ (.slice A3 xn c3)):=((Kx.refl.below (show Below wr.heap.size wr W1 by rw [hhh];exact HB1.out)).drew.below (w':=W1.drew) HN3.out.2).trans (HO3.out.kx2 (Nat.zero_le _) _ _ _ _)
    have hkx3:Kx 0 [166] w3 ((w3.setCell ⟨gO,k*2,none⟩ (.int i64 xk)).setCell ⟨gO,k*2+1,none⟩ (.slice A3 xn c3)):=HO3.out.kx2 (Nat.zero_le _) _ _ _ _
    have hcp:=own_cap2 HN3.out.1
    have hyy:CmY ((w3.setCell ⟨gO,k*2,none⟩ (.int i64 xk)).setCell ⟨gO,k*2+1,none⟩ (.slice A3 xn c3)) 0 ⟨xk,A3,xn,c3,x.vals⟩ :=
     ⟨(RdY.of_own HN3.out.1).keep hkx3 (by decide),by have:=HX.out.2.len;rw [HXV.out.2.2.1] at this;exact this,hcp.1,hcp.2,by rw [<- HXV.out.1];exact HX.out.2.wf⟩
    have HLN:Hid ((l1++[(⟨xk,A3,xn,c3,x.vals⟩:Cm)]).map Cm.p=(l.take (k+1)).map Cm.p/\∀ y∈l1++[(⟨xk,A3,xn,c3,x.vals⟩:Cm)],CmY ((w3.setCell ⟨gO,k*2,none⟩ (.int i64 xk)).setCell ⟨gO,k*2+1,none⟩ (.slice A3 xn c3)) 0 y):=hid ⟨by
     rw [List.take_add_one,HX.out.1,List.map_append,HL.out.1,List.map_append,<- HXV.out.1];rfl,fun y hy=>by
     rcases List.mem_append.1 hy with hy | hy
     . exact (HL.out.2 y hy).keep hkx (by decide)
     . rw [show y=⟨xk,A3,xn,c3,x.vals⟩ by simpa using hy];exact hyy⟩
    have HIN:Hid (Fill ((w3.setCell ⟨gO,k*2,none⟩ (.int i64 xk)).setCell ⟨gO,k*2+1,none⟩ (.slice A3 xn c3)) gO 166 2 n (k+1) (cmCs (l1++[(⟨xk,A3,xn,c3,x.vals⟩:Cm)]))/\Below w.heap.size w ((w3.setCell ⟨gO,k*2,none⟩ (.int i64 xk)).setCell ⟨gO,k*2+1,none⟩ (.slice A3 xn c3))):=hid (by
     rw [show cmCs (l1++[(⟨xk,A3,xn,c3,x.vals⟩:Cm)])=cmCs l1++[.int i64 xk,.slice A3 xn c3] by simp [cmCs,Cm.cs]]
     exact HI4.out)
    clear hkx hkx3 hcp hyy HI4 HO3 HN3
    go_wp2_with fail
    go_roundw
    case rel=>exact ⟨k+1,l1++[(⟨xk,A3,xn,c3,x.vals⟩:Cm)],by omega,by go_num,HIN,HLN⟩
    case measure=>simp [intOf];omega
  . obtain rfl:n=k:=by omega
    have HLL:=HL.out.1
    rw [List.take_of_length_le (by rw [<- HC.out.len];omega)] at HLL
    have HLP:=hid HLL
    clear HLL
    go_wp2_with fail
    go_ret
    have hlen:n=l1.length:=by have h:=congrArg List.length HLP.out;rw [List.length_map,List.length_map] at h;rw [h];exact HC.out.len
    exact ⟨gO,l1,rfl,⟨HI.out.1.rd,hlen,Nat.le_refl _,by omega,HL.out.2⟩,HLP.out,HI.out.2,hgc,HI.out.1.bk_⟩
set_option maxHeartbeats 3200000 in
theorem wcopy2_any {w:World} {B:Nat} {x:Wd} (h:WdOk w B x) (hs:SmallV x.p) :
 Calls Try.prog 105 #[x.v] w fun e w'=>∃ y:Wd,e=.returned y.v/\WdY w' 0 y/\y.p=x.p/\Below w.heap.size w w'/\ItS w' w.heap.size y.its:=by
 obtain ⟨i0,hi0,hz0,hz1,hz2⟩:=info_parts T.infoIt
 obtain ⟨kA,kn,kc,ks,gA,gn,gc,gens,iA,im,ic,its⟩:=x
 obtain ⟨hk,hg,hi⟩:=h
 dsimp only at hk hg hi
 show Calls Try.prog 105 #[.agg #[.slice kA kn kc,.slice gA gn gc,.slice iA im ic]] w _
 obtain ⟨W0,hW0⟩:∃ W0,W0=(w.alloc (.cells #[.slice kA kn kc,.slice gA gn gc,.slice iA im ic] 52)).alloc (.cells #[.slice none 0 0,.slice none 0 0,.slice none 0 0] 52):=⟨_,rfl⟩
 have hb0:Below w.heap.size w W0:=by rw [hW0];exact ((Below.refl _ _).alloc (Nat.le_refl _) _).alloc (by simp) _
 have hk1:Bk W0 w.heap.size 52 #[.slice kA kn kc,.slice gA gn gc,.slice iA im ic]:=by rw [hW0];exact (Bk.new w 52 _).alloc _
 have hk2:Bk W0 (w.heap.size+1) 52 #[.slice none 0 0,.slice none 0 0,.slice none 0 0]:=by rw [hW0];exact Bk.two w _ 52 _
 have hsz:W0.heap.size=w.heap.size+2:=by rw [hW0];simp
 have hkn:kn<=1048576:=by rw [hk.len];have:=hs.ks;simpa [Wd.p] using this
 have hgn:gn<=1048576:=by rw [hg.len];have:=hs.gens;simpa [Wd.p] using this
 have him:im<=1048576:=by rw [hi.len];have:=hs.its;simpa [Wd.p] using this
 have hkc:∀ wx,Below W0.heap.size W0 wx->Calls Try.prog 169 #[.slice kA kn kc] wx fun e w'=>∃ g l',e=.returned (.slice (some ⟨g,0,none⟩) kn kn)/\Hid (KsY w' 0 (some ⟨g,0,none⟩) kn kn l'/\l'.map Kd.p=ks.map Kd.p)/\Below wx.heap.size wx w'/\Below W0.heap.size W0 w':=fun wx hb0'=>by
  have hb:=hb0.trans (hb0'.mono hb0.size)
  refine (kcopy_any (hk.below (hb.mono hk.lo)) hkn (fun d hd=>by rw [(hk.ok d hd).len];exact hs.fds _ (List.mem_map_of_mem (f:=Kd.p) hd))).mono ?_
  rintro e w' ⟨g,l',h1,h2,h3,h4⟩
  exact ⟨g,l',h1,hid ⟨h2,h3⟩,h4,Below.tr hb0' h4⟩
 have hgcl:∀ wx,Below W0.heap.size W0 wx->Calls Try.prog 103 #[.slice gA gn gc] wx fun e w'=>∃ A' c',e=.returned (.slice A' gn c')/\Hid (GsY w' 0 A' gn c' gens)/\Below wx.heap.size wx w'/\Below W0.heap.size W0 w':=fun wx hb0'=>by
  have hb:=hb0.trans (hb0'.mono hb0.size)
  refine (cloneInts_any gA gn gc B (gens.map (Value.int .i64)) wx (hg.rd.below (hb.mono hg.lo)) (by intro u hu;obtain ⟨z,_,rfl⟩:=List.mem_map.1 hu;rfl) (Nat.le_trans hg.lo hb.size) (by omega)).mono ?_
  rintro e w' ⟨A',c',h1,h2,h3⟩
  exact ⟨A',c',h1,hid (GsY.own h2 hg.wf),h3,Below.tr hb0' h3⟩
 have hcc:=fun wx (hb:Below w.heap.size w wx) it (hit:it∈its)=>copyComps2_any ((hi.ok it hit).cs.below (hb.mono hi.lo)) (by rw [(hi.ok it hit).cs.len];have:=hs.cms _ (List.mem_map_of_mem (f:=It.p) hit);simpa [It.p] using this) (fun c hc=>by rw [((hi.ok it hit).cs.ok c hc).len];exact hs.vals _ (List.mem_map_of_mem (f:=It.p) hit) _ (List.mem_map_of_mem (f:=Cm.p) hc))
 have hrt:=fun wx (hb:Below W0.heap.size W0 wx)=>hk1.below hb hk1.lt
 have hr2:=fun wx (hb:Below W0.heap.size W0 wx)=>hk2.below hb hk2.lt
 have c0:W0.cell? ⟨w.heap.size,0,none⟩=some (.slice kA kn kc):=hk1.cell 0
 have c1:W0.cell? ⟨w.heap.size,1,none⟩=some (.slice gA gn gc):=hk1.cell 1
 have c2:W0.cell? ⟨w.heap.size,2,none⟩=some (.slice iA im ic):=hk1.cell 2
 obtain ⟨MC,hMC⟩:∃ MC,MC=madeCells (Value.agg #[.int i64 0,.int i64 0,.slice none 0 0]).cells (im*3):=⟨_,rfl⟩
 have hmk:∀ wx,(Instr.makeSlice 50 (.int i64 (im:Int)) (.int i64 (im:Int))).run Try.prog wx=.ok (.slice (some ⟨wx.heap.size,0,none⟩) im im) (wx.alloc (.cells MC 147)):=fun wx=>by
  have h:=run_make (P:=Try.prog) wx 50 147 i0 _ Try.underlying50 hi0 hz0 .i64 .i64 im im (by omega) (Int.le_refl _) (by rw [hz2];omega) (by omega)
  rw [Int.toNat_natCast,hz1,<- hMC] at h
  exact h
 have HMC:Hid (MC.size=im*3):=hid (by rw [hMC,madeN])
 clear hMC hi0 hz0 hz1 hz2
 have HKC:=hid hkc
 have HGC:=hid hgcl
 have HCC:=hid hcc
 have HI:=hid hi
 have HG:=hid hg
 have HK:=hid hk
 have HB0:=hid hb0
 have HRT:=hid hrt
 have HR2:=hid hr2
 have HSZ:=hid hsz
 have hic:=hi.cap
 have hic2:=hi.cap2
 clear hk hg hi hs hb0 hk1 hk2 hkc hgcl hcc hrt hr2 hsz
 go_enter Try.func105,Try.ntmps105
 go_wp2_with fail
 rw [<- hW0]
 clear hW0
 go_cut [3] from 6 to 16 (fun pv wx=>∃ (go:Nat) (kA':Option Addr) (ks':List Kd) (gA':Option Addr) (gc' iG:Nat),pv=.pointer (some ⟨go,0,none⟩)/\Hid (Bk wx go 52 #[.slice kA' kn kn,.slice gA' gn gc',.slice (some ⟨iG,0,none⟩) im im])/\w.heap.size+2<=go/\w.heap.size+2<=iG /\
  Hid (KsY wx 0 kA' kn kn ks'/\ks'.map Kd.p=ks.map Kd.p)/\Hid (GsY wx 0 gA' gn gc' gens)/\Hid (Fill wx iG 147 3 im 0 [])/\Hid (Below W0.heap.size W0 wx))
 case first =>
  rename_i J0 Kp0 A1 A0
  have HS:Hid (∀ wx,Below W0.heap.size W0 wx->wx.cell? ⟨w.heap.size,0,none⟩=some (.slice kA kn kc)/\wx.cell? ⟨w.heap.size,1,none⟩=some (.slice gA gn gc)/\wx.cell? ⟨w.heap.size,2,none⟩=some (.slice iA im ic)):=hid fun wx hb=>⟨(HRT.out _ hb).cell 0,(HRT.out _ hb).cell 1,(HRT.out _ hb).cell 2⟩
  go_region_held3 (fun wx=>wx.cell? ⟨w.heap.size,0,none⟩=some (.slice kA kn kc)/\wx.cell? ⟨w.heap.size,1,none⟩=some (.slice gA gn gc)/\wx.cell? ⟨w.heap.size,2,none⟩=some (.slice iA im ic))
   (((with_reducible refine HS.out _ ?_);(repeat' first | with_reducible exact Below.refl _ _ | assumption | with_reducible refine Below.drew ?_ | with_reducible refine Below.al ?_ _ | with_reducible refine Below.setCell ?_ (by (try simp);(try omega)) _)))
   (first
    | (go_at_call 169
       (with_reducible refine (HKC.out _ ?hbel).mono ?_)
       case hbel=>(repeat' first | exact Below.refl _ _ | assumption | refine Below.drew ?_ | refine Below.al ?_ _)
       rintro e w3 ⟨kG,ks',rfl,hks3,hb3,hB3⟩
       have hz3:=hb3.size
       (try simp at hz3)
       (try (have k0:=fun o=>bcell hb3 W0.heap.size (by first | (simp;done) | (simp;omega) | fail) o
             have f0:=fun o=>bfroz hb3 W0.heap.size (by first | (simp;done) | (simp;omega) | fail) o))
       (try (have k1:=fun o=>bcell hb3 (W0.heap.size+1) (by first | (simp;done) | (simp;omega) | fail) o
             have f1:=fun o=>bfroz hb3 (W0.heap.size+1) (by first | (simp;done) | (simp;omega) | fail) o)))
    | (go_at_call 103
       (with_reducible refine (HGC.out _ ?hbel).mono ?_)
       case hbel=>(repeat' first | exact Below.refl _ _ | assumption | refine Below.drew ?_ | refine Below.al ?_ _)
       rintro e w5 ⟨gA',gc',rfl,hgs5,hb5,hB5⟩
       have hb35:Below w3.heap.size w3 w5:=by
        refine Below.tr ?_ hb5
        (repeat' first | exact Below.refl _ _ | assumption | refine Below.drew ?_ | refine Below.al ?_ _)
       have hz5:=hb5.size
       (try simp at hz5)
       (try (have k2:=fun o=>(bcell hb35 W0.heap.size (by omega) o).trans (k0 o)
             have f2:=fun o=>(bfroz hb35 W0.heap.size (by omega) o).trans (f0 o)
             have k2b:=fun o ob=>(bcell (Below.al hb35 ob) W0.heap.size (by omega) o).trans (k0 o)
             have f2b:=fun o ob=>(bfroz (Below.al hb35 ob) W0.heap.size (by omega) o).trans (f0 o)))
       (try (have k3:=fun o=>(bcell hb35 (W0.heap.size+1) (by omega) o).trans (k1 o)
             have f3:=fun o=>(bfroz hb35 (W0.heap.size+1) (by omega) o).trans (f1 o)
             have k3b:=fun o ob=>(bcell (Below.al hb35 ob) (W0.heap.size+1) (by omega) o).trans (k1 o)
             have f3b:=fun o ob=>(bfroz (Below.al hb35 ob) (W0.heap.size+1) (by omega) o).trans (f1 o)))
       (try (have k4:=fun o=>bcell hb5 w3.heap.size (by first | (simp;done) | (simp;omega) | fail) o
             have f4:=fun o=>bfroz hb5 w3.heap.size (by first | (simp;done) | (simp;omega) | fail) o
             have k4b:=fun o ob=>bcell (Below.al hb5 ob) w3.heap.size (by first | (simp;done) | (simp;omega) | fail) o
             have f4b:=fun o ob=>bfroz (Below.al hb5 ob) w3.heap.size (by first | (simp;done) | (simp;omega) | fail) o))
       (try (have k5:=fun o=>bcell hb5 (w3.heap.size+1) (by first | (simp;done) | (simp;omega) | fail) o
             have f5:=fun o=>bfroz hb5 (w3.heap.size+1) (by first | (simp;done) | (simp;omega) | fail) o
             have k5b:=fun o ob=>bcell (Below.al hb5 ob) (w3.heap.size+1) (by first | (simp;done) | (simp;omega) | fail) o
             have f5b:=fun o ob=>bfroz (Below.al hb5 ob) (w3.heap.size+1) (by first | (simp;done) | (simp;omega) | fail) o))))
  all_goals
   refine A0 _ _ (Met.intro (A1 _ _ ?_))
   (repeat apply Exists.intro)
   refine And.intro ?_ rfl
   have hsz:=HSZ.out
   have hz4:=hB3.size
   have hz6:=hB5.size
   (repeat apply Exists.intro)
   constructor
   . rfl
   constructor
   . apply hid
     first
      | with_reducible exact Bk.new _ _ _
      | with_reducible exact Bk.two _ _ _ _
      | with_reducible exact (Bk.new _ _ _).alloc _
      | (refine Bk.set3 (x:=.slice none 0 0) (y:=.slice none 0 0) (z:=.slice none 0 0) ?_ _ _ _
         (repeat' first | with_reducible exact Bk.new _ _ _ | with_reducible exact Bk.two _ _ _ _ | with_reducible refine Bk.drew ?_ | with_reducible refine Bk.alloc ?_ _ | with_reducible refine Bk.below2 ?_ hb5 | with_reducible refine Bk.below2 ?_ hb3))
   refine ⟨?h1,?h2,hid ⟨KsY.keep (F:=[52]) hks3.out.1 ?hkx (by decide) (by decide),hks3.out.2⟩,hid (GsY.keep (F:=[52]) hgs5.out ?hgx (by decide)),hid (Fill.of_bk (cs:=MC) ?hmc HMC.out),hid ?hbl⟩
   case h1=>omega
   case h2=>omega
   case hkx=>(repeat' first | with_reducible exact Kx.refl | with_reducible refine Kx.drew ?_ | with_reducible refine Kx.alloc ?_ _ | with_reducible refine Kx.below ?_ hb5 | with_reducible refine Kx.set3 (t:=52) (cs:=#[.slice none 0 0,.slice none 0 0,.slice none 0 0]) ?_ ?_ (Nat.zero_le _) (by simp) _ _ _ _ _ _ | with_reducible exact Bk.new _ _ _ | with_reducible exact Bk.two _ _ _ _ | with_reducible refine Bk.drew ?_ | with_reducible refine Bk.alloc ?_ _ | with_reducible refine Bk.below2 ?_ hb5 | with_reducible refine Bk.below2 ?_ hb3)
   case hgx=>(repeat' first | with_reducible exact Kx.refl | with_reducible refine Kx.drew ?_ | with_reducible refine Kx.alloc ?_ _ | with_reducible refine Kx.set3 (t:=52) (cs:=#[.slice none 0 0,.slice none 0 0,.slice none 0 0]) ?_ ?_ (Nat.zero_le _) (by simp) _ _ _ _ _ _ | with_reducible exact Bk.new _ _ _ | with_reducible exact Bk.two _ _ _ _ | with_reducible refine Bk.drew ?_ | with_reducible refine Bk.alloc ?_ _ | with_reducible refine Bk.below2 ?_ hb5 | with_reducible refine Bk.below2 ?_ hb3)
   case hmc=>(repeat' first | with_reducible exact Bk.new _ _ _ | with_reducible exact Bk.two _ _ _ _ | with_reducible refine Bk.far3 (t':=52) (cs':=#[.slice none 0 0,.slice none 0 0,.slice none 0 0]) ?_ ?_ (by decide) _ _ _ _ _ _ | with_reducible refine Bk.drew ?_ | with_reducible refine Bk.alloc ?_ _ | with_reducible refine Bk.below2 ?_ hb5 | with_reducible refine Bk.below2 ?_ hb3)
   case hbl=>(repeat' first | with_reducible exact Below.refl _ _ | with_reducible assumption | with_reducible refine Below.drew ?_ | with_reducible refine Below.al ?_ _ | with_reducible refine Below.setCell ?_ (by dsimp only;omega) _)
 case rest =>
  obtain ⟨go,kA',ks',gA',gc',iG,rfl,HBK,hgo,hiG,HKS,HGS,HF,HBL⟩:=hcut
  have d2:wc.cell? ⟨w.heap.size,2,none⟩=some (.slice iA im ic):=(HRT.out _ HBL.out).cell 2
  clear hmk HKC HGC HMC c0 c1 c2
  go_wp2_with fail
  go_loopw [20] (fun iv wr=>∃ (k:Nat) (l1:List It),k<=im/\iv=.int i64 k/\Hid (Bk wr go 52 #[.slice kA' kn kn,.slice gA' gn gc',.slice (some ⟨iG,0,none⟩) im im])/\Hid (Fill wr iG 147 3 im k (itCs l1))/\Hid (l1.map It.p=(its.take k).map It.p/\(∀ x∈l1,ItY wr 0 x)/\ItS wr w.heap.size l1)/\Hid (KsY wr 0 kA' kn kn ks'/\ks'.map Kd.p=ks.map Kd.p)/\Hid (GsY wr 0 gA' gn gc' gens)/\Hid (Below W0.heap.size W0 wr)) (fun iv _=>im-(intOf iv).toNat)
  case atStart=>exact ⟨0,[],Nat.zero_le _,rfl,HBK,HF,hid ⟨rfl,(fun x hx=>by cases hx),ItS.nil⟩,HKS,HGS,HBL⟩
  case round =>
   clear HBK HKS HGS HF HBL d2
   obtain ⟨k,l1,hk,rfl,HBK,HF,HL,HKS,HGS,HBL⟩:=hrel
   have hbw:Below w.heap.size w wr:=HB0.out.trans (HBL.out.mono HB0.out.size)
   have hlo:=HI.out.lo
   have hsz:=HSZ.out
   have hsw:=HBL.out.size
   have d2:wr.cell? ⟨w.heap.size,2,none⟩=some (.slice iA im ic):=(HRT.out _ HBL.out).cell 2
   by_cases hlt:k<im
   . have hkz:(k:Int)<im:=by omega
     obtain ⟨x,hx⟩:∃ x,its[k]?=some x:=⟨_,List.getElem?_eq_getElem (by have:=HI.out.len;omega)⟩
     have hcw:=HI.out.below (hbw.mono hlo)
     have hxo:=hcw.ok x (List.mem_of_getElem? hx)
     obtain ⟨b,o,rfl,hbb,q0,q1,q2⟩:=hcw.rd.it hlt hx
     have hcl:=fun wx (hb:Below w.heap.size w wx)=>HCC.out wx hb x (List.mem_of_getElem? hx)
     have HCL:=hid hcl
     have HX:=hid (And.intro hx hxo)
     clear hx hcw hxo hcl
     generalize hxe:x.e=xe at *
     generalize hxg:x.g=xg at *
     generalize hxA:x.A=xA at *
     generalize hxn:x.n=xn at *
     generalize hxc:x.c=xc at *
     have HXV:=hid (And.intro hxe (And.intro hxg (And.intro hxA (And.intro hxn hxc))))
     clear hxe hxg hxA hxn hxc
     go_wp2_with fail
     have hb1:=(Below.refl wr.heap.size wr).alloc (Nat.le_refl _) (.cells #[.int i64 xe,.int i64 xg,.slice xA xn xc] 147)
     have hh1:=Bk.new wr 147 #[.int i64 xe,.int i64 xg,.slice xA xn xc]
     have hO1:=HF.out.below hb1 HF.out.lt
     have hgo1:=HBK.out.below hb1 HBK.out.lt
     have hw1:Below W0.heap.size W0 (wr.alloc (.cells #[.int i64 xe,.int i64 xg,.slice xA xn xc] 147)):=Below.tr HBL.out hb1
     have hgh:iG<wr.heap.size:=HF.out.lt
     have HB1:=hid hb1
     have hgg:go≠iG:=by
      obtain ⟨cs,h1,_⟩:=HF.out.bk
      exact Bk.ne_ HBK.out h1 (by decide)
     clear hb1 q0 q1 q2
     generalize wr.alloc (.cells #[.int i64 xe,.int i64 xg,.slice xA xn xc] 147)=W1 at *
     generalize hhh:wr.heap.size=hh at *
     have hgh2:hh≠iG:=by omega
     have s1:W1.drew.cell? ⟨hh,0,none⟩=some (.int i64 xe)/\W1.drew.cell? ⟨hh,1,none⟩=some (.int i64 xg)/\W1.drew.cell? ⟨hh,2,none⟩=some (.slice xA xn xc)/\W1.drew.cell? ⟨go,2,none⟩=some (.slice (some ⟨iG,0,none⟩) im im):=⟨hh1.cell 0,hh1.cell 1,hh1.cell 2,hgo1.cell 2⟩
     have hbB:Below w.heap.size w W1.drew:=(HB0.out.trans (hw1.mono HB0.out.size)).drew
     have HH1:=hid hh1
     have HO1:=hid hO1
     have HG1:=hid hgo1
     have HW1:=hid hw1
     clear hh1 hO1 hw1 hgo1
     go_region_held3 (fun wx=>wx.cell? ⟨hh,0,none⟩=some (.int i64 xe)/\wx.cell? ⟨hh,1,none⟩=some (.int i64 xg)/\wx.cell? ⟨hh,2,none⟩=some (.slice xA xn xc)/\wx.cell? ⟨go,2,none⟩=some (.slice (some ⟨iG,0,none⟩) im im))
      (first | (with_reducible exact s1) | (with_reducible exact s3) | (with_reducible exact s4) | go_keep)
      (first
       | (go_at_call 170
          (with_reducible refine (HCL.out _ hbB).mono ?_)
          rintro e w3 ⟨g3,l3,rfl,hcs3,hcp3,hb3,hg3_,hbk3⟩
          have hh3:=HH1.out.drew.below hb3 HH1.out.lt
          have hg3:=HG1.out.drew.below hb3 HG1.out.lt
          have hO3:=Fill.below (w:=W1.drew) (HO1.out.keep (F:=[]) (Kx.refl (B:=0) |>.drew) (by simp)) hb3 (by have:=HO1.out.lt;exact this)
          have s3:w3.cell? ⟨hh,0,none⟩=some (.int i64 xe)/\w3.cell? ⟨hh,1,none⟩=some (.int i64 xg)/\w3.cell? ⟨hh,2,none⟩=some (.slice xA xn xc)/\w3.cell? ⟨go,2,none⟩=some (.slice (some ⟨iG,0,none⟩) im im):=⟨hh3.cell 0,hh3.cell 1,hh3.cell 2,hg3.cell 2⟩
          obtain ⟨u0,o0⟩:=hO3.at_ (j:=k*3) (by omega)
          obtain ⟨u1,o1⟩:=hO3.at_ (j:=k*3+1) (by omega)
          obtain ⟨u2,o2⟩:=hO3.at_ (j:=k*3+2) (by omega)
          have p0:=hO3.frozen (k*3)
          have p1:=hO3.frozen (k*3+1)
          have p2:=hO3.frozen (k*3+2)
          obtain ⟨W4,hW4⟩:∃ W4,W4=((w3.setCell ⟨iG,k*3,none⟩ (.int i64 xe)).setCell ⟨iG,k*3+1,none⟩ (.int i64 xg)).setCell ⟨iG,k*3+2,none⟩ (.slice (some ⟨g3,0,none⟩) xn xn):=⟨_,rfl⟩
          have hh4:Bk W4 hh 147 #[.int i64 xe,.int i64 xg,.slice xA xn xc]:=by rw [hW4];exact ((hh3.far (p:=⟨iG,k*3,none⟩) hgh2 _).far (p:=⟨iG,k*3+1,none⟩) hgh2 _).far (p:=⟨iG,k*3+2,none⟩) hgh2 _
          have hg4:Bk W4 go 52 #[.slice kA' kn kn,.slice gA' gn gc',.slice (some ⟨iG,0,none⟩) im im]:=by rw [hW4];exact ((hg3.far (p:=⟨iG,k*3,none⟩) hgg _).far (p:=⟨iG,k*3+1,none⟩) hgg _).far (p:=⟨iG,k*3+2,none⟩) hgg _
          have s4:(((w3.setCell ⟨iG,k*3,none⟩ (.int i64 xe)).setCell ⟨iG,k*3+1,none⟩ (.int i64 xg)).setCell ⟨iG,k*3+2,none⟩ (.slice (some ⟨g3,0,none⟩) xn xn)).cell? ⟨hh,0,none⟩=some (.int i64 xe)/\(((w3.setCell ⟨iG,k*3,none⟩ (.int i64 xe)).setCell ⟨iG,k*3+1,none⟩ (.int i64 xg)).setCell ⟨iG,k*3+2,none⟩ (.slice (some ⟨g3,0,none⟩) xn xn)).cell? ⟨hh,1,none⟩=some (.int i64 xg)/\(((w3.setCell ⟨iG,k*3,none⟩ (.int i64 xe)).setCell ⟨iG,k*3+1,none⟩ (.int i64 xg)).setCell ⟨iG,k*3+2,none⟩ (.slice (some ⟨g3,0,none⟩) xn xn)).cell? ⟨hh,2,none⟩=some (.slice xA xn xc)/\(((w3.setCell ⟨iG,k*3,none⟩ (.int i64 xe)).setCell ⟨iG,k*3+1,none⟩ (.int i64 xg)).setCell ⟨iG,k*3+2,none⟩ (.slice (some ⟨g3,0,none⟩) xn xn)).cell? ⟨go,2,none⟩=some (.slice (some ⟨iG,0,none⟩) im im):=by rw [<- hW4];exact ⟨hh4.cell 0,hh4.cell 1,hh4.cell 2,hg4.cell 2⟩
          have hI4:=hO3.step3 hlt (.int i64 xe) (.int i64 xg) (.slice (some ⟨g3,0,none⟩) xn xn)
          have hk4:=hO3.kx3 (B:=0) (Nat.zero_le _) (k*3) (k*3+1) (k*3+2) (.int i64 xe) (.int i64 xg) (.slice (some ⟨g3,0,none⟩) xn xn)
          rw [<- hW4] at hI4 hk4
          have hw3:Below W0.heap.size W0 w3:=Below.tr (w':=W1.drew) HW1.out.drew hb3
          have hw4:Below W0.heap.size W0 W4:=by rw [hW4];exact ((hw3.setCell (p:=⟨iG,k*3,none⟩) (by show W0.heap.size<=iG;omega) _).setCell (p:=⟨iG,k*3+1,none⟩) (by show W0.heap.size<=iG;omega) _).setCell (p:=⟨iG,k*3+2,none⟩) (by show W0.heap.size<=iG;omega) _
          have HI4:=hid hI4
          have HG4:=hid hg4
          have HW4:=hid hw4
          have HK4:=hid hk4
          have HN3:=hid (And.intro hcs3 (And.intro hcp3 hb3))
          have HG3_:Hid (W1.drew.heap.size<=g3/\Bk w3 g3 166 (cmCs l3).toArray):=hid ⟨hg3_,hbk3⟩
          clear hcs3 hcp3 hb3 hg3_ hbk3 hh3 hg3 hO3 hh4 hg4 hI4 hk4 hw3 hw4))
     rw [<- hW4]
     clear hW4 s1 s3 s4 o0 o1 o2 p0 p1 p2
     have hkx:Kx 0 [147] wr W4:=((Kx.refl.below (show Below wr.heap.size wr W1 by rw [hhh];exact HB1.out)).drew.below (w':=W1.drew) HN3.out.2.2).trans HK4.out
     have hcc:CsY W4 0 (some ⟨g3,0,none⟩) xn xn l3:=HN3.out.1.keep HK4.out (by decide) (by decide)
     have HLN:Hid ((l1++[(⟨xe,xg,some ⟨g3,0,none⟩,xn,xn,l3⟩:It)]).map It.p=(its.take (k+1)).map It.p/\(∀ y∈l1++[(⟨xe,xg,some ⟨g3,0,none⟩,xn,xn,l3⟩:It)],ItY W4 0 y)/\ItS W4 w.heap.size (l1++[(⟨xe,xg,some ⟨g3,0,none⟩,xn,xn,l3⟩:It)])):=hid ⟨by
      rw [List.take_add_one,HX.out.1,List.map_append,HL.out.1,List.map_append]
      show _++[((xe,xg),l3.map Cm.p)]=_++[((x.e,x.g),x.cms.map Cm.p)]
      rw [HN3.out.2.1,HXV.out.1,HXV.out.2.1],fun y hy=>by
      rcases List.mem_append.1 hy with hy | hy
      . exact (HL.out.2.1 y hy).keep hkx (by decide) (by decide)
      . rw [show y=⟨xe,xg,some ⟨g3,0,none⟩,xn,xn,l3⟩ by simpa using hy];exact ⟨hcc,by rw [<- HXV.out.1];exact HX.out.2.wf1,by rw [<- HXV.out.2.1];exact HX.out.2.wf2⟩,HL.out.2.2.snoc hkx (by have h1:=HG3_.out.1;have h2:=HB1.out.size;exact Nat.le_trans h2 h1) (HK4.out.bk HG3_.out.2 (by decide)) (by have h1:=HG3_.out.1;have h2:=hbB.size;exact Nat.le_trans h2 h1)⟩
     have HIN:Hid (Fill W4 iG 147 3 im (k+1) (itCs (l1++[(⟨xe,xg,some ⟨g3,0,none⟩,xn,xn,l3⟩:It)]))):=hid (by
      rw [show itCs (l1++[(⟨xe,xg,some ⟨g3,0,none⟩,xn,xn,l3⟩:It)])=itCs l1++[.int i64 xe,.int i64 xg,.slice (some ⟨g3,0,none⟩) xn xn] by simp [itCs,It.cs]]
      exact HI4.out)
     have HKN:Hid (KsY W4 0 kA' kn kn ks'/\ks'.map Kd.p=ks.map Kd.p):=hid ⟨HKS.out.1.keep hkx (by decide) (by decide),HKS.out.2⟩
     have HGN:Hid (GsY W4 0 gA' gn gc' gens):=hid (HGS.out.keep hkx (by decide))
     clear hkx hcc HI4 HK4 HN3 HG3_
     go_wp2_with fail
     go_roundw
     case rel=>exact ⟨k+1,l1++[(⟨xe,xg,some ⟨g3,0,none⟩,xn,xn,l3⟩:It)],by omega,by go_num,HG4,HIN,HLN,HKN,HGN,HW4⟩
     case measure=>simp [intOf];omega
   . obtain rfl:im=k:=by omega
     have HLL:=HL.out.1
     rw [List.take_of_length_le (by rw [<- HI.out.len];omega)] at HLL
     have HLP:=hid HLL
     clear HLL
     have e0:wr.cell? ⟨go,0,none⟩=some (.slice kA' kn kn):=HBK.out.cell 0
     have e1:wr.cell? ⟨go,1,none⟩=some (.slice gA' gn gc'):=HBK.out.cell 1
     have e2:wr.cell? ⟨go,2,none⟩=some (.slice (some ⟨iG,0,none⟩) im im):=HBK.out.cell 2
     have hk2:=HR2.out _ HBL.out
     have n0:wr.cell? ⟨w.heap.size+1,0,none⟩=some (.slice none 0 0):=hk2.cell 0
     have n1:wr.cell? ⟨w.heap.size+1,1,none⟩=some (.slice none 0 0):=hk2.cell 1
     have n2:wr.cell? ⟨w.heap.size+1,2,none⟩=some (.slice none 0 0):=hk2.cell 2
     have m0:=hk2.frozen 0
     have m1:=hk2.frozen 1
     have m2:=hk2.frozen 2
     have HK2:=hid hk2
     have HBW:=hid hbw
     clear hk2 hbw
     go_wp2_with fail
     (try simp only [Exit.inBlock,Exit.then])
     have hlen:im=l1.length:=by have h:=congrArg List.length HLP.out;rw [List.length_map,List.length_map] at h;rw [h];exact HI.out.len
     have hkx:=Kx.set3 (B:=0) (F:=[52]) Kx.refl HK2.out (Nat.zero_le _) (by simp) 0 1 2 (.slice kA' kn kn) (.slice gA' gn gc') (.slice (some ⟨iG,0,none⟩) im im)
     refine bodyPost_ret (v:=.agg #[.slice kA' kn kn,.slice gA' gn gc',.slice (some ⟨iG,0,none⟩) im im]) ?_ rfl ⟨⟨kA',kn,kn,ks',gA',gn,gc',gens,some ⟨iG,0,none⟩,im,im,l1⟩,rfl,⟨HKS.out.1.keep hkx (by decide) (by decide),HGS.out.keep hkx (by decide),⟨HF.out.rd.keep hkx (by decide),hlen,Nat.le_refl _,(by show im<=9223372036854775807;omega),fun x hx=>(HL.out.2.1 x hx).keep hkx (by decide) (by decide)⟩⟩,?_,?_,HL.out.2.2.keep hkx (by decide)⟩
     . rw [results_c1 rfl]
       go_simp
     . show (⟨_,_,_⟩:Wv Kp2)=⟨_,_,_⟩
       rw [HKS.out.2,HLP.out]
     . exact ((HBW.out.setCell (p:=⟨w.heap.size+1,0,none⟩) (by show w.heap.size<=w.heap.size+1;omega) _).setCell (p:=⟨w.heap.size+1,1,none⟩) (by show w.heap.size<=w.heap.size+1;omega) _).setCell (p:=⟨w.heap.size+1,2,none⟩) (by show w.heap.size<=w.heap.size+1;omega) _
def idxF {α:Type} (p:α->Bool):List α->Int
 | []=>-1
 | a::l=>if p a=true then 0 else if idxF p l<0 then -1 else idxF p l+1
theorem idxF_none {α:Type} {p:α->Bool} {l:List α} (h:∀ (j:Nat) (y:α),l[j]?=some y->p y=false):idxF p l = -1:=by
 induction l with
 | nil=>rfl
 | cons a l ih =>
   unfold idxF
   rw [if_neg (by rw [h 0 a rfl];simp),ih fun j y hy=>h (j+1) y (by simpa using hy)];rfl
theorem idxF_hit {α:Type} {p:α->Bool} {l:List α} {k:Nat} {x:α} (hx:l[k]?=some x) (hp:p x=true) (h:∀ (j:Nat) (y:α),j<k->l[j]?=some y->p y=false):idxF p l=(k:Int):=by
 induction l generalizing k with
 | nil=>simp at hx
 | cons a l ih =>
   unfold idxF
   cases k with
   | zero =>
     have e:a=x:=by simpa using hx
     rw [e,if_pos hp];rfl
   | succ k =>
     have e:=ih (k:=k) (by simpa using hx) fun j y hj hy=>h (j+1) y (by omega) (by simpa using hy)
     rw [if_neg (by rw [h 0 a (by omega) rfl];simp),e,if_neg (by omega)];omega
theorem clo204_any (xe:Int) (xg:Int) (xA:Option Addr) (xn:Nat) (xc:Nat) (gb:Nat) (N M:Int) (w:World) (hb:w.cell? ⟨gb,0,none⟩=some (.int i64 N)/\w.cell? ⟨gb,1,none⟩=some (.int i64 M)) (hgb:gb<w.heap.size) :
 Calls Try.prog 204 #[.agg #[.int i64 xe,.int i64 xg,.slice xA xn xc],.pointer (some ⟨gb,0,none⟩)] w fun e w'=>e=.returned (.bool (decide (xe=N/\xg=M)))/\Below w.heap.size w w':=by
 have hb1:(w.alloc (.cells #[.int i64 xe,.int i64 xg,.slice xA xn xc] 147)).cell? ⟨gb,0,none⟩=some (.int i64 N):=(((Below.refl w.heap.size w).alloc (Nat.le_refl _) _).cell (p:=⟨gb,0,none⟩) hgb).trans hb.1
 have hb2:(w.alloc (.cells #[.int i64 xe,.int i64 xg,.slice xA xn xc] 147)).cell? ⟨gb,1,none⟩=some (.int i64 M):=(((Below.refl w.heap.size w).alloc (Nat.le_refl _) _).cell (p:=⟨gb,1,none⟩) hgb).trans hb.2
 have HB:=hid ((Below.refl w.heap.size w).alloc (Nat.le_refl _) (.cells #[.int i64 xe,.int i64 xg,.slice xA xn xc] 147))
 have he:=eq128 xe xg N M
 obtain ⟨d,hd⟩:∃ d,d=decide (xe=N/\xg=M):=⟨_,rfl⟩
 rw [<- hd]
 rw [<- hd] at he
 clear hb hd
 go_enter Try.func204,Try.ntmps204
 go_wp2_with fail
 go_ret
 exact ⟨rfl,HB.out⟩
set_option maxHeartbeats 1600000 in
theorem idxEntI_any {w:World} {B n c:Nat} {A:Option Addr} {l:List It} (gb:Nat) (N M:Int) (h:IsOk w B A n c l) (hb:w.cell? ⟨gb,0,none⟩=some (.int i64 N)/\w.cell? ⟨gb,1,none⟩=some (.int i64 M)) (hgb:gb<w.heap.size) :
 Calls Try.prog 68 #[.slice A n c,.func (.func 204) #[] #[.pointer (some ⟨gb,0,none⟩)]] w fun e w'=>e=.returned (.int i64 (idxF (fun x:It=>decide (x.e=N/\x.g=M)) l))/\Below w.heap.size w w':=by
 obtain ⟨R,hR⟩:∃ R,R=idxF (fun x:It=>decide (x.e=N/\x.g=M)) l:=⟨_,rfl⟩
 rw [<- hR]
 have HR:=hid hR
 have HK:=hid h
 have HB:=hid hb
 have hB:=h.lo
 have hcap:=h.cap
 have hcap2:=h.cap2
 clear h hR hb
 go_enter Try.func68,Try.ntmps68
 go_wp2_with fail
 go_loopw [8] (fun i wr=>∃ k:Nat,k<=n/\i=.int i64 k/\Hid (∀ j x,j<k->l[j]?=some x->¬ (x.e=N/\x.g=M))/\Hid (Below w.heap.size w wr)) (fun i _=>n-(intOf i).toNat)
 case atStart=>exact ⟨0,Nat.zero_le _,rfl,hid (fun j x hj=>by omega),hid (Below.refl _ _)⟩
 case round =>
  obtain ⟨k,hk,rfl,HT,HW⟩:=hrel
  by_cases hlt:k<n
  . obtain ⟨x,hx⟩:∃ x,l[k]?=some x:=⟨_,List.getElem?_eq_getElem (by have:=HK.out.len;omega)⟩
    obtain ⟨b,o,rfl,hbb,q0,q1,q2⟩:=(HK.out.below (HW.out.mono hB)).rd.it hlt hx
    have hcl:=clo204_any x.e x.g x.A x.n x.c gb N M wr ⟨(HW.out.cell (p:=⟨gb,0,none⟩) hgb).trans HB.out.1,(HW.out.cell (p:=⟨gb,1,none⟩) hgb).trans HB.out.2⟩ (by have:=HW.out.size;omega)
    obtain ⟨d,hd⟩:∃ d,d=decide (x.e=N/\x.g=M):=⟨_,rfl⟩
    rw [<- hd] at hcl
    have HCL:=hid hcl
    have HX:=hid hx
    have HD:=hid hd
    have hkn:(k:Int)<n:=by omega
    have hk0:(0:Int)<=k:=by omega
    clear hx hcl hd
    generalize hx_e:x.e=xe at *
    generalize hx_g:x.g=xg at *
    generalize hx_A:x.A=xA at *
    generalize hx_n:x.n=xn at *
    generalize hx_c:x.c=xc at *
    have HKE:=hid (And.intro hx_e hx_g)
    clear hx_e hx_g hx_A hx_n hx_c
    go_wp2_with fail
    (with_reducible refine HCL.out.mono ?_)
    rintro e w3 ⟨rfl,hb3⟩
    have HB3:=hid (HW.out.trans (hb3.mono HW.out.size))
    clear hb3
    cases d
    . go_wp2_with fail
      go_roundw
      case measure=>simp [intOf];omega
      case rel=>exact ⟨k+1,by omega,by go_num,hid (fun j y hj hy=>by
       rcases Nat.lt_or_ge j k with h | h
       . exact HT.out j y h hy
       . obtain rfl:j=k:=by omega
         rw [HX.out] at hy
         injection hy with hy
         rw [<- hy,HKE.out.1,HKE.out.2];exact of_decide_eq_false HD.out.symm),HB3⟩
    . go_wp2_with fail
      go_ret
      rw [HR.out,idxF_hit HX.out (by rw [HKE.out.1,HKE.out.2];exact HD.out.symm) fun j y hj hy=>decide_eq_false (HT.out j y hj hy)]
      exact ⟨rfl,HB3.out⟩
  . obtain rfl:n=k:=by omega
    go_wp2_with fail
    go_ret
    rw [HR.out,idxF_none fun j y hy=>decide_eq_false (HT.out j y (by have:=(List.getElem?_eq_some_iff.1 hy).1;have:=HK.out.len;omega) hy)]
    exact ⟨rfl,HW.out⟩
def findEnt (l:List It) (N M:Int):Int:=idxF (fun x:It=>decide (x.e=N/\x.g=M)) l
theorem wfind_any {w:World} {B:Nat} {y:Wd} (N M:Int) (h:IsOk w B y.iA y.im y.ic y.its) :
 Calls Try.prog 150 #[y.v,.agg #[.int i64 N,.int i64 M]] w fun e w'=>e=.returned (.int i64 (findEnt y.its N M))/\Below w.heap.size w w':=by
 obtain ⟨kA,kn,kc,ks,gA,gn,gc,gens,iA,im,ic,its⟩:=y
 dsimp only at h
 show Calls Try.prog 150 #[.agg #[.slice kA kn kc,.slice gA gn gc,.slice iA im ic],.agg #[.int i64 N,.int i64 M]] w fun e w'=>e=.returned (.int i64 (findEnt its N M))/\Below w.heap.size w w'
 obtain ⟨w1,hw1⟩:∃ z,z=(w.alloc (.cells #[.slice kA kn kc,.slice gA gn gc,.slice iA im ic] 52)).alloc (.cells #[.int i64 N,.int i64 M] 128):=⟨_,rfl⟩
 have HB1:Hid (Below w.heap.size w w1):=hid (by rw [hw1];exact Below.al (Below.al (Below.refl _ _) _) _)
 have hbk:Bk w1 (w.heap.size+1) 128 #[.int i64 N,.int i64 M]:=by rw [hw1];exact Bk.two _ _ _ _
 have hbw:Bk w1 w.heap.size 52 #[.slice kA kn kc,.slice gA gn gc,.slice iA im ic]:=by rw [hw1];exact (Bk.new _ _ _).alloc _
 have HID:Hid (Calls Try.prog 68 #[.slice iA im ic,.func (.func 204) #[] #[.pointer (some ⟨w.heap.size+1,0,none⟩)]] w1 fun e w'=>e=.returned (.int i64 (findEnt its N M))/\Below w1.heap.size w1 w'):=hid (idxEntI_any (w.heap.size+1) N M (h.below (HB1.out.mono h.lo)) ⟨hbk.cell 0,hbk.cell 1⟩ hbk.lt)
 have c2:w1.cell? ⟨w.heap.size,2,none⟩=some (.slice iA im ic):=hbw.cell 2
 have HW:=hid hw1
 clear hbk hbw h hw1
 go_enter Try.func150,Try.ntmps150
 go_upto_region 1 with fail
 rw [<- HW.out]
 go_wp2_with fail
 (with_reducible refine HID.out.mono ?_)
 rintro e w2 ⟨rfl,hb2⟩
 have HB2:=hid (HB1.out.trans (hb2.mono HB1.out.size))
 clear hb2
 go_wp2_with fail
 go_ret
 exact ⟨rfl,HB2.out⟩
end Go.Proofs.Ytnidcmhfbkdioaa
