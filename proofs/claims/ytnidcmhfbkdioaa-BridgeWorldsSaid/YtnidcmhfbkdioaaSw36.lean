/-
  tourref4.BodyOf. Conditions: what is read can be read; values that are not great.
-/
import Derived.Test.YtnidcmhfbkdioaaSw35
namespace Go.Proofs.Ytnidcmhfbkdioaa
open Go.RowKit
open Go.IntKind (i64)
open Go.Lib (hid)
set_option maxRecDepth 100000
theorem own_monoB {w:World} {base base' size n:Nat} {e:TypeId} {v:Value} {xs:List Value} (h:w.ownsRow base e size v n xs) (hb:base'<=base):w.ownsRow base' e size v n xs:=by
 refine ⟨h.1,?_⟩
 rcases h.2 with h2 | ⟨g,c,cur,h2,h3,h4⟩
 . exact .inl h2
 . exact .inr ⟨g,c,cur,h2,by omega,h4⟩
def RowV (w:World) (base:Nat) (o:Option Cm) (v:Value):Prop :=
 match o with
 | none=>v=.slice none 0 0
 | some cm=>∃ (A':Option Addr) (c':Nat),v=.slice A' cm.n c'/\w.ownsRow base 3 1 (.slice A' cm.n c') cm.n (cm.vals.map (Value.int .i64))
theorem RowV.keep {w w':World} {base:Nat} {o:Option Cm} {v:Value} (h:RowV w base o v) (hb:Below w.heap.size w w'):RowV w' base o v:=by
 cases o with
 | none=>exact h
 | some cm =>
   obtain ⟨A',c',e,ho⟩:=h
   exact ⟨A',c',e,(Kx.of_below (B:=0) (F:=[]) hb).own ho (by simp)⟩
theorem RowV.at_ {w:World} {base:Nat} {cm:Cm} {v:Value} (h:RowV w base (some cm) v) {N:Nat} (hl:cm.n=cm.vals.length) (hN:cm.vals.length=N) (h0:0<N) :
 ∃ b o c,v=.slice (some ⟨b,o,none⟩) N c/\b<w.heap.size/\N<=c/\c<=9223372036854775807/\∀ j,j<N->w.cell? ⟨b,o+j,none⟩=some (.int i64 (atI cm.vals j)):=by
 obtain ⟨A',c',e,ho⟩:=h
 have hc:=own_cap2 ho
 have hr:=Rd.of_own ho
 obtain ⟨b,o,e2,hb,hce⟩:=hr.2 (by omega)
 subst e2
 refine ⟨b,o,c',by rw [e,hl,hN],hb,by omega,hc.2,fun j hj=>hce j _ ?_⟩
 rw [List.getElem?_map,List.getElem?_eq_getElem (by omega)]
 unfold atI
 rw [List.getD_eq_getElem?_getD,List.getElem?_eq_getElem (by omega)]
 rfl
theorem T.info105:(Try.prog.info? 105).map (fun i=>(i.zero,i.size,i.bytes))=some (some (.agg #[.int i64 0,.int i64 0]),2,16):=by kernel_rfl
theorem tmod_if (p:Int):p % 65536=if p.tmod 65536<0 then p.tmod 65536+65536 else p.tmod 65536:=by
 rcases Int.le_total 0 p with h0 | h0
 . rw [Int.tmod_eq_emod_of_nonneg h0,if_neg (by omega)]
 . obtain ⟨n,rfl⟩:∃ n:Nat,p = -(n:Int):=⟨(-p).toNat,by omega⟩
   rw [Int.neg_tmod,Int.tmod_eq_emod_of_nonneg (by omega)];split <;> omega
def sgX (k:Nat):Int:=if k=0\/k=3 then -1 else 1
def sgY (k:Nat):Int:=if k=0\/k=1 then -1 else 1
def crK (wd hd:Int) (k:Nat):List Int:=[-wd,-hd,wd,-hd,wd,hd,-wd,hd].take (2*k)
theorem crK_succ (wd hd:Int) {k:Nat} (hk:k<4):crK wd hd (k+1)=crK wd hd k++[sgX k*wd,sgY k*hd]:=by
 rcases (by omega:k=0\/k=1\/k=2\/k=3) with rfl | rfl | rfl | rfl <;> simp [crK,sgX,sgY]
set_option maxHeartbeats 8000000 in
theorem rbody_any {w:World} {B n c:Nat} {A:Option Addr} {l:List Cm} (h:CsOk w B A n c l) (e g m0 m1 m2 m3 m4:Int) (h0:VaOk l m0 3) (h1:VaOk l m1 4) (h2:VaOk l m2 5) (hneg:∀ k,k<0->cmAt l k=none) (hszs:∀ cm∈l,cm.n<=1048576) :
 Calls Try.prog 136 #[.agg #[.int i64 m0,.int i64 m1,.int i64 m2,.int i64 m3,.int i64 m4],.agg #[.int i64 e,.int i64 g,.slice A n c]] w (BoP w (bodyF m0 m1 m2 l)):=by
 obtain ⟨i105,hi105,hy0,hy1,hy2⟩:=info_parts T.info105
 obtain ⟨W0,hW0⟩:∃ W0,W0=((w.alloc (.cells #[.int i64 m0,.int i64 m1,.int i64 m2,.int i64 m3,.int i64 m4] 141)).alloc (.cells #[.int i64 e,.int i64 g,.slice A n c] 147)).alloc (.cells #[.int i64 0,.int i64 0,.int i64 0,.int i64 0,.int i64 0,.int i64 0,.int i64 0,.int i64 0,.int i64 0,.int i64 0,.slice none 0 0,.bool false,.int i64 0] 124):=⟨_,rfl⟩
 obtain ⟨a0,ha0⟩:∃ a,a=w.heap.size:=⟨_,rfl⟩
 have hbW:Below w.heap.size w W0:=by rw [hW0];exact (((Below.refl _ _).alloc (Nat.le_refl _) _).alloc (by simp) _).alloc (by simp;omega) _
 have b24:Bk W0 a0 141 #[.int i64 m0,.int i64 m1,.int i64 m2,.int i64 m3,.int i64 m4]:=by rw [hW0,ha0];exact ((Bk.new _ _ _).alloc _).alloc _
 have b147:Bk W0 (a0+1) 147 #[.int i64 e,.int i64 g,.slice A n c]:=by rw [hW0,ha0];exact (Bk.twoB _ _ _ _).alloc _
 have b124:Bk W0 (a0+1+1) 124 BoZ:=by
  rw [hW0,ha0]
  have hq:=Bk.new ((w.alloc (.cells #[.int i64 m0,.int i64 m1,.int i64 m2,.int i64 m3,.int i64 m4] 141)).alloc (.cells #[.int i64 e,.int i64 g,.slice A n c] 147)) 124 BoZ
  simpa [BoZ] using hq
 have hsz:W0.heap.size=a0+3:=by rw [hW0,ha0];simp
 have hB:=h.lo
 have HS1:Hid (∀ wz,Below W0.heap.size W0 wz->wz.cell? ⟨a0,0,none⟩=some (.int i64 m0)/\wz.cell? ⟨a0,1,none⟩=some (.int i64 m1)/\wz.cell? ⟨a0,2,none⟩=some (.int i64 m2)/\wz.cell? ⟨a0+1,0,none⟩=some (.int i64 e)/\wz.cell? ⟨a0+1,1,none⟩=some (.int i64 g)/\wz.cell? ⟨a0+1,2,none⟩=some (.slice A n c)):=hid fun wz hz=>by
  have k1:=b24.below hz b24.lt
  have k2:=b147.below hz b147.lt
  exact ⟨k1.cell 0,k1.cell 1,k1.cell 2,k2.cell 0,k2.cell 1,k2.cell 2⟩
 have HRV:Hid (∀ wz k,Below W0.heap.size W0 wz->Calls Try.prog 70 #[.agg #[.int i64 e,.int i64 g,.slice A n c],.int i64 k] wz fun r w'=>∃ V,r=.returned V/\Hid (RowV w' w.heap.size (cmAt l k) V)/\Below wz.heap.size wz w'):=hid fun wz k hz=>by
  have hbz:Below w.heap.size w wz:=hbW.trans (hz.mono hbW.size)
  refine (rvals_any (h.below (hbz.mono hB)) e g k hszs).mono fun r w' hr=>?_
  unfold RvP at hr
  have hk:(if 0<=k then cmAt l k else none)=cmAt l k:=by
   split
   . rfl
   . exact (hneg k (by omega)).symm
  rw [hk] at hr
  cases hc:cmAt l k with
  | none=>rw [hc] at hr;exact ⟨_,hr.1,hid rfl,hr.2⟩
  | some cm =>
    rw [hc] at hr
    obtain ⟨A',c',h1,h2,h3⟩:=hr
    exact ⟨_,h1,hid ⟨A',c',rfl,own_monoB h2 hbz.size⟩,h3⟩
 have HBW:=hid hbW
 have H24:Hid (∀ wz,Below W0.heap.size W0 wz->Bk wz (a0+1+1) 124 BoZ):=hid fun wz hz=>b124.below hz b124.lt
 have HW0:=hid (And.intro hW0 (And.intro ha0 hsz))
 have HLEN:Hid (∀ k cm,cmAt l k=some cm->cm.n=cm.vals.length):=hid fun k cm hc=>(h.ok cm (List.mem_of_find?_eq_some hc)).len
 have HVO:=hid (And.intro h0 (And.intro h1 h2))
 clear h h0 h1 h2 hbW b24 b147 b124 hW0 ha0 hsz hneg hszs
 go_enter Try.func136,Try.ntmps136
 go_upto_region 1 with fail
 rw [<- HW0.out.1,<- HW0.out.2.1]
 have s1:=HS1.out W0.drew (Below.refl _ _).drew
 have HBu0:Hid (Below W0.heap.size W0 W0.drew):=hid (Below.refl _ _).drew
 refine wp_region_noPanic ?_
 refine wp_region_H (S:=fun wz=>wz.cell? ⟨a0,0,none⟩=some (.int i64 m0)/\wz.cell? ⟨a0,1,none⟩=some (.int i64 m1)/\wz.cell? ⟨a0,2,none⟩=some (.int i64 m2)/\wz.cell? ⟨a0+1,0,none⟩=some (.int i64 e)/\wz.cell? ⟨a0+1,1,none⟩=some (.int i64 g)/\wz.cell? ⟨a0+1,2,none⟩=some (.slice A n c)) (by kernel_rfl) ?_
 refine wpH 0 (.agg #[.int i64 e,.int i64 g,.slice A n c]) 15 s1 ?_
 (try simp only [sP])
 refine wpH 1 (.pointer (some ⟨a0,0,none⟩)) 16 s1 ?_
 (try simp only [sP])
 refine wpH 2 (.int i64 m0) 17 s1 ?_
 (try simp only [sP])
 refine wpH 4 (.agg #[.int i64 e,.int i64 g,.slice A n c]) 19 s1 ?_
 (try simp only [sP])
 refine wpH 5 (.pointer (some ⟨a0,2,none⟩)) 20 s1 ?_
 (try simp only [sP])
 refine wpH 6 (.int i64 m2) 21 s1 ?_
 (try simp only [sP])
 refine wpH 8 (.agg #[.int i64 e,.int i64 g,.slice A n c]) 23 s1 ?_
 (try simp only [sP])
 refine wpH 9 (.pointer (some ⟨a0,1,none⟩)) 24 s1 ?_
 (try simp only [sP])
 refine wpH 10 (.int i64 m1) 25 s1 ?_
 (try simp only [sP])
 refine wpAnyH_oneW (i:=3) rfl (by kernel_rfl) (by rfl) ?_
 go_simp
 go_at_call 70
 (with_reducible refine (HRV.out _ m0 HBu0.out).mono ?_)
 rintro e u6 ⟨PV,rfl,hPV,hbu6⟩
 have HBu6:Hid (Below W0.heap.size W0 u6):=hid (HBu0.out.trans (hbu6.mono (HBu0.out.size)))
 refine And.intro (HS1.out _ HBu6.out) ?_
 (try simp only [sP])
 refine wpAnyH_oneW (i:=7) rfl (by kernel_rfl) (by rfl) ?_
 go_simp
 go_at_call 70
 (with_reducible refine (HRV.out u6 m2 HBu6.out).mono ?_)
 rintro e u7 ⟨SV,rfl,hSV,hbu7⟩
 have HBu7:Hid (Below W0.heap.size W0 u7):=hid (HBu6.out.trans (hbu7.mono (HBu6.out.size)))
 refine And.intro (HS1.out _ HBu7.out) ?_
 (try simp only [sP])
 refine wpAnyH_oneW (i:=11) rfl (by kernel_rfl) (by rfl) ?_
 go_simp
 go_at_call 70
 (with_reducible refine (HRV.out u7 m1 HBu7.out).mono ?_)
 rintro e w1 ⟨VV,rfl,hVV,hbw1⟩
 have HBw1:Hid (Below W0.heap.size W0 w1):=hid (HBu7.out.trans (hbw1.mono (HBu7.out.size)))
 refine And.intro (HS1.out _ HBw1.out) ?_
 (try simp only [sP])
 refine wpH 12 PV 6 (HS1.out _ HBw1.out) ?_
 (try simp only [sP])
 refine wpH 13 SV 7 (HS1.out _ HBw1.out) ?_
 (try simp only [sP])
 refine wpH 14 VV 8 (HS1.out _ HBw1.out) ?_
 (try simp only [sP])
 refine wpAnyH_done (by kernel_rfl) ?_ _
 refine NoPanic.normal ?_
 have HPV:Hid (RowV w1 w.heap.size (cmAt l m0) PV):=hid ((hPV.out.keep hbu7).keep hbw1)
 have HSV:Hid (RowV w1 w.heap.size (cmAt l m2) SV):=hid (hSV.out.keep hbw1)
 have HVV:=hVV
 clear s1 HBu0 HS1 HRV hPV hSV hVV hbu6 hbu7 hbw1 HBu6 HBu7
 have hnil:=fun wx=>Lib.run_eql_slice_nil (P:=Try.prog) wx 30 3 none 0 0 0 0 Try.underlying30
 cases hp:cmAt l m0 with
 | none =>
   have hPN:PV=.slice none 0 0:=by have h9:=HPV.out;rw [hp] at h9;exact h9
   have HR:Hid (bodyF m0 m1 m2 l=none):=hid (by unfold bodyF;rw [hp])
   subst hPN
   clear hp HPV HSV HVV
   have kz:=H24.out w1 HBw1.out
   have q0:w1.cell? ⟨a0+1+1,0,none⟩=some (.int i64 0):=kz.cell 0
   have f0:w1.frozen? ⟨a0+1+1,0,none⟩=false:=kz.frozen 0
   have q1:w1.cell? ⟨a0+1+1,1,none⟩=some (.int i64 0):=kz.cell 1
   have f1:w1.frozen? ⟨a0+1+1,1,none⟩=false:=kz.frozen 1
   have q2:w1.cell? ⟨a0+1+1,2,none⟩=some (.int i64 0):=kz.cell 2
   have f2:w1.frozen? ⟨a0+1+1,2,none⟩=false:=kz.frozen 2
   have q3:w1.cell? ⟨a0+1+1,3,none⟩=some (.int i64 0):=kz.cell 3
   have f3:w1.frozen? ⟨a0+1+1,3,none⟩=false:=kz.frozen 3
   have q4:w1.cell? ⟨a0+1+1,4,none⟩=some (.int i64 0):=kz.cell 4
   have f4:w1.frozen? ⟨a0+1+1,4,none⟩=false:=kz.frozen 4
   have q5:w1.cell? ⟨a0+1+1,5,none⟩=some (.int i64 0):=kz.cell 5
   have f5:w1.frozen? ⟨a0+1+1,5,none⟩=false:=kz.frozen 5
   have q6:w1.cell? ⟨a0+1+1,6,none⟩=some (.int i64 0):=kz.cell 6
   have f6:w1.frozen? ⟨a0+1+1,6,none⟩=false:=kz.frozen 6
   have q7:w1.cell? ⟨a0+1+1,7,none⟩=some (.int i64 0):=kz.cell 7
   have f7:w1.frozen? ⟨a0+1+1,7,none⟩=false:=kz.frozen 7
   have q8:w1.cell? ⟨a0+1+1,8,none⟩=some (.int i64 0):=kz.cell 8
   have f8:w1.frozen? ⟨a0+1+1,8,none⟩=false:=kz.frozen 8
   have q9:w1.cell? ⟨a0+1+1,9,none⟩=some (.int i64 0):=kz.cell 9
   have f9:w1.frozen? ⟨a0+1+1,9,none⟩=false:=kz.frozen 9
   have q10:w1.cell? ⟨a0+1+1,10,none⟩=some (.slice none 0 0):=kz.cell 10
   have f10:w1.frozen? ⟨a0+1+1,10,none⟩=false:=kz.frozen 10
   have q11:w1.cell? ⟨a0+1+1,11,none⟩=some (.bool false):=kz.cell 11
   have f11:w1.frozen? ⟨a0+1+1,11,none⟩=false:=kz.frozen 11
   have q12:w1.cell? ⟨a0+1+1,12,none⟩=some (.int i64 0):=kz.cell 12
   have f12:w1.frozen? ⟨a0+1+1,12,none⟩=false:=kz.frozen 12
   clear kz
   go_wp2_with fail
   (try simp only [Exit.inBlock,Exit.then])
   refine bodyPost_ret (v:=.tuple #[.agg BoZ,.bool false]) ?_ rfl ?_
   . rw [results_cell_tmp rfl]
     unfold BoZ
     go_simp
   . rw [HR.out]
     refine ⟨HBW.out.trans ?_,rfl⟩
     have hlo:w.heap.size<=a0+1+1:=by have:=HW0.out.2.1;omega
     have hbx:=HBw1.out.mono HBW.out.size
     clear HBw1 HBW
     (repeat' first | with_reducible exact hbx | with_reducible refine Below.setCell ?_ hlo _)
 | some pm =>
   have hpr:=HPV.out
   rw [hp] at hpr
   obtain ⟨bp,op,pc,hPN,hpB,hpc,hpc2,hpat⟩:=hpr.at_ (HLEN.out m0 pm hp) (HVO.out.1.len pm hp) (by omega)
   subst hPN
   have hnp:=fun wx=>Lib.run_eql_slice_nil (P:=Try.prog) wx 30 3 (some ⟨bp,op,none⟩) 3 pc 0 0 Try.underlying30
   clear hpr
   cases hs:cmAt l m2 with
   | none =>
     have hSN:SV=.slice none 0 0:=by have h9:=HSV.out;rw [hs] at h9;exact h9
     have HR:Hid (bodyF m0 m1 m2 l=none):=hid (by unfold bodyF;rw [hp,hs])
     subst hSN
     clear hp hs HPV HSV HVV hpat hpB
     have kz:=H24.out w1 HBw1.out
     have q0:w1.cell? ⟨a0+1+1,0,none⟩=some (.int i64 0):=kz.cell 0
     have f0:w1.frozen? ⟨a0+1+1,0,none⟩=false:=kz.frozen 0
     have q1:w1.cell? ⟨a0+1+1,1,none⟩=some (.int i64 0):=kz.cell 1
     have f1:w1.frozen? ⟨a0+1+1,1,none⟩=false:=kz.frozen 1
     have q2:w1.cell? ⟨a0+1+1,2,none⟩=some (.int i64 0):=kz.cell 2
     have f2:w1.frozen? ⟨a0+1+1,2,none⟩=false:=kz.frozen 2
     have q3:w1.cell? ⟨a0+1+1,3,none⟩=some (.int i64 0):=kz.cell 3
     have f3:w1.frozen? ⟨a0+1+1,3,none⟩=false:=kz.frozen 3
     have q4:w1.cell? ⟨a0+1+1,4,none⟩=some (.int i64 0):=kz.cell 4
     have f4:w1.frozen? ⟨a0+1+1,4,none⟩=false:=kz.frozen 4
     have q5:w1.cell? ⟨a0+1+1,5,none⟩=some (.int i64 0):=kz.cell 5
     have f5:w1.frozen? ⟨a0+1+1,5,none⟩=false:=kz.frozen 5
     have q6:w1.cell? ⟨a0+1+1,6,none⟩=some (.int i64 0):=kz.cell 6
     have f6:w1.frozen? ⟨a0+1+1,6,none⟩=false:=kz.frozen 6
     have q7:w1.cell? ⟨a0+1+1,7,none⟩=some (.int i64 0):=kz.cell 7
     have f7:w1.frozen? ⟨a0+1+1,7,none⟩=false:=kz.frozen 7
     have q8:w1.cell? ⟨a0+1+1,8,none⟩=some (.int i64 0):=kz.cell 8
     have f8:w1.frozen? ⟨a0+1+1,8,none⟩=false:=kz.frozen 8
     have q9:w1.cell? ⟨a0+1+1,9,none⟩=some (.int i64 0):=kz.cell 9
     have f9:w1.frozen? ⟨a0+1+1,9,none⟩=false:=kz.frozen 9
     have q10:w1.cell? ⟨a0+1+1,10,none⟩=some (.slice none 0 0):=kz.cell 10
     have f10:w1.frozen? ⟨a0+1+1,10,none⟩=false:=kz.frozen 10
     have q11:w1.cell? ⟨a0+1+1,11,none⟩=some (.bool false):=kz.cell 11
     have f11:w1.frozen? ⟨a0+1+1,11,none⟩=false:=kz.frozen 11
     have q12:w1.cell? ⟨a0+1+1,12,none⟩=some (.int i64 0):=kz.cell 12
     have f12:w1.frozen? ⟨a0+1+1,12,none⟩=false:=kz.frozen 12
     clear kz
     go_wp2_with fail
     (try simp only [Exit.inBlock,Exit.then])
     refine bodyPost_ret (v:=.tuple #[.agg BoZ,.bool false]) ?_ rfl ?_
     . rw [results_cell_tmp rfl]
       unfold BoZ
       go_simp
     . rw [HR.out]
       refine ⟨HBW.out.trans ?_,rfl⟩
       have hlo:w.heap.size<=a0+1+1:=by have:=HW0.out.2.1;omega
       have hbx:=HBw1.out.mono HBW.out.size
       clear HBw1 HBW
       (repeat' first | with_reducible exact hbx | with_reducible refine Below.setCell ?_ hlo _)
   | some sm =>
     have hsr:=HSV.out
     rw [hs] at hsr
     obtain ⟨bs,os,sc,hSN,hsB,hsc,hsc2,hsat⟩:=hsr.at_ (HLEN.out m2 sm hs) (HVO.out.2.2.len sm hs) (by omega)
     subst hSN
     have hns:=fun wx=>Lib.run_eql_slice_nil (P:=Try.prog) wx 30 3 (some ⟨bs,os,none⟩) 5 sc 0 0 Try.underlying30
     clear hsr
     obtain ⟨p0,hp0⟩:∃ z,z=atI pm.vals 0:=⟨_,rfl⟩
     obtain ⟨p1,hp1⟩:∃ z,z=atI pm.vals 1:=⟨_,rfl⟩
     obtain ⟨p2,hp2⟩:∃ z,z=atI pm.vals 2:=⟨_,rfl⟩
     obtain ⟨s0,hs0⟩:∃ z,z=atI sm.vals 0:=⟨_,rfl⟩
     obtain ⟨s1,hs1⟩:∃ z,z=atI sm.vals 1:=⟨_,rfl⟩
     obtain ⟨s2,hs2⟩:∃ z,z=atI sm.vals 2:=⟨_,rfl⟩
     obtain ⟨s3,hs3⟩:∃ z,z=atI sm.vals 3:=⟨_,rfl⟩
     obtain ⟨s4,hs4⟩:∃ z,z=atI sm.vals 4:=⟨_,rfl⟩
     have HS2:Hid (∀ wz,Below w1.heap.size w1 wz->wz.cell? ⟨bp,op,none⟩=some (.int i64 p0)/\wz.cell? ⟨bp,op+1,none⟩=some (.int i64 p1)/\wz.cell? ⟨bp,op+2,none⟩=some (.int i64 p2)/\wz.cell? ⟨bs,os,none⟩=some (.int i64 s0)/\wz.cell? ⟨bs,os+1,none⟩=some (.int i64 s1)/\wz.cell? ⟨bs,os+2,none⟩=some (.int i64 s2)/\wz.cell? ⟨bs,os+3,none⟩=some (.int i64 s3)/\wz.cell? ⟨bs,os+4,none⟩=some (.int i64 s4)):=hid fun wz hz=>by
      have k1:∀ j,j<3->wz.cell? ⟨bp,op+j,none⟩=some (.int i64 (atI pm.vals j)):=fun j hj=>(World.cell?_of_block (w:=w1) (hz.block bp hpB)).trans (hpat j hj)
      have k2:∀ j,j<5->wz.cell? ⟨bs,os+j,none⟩=some (.int i64 (atI sm.vals j)):=fun j hj=>(World.cell?_of_block (w:=w1) (hz.block bs hsB)).trans (hsat j hj)
      rw [hp0,hp1,hp2,hs0,hs1,hs2,hs3,hs4]
      exact ⟨k1 0 (by omega),k1 1 (by omega),k1 2 (by omega),k2 0 (by omega),k2 1 (by omega),k2 2 (by omega),k2 3 (by omega),k2 4 (by omega)⟩
     have hp2r : -8589934592<=p2/\p2<=8589934592:=by
      rw [hp2]
      exact HVO.out.1.rng pm hp _ (atI_mem (by have:=HVO.out.1.len pm hp;omega))
     obtain ⟨ang,hang⟩:∃ z,z=p2 % 65536:=⟨_,rfl⟩
     obtain ⟨tm,htm⟩:∃ z,z=p2.tmod 65536:=⟨_,rfl⟩
     have htm1:=tmod_rng p2
     rw [<- htm] at htm1
     have hta:ang=if tm<0 then tm+65536 else tm:=by rw [hang,htm];exact tmod_if p2
     have htm2:p2.tmod 65536=tm:=htm.symm
     obtain ⟨wd,hwd⟩:∃ z,z=wiF s0 4096 1048576:=⟨_,rfl⟩
     obtain ⟨hd,hhd⟩:∃ z,z=wiF s1 4096 1048576:=⟨_,rfl⟩
     obtain ⟨px,hpx⟩:∃ z,z=wiF p0 (-58982400) 58982400:=⟨_,rfl⟩
     obtain ⟨py,hpy⟩:∃ z,z=wiF p1 (-58982400) 58982400:=⟨_,rfl⟩
     obtain ⟨bou,hbou⟩:∃ z,z=wiF s3 0 65536:=⟨_,rfl⟩
     obtain ⟨rub,hrub⟩:∃ z,z=wiF s4 0 65536:=⟨_,rfl⟩
     have HWD:Hid (∀ wz,Calls Try.prog 155 #[.int i64 s0,.int i64 4096,.int i64 1048576] wz fun e w'=>e=.returned (.int i64 wd)/\wz=w'):=hid fun wz=>by rw [hwd];exact rnear_any _ _ _ wz
     have HHD:Hid (∀ wz,Calls Try.prog 155 #[.int i64 s1,.int i64 4096,.int i64 1048576] wz fun e w'=>e=.returned (.int i64 hd)/\wz=w'):=hid fun wz=>by rw [hhd];exact rnear_any _ _ _ wz
     have HPX:Hid (∀ wz,Calls Try.prog 155 #[.int i64 p0,.int i64 (-58982400),.int i64 58982400] wz fun e w'=>e=.returned (.int i64 px)/\wz=w'):=hid fun wz=>by rw [hpx];exact rnear_any _ _ _ wz
     have HPY:Hid (∀ wz,Calls Try.prog 155 #[.int i64 p1,.int i64 (-58982400),.int i64 58982400] wz fun e w'=>e=.returned (.int i64 py)/\wz=w'):=hid fun wz=>by rw [hpy];exact rnear_any _ _ _ wz
     have HBO:Hid (∀ wz,Calls Try.prog 155 #[.int i64 s3,.int i64 0,.int i64 65536] wz fun e w'=>e=.returned (.int i64 bou)/\wz=w'):=hid fun wz=>by rw [hbou];exact rnear_any _ _ _ wz
     have HRU:Hid (∀ wz,Calls Try.prog 155 #[.int i64 s4,.int i64 0,.int i64 65536] wz fun e w'=>e=.returned (.int i64 rub)/\wz=w'):=hid fun wz=>by rw [hrub];exact rnear_any _ _ _ wz
     have hwd1:=wiF_in (n:=s0) (lo:=4096) (hi:=1048576) (by decide)
     have hhd1:=wiF_in (n:=s1) (lo:=4096) (hi:=1048576) (by decide)
     rw [<- hwd] at hwd1
     rw [<- hhd] at hhd1
     have HB0:Hid (bo0 pm.vals sm.vals=⟨px,py,0,0,ang,0,0,0,bou,rub,false,0,wd,hd⟩):=hid (by
      unfold bo0
      rw [<- hp0,<- hp1,<- hp2,<- hs0,<- hs1,<- hs3,<- hs4,hang,hwd,hhd,hpx,hpy,hbou,hrub])
     have HSE:Hid (s2=atI sm.vals 2/\wd=wiF (atI sm.vals 0) 4096 1048576/\hd=wiF (atI sm.vals 1) 4096 1048576):=hid ⟨hs2,by rw [hwd,hs0],by rw [hhd,hs1]⟩
     have HPS:=hid (And.intro hp hs)
     clear hpat hsat hpB hsB hp hs hp0 hp1 hp2 hs0 hs1 hs2 hs3 hs4 hang htm hp2r hwd hhd hpx hpy hbou hrub HPV HSV
     have hwt:IntKind.i64.wrap (tm+65536)=tm+65536:=by rw [IntKind.wrap_i64];omega
     have c2:w1.cell? ⟨bp,op+2,none⟩=some (.int i64 p2):=(HS2.out w1 (Below.refl _ _)).2.2.1
     go_upto_if 39 with fail
     go_cut [9] from 40 to 41 (fun s9 wx=>s9=.int i64 ang/\wx=w1)
     case first =>
      by_cases ht:tm<0
      . rw [if_pos ht] at hta
        subst hta
        go_wp2_with fail
        go_meet
        case rel=>exact ⟨rfl,rfl⟩
      . rw [if_neg ht] at hta
        subst hta
        go_wp2_with fail
        go_meet
        case rel=>exact ⟨rfl,rfl⟩
     case rest =>
      obtain ⟨rfl,rfl⟩:=hcut
      clear hta hwt c2 htm2 htm1
      obtain ⟨w1,rfl⟩:∃ q,q=wc:=⟨_,rfl⟩
      go_upto_region 7 with fail
      have HB0':Hid (Below w1.heap.size w1 w1.drew):=hid (Below.refl _ _).drew
      have sZ:=HS2.out w1.drew HB0'.out
      refine wp_region_noPanic ?_
      refine wp_region_H (S:=fun wz=>wz.cell? ⟨bp,op,none⟩=some (.int i64 p0)/\wz.cell? ⟨bp,op+1,none⟩=some (.int i64 p1)/\wz.cell? ⟨bp,op+2,none⟩=some (.int i64 p2)/\wz.cell? ⟨bs,os,none⟩=some (.int i64 s0)/\wz.cell? ⟨bs,os+1,none⟩=some (.int i64 s1)/\wz.cell? ⟨bs,os+2,none⟩=some (.int i64 s2)/\wz.cell? ⟨bs,os+3,none⟩=some (.int i64 s3)/\wz.cell? ⟨bs,os+4,none⟩=some (.int i64 s4)) (by kernel_rfl) ?_
      refine wpH 0 (.slice (some ⟨bs,os,none⟩) 5 sc) 42 sZ ?_
      (try simp only [sP])
      refine wpH 1 (.pointer (some ⟨bs,os,none⟩)) 43 sZ ?_
      (try simp only [sP])
      refine wpH 2 (.int i64 s0) 44 sZ ?_
      (try simp only [sP])
      refine wpH 4 (.slice (some ⟨bs,os,none⟩) 5 sc) 46 sZ ?_
      (try simp only [sP])
      refine wpH 5 (.pointer (some ⟨bs,os+1,none⟩)) 47 sZ ?_
      (try simp only [sP])
      refine wpH 6 (.int i64 s1) 48 sZ ?_
      (try simp only [sP])
      refine wpAnyH_oneW (i:=3) rfl (by kernel_rfl) (by rfl) ?_
      go_simp
      go_at_call 155
      (with_reducible refine (HWD.out _).mono ?_)
      rintro e u ⟨rfl,rfl⟩
      refine And.intro sZ ?_
      (try simp only [sP])
      refine wpAnyH_oneW (i:=7) rfl (by kernel_rfl) (by rfl) ?_
      go_simp
      go_at_call 155
      (with_reducible refine (HHD.out _).mono ?_)
      rintro e u ⟨rfl,rfl⟩
      refine And.intro sZ ?_
      (try simp only [sP])
      refine wpH 8 (.int i64 wd) 10 sZ ?_
      (try simp only [sP])
      refine wpH 9 (.int i64 hd) 11 sZ ?_
      (try simp only [sP])
      refine wpAnyH_done (by kernel_rfl) ?_ _
      refine NoPanic.normal ?_
      obtain ⟨w8,hw8⟩:∃ z,z=w1.drew:=⟨_,rfl⟩
      rw [<- hw8] at HB0' sZ ⊢
      have HB8:=HB0'
      clear hw8 sZ HB0' HWD HHD
      go_upto_region 8 with fail
      go_cut [12] from 50 to 59 (fun s12 wx=>∃ hb:Nat,s12=.pointer (some ⟨hb,0,none⟩)/\Hid (w1.heap.size<=hb/\Below w1.heap.size w1 wx/\Bk wx hb 124 #[.int i64 0,.int i64 0,.int i64 0,.int i64 0,.int i64 ang,.int i64 0,.int i64 0,.int i64 0,.int i64 bou,.int i64 rub,.slice none 0 0,.bool false,.int i64 0]))
      case first =>
       have HBv19:Hid (Below w1.heap.size w1 w8.drew):=hid HB8.out.drew
       have sZ:=HS2.out w8.drew HBv19.out
       refine wp_region_noPanic ?_
       refine wp_region_H (S:=fun wz=>wz.cell? ⟨bp,op,none⟩=some (.int i64 p0)/\wz.cell? ⟨bp,op+1,none⟩=some (.int i64 p1)/\wz.cell? ⟨bp,op+2,none⟩=some (.int i64 p2)/\wz.cell? ⟨bs,os,none⟩=some (.int i64 s0)/\wz.cell? ⟨bs,os+1,none⟩=some (.int i64 s1)/\wz.cell? ⟨bs,os+2,none⟩=some (.int i64 s2)/\wz.cell? ⟨bs,os+3,none⟩=some (.int i64 s3)/\wz.cell? ⟨bs,os+4,none⟩=some (.int i64 s4)) (by kernel_rfl) ?_
       generalize w8.drew=v19 at *
       refine wpH 0 (.int i64 ang) 50 sZ ?_
       (try simp only [sP])
       refine wpH 1 (.slice (some ⟨bs,os,none⟩) 5 sc) 51 sZ ?_
       (try simp only [sP])
       refine wpH 2 (.pointer (some ⟨bs,os+3,none⟩)) 52 sZ ?_
       (try simp only [sP])
       refine wpH 3 (.int i64 s3) 53 sZ ?_
       (try simp only [sP])
       refine wpH 5 (.slice (some ⟨bs,os,none⟩) 5 sc) 55 sZ ?_
       (try simp only [sP])
       refine wpH 6 (.pointer (some ⟨bs,os+4,none⟩)) 56 sZ ?_
       (try simp only [sP])
       refine wpH 7 (.int i64 s4) 57 sZ ?_
       (try simp only [sP])
       refine wpAnyH_two (i:=4) (j:=10) rfl rfl (by kernel_rfl) (by rfl) (by rfl) ?_ ?_
       . go_simp
         go_at_call 155
         (with_reducible refine (HBO.out _).mono ?_)
         rintro e u20 ⟨rfl,rfl⟩
         refine And.intro (HS2.out _ HBv19.out) ?_
         (try simp only [sP])
         refine wpAnyH_two (i:=8) (j:=10) rfl rfl (by kernel_rfl) (by rfl) (by rfl) ?_ ?_
         . go_simp
           go_at_call 155
           (with_reducible refine (HRU.out _).mono ?_)
           rintro e u21 ⟨rfl,rfl⟩
           refine And.intro (HS2.out _ HBv19.out) ?_
           (try simp only [sP])
           refine wpH 9 (.agg #[.int i64 0,.int i64 0,.int i64 0,.int i64 0,.int i64 ang,.int i64 0,.int i64 0,.int i64 0,.int i64 bou,.int i64 rub,.slice none 0 0,.bool false,.int i64 0]) 59 (HS2.out _ HBv19.out) ?_
           (try simp only [sP])
           refine wpAnyH_oneW (i:=10) rfl (by kernel_rfl) (by rfl) ?_
           go_simp
           obtain ⟨hb,hhb⟩:∃ hb,hb=v19.heap.size:=⟨_,rfl⟩
           obtain ⟨v22,hv22⟩:∃ v,v=v19.alloc (.cells #[.int i64 0,.int i64 0,.int i64 0,.int i64 0,.int i64 0,.int i64 0,.int i64 0,.int i64 0,.int i64 0,.int i64 0,.slice none 0 0,.bool false,.int i64 0] 124):=⟨_,rfl⟩
           have HBv22:Hid (Below w1.heap.size w1 v22):=hid (by rw [hv22];exact HBv19.out.alloc HBv19.out.size _)
           have hkb:Bk v22 hb 124 #[.int i64 0,.int i64 0,.int i64 0,.int i64 0,.int i64 0,.int i64 0,.int i64 0,.int i64 0,.int i64 0,.int i64 0,.slice none 0 0,.bool false,.int i64 0]:=by rw [hv22,hhb];exact Bk.new _ _ _
           have hlb:w1.heap.size<=hb:=by rw [hhb];exact HBv19.out.size
           rw [<- hv22,<- hhb]
           clear hv22 hhb
           refine And.intro (HS2.out _ HBv22.out) ?_
           (try simp only [sP])
           have k0:v22.cell? ⟨hb,0,none⟩=some (.int i64 0):=hkb.cell 0
           have f0:v22.frozen? ⟨hb,0,none⟩=false:=hkb.frozen 0
           have k1:v22.cell? ⟨hb,1,none⟩=some (.int i64 0):=hkb.cell 1
           have f1:v22.frozen? ⟨hb,1,none⟩=false:=hkb.frozen 1
           have k2:v22.cell? ⟨hb,2,none⟩=some (.int i64 0):=hkb.cell 2
           have f2:v22.frozen? ⟨hb,2,none⟩=false:=hkb.frozen 2
           have k3:v22.cell? ⟨hb,3,none⟩=some (.int i64 0):=hkb.cell 3
           have f3:v22.frozen? ⟨hb,3,none⟩=false:=hkb.frozen 3
           have k4:v22.cell? ⟨hb,4,none⟩=some (.int i64 0):=hkb.cell 4
           have f4:v22.frozen? ⟨hb,4,none⟩=false:=hkb.frozen 4
           have k5:v22.cell? ⟨hb,5,none⟩=some (.int i64 0):=hkb.cell 5
           have f5:v22.frozen? ⟨hb,5,none⟩=false:=hkb.frozen 5
           have k6:v22.cell? ⟨hb,6,none⟩=some (.int i64 0):=hkb.cell 6
           have f6:v22.frozen? ⟨hb,6,none⟩=false:=hkb.frozen 6
           have k7:v22.cell? ⟨hb,7,none⟩=some (.int i64 0):=hkb.cell 7
           have f7:v22.frozen? ⟨hb,7,none⟩=false:=hkb.frozen 7
           have k8:v22.cell? ⟨hb,8,none⟩=some (.int i64 0):=hkb.cell 8
           have f8:v22.frozen? ⟨hb,8,none⟩=false:=hkb.frozen 8
           have k9:v22.cell? ⟨hb,9,none⟩=some (.int i64 0):=hkb.cell 9
           have f9:v22.frozen? ⟨hb,9,none⟩=false:=hkb.frozen 9
           have k10:v22.cell? ⟨hb,10,none⟩=some (.slice none 0 0):=hkb.cell 10
           have f10:v22.frozen? ⟨hb,10,none⟩=false:=hkb.frozen 10
           have k11:v22.cell? ⟨hb,11,none⟩=some (.bool false):=hkb.cell 11
           have f11:v22.frozen? ⟨hb,11,none⟩=false:=hkb.frozen 11
           have k12:v22.cell? ⟨hb,12,none⟩=some (.int i64 0):=hkb.cell 12
           have f12:v22.frozen? ⟨hb,12,none⟩=false:=hkb.frozen 12
           refine wpAnyH_oneW (i:=11) rfl (by kernel_rfl) (by rfl) ?_
           go_simp
           have HBL:Hid (Below w1.heap.size w1 (set13 v22 hb (.int i64 0) (.int i64 0) (.int i64 0) (.int i64 0) (.int i64 ang) (.int i64 0) (.int i64 0) (.int i64 0) (.int i64 bou) (.int i64 rub) (.slice none 0 0) (.bool false) (.int i64 0))):=hid (set13_below HBv22.out hlb)
           refine And.intro (HS2.out _ HBL.out) ?_
           (try simp only [sP])
           refine wpAnyH_done (by kernel_rfl) ?_ _
           refine NoPanic.normal ?_
           have HKB:Hid (Bk (set13 v22 hb (.int i64 0) (.int i64 0) (.int i64 0) (.int i64 0) (.int i64 ang) (.int i64 0) (.int i64 0) (.int i64 0) (.int i64 bou) (.int i64 rub) (.slice none 0 0) (.bool false) (.int i64 0)) hb 124 #[.int i64 0,.int i64 0,.int i64 0,.int i64 0,.int i64 ang,.int i64 0,.int i64 0,.int i64 0,.int i64 bou,.int i64 rub,.slice none 0 0,.bool false,.int i64 0]):=hid (set13_bk hkb)
           go_wp2_with fail
           go_meet
           case rel=>exact ⟨hb,rfl,hid ⟨hlb,HBL.out,HKB.out⟩⟩
         . go_simp
           obtain ⟨hb,hhb⟩:∃ hb,hb=v19.heap.size:=⟨_,rfl⟩
           obtain ⟨v21,hv21⟩:∃ v,v=v19.alloc (.cells #[.int i64 0,.int i64 0,.int i64 0,.int i64 0,.int i64 0,.int i64 0,.int i64 0,.int i64 0,.int i64 0,.int i64 0,.slice none 0 0,.bool false,.int i64 0] 124):=⟨_,rfl⟩
           have HBv21:Hid (Below w1.heap.size w1 v21):=hid (by rw [hv21];exact HBv19.out.alloc HBv19.out.size _)
           have hkb:Bk v21 hb 124 #[.int i64 0,.int i64 0,.int i64 0,.int i64 0,.int i64 0,.int i64 0,.int i64 0,.int i64 0,.int i64 0,.int i64 0,.slice none 0 0,.bool false,.int i64 0]:=by rw [hv21,hhb];exact Bk.new _ _ _
           have hlb:w1.heap.size<=hb:=by rw [hhb];exact HBv19.out.size
           rw [<- hv21,<- hhb]
           clear hv21 hhb
           refine And.intro (HS2.out _ HBv21.out) ?_
           (try simp only [sP])
           refine wpAnyH_oneW (i:=8) rfl (by kernel_rfl) (by rfl) ?_
           go_simp
           go_at_call 155
           (with_reducible refine (HRU.out _).mono ?_)
           rintro e u22 ⟨rfl,rfl⟩
           refine And.intro (HS2.out _ HBv21.out) ?_
           (try simp only [sP])
           refine wpH 9 (.agg #[.int i64 0,.int i64 0,.int i64 0,.int i64 0,.int i64 ang,.int i64 0,.int i64 0,.int i64 0,.int i64 bou,.int i64 rub,.slice none 0 0,.bool false,.int i64 0]) 59 (HS2.out _ HBv21.out) ?_
           (try simp only [sP])
           have k0:v21.cell? ⟨hb,0,none⟩=some (.int i64 0):=hkb.cell 0
           have f0:v21.frozen? ⟨hb,0,none⟩=false:=hkb.frozen 0
           have k1:v21.cell? ⟨hb,1,none⟩=some (.int i64 0):=hkb.cell 1
           have f1:v21.frozen? ⟨hb,1,none⟩=false:=hkb.frozen 1
           have k2:v21.cell? ⟨hb,2,none⟩=some (.int i64 0):=hkb.cell 2
           have f2:v21.frozen? ⟨hb,2,none⟩=false:=hkb.frozen 2
           have k3:v21.cell? ⟨hb,3,none⟩=some (.int i64 0):=hkb.cell 3
           have f3:v21.frozen? ⟨hb,3,none⟩=false:=hkb.frozen 3
           have k4:v21.cell? ⟨hb,4,none⟩=some (.int i64 0):=hkb.cell 4
           have f4:v21.frozen? ⟨hb,4,none⟩=false:=hkb.frozen 4
           have k5:v21.cell? ⟨hb,5,none⟩=some (.int i64 0):=hkb.cell 5
           have f5:v21.frozen? ⟨hb,5,none⟩=false:=hkb.frozen 5
           have k6:v21.cell? ⟨hb,6,none⟩=some (.int i64 0):=hkb.cell 6
           have f6:v21.frozen? ⟨hb,6,none⟩=false:=hkb.frozen 6
           have k7:v21.cell? ⟨hb,7,none⟩=some (.int i64 0):=hkb.cell 7
           have f7:v21.frozen? ⟨hb,7,none⟩=false:=hkb.frozen 7
           have k8:v21.cell? ⟨hb,8,none⟩=some (.int i64 0):=hkb.cell 8
           have f8:v21.frozen? ⟨hb,8,none⟩=false:=hkb.frozen 8
           have k9:v21.cell? ⟨hb,9,none⟩=some (.int i64 0):=hkb.cell 9
           have f9:v21.frozen? ⟨hb,9,none⟩=false:=hkb.frozen 9
           have k10:v21.cell? ⟨hb,10,none⟩=some (.slice none 0 0):=hkb.cell 10
           have f10:v21.frozen? ⟨hb,10,none⟩=false:=hkb.frozen 10
           have k11:v21.cell? ⟨hb,11,none⟩=some (.bool false):=hkb.cell 11
           have f11:v21.frozen? ⟨hb,11,none⟩=false:=hkb.frozen 11
           have k12:v21.cell? ⟨hb,12,none⟩=some (.int i64 0):=hkb.cell 12
           have f12:v21.frozen? ⟨hb,12,none⟩=false:=hkb.frozen 12
           refine wpAnyH_oneW (i:=11) rfl (by kernel_rfl) (by rfl) ?_
           go_simp
           have HBL:Hid (Below w1.heap.size w1 (set13 v21 hb (.int i64 0) (.int i64 0) (.int i64 0) (.int i64 0) (.int i64 ang) (.int i64 0) (.int i64 0) (.int i64 0) (.int i64 bou) (.int i64 rub) (.slice none 0 0) (.bool false) (.int i64 0))):=hid (set13_below HBv21.out hlb)
           refine And.intro (HS2.out _ HBL.out) ?_
           (try simp only [sP])
           refine wpAnyH_done (by kernel_rfl) ?_ _
           refine NoPanic.normal ?_
           have HKB:Hid (Bk (set13 v21 hb (.int i64 0) (.int i64 0) (.int i64 0) (.int i64 0) (.int i64 ang) (.int i64 0) (.int i64 0) (.int i64 0) (.int i64 bou) (.int i64 rub) (.slice none 0 0) (.bool false) (.int i64 0)) hb 124 #[.int i64 0,.int i64 0,.int i64 0,.int i64 0,.int i64 ang,.int i64 0,.int i64 0,.int i64 0,.int i64 bou,.int i64 rub,.slice none 0 0,.bool false,.int i64 0]):=hid (set13_bk hkb)
           go_wp2_with fail
           go_meet
           case rel=>exact ⟨hb,rfl,hid ⟨hlb,HBL.out,HKB.out⟩⟩
       . go_simp
         obtain ⟨hb,hhb⟩:∃ hb,hb=v19.heap.size:=⟨_,rfl⟩
         obtain ⟨v20,hv20⟩:∃ v,v=v19.alloc (.cells #[.int i64 0,.int i64 0,.int i64 0,.int i64 0,.int i64 0,.int i64 0,.int i64 0,.int i64 0,.int i64 0,.int i64 0,.slice none 0 0,.bool false,.int i64 0] 124):=⟨_,rfl⟩
         have HBv20:Hid (Below w1.heap.size w1 v20):=hid (by rw [hv20];exact HBv19.out.alloc HBv19.out.size _)
         have hkb:Bk v20 hb 124 #[.int i64 0,.int i64 0,.int i64 0,.int i64 0,.int i64 0,.int i64 0,.int i64 0,.int i64 0,.int i64 0,.int i64 0,.slice none 0 0,.bool false,.int i64 0]:=by rw [hv20,hhb];exact Bk.new _ _ _
         have hlb:w1.heap.size<=hb:=by rw [hhb];exact HBv19.out.size
         rw [<- hv20,<- hhb]
         clear hv20 hhb
         refine And.intro (HS2.out _ HBv20.out) ?_
         (try simp only [sP])
         refine wpAnyH_oneW (i:=4) rfl (by kernel_rfl) (by rfl) ?_
         go_simp
         go_at_call 155
         (with_reducible refine (HBO.out _).mono ?_)
         rintro e u21 ⟨rfl,rfl⟩
         refine And.intro (HS2.out _ HBv20.out) ?_
         (try simp only [sP])
         refine wpAnyH_oneW (i:=8) rfl (by kernel_rfl) (by rfl) ?_
         go_simp
         go_at_call 155
         (with_reducible refine (HRU.out _).mono ?_)
         rintro e u22 ⟨rfl,rfl⟩
         refine And.intro (HS2.out _ HBv20.out) ?_
         (try simp only [sP])
         refine wpH 9 (.agg #[.int i64 0,.int i64 0,.int i64 0,.int i64 0,.int i64 ang,.int i64 0,.int i64 0,.int i64 0,.int i64 bou,.int i64 rub,.slice none 0 0,.bool false,.int i64 0]) 59 (HS2.out _ HBv20.out) ?_
         (try simp only [sP])
         have k0:v20.cell? ⟨hb,0,none⟩=some (.int i64 0):=hkb.cell 0
         have f0:v20.frozen? ⟨hb,0,none⟩=false:=hkb.frozen 0
         have k1:v20.cell? ⟨hb,1,none⟩=some (.int i64 0):=hkb.cell 1
         have f1:v20.frozen? ⟨hb,1,none⟩=false:=hkb.frozen 1
         have k2:v20.cell? ⟨hb,2,none⟩=some (.int i64 0):=hkb.cell 2
         have f2:v20.frozen? ⟨hb,2,none⟩=false:=hkb.frozen 2
         have k3:v20.cell? ⟨hb,3,none⟩=some (.int i64 0):=hkb.cell 3
         have f3:v20.frozen? ⟨hb,3,none⟩=false:=hkb.frozen 3
         have k4:v20.cell? ⟨hb,4,none⟩=some (.int i64 0):=hkb.cell 4
         have f4:v20.frozen? ⟨hb,4,none⟩=false:=hkb.frozen 4
         have k5:v20.cell? ⟨hb,5,none⟩=some (.int i64 0):=hkb.cell 5
         have f5:v20.frozen? ⟨hb,5,none⟩=false:=hkb.frozen 5
         have k6:v20.cell? ⟨hb,6,none⟩=some (.int i64 0):=hkb.cell 6
         have f6:v20.frozen? ⟨hb,6,none⟩=false:=hkb.frozen 6
         have k7:v20.cell? ⟨hb,7,none⟩=some (.int i64 0):=hkb.cell 7
         have f7:v20.frozen? ⟨hb,7,none⟩=false:=hkb.frozen 7
         have k8:v20.cell? ⟨hb,8,none⟩=some (.int i64 0):=hkb.cell 8
         have f8:v20.frozen? ⟨hb,8,none⟩=false:=hkb.frozen 8
         have k9:v20.cell? ⟨hb,9,none⟩=some (.int i64 0):=hkb.cell 9
         have f9:v20.frozen? ⟨hb,9,none⟩=false:=hkb.frozen 9
         have k10:v20.cell? ⟨hb,10,none⟩=some (.slice none 0 0):=hkb.cell 10
         have f10:v20.frozen? ⟨hb,10,none⟩=false:=hkb.frozen 10
         have k11:v20.cell? ⟨hb,11,none⟩=some (.bool false):=hkb.cell 11
         have f11:v20.frozen? ⟨hb,11,none⟩=false:=hkb.frozen 11
         have k12:v20.cell? ⟨hb,12,none⟩=some (.int i64 0):=hkb.cell 12
         have f12:v20.frozen? ⟨hb,12,none⟩=false:=hkb.frozen 12
         refine wpAnyH_oneW (i:=11) rfl (by kernel_rfl) (by rfl) ?_
         go_simp
         have HBL:Hid (Below w1.heap.size w1 (set13 v20 hb (.int i64 0) (.int i64 0) (.int i64 0) (.int i64 0) (.int i64 ang) (.int i64 0) (.int i64 0) (.int i64 0) (.int i64 bou) (.int i64 rub) (.slice none 0 0) (.bool false) (.int i64 0))):=hid (set13_below HBv20.out hlb)
         refine And.intro (HS2.out _ HBL.out) ?_
         (try simp only [sP])
         refine wpAnyH_done (by kernel_rfl) ?_ _
         refine NoPanic.normal ?_
         have HKB:Hid (Bk (set13 v20 hb (.int i64 0) (.int i64 0) (.int i64 0) (.int i64 0) (.int i64 ang) (.int i64 0) (.int i64 0) (.int i64 0) (.int i64 bou) (.int i64 rub) (.slice none 0 0) (.bool false) (.int i64 0)) hb 124 #[.int i64 0,.int i64 0,.int i64 0,.int i64 0,.int i64 ang,.int i64 0,.int i64 0,.int i64 0,.int i64 bou,.int i64 rub,.slice none 0 0,.bool false,.int i64 0]):=hid (set13_bk hkb)
         go_wp2_with fail
         go_meet
         case rel=>exact ⟨hb,rfl,hid ⟨hlb,HBL.out,HKB.out⟩⟩
      case rest =>
       obtain ⟨hb,rfl,HD⟩:=hcut
       obtain ⟨w9,rfl⟩:∃ q,q=wc:=⟨_,rfl⟩
       obtain ⟨hlb,hb9,hk9⟩:=HD.out
       clear HBO HRU HB8 HD
       go_upto_region 9 with fail
       have HBz:Hid (Below w1.heap.size w1 w9.drew):=hid hb9.drew
       have sZ:=HS2.out w9.drew HBz.out
       have hkz:Bk w9.drew hb 124 #[.int i64 0,.int i64 0,.int i64 0,.int i64 0,.int i64 ang,.int i64 0,.int i64 0,.int i64 0,.int i64 bou,.int i64 rub,.slice none 0 0,.bool false,.int i64 0]:=hk9.drew
       refine wp_region_noPanic ?_
       refine wp_region_H (S:=fun wz=>wz.cell? ⟨bp,op,none⟩=some (.int i64 p0)/\wz.cell? ⟨bp,op+1,none⟩=some (.int i64 p1)/\wz.cell? ⟨bp,op+2,none⟩=some (.int i64 p2)/\wz.cell? ⟨bs,os,none⟩=some (.int i64 s0)/\wz.cell? ⟨bs,os+1,none⟩=some (.int i64 s1)/\wz.cell? ⟨bs,os+2,none⟩=some (.int i64 s2)/\wz.cell? ⟨bs,os+3,none⟩=some (.int i64 s3)/\wz.cell? ⟨bs,os+4,none⟩=some (.int i64 s4)) (by kernel_rfl) ?_
       generalize w9.drew=wv at *
       have HBa:Hid (Below w1.heap.size w1 (wv.setCell ⟨hb,0,none⟩ (.int i64 px))):=hid (HBz.out.setCell (p:=⟨hb,0,none⟩) hlb _)
       have HBb:Hid (Below w1.heap.size w1 ((wv.setCell ⟨hb,0,none⟩ (.int i64 px)).setCell ⟨hb,1,none⟩ (.int i64 py))):=hid (HBa.out.setCell (p:=⟨hb,1,none⟩) hlb _)
       have k0:wv.cell? ⟨hb,0,none⟩=some (.int i64 0):=hkz.cell 0
       have f0:wv.frozen? ⟨hb,0,none⟩=false:=hkz.frozen 0
       have k1:wv.cell? ⟨hb,1,none⟩=some (.int i64 0):=hkz.cell 1
       have f1:wv.frozen? ⟨hb,1,none⟩=false:=hkz.frozen 1
       refine wpH 0 (.slice (some ⟨bp,op,none⟩) 3 pc) 60 sZ ?_
       (try simp only [sP])
       refine wpH 1 (.pointer (some ⟨bp,op,none⟩)) 61 sZ ?_
       (try simp only [sP])
       refine wpH 2 (.int i64 p0) 62 sZ ?_
       (try simp only [sP])
       refine wpH 4 (.slice (some ⟨bp,op,none⟩) 3 pc) 64 sZ ?_
       (try simp only [sP])
       refine wpH 5 (.pointer (some ⟨bp,op+1,none⟩)) 65 sZ ?_
       (try simp only [sP])
       refine wpH 6 (.int i64 p1) 66 sZ ?_
       (try simp only [sP])
       refine wpAnyH_oneW (i:=3) rfl (by kernel_rfl) (by rfl) ?_
       go_simp
       go_at_call 155
       (with_reducible refine (HPX.out _).mono ?_)
       rintro e u ⟨rfl,rfl⟩
       refine And.intro sZ ?_
       (try simp only [sP])
       refine wpH 8 (.pointer (some ⟨hb,0,none⟩)) 68 sZ ?_
       (try simp only [sP])
       refine wpH 9 (.pointer (some ⟨hb,0,none⟩)) 69 sZ ?_
       (try simp only [sP])
       refine wpAnyH_oneW (i:=7) rfl (by kernel_rfl) (by rfl) ?_
       go_simp
       go_at_call 155
       (with_reducible refine (HPY.out _).mono ?_)
       rintro e u ⟨rfl,rfl⟩
       refine And.intro sZ ?_
       (try simp only [sP])
       refine wpAnyH_oneW (i:=10) rfl (by kernel_rfl) (by rfl) ?_
       go_simp
       refine And.intro (by first | exact HS2.out _ HBa.out | (obtain ⟨h0,h1,h2,h3,h4,h5,h6,h7⟩:=HS2.out _ HBa.out;and_intros <;> assumption)) ?_
       (try simp only [sP])
       refine wpH 11 (.pointer (some ⟨hb,0,none⟩)) 70 (HS2.out _ HBa.out) ?_
       (try simp only [sP])
       refine wpH 12 (.pointer (some ⟨hb,1,none⟩)) 71 (HS2.out _ HBa.out) ?_
       (try simp only [sP])
       refine wpAnyH_oneW (i:=13) rfl (by kernel_rfl) (by rfl) ?_
       go_simp
       refine And.intro (by first | exact HS2.out _ HBb.out | (obtain ⟨h0,h1,h2,h3,h4,h5,h6,h7⟩:=HS2.out _ HBb.out;and_intros <;> assumption)) ?_
       (try simp only [sP])
       refine wpAnyH_done (by kernel_rfl) ?_ _
       refine NoPanic.normal ?_
       obtain ⟨w10,hw10⟩:∃ z,z=(wv.setCell ⟨hb,0,none⟩ (.int i64 px)).setCell ⟨hb,1,none⟩ (.int i64 py):=⟨_,rfl⟩
       have HD10:Hid (Below w1.heap.size w1 w10/\Bk w10 hb 124 #[.int i64 px,.int i64 py,.int i64 0,.int i64 0,.int i64 ang,.int i64 0,.int i64 0,.int i64 0,.int i64 bou,.int i64 rub,.slice none 0 0,.bool false,.int i64 0]):=hid (by
        rw [hw10]
        exact ⟨HBb.out,by simpa using (hkz.set_ 0 (.int i64 px)).set_ 1 (.int i64 py)⟩)
       rw [<- hw10]
       clear hw10 HBa HBb HBz hkz sZ k0 f0 k1 f1 HPX HPY hb9 hk9
       obtain ⟨gS,hgS⟩:∃ z,z=w10.heap.size:=⟨_,rfl⟩
       obtain ⟨w11,hw11⟩:∃ z,z=w10.alloc (.cells #[.int i64 (-1),.int i64 (-1),.int i64 1,.int i64 (-1),.int i64 1,.int i64 1,.int i64 (-1),.int i64 1] 311):=⟨_,rfl⟩
       have HD11:Hid (Below w1.heap.size w1 w11/\Bk w11 hb 124 #[.int i64 px,.int i64 py,.int i64 0,.int i64 0,.int i64 ang,.int i64 0,.int i64 0,.int i64 0,.int i64 bou,.int i64 rub,.slice none 0 0,.bool false,.int i64 0]/\Bk w11 gS 311 #[.int i64 (-1),.int i64 (-1),.int i64 1,.int i64 (-1),.int i64 1,.int i64 1,.int i64 (-1),.int i64 1]):=hid (by
        rw [hw11,hgS]
        exact ⟨HD10.out.1.alloc HD10.out.1.size _,HD10.out.2.alloc _,Bk.new _ _ _⟩)
       have HGB:Hid (gS≠hb):=hid (by have:=HD10.out.2.lt;omega)
       go_wp2_with fail
       rw [<- hgS,<- hw11]
       clear hw11 hgS HD10
       go_loopw [78] (fun kv wx=>∃ (k:Nat) (CA:Option Addr) (cc:Nat),k<=4/\kv=.int i64 k/\Hid (Below w1.heap.size w1 wx/\Bk wx hb 124 #[.int i64 px,.int i64 py,.int i64 0,.int i64 0,.int i64 ang,.int i64 0,.int i64 0,.int i64 0,.int i64 bou,.int i64 rub,.slice CA k cc,.bool false,.int i64 0]/\Bk wx gS 311 #[.int i64 (-1),.int i64 (-1),.int i64 1,.int i64 (-1),.int i64 1,.int i64 1,.int i64 (-1),.int i64 1]/\wx.ownsRow w1.heap.size 105 2 (.slice CA k cc) k ((crK wd hd k).map (Value.int .i64)))) (fun kv _=>4-(intOf kv).toNat)
       case atStart=>exact ⟨0,none,0,by omega,rfl,hid ⟨HD11.out.1,HD11.out.2.1,HD11.out.2.2,by simpa [crK] using World.ownsRow_nil _ _ _ _⟩⟩
       case round =>
        clear HD11
        obtain ⟨k,CA,cc,hk,rfl,HL⟩:=hrel
        obtain ⟨hbl,hkl,hgl,hol⟩:=HL.out
        by_cases hlt:k<4
        . have hkz:(k:Int)<4:=by omega
          have hkz0:(0:Int)<=k:=by omega
          obtain ⟨X,hX⟩:∃ z,z=sgX k:=⟨_,rfl⟩
          obtain ⟨Y,hY⟩:∃ z,z=sgY k:=⟨_,rfl⟩
          have hXc:wr.cell? ⟨gS,k*2,none⟩=some (.int i64 X)/\wr.cell? ⟨gS,k*2+1,none⟩=some (.int i64 Y):=by
           rw [hX,hY]
           rcases (by omega:k=0\/k=1\/k=2\/k=3) with rfl | rfl | rfl | rfl
           . exact ⟨hgl.cell 0,hgl.cell 1⟩
           . exact ⟨hgl.cell 2,hgl.cell 3⟩
           . exact ⟨hgl.cell 4,hgl.cell 5⟩
           . exact ⟨hgl.cell 6,hgl.cell 7⟩
          obtain ⟨q0,q1⟩:=hXc
          have hX1:X = -1\/X=1:=by rw [hX];unfold sgX;split <;> simp
          have hY1:Y = -1\/Y=1:=by rw [hY];unfold sgY;split <;> simp
          have hxw:IntKind.i64.wrap (X*wd)=X*wd:=by rcases hX1 with e | e <;> (rw [e,IntKind.wrap_i64];omega)
          have hyw:IntKind.i64.wrap (Y*hd)=Y*hd:=by rcases hY1 with e | e <;> (rw [e,IntKind.wrap_i64];omega)
          obtain ⟨wa,hwa⟩:∃ z,z=wr.alloc (.cells #[.int i64 X,.int i64 Y] 311):=⟨_,rfl⟩
          obtain ⟨ga,hga⟩:∃ z,z=wr.heap.size:=⟨_,rfl⟩
          have HA:Hid (Below w1.heap.size w1 wa/\Bk wa hb 124 #[.int i64 px,.int i64 py,.int i64 0,.int i64 0,.int i64 ang,.int i64 0,.int i64 0,.int i64 0,.int i64 bou,.int i64 rub,.slice CA k cc,.bool false,.int i64 0]/\Bk wa gS 311 #[.int i64 (-1),.int i64 (-1),.int i64 1,.int i64 (-1),.int i64 1,.int i64 1,.int i64 (-1),.int i64 1]/\wa.ownsRow w1.heap.size 105 2 (.slice CA k cc) k ((crK wd hd k).map (Value.int .i64))/\Bk wa ga 311 #[.int i64 X,.int i64 Y]):=hid (by
           rw [hwa,hga]
           exact ⟨hbl.alloc hbl.size _,hkl.alloc _,hgl.alloc _,hol.alloc _,Bk.new _ _ _⟩)
          have HCR:Hid (crK wd hd (k+1)=crK wd hd k++[X*wd,Y*hd]):=hid (by rw [hX,hY];exact crK_succ wd hd hlt)
          clear hX hY hX1 hY1 hbl hkl hgl hol HL
          go_upto_region 13 with fail
          rw [<- hwa,<- hga]
          clear hwa hga q0 q1
          obtain ⟨xw,hxwe⟩:∃ z,z=X*wd:=⟨_,rfl⟩
          obtain ⟨yh,hyhe⟩:∃ z,z=Y*hd:=⟨_,rfl⟩
          rw [<- hxwe] at hxw HCR
          rw [<- hyhe] at hyw HCR
          have hmx:X*wd=xw:=hxwe.symm
          have hmy:Y*hd=yh:=hyhe.symm
          clear hxwe hyhe
          have g0:wa.cell? ⟨ga,0,none⟩=some (.int i64 X):=HA.out.2.2.2.2.cell 0
          have g1:wa.cell? ⟨ga,1,none⟩=some (.int i64 Y):=HA.out.2.2.2.2.cell 1
          have k10:wa.cell? ⟨hb,10,none⟩=some (.slice CA k cc):=HA.out.2.1.cell 10
          have hs1:w1.heap.size<=wa.heap.size:=HA.out.1.size
          go_wp2_with
           (at_builtin
            go_must (refine wpList_append_one _ rfl (.tmp 83) (.tmp 93) 122 rfl w1.heap.size 105 i105 (.agg #[.int i64 0,.int i64 0]) 2 16 Try.underlying122 hi105 hy0 hy1 hy2 rfl (by decide) (.slice CA k cc) k ((crK wd hd k).map (Value.int .i64)) rfl (HA.out.2.2.2.1.alloc _) wa.heap.size 1 105 #[.int i64 xw,.int i64 yh] rfl (Bk.new wa _ _) rfl ?c1 (k+1) rfl ?c2 ?c3 ?c4 ?_)
            case c1=>simp [Value.oneCell']
            case c2=>unfold maxLen;omega
            case c3=>omega
            case c4=>(simp;omega)
            intro g8 c8 w8' hown8 hg8 hat8
            have hk2:Kx 0 [105] wa w8':=((Kx.refl (B:=0)).alloc _).grown (HA.out.2.2.2.1.alloc _) hg8 (Nat.zero_le _) (by simp)
            have hkb8:=hk2.bk HA.out.2.1 (by decide)
            have HG8:Hid (Bk w8' gS 311 #[.int i64 (-1),.int i64 (-1),.int i64 1,.int i64 (-1),.int i64 1,.int i64 1,.int i64 (-1),.int i64 1]):=hid (hk2.bk HA.out.2.2.1 (by decide))
            have HB8:Hid (Below w1.heap.size w1 w8'):=hid (HA.out.1.trans (((Below.refl _ _).alloc hs1 _).trans ⟨hg8.os,hg8.tape,hg8.output,hg8.size,fun q hq=>hg8.block q (by simp;omega) (fun e=>by have:=(HA.out.2.2.2.1.lt q e.symm).1;omega)⟩))
            have HK8:=hid hkb8
            have HO8:Hid (w8'.ownsRow w1.heap.size 105 2 (.slice (some ⟨g8,0,none⟩) (k+1) c8) (k+1) ((crK wd hd (k+1)).map (Value.int .i64))):=hid (by
             rw [HCR.out,List.map_append]
             exact hown8)
            have j10:w8'.cell? ⟨hb,10,none⟩=some (.slice CA k cc):=hkb8.cell 10
            have l10:w8'.frozen? ⟨hb,10,none⟩=false:=hkb8.frozen 10
            clear hown8 hg8 hat8 hk2 hkb8 g0 g1 k10)
          have HN:Hid (Below w1.heap.size w1 (w8'.setCell ⟨hb,10,none⟩ (.slice (some ⟨g8,0,none⟩) (k+1) c8))/\Bk (w8'.setCell ⟨hb,10,none⟩ (.slice (some ⟨g8,0,none⟩) (k+1) c8)) hb 124 #[.int i64 px,.int i64 py,.int i64 0,.int i64 0,.int i64 ang,.int i64 0,.int i64 0,.int i64 0,.int i64 bou,.int i64 rub,.slice (some ⟨g8,0,none⟩) (k+1) c8,.bool false,.int i64 0]/\Bk (w8'.setCell ⟨hb,10,none⟩ (.slice (some ⟨g8,0,none⟩) (k+1) c8)) gS 311 #[.int i64 (-1),.int i64 (-1),.int i64 1,.int i64 (-1),.int i64 1,.int i64 1,.int i64 (-1),.int i64 1]/\(w8'.setCell ⟨hb,10,none⟩ (.slice (some ⟨g8,0,none⟩) (k+1) c8)).ownsRow w1.heap.size 105 2 (.slice (some ⟨g8,0,none⟩) (k+1) c8) (k+1) ((crK wd hd (k+1)).map (Value.int .i64))):=hid
           ⟨HB8.out.setCell (p:=⟨hb,10,none⟩) hlb _,by simpa using HK8.out.set_ 10 (.slice (some ⟨g8,0,none⟩) (k+1) c8),HG8.out.far (p:=⟨hb,10,none⟩) HGB.out _,((Kx.refl (B:=0) (F:=[124])).set HK8.out (Nat.zero_le _) (by simp) 10 _).own HO8.out (by decide)⟩
          clear HB8 HK8 HG8 HO8 j10 l10 HA HCR
          go_roundw
          case measure=>simp [intOf];omega
          case rel=>exact ⟨k+1,some ⟨g8,0,none⟩,c8,by omega,by go_num,HN⟩
        . obtain rfl:k=4:=by omega
          obtain ⟨gc,cap,hv4,hg4,hl4⟩:=hol.form (by omega)
          have hCA:CA=some ⟨gc,0,none⟩:=by injection hv4
          subst hCA
          have HOL:=hid hol
          have HBL:=hid hbl
          have HKL:=hid hkl
          have HR1:Hid (∀ wz,Below w1.heap.size w1 wz->Bk wz (a0+1+1) 124 BoZ):=hid fun wz hz=>by
           have h9:=H24.out w1 HBw1.out
           exact h9.below hz h9.lt
          have HSS:Hid (∀ wz,Below w1.heap.size w1 wz->wz.cell? ⟨bs,os+2,none⟩=some (.int i64 s2)):=hid fun wz hz=>(HS2.out wz hz).2.2.2.2.2.1
          have HVM:Hid (∃ b,bodyF m0 m1 m2 l=some b/\b.w=wd/\b.h=hd/\match (cmAt l m1).map Cm.vals with
           | none=>VV=.slice none 0 0/\b=bo0 pm.vals sm.vals
           | some v=>(∃ bv ov vc,VV=.slice (some ⟨bv,ov,none⟩) 4 vc/\4<=vc/\vc<=9223372036854775807/\∀ wz,Below w1.heap.size w1 wz->∀ j,j<4->wz.cell? ⟨bv,ov+j,none⟩=some (.int i64 (atI v j)))/\(-8589934592<=atI v 3/\atI v 3<=8589934592)/\b=if atI sm.vals 2<1 then bo0 pm.vals sm.vals else bo1 pm.vals sm.vals v):=hid (by
           cases hv:cmAt l m1 with
           | none =>
             refine ⟨bo0 pm.vals sm.vals,by unfold bodyF;rw [HPS.out.1,HPS.out.2,hv],by rw [HB0.out],by rw [HB0.out],?_,rfl⟩
             have h9:=HVV.out
             rw [hv] at h9
             exact h9
           | some vm =>
             have h9:=HVV.out
             rw [hv] at h9
             obtain ⟨bv,ov,vc,e1,e2,e3,e4,e5⟩:=h9.at_ (HLEN.out m1 vm hv) (HVO.out.2.1.len vm hv) (by omega)
             refine ⟨if atI sm.vals 2<1 then bo0 pm.vals sm.vals else bo1 pm.vals sm.vals vm.vals,?_,?_,?_,⟨bv,ov,vc,e1,e3,e4,fun wz hz j hj=>(World.cell?_of_block (w:=w1) (hz.block bv e2)).trans (e5 j hj)⟩,HVO.out.2.1.rng vm hv _ (atI_mem (by have:=HVO.out.2.1.len vm hv;omega)),rfl⟩
             . unfold bodyF
               rw [HPS.out.1,HPS.out.2,hv]
               dsimp only
               split <;> rfl
             . split
               . rw [HB0.out]
               . unfold bo1;rw [HB0.out]
             . split
               . rw [HB0.out]
               . unfold bo1;rw [HB0.out])
          clear hol hbl hkl HL hv4 hg4 hl4
          obtain ⟨b,hbF,hbw,hbh,hbm⟩:=HVM.out
          have HBF:=hid (And.intro hbF (And.intro hbw hbh))
          clear hbF hbw hbh HVM
          go_upto_if 79 with fail
          first
           | (go_step;refine rbTail_any HBL.out hlb HKL.out HR1 HSS hsc hsc2 HB0.out HSE.out.1 HSE.out.2.1 HSE.out.2.2 hbm ?_)
           | (go_step;go_step;refine rbTail_any HBL.out hlb HKL.out HR1 HSS hsc hsc2 HB0.out HSE.out.1 HSE.out.2.1 HSE.out.2.2 hbm ?_)
           | (go_step;go_step;go_step;refine rbTail_any HBL.out hlb HKL.out HR1 HSS hsc hsc2 HB0.out HSE.out.1 HSE.out.2.1 HSE.out.2.2 hbm ?_)
           | (go_step;go_step;go_step;go_step;refine rbTail_any HBL.out hlb HKL.out HR1 HSS hsc hsc2 HB0.out HSE.out.1 HSE.out.2.1 HSE.out.2.2 hbm ?_)
           | (go_step;go_step;go_step;go_step;go_step;refine rbTail_any HBL.out hlb HKL.out HR1 HSS hsc hsc2 HB0.out HSE.out.1 HSE.out.2.1 HSE.out.2.2 hbm ?_)
           | (go_step;go_step;go_step;go_step;go_step;go_step;refine rbTail_any HBL.out hlb HKL.out HR1 HSS hsc hsc2 HB0.out HSE.out.1 HSE.out.2.1 HSE.out.2.2 hbm ?_)
           | (go_step;go_step;go_step;go_step;go_step;go_step;go_step;refine rbTail_any HBL.out hlb HKL.out HR1 HSS hsc hsc2 HB0.out HSE.out.1 HSE.out.2.1 HSE.out.2.2 hbm ?_)
           | (go_step;go_step;go_step;go_step;go_step;go_step;go_step;go_step;refine rbTail_any HBL.out hlb HKL.out HR1 HSS hsc hsc2 HB0.out HSE.out.1 HSE.out.2.1 HSE.out.2.2 hbm ?_)
          intros
          rename_i wz HZ
          have HFIN:Hid (BoP w (bodyF m0 m1 m2 l) (.returned (.tuple #[.agg (b.v gc cc),.bool true])) (set13 wz (a0+1+1) (.int i64 b.px) (.int i64 b.py) (.int i64 b.vx) (.int i64 b.vy) (.int i64 b.ang) (.int i64 b.spin) (.int i64 b.mass) (.int i64 b.inr) (.int i64 b.bou) (.int i64 b.rub) (.slice (some ⟨gc,0,none⟩) 4 cc) (.bool b.asl) (.int i64 b.calm))):=hid (by
           rw [HBF.out.1]
           have hr1:=HR1.out wz HZ.out.1
           have hlo:w.heap.size<=a0+1+1:=by have:=HW0.out.2.1;omega
           have hw1:w.heap.size<=w1.heap.size:=Nat.le_trans HBW.out.size HBw1.out.size
           refine ⟨set13_below ((HBW.out.trans (HBw1.out.mono HBW.out.size)).trans (HZ.out.1.mono hw1)) hlo,gc,cc,rfl,?_⟩
           have h9:(crn b).map (Value.int .i64)=(crK wd hd 4).map (Value.int .i64):=by unfold crn crK;rw [HBF.out.2.1,HBF.out.2.2];rfl
           rw [h9]
           exact own_monoB ((set13_kx hr1).own (HZ.out.2.own HOL.out (by decide)) (by decide)) hw1)
          (try simp only)
          refine bodyPost_ret (v:=.tuple #[.agg (b.v gc cc),.bool true]) ?_ rfl HFIN.out
          have kz:=HR1.out wz HZ.out.1
          have kk:=set13_bk (v0:=.int i64 b.px) (v1:=.int i64 b.py) (v2:=.int i64 b.vx) (v3:=.int i64 b.vy) (v4:=.int i64 b.ang) (v5:=.int i64 b.spin) (v6:=.int i64 b.mass) (v7:=.int i64 b.inr) (v8:=.int i64 b.bou) (v9:=.int i64 b.rub) (v10:=.slice (some ⟨gc,0,none⟩) 4 cc) (v11:=.bool b.asl) (v12:=.int i64 b.calm) kz
          generalize set13 wz (a0+1+1) (.int i64 b.px) (.int i64 b.py) (.int i64 b.vx) (.int i64 b.vy) (.int i64 b.ang) (.int i64 b.spin) (.int i64 b.mass) (.int i64 b.inr) (.int i64 b.bou) (.int i64 b.rub) (.slice (some ⟨gc,0,none⟩) 4 cc) (.bool b.asl) (.int i64 b.calm)=wf at *
          have k0:=kk.cell 0
          have k1:=kk.cell 1
          have k2:=kk.cell 2
          have k3:=kk.cell 3
          have k4:=kk.cell 4
          have k5:=kk.cell 5
          have k6:=kk.cell 6
          have k7:=kk.cell 7
          have k8:=kk.cell 8
          have k9:=kk.cell 9
          have k10:=kk.cell 10
          have k11:=kk.cell 11
          have k12:=kk.cell 12
          rw [results_cell_tmp rfl]
          unfold Bo.v
          go_simp
end Go.Proofs.Ytnidcmhfbkdioaa
