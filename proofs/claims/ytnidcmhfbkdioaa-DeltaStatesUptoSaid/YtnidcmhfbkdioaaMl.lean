/-
  The contract of world.Copy. Conditions: what is read can be read; at most 1048576 elements of each.
-/
import Derived.Test.YtnidcmhfbkdioaaMk
namespace Go.Proofs.Ytnidcmhfbkdioaa
open Go.RowKit
set_option maxRecDepth 100000

structure SmallV (v : Wv Kp2) : Prop where
  ks : v.ks.length ≤ 1048576
  fds : ∀ k ∈ v.ks, k.2.length ≤ 1048576
  gens : v.gens.length ≤ 1048576
  its : v.its.length ≤ 1048576
  cms : ∀ it ∈ v.its, it.2.length ≤ 1048576
  vals : ∀ it ∈ v.its, ∀ c ∈ it.2, c.2.length ≤ 1048576

section
variable {P : Program}
/-- 'make([]T, n)' as one step of a region that draws. -/
theorem step_make_full {ops : Array Oper} {o : Oper} {a : Act} {w : World} {K : Act → World → Prop} {Q : Exit → Act → World → Prop} {E : Prop} (hgd : o.guard = none) (l c : Operand) (t : TypeId) (hop : o.op = Op.makeSlice t l c)
    (base : Nat) (e : TypeId) (i : TypeInfo) (z : Value) (size : Nat) (h1 : P.underlying t = some (.slice e)) (h2 : P.info? e = some i) (h3 : i.zero = some z) (h4 : i.size = size)
    (kl kc : IntKind) (n : Nat) (hl : a.eval l = .int kl n) (hc : a.eval c = .int kc n) (b2 : i.bytes * n ≤ 281474976710656) (b3 : n ≤ maxLen) (b4 : base ≤ w.heap.size)
    (h : ∀ w', w'.ownsRow base e size (.slice (some ⟨w.heap.size, 0, none⟩) n n) n (madeCells z.cells (n * size)).toList → w.grownBy w' none → K (a.put o.dst (.slice (some ⟨w.heap.size, 0, none⟩) n n)) w') :
    if Region.wanted o (yielded ops a.tmps) = true then Oper.wp P o a w K Q else E := by
  have hw : Region.wanted o (yielded ops a.tmps) = true := by simp [Region.wanted, hgd]
  rw [if_pos hw]
  obtain ⟨w', hrun, r1, r2⟩ := run_make_full (P := P) w base t e i z size h1 h2 h3 h4 kl kc n b2 b3 b4
  unfold Oper.wp
  simp [execOp, hop, hl, hc, hrun, Result.andThen]
  exact h w' r1 r2
end
theorem results_c1 {fn : Func} {p : Tmp} {ty : TypeId} (h : fn.results = #[.cell p ty]) (tmps : Array Value) (P : Program) (w : World) :
    (results fn tmps).run P w = ((asAddr (tmps.getD p undef)).run P w).andThen fun a w₁ => (loadVar ty a).run P w₁ := by
  simp only [results, h]
  simp [Sem.run_bind, Result.andThen]
theorem Below.al {w w' : World} (h : Below w.heap.size w w') (o : Obj) : Below w.heap.size w (w'.alloc o) := h.alloc h.size o
theorem Below.tr {w w' w2 : World} (h : Below w.heap.size w w') (k : Below w'.heap.size w' w2) : Below w.heap.size w w2 := h.trans (k.mono h.size)
theorem Below.gr {w w' w2 : World} (h : Below w.heap.size w w') (k : w'.grownBy w2 none) : Below w.heap.size w w2 := h.grown k h.size (fun q hq => by cases hq)
theorem bcell {X w' : World} (hb : Below X.heap.size X w') (b : Nat) (h : b < X.heap.size) (o : Nat) : w'.cell? ⟨b, o, none⟩ = X.cell? ⟨b, o, none⟩ := hb.cell (p := ⟨b, o, none⟩) h
theorem bfroz {X w' : World} (hb : Below X.heap.size X w') (b : Nat) (h : b < X.heap.size) (o : Nat) : w'.frozen? ⟨b, o, none⟩ = X.frozen? ⟨b, o, none⟩ := World.frozen?_of_block (a := ⟨b, o, none⟩) (hb.block b h)
theorem Bk.below2 {X w' : World} {g : Nat} {t : TypeId} {cs : Array Value} (h : Bk X g t cs) (hb : Below X.heap.size X w') : Bk w' g t cs := h.below hb h.lt
theorem Bk.far3 {w : World} {g g' : Nat} {t t' : TypeId} {cs cs' : Array Value} (h : Bk w g t cs) (hg : Bk w g' t' cs') (hne : t ≠ t') (i j k : Nat) (a b c : Value) : Bk (((w.setCell ⟨g', i, none⟩ a).setCell ⟨g', j, none⟩ b).setCell ⟨g', k, none⟩ c) g t cs := by
  have e : g ≠ g' := Bk.ne_ h hg hne
  exact ((h.far (p := ⟨g', i, none⟩) e a).far (p := ⟨g', j, none⟩) e b).far (p := ⟨g', k, none⟩) e c
theorem Kx.set3 {w w' : World} {B g : Nat} {F : List TypeId} {t : TypeId} {cs : Array Value} (h : Kx B F w w') (hg : Bk w' g t cs) (hB : B ≤ g) (ht : t ∈ F) (i j k : Nat) (a b c : Value) : Kx B F w (((w'.setCell ⟨g, i, none⟩ a).setCell ⟨g, j, none⟩ b).setCell ⟨g, k, none⟩ c) :=
  ((h.set hg hB ht i a).set (hg.set_ i a) hB ht j b).set ((hg.set_ i a).set_ j b) hB ht k c
theorem Fill.of_bk {w : World} {g n size : Nat} {t : TypeId} {cs : Array Value} (h : Bk w g t cs) (hs : cs.size = n * size) : Fill w g t size n 0 [] := ⟨cs, h, hs, by simp⟩
theorem T.infoIt : (Try.prog.info? 147).map (fun i => (i.zero, i.size, i.bytes)) = some (some (.agg #[.int .i64 0, .int .i64 0, .slice none 0 0]), 3, 40) := by kernel_rfl

theorem GsY.own {w : World} {B base n c : Nat} {A : Option Addr} {l : List Int} (h : w.ownsRow base 3 1 (.slice A n c) n (l.map (Value.int .i64))) (hw : ∀ g ∈ l, (Lit.int .i64 g).wf = true) : GsY w B A n c l := by
  have hc := own_cap2 h
  refine ⟨.of_own h, ?_, hc.1, hc.2, hw⟩
  have := h.1
  simpa using this.symm

set_option maxHeartbeats 3200000 in
theorem wcopy_any {w : World} {B : Nat} {x : Wd} (h : WdOk w B x) (hs : SmallV x.p) :
    Calls Try.prog 105 #[x.v] w fun e w' => ∃ y : Wd, e = .returned y.v ∧ WdY w' 0 y ∧ y.p = x.p ∧ Below w.heap.size w w' := by
  obtain ⟨i0, hi0, hz0, hz1, hz2⟩ := info_parts T.infoIt
  obtain ⟨kA, kn, kc, ks, gA, gn, gc, gens, iA, im, ic, its⟩ := x
  obtain ⟨hk, hg, hi⟩ := h
  dsimp only at hk hg hi
  show Calls Try.prog 105 #[.agg #[.slice kA kn kc, .slice gA gn gc, .slice iA im ic]] w _
  obtain ⟨W0, hW0⟩ : ∃ W0, W0 = (w.alloc (.cells #[.slice kA kn kc, .slice gA gn gc, .slice iA im ic] 52)).alloc (.cells #[.slice none 0 0, .slice none 0 0, .slice none 0 0] 52) := ⟨_, rfl⟩
  have hb0 : Below w.heap.size w W0 := by rw [hW0]; exact ((Below.refl _ _).alloc (Nat.le_refl _) _).alloc (by simp) _
  have hk1 : Bk W0 w.heap.size 52 #[.slice kA kn kc, .slice gA gn gc, .slice iA im ic] := by rw [hW0]; exact (Bk.new w 52 _).alloc _
  have hk2 : Bk W0 (w.heap.size + 1) 52 #[.slice none 0 0, .slice none 0 0, .slice none 0 0] := by rw [hW0]; exact Bk.two w _ 52 _
  have hsz : W0.heap.size = w.heap.size + 2 := by rw [hW0]; simp
  have hkn : kn ≤ 1048576 := by rw [hk.len]; have := hs.ks; simpa [Wd.p] using this
  have hgn : gn ≤ 1048576 := by rw [hg.len]; have := hs.gens; simpa [Wd.p] using this
  have him : im ≤ 1048576 := by rw [hi.len]; have := hs.its; simpa [Wd.p] using this
  have hkc : ∀ wx, Below W0.heap.size W0 wx → Calls Try.prog 169 #[.slice kA kn kc] wx fun e w' => ∃ g l', e = .returned (.slice (some ⟨g, 0, none⟩) kn kn) ∧ Hid (KsY w' 0 (some ⟨g, 0, none⟩) kn kn l' ∧ l'.map Kd.p = ks.map Kd.p) ∧ Below wx.heap.size wx w' ∧ Below W0.heap.size W0 w' := fun wx hb0' => by
    have hb := hb0.trans (hb0'.mono hb0.size)
    refine (kcopy_any (hk.below (hb.mono hk.lo)) hkn (fun d hd => by rw [(hk.ok d hd).len]; exact hs.fds _ (List.mem_map_of_mem (f := Kd.p) hd))).mono ?_
    rintro e w' ⟨g, l', h1, h2, h3, h4⟩
    exact ⟨g, l', h1, Lib.hid ⟨h2, h3⟩, h4, Below.tr hb0' h4⟩
  have hgcl : ∀ wx, Below W0.heap.size W0 wx → Calls Try.prog 103 #[.slice gA gn gc] wx fun e w' => ∃ A' c', e = .returned (.slice A' gn c') ∧ Hid (GsY w' 0 A' gn c' gens) ∧ Below wx.heap.size wx w' ∧ Below W0.heap.size W0 w' := fun wx hb0' => by
    have hb := hb0.trans (hb0'.mono hb0.size)
    refine (cloneInts_any gA gn gc B (gens.map (Value.int .i64)) wx (hg.rd.below (hb.mono hg.lo)) (by intro u hu; obtain ⟨z, _, rfl⟩ := List.mem_map.1 hu; rfl) (Nat.le_trans hg.lo hb.size) (by omega)).mono ?_
    rintro e w' ⟨A', c', h1, h2, h3⟩
    exact ⟨A', c', h1, Lib.hid (GsY.own h2 hg.wf), h3, Below.tr hb0' h3⟩
  have hcc := fun wx (hb : Below w.heap.size w wx) it (hit : it ∈ its) => copyComps_any ((hi.ok it hit).cs.below (hb.mono hi.lo)) (by rw [(hi.ok it hit).cs.len]; have := hs.cms _ (List.mem_map_of_mem (f := It.p) hit); simpa [It.p] using this) (fun c hc => by rw [((hi.ok it hit).cs.ok c hc).len]; exact hs.vals _ (List.mem_map_of_mem (f := It.p) hit) _ (List.mem_map_of_mem (f := Cm.p) hc))
  have hrt := fun wx (hb : Below W0.heap.size W0 wx) => hk1.below hb hk1.lt
  have hr2 := fun wx (hb : Below W0.heap.size W0 wx) => hk2.below hb hk2.lt
  have c0 : W0.cell? ⟨w.heap.size, 0, none⟩ = some (.slice kA kn kc) := hk1.cell 0
  have c1 : W0.cell? ⟨w.heap.size, 1, none⟩ = some (.slice gA gn gc) := hk1.cell 1
  have c2 : W0.cell? ⟨w.heap.size, 2, none⟩ = some (.slice iA im ic) := hk1.cell 2
  obtain ⟨MC, hMC⟩ : ∃ MC, MC = madeCells (Value.agg #[.int .i64 0, .int .i64 0, .slice none 0 0]).cells (im * 3) := ⟨_, rfl⟩
  have hmk : ∀ wx, (Instr.makeSlice 50 (.int .i64 (im : Int)) (.int .i64 (im : Int))).run Try.prog wx = .ok (.slice (some ⟨wx.heap.size, 0, none⟩) im im) (wx.alloc (.cells MC 147)) := fun wx => by
    have h := run_make (P := Try.prog) wx 50 147 i0 _ Try.underlying50 hi0 hz0 .i64 .i64 im im (by omega) (Int.le_refl _) (by rw [hz2]; omega) (by omega)
    rw [Int.toNat_natCast, hz1, ← hMC] at h
    exact h
  have HMC : Hid (MC.size = im * 3) := Lib.hid (by rw [hMC, madeN])
  clear hMC hi0 hz0 hz1 hz2
  have HKC := Lib.hid hkc
  have HGC := Lib.hid hgcl
  have HCC := Lib.hid hcc
  have HI := Lib.hid hi
  have HG := Lib.hid hg
  have HK := Lib.hid hk
  have HB0 := Lib.hid hb0
  have HRT := Lib.hid hrt
  have HR2 := Lib.hid hr2
  have HSZ := Lib.hid hsz
  have hic := hi.cap
  have hic2 := hi.cap2
  clear hk hg hi hs hb0 hk1 hk2 hkc hgcl hcc hrt hr2 hsz
  go_enter Try.func105, Try.ntmps105
  go_wp2_with fail
  rw [← hW0]
  clear hW0
  go_cut [3] from 6 to 16 (fun pv wx => ∃ (go : Nat) (kA' : Option Addr) (ks' : List Kd) (gA' : Option Addr) (gc' iG : Nat), pv = .pointer (some ⟨go, 0, none⟩) ∧ Hid (Bk wx go 52 #[.slice kA' kn kn, .slice gA' gn gc', .slice (some ⟨iG, 0, none⟩) im im]) ∧ w.heap.size + 2 ≤ go ∧ w.heap.size + 2 ≤ iG ∧
    Hid (KsY wx 0 kA' kn kn ks' ∧ ks'.map Kd.p = ks.map Kd.p) ∧ Hid (GsY wx 0 gA' gn gc' gens) ∧ Hid (Fill wx iG 147 3 im 0 []) ∧ Hid (Below W0.heap.size W0 wx))
  case first =>
    rename_i J0 Kp0 A1 A0
    have HS : Hid (∀ wx, Below W0.heap.size W0 wx → wx.cell? ⟨w.heap.size, 0, none⟩ = some (.slice kA kn kc) ∧ wx.cell? ⟨w.heap.size, 1, none⟩ = some (.slice gA gn gc) ∧ wx.cell? ⟨w.heap.size, 2, none⟩ = some (.slice iA im ic)) := Lib.hid fun wx hb => ⟨(HRT.out _ hb).cell 0, (HRT.out _ hb).cell 1, (HRT.out _ hb).cell 2⟩
    go_region_held3 (fun wx => wx.cell? ⟨w.heap.size, 0, none⟩ = some (.slice kA kn kc) ∧ wx.cell? ⟨w.heap.size, 1, none⟩ = some (.slice gA gn gc) ∧ wx.cell? ⟨w.heap.size, 2, none⟩ = some (.slice iA im ic))
      (((with_reducible refine HS.out _ ?_); (repeat' first | with_reducible exact Below.refl _ _ | assumption | with_reducible refine Below.drew ?_ | with_reducible refine Below.al ?_ _ | with_reducible refine Below.setCell ?_ (by (try simp); (try omega)) _)))
      (first
        | (go_at_call 169
           (with_reducible refine (HKC.out _ ?hbel).mono ?_)
           case hbel => (repeat' first | exact Below.refl _ _ | assumption | refine Below.drew ?_ | refine Below.al ?_ _)
           rintro e w3 ⟨kG, ks', rfl, hks3, hb3, hB3⟩
           have hz3 := hb3.size
           (try simp at hz3)
           (try (have k0 := fun o => bcell hb3 W0.heap.size (by first | (simp; done) | (simp; omega) | fail) o
                 have f0 := fun o => bfroz hb3 W0.heap.size (by first | (simp; done) | (simp; omega) | fail) o))
           (try (have k1 := fun o => bcell hb3 (W0.heap.size + 1) (by first | (simp; done) | (simp; omega) | fail) o
                 have f1 := fun o => bfroz hb3 (W0.heap.size + 1) (by first | (simp; done) | (simp; omega) | fail) o)))
        | (go_at_call 103
           (with_reducible refine (HGC.out _ ?hbel).mono ?_)
           case hbel => (repeat' first | exact Below.refl _ _ | assumption | refine Below.drew ?_ | refine Below.al ?_ _)
           rintro e w5 ⟨gA', gc', rfl, hgs5, hb5, hB5⟩
           have hb35 : Below w3.heap.size w3 w5 := by
             refine Below.tr ?_ hb5
             (repeat' first | exact Below.refl _ _ | assumption | refine Below.drew ?_ | refine Below.al ?_ _)
           have hz5 := hb5.size
           (try simp at hz5)
           (try (have k2 := fun o => (bcell hb35 W0.heap.size (by omega) o).trans (k0 o)
                 have f2 := fun o => (bfroz hb35 W0.heap.size (by omega) o).trans (f0 o)
                 have k2b := fun o ob => (bcell (Below.al hb35 ob) W0.heap.size (by omega) o).trans (k0 o)
                 have f2b := fun o ob => (bfroz (Below.al hb35 ob) W0.heap.size (by omega) o).trans (f0 o)))
           (try (have k3 := fun o => (bcell hb35 (W0.heap.size + 1) (by omega) o).trans (k1 o)
                 have f3 := fun o => (bfroz hb35 (W0.heap.size + 1) (by omega) o).trans (f1 o)
                 have k3b := fun o ob => (bcell (Below.al hb35 ob) (W0.heap.size + 1) (by omega) o).trans (k1 o)
                 have f3b := fun o ob => (bfroz (Below.al hb35 ob) (W0.heap.size + 1) (by omega) o).trans (f1 o)))
           (try (have k4 := fun o => bcell hb5 w3.heap.size (by first | (simp; done) | (simp; omega) | fail) o
                 have f4 := fun o => bfroz hb5 w3.heap.size (by first | (simp; done) | (simp; omega) | fail) o
                 have k4b := fun o ob => bcell (Below.al hb5 ob) w3.heap.size (by first | (simp; done) | (simp; omega) | fail) o
                 have f4b := fun o ob => bfroz (Below.al hb5 ob) w3.heap.size (by first | (simp; done) | (simp; omega) | fail) o))
           (try (have k5 := fun o => bcell hb5 (w3.heap.size + 1) (by first | (simp; done) | (simp; omega) | fail) o
                 have f5 := fun o => bfroz hb5 (w3.heap.size + 1) (by first | (simp; done) | (simp; omega) | fail) o
                 have k5b := fun o ob => bcell (Below.al hb5 ob) (w3.heap.size + 1) (by first | (simp; done) | (simp; omega) | fail) o
                 have f5b := fun o ob => bfroz (Below.al hb5 ob) (w3.heap.size + 1) (by first | (simp; done) | (simp; omega) | fail) o))))
    all_goals
      refine A0 _ _ (Met.intro (A1 _ _ ?_))
      (repeat apply Exists.intro)
      refine And.intro ?_ rfl
      have hsz := HSZ.out
      have hz4 := hB3.size
      have hz6 := hB5.size
      (repeat apply Exists.intro)
      constructor
      · rfl
      constructor
      · apply Lib.hid
        first
          | with_reducible exact Bk.new _ _ _
          | with_reducible exact Bk.two _ _ _ _
          | with_reducible exact (Bk.new _ _ _).alloc _
          | (refine Bk.set3 (x := .slice none 0 0) (y := .slice none 0 0) (z := .slice none 0 0) ?_ _ _ _
             (repeat' first | with_reducible exact Bk.new _ _ _ | with_reducible exact Bk.two _ _ _ _ | with_reducible refine Bk.drew ?_ | with_reducible refine Bk.alloc ?_ _ | with_reducible refine Bk.below2 ?_ hb5 | with_reducible refine Bk.below2 ?_ hb3))
      refine ⟨?h1, ?h2, Lib.hid ⟨KsY.keep (F := [52]) hks3.out.1 ?hkx (by decide) (by decide), hks3.out.2⟩, Lib.hid (GsY.keep (F := [52]) hgs5.out ?hgx (by decide)), Lib.hid (Fill.of_bk (cs := MC) ?hmc HMC.out), Lib.hid ?hbl⟩
      case h1 => omega
      case h2 => omega
      case hkx => (repeat' first | with_reducible exact Kx.refl | with_reducible refine Kx.drew ?_ | with_reducible refine Kx.alloc ?_ _ | with_reducible refine Kx.below ?_ hb5 | with_reducible refine Kx.set3 (t := 52) (cs := #[.slice none 0 0, .slice none 0 0, .slice none 0 0]) ?_ ?_ (Nat.zero_le _) (by simp) _ _ _ _ _ _ | with_reducible exact Bk.new _ _ _ | with_reducible exact Bk.two _ _ _ _ | with_reducible refine Bk.drew ?_ | with_reducible refine Bk.alloc ?_ _ | with_reducible refine Bk.below2 ?_ hb5 | with_reducible refine Bk.below2 ?_ hb3)
      case hgx => (repeat' first | with_reducible exact Kx.refl | with_reducible refine Kx.drew ?_ | with_reducible refine Kx.alloc ?_ _ | with_reducible refine Kx.set3 (t := 52) (cs := #[.slice none 0 0, .slice none 0 0, .slice none 0 0]) ?_ ?_ (Nat.zero_le _) (by simp) _ _ _ _ _ _ | with_reducible exact Bk.new _ _ _ | with_reducible exact Bk.two _ _ _ _ | with_reducible refine Bk.drew ?_ | with_reducible refine Bk.alloc ?_ _ | with_reducible refine Bk.below2 ?_ hb5 | with_reducible refine Bk.below2 ?_ hb3)
      case hmc => (repeat' first | with_reducible exact Bk.new _ _ _ | with_reducible exact Bk.two _ _ _ _ | with_reducible refine Bk.far3 (t' := 52) (cs' := #[.slice none 0 0, .slice none 0 0, .slice none 0 0]) ?_ ?_ (by decide) _ _ _ _ _ _ | with_reducible refine Bk.drew ?_ | with_reducible refine Bk.alloc ?_ _ | with_reducible refine Bk.below2 ?_ hb5 | with_reducible refine Bk.below2 ?_ hb3)
      case hbl => (repeat' first | with_reducible exact Below.refl _ _ | with_reducible assumption | with_reducible refine Below.drew ?_ | with_reducible refine Below.al ?_ _ | with_reducible refine Below.setCell ?_ (by dsimp only; omega) _)
  case rest =>
    obtain ⟨go, kA', ks', gA', gc', iG, rfl, HBK, hgo, hiG, HKS, HGS, HF, HBL⟩ := hcut
    have d2 : wc.cell? ⟨w.heap.size, 2, none⟩ = some (.slice iA im ic) := (HRT.out _ HBL.out).cell 2
    clear hmk HKC HGC HMC c0 c1 c2
    go_wp2_with fail
    go_loopw [20] (fun iv wr => ∃ (k : Nat) (l1 : List It), k ≤ im ∧ iv = .int .i64 k ∧ Hid (Bk wr go 52 #[.slice kA' kn kn, .slice gA' gn gc', .slice (some ⟨iG, 0, none⟩) im im]) ∧ Hid (Fill wr iG 147 3 im k (itCs l1)) ∧ Hid (l1.map It.p = (its.take k).map It.p ∧ ∀ x ∈ l1, ItY wr 0 x) ∧ Hid (KsY wr 0 kA' kn kn ks' ∧ ks'.map Kd.p = ks.map Kd.p) ∧ Hid (GsY wr 0 gA' gn gc' gens) ∧ Hid (Below W0.heap.size W0 wr)) (fun iv _ => im - (intOf iv).toNat)
    case atStart => exact ⟨0, [], Nat.zero_le _, rfl, HBK, HF, Lib.hid ⟨rfl, (fun x hx => by cases hx)⟩, HKS, HGS, HBL⟩
    case round =>
      clear HBK HKS HGS HF HBL d2
      obtain ⟨k, l1, hk, rfl, HBK, HF, HL, HKS, HGS, HBL⟩ := hrel
      have hbw : Below w.heap.size w wr := HB0.out.trans (HBL.out.mono HB0.out.size)
      have hlo := HI.out.lo
      have hsz := HSZ.out
      have hsw := HBL.out.size
      have d2 : wr.cell? ⟨w.heap.size, 2, none⟩ = some (.slice iA im ic) := (HRT.out _ HBL.out).cell 2
      by_cases hlt : k < im
      · have hkz : (k : Int) < im := by omega
        obtain ⟨x, hx⟩ : ∃ x, its[k]? = some x := ⟨_, List.getElem?_eq_getElem (by have := HI.out.len; omega)⟩
        have hcw := HI.out.below (hbw.mono hlo)
        have hxo := hcw.ok x (List.mem_of_getElem? hx)
        obtain ⟨b, o, rfl, hbb, q0, q1, q2⟩ := hcw.rd.it hlt hx
        have hcl := fun wx (hb : Below w.heap.size w wx) => HCC.out wx hb x (List.mem_of_getElem? hx)
        have HCL := Lib.hid hcl
        have HX := Lib.hid (And.intro hx hxo)
        clear hx hcw hxo hcl
        generalize hxe : x.e = xe at *
        generalize hxg : x.g = xg at *
        generalize hxA : x.A = xA at *
        generalize hxn : x.n = xn at *
        generalize hxc : x.c = xc at *
        have HXV := Lib.hid (And.intro hxe (And.intro hxg (And.intro hxA (And.intro hxn hxc))))
        clear hxe hxg hxA hxn hxc
        go_wp2_with fail
        have hb1 := (Below.refl wr.heap.size wr).alloc (Nat.le_refl _) (.cells #[.int .i64 xe, .int .i64 xg, .slice xA xn xc] 147)
        have hh1 := Bk.new wr 147 #[.int .i64 xe, .int .i64 xg, .slice xA xn xc]
        have hO1 := HF.out.below hb1 HF.out.lt
        have hgo1 := HBK.out.below hb1 HBK.out.lt
        have hw1 : Below W0.heap.size W0 (wr.alloc (.cells #[.int .i64 xe, .int .i64 xg, .slice xA xn xc] 147)) := Below.tr HBL.out hb1
        have hgh : iG < wr.heap.size := HF.out.lt
        have HB1 := Lib.hid hb1
        have hgg : go ≠ iG := by
          obtain ⟨cs, h1, _⟩ := HF.out.bk
          exact Bk.ne_ HBK.out h1 (by decide)
        clear hb1 q0 q1 q2
        generalize wr.alloc (.cells #[.int .i64 xe, .int .i64 xg, .slice xA xn xc] 147) = W1 at *
        generalize hhh : wr.heap.size = hh at *
        have hgh2 : hh ≠ iG := by omega
        have s1 : W1.drew.cell? ⟨hh, 0, none⟩ = some (.int .i64 xe) ∧ W1.drew.cell? ⟨hh, 1, none⟩ = some (.int .i64 xg) ∧ W1.drew.cell? ⟨hh, 2, none⟩ = some (.slice xA xn xc) ∧ W1.drew.cell? ⟨go, 2, none⟩ = some (.slice (some ⟨iG, 0, none⟩) im im) := ⟨hh1.cell 0, hh1.cell 1, hh1.cell 2, hgo1.cell 2⟩
        have hbB : Below w.heap.size w W1.drew := (HB0.out.trans (hw1.mono HB0.out.size)).drew
        have HH1 := Lib.hid hh1
        have HO1 := Lib.hid hO1
        have HG1 := Lib.hid hgo1
        have HW1 := Lib.hid hw1
        clear hh1 hO1 hw1 hgo1
        go_region_held3 (fun wx => wx.cell? ⟨hh, 0, none⟩ = some (.int .i64 xe) ∧ wx.cell? ⟨hh, 1, none⟩ = some (.int .i64 xg) ∧ wx.cell? ⟨hh, 2, none⟩ = some (.slice xA xn xc) ∧ wx.cell? ⟨go, 2, none⟩ = some (.slice (some ⟨iG, 0, none⟩) im im))
          (first | (with_reducible exact s1) | (with_reducible exact s3) | (with_reducible exact s4) | go_keep)
          (first
            | (go_at_call 170
               (with_reducible refine (HCL.out _ hbB).mono ?_)
               rintro e w3 ⟨g3, l3, rfl, hcs3, hcp3, hb3⟩
               have hh3 := HH1.out.drew.below hb3 HH1.out.lt
               have hg3 := HG1.out.drew.below hb3 HG1.out.lt
               have hO3 := Fill.below (w := W1.drew) (HO1.out.keep (F := []) (Kx.refl (B := 0) |>.drew) (by simp)) hb3 (by have := HO1.out.lt; exact this)
               have s3 : w3.cell? ⟨hh, 0, none⟩ = some (.int .i64 xe) ∧ w3.cell? ⟨hh, 1, none⟩ = some (.int .i64 xg) ∧ w3.cell? ⟨hh, 2, none⟩ = some (.slice xA xn xc) ∧ w3.cell? ⟨go, 2, none⟩ = some (.slice (some ⟨iG, 0, none⟩) im im) := ⟨hh3.cell 0, hh3.cell 1, hh3.cell 2, hg3.cell 2⟩
               obtain ⟨u0, o0⟩ := hO3.at_ (j := k * 3) (by omega)
               obtain ⟨u1, o1⟩ := hO3.at_ (j := k * 3 + 1) (by omega)
               obtain ⟨u2, o2⟩ := hO3.at_ (j := k * 3 + 2) (by omega)
               have p0 := hO3.frozen (k * 3)
               have p1 := hO3.frozen (k * 3 + 1)
               have p2 := hO3.frozen (k * 3 + 2)
               obtain ⟨W4, hW4⟩ : ∃ W4, W4 = ((w3.setCell ⟨iG, k * 3, none⟩ (.int .i64 xe)).setCell ⟨iG, k * 3 + 1, none⟩ (.int .i64 xg)).setCell ⟨iG, k * 3 + 2, none⟩ (.slice (some ⟨g3, 0, none⟩) xn xn) := ⟨_, rfl⟩
               have hh4 : Bk W4 hh 147 #[.int .i64 xe, .int .i64 xg, .slice xA xn xc] := by rw [hW4]; exact ((hh3.far (p := ⟨iG, k * 3, none⟩) hgh2 _).far (p := ⟨iG, k * 3 + 1, none⟩) hgh2 _).far (p := ⟨iG, k * 3 + 2, none⟩) hgh2 _
               have hg4 : Bk W4 go 52 #[.slice kA' kn kn, .slice gA' gn gc', .slice (some ⟨iG, 0, none⟩) im im] := by rw [hW4]; exact ((hg3.far (p := ⟨iG, k * 3, none⟩) hgg _).far (p := ⟨iG, k * 3 + 1, none⟩) hgg _).far (p := ⟨iG, k * 3 + 2, none⟩) hgg _
               have s4 : (((w3.setCell ⟨iG, k * 3, none⟩ (.int .i64 xe)).setCell ⟨iG, k * 3 + 1, none⟩ (.int .i64 xg)).setCell ⟨iG, k * 3 + 2, none⟩ (.slice (some ⟨g3, 0, none⟩) xn xn)).cell? ⟨hh, 0, none⟩ = some (.int .i64 xe) ∧ (((w3.setCell ⟨iG, k * 3, none⟩ (.int .i64 xe)).setCell ⟨iG, k * 3 + 1, none⟩ (.int .i64 xg)).setCell ⟨iG, k * 3 + 2, none⟩ (.slice (some ⟨g3, 0, none⟩) xn xn)).cell? ⟨hh, 1, none⟩ = some (.int .i64 xg) ∧ (((w3.setCell ⟨iG, k * 3, none⟩ (.int .i64 xe)).setCell ⟨iG, k * 3 + 1, none⟩ (.int .i64 xg)).setCell ⟨iG, k * 3 + 2, none⟩ (.slice (some ⟨g3, 0, none⟩) xn xn)).cell? ⟨hh, 2, none⟩ = some (.slice xA xn xc) ∧ (((w3.setCell ⟨iG, k * 3, none⟩ (.int .i64 xe)).setCell ⟨iG, k * 3 + 1, none⟩ (.int .i64 xg)).setCell ⟨iG, k * 3 + 2, none⟩ (.slice (some ⟨g3, 0, none⟩) xn xn)).cell? ⟨go, 2, none⟩ = some (.slice (some ⟨iG, 0, none⟩) im im) := by rw [← hW4]; exact ⟨hh4.cell 0, hh4.cell 1, hh4.cell 2, hg4.cell 2⟩
               have hI4 := hO3.step3 hlt (.int .i64 xe) (.int .i64 xg) (.slice (some ⟨g3, 0, none⟩) xn xn)
               have hk4 := hO3.kx3 (B := 0) (Nat.zero_le _) (k * 3) (k * 3 + 1) (k * 3 + 2) (.int .i64 xe) (.int .i64 xg) (.slice (some ⟨g3, 0, none⟩) xn xn)
               rw [← hW4] at hI4 hk4
               have hw3 : Below W0.heap.size W0 w3 := Below.tr (w' := W1.drew) HW1.out.drew hb3
               have hw4 : Below W0.heap.size W0 W4 := by rw [hW4]; exact ((hw3.setCell (p := ⟨iG, k * 3, none⟩) (by show W0.heap.size ≤ iG; omega) _).setCell (p := ⟨iG, k * 3 + 1, none⟩) (by show W0.heap.size ≤ iG; omega) _).setCell (p := ⟨iG, k * 3 + 2, none⟩) (by show W0.heap.size ≤ iG; omega) _
               have HI4 := Lib.hid hI4
               have HG4 := Lib.hid hg4
               have HW4 := Lib.hid hw4
               have HK4 := Lib.hid hk4
               have HN3 := Lib.hid (And.intro hcs3 (And.intro hcp3 hb3))
               clear hcs3 hcp3 hb3 hh3 hg3 hO3 hh4 hg4 hI4 hk4 hw3 hw4))
        rw [← hW4]
        clear hW4 s1 s3 s4 o0 o1 o2 p0 p1 p2
        have hkx : Kx 0 [147] wr W4 := ((Kx.refl.below (show Below wr.heap.size wr W1 by rw [hhh]; exact HB1.out)).drew.below (w' := W1.drew) HN3.out.2.2).trans HK4.out
        have hcc : CsY W4 0 (some ⟨g3, 0, none⟩) xn xn l3 := HN3.out.1.keep HK4.out (by decide) (by decide)
        have HLN : Hid ((l1 ++ [(⟨xe, xg, some ⟨g3, 0, none⟩, xn, xn, l3⟩ : It)]).map It.p = (its.take (k + 1)).map It.p ∧ ∀ y ∈ l1 ++ [(⟨xe, xg, some ⟨g3, 0, none⟩, xn, xn, l3⟩ : It)], ItY W4 0 y) := Lib.hid ⟨by
          rw [List.take_add_one, HX.out.1, List.map_append, HL.out.1, List.map_append]
          show _ ++ [((xe, xg), l3.map Cm.p)] = _ ++ [((x.e, x.g), x.cms.map Cm.p)]
          rw [HN3.out.2.1, HXV.out.1, HXV.out.2.1], fun y hy => by
          rcases List.mem_append.1 hy with hy | hy
          · exact (HL.out.2 y hy).keep hkx (by decide) (by decide)
          · rw [show y = ⟨xe, xg, some ⟨g3, 0, none⟩, xn, xn, l3⟩ by simpa using hy]; exact ⟨hcc, by rw [← HXV.out.1]; exact HX.out.2.wf1, by rw [← HXV.out.2.1]; exact HX.out.2.wf2⟩⟩
        have HIN : Hid (Fill W4 iG 147 3 im (k + 1) (itCs (l1 ++ [(⟨xe, xg, some ⟨g3, 0, none⟩, xn, xn, l3⟩ : It)]))) := Lib.hid (by
          rw [show itCs (l1 ++ [(⟨xe, xg, some ⟨g3, 0, none⟩, xn, xn, l3⟩ : It)]) = itCs l1 ++ [.int .i64 xe, .int .i64 xg, .slice (some ⟨g3, 0, none⟩) xn xn] by simp [itCs, It.cs]]
          exact HI4.out)
        have HKN : Hid (KsY W4 0 kA' kn kn ks' ∧ ks'.map Kd.p = ks.map Kd.p) := Lib.hid ⟨HKS.out.1.keep hkx (by decide) (by decide), HKS.out.2⟩
        have HGN : Hid (GsY W4 0 gA' gn gc' gens) := Lib.hid (HGS.out.keep hkx (by decide))
        clear hkx hcc HI4 HK4 HN3
        go_wp2_with fail
        go_roundw
        case rel => exact ⟨k + 1, l1 ++ [(⟨xe, xg, some ⟨g3, 0, none⟩, xn, xn, l3⟩ : It)], by omega, by go_num, HG4, HIN, HLN, HKN, HGN, HW4⟩
        case measure => simp [intOf]; omega
      · obtain rfl : im = k := by omega
        have HLL := HL.out.1
        rw [List.take_of_length_le (by rw [← HI.out.len]; omega)] at HLL
        have HLP := Lib.hid HLL
        clear HLL
        have e0 : wr.cell? ⟨go, 0, none⟩ = some (.slice kA' kn kn) := HBK.out.cell 0
        have e1 : wr.cell? ⟨go, 1, none⟩ = some (.slice gA' gn gc') := HBK.out.cell 1
        have e2 : wr.cell? ⟨go, 2, none⟩ = some (.slice (some ⟨iG, 0, none⟩) im im) := HBK.out.cell 2
        have hk2 := HR2.out _ HBL.out
        have n0 : wr.cell? ⟨w.heap.size + 1, 0, none⟩ = some (.slice none 0 0) := hk2.cell 0
        have n1 : wr.cell? ⟨w.heap.size + 1, 1, none⟩ = some (.slice none 0 0) := hk2.cell 1
        have n2 : wr.cell? ⟨w.heap.size + 1, 2, none⟩ = some (.slice none 0 0) := hk2.cell 2
        have m0 := hk2.frozen 0
        have m1 := hk2.frozen 1
        have m2 := hk2.frozen 2
        have HK2 := Lib.hid hk2
        have HBW := Lib.hid hbw
        clear hk2 hbw
        go_wp2_with fail
        (try simp only [Exit.inBlock, Exit.then])
        have hlen : im = l1.length := by have h := congrArg List.length HLP.out; rw [List.length_map, List.length_map] at h; rw [h]; exact HI.out.len
        have hkx := Kx.set3 (B := 0) (F := [52]) Kx.refl HK2.out (Nat.zero_le _) (by simp) 0 1 2 (.slice kA' kn kn) (.slice gA' gn gc') (.slice (some ⟨iG, 0, none⟩) im im)
        refine bodyPost_ret (v := .agg #[.slice kA' kn kn, .slice gA' gn gc', .slice (some ⟨iG, 0, none⟩) im im]) ?_ rfl ⟨⟨kA', kn, kn, ks', gA', gn, gc', gens, some ⟨iG, 0, none⟩, im, im, l1⟩, rfl, ⟨HKS.out.1.keep hkx (by decide) (by decide), HGS.out.keep hkx (by decide), ⟨HF.out.rd.keep hkx (by decide), hlen, Nat.le_refl _, (by show im ≤ 9223372036854775807; omega), fun x hx => (HL.out.2 x hx).keep hkx (by decide) (by decide)⟩⟩, ?_, ?_⟩
        · rw [results_c1 rfl]
          go_simp
        · show (⟨_, _, _⟩ : Wv Kp2) = ⟨_, _, _⟩
          rw [HKS.out.2, HLP.out]
        · exact ((HBW.out.setCell (p := ⟨w.heap.size + 1, 0, none⟩) (by show w.heap.size ≤ w.heap.size + 1; omega) _).setCell (p := ⟨w.heap.size + 1, 1, none⟩) (by show w.heap.size ≤ w.heap.size + 1; omega) _).setCell (p := ⟨w.heap.size + 1, 2, none⟩) (by show w.heap.size ≤ w.heap.size + 1; omega) _
end Go.Proofs.Ytnidcmhfbkdioaa
