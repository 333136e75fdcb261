/-
  LinkAll: slices.ContainsFunc over deeds; the last packet that a deed below 400 means; plain lemmas on the steps. Conditions: the deeds can be read.
-/
import Derived.Test.YtlgcdcjfobfoiaaLl3
namespace Go.Proofs.Ytlgcdcjfobfoiaa
open Go.RowKit
set_option maxRecDepth 100000

theorem clo54_any (k p x : Int) (w : World) : Calls Try.prog 54 #[.agg #[.int .i64 k, .int .i64 p, .int .i64 x]] w fun e w' => e = .returned (.bool (decide (400 ≤ p))) ∧ Below w.heap.size w w' := by
  have HB := Lib.hid ((Below.refl w.heap.size w).alloc (Nat.le_refl _) (.cells #[.int .i64 k, .int .i64 p, .int .i64 x] 47))
  by_cases h : 400 ≤ p
  · rw [decide_eq_true h]
    go_enter Try.func54, Try.ntmps54
    go_wp2_with fail
    go_ret
    exact ⟨by simp [h], HB.out⟩
  · rw [decide_eq_false h]
    go_enter Try.func54, Try.ntmps54
    go_wp2_with fail
    go_ret
    exact ⟨by simp, HB.out⟩

def bigD (ds : List Dd) : Bool := ds.any fun d => decide (400 ≤ d.pk)
def IxP (w : World) (R : Bool) (e : Ending) (w' : World) : Prop := ∃ r : Int, e = .returned (.int .i64 r) ∧ (R = true → 0 ≤ r) ∧ (R = false → r = -1) ∧ Below w.heap.size w w'

set_option maxHeartbeats 800000 in
theorem index82_any (A : Option Addr) (n c B : Nat) (ds : List Dd) (w : World) (hr : Rd w B 3 A n (ddCs ds)) (hn : n = ds.length) (hc : n ≤ 1000000) (hB : B ≤ w.heap.size) :
    Calls Try.prog 82 #[.slice A n c, .func (.func 54) #[] #[]] w (IxP w (bigD ds)) := by
  have HN := Lib.hid hn
  have HRD := Lib.hid hr
  have HBB := Lib.hid hB
  have HCL := Lib.hid clo54_any
  clear hr hn hB
  go_enter Try.func82, Try.ntmps82
  go_wp2_with fail
  go_loopg [8] n (fun g v wr => ∃ k : Nat, k ≤ n ∧ g = n - k ∧ v = .int .i64 k ∧ Hid (bigD (ds.take k) = false) ∧ Hid (Below w.heap.size w wr))
  case atStart => exact ⟨0, Nat.zero_le _, rfl, rfl, Lib.hid (by simp [bigD]), Lib.hid (Below.refl _ _)⟩
  case round =>
    obtain ⟨k, hk, rfl, rfl, HE, HW⟩ := hrel
    by_cases hkn : k < n
    · obtain ⟨d, hd⟩ : ∃ d, ds[k]? = some d := ⟨_, List.getElem?_eq_getElem (by have := HN.out; omega)⟩
      have hrw : Rd wr B 3 A n (ddCs ds) := HRD.out.below (HW.out.mono HBB.out)
      obtain ⟨b, o, rfl, hbB, q0, q1, q2⟩ := hrw.dd k d hd hkn
      have hkz : (k : Int) < n := by omega
      have hstep : bigD (ds.take (k + 1)) = (bigD (ds.take k) || decide (400 ≤ d.pk)) := by
        unfold bigD
        rw [List.take_add_one, hd]
        simp
      rw [HE.out, Bool.false_or] at hstep
      have HST := Lib.hid hstep
      have HMEM := Lib.hid (List.mem_of_getElem? hd)
      clear hrw hd hstep
      generalize hdk : d.kind = dk at *
      generalize hdp : d.pk = dp at *
      generalize hdx : d.n = dx at *
      have HDP := Lib.hid hdp
      clear hdk hdp hdx
      go_wp2_with fail
      refine (HCL.out _ _ _ _).mono ?_
      rintro e w2 ⟨rfl, hb2⟩
      have HW2 := Lib.hid (HW.out.trans (hb2.mono HW.out.size))
      clear hb2
      by_cases h4 : 400 ≤ dp
      · rw [decide_eq_true h4]
        go_wp2_with fail
        go_ret
        have hT : bigD ds = true := by
          unfold bigD
          rw [List.any_eq_true]
          exact ⟨d, HMEM.out, by rw [HDP.out]; simpa using h4⟩
        exact ⟨k, rfl, (fun _ => by omega), (fun h => by rw [hT] at h; cases h), HW2.out⟩
      · have HF : Hid (bigD (ds.take (k + 1)) = false) := Lib.hid (by rw [HST.out]; simpa using h4)
        rw [decide_eq_false h4]
        go_wp2_with fail
        go_roundg (n - (k + 1))
        case measure => omega
        case rel => exact ⟨k + 1, by omega, rfl, by go_num, HF, HW2⟩
    · obtain rfl : k = n := by omega
      have HT : Hid (bigD ds = false) := Lib.hid (by
        have := HE.out
        rwa [List.take_of_length_le (by have := HN.out; omega)] at this)
      go_wp2_with fail
      go_ret
      exact ⟨-1, rfl, (fun h => by rw [HT.out] at h; cases h), (fun _ => rfl), HW.out⟩

theorem contains53_any (A : Option Addr) (n c B : Nat) (ds : List Dd) (w : World) (hr : Rd w B 3 A n (ddCs ds)) (hn : n = ds.length) (hc : n ≤ 1000000) (hB : B ≤ w.heap.size) :
    Calls Try.prog 53 #[.slice A n c, .func (.func 54) #[] #[]] w fun e w' => e = .returned (.bool (bigD ds)) ∧ Below w.heap.size w w' := by
  have HI := Lib.hid (index82_any A n c B ds w hr hn hc hB)
  clear hr hn hB
  generalize bigD ds = R at *
  go_enter Try.func53, Try.ntmps53
  go_wp2_with fail
  refine HI.out.mono ?_
  rintro e w1 ⟨r, rfl, h1, h2, hb⟩
  have HB := Lib.hid hb
  clear hb
  cases R
  · obtain rfl := h2 rfl
    clear h1 h2
    go_wp2_with fail
    go_ret
    exact ⟨rfl, HB.out⟩
  · have h3 : 0 ≤ r := h1 rfl
    clear h1 h2
    go_wp2_with fail
    go_ret
    exact ⟨by simp [h3], HB.out⟩

/-- The last packet that a deed means, of those below 400. -/
def lastZ (ds : List Dd) : Int := ds.foldl (fun a d => if d.pk < 400 then max a d.pk else a) 0
theorem lastZ_step (ds : List Dd) (k : Nat) (d : Dd) (h : ds[k]? = some d) : lastZ (ds.take (k + 1)) = if d.pk < 400 then max (lastZ (ds.take k)) d.pk else lastZ (ds.take k) := by
  unfold lastZ
  rw [List.take_add_one, h]
  simp
theorem foldl_max (ds : List Dd) (a : Int) (ha : 0 ≤ a) (ha2 : a ≤ 399) :
    let r := ds.foldl (fun a d => if d.pk < 400 then max a d.pk else a) a
    a ≤ r ∧ r ≤ 399 ∧ ∀ d ∈ ds, d.pk < 400 → d.pk ≤ r := by
  induction ds generalizing a with
  | nil => exact ⟨Int.le_refl _, ha2, (fun d hd => by cases hd)⟩
  | cons d ds ih =>
    simp only [List.foldl_cons]
    have h1 : a ≤ (if d.pk < 400 then max a d.pk else a) ∧ (if d.pk < 400 then max a d.pk else a) ≤ 399 ∧ (d.pk < 400 → d.pk ≤ if d.pk < 400 then max a d.pk else a) := by
      split <;> omega
    have := ih (if d.pk < 400 then max a d.pk else a) (by omega) h1.2.1
    refine ⟨by omega, this.2.1, fun x hx hx4 => ?_⟩
    rcases List.mem_cons.1 hx with rfl | hx
    · have := h1.2.2 hx4; omega
    · exact this.2.2 x hx hx4
theorem lastZ_bd (ds : List Dd) : 0 ≤ lastZ ds ∧ lastZ ds ≤ 399 ∧ ∀ d ∈ ds, d.pk < 400 → d.pk ≤ lastZ ds := foldl_max ds 0 (Int.le_refl _) (by omega)
/-- From this step on no deed touches a packet, and all messages are sent. -/
def s0Z (ds : List Dd) : Nat := max ((lastZ ds).toNat / 2 + 1) 32
theorem s0Z_clean (ds : List Dd) (h : bigD ds = false) (s k : Nat) (hs : s0Z ds ≤ s) : ∀ d ∈ ds, d.pk ≠ ((2 * s + k : Nat) : Int) := by
  intro d hd he
  have h1 : d.pk < 400 := by
    unfold bigD at h
    rw [List.any_eq_false] at h
    have := h d hd
    simp at this; omega
  have h2 := (lastZ_bd ds).2.2 d hd h1
  have h3 := (lastZ_bd ds).1
  unfold s0Z at hs
  omega

/-- How many messages end k has sent: end 0 comes first in a step. -/
def mS (N s k : Nat) : Nat → Nat := fun i => if i < k then min N (s + 1) else min N s
theorem mS_zero (N s : Nat) : mS N s 0 = fun _ => min N s := by funext i; simp [mS]
theorem mS_upd (N s k : Nat) : upd (mS N s k) k (min N (s + 1)) = mS N s (k + 1) := by
  funext i
  unfold upd mS
  by_cases h : i = k
  · rw [if_pos h, if_pos (by omega)]
  · rw [if_neg h]
    by_cases h2 : i < k
    · rw [if_pos h2, if_pos (by omega)]
    · rw [if_neg h2, if_neg (by omega)]
theorem mS_le (N s k : Nat) : ∀ i, mS N s k i ≤ mS N s (k + 1) i := by
  intro i; unfold mS; split <;> split <;> omega
theorem mS_at (N s k : Nat) : mS N s k k = min N s := by unfold mS; rw [if_neg (by omega)]
theorem La.mono {m m' f n : Nat → Nat} (h : La m f n) (hm : ∀ i, m i ≤ m' i) (hb : ∀ i, m' i ≤ 31) : La m' f n := ⟨h.fn, fun k hk => Nat.le_trans (h.nm k hk) (hm _), hb⟩
theorem mS_big (N s k : Nat) (h : N ≤ 31) : ∀ i, mS N s k i ≤ 31 := by intro i; unfold mS; split <;> omega

/-- The flights of the connection. -/
structure FlI (ds : List Dd) (sent : Nat) (m n : Nat → Nat) (fs : List Fl) : Prop where
  g : ∀ x ∈ fs, FlG m n x
  srt : Srt fs
  len : fs.length ≤ sent + cpk ds sent
theorem FlI.nil_ (ds : List Dd) (m n : Nat → Nat) : FlI ds 0 m n [] := ⟨(fun _ h => by cases h), List.Pairwise.nil, by simp⟩
theorem FlI.mono {ds : List Dd} {sent : Nat} {m n m' n' : Nat → Nat} {fs : List Fl} (h : FlI ds sent m n fs) (hm : ∀ k, m k ≤ m' k) (hn : ∀ k, n k ≤ n' k) : FlI ds sent m' n' fs :=
  ⟨fun x hx => (h.g x hx).mono hm hn, h.srt, h.len⟩
theorem FlI.le {ds : List Dd} {sent : Nat} {m n : Nat → Nat} {fs : List Fl} (h : FlI ds sent m n fs) (hs : sent ≤ 2000) (hd : ds.length ≤ 1000) : fs.length ≤ 3000 := by
  have := h.len
  have := cpk_le ds sent
  omega
theorem FlI.send {ds : List Dd} {sent : Nat} {m n : Nat → Nat} {fs fs' fl : List Fl} {now : Int} {k nx f0 c0 : Nat} (h : FlI ds sent m n fs) (ha : Adds fl fs fs') (hk : k < 2)
    (hf : fl.map Fl.key = (timesOf ds sent now).map fun t => (t, (sent : Int), (k : Int), ((1 - k : Nat) : Int), toZ (pkD k nx f0 c0))) (h1 : nx ≤ n k) (h2 : f0 ≤ n (1 - k)) (h3 : c0 ≤ m k) (h4 : f0 ≤ c0) :
    FlI ds (sent + 1) m n fs' := by
  refine ⟨fun x hx => ?_, (ha.1 h.srt).1, ?_⟩
  · rcases List.mem_append.1 (ha.2.2.mem_iff.1 hx) with hx | hx
    · exact h.g x hx
    · have hkey : x.key ∈ fl.map Fl.key := List.mem_map_of_mem hx
      rw [hf] at hkey
      obtain ⟨t, _, ht⟩ := List.mem_map.1 hkey
      simp only [Fl.key, Prod.mk.injEq] at ht
      exact ⟨⟨k, nx, f0, c0, hk, ht.2.2.1.symm, ht.2.2.2.1.symm, ht.2.2.2.2.symm, h1, h2, h3, h4⟩⟩
  · have h5 := congrArg List.length hf
    rw [List.length_map, List.length_map] at h5
    have h6 := times_le ds sent now
    have h7 := cpk_next ds sent
    have h8 := h.len
    have e1 : ((sent : Int) + 1) = ((sent + 1 : Nat) : Int) := by omega
    rw [e1] at h7
    rw [ha.2.1]
    omega
/-- A packet of this step without deeds. -/
structure Fresh (fs : List Fl) (now : Int) (k : Nat) (d : List Nat) : Prop where
  ex : ∃ y ∈ fs, y.due = now + 1 ∧ y.fr = (k : Int) ∧ y.dat = toZ d
theorem Fresh.adds {fs fs' fl : List Fl} {now : Int} {k : Nat} {d : List Nat} (h : Fresh fs now k d) (ha : Adds fl fs fs') : Fresh fs' now k d := by
  obtain ⟨y, hy, h2⟩ := h.ex
  exact ⟨y, ha.2.2.mem_iff.2 (List.mem_append_left _ hy), h2⟩
theorem Fresh.new {ds : List Dd} {sent : Nat} {fs fs' fl : List Fl} {now to : Int} {k : Nat} {d : List Nat} (ha : Adds fl fs fs')
    (hf : fl.map Fl.key = (timesOf ds sent now).map fun t => (t, (sent : Int), (k : Int), to, toZ d)) (hc : ∀ x ∈ ds, x.pk ≠ (sent : Int)) : Fresh fs' now k d := by
  rw [times_clean ds sent now hc] at hf
  have hm : (now + 1, (sent : Int), (k : Int), to, toZ d) ∈ fl.map Fl.key := by rw [hf]; simp
  obtain ⟨y, hy, hk⟩ := List.mem_map.1 hm
  simp only [Fl.key, Prod.mk.injEq] at hk
  exact ⟨y, ha.2.2.mem_iff.2 (List.mem_append_right _ hy), hk.1, hk.2.2.1, hk.2.2.2.2⟩
/-- What arrives holds it. -/
theorem Fresh.comes {fs l rest : List Fl} {now : Int} {k : Nat} {d : List Nat} (h : Fresh fs now k d) (hs : Srt fs) (he : fs = l ++ rest) (hr : ∀ f, rest[0]? = some f → now + 1 < f.due) : ∃ y ∈ l, y.fr = (k : Int) ∧ y.dat = toZ d := by
  obtain ⟨y, hy, h1, h2, h3⟩ := h.ex
  rw [he] at hy
  rcases List.mem_append.1 hy with hy | hy
  · exact ⟨y, hy, h2, h3⟩
  · exfalso
    cases rest with
    | nil => cases hy
    | cons z rest =>
      have hz := hr z rfl
      rcases List.mem_cons.1 hy with rfl | hy
      · omega
      · have hs2 : Srt (z :: rest) := by
          unfold Srt at hs ⊢
          rw [he] at hs
          exact (List.pairwise_append.1 hs).2.1
        have := (List.pairwise_cons.1 hs2).1 y hy
        omega
theorem FlI.step {ds : List Dd} {sent : Nat} {m n : Nat → Nat} {fs l rest : List Fl} (h : FlI ds sent m n fs) (he : fs = l ++ rest) : FlI ds sent m n rest ∧ (∀ x ∈ l, FlG m n x) ∧ l.length ≤ fs.length := by
  refine ⟨⟨fun x hx => h.g x (by rw [he]; exact List.mem_append_right _ hx), ?_, ?_⟩, fun x hx => h.g x (by rw [he]; exact List.mem_append_left _ hx), by rw [he, List.length_append]; omega⟩
  · have hs := h.srt
    unfold Srt at hs ⊢
    rw [he] at hs
    exact (List.pairwise_append.1 hs).2.1
  · have := h.len
    rw [he, List.length_append] at this
    omega
end Go.Proofs.Ytlgcdcjfobfoiaa
