/-
  The contract of mapFault with no condition on sizes, and of the maker of one field (function 167). Conditions: what is read can be read.
-/
import Derived.Test.YtnidcmhfbkdioaaKn
namespace Go.Proofs.Ytnidcmhfbkdioaa
open Go.RowKit
set_option maxRecDepth 100000

theorem oneF_small {nm : ByteArray} {fds : List Fd} (h : oneF nm fds = 0) : fds.length ≤ 8 := by
  unfold oneF at h
  split at h
  · cases h
  · split at h
    · cases h
    · omega
theorem chkF_small : ∀ (l seen : List (ByteArray × List Fd)), chkF seen l = 0 → ∀ k ∈ l, k.2.length ≤ 8
  | [], _, _, _, hk => by cases hk
  | a :: l, seen, h, k, hk => by
    rw [chkF_at] at h
    split at h
    · rename_i h1; exact absurd h h1
    · rename_i h1
      split at h
      · cases h
      · rcases List.mem_cons.1 hk with rfl | hk
        · exact oneF_small (Decidable.not_not.1 h1)
        · exact chkF_small l _ h k hk
theorem checkF_small {l : List (ByteArray × List Fd)} (h : checkF l = 0) : ∀ k ∈ l, k.2.length ≤ 8 := by
  unfold checkF at h
  split at h
  · cases h
  · exact chkF_small _ _ h
theorem mapFault_says {w : World} {B n c : Nat} {A : Option Addr} {ks : List Kd} (h : KsOk w B A n c ks) : Calls Try.prog 20 #[.slice A n c] w (OfP w (mapF (ks.map Kd.p))) :=
  mapFault_any h fun h0 k hk => by
    have h1 := checkF_small h0 (Kd.p k) (List.mem_map_of_mem hk)
    have h2 := (h.ok k hk).len
    have h3 : (Kd.p k).2 = k.fds := rfl
    rw [h3] at h1
    omega
theorem of_says {w : World} {B n c : Nat} {A : Option Addr} {ks : List Kd} (h : KsOk w B A n c ks) : Calls Try.prog 19 #[.slice A n c] w (OfP w (mapF (ks.map Kd.p))) := by
  have := of_any h
  rwa [of_is_map] at this

theorem results_cell_one {fn : Func} {p : Tmp} {ty : TypeId} (h : fn.results = #[.cell p ty]) (tmps : Array Value) (P : Program) (w : World) :
    (results fn tmps).run P w = ((asAddr (tmps.getD p undef)).run P w).andThen fun a w₁ => (loadVar ty a).run P w₁ := by
  simp only [results, h]
  simp [Sem.run_bind, Result.andThen]

set_option maxHeartbeats 800000 in
theorem fieldMk_any (nm : ByteArray) (b l : Int) (w : World) : Calls Try.prog 167 #[.string nm, .int .i64 b, .int .i64 l] w fun e w' => e = .returned (.agg #[.string nm, .int .i64 b, .int .i64 l]) ∧ Below w.heap.size w w' := by
  have hk := Bk.new w 66 #[.string ByteArray.empty, .int .i64 0, .int .i64 0]
  have q0 := hk.cell 0
  have q1 := hk.cell 1
  have q2 := hk.cell 2
  have g0 := hk.frozen 0
  have g1 := hk.frozen 1
  have g2 := hk.frozen 2
  simp only [List.getElem?_toArray, List.getElem?_cons_zero, List.getElem?_cons_succ] at q0 q1 q2
  clear hk
  go_enter Try.func167, Try.ntmps167
  go_wp2_with fail
  (try simp only [Exit.inBlock, Exit.then])
  refine bodyPost_ret (v := .agg #[.string nm, .int .i64 b, .int .i64 l]) ?_ rfl ⟨rfl, ?_⟩
  · rw [results_cell_one rfl]
    go_simp
  · exact (Below.refl _ w).alloc (Nat.le_refl _) _
end Go.Proofs.Ytnidcmhfbkdioaa
