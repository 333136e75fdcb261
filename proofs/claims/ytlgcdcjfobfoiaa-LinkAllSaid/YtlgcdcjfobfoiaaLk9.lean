/-
  Slices that are cut in front, as one equation; the reference's Packet. Conditions: a half in memory, messages of at most 1000 bytes.
-/
import Derived.Test.YtlgcdcjfobfoiaaLk8
namespace Go.Proofs.Ytlgcdcjfobfoiaa
open Go.RowKit
set_option maxRecDepth 100000

/-- Where a slice lies behind its first k elements (of one cell). -/
def cutA (A : Option Addr) (c k : Nat) : Option Addr := if c = k then A else A.map (·.add k)
theorem Rd.cut {w : World} {B n c k : Nat} {A : Option Addr} {xs : List Value} (h : Rd w B 1 A n xs) (hk : k ≤ n) (hc : n ≤ c) : Rd w B 1 (cutA A c k) (n - k) (xs.drop k) := by
  refine ⟨by rw [List.length_drop, h.1]; omega, fun hn => ?_⟩
  obtain ⟨b, o, rfl, hb, hcell⟩ := h.2 (by omega)
  refine ⟨b, o + k, by unfold cutA; rw [if_neg (by omega)]; simp [Addr.add_lit], hb, fun j u hu => ?_⟩
  rw [List.getElem?_drop] at hu
  have := hcell (k + j) u hu
  rwa [← Nat.add_assoc] at this
theorem Tr.cut {w : World} {n c k : Nat} {e : TypeId} {A : Option Addr} {xs : List Value} (h : Tr w e 1 A n xs) (hk : k ≤ n) (hc : n ≤ c) : Tr w e 1 (cutA A c k) (n - k) (xs.drop k) := by
  refine ⟨by rw [List.length_drop, h.1]; omega, fun hn => ?_⟩
  obtain ⟨b, o, cs, rfl, hb, hcell⟩ := h.2 (by omega)
  refine ⟨b, o + k, cs, by unfold cutA; rw [if_neg (by omega)]; simp [Addr.add_lit], hb, fun j u hu => ?_⟩
  rw [List.getElem?_drop] at hu
  have := hcell (k + j) u hu
  rwa [← Nat.add_assoc] at this
theorem cut_run (T : TypeId) (e : TypeId) (hT : Try.prog.underlying T = some (.slice e)) (he : Try.prog.elem T = e) (hs : ∀ w, (Go.sizeOf e).run Try.prog w = .ok 1 w) (A : Option Addr) (n c k : Nat) (hk : k ≤ n) (wx : World) : (Instr.sliceAt T (.slice A n c) (some (.int .i64 (k : Int))) none none).run Try.prog wx = .ok (.slice (cutA A c k) (n - k) (c - k)) wx := by
  have hT' : Try.prog.underlying T = some (.slice (Try.prog.elem T)) := by rw [he]; exact hT
  rw [run_sliceAt_slice wx T _ _ _ _ hT', run_slice_l wx T A n c hT' .i64 (k : Int) (by omega) (by omega), he, hs]
  simp only [Result.andThen, sliced, Int.toNat_natCast, Nat.mul_one]
  rfl
theorem size30 (w : World) : (Go.sizeOf 30).run Try.prog w = .ok 1 w := by kernel_rfl
theorem size5 (w : World) : (Go.sizeOf 5).run Try.prog w = .ok 1 w := by kernel_rfl
theorem cut_74 (A : Option Addr) (n c k : Nat) (hk : k ≤ n) (wx : World) : (Instr.sliceAt 74 (.slice A n c) (some (.int .i64 (k : Int))) none none).run Try.prog wx = .ok (.slice (cutA A c k) (n - k) (c - k)) wx :=
  cut_run 74 30 Try.underlying74 (by kernel_rfl) size30 A n c k hk wx
theorem cut_30 (A : Option Addr) (n c k : Nat) (hk : k ≤ n) (wx : World) : (Instr.sliceAt 30 (.slice A n c) (some (.int .i64 (k : Int))) none none).run Try.prog wx = .ok (.slice (cutA A c k) (n - k) (c - k)) wx :=
  cut_run 30 5 Try.underlying30 (by kernel_rfl) size5 A n c k hk wx

theorem concat3_any {B0 : Nat} (m1 m2 m3 : Ms) (w : World) (h1 : MsOk w m1) (h2 : MsOk w m2) (h3 : MsOk w m3) (h0 : 0 < m1.n + m2.n + m3.n) (hle : m1.n + m2.n + m3.n ≤ 1000000) (hB : B0 ≤ w.heap.size) :
    Calls Try.prog 77 #[.slice (some ⟨w.heap.size, 0, none⟩) 3 3] (w.alloc (.cells #[.slice m1.A m1.n m1.c, .slice m2.A m2.n m2.c, .slice m3.A m3.n m3.c] 30)) (NumP w B0 (m1.n + m2.n + m3.n) (m1.dat ++ m2.dat ++ m3.dat)) := by
  have hb := (Below.refl w.heap.size w).alloc (Nat.le_refl _) (.cells #[.slice m1.A m1.n m1.c, .slice m2.A m2.n m2.c, .slice m3.A m3.n m3.c] 30)
  have hcat : catD [m1, m2, m3] = m1.dat ++ m2.dat ++ m3.dat := by simp [catD]
  have hlen : (catD [m1, m2, m3]).length = m1.n + m2.n + m3.n := by rw [hcat, h1.len, h2.len, h3.len]; simp; omega
  have hc := concat_any (some ⟨w.heap.size, 0, none⟩) 3 3 (w.heap.size + 1) [m1, m2, m3] _ (Rd.lit w [.slice m1.A m1.n m1.c, .slice m2.A m2.n m2.c, .slice m3.A m3.n m3.c] 30) rfl (by omega) (by
    intro m hm
    simp only [List.mem_cons, List.not_mem_nil, or_false] at hm
    rcases hm with rfl | rfl | rfl
    · exact h1.below hb
    · exact h2.below hb
    · exact h3.below hb) (by omega) (by omega) (by simp)
  refine hc.mono ?_
  rintro e w' ⟨A, c, rfl, hown, hb2⟩
  rw [hlen, hcat] at hown
  exact ⟨A, c, by rw [hlen], own_mono hown (by simp; omega), ((hb.mono hB).trans (hb2.mono (by simp; omega)))⟩

theorem MsOk.of_tr {w : World} {A : Option Addr} {n c : Nat} {l : List Nat} (h : Tr w 5 1 A n (bytesV l)) (hn : n = l.length) (hc : n ≤ c) (hc2 : c ≤ 9223372036854775807) (hl : ∀ b ∈ l, b < 256) : MsOk w ⟨A, n, c, l⟩ := ⟨h, hn, hc, hc2, hl⟩
end Go.Proofs.Ytlgcdcjfobfoiaa
