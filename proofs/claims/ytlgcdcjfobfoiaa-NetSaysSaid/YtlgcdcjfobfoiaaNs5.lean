/-
  The contract of slices.EqualFunc over packets, where the packets are equal. Conditions: what is read can be read, bytes are bytes.
-/
import Derived.Test.YtlgcdcjfobfoiaaNs4
namespace Go.Proofs.Ytlgcdcjfobfoiaa
open Go.RowKit
set_option maxRecDepth 100000

def u8s (l : List Int) : Prop := ∀ x ∈ l, 0 ≤ x ∧ x ≤ 255
theorem u8s_bytes {l : List Int} (h : u8s l) : l.map (Value.int .u8) = bytesV (l.map Int.toNat) ∧ (∀ b ∈ l.map Int.toNat, b < 256) := by
  constructor
  · unfold bytesV
    rw [List.map_map]
    refine List.map_congr_left fun i hi => ?_
    have := h i hi
    simp; omega
  · intro b hb
    simp only [List.mem_map] at hb
    obtain ⟨i, hi, rfl⟩ := hb
    have := h i hi
    omega

set_option maxHeartbeats 800000 in
theorem pkEq_any (fr to : Int) (A A' : Option Addr) (n c n' c' B : Nat) (dat : List Int) (w : World) (hr : Rd w B 1 A n (dat.map (Value.int .u8))) (hr' : Rd w B 1 A' n' (dat.map (Value.int .u8))) (hb : u8s dat) (hB : B ≤ w.heap.size) :
    Calls Try.prog 33 #[.agg #[.int .i64 fr, .int .i64 to, .slice A n c], .agg #[.int .i64 fr, .int .i64 to, .slice A' n' c']] w fun e w' => e = .returned (.bool true) ∧ Below w.heap.size w w' := by
  obtain ⟨e1, e2⟩ := u8s_bytes hb
  rw [e1] at hr hr'
  have hb1 : Below B w ((w.alloc (.cells #[.int .i64 fr, .int .i64 to, .slice A n c] 45)).alloc (.cells #[.int .i64 fr, .int .i64 to, .slice A' n' c'] 45)) := ((Below.refl _ _).alloc hB _).alloc (by simp; omega) _
  have hq := bytesEqual_any A A' n c n' c' B (dat.map Int.toNat) (dat.map Int.toNat) _ e2 e2 (hr.below hb1) (hr'.below hb1)
  simp only [decide_true] at hq
  have HQ := Lib.hid hq
  clear hq hr hr' hb1 e1 e2 hb
  go_enter Try.func33, Try.ntmps33
  go_wp2_with fail
  refine HQ.out.mono ?_
  rintro e w2 ⟨rfl, rfl⟩
  go_wp2_with fail
  go_ret
  exact ⟨rfl, ((Below.refl _ _).alloc (Nat.le_refl _) _).alloc (by simp) _⟩

set_option maxHeartbeats 1600000 in
theorem eqPk_any (A A' : Option Addr) (n c c' : Nat) (L L' : List Fl) (w : World) (hr : Tr w 45 3 A n (pkCs L)) (hr' : Tr w 45 3 A' n (pkCs L')) (hn : n = L.length) (hn' : n = L'.length) (hn1 : n ≤ 1100000) (hk : L.map Fl.key = L'.map Fl.key) (hd : DatOk w L) (hd' : DatOk w L') (hb : ∀ f ∈ L, u8s f.dat) :
    Calls Try.prog 32 #[.slice A n c, .slice A' n c', .func (.func 33) #[] #[]] w fun e w' => e = .returned (.bool true) ∧ Below w.heap.size w w' := by
  have HR := Lib.hid hr
  have HR' := Lib.hid hr'
  have HN := Lib.hid hn
  have HN' := Lib.hid hn'
  have HK := Lib.hid hk
  have HD := Lib.hid hd
  have HD' := Lib.hid hd'
  have HB := Lib.hid hb
  clear hr hr' hn hn' hk hd hd' hb
  go_enter Try.func32, Try.ntmps32
  go_wp2_with fail
  go_loopw [17] (fun v wr => ∃ k : Nat, k ≤ n ∧ v = .int .i64 k ∧ Below w.heap.size w wr) (fun v _ => n - (intOf v).toNat)
  case atStart => exact ⟨0, Nat.zero_le _, rfl, Below.refl _ _⟩
  case round =>
    obtain ⟨k, hk, rfl, hb⟩ := hrel
    have hsz := hb.size
    by_cases hlt : k < n
    · obtain ⟨f, hf⟩ : ∃ f, L[k]? = some f := ⟨_, List.getElem?_eq_getElem (by have := HN.out; omega)⟩
      obtain ⟨f', hf'⟩ : ∃ f', L'[k]? = some f' := ⟨_, List.getElem?_eq_getElem (by have := HN'.out; omega)⟩
      have hkey : f.key = f'.key := by
        have h1 : (L.map Fl.key)[k]? = some f.key := by rw [List.getElem?_map, hf]; rfl
        have h2 : (L'.map Fl.key)[k]? = some f'.key := by rw [List.getElem?_map, hf']; rfl
        rw [HK.out, h2] at h1
        injection h1 with h1
        exact h1.symm
      simp only [Fl.key, Prod.mk.injEq] at hkey
      obtain ⟨_, _, k3, k4, k5⟩ := hkey
      obtain ⟨b, o, rfl, _, q0, q1, q2⟩ := (HR.out.below hb).rd.pk k f hf hlt
      obtain ⟨b', o', rfl, _, r0, r1, r2⟩ := (HR'.out.below hb).rd.pk k f' hf' hlt
      have hB2 := ((hb.alloc hsz (.cells #[.int .i64 f.fr, .int .i64 f.to, .slice f.A f.n f.c] 45)).alloc (by simp; omega) (.cells #[.int .i64 f'.fr, .int .i64 f'.to, .slice f'.A f'.n f'.c] 45))
      rw [← k3, ← k4] at hB2
      rw [← k3] at r0
      rw [← k4] at r1
      have hc := pkEq_any f.fr f.to f.A f'.A f.n f.c f'.n f'.c w.heap.size f.dat _ ((HD.out f (List.mem_of_getElem? hf)).1.rd.below hB2) (by have := (HD'.out f' (List.mem_of_getElem? hf')).1.rd.below hB2; rw [← k5] at this; exact this) (HB.out f (List.mem_of_getElem? hf)) hB2.size
      have HC := Lib.hid hc
      clear hc hf hf' k3 k4 k5
      go_wp2_with fail
      refine HC.out.mono ?_
      rintro e w2 ⟨rfl, hb2⟩
      have hbb := hB2.trans (hb2.mono hB2.size)
      clear hb2 hB2 hb HC q0 q1 q2 r0 r1 r2
      go_wp2_with fail
      go_roundw
      case rel => exact ⟨k + 1, by omega, by go_num, hbb⟩
      case measure => simp [intOf]; omega
    · obtain rfl : k = n := by omega
      go_wp2_with fail
      go_ret
      exact ⟨rfl, hb⟩
end Go.Proofs.Ytlgcdcjfobfoiaa
