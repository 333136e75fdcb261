/-
  The contracts of Bits.Bytes, input.Pack and the reference's Packed. Conditions: sizes within the reach.
-/
import Derived.Test.YtlgcdcjfobfoiaaIn2
namespace Go.Proofs.Ytlgcdcjfobfoiaa
open Go.RowKit
set_option maxRecDepth 100000

theorem grownB_of {l : List Bool} (L : List Nat) (h : L = packB l) : grownB l = if l.length % 8 = 0 then L ++ [0] else L := by rw [h]; rfl
theorem packB_push' (l : List Bool) (x : Bool) : packB (l ++ [x]) = if x then (grownB l).set (l.length / 8) ((grownB l).getD (l.length / 8) 0 + 2 ^ (l.length % 8)) else grownB l := by
  have h := packB_snoc l x
  have hl := packB_length l
  rw [h, pushB]
  unfold grownB
  by_cases h8 : l.length % 8 = 0
  · rw [if_pos h8, if_pos h8]
    have e : l.length / 8 = (packB l).length := by omega
    rw [e, h8]
    cases x <;> simp [List.getD]
  · rw [if_neg h8, if_neg h8]
    cases x
    · simp
      rw [List.getElem?_eq_getElem (by omega)]
      simp
    · simp

theorem shl1 (k : Nat) (h : k < 8) (old : Nat) (ho : old < 2 ^ k) : ((old : Int) + 2 ^ k % 256) % 256 = ((old + 2 ^ k : Nat) : Int) := by
  have hp : 2 ^ k ≤ 2 ^ 7 := Nat.pow_le_pow_right (by omega) (by omega)
  have e : (2 : Int) ^ k = ((2 ^ k : Nat) : Int) := by norm_cast
  rw [e]; omega

theorem bytes_store {W : World} {base g n c j s old : Nat} {G : List Nat} (ho : W.ownsRow base 5 1 (.slice (some ⟨g, 0, none⟩) n c) n (bytesV G)) (hold : old = G.getD j 0) (hlt : G.getD j 0 < 2 ^ s) (hs : s < 8) (hn : n = G.length) :
    (W.setCell ⟨g, j, none⟩ (.int .u8 (((old : Int) + 2 ^ s) % 256))).drew.ownsRow base 5 1 (.slice (some ⟨g, 0, none⟩) (G.set j (G.getD j 0 + 2 ^ s)).length c) (G.set j (G.getD j 0 + 2 ^ s)).length (bytesV (G.set j (G.getD j 0 + 2 ^ s))) := by
  have e : (((old : Int) + 2 ^ s) % 256) = ((G.getD j 0 + 2 ^ s : Nat) : Int) := by
    have hp : 2 ^ s ≤ 2 ^ 7 := Nat.pow_le_pow_right (by omega) (by omega)
    have e : (2 : Int) ^ s = ((2 ^ s : Nat) : Int) := by norm_cast
    rw [e]; omega
  rw [e, List.length_set, ← hn]
  have := (ho.stored j (.int .u8 ((G.getD j 0 + 2 ^ s : Nat) : Int))).1
  rw [bytesV_set] at this
  exact this

set_option maxHeartbeats 1600000 in
theorem bytes_any (A : Option Addr) (m c B : Nat) (bits : List Bool) (w : World) (hm : m = bits.length) (hr : Rd w B 1 A m (boolsV bits)) (hB : B ≤ w.heap.size) (hs : m ≤ 140737488355328) :
    Calls Try.prog 67 #[.slice A m c] w (RetS w 5 1 (packB bits).length (bytesV (packB bits))) := by
  obtain ⟨i0, hi0, hz0, hz1, hz2⟩ := info_parts T.info5
  have HM := Lib.hid hm
  have HR := Lib.hid hr
  clear hm hr
  go_enter Try.func67, Try.ntmps67
  go_wp2_with fail
  go_loopw [3, 8] (fun o i wr => ∃ (k : Nat) (L : List Nat) (A2 : Option Addr) (c2 : Nat), k ≤ m ∧ i = .int .i64 k ∧ L = packB (bits.take k) ∧ o = .slice A2 L.length c2 ∧ wr.ownsRow w.heap.size 5 1 (.slice A2 L.length c2) L.length (bytesV L) ∧ Below w.heap.size w wr) (fun _ i _ => m - (intOf i).toNat)
  case atStart => exact ⟨0, [], none, 0, Nat.zero_le _, rfl, rfl, rfl, World.ownsRow_nil _ _ _ _, Below.refl _ _⟩
  case round =>
    obtain ⟨k, L, A2, c2, hk, rfl, hL, rfl, hown, hb⟩ := hrel
    have hsz := hb.size
    by_cases hlt : k < m
    · have hml := HM.out
      have hbk : bits[k]? = some (bits[k]'(by omega)) := List.getElem?_eq_getElem (by omega)
      generalize bits[k]'(by omega) = x at hbk
      obtain ⟨b, o, rfl, hbB, hcell⟩ := HR.out.at1 (u := .bool x) hlt (by simp [boolsV, hbk])
      have c0 : wr.cell? ⟨b, o + k, none⟩ = some (.bool x) := (hb.cell (p := ⟨b, o + k, none⟩) (by show b < w.heap.size; omega)).trans hcell
      have htk : bits.take (k + 1) = bits.take k ++ [x] := by rw [List.take_add_one, hbk]; rfl
      have htl : (bits.take k).length = k := by rw [List.length_take]; omega
      have hpl : L.length = (k + 7) / 8 := by rw [hL, packB_length, htl]
      have hgb := grownB_of L hL
      have hpush := packB_push' (bits.take k) x
      rw [← htk, htl] at hpush
      have hgl := grownB_length (bits.take k)
      have hglast := grownB_last (bits.take k)
      rw [htl] at hgb hgl hglast
      generalize grownB (bits.take k) = G at *
      have HG := Lib.hid hgb
      have HP := Lib.hid hpush
      have HGL := Lib.hid hgl
      have HGT := Lib.hid hglast
      clear hcell hbk htk htl hml hgb hpush hgl hglast hL
      by_cases h8 : k % 8 = 0
      · have t8 : ((k : Int) % 8 == 0) = true := by simp; omega
        have hb1 : (k : Int) / 8 < (L.length : Int) + 1 := by omega
        have hb2 : ((k : Int) / 8).toNat = k / 8 := by omega
        have hb0 : 0 ≤ (k : Int) / 8 := by omega
        have hbd : L.length ≤ 140737488355327 := by omega
        have hG : G = L ++ [0] := by rw [HG.out, if_pos h8]
        have H8 := Lib.hid h8
        have HPL := Lib.hid hpl
        subst hG
        clear h8 hpl
        cases x with
        | true =>
          go_wp2_with
            (at_builtin
             go_must (refine wpList_append_one _ rfl (.tmp 16) (.tmp 17) _ rfl w.heap.size 5 i0 (.int .u8 0) 1 1 Try.underlying30 hi0 hz0 hz1 hz2 rfl (by decide) _ _ _ rfl (hown.alloc _) wr.heap.size 1 5 #[.int .u8 0] rfl (Bk.new _ _ _) rfl ?c1 _ rfl ?c2 ?c3 ?c4 ?_)
             case c1 => simp [Value.oneCell']
             case c2 => unfold maxLen; omega
             case c3 => omega
             case c4 => simp; omega
             intro g3 c3 w3 hown3 hg3 hat3)
          have hown4 : w3.ownsRow w.heap.size 5 1 (.slice (some ⟨g3, 0, none⟩) (L.length + 1) c3) (L.length + 1) (bytesV (L ++ [0])) := by rw [bytesV_append]; exact hown3
          have hb3 := (hb.alloc hsz _).grown hg3 (by simp; omega) (fun q hq => (hown.lt q hq).1)
          obtain ⟨old, hold⟩ : ∃ old, old = (L ++ [0]).getD (k / 8) 0 := ⟨_, rfl⟩
          have q2 : w3.cell? ⟨g3, k / 8, none⟩ = some (.int .u8 old) := by
            rw [hown4.cellAt _ (by have := HGL.out; simp at this; omega), bytesV_get _ _ (by have := HGL.out; omega), hold]
          have q3 := hown4.frozenAt (k / 8)
          have HO := Lib.hid hold
          clear hown3 hg3 hat3 hown hold
          go_region
          go_wp2
          go_roundw
          case measure => simp [intOf]; omega
          case rel =>
            refine ⟨k + 1, (L ++ [0]).set (k / 8) ((L ++ [0]).getD (k / 8) 0 + 2 ^ (k % 8)), some ⟨g3, 0, none⟩, c3, by omega, by go_num, by rw [HP.out]; rfl, by simp, ?_, ?_⟩
            · exact bytes_store hown4 HO.out HGT.out (by omega) (by simp)
            · exact (hb3.setCell (hown4.lt g3 rfl).1 _).drew
        | false =>
          go_wp2_with
            (at_builtin
             go_must (refine wpList_append_one _ rfl (.tmp 16) (.tmp 17) _ rfl w.heap.size 5 i0 (.int .u8 0) 1 1 Try.underlying30 hi0 hz0 hz1 hz2 rfl (by decide) _ _ _ rfl (hown.alloc _) wr.heap.size 1 5 #[.int .u8 0] rfl (Bk.new _ _ _) rfl ?c1 _ rfl ?c2 ?c3 ?c4 ?_)
             case c1 => simp [Value.oneCell']
             case c2 => unfold maxLen; omega
             case c3 => omega
             case c4 => simp; omega
             intro g3 c3 w3 hown3 hg3 hat3)
          go_roundw
          case measure => simp [intOf]; omega
          case rel =>
            refine ⟨k + 1, L ++ [0], some ⟨g3, 0, none⟩, c3, by omega, by go_num, by rw [HP.out]; rfl, by simp, ?_, (hb.alloc hsz _).grown hg3 (by simp; omega) (fun q hq => (hown.lt q hq).1)⟩
            rw [bytesV_append, List.length_append]; exact hown3
      · have t8 : ((k : Int) % 8 == 0) = false := by simp; omega
        have hb1 : (k : Int) / 8 < (L.length : Int) := by omega
        have hb2 : ((k : Int) / 8).toNat = k / 8 := by omega
        have hb0 : 0 ≤ (k : Int) / 8 := by omega
        have hG : G = L := by rw [HG.out, if_neg h8]
        subst hG
        obtain ⟨g3, c3, hv, _, _⟩ := hown.form (by omega)
        have hA : A2 = some ⟨g3, 0, none⟩ := by injection hv
        subst hA
        have H8 := Lib.hid h8
        have HPL := Lib.hid hpl
        clear h8 hpl hv
        cases x with
        | true =>
          obtain ⟨old, hold⟩ : ∃ old, old = G.getD (k / 8) 0 := ⟨_, rfl⟩
          have q2 : wr.cell? ⟨g3, k / 8, none⟩ = some (.int .u8 old) := by
            rw [hown.cellAt _ (by have := HGL.out; omega), bytesV_get _ _ (by have := HGL.out; omega), hold]
          have q3 := hown.frozenAt (k / 8)
          have HO := Lib.hid hold
          clear hold
          go_wp2_with fail
          go_region
          go_wp2
          go_roundw
          case measure => simp [intOf]; omega
          case rel =>
            refine ⟨k + 1, G.set (k / 8) (G.getD (k / 8) 0 + 2 ^ (k % 8)), some ⟨g3, 0, none⟩, c2, by omega, by go_num, by rw [HP.out]; rfl, by simp, ?_, ?_⟩
            · exact bytes_store hown HO.out HGT.out (by omega) rfl
            · exact (hb.setCell (hown.lt g3 rfl).1 _).drew
        | false =>
          go_wp2_with fail
          go_roundw
          case measure => simp [intOf]; omega
          case rel =>
            exact ⟨k + 1, G, some ⟨g3, 0, none⟩, c2, by omega, by go_num, by rw [HP.out]; rfl, rfl, hown, hb⟩
    · go_wp2
      go_ret
      obtain rfl : k = m := by omega
      have hml := HM.out
      rw [List.take_of_length_le (by omega)] at hL
      subst hL
      exact ⟨A2, c2, by simp, hown, hb⟩
end Go.Proofs.Ytlgcdcjfobfoiaa
