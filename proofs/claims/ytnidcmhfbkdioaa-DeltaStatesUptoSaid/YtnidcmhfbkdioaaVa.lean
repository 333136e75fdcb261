/-
  The contract of game.text. Conditions: a row of numbers of one's own.
-/
import Derived.Test.YtnidcmhfbkdioaaUe
import Derived.Test.YtnidcmhfbkdioaaMa
namespace Go.Proofs.Ytnidcmhfbkdioaa
open Go.RowKit
set_option maxRecDepth 100000

theorem Gb.more {a b c : World} {r r' : Option Nat} (h : a.grownBy b r) (k : b.grownBy c r') (hr : r' = r ∨ ∀ g, r' = some g → a.heap.size ≤ g) : a.grownBy c r :=
  ⟨k.os.trans h.os, k.tape.trans h.tape, k.output.trans h.output, Nat.le_trans h.size k.size, fun i hi hne => (k.block i (Nat.lt_of_lt_of_le hi h.size) (fun e => by
    rcases hr with hr | hr
    · exact hne (by rw [← hr]; exact e)
    · have := hr i e.symm; omega)).trans (h.block i hi hne)⟩
theorem Gb.alloc {a b : World} {r : Option Nat} (h : a.grownBy b r) (o : Obj) : a.grownBy (b.alloc o) r :=
  ⟨h.os, h.tape, h.output, Nat.le_trans h.size ((Below.refl b.heap.size b).alloc (Nat.le_refl _) o).size, fun i hi hne => (Below.heap_alloc b o i (Nat.lt_of_lt_of_le hi h.size)).trans (h.block i hi hne)⟩
def byteL (s : ByteArray) : List Int := s.data.toList.map (fun b => (b.toNat : Int))
theorem byteL_length (s : ByteArray) : (byteL s).length = s.size := by unfold byteL; rw [List.length_map]; exact Array.length_toList
def textF (s : ByteArray) : List Int := (s.size : Int) :: byteL s
theorem bytesRow_get (s : ByteArray) (cap k : Nat) (x : Int) (h : (byteL s)[k]? = some x) : (bytesRow s cap)[k]? = some (.int .u8 x) := by
  have hk : k < s.data.size := by
    have := (List.getElem?_eq_some_iff.1 h).1
    rw [byteL_length] at this
    exact this
  unfold byteL at h
  rw [List.getElem?_map, Array.getElem?_toList, Array.getElem?_eq_getElem hk] at h
  injection h with h
  unfold bytesRow
  rw [Array.getElem?_append_left (by simpa using hk), Array.getElem?_map, Array.getElem?_eq_getElem hk, ← h]
  rfl
/-- Where the row that grows may lie: where it lay, or in new memory. -/
def OwnT (w : World) (v v' : Value) : Prop := v'.ownBlock = v.ownBlock ∨ ∀ g, v'.ownBlock = some g → w.heap.size ≤ g
theorem own_obj {w : World} {base : Nat} {e t : TypeId} {size n g : Nat} {v : Value} {xs : List Value} {cs : Array Value} {fr : Nat × Nat} (h : w.ownsRow base e size v n xs) (hg : w.heap[g]? = some (.cells cs t fr)) (hne : e ≠ t) : v.ownBlock ≠ some g := by
  rcases h.2 with ⟨rfl, _⟩ | ⟨g', cap, cur, rfl, _, hh, _⟩
  · simp [Value.ownBlock]
  · intro he
    have : g' = g := by simpa [Value.ownBlock] using he
    subst this
    rw [hg] at hh
    injection hh with hh
    injection hh with _ ht
    exact hne ht.symm

set_option maxHeartbeats 800000 in
theorem gtext_any (base n c : Nat) (A : Option Addr) (xs : List Int) (s : ByteArray) (w : World) (hown : w.ownsRow base 3 1 (.slice A n c) n (xs.map (Value.int .i64))) (hn : n + 1 + s.size ≤ 1000000) (hb : base ≤ w.heap.size) :
    Calls Try.prog 185 #[.slice A n c, .string s] w fun e w' => ∃ A' c', e = .returned (.slice A' (n + 1 + s.size) c') ∧ w'.ownsRow base 3 1 (.slice A' (n + 1 + s.size) c') (n + 1 + s.size) ((xs ++ textF s).map (Value.int .i64)) ∧ w.grownBy w' (Value.slice A n c).ownBlock ∧ OwnT w (.slice A n c) (.slice A' (n + 1 + s.size) c') := by
  obtain ⟨i3, hi3, hz30, hz31, hz32⟩ := info_parts T.info3
  go_enter Try.func185, Try.ntmps185
  go_wp2_with
    (at_builtin
     go_must (refine wpList_append_one _ rfl (.tmp 7) (.tmp 10) _ rfl base 3 i3 (.int .i64 0) 1 8 Try.underlying30 hi3 hz30 hz31 hz32 rfl (by decide) (.slice A n c) n _ rfl (hown.alloc _) w.heap.size 1 3 #[.int .i64 s.size] rfl (Bk.new _ _ _) rfl ?c1 (n + 1) rfl ?c2 ?c3 ?c4 ?_)
     case c1 => simp [Value.oneCell']
     case c2 => unfold maxLen; omega
     case c3 => omega
     case c4 => simp; omega
     intro g1 c1 w1 hown1 hg1 hat1
     have hcv := run_bytes_of_string (P := Try.prog) w1 9 81 5 s Try.underlying9 Try.underlying81 Try.underlying5)
  clear hcv
  obtain ⟨W1, hW1⟩ : ∃ W1, W1 = (w1.alloc (.cells (bytesRow s (grownCap w1 s.size 0 5)) 5 ((bytesRow s (grownCap w1 s.size 0 5)).size, (bytesRow s (grownCap w1 s.size 0 5)).size + 1))).drew := ⟨_, rfl⟩
  have HO : Hid (W1.ownsRow base 3 1 (.slice (some ⟨g1, 0, none⟩) (n + 1) c1) (n + 1) ((xs ++ ((s.size : Int) :: (byteL s).take 0)).map (Value.int .i64))) := Lib.hid (by rw [hW1]; rw [List.map_append]; exact World.ownsRow.drew (World.ownsRow.alloc hown1 _))
  have HH : Hid (W1.heap[w1.heap.size]? = some (.cells (bytesRow s (grownCap w1 s.size 0 5)) 5 ((bytesRow s (grownCap w1 s.size 0 5)).size, (bytesRow s (grownCap w1 s.size 0 5)).size + 1))) := Lib.hid (by rw [hW1]; exact heap_alloc_new w1 _)
  have HG : Hid (w.grownBy W1 (Value.slice A n c).ownBlock) := Lib.hid (by
    rw [hW1]
    exact Gb.drew (Gb.alloc (Gb.more (Gb.alloc (World.grownBy.refl w _) _) hg1 (.inl rfl)) _))
  have HT : Hid (OwnT w (.slice A n c) (.slice (some ⟨g1, 0, none⟩) (n + 1) c1)) := Lib.hid (by
    rcases hat1 with h | h
    · exact .inl h.symm
    · exact .inr fun g hg => by
        have : g1 = g := by simpa [Value.ownBlock] using hg
        subst this
        rw [h]; simp)
  have hw1 : w.heap.size ≤ w1.heap.size := by have := hg1.size; simp at this; omega
  rw [← hW1]
  obtain ⟨hb1, hhb⟩ : ∃ h, h = w1.heap.size := ⟨_, rfl⟩
  rw [← hhb] at HH ⊢
  generalize grownCap w1 s.size 0 5 = cap1 at *
  clear hW1 hown1 hg1 hat1 hown hhb hw1
  go_loopw [0, 15] (fun lv kv wr => ∃ (k c' : Nat) (A' : Option Addr), k ≤ s.size ∧ kv = .int .i64 k ∧ lv = .slice A' (n + 1 + k) c' ∧ Hid (wr.ownsRow base 3 1 (.slice A' (n + 1 + k) c') (n + 1 + k) ((xs ++ ((s.size : Int) :: (byteL s).take k)).map (Value.int .i64))) ∧ Hid (wr.heap[hb1]? = some (.cells (bytesRow s cap1) 5 ((bytesRow s cap1).size, (bytesRow s cap1).size + 1))) ∧ Hid (w.grownBy wr (Value.slice A n c).ownBlock) ∧ Hid (OwnT w (.slice A n c) (.slice A' (n + 1 + k) c'))) (fun _ kv _ => s.size - (intOf kv).toNat)
  case atStart => exact ⟨0, c1, some ⟨g1, 0, none⟩, Nat.zero_le _, rfl, rfl, HO, HH, HG, HT⟩
  case round =>
    clear HO HH HG HT
    obtain ⟨k, c', A', hk, rfl, rfl, HO, HH, HG, HT⟩ := hrel
    obtain ⟨wo, rfl⟩ : ∃ x, x = wr := ⟨_, rfl⟩
    by_cases hlt : k < s.size
    · have hkz : (k : Int) < s.size := by omega
      obtain ⟨x, hx⟩ : ∃ x, (byteL s)[k]? = some x := ⟨_, List.getElem?_eq_getElem (by rw [byteL_length]; exact hlt)⟩
      have hx1 : 0 ≤ x ∧ x < 256 := by
        have := List.mem_of_getElem? hx
        unfold byteL at this
        obtain ⟨b, _, rfl⟩ := List.mem_map.1 this
        exact ⟨by omega, by have := b.toNat_lt; omega⟩
      have hcell : wo.cell? ⟨hb1, k, none⟩ = some (.int .u8 x) := (cell_of_row wo hb1 k _ 5 _ HH.out).trans (bytesRow_get s cap1 k x hx)
      have hwx : IntKind.i64.wrap x = x := by rw [IntKind.wrap_i64]; omega
      have HX := Lib.hid hx
      have hbs : base ≤ wo.heap.size := by have := HG.out.size; omega
      clear hx
      obtain ⟨hx0, hx1⟩ := hx1
      go_wp2_with
        (at_builtin
         go_must (refine wpList_append_one _ rfl (.tmp 19) (.tmp 22) _ rfl base 3 i3 (.int .i64 0) 1 8 Try.underlying30 hi3 hz30 hz31 hz32 rfl (by decide) (.slice A' (n + 1 + k) c') (n + 1 + k) _ rfl (HO.out.alloc _) wo.heap.size 1 3 #[.int .i64 x] rfl (Bk.new _ _ _) rfl ?c1 (n + 1 + (k + 1)) (by omega) ?c2 ?c3 ?c4 ?_)
         case c1 => simp [Value.oneCell']
         case c2 => unfold maxLen; omega
         case c3 => omega
         case c4 => simp; omega
         intro g2 c2 w2 hown2 hg2 hat2)
      have HO2 : Hid (w2.ownsRow base 3 1 (.slice (some ⟨g2, 0, none⟩) (n + 1 + (k + 1)) c2) (n + 1 + (k + 1)) ((xs ++ ((s.size : Int) :: (byteL s).take (k + 1))).map (Value.int .i64))) := Lib.hid (by
        have e : (xs ++ ((s.size : Int) :: (byteL s).take (k + 1))).map (Value.int .i64) = (xs ++ ((s.size : Int) :: (byteL s).take k)).map (Value.int .i64) ++ [.int .i64 x] := by
          rw [List.take_add_one, HX.out]; simp
        rw [e]; exact hown2)
      have HH2 : Hid (w2.heap[hb1]? = some (.cells (bytesRow s cap1) 5 ((bytesRow s cap1).size, (bytesRow s cap1).size + 1))) := Lib.hid (by
        have hlt1 : hb1 < wo.heap.size := by
          rcases Nat.lt_or_ge hb1 wo.heap.size with h | h
          · exact h
          · have := HH.out; rw [Array.getElem?_eq_none h] at this; cases this
        rw [hg2.block hb1 (by simp; omega) (fun e => own_obj HO.out HH.out (by decide) e.symm), Below.heap_alloc wo _ hb1 hlt1]
        exact HH.out)
      have HG2 : Hid (w.grownBy w2 (Value.slice A n c).ownBlock) := Lib.hid (Gb.more (Gb.alloc HG.out _) hg2 HT.out)
      have HT2 : Hid (OwnT w (.slice A n c) (.slice (some ⟨g2, 0, none⟩) (n + 1 + (k + 1)) c2)) := Lib.hid (by
        rcases hat2 with h | h
        · rcases HT.out with h1 | h1
          · exact .inl (by rw [← h1, h]; rfl)
          · exact .inr fun g hg => h1 g (by rw [h]; exact hg)
        · exact .inr fun g hg => by
            have : g2 = g := by simpa [Value.ownBlock] using hg
            subst this
            have := HG.out.size
            rw [h]; simp; omega)
      clear hown2 hg2 hat2 hcell HO HH HG HT
      go_wp2_with fail
      go_roundw
      case rel => exact ⟨k + 1, c2, some ⟨g2, 0, none⟩, by omega, by go_num, rfl, HO2, HH2, HG2, HT2⟩
      case measure => simp [intOf]; omega
    · obtain rfl : k = s.size := by omega
      go_wp2_with fail
      go_ret
      refine ⟨A', c', rfl, ?_, HG.out, HT.out⟩
      have := HO.out
      rw [List.take_of_length_le (by rw [byteL_length]; exact Nat.le_refl _)] at this
      exact this
end Go.Proofs.Ytnidcmhfbkdioaa
