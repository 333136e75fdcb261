/-
  Put of 64 bits; the digests of lists of numbers; the number of groups of four bits. Conditions: numbers that fit their kinds, room in the writer.
-/
import Derived.Test.YtlgcdcjfobfoiaaPut
import Derived.Test.YtlgcdcjfobfoiaaNt9
import Derived.Test.YtlgcdcjfobfoiaaLw1
namespace Go.Proofs.Ytlgcdcjfobfoiaa
open Go.RowKit
set_option maxRecDepth 100000 in
set_option maxHeartbeats 1600000 in
theorem put_64 (g base v n : Nat) (bits : List Bool) (w : World) (hv : v < 2 ^ 64) (h64 : 64 ≤ n) (h65 : n ≤ 64) (hs : bits.length + n ≤ 524288) (hst : WrSt w base g bits) :
    Calls Try.prog 64 #[.pointer (some ⟨g, 0, none⟩), .int .u64 v, .int .i64 n] w fun e w' => e = .returned (.int .i64 0) ∧ WrSt w' base g (bits ++ bitsOf v n) ∧ Kp base 5 g w w' := by
  obtain ⟨i0, hi0, hz0, hz1, hz2⟩ := info_parts T.info5
  have c1 : w.cell? ⟨g, 1, none⟩ = some (.int .i64 bits.length) := by
    obtain ⟨bv, hbk, hown, hbase⟩ := hst
    exact hbk.cell 1
  have h1 : (0:Int) ≤ (n : Int) := by omega
  have h2 : (64 : Int) ≤ (n : Int) := by omega
  have h2' : (n : Int) ≤ 64 := by omega
  have HV := Lib.hid hv
  clear hv
  go_enter Try.func64, Try.ntmps64
  go_wp2_with fail
  clear c1
  go_loopw [32] (fun i wr => ∃ k : Nat, k ≤ n ∧ i = .int .i64 k ∧ WrSt wr base g (bits ++ bitsOf v k) ∧ Kp base 5 g w wr) (fun i _ => n - (intOf i).toNat)
  case atStart => exact ⟨0, Nat.zero_le _, rfl, by simpa [bitsOf] using hst, Kp.refl⟩
  case round =>
    obtain ⟨k, hk, rfl, ⟨bv, hbk, hown, hbase⟩, hkp⟩ := hrel
    by_cases hlt : k < n
    · have hm : (bits ++ bitsOf v k).length = bits.length + k := by simp [bitsOf]
      have hnb := packB_length (bits ++ bitsOf v k)
      have hmm : bits.length + k < 524288 := by omega
      rw [hm] at hnb
      have HM := Lib.hid hm
      have HS := Lib.hid (bitsOf_succ v k)
      rw [hm] at hbk
      clear hm
      have c0 : wr.cell? ⟨g, 0, none⟩ = some bv := hbk.cell 0
      have c1 : wr.cell? ⟨g, 1, none⟩ = some (.int .i64 ((bits.length : Int) + k)) := (hbk.cell 1).trans (by simp)
      by_cases h8 : (bits.length + k) % 8 = 0
      · have t8 : (((bits.length : Int) + k) % 8 == 0) = true := by simp; omega
        have H8 := Lib.hid h8
        have HN := Lib.hid hnb
        have hnbb : (packB (bits ++ bitsOf v k)).length ≤ 65536 := by omega
        have hb1 : ((bits.length : Int) + k) / 8 < ((packB (bits ++ bitsOf v k)).length : Int) + 1 := by omega
        have hb2 : (((bits.length : Int) + k) / 8).toNat = (bits.length + k) / 8 := by omega
        have hb0 : 0 ≤ ((bits.length : Int) + k) / 8 := by omega
        clear h8 hnb
        go_wp2_with (first
          | (at_builtin
             go_must (refine wpList_append_one _ rfl (.tmp 45) (.tmp 46) _ rfl base 5 i0 (.int .u8 0) 1 1 Try.underlying30 hi0 hz0 hz1 hz2 rfl (by decide) bv _ _ rfl (hown.alloc _) wr.heap.size 1 5 #[.int .u8 0] rfl (Bk.new _ _ _) rfl ?c1 _ rfl ?c2 ?c3 ?c4 ?_)
             case c1 => simp [Value.oneCell']
             case c2 => unfold maxLen; omega
             case c3 => omega
             case c4 => simp; omega
             intro gb cb w1 hown1 hg1 hat1
             have hbk1 := (hbk.alloc (.cells #[.int .u8 0] 5)).grown hg1 (fun e1 => own_ne (hown.alloc _) (hbk.alloc (.cells #[.int .u8 0] 5)) (by decide) e1.symm)
             have c0' : w1.cell? ⟨g, 0, none⟩ = some bv := hbk1.cell 0
             have f0' := hbk1.frozen 0))
        have hB := hbk1.set_ 0 (Value.slice (some { block := gb, off := 0 }) ((packB (bits ++ bitsOf v k)).length + 1) cb)
        have hO := ownsRow_setCell_other hown1 (a := ⟨g, 0, none⟩) (own_ne hown1 hbk1 (by decide)) (Value.slice (some { block := gb, off := 0 }) ((packB (bits ++ bitsOf v k)).length + 1) cb)
        have hK := ((hkp.alloc (.cells #[.int .u8 0] 5)).grown (hown.alloc _) hg1).setG 0 (Value.slice (some { block := gb, off := 0 }) ((packB (bits ++ bitsOf v k)).length + 1) cb)
        have hBs : base ≤ w1.heap.size := by have := hg1.size; simp at this; omega
        clear hown1 hg1 hbk1 c0' f0' hat1 c0 c1 hkp hown hbk t8
        generalize hW : w1.setCell { block := g, off := 0 } (Value.slice (some { block := gb, off := 0 }) ((packB (bits ++ bitsOf v k)).length + 1) cb) = W at *
        have hBs' : base ≤ W.heap.size := by rw [← hW]; simpa [World.setCell] using hBs
        clear hW hBs
        have hG : bytesV (packB (bits ++ bitsOf v k)) ++ [Value.int IntKind.u8 0] = bytesV (grownB (bits ++ bitsOf v k)) := by
          unfold grownB
          rw [HM.out, if_pos H8.out, bytesV_append]; rfl
        have hO' : W.ownsRow base 5 1 (Value.slice (some { block := gb, off := 0 }) ((packB (bits ++ bitsOf v k)).length + 1) cb) ((packB (bits ++ bitsOf v k)).length + 1) (bytesV (grownB (bits ++ bitsOf v k))) := by rw [← hG]; exact hO
        clear hG hO
        have q0 : W.cell? ⟨g, 0, none⟩ = some (Value.slice (some { block := gb, off := 0 }) ((packB (bits ++ bitsOf v k)).length + 1) cb) := hB.cell 0
        have q1 : W.cell? ⟨g, 1, none⟩ = some (.int .i64 ((bits.length : Int) + k)) := (hB.cell 1).trans (by simp)
        obtain ⟨old, hold⟩ : ∃ o, o = (grownB (bits ++ bitsOf v k)).getD ((bits.length + k) / 8) 0 := ⟨_, rfl⟩
        have q2 : W.cell? ⟨gb, (bits.length + k) / 8, none⟩ = some (.int .u8 old) := by
          have hgl := grownB_length (bits ++ bitsOf v k)
          rw [HM.out] at hgl
          rw [hO'.cellAt _ (by have := HN.out; have := H8.out; omega), bytesV_get _ _ (by omega), hold]
        have p0 := hB.frozen 0
        have p1 := hB.frozen 1
        have p2 := hO'.frozenAt ((bits.length + k) / 8)
        have hne1 : g ≠ gb := Ne.symm (fun e1 => own_ne hO' hB (by decide) (by simp [Value.ownBlock, e1]))
        have hne2 : gb ≠ g := Ne.symm hne1
        have HO := Lib.hid hold
        clear hold
        go_region
        go_wp2
        go_round
        case measure => simp [intOf]; omega
        case rel =>
          refine ⟨k + 1, by omega, by go_num, ?_, ?_⟩
          · rw [HS.out, ← List.append_assoc]
            have := put_round (k := k) (old := old) (mI := (bits.length : Int) + k) HV.out (by rw [HM.out]; simp) (by exact_mod_cast hB) hO' (by rw [HM.out]; exact HO.out) hBs'
            rw [HM.out] at this
            exact this
          · exact ((hK.setOwn hO' _ _).setG 1 _).drew
      · have t8 : (((bits.length : Int) + k) % 8 == 0) = false := by simp; omega
        have H8 := Lib.hid h8
        have HN := Lib.hid hnb
        have hnbb : (packB (bits ++ bitsOf v k)).length ≤ 65536 := by omega
        have hb1 : ((bits.length : Int) + k) / 8 < ((packB (bits ++ bitsOf v k)).length : Int) := by omega
        have hb2 : (((bits.length : Int) + k) / 8).toNat = (bits.length + k) / 8 := by omega
        have hb0 : 0 ≤ ((bits.length : Int) + k) / 8 := by omega
        obtain ⟨gb, cb, hbv, _, _⟩ := hown.form (by omega)
        subst hbv
        clear h8 hnb
        have hG : packB (bits ++ bitsOf v k) = grownB (bits ++ bitsOf v k) := by
          unfold grownB
          rw [HM.out, if_neg H8.out]
        have hO' : wr.ownsRow base 5 1 (Value.slice (some { block := gb, off := 0 }) (packB (bits ++ bitsOf v k)).length cb) (packB (bits ++ bitsOf v k)).length (bytesV (grownB (bits ++ bitsOf v k))) := by rw [← hG]; exact hown
        clear hG hown
        obtain ⟨old, hold⟩ : ∃ o, o = (grownB (bits ++ bitsOf v k)).getD ((bits.length + k) / 8) 0 := ⟨_, rfl⟩
        have q2 : wr.cell? ⟨gb, (bits.length + k) / 8, none⟩ = some (.int .u8 old) := by
          have hgl := grownB_length (bits ++ bitsOf v k)
          rw [HM.out] at hgl
          rw [hO'.cellAt _ (by have := HN.out; have := H8.out; omega), bytesV_get _ _ (by omega), hold]
        have p0 := hbk.frozen 0
        have p1 := hbk.frozen 1
        have p2 := hO'.frozenAt ((bits.length + k) / 8)
        have hne1 : g ≠ gb := Ne.symm (fun e1 => own_ne hO' hbk (by decide) (by simp [Value.ownBlock, e1]))
        have hne2 : gb ≠ g := Ne.symm hne1
        have HO := Lib.hid hold
        clear hold
        go_wp2_with fail
        go_region
        go_wp2
        go_round
        case measure => simp [intOf]; omega
        case rel =>
          refine ⟨k + 1, by omega, by go_num, ?_, ?_⟩
          · rw [HS.out, ← List.append_assoc]
            have := put_round (k := k) (old := old) (mI := (bits.length : Int) + k) HV.out (by rw [HM.out]; simp) (by exact_mod_cast hbk) hO' (by rw [HM.out]; exact HO.out) hbase
            rw [HM.out] at this
            exact this
          · exact ((hkp.setOwn hO' _ _).setG 1 _).drew
    · go_wp2
      go_ret
      obtain rfl : k = n := by omega
      exact ⟨rfl, ⟨bv, hbk, hown, hbase⟩, hkp⟩

set_option maxRecDepth 100000
theorem wrapU_rng (z : Int) : 0 ≤ IntKind.u64.wrap z ∧ IntKind.u64.wrap z < 18446744073709551616 := by rw [IntKind.wrap_u64]; omega
theorem xorU_rng (a b : Int) : 0 ≤ Go.bits .xor .u64 a b ∧ Go.bits .xor .u64 a b < 18446744073709551616 := by
  show 0 ≤ IntKind.u64.wrap _ ∧ IntKind.u64.wrap _ < _
  exact wrapU_rng _
def mixA (x : Int) : Int := IntKind.u64.wrap (Go.bits .xor .u64 x (x / 2147483648) * 7640891576956012809)
def mixB (a : Int) : Int := IntKind.u64.wrap (Go.bits .xor .u64 a (a / 134217728) * 13503953896175478587)
def mixC (b : Int) : Int := Go.bits .xor .u64 b (b / 1073741824)
def mixI (x : Int) : Int := mixC (mixB (mixA x))
theorem mixI_rng (x : Int) : 0 ≤ mixI x ∧ mixI x < 18446744073709551616 := xorU_rng _ _
theorem mix_any (x : Int) (w : World) (h0 : 0 ≤ x) (h1 : x < 18446744073709551616) : Calls Try.prog 102 #[.int .u64 x] w fun e w' => e = .returned (.int .u64 (mixI x)) ∧ w = w' := by
  go_enter Try.func102, Try.ntmps102
  go_wp2_with fail
  go_ret
  exact ⟨rfl, rfl⟩
def joinA (a : Int) : Int := IntKind.u64.wrap (a + 5840696475078001361)
def joinB (m b : Int) : Int := IntKind.u64.wrap (IntKind.u64.wrap (m * 11170449401992604703) + b)
def joinI (a b : Int) : Int := mixI (joinB (mixI (joinA a)) b)
theorem joinI_rng (a b : Int) : 0 ≤ joinI a b ∧ joinI a b < 18446744073709551616 := mixI_rng _
theorem join_any (a b : Int) (w : World) (a0 : 0 ≤ a) (a1 : a < 18446744073709551616) (b0 : 0 ≤ b) (b1 : b < 18446744073709551616) : Calls Try.prog 94 #[.int .u64 a, .int .u64 b] w fun e w' => e = .returned (.int .u64 (joinI a b)) ∧ w = w' := by
  have h1 := mix_any (joinA a) w (wrapU_rng _).1 (wrapU_rng _).2
  have h2 := mix_any (joinB (mixI (joinA a)) b) w (wrapU_rng _).1 (wrapU_rng _).2
  have H1 := Lib.hid h1
  have H2 := Lib.hid h2
  clear h1 h2
  go_enter Try.func94, Try.ntmps94
  go_wp2_with fail
  refine H1.out.mono ?_
  rintro e w1 ⟨rfl, rfl⟩
  have hm := mixI_rng (joinA a)
  obtain ⟨hm0, hm1⟩ := hm
  go_wp2_with fail
  refine H2.out.mono ?_
  rintro e w1 ⟨rfl, rfl⟩
  go_wp2_with fail
  go_ret
  exact ⟨rfl, rfl⟩

def wordsI (xs : List Int) : Int := xs.foldl joinI (joinI 5840696475078001361 xs.length)
theorem wordsI_rng (xs : List Int) : 0 ≤ wordsI xs ∧ wordsI xs < 18446744073709551616 := by
  unfold wordsI
  have : ∀ (l : List Int) (d : Int), 0 ≤ d ∧ d < 18446744073709551616 → 0 ≤ l.foldl joinI d ∧ l.foldl joinI d < 18446744073709551616 := by
    intro l
    induction l with
    | nil => intro d hd; exact hd
    | cons a l ih => intro d hd; exact ih _ (joinI_rng _ _)
  exact this _ _ (joinI_rng _ _)
def sumI (xs : List Int) : Int := wordsI (xs.map fun x => IntKind.u64.wrap x)
theorem sumI_rng (xs : List Int) : 0 ≤ sumI xs ∧ sumI xs < 18446744073709551616 := wordsI_rng _

set_option maxHeartbeats 800000 in
theorem words_any (A : Option Addr) (n c B : Nat) (xs : List Int) (w : World) (hr : Rd w B 1 A n (xs.map (Value.int .u64))) (hn : n = xs.length) (hn1 : n ≤ 1000000000) (hx : ∀ x ∈ xs, 0 ≤ x ∧ x < 18446744073709551616) :
    Calls Try.prog 97 #[.slice A n c] w fun e w' => e = .returned (.int .u64 (wordsI xs)) ∧ w = w' := by
  have hj := join_any 5840696475078001361 n w (by decide) (by decide) (by omega) (by omega)
  have HJ := Lib.hid hj
  have HR := Lib.hid hr
  have HN := Lib.hid hn
  have HX := Lib.hid hx
  clear hj hr hn hx
  go_enter Try.func97, Try.ntmps97
  go_wp2_with fail
  refine HJ.out.mono ?_
  rintro e w1 ⟨rfl, rfl⟩
  obtain ⟨d0, hd0⟩ : ∃ d, d = joinI 5840696475078001361 n := ⟨_, rfl⟩
  rw [← hd0]
  have hdr : 0 ≤ d0 ∧ d0 < 18446744073709551616 := by rw [hd0]; exact joinI_rng _ _
  have HD0 := Lib.hid hd0
  clear hd0 HJ
  go_wp2_with fail
  go_loopw [3, 12] (fun d v wr => ∃ (k : Nat) (D : Int), k ≤ n ∧ v = .int .i64 k ∧ d = .int .u64 D ∧ 0 ≤ D ∧ D < 18446744073709551616 ∧ Hid (D = (xs.take k).foldl joinI d0) ∧ wr = w) (fun _ v _ => n - (intOf v).toNat)
  case atStart => exact ⟨0, d0, Nat.zero_le _, rfl, rfl, hdr.1, hdr.2, Lib.hid rfl, rfl⟩
  case round =>
    obtain ⟨k, D, hk, rfl, rfl, hD0, hD1, HD, rfl⟩ := hrel
    by_cases hlt : k < n
    · obtain ⟨x, hxk⟩ : ∃ x, xs[k]? = some x := ⟨_, List.getElem?_eq_getElem (by have := HN.out; omega)⟩
      obtain ⟨b, o, rfl, _, hcx⟩ := HR.out.at1 hlt (u := .int .u64 x) (by rw [List.getElem?_map, hxk]; rfl)
      obtain ⟨hx0, hx1⟩ := HX.out x (List.mem_of_getElem? hxk)
      have hj := join_any D x wr hD0 hD1 hx0 hx1
      have HJ := Lib.hid hj
      have HXK := Lib.hid hxk
      clear hj hxk
      go_wp2_with fail
      refine HJ.out.mono ?_
      rintro e w1 ⟨rfl, rfl⟩
      go_wp2_with fail
      go_roundw
      case rel => exact ⟨k + 1, joinI D x, by omega, by go_num, rfl, (joinI_rng D x).1, (joinI_rng D x).2, Lib.hid (by rw [List.take_add_one, HXK.out, List.foldl_append, ← HD.out]; rfl), trivial⟩
      case measure => simp [intOf]; omega
    · obtain rfl : k = n := by omega
      go_wp2_with fail
      go_ret
      refine ⟨?_, rfl⟩
      have h1 := HD.out
      have h2 := HN.out
      rw [List.take_of_length_le (by omega), HD0.out] at h1
      rw [h1]
      unfold wordsI
      rw [← h2]
      rfl

theorem T.info104 : (Try.prog.info? 104).map (fun i => (i.zero, i.size, i.bytes)) = some (some (.int .u64 0), 1, 8) := by kernel_rfl
def u64A (n k : Nat) (xs : List Int) : Array Value := (((xs.take k).map fun x => IntKind.u64.wrap x) ++ List.replicate (n - k) 0).map (Value.int .u64) |>.toArray
theorem u64A_zero (n : Nat) (xs : List Int) : ((madeCells (Value.int .u64 0).cells (n * 1)).toList).toArray = u64A n 0 xs := by
  apply Array.ext'
  simp only [madeCells, u64A]
  rw [Nat.mul_one]
  apply List.ext_getElem?
  intro j
  by_cases hj : j < n
  · simp [hj, Value.cells, Nat.mod_one]
  · simp [hj]
theorem u64A_set (n k : Nat) (xs : List Int) (x : Int) (hn : n = xs.length) (hk : k < n) (hx : xs[k]? = some x) : (u64A n k xs).setIfInBounds k (.int .u64 (IntKind.u64.wrap x)) = u64A n (k + 1) xs := by
  apply Array.ext'
  simp only [u64A, List.setIfInBounds_toArray]
  rw [List.take_add_one, hx]
  have h1 : n - k = (n - (k + 1)) + 1 := by omega
  have h2 : ((xs.take k).map fun x => IntKind.u64.wrap x).length = k := by rw [List.length_map, List.length_take]; omega
  rw [h1, List.replicate_succ]
  simp only [List.map_append, List.map_cons]
  rw [List.set_append_right _ _ (by rw [List.length_map, h2]; exact Nat.le_refl _), List.length_map, h2, Nat.sub_self]
  simp

set_option maxHeartbeats 800000 in
theorem sumInts_any (A : Option Addr) (n c B : Nat) (xs : List Int) (w : World) (hr : Rd w B 1 A n (xs.map (Value.int .i64))) (hn : n = xs.length) (hn1 : n ≤ 1000000000) (hB : B ≤ w.heap.size) (hx : ∀ x ∈ xs, -9223372036854775808 ≤ x ∧ x ≤ 9223372036854775807) :
    Calls Try.prog 83 #[.slice A n c] w fun e w' => e = .returned (.int .u64 (sumI xs)) ∧ Below w.heap.size w w' := by
  obtain ⟨i0, hi0, hz0, hz1, hz2⟩ := info_parts T.info104
  have HR := Lib.hid hr
  have HN := Lib.hid hn
  have HX := Lib.hid hx
  clear hr hn hx
  go_enter Try.func83, Try.ntmps83
  go_wp2_with
    (at_make
     go_must (refine wpList_make_full _ rfl _ _ 148 rfl w.heap.size 104 i0 (.int .u64 0) 1 Try.underlying148 hi0 hz0 hz1 .i64 .i64 _ _ n rfl rfl rfl rfl (by rw [hz2]; omega) (by unfold maxLen; omega) (Nat.le_refl _) ?_)
     intro w3 hown3 hg3
     obtain ⟨hgc, hbk3⟩ := own_full hown3
     rw [u64A_zero n xs] at hbk3
     have hb3 := (Below.refl w.heap.size w).grown hg3 (Nat.le_refl _) (fun q hq => by cases hq)
     clear hown3)
  clear hg3
  generalize hgw : w.heap.size = gc at *
  have HGW := Lib.hid hgw
  clear hgw
  go_loopw [11] (fun v wr => ∃ k : Nat, k ≤ n ∧ v = .int .i64 k ∧ Bk wr gc 104 (u64A n k xs) ∧ Below gc w wr) (fun v _ => n - (intOf v).toNat)
  case atStart => exact ⟨0, Nat.zero_le _, rfl, hbk3, hb3⟩
  case round =>
    obtain ⟨k, hk, rfl, hbk, hb⟩ := hrel
    clear hbk3 hb3
    by_cases hlt : k < n
    · obtain ⟨x, hxk⟩ : ∃ x, xs[k]? = some x := ⟨_, List.getElem?_eq_getElem (by have := HN.out; omega)⟩
      obtain ⟨b, o, rfl, _, hcx⟩ := (HR.out.below (hb.mono hB)).at1 hlt (u := .int .i64 x) (by rw [List.getElem?_map, hxk]; rfl)
      obtain ⟨hx0, hx1⟩ := HX.out x (List.mem_of_getElem? hxk)
      have hc : ∃ u, wr.cell? ⟨gc, k, none⟩ = some u := by
        have h1 := hbk.cell k
        have h2 : k < (u64A n k xs).size := by
          simp only [u64A, List.size_toArray, List.length_map, List.length_append, List.length_take, List.length_replicate]
          have := HN.out; omega
        exact ⟨_, h1.trans (Array.getElem?_eq_getElem h2)⟩
      obtain ⟨u, hc⟩ := hc
      have hf := hbk.frozen k
      have hset := hbk.set_ k (.int .u64 (IntKind.u64.wrap x))
      rw [u64A_set n k xs x HN.out hlt hxk] at hset
      have hb2 := hb.setCell (p := ⟨gc, k, none⟩) (Nat.le_refl _) (.int .u64 (IntKind.u64.wrap x))
      have HS := Lib.hid hset
      clear hset hxk hbk
      go_wp2_with fail
      go_roundw
      case rel => exact ⟨k + 1, by omega, by go_num, HS.out, hb2⟩
      case measure => simp [intOf]; omega
    · obtain rfl : k = n := by omega
      have hR : Rd wr (gc + 1) 1 (some ⟨gc, 0, none⟩) k ((xs.map fun x => IntKind.u64.wrap x).map (Value.int .u64)) := by
        refine ⟨by simp [HN.out], fun _ => ⟨gc, 0, rfl, by omega, fun j v hv => ?_⟩⟩
        rw [Nat.zero_add]
        refine (hbk.cell j).trans ?_
        simp only [u64A, Nat.sub_self, List.replicate_zero, List.append_nil]
        rw [List.take_of_length_le (by have := HN.out; omega)]
        simpa using hv
      have hw := words_any (some ⟨gc, 0, none⟩) k k (gc + 1) (xs.map fun x => IntKind.u64.wrap x) wr hR (by simp [HN.out]) hn1 (fun x hx => by
        obtain ⟨y, _, rfl⟩ := List.mem_map.1 hx
        exact wrapU_rng y)
      have HW := Lib.hid hw
      clear hw hR hbk
      go_wp2_with fail
      refine HW.out.mono ?_
      rintro e w5 ⟨rfl, rfl⟩
      go_wp2_with fail
      go_ret
      exact ⟨rfl, by rw [HGW.out]; exact hb⟩
end Go.Proofs.Ytlgcdcjfobfoiaa
