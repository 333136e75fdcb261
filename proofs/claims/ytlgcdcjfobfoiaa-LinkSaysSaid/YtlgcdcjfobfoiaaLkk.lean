/-
  The pieces of a round of the law LinkSays. Conditions: none.
-/
import Derived.Test.YtlgcdcjfobfoiaaLki
import Derived.Test.YtlgcdcjfobfoiaaSl
namespace Go.Proofs.Ytlgcdcjfobfoiaa
open Go.RowKit
set_option maxRecDepth 100000

theorem and_maskL (z : Int) (m k : Nat) (hm : m + 1 = 2 ^ k) (hk : k ≤ 62) : ∃ N : Nat, Go.bits .and .i64 z (m : Int) = N ∧ N ≤ m := by
  have hm2 : m < 2 ^ 63 := by
    have : 2 ^ k ≤ 2 ^ 62 := Nat.pow_le_pow_right (by omega) hk
    omega
  have e : (BitVec.ofInt 64 z &&& BitVec.ofInt 64 (m : Int)).toNat = (BitVec.ofInt 64 z).toNat % (m + 1) := by
    rw [BitVec.toNat_and, hm]
    have : (BitVec.ofInt 64 (m : Int)).toNat = 2 ^ k - 1 := by
      rw [BitVec.ofInt_natCast, BitVec.toNat_ofNat, Nat.mod_eq_of_lt (by omega)]
      omega
    rw [this, Nat.and_two_pow_sub_one_eq_mod]
  refine ⟨(BitVec.ofInt 64 z).toNat % (m + 1), ?_, ?_⟩
  · show IntKind.i64.wrap ((BitVec.ofInt 64 z &&& BitVec.ofInt 64 (m : Int)).toNat : Int) = _
    rw [e, IntKind.wrap_i64]
    have : (BitVec.ofInt 64 z).toNat % (m + 1) < m + 1 := Nat.mod_lt _ (by omega)
    omega
  · have : (BitVec.ofInt 64 z).toNat % (m + 1) < m + 1 := Nat.mod_lt _ (by omega)
    omega

/-! ### the message that is filled -/
def fillD (q k : Nat) : List Nat := (List.range q).map fun x => (k + x) % 256
theorem fillD_length (q k : Nat) : (fillD q k).length = q := by simp [fillD]
theorem fillD_lt (q k : Nat) : ∀ b ∈ fillD q k, b < 256 := by
  intro b hb
  simp only [fillD, List.mem_map] at hb
  obtain ⟨x, _, rfl⟩ := hb
  exact Nat.mod_lt _ (by omega)
theorem fillD_succ (j k : Nat) : fillD (j + 1) k = fillD j k ++ [(k + j) % 256] := by simp [fillD, List.range_succ]
def fillA (q k j : Nat) : Array Value := (bytesV (fillD j k ++ List.replicate (q - j) 0)).toArray
theorem fillA_zero (q k : Nat) : ((madeCells (Value.int .u8 0).cells (q * 1)).toList).toArray = fillA q k 0 := by
  apply Array.ext'
  simp only [madeCells, fillA, fillD, List.range_zero, List.map_nil, List.nil_append, Nat.sub_zero]
  rw [Nat.mul_one]
  apply List.ext_getElem?
  intro j
  by_cases hj : j < q
  · simp [hj, Value.cells, Nat.mod_one, bytesV]
  · simp [hj, bytesV]
theorem fillA_set (r k j : Nat) : (fillA (j + 1 + r) k j).setIfInBounds j (.int .u8 (((k + j) % 256 : Nat) : Int)) = fillA (j + 1 + r) k (j + 1) := by
  apply Array.ext'
  simp only [fillA, List.setIfInBounds_toArray]
  rw [show j + 1 + r - j = r + 1 by omega, show j + 1 + r - (j + 1) = r by omega, List.replicate_succ, bytesV_append, fillD_succ, bytesV_append, bytesV_append]
  rw [List.set_append_right _ _ (by simp [bytesV, fillD_length])]
  simp [bytesV, fillD_length]
theorem fillA_at (q k j i : Nat) (hi : i < q) (hj : j ≤ q) : ∃ u, (fillA q k j)[i]? = some u := by
  have h2 : i < (fillA q k j).size := by
    simp only [fillA, List.size_toArray, bytesV_length, List.length_append, List.length_replicate, fillD_length]; omega
  exact ⟨_, Array.getElem?_eq_getElem h2⟩
theorem fillA_end (q k : Nat) : fillA q k q = (bytesV (fillD q k)).toArray := by simp [fillA]

theorem MsOk.fill {w : World} {gc q k : Nat} (h : Bk w gc 5 (fillA q k q)) (hq : q ≤ 1001) : MsOk w ⟨some ⟨gc, 0, none⟩, q, q, fillD q k⟩ := by
  refine ⟨⟨by simp [bytesV_length, fillD_length], fun _ => ⟨gc, 0, _, rfl, h, fun j u hu => ?_⟩⟩, (fillD_length q k).symm, Nat.le_refl _, by show q ≤ 9223372036854775807; omega, fillD_lt q k⟩
  rw [Nat.zero_add, fillA_end]
  simpa using hu

/-! ### the sides -/
section
variable {w0 w w1 w2 : World} {be bm ba t t' k : Nat} {D : Nat → Sd}
theorem LsI.cE (h : LsI w0 w be bm ba t D) (hk : k < 2) : w.cell? ⟨be, k, none⟩ = some (.pointer (some ⟨(D k).g, 0, none⟩)) := by
  obtain rfl | rfl : k = 0 ∨ k = 1 := by omega
  · exact h.bke.cell 0
  · exact h.bke.cell 1
theorem LsI.cM (h : LsI w0 w be bm ba t D) (hk : k < 2) : w.cell? ⟨bm, k, none⟩ = some (.pointer (some ⟨(D k).h, 0, none⟩)) := by
  obtain rfl | rfl : k = 0 ∨ k = 1 := by omega
  · exact h.bkm.cell 0
  · exact h.bkm.cell 1
theorem LsI.cA (h : LsI w0 w be bm ba t D) (hk : k < 2) : w.cell? ⟨ba, k, none⟩ = some (.slice (D k).A (D k).Air.length (D k).c) := by
  obtain rfl | rfl : k = 0 ∨ k = 1 := by omega
  · exact h.bka.cell 0
  · exact h.bka.cell 1
theorem LsI.drew (h : LsI w0 w be bm ba t D) : LsI w0 w.drew be bm ba t D := h.below (Below.refl _ _).drew
theorem Fq.wide {F G : List Nat} (h : Fq F w w1) (hs : ∀ x ∈ F, x ∈ G) : Fq G w w1 := ⟨h.os, h.tape, h.output, h.size, fun i h1 h2 => h.low i h1 fun h3 => h2 (hs i h3), h.byt⟩

/-- An end and its model have turned. -/
theorem LsI.turn (h : LsI w0 w be bm ba t D) (hk : k < 2) {F' H' : List Nat} {f' n' : Nat} {S' G' : List (List Nat)}
    (he : EndS w1 w0.heap.size F' (D k).g f' n' (S'.drop f') G') (hs1 : SubF (D k).F F' w.heap.size) (hq1 : Fq (D k).F w w1)
    (hh : HalfS w2 w0.heap.size H' (D k).h f' n' S' G') (hs2 : SubF (D k).H H' w1.heap.size) (hq2 : Fq (D k).H w1 w2)
    (b1 : f' ≤ S'.length) (b2 : S'.length ≤ t') (b3 : n' ≤ 8 * t') (b4 : G'.length ≤ 8 * t') (b5 : ∀ m ∈ S', m.length ≤ 1000 ∧ ∀ b ∈ m, b < 256) (ht : t ≤ t') :
    LsI w0 w2 be bm ba t' (updS D k { D k with F := F', H := H', first := f', next := n', S := S', G := G' }) := by
  have hS := h.sd k hk
  have hq12 : Fq ((D k).F ++ (D k).H) w w2 := (hq1.wide fun x hx => List.mem_append_left _ hx).trans (hq2.wide (G := (D k).F ++ (D k).H) fun x hx => List.mem_append_right _ hx) (SubF.refl _ _)
  have hFH : ∀ x ∈ F', x ∉ (D k).H := fun x hx hxH => by
    rcases hs1 x hx with h1 | h1
    · exact hS.dFH x h1 hxH
    · have := (hS.ha.lt x hxH).2; omega
  have hA : ∀ x ∈ blkA (D k).A, x < w.heap.size := fun x hx => (hS.lt x (by simp [Sd.bs, hx])).2
  refine h.side hk _ hq12 (fun b hb => List.mem_append.1 hb) ⟨he.fq hq2 hFH, hh, own_keepB hS.air fun i hi => ?_, fun m hm => ⟨(hS.ok m hm).1.byt hq12.byt, (hS.ok m hm).2⟩, b1, b2, b3, b4, Nat.le_trans hS.ale ht, b5, ?_, ?_⟩ ht rfl rfl rfl rfl rfl hs1 (hs2.weak hq1.size)
  · have hi' := blkA_mem.2 (own_blk_of hi)
    refine hq12.low i (hA i hi') fun hx => ?_
    rcases List.mem_append.1 hx with hx | hx
    · exact (hS.dA i hi').1 hx
    · exact (hS.dA i hi').2 hx
  · intro x hx hxH
    rcases hs2 x hxH with h1 | h1
    · exact hFH x hx h1
    · have := (he.lt x hx).2; omega
  · intro x hx
    have hlt := hA x hx
    refine ⟨fun h1 => ?_, fun h1 => ?_⟩
    · rcases hs1 x h1 with h2 | h2
      · exact (hS.dA x hx).1 h2
      · omega
    · rcases hs2 x h1 with h2 | h2
      · exact (hS.dA x hx).2 h2
      · have := hq1.size; omega

/-- What was delivered is taken. -/
theorem LsI.gotten (h : LsI w0 w be bm ba t D) (hk : k < 2) {F' H' : List Nat} (he : EndS w1 w0.heap.size F' (D k).g (D k).first (D k).next ((D k).S.drop (D k).first) []) (hh : HalfS w1 w0.heap.size H' (D k).h (D k).first (D k).next (D k).S [])
    (hs1 : ∀ x ∈ F', x ∈ (D k).F) (hs2 : ∀ x ∈ H', x ∈ (D k).H) (hq : Fq ((D k).F ++ (D k).H) w w1) :
    LsI w0 w1 be bm ba t (updS D k { D k with F := F', H := H', G := [] }) := by
  have hS := h.sd k hk
  have hA : ∀ x ∈ blkA (D k).A, x < w.heap.size := fun x hx => (hS.lt x (by simp [Sd.bs, hx])).2
  refine h.side hk _ hq (fun b hb => List.mem_append.1 hb) ⟨he, hh, own_keepB hS.air fun i hi => ?_, fun m hm => ⟨(hS.ok m hm).1.byt hq.byt, (hS.ok m hm).2⟩, hS.fle, hS.sle, hS.nle, Nat.zero_le _, hS.ale, hS.msg, fun x hx hx2 => hS.dFH x (hs1 x hx) (hs2 x hx2), fun x hx => ⟨fun h1 => (hS.dA x hx).1 (hs1 x h1), fun h1 => (hS.dA x hx).2 (hs2 x h1)⟩⟩ (Nat.le_refl _) rfl rfl rfl rfl rfl (fun x hx => .inl (hs1 x hx)) (fun x hx => .inl (hs2 x hx))
  have hi' := blkA_mem.2 (own_blk_of hi)
  refine hq.low i (hA i hi') fun hx => ?_
  rcases List.mem_append.1 hx with hx | hx
  · exact (hS.dA i hi').1 hx
  · exact (hS.dA i hi').2 hx
end

theorem LsI.arr {w0 w w' : World} {be bm ba t k : Nat} {D : Nat → Sd} {E : List Nat} (h : LsI w0 w be bm ba t D) (hk : k < 2) (hq : Fq E w w') (hE : ∀ b ∈ E, b ∈ (D k).F ∨ b ∈ (D k).H) (i : Nat) :
    w'.cell? ⟨be, i, none⟩ = w.cell? ⟨be, i, none⟩ ∧ w'.cell? ⟨bm, i, none⟩ = w.cell? ⟨bm, i, none⟩ ∧ w'.cell? ⟨ba, i, none⟩ = w.cell? ⟨ba, i, none⟩ := by
  have hn : ∀ b ∈ E, b ≠ be ∧ b ≠ bm ∧ b ≠ ba := fun b hb => h.dB k hk b (by rcases hE b hb with h1 | h1 <;> simp [Sd.bs, h1])
  exact ⟨World.cell?_of_block (w := w) (hq.low be h.bke.lt fun hx => (hn be hx).1 rfl), World.cell?_of_block (w := w) (hq.low bm h.bkm.lt fun hx => (hn bm hx).2.1 rfl), World.cell?_of_block (w := w) (hq.low ba h.bka.lt fun hx => (hn ba hx).2.2 rfl)⟩
theorem LsI.fge {w0 w : World} {be bm ba t k : Nat} {D : Nat → Sd} (h : LsI w0 w be bm ba t D) (hk : k < 2) : ∀ b ∈ (D k).F, w0.heap.size ≤ b := fun b hb => ((h.sd k hk).en.lt b hb).1

/-- A message was handed to an end and to its model. -/
theorem LsI.sentM {w0 w w6 w7 : World} {be bm ba k who p g7 c7 : Nat} {D : Nat → Sd} {m : Ms} {F6 : List Nat} {Ss Ns : List Ms} {SA NA : Option Addr} {sc nc : Nat} (h : LsI w0 w be bm ba k D) (hk : who < 2) (hm : MsOk w m) (hn : m.n ≤ 1000)
    (hE6 : EndS w6 w0.heap.size F6 (D who).g (D who).first (D who).next ((D who).S.drop (D who).first ++ [m.dat]) (D who).G) (hs6 : SubF (D who).F F6 w.heap.size) (hq6 : Fq (D who).F w w6)
    (hst : HalfSt w6 w0.heap.size (D who).H (D who).h (D who).first (D who).next Ss Ns SA NA sc nc) (hSs : Ss.map Ms.dat = (D who).S) (hNs : Ns.map Ms.dat = (D who).G) (hp : p = Ss.length)
    (hown7 : w7.ownsRow w0.heap.size 30 1 (.slice (some ⟨g7, 0, none⟩) (p + 1) c7) (p + 1) (msV Ss ++ [m.v]))
    (hg7 : (w6.alloc (.cells #[m.v] 30)).drew.grownBy w7 (Value.slice SA p sc).ownBlock) (hat7 : (Value.slice SA p sc).ownBlock = some g7 ∨ g7 = (w6.alloc (.cells #[m.v] 30)).drew.heap.size) :
    ∃ D', Hid (LsI w0 (w7.setCell ⟨(D who).h, 0, none⟩ (.slice (some ⟨g7, 0, none⟩) (p + 1) c7)) be bm ba (k + 1) D') := by
  have hS := h.sd who hk
  obtain ⟨H', hst8, hsub8, hq8⟩ := (hst.dn 1).sendM (w3 := w7) (hm.byt hq6.byt |>.byt fun _ _ h => h) hp hown7 hg7 hat7
  have hlen := congrArg List.length hSs
  rw [List.length_map] at hlen
  refine ⟨_, Lib.hid (h.turn hk (S' := (D who).S ++ [m.dat]) (t' := k + 1) (w1 := w6) (by rw [List.drop_append_of_le_length hS.fle]; exact hE6) hs6 hq6 ⟨_, _, _, _, _, _, hst8, by rw [List.map_append, hSs]; rfl, hNs⟩ hsub8 (Fq.of_dn hq8) ?_ ?_ ?_ ?_ ?_ (Nat.le_succ _))⟩
  · have := hS.fle; rw [List.length_append]; omega
  · have := hS.sle; rw [List.length_append]; simp; omega
  · have := hS.nle; omega
  · have := hS.gle; omega
  · intro x hx
    rcases List.mem_append.1 hx with hx | hx
    · exact hS.msg x hx
    · obtain rfl := List.mem_singleton.1 hx
      exact ⟨by rw [← hm.len]; exact hn, hm.lt⟩

/-- An end and its model have taken the same packet. -/
theorem LsI.took {w0 w w1 w2 : World} {be bm ba k who : Nat} {D : Nat → Sd} {F1 H2 : List Nat} {f' n' : Nat} {G' : List (List Nat)} (h : LsI w0 w be bm ba k D) (hk : who < 2)
    (he : EndS w1 w0.heap.size F1 (D who).g f' n' ((D who).S.drop f') G') (hs1 : SubF (D who).F F1 w.heap.size) (hq1 : Fq (D who).F w w1)
    (hh : HalfS w2 w0.heap.size H2 (D who).h f' n' (D who).S G') (hs2 : SubF (D who).H H2 w1.heap.size) (hq2 : Fq (D who).H w1 w2)
    (b1 : f' ≤ (D who).S.length) (b2 : n' ≤ (D who).next + 8) (b3 : G'.length ≤ (D who).G.length + 8) : ∃ D', Hid (LsI w0 w2 be bm ba (k + 1) D') := by
  have hS := h.sd who hk
  exact ⟨_, Lib.hid (h.turn hk (t' := k + 1) he hs1 hq1 hh hs2 hq2 b1 (by have := hS.sle; omega) (by have := hS.nle; omega) (by have := hS.gle; omega) hS.msg (Nat.le_succ _))⟩

/-- Both sides at the start. -/
def startD (a : Nat) : Nat → Sd := fun k => if k = 0 then ⟨[a], [a + 1 + 1 + 1], a, a + 1 + 1 + 1, 0, 0, [], [], none, 0, []⟩ else ⟨[a + 1], [a + 1 + 1 + 1 + 1], a + 1, a + 1 + 1 + 1 + 1, 0, 0, [], [], none, 0, []⟩
theorem LsI.start {w w1 w2 w3 : World} (h1 : w.heap.size ≤ w1.heap.size) (hs2 : w2.heap.size = w1.heap.size + 1) (hs3 : w3.heap.size = w2.heap.size + 1) (hb : Below w.heap.size w w3) (hE1 : EndS w3 w.heap.size [w1.heap.size] w1.heap.size 0 0 [] []) (hE2 : EndS w3 w.heap.size [w2.heap.size] w2.heap.size 0 0 [] []) :
    LsI w (((((w3.alloc (.cells #[.pointer (some ⟨w1.heap.size, 0, none⟩), .pointer (some ⟨w1.heap.size + 1, 0, none⟩)] 70)).alloc (.cells #[.slice none 0 0, .int .i64 0, .int .i64 0, .slice none 0 0] 76)).alloc (.cells #[.slice none 0 0, .int .i64 0, .int .i64 0, .slice none 0 0] 76)).alloc (.cells #[.pointer (some ⟨w1.heap.size + 1 + 1 + 1, 0, none⟩), .pointer (some ⟨w1.heap.size + 1 + 1 + 1 + 1, 0, none⟩)] 73)).alloc (.cells #[.slice none 0 0, .slice none 0 0] 78)) (w1.heap.size + 1 + 1) (w1.heap.size + 1 + 1 + 1 + 1 + 1) (w1.heap.size + 1 + 1 + 1 + 1 + 1 + 1) 0 (startD w1.heap.size) := by
  generalize hv : w1.heap.size = a at *
  have hz3 : w3.heap.size = a + 1 + 1 := by omega
  rw [hs2] at hE2
  obtain ⟨x1, hx1⟩ : ∃ x1, x1 = w3.alloc (.cells #[.pointer (some ⟨a, 0, none⟩), .pointer (some ⟨a + 1, 0, none⟩)] 70) := ⟨_, rfl⟩
  obtain ⟨x2, hx2⟩ : ∃ x2, x2 = x1.alloc (.cells #[.slice none 0 0, .int .i64 0, .int .i64 0, .slice none 0 0] 76) := ⟨_, rfl⟩
  obtain ⟨x3, hx3⟩ : ∃ x3, x3 = x2.alloc (.cells #[.slice none 0 0, .int .i64 0, .int .i64 0, .slice none 0 0] 76) := ⟨_, rfl⟩
  obtain ⟨x4, hx4⟩ : ∃ x4, x4 = x3.alloc (.cells #[.pointer (some ⟨a + 1 + 1 + 1, 0, none⟩), .pointer (some ⟨a + 1 + 1 + 1 + 1, 0, none⟩)] 73) := ⟨_, rfl⟩
  obtain ⟨x5, hx5⟩ : ∃ x5, x5 = x4.alloc (.cells #[.slice none 0 0, .slice none 0 0] 78) := ⟨_, rfl⟩
  rw [← hx1, ← hx2, ← hx3, ← hx4, ← hx5]
  have z1 : x1.heap.size = a + 1 + 1 + 1 := by rw [hx1]; simp; omega
  have z2 : x2.heap.size = a + 1 + 1 + 1 + 1 := by rw [hx2]; simp; omega
  have z3 : x3.heap.size = a + 1 + 1 + 1 + 1 + 1 := by rw [hx3]; simp; omega
  have z4 : x4.heap.size = a + 1 + 1 + 1 + 1 + 1 + 1 := by rw [hx4]; simp; omega
  have y1 : Below w3.heap.size w3 x1 := by rw [hx1]; exact (Below.refl _ _).alloc (Nat.le_refl _) _
  have y2 : Below x1.heap.size x1 x2 := by rw [hx2]; exact (Below.refl _ _).alloc (Nat.le_refl _) _
  have y3 : Below x2.heap.size x2 x3 := by rw [hx3]; exact (Below.refl _ _).alloc (Nat.le_refl _) _
  have y4 : Below x3.heap.size x3 x4 := by rw [hx4]; exact (Below.refl _ _).alloc (Nat.le_refl _) _
  have y5 : Below x4.heap.size x4 x5 := by rw [hx5]; exact (Below.refl _ _).alloc (Nat.le_refl _) _
  have y45 : Below x3.heap.size x3 x5 := y4.trans (y5.mono (by omega))
  have y35 : Below x2.heap.size x2 x5 := y3.trans (y45.mono (by omega))
  have y25 : Below x1.heap.size x1 x5 := y2.trans (y35.mono (by omega))
  have y15 : Below w3.heap.size w3 x5 := y1.trans (y25.mono (by omega))
  have k1 : Bk x1 (a + 1 + 1) 70 #[.pointer (some ⟨a, 0, none⟩), .pointer (some ⟨a + 1, 0, none⟩)] := by rw [hx1, ← hz3]; exact Bk.new _ _ _
  have k4 : Bk x4 (a + 1 + 1 + 1 + 1 + 1) 73 #[.pointer (some ⟨a + 1 + 1 + 1, 0, none⟩), .pointer (some ⟨a + 1 + 1 + 1 + 1, 0, none⟩)] := by rw [hx4, ← z3]; exact Bk.new _ _ _
  have k5 : Bk x5 (a + 1 + 1 + 1 + 1 + 1 + 1) 78 #[.slice none 0 0, .slice none 0 0] := by rw [hx5, ← z4]; exact Bk.new _ _ _
  have e0 : EndS x5 w.heap.size [a] a 0 0 [] [] := hE1.below y15
  have e1 : EndS x5 w.heap.size [a + 1] (a + 1) 0 0 [] [] := hE2.below y15
  have q0 : HalfS x5 w.heap.size [a + 1 + 1 + 1] (a + 1 + 1 + 1) 0 0 [] [] := by
    have h := HalfS.new x1 w.heap.size (by omega)
    rw [← hx2, z1] at h
    exact h.below y35
  have q1 : HalfS x5 w.heap.size [a + 1 + 1 + 1 + 1] (a + 1 + 1 + 1 + 1) 0 0 [] [] := by
    have h := HalfS.new x2 w.heap.size (by omega)
    rw [← hx3, z2] at h
    exact h.below y45
  have s0 : SdOk x5 w.heap.size 0 (startD a 0) := ⟨e0, q0, World.ownsRow_nil _ _ _ _, by simp [startD], Nat.le_refl _, Nat.le_refl _, Nat.le_refl _, Nat.le_refl _, Nat.le_refl _, by simp [startD], by simp [startD] <;> omega, by simp [startD, blkA]⟩
  have s1 : SdOk x5 w.heap.size 0 (startD a 1) := ⟨e1, q1, World.ownsRow_nil _ _ _ _, by simp [startD], Nat.le_refl _, Nat.le_refl _, Nat.le_refl _, Nat.le_refl _, Nat.le_refl _, by simp [startD], by simp [startD] <;> omega, by simp [startD, blkA]⟩
  refine ⟨k1.below y25 k1.lt, k4.below y5 k4.lt, k5, fun k hk => ?_, ?_, fun k hk b hb => ?_, ⟨by omega, by omega, by omega⟩, hb.trans (y15.mono (by omega))⟩
  · obtain rfl | rfl : k = 0 ∨ k = 1 := by omega
    · exact s0
    · exact s1
  · intro b h1 h2
    simp [startD, Sd.bs, blkA] at h1 h2
    omega
  · obtain rfl | rfl : k = 0 ∨ k = 1 := by omega
    all_goals
      simp [startD, Sd.bs, blkA] at hb
      exact ⟨by omega, by omega, by omega⟩
end Go.Proofs.Ytlgcdcjfobfoiaa
