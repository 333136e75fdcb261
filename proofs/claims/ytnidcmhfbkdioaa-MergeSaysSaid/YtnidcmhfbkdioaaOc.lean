/-
  The contracts of tourref4.choose and of the closures of tourref4.cells. Conditions: what is read can be read.
-/
import Derived.Test.YtnidcmhfbkdioaaOb
import Derived.Test.YtnidcmhfbkdioaaOa
namespace Go.Proofs.Ytnidcmhfbkdioaa
open Go.RowKit
set_option maxRecDepth 100000

def chF (p q r : Bool) : Int := if p = true then 1 else if q = true then 2 else if r = true then 1 else 0

theorem choose176_any (a b : Value) (w : World) (p q r : Bool)
    (h1 : ∀ wx, Below w.heap.size w wx → Calls Try.prog 176 #[.int .i64 1, .int .i64 2, a, b] wx fun e w' => e = .returned (.bool p) ∧ Below wx.heap.size wx w')
    (h2 : ∀ wx, Below w.heap.size w wx → Calls Try.prog 176 #[.int .i64 0, .int .i64 1, a, b] wx fun e w' => e = .returned (.bool q) ∧ Below wx.heap.size wx w')
    (h3 : ∀ wx, Below w.heap.size w wx → Calls Try.prog 176 #[.int .i64 0, .int .i64 2, a, b] wx fun e w' => e = .returned (.bool r) ∧ Below wx.heap.size wx w') :
    Calls Try.prog 111 #[.func (.func 176) #[] #[a, b]] w fun e w' => e = .returned (.int .i64 (chF p q r)) ∧ Below w.heap.size w w' := by
  have H1 := Lib.hid h1
  have H2 := Lib.hid h2
  have H3 := Lib.hid h3
  clear h1 h2 h3
  go_enter Try.func111, Try.ntmps111
  go_wp2_with fail
  (with_reducible refine (H1.out w (Below.refl _ _)).mono ?_)
  rintro e w1 ⟨rfl, hb1⟩
  have HB1 := Lib.hid hb1
  clear hb1
  cases p
  · go_wp2_with fail
    (with_reducible refine (H2.out _ HB1.out).mono ?_)
    rintro e w2 ⟨rfl, hb2⟩
    have HB2 := Lib.hid (HB1.out.trans (hb2.mono HB1.out.size))
    clear hb2
    cases q
    · go_wp2_with fail
      (with_reducible refine (H3.out _ HB2.out).mono ?_)
      rintro e w3 ⟨rfl, hb3⟩
      have HB3 := Lib.hid (HB2.out.trans (hb3.mono HB2.out.size))
      clear hb3
      cases r
      · go_wp2_with fail
        go_ret
        exact ⟨rfl, HB3.out⟩
      · go_wp2_with fail
        go_ret
        exact ⟨rfl, HB3.out⟩
    · go_wp2_with fail
      go_ret
      exact ⟨rfl, HB2.out⟩
  · go_wp2_with fail
    go_ret
    exact ⟨rfl, HB1.out⟩

theorem choose177_any (a : Value) (w : World) (p q r : Bool)
    (h1 : ∀ wx, Below w.heap.size w wx → Calls Try.prog 177 #[.int .i64 1, .int .i64 2, a] wx fun e w' => e = .returned (.bool p) ∧ Below wx.heap.size wx w')
    (h2 : ∀ wx, Below w.heap.size w wx → Calls Try.prog 177 #[.int .i64 0, .int .i64 1, a] wx fun e w' => e = .returned (.bool q) ∧ Below wx.heap.size wx w')
    (h3 : ∀ wx, Below w.heap.size w wx → Calls Try.prog 177 #[.int .i64 0, .int .i64 2, a] wx fun e w' => e = .returned (.bool r) ∧ Below wx.heap.size wx w') :
    Calls Try.prog 111 #[.func (.func 177) #[] #[a]] w fun e w' => e = .returned (.int .i64 (chF p q r)) ∧ Below w.heap.size w w' := by
  have H1 := Lib.hid h1
  have H2 := Lib.hid h2
  have H3 := Lib.hid h3
  clear h1 h2 h3
  go_enter Try.func111, Try.ntmps111
  go_wp2_with fail
  (with_reducible refine (H1.out w (Below.refl _ _)).mono ?_)
  rintro e w1 ⟨rfl, hb1⟩
  have HB1 := Lib.hid hb1
  clear hb1
  cases p
  · go_wp2_with fail
    (with_reducible refine (H2.out _ HB1.out).mono ?_)
    rintro e w2 ⟨rfl, hb2⟩
    have HB2 := Lib.hid (HB1.out.trans (hb2.mono HB1.out.size))
    clear hb2
    cases q
    · go_wp2_with fail
      (with_reducible refine (H3.out _ HB2.out).mono ?_)
      rintro e w3 ⟨rfl, hb3⟩
      have HB3 := Lib.hid (HB2.out.trans (hb3.mono HB2.out.size))
      clear hb3
      cases r
      · go_wp2_with fail
        go_ret
        exact ⟨rfl, HB3.out⟩
      · go_wp2_with fail
        go_ret
        exact ⟨rfl, HB3.out⟩
    · go_wp2_with fail
      go_ret
      exact ⟨rfl, HB2.out⟩
  · go_wp2_with fail
    go_ret
    exact ⟨rfl, HB1.out⟩

theorem choose112_any (a b : Value) (w : World) (p q r : Bool)
    (h1 : ∀ wx, Below w.heap.size w wx → Calls Try.prog 112 #[.int .i64 1, .int .i64 2, a, b] wx fun e w' => e = .returned (.bool p) ∧ Below wx.heap.size wx w')
    (h2 : ∀ wx, Below w.heap.size w wx → Calls Try.prog 112 #[.int .i64 0, .int .i64 1, a, b] wx fun e w' => e = .returned (.bool q) ∧ Below wx.heap.size wx w')
    (h3 : ∀ wx, Below w.heap.size w wx → Calls Try.prog 112 #[.int .i64 0, .int .i64 2, a, b] wx fun e w' => e = .returned (.bool r) ∧ Below wx.heap.size wx w') :
    Calls Try.prog 111 #[.func (.func 112) #[] #[a, b]] w fun e w' => e = .returned (.int .i64 (chF p q r)) ∧ Below w.heap.size w w' := by
  have H1 := Lib.hid h1
  have H2 := Lib.hid h2
  have H3 := Lib.hid h3
  clear h1 h2 h3
  go_enter Try.func111, Try.ntmps111
  go_wp2_with fail
  (with_reducible refine (H1.out w (Below.refl _ _)).mono ?_)
  rintro e w1 ⟨rfl, hb1⟩
  have HB1 := Lib.hid hb1
  clear hb1
  cases p
  · go_wp2_with fail
    (with_reducible refine (H2.out _ HB1.out).mono ?_)
    rintro e w2 ⟨rfl, hb2⟩
    have HB2 := Lib.hid (HB1.out.trans (hb2.mono HB1.out.size))
    clear hb2
    cases q
    · go_wp2_with fail
      (with_reducible refine (H3.out _ HB2.out).mono ?_)
      rintro e w3 ⟨rfl, hb3⟩
      have HB3 := Lib.hid (HB2.out.trans (hb3.mono HB2.out.size))
      clear hb3
      cases r
      · go_wp2_with fail
        go_ret
        exact ⟨rfl, HB3.out⟩
      · go_wp2_with fail
        go_ret
        exact ⟨rfl, HB3.out⟩
    · go_wp2_with fail
      go_ret
      exact ⟨rfl, HB2.out⟩
  · go_wp2_with fail
    go_ret
    exact ⟨rfl, HB1.out⟩

theorem clo176_any (i k : Int) (i' k' vb fb f : Nat) (A A' : Option Addr) (n c n' c' B : Nat) (l l' : List Int) (w : World) (hi : i = i') (hk : k = k') (hi3 : i' < 3) (hk3 : k' < 3)
    (c0 : w.cell? ⟨vb, i', none⟩ = some (.slice A n c)) (c1 : w.cell? ⟨vb, k', none⟩ = some (.slice A' n' c')) (cf : w.cell? ⟨fb, 0, none⟩ = some (.int .i64 f))
    (hn : n = l.length) (hn' : n' = l'.length) (hr : Rd w B 1 A n (l.map (Value.int .i64))) (hr' : Rd w B 1 A' n' (l'.map (Value.int .i64))) (hf : f < n) (hf' : f < n') :
    Calls Try.prog 176 #[.int .i64 i, .int .i64 k, .pointer (some ⟨vb, 0, none⟩), .pointer (some ⟨fb, 0, none⟩)] w fun e w' => e = .returned (.bool (decide (l.getD f 0 = l'.getD f 0))) ∧ Below w.heap.size w w' := by
  subst hi
  subst hk
  have hx := intsV_get l f (by omega)
  have hy := intsV_get l' f (by omega)
  generalize l.getD f 0 = x at *
  generalize l'.getD f 0 = y at *
  obtain ⟨b, o, rfl, _, d0⟩ := hr.at1 hf hx
  obtain ⟨b', o', rfl, _, d1⟩ := hr'.at1 hf' hy
  have hi0 : (0 : Int) ≤ i' := by omega
  have hk0 : (0 : Int) ≤ k' := by omega
  have hi3' : (i' : Int) < 3 := by omega
  have hk3' : (k' : Int) < 3 := by omega
  have hf0 : (0 : Int) ≤ f := by omega
  have hfn : (f : Int) < n := by omega
  have hfn' : (f : Int) < n' := by omega
  clear hr hr' hx hy hn hn'
  go_enter Try.func176, Try.ntmps176
  go_wp2_with fail
  go_quiet (fail)
  go_wp2_with fail
  go_ret
  exact ⟨ret_b (by first | rfl | simp), below_dn (Below.refl _ _) _⟩

/-- A slice that is there, or nil. -/
def OptV (w : World) (B : Nat) (A : Option Addr) (n c : Nat) (o : Option (List Int)) : Prop :=
  (o = none ∧ A = none ∧ n = 0 ∧ c = 0) ∨ ∃ v g, o = some v ∧ A = some g ∧ n = v.length ∧ n ≤ c ∧ c ≤ 9223372036854775807 ∧ Rd w B 1 A n (v.map (Value.int .i64))
theorem OptV.below {w w' : World} {B : Nat} {A : Option Addr} {n c : Nat} {o : Option (List Int)} (h : OptV w B A n c o) (hb : Below B w w') : OptV w' B A n c o := by
  rcases h with h | ⟨v, g, h1, h2, h3, h4, h5, h6⟩
  · exact .inl h
  · exact .inr ⟨v, g, h1, h2, h3, h4, h5, h6.below hb⟩

theorem clo177_any (i k : Int) (i' k' vb : Nat) (A A' : Option Addr) (n c n' c' B : Nat) (o o' : Option (List Int)) (w : World) (hi : i = i') (hk : k = k') (hi3 : i' < 3) (hk3 : k' < 3)
    (c0 : w.cell? ⟨vb, i', none⟩ = some (.slice A n c)) (c1 : w.cell? ⟨vb, k', none⟩ = some (.slice A' n' c')) (ho : OptV w B A n c o) (ho' : OptV w B A' n' c' o') :
    Calls Try.prog 177 #[.int .i64 i, .int .i64 k, .pointer (some ⟨vb, 0, none⟩)] w fun e w' => e = .returned (.bool (decide (o = o'))) ∧ Below w.heap.size w w' := by
  subst hi
  subst hk
  have hi0 : (0 : Int) ≤ i' := by omega
  have hk0 : (0 : Int) ≤ k' := by omega
  have hi3' : (i' : Int) < 3 := by omega
  have hk3' : (k' : Int) < 3 := by omega
  have e1 := fun wx => Lib.run_eql_slice_nil (P := Try.prog) wx 30 3 A n c 0 0 Try.underlying30
  have e2 := fun wx => Lib.run_eql_slice_nil (P := Try.prog) wx 30 3 A' n' c' 0 0 Try.underlying30
  rcases ho with ⟨rfl, rfl, rfl, rfl⟩ | ⟨v, g, rfl, rfl, h3, h4, h5, h6⟩ <;> rcases ho' with ⟨rfl, rfl, rfl, rfl⟩ | ⟨v', g', rfl, rfl, h3', h4', h5', h6'⟩
  · go_enter Try.func177, Try.ntmps177
    go_wp2_with fail
    have e3 : Hid (∀ wx, Below w.heap.size w wx → Calls Try.prog 27 #[.slice none 0 0, .slice none 0 0] wx fun e w' => e = .returned (.bool true) ∧ ∃ m, wx.drewN m = w') := Lib.hid fun wx _ => (equalInts_any none none 0 0 0 0 0 [] [] wx rfl rfl (by omega) (Rd.nil_ _) (Rd.nil_ _)).mono fun e w' h => ⟨by rw [h.1]; rfl, h.2⟩
    have s0 : w.drew.cell? ⟨vb, i', none⟩ = some (.slice none 0 0) ∧ w.drew.cell? ⟨vb, k', none⟩ = some (.slice none 0 0) := ⟨c0, c1⟩
    go_region_held3 (fun wx => wx.cell? ⟨vb, i', none⟩ = some (.slice none 0 0) ∧ wx.cell? ⟨vb, k', none⟩ = some (.slice none 0 0))
      (first | (with_reducible exact s0) | (with_reducible exact s3) | go_keep)
      (first
        | (go_at_call 27
           (with_reducible refine (e3.out _ (Below.refl _ _).drew).mono ?_)
           rintro e w3 ⟨rfl, m, hm⟩
           have s3 : w3.cell? ⟨vb, i', none⟩ = some (.slice none 0 0) ∧ w3.cell? ⟨vb, k', none⟩ = some (.slice none 0 0) := by rw [← hm]; exact ⟨c0, c1⟩
           have hb3 : Below w.heap.size w w3 := by rw [← hm]; exact below_dn ((Below.refl _ _).drew) m
           clear hm))
    go_wp2_with fail
    go_ret
    exact ⟨rfl, hb3⟩
  · clear h3' h6'
    have e1 : ∀ wx, Sem.run Try.prog (binOp BinOp.eql 30 (.slice none 0 0) (.slice none 0 0)) wx = .ok (.bool true) wx := e1
    have e2 : ∀ wx, Sem.run Try.prog (binOp BinOp.eql 30 (.slice (some g') n' c') (.slice none 0 0)) wx = .ok (.bool false) wx := e2
    go_enter Try.func177, Try.ntmps177
    go_wp2_with fail
    go_quiet (fail)
    go_wp2_with fail
    go_ret
    exact ⟨ret_b (by simp), below_dn (Below.refl _ _) _⟩
  · clear h3 h6
    have e1 : ∀ wx, Sem.run Try.prog (binOp BinOp.eql 30 (.slice (some g) n c) (.slice none 0 0)) wx = .ok (.bool false) wx := e1
    have e2 : ∀ wx, Sem.run Try.prog (binOp BinOp.eql 30 (.slice none 0 0) (.slice none 0 0)) wx = .ok (.bool true) wx := e2
    go_enter Try.func177, Try.ntmps177
    go_wp2_with fail
    go_quiet (fail)
    go_wp2_with fail
    go_ret
    exact ⟨ret_b (by simp), below_dn (Below.refl _ _) _⟩
  · have HE := Lib.hid (equalInts_any (some g) (some g') n c n' c' B v v' w.drew h3 h3' (by omega) (h6.below ((Below.refl _ _).drew)) (h6'.below ((Below.refl _ _).drew)))
    clear h3 h3' h6 h6'
    have hd : decide (some v = some v') = decide (v = v') := by simp
    rw [hd]
    clear hd
    generalize decide (v = v') = d at *
    go_enter Try.func177, Try.ntmps177
    go_wp2_with fail
    have s0 : w.drew.cell? ⟨vb, i', none⟩ = some (.slice (some g) n c) ∧ w.drew.cell? ⟨vb, k', none⟩ = some (.slice (some g') n' c') := ⟨c0, c1⟩
    go_region_held3 (fun wx => wx.cell? ⟨vb, i', none⟩ = some (.slice (some g) n c) ∧ wx.cell? ⟨vb, k', none⟩ = some (.slice (some g') n' c'))
      (first | (with_reducible exact s0) | (with_reducible exact s3) | go_keep)
      (first
        | (go_at_call 27
           (with_reducible refine HE.out.mono ?_)
           rintro e w3 ⟨rfl, m, hm⟩
           have s3 : w3.cell? ⟨vb, i', none⟩ = some (.slice (some g) n c) ∧ w3.cell? ⟨vb, k', none⟩ = some (.slice (some g') n' c') := by rw [← hm]; exact ⟨c0, c1⟩
           have hb3 : Below w.heap.size w w3 := by rw [← hm]; exact below_dn ((Below.refl _ _).drew) m
           clear hm))
    go_wp2_with fail
    go_ret
    exact ⟨rfl, hb3⟩
end Go.Proofs.Ytnidcmhfbkdioaa
