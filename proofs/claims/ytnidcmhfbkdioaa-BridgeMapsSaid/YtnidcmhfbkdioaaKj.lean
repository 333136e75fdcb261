/-
  The contract of Named. Conditions: what is read can be read, and no kind has more than a million fields.
-/
import Derived.Test.YtnidcmhfbkdioaaKi
namespace Go.Proofs.Ytnidcmhfbkdioaa
open Go.RowKit
set_option maxRecDepth 100000

def namedF (ks : List (ByteArray × List Fd)) (nm : ByteArray) (ns : List ByteArray) : Int × Bool :=
  if findF (ks.map (·.1)) nm < 0 then (-1, true) else
  match ks[(findF (ks.map (·.1)) nm).toNat]? with
  | some k => (findF (ks.map (·.1)) nm, decide (k.2.map Fd.nm = ns))
  | none => (-1, true)

theorem T.info9 : (Try.prog.info? 9).map (fun i => (i.zero, i.size, i.bytes)) = some (some (.string ByteArray.empty), 1, 16) := by kernel_rfl
theorem Bk.new2 (w : World) (o : Obj) (t : TypeId) (cs : Array Value) : Bk ((w.alloc o).alloc (.cells cs t)) (w.heap.size + 1) t cs := by simpa using Bk.new (w.alloc o) t cs
theorem below_drewN {B : Nat} {w w' : World} (h : Below B w w') (q : Nat) : Below B w (w'.drewN q) := by
  cases h
  constructor <;> assumption
theorem strV_append (a b : List ByteArray) : strV (a ++ b) = strV a ++ strV b := by simp [strV]

set_option maxHeartbeats 1600000 in
theorem named_any (A SA : Option Addr) (n c m sc B : Nat) (ks : List Kd) (nm : ByteArray) (ns : List ByteArray) (w : World) (hr : Rd w B 2 A n (kdCs ks)) (hn : n = ks.length) (hc : n ≤ c) (hc2 : c ≤ 9223372036854775807) (hks : ∀ k ∈ ks, KdOk w B k) (hsm : ∀ k ∈ ks, k.n ≤ 1048576)
    (hs : Rd w B 1 SA m (strV ns)) (hm : m = ns.length) (hB : B ≤ w.heap.size) :
    Calls Try.prog 154 #[.slice A n c, .string nm, .slice SA m sc] w fun e w' => e = .returned (.tuple #[.int .i64 (namedF (ks.map Kd.p) nm ns).1, .bool (namedF (ks.map Kd.p) nm ns).2]) ∧ Below w.heap.size w w' := by
  obtain ⟨i0, hi0, hz0, hz1, hz2⟩ := info_parts T.info9
  obtain ⟨R, hR⟩ : ∃ R, R = namedF (ks.map Kd.p) nm ns := ⟨_, rfl⟩
  rw [← hR]
  have HR := Lib.hid hR
  have HN := Lib.hid hn
  have HM := Lib.hid hm
  have HRD := Lib.hid hr
  have HSD := Lib.hid hs
  have HKS := Lib.hid hks
  have HSM := Lib.hid hsm
  have HBB := Lib.hid hB
  clear hr hn hR hks hs hm hsm
  clear hB
  go_enter Try.func154, Try.ntmps154
  go_wp2_with fail
  go_loopg [15] n (fun g v wr => ∃ k : Nat, k ≤ n ∧ g = n - k ∧ v = .int .i64 k ∧ Hid (∀ i, i < k → ∀ x, (ks.map Kd.nm)[i]? = some x → x ≠ nm) ∧ Hid (Below w.heap.size w wr))
  case atStart => exact ⟨0, Nat.zero_le _, rfl, rfl, Lib.hid (fun i hi => by omega), Lib.hid (Below.refl _ _)⟩
  case round =>
    obtain ⟨k, hk, rfl, rfl, HNE, HW⟩ := hrel
    by_cases hkn : k < n
    · obtain ⟨f, hf⟩ : ∃ f, ks[k]? = some f := ⟨_, List.getElem?_eq_getElem (by have := HN.out; omega)⟩
      have hrw : Rd wr B 2 A n (kdCs ks) := HRD.out.below (HW.out.mono HBB.out)
      obtain ⟨b, o, hA, hbB, c0, c1⟩ := hrw.kd hkn hf
      subst hA
      have HF : Hid ((ks.map Kd.nm)[k]? = some f.nm) := Lib.hid (by rw [List.getElem?_map, hf]; rfl)
      have HFP : Hid ((ks.map Kd.p)[k]? = some (f.nm, f.fds)) := Lib.hid (by rw [List.getElem?_map, hf]; rfl)
      have HFO := Lib.hid (HKS.out f (List.mem_of_getElem? hf))
      have hfs := HSM.out f (List.mem_of_getElem? hf)
      have HFR := Lib.hid HFO.out.rd
      have HFL := Lib.hid HFO.out.len
      have hkz : (k : Int) < n := by omega
      have hkz0 : (0 : Int) ≤ k := by omega
      clear hrw hf HFO
      generalize f.nm = fn at *
      generalize f.A = fA at *
      generalize f.n = fl at *
      generalize f.c = fc at *
      by_cases hgf : fn = nm
      · subst hgf
        have HRK : Hid (R = ((k : Int), decide (f.fds.map Fd.nm = ns))) := Lib.hid (by
          rw [HR.out, namedF, kdp_nm, findF_hit HF.out HNE.out, if_neg (by omega), Int.toNat_natCast, HFP.out])
        clear HNE
        have hk1 := (HW.out.alloc HW.out.size (.cells #[.string fn, .slice fA fl fc] 63))
        have HK1 := Lib.hid hk1
        clear hk1
        go_wp2_with fail
        go_loopw [10, 27] (fun out v wi => ∃ (j : Nat) (A2 : Option Addr) (c2 : Nat), j ≤ fl ∧ v = .int .i64 j ∧ out = .slice A2 j c2 ∧ wi.ownsRow w.heap.size 9 1 (.slice A2 j c2) j (strV ((f.fds.map Fd.nm).take j)) ∧ Below w.heap.size w wi) (fun _ v _ => fl - (intOf v).toNat)
        case atStart => exact ⟨0, none, 0, Nat.zero_le _, rfl, rfl, World.ownsRow_nil _ _ _ _, HK1.out⟩
        case round =>
          obtain ⟨j, A2, c2, hj, rfl, rfl, hown, hb⟩ := hrel
          clear c0 c1
          have hsz := hb.size
          by_cases hjl : j < fl
          · obtain ⟨fd, hfd⟩ : ∃ fd, f.fds[j]? = some fd := ⟨_, List.getElem?_eq_getElem (by have := HFL.out; omega)⟩
            have hfw : Rd wr B 3 fA fl (fdCs f.fds) := HFR.out.below (hb.mono HBB.out)
            obtain ⟨b2, o2, hA2, hbB2, d0, d1, d2⟩ := hfw.fd hjl hfd
            subst hA2
            have HS : Hid ((f.fds.map Fd.nm).take (j + 1) = (f.fds.map Fd.nm).take j ++ [fd.nm]) := Lib.hid (by rw [List.take_add_one, List.getElem?_map, hfd]; rfl)
            have hjz : (j : Int) < fl := by omega
            have hjz0 : (0 : Int) ≤ j := by omega
            clear hfw hfd
            generalize fd.nm = gn at *
            generalize fd.bits = gb at *
            generalize fd.low = gl at *
            go_wp2_with
              (at_builtin
               go_must (refine wpList_append_one _ rfl (.tmp 31) (.tmp 34) _ rfl w.heap.size 9 i0 (.string ByteArray.empty) 1 16 Try.underlying108 hi0 hz0 hz1 hz2 rfl (by decide) (.slice A2 j c2) j _ rfl ((hown.alloc _).alloc _) _ 1 9 #[.string gn] rfl (Bk.new2 _ _ _ _) rfl ?c1 (j + 1) rfl ?c2 ?c3 ?c4 ?_)
               case c1 => simp [Value.oneCell']
               case c2 => unfold maxLen; omega
               case c3 => omega
               case c4 => simp; omega
               intro g5 cc5 w5 hown5 hg5 hat5)
            go_roundw
            case measure => simp [intOf]; omega
            case rel =>
              refine ⟨j + 1, _, cc5, by omega, by go_num, rfl, ?_, ((hb.alloc hsz _).alloc (by simp; omega) _).grown hg5 (by simp; omega) (fun q hq => (hown.lt q hq).1)⟩
              rw [HS.out, strV_append]
              exact hown5
          · obtain rfl : j = fl := by omega
            have hfull : (f.fds.map Fd.nm).take j = f.fds.map Fd.nm := List.take_of_length_le (by rw [List.length_map, ← HFL.out]; exact Nat.le_refl _)
            rw [hfull] at hown
            have heq := equalSS_any A2 SA j c2 m sc wr.heap.size (f.fds.map Fd.nm) ns wr (by rw [List.length_map, ← HFL.out]) HM.out (by omega) (Rd.of_own hown) ((HSD.out.below (hb.mono HBB.out)).more (Nat.le_trans HBB.out hsz))
            have HEQ := Lib.hid heq
            have HBI := Lib.hid hb
            clear heq hfull hb hown
            go_wp2_with fail
            refine HEQ.out.mono ?_
            rintro e w6 ⟨rfl, q, rfl⟩
            go_wp2_with fail
            go_ret2
            rw [HRK.out]
            exact ⟨rfl, below_drewN HBI.out q⟩
      · have hgb : (fn == nm) = false := ba_beq_ne hgf
        have hgl : (fn.toList == nm.toList) = false := ba_tl_ne hgf
        have hgb' : (nm == fn) = false := ba_beq_ne fun e => hgf e.symm
        have hgl' : (nm.toList == fn.toList) = false := ba_tl_ne fun e => hgf e.symm
        go_wp2_with fail
        go_roundg (n - (k + 1))
        case measure => omega
        case rel => exact ⟨k + 1, by omega, rfl, by go_num, Lib.hid fun i hi x hx => by
          rcases Nat.lt_or_ge i k with h | h
          · exact HNE.out i h x hx
          · obtain rfl : i = k := by omega
            rw [HF.out] at hx
            injection hx with hx
            rw [← hx]; exact hgf, Lib.hid (HW.out.alloc HW.out.size _)⟩
    · obtain rfl : k = n := by omega
      go_wp2_with fail
      go_ret2
      have hno : findF (ks.map Kd.nm) nm = -1 := findF_none fun i hi x hx => HNE.out i (by rw [List.length_map, ← HN.out] at hi; exact hi) x hx
      rw [HR.out, namedF, kdp_nm, hno, if_pos (by decide)]
      exact ⟨rfl, HW.out⟩
end Go.Proofs.Ytnidcmhfbkdioaa
