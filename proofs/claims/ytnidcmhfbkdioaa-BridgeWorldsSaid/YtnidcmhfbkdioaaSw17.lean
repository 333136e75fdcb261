/-
  The kinds of a game are valid, and a bridge finds its kinds among them. Conditions: none.
-/
import Derived.Test.YtnidcmhfbkdioaaSw16
import Derived.Test.YtnidcmhfbkdioaaSw14
namespace Go.Proofs.Ytnidcmhfbkdioaa
open Go.RowKit
set_option maxRecDepth 100000
theorem kindsN_check (n:Nat) (hn:n<8):checkF (kindsN n)=0:=by
 rcases (by omega:n=0\/n=1\/n=2\/n=3\/n=4\/n=5\/n=6\/n=7) with rfl | rfl | rfl | rfl | rfl | rfl | rfl | rfl <;> decide +kernel
theorem kindsN_map (n:Nat) (hn:n<8):(mapF (kindsN n)).2=0:=by
 rcases (by omega:n=0\/n=1\/n=2\/n=3\/n=4\/n=5\/n=6\/n=7) with rfl | rfl | rfl | rfl | rfl | rfl | rfl | rfl <;> decide +kernel
theorem kindsN_len (n:Nat) (hn:n<8):1<=(kindsN n).length/\(kindsN n).length<=6:=by
 rcases (by omega:n=0\/n=1\/n=2\/n=3\/n=4\/n=5\/n=6\/n=7) with rfl | rfl | rfl | rfl | rfl | rfl | rfl | rfl <;> decide +kernel
theorem kindsN_one (n:Nat) (hn:n<8):∀ k∈kindsN n,oneF k.1 k.2=0:=by
 rcases (by omega:n=0\/n=1\/n=2\/n=3\/n=4\/n=5\/n=6\/n=7) with rfl | rfl | rfl | rfl | rfl | rfl | rfl | rfl <;> decide +kernel
theorem kindsN_place (n:Nat) (hn:n<8):∀ k∈kindsN n,k.1=kn_p->k.2=kf_p:=by
 rcases (by omega:n=0\/n=1\/n=2\/n=3\/n=4\/n=5\/n=6\/n=7) with rfl | rfl | rfl | rfl | rfl | rfl | rfl | rfl <;> simp [kindsN,kn_s,kn_i,kn_m,kn_p,kn_o,kn_h]
theorem scripts_any (w:World):Calls Try.prog 133 #[] w fun e w'=>∃ (g:Nat) (l:List ByteArray),e=.returned (.slice (some ⟨g,0,none⟩) 4 4)/\l.length=4/\Bk w' g 9 (l.map Value.string).toArray/\w.heap.size<=g/\Below w.heap.size w w':=by
 go_enter Try.func133,Try.ntmps133
 go_wp2_with fail
 go_ret
 refine ⟨_,[_,_,_,_],rfl,rfl,Bk.new w 9 _,Nat.le_refl _,(Below.refl _ w).alloc (Nat.le_refl _) _⟩
end Go.Proofs.Ytnidcmhfbkdioaa
