/-
  Plain law: a component stays valid when one value is drawn anew. No program. Conditions: none.
-/
import Derived.Test.YtnidcmhfbkdioaaSw14
namespace Go.Proofs.Ytnidcmhfbkdioaa
theorem holdK_set {d:Kp2} {v:List Int} (h:holdK d v=true) {k:Nat} {f:Fd} {x:Int} (hf:d.2[k]?=some f) (h1:f.low<=x) (h2:x<f.low+2^f.bits.toNat):holdK d (v.set k x)=true:=by
 obtain ⟨a,b,c⟩:=holdK_iff.1 h
 refine holdK_iff.2 ⟨a,by simp [b],fun i g hg=>?_⟩
 by_cases hi:k=i
 . subst hi
   obtain rfl:f=g:=Option.some.inj (hf.symm.trans hg)
   obtain ⟨hk,_⟩:=List.getElem?_eq_some_iff.1 hf
   have e:(v.set k x).getD k 0=x:=by
    rw [List.getD_eq_getElem?_getD,List.getElem?_set_self (by omega)]
    rfl
   rw [e]
   exact near_in (one_ok a (List.mem_of_getElem? hf)) h1 h2
 . have e:(v.set k x).getD i 0=v.getD i 0:=by
    rw [List.getD_eq_getElem?_getD,List.getD_eq_getElem?_getD,List.getElem?_set_ne hi]
   rw [e]
   exact c i g hg
end Go.Proofs.Ytnidcmhfbkdioaa
