/-
  Lemmas for the walk, merged (Re Ha Rl Ec). No condition but those in each statement.
-/
import Derived.OrdersHeld
import Derived.Test.YtnidcmhfbkdioaaSw3
import Derived.Test.YtnidcmhfbkdioaaSw10
namespace Go.Proofs.Ytnidcmhfbkdioaa
open Go.RowKit
open Go.IntKind (i64)
open Go.Lib (hid)
theorem sP:(∀ (a:Act) (d:Tmp) (v:Value),a.put (some d) v={ a with tmps:=a.tmps.setIfInBounds d v })/\(∀ (a:Act) (v:Value),a.put none v=a)/\(∀ (l:List Value) (i:Nat) (v:Value),l.toArray.setIfInBounds i v=(l.set i v).toArray)/\(∀ (l:List Value) (x v:Value),(x::l).set 0 v=v::l)/\(∀ (l:List Value) (x v:Value) (i:Nat),(x::l).set (i+1) v=x::l.set i v) :=
 ⟨fun _ _ _=>rfl,fun _ _=>rfl,fun _ _ _=>by simp,fun _ _ _=>rfl,fun _ _ _ _=>rfl⟩
section
variable {P:Program} {ops:Array Oper} {Q:Exit->Act->World->Prop} {md:Region.Mode} {S:World->Prop} {last:Nat}
def wpAnyE (P:Program) (md:Region.Mode) (ops:Array Oper) (Q:Exit->Act->World->Prop) (S:World->Prop) (last:Nat):Nat->Array Bool->Act->World->Prop
 | 0,listed,a,w=>Region.ready md ops listed=[]/\Q .normal a w
 | fuel+1,listed,a,w =>
   (Region.ready md ops listed=[]->Q .normal a w) /\
   ∀ i∈Region.ready md ops listed,wpOp P ops Q i (fun a' w'=>(i≠last->S w')/\wpAnyE P md ops Q S last fuel (listed.setIfInBounds i true) a' w') a w
theorem wpAny_of_E:∀ (fuel:Nat) (listed:Array Bool) (a:Act) (w:World),wpAnyE P md ops Q S last fuel listed a w->wpAny P md ops Q fuel listed a w
 | 0,_,_,_,h=>h
 | fuel+1,_,_,_,h=>⟨h.1,fun i hi=>wpOp_mono (fun a' w' h'=>wpAny_of_E fuel _ a' w' h'.2) (h.2 i hi)⟩
theorem wpAnyE_first {i:Nat} {oi ol:Oper} {v:Value} (hi:ops[i]?=some oi) (hsel:∀ (j:Nat) (o:Oper) cs b,ops[j]?=some o->o.op≠.select cs b)
 (hQ:∀ c a w,Q (.panic c) (a.put oi.dst v) w->Q (.panic c) a w) (hil:i≠last) (hol:ops[last]?=some ol) (hwt:∃ e∈ol.after,Region.binds md e=true/\e.on=i) :
 ∀ (fuel:Nat) (listed:Array Bool) (a:Act) (w:World),
   (∀ j oj,ops[j]?=some oj->j≠i->listed.getD j true=false->(∀ e∈oj.after,Region.binds md e=true->e.on≠i)->oi.apart ops oj=true) ->
   i∈Region.ready md ops listed->YieldsIf P ops S oi v a->S w ->
   wpAnyE P md ops Q S last fuel (listed.setIfInBounds i true) (a.put oi.dst v) w->wpAnyE P md ops Q S last (fuel+1) listed a w:=by
 intro fuel
 induction fuel with
 | zero =>
   intro listed a w _ hr hy hS H
   refine ⟨fun h=>(by rw [h] at hr;cases hr),fun j hj=>?_⟩
   by_cases hji:j=i
   . subst hji;exact hy.wpOp hi hS ⟨fun _=>hS,H⟩
   . have:=ready_mono hj hji
     rw [H.1] at this
     cases this
 | succ fuel ih =>
   intro listed a w hfree hr hy hS H
   refine ⟨fun h=>(by rw [h] at hr;cases hr),fun j hj=>?_⟩
   by_cases hji:j=i
   . subst hji;exact hy.wpOp hi hS ⟨fun _=>hS,H⟩
   . have h1:=H.2 j (ready_mono hj hji)
     obtain ⟨hjun,oj,hoj,hall⟩:=mem_ready.1 hj
     have hnot:∀ e∈oj.after,Region.binds md e=true->e.on≠i:=fun e he hb heq=>by
      have h1:=hall e he hb
      have h0:=(mem_ready.1 hr).1
      rw [heq] at h1
      rcases Nat.lt_or_ge i listed.size with h' | h'
      . simp [h'] at h0 h1;rw [h0] at h1;cases h1
      . simp [Array.getElem?_eq_none h'] at h1
     have hjl:j≠last:=fun e=>by
      subst e
      rw [hol] at hoj
      injection hoj with hoj
      subst hoj
      obtain ⟨e,he,hb,heq⟩:=hwt
      exact hnot e he hb heq
     have h2:=wpOp_putIf hoj (hfree j oj hoj hji hjun hnot) (fun cs b=>hsel i oi cs b hi) (fun cs b=>hsel j oj cs b hoj) hQ hy h1
     have hfree':∀ k ok,ops[k]?=some ok->k≠i->(listed.setIfInBounds j true).getD k true=false ->
      (∀ e∈ok.after,Region.binds md e=true->e.on≠i)->oi.apart ops ok=true:=fun k ok hk hki hun hno=>by
      refine hfree k ok hk hki ?_ hno
      by_cases hjk:j=k
      . subst hjk;exact hjun
      . rw [getD_set_ne true hjk] at hun;exact hun
     refine wpOp_mono (fun a' w' h3=>⟨fun _=>h3.2.1 hjl,ih (listed.setIfInBounds j true) a' w' hfree' (ready_mono hr (Ne.symm hji)) h3.1 (h3.2.1 hjl) ?_⟩) h2
     rw [Array.setIfInBounds_comm _ _ hji]
     exact h3.2.2
def waits (md:Region.Mode) (ops:Array Oper) (last i:Nat):Bool:=(i != last)&&((ops[last]?).map fun o=>o.after.any fun e=>Region.binds md e&&e.on == i).getD false
theorem wpAnyE_val {i:Nat} {oi:Oper} {d:Option Tmp} {v:Value} {fuel:Nat} {listed:Array Bool} {a:Act} {w:World} (hi:ops[i]?=some oi) (hd:oi.dst=d)
 (hs:Region.noSelect ops=true) (hf:Region.free md ops listed i=true) (hr:(Region.ready md ops listed).contains i=true) (hwl:waits md ops last i=true)
 (hQ:∀ c a w,Q (.panic c) (a.put d v) w->Q (.panic c) a w) (hy:YieldsIf P ops S oi v a) (hS:S w)
 (h:wpAnyE P md ops Q S last fuel (listed.setIfInBounds i true) (a.put d v) w):wpAnyE P md ops Q S last (fuel+1) listed a w:=by
 subst hd
 unfold waits at hwl
 rw [Bool.and_eq_true] at hwl
 obtain ⟨h1,h2⟩:=hwl
 cases hol:ops[last]? with
 | none=>rw [hol] at h2;cases h2
 | some ol =>
   rw [hol] at h2
   have h3:(ol.after.any fun e=>Region.binds md e&&e.on == i)=true:=h2
   obtain ⟨e,he,h4⟩:=Array.any_eq_true'.1 h3
   rw [Bool.and_eq_true] at h4
   exact wpAnyE_first hi (Region.noSelect_spec hs) hQ (by simpa using h1) hol ⟨e,he,h4.1,by simpa using h4.2⟩ fuel listed a w (Region.free_spec hi hf) (by simpa using hr) hy hS h
theorem wpAnyE_one {i:Nat} {oi:Oper} {fuel:Nat} {listed:Array Bool} {a:Act} {w:World} (hi:ops[i]?=some oi) (hr:Region.ready md ops listed=[i]) (hg:oi.guard=none)
 (h:oi.wp P a w (fun a' w'=>(i≠last->S w')/\wpAnyE P md ops Q S last fuel (listed.setIfInBounds i true) a' w') Q):wpAnyE P md ops Q S last (fuel+1) listed a w :=
 ⟨(fun h0=>by rw [hr] at h0;cases h0),fun j hj=>by
   rw [hr] at hj
   have e:j=i:=by simpa using hj
   subst e
   unfold wpOp
   have hw:Region.wanted oi (yielded ops a.tmps)=true:=by simp [Region.wanted,hg]
   simp only [hi,hw,if_true]
   exact .inl h⟩
theorem wpAnyE_if {i:Nat} {oi:Oper} {fuel:Nat} {listed:Array Bool} {a:Act} {w:World} (hi:ops[i]?=some oi) (hr:Region.ready md ops listed=[i]) (hg:oi.guard=none)
 (h:if Region.wanted oi (yielded ops a.tmps)=true then oi.wp P a w (fun a' w'=>(i≠last->S w')/\wpAnyE P md ops Q S last fuel (listed.setIfInBounds i true) a' w') Q else False):wpAnyE P md ops Q S last (fuel+1) listed a w :=
 wpAnyE_one hi hr hg (by rwa [if_pos (show Region.wanted oi (yielded ops a.tmps)=true by simp [Region.wanted,hg])] at h)
theorem wpAnyE_done {listed:Array Bool} {a:Act} {w:World} (hr:Region.ready md ops listed=[]) (h:Q .normal a w) :
 ∀ fuel,wpAnyE P md ops Q S last fuel listed a w
 | 0=>⟨hr,h⟩
 | _+1=>⟨fun _=>h,by rw [hr];simp⟩
theorem wp_region_E {id:Nat} {a:Act} {w:World} (hm:P.follows .mixedOrders=true)
 (h:wpAnyE P .any ops Q S last ops.size (Array.replicate ops.size false) a w.drew):(Code.region id ops true).wp P Q a w :=
 wp_region_any hm (wpAny_of_E _ _ _ _ h)
theorem wpE (i:Nat) (v:Value) (d:Tmp) {oi:Oper} {fuel:Nat} {listed:Array Bool} {a:Act} {w:World} (s:S w) (h:wpAnyE P md ops Q S last fuel (listed.setIfInBounds i true) (a.put (some d) v) w)
 (hi:ops[i]?=some oi:=by rfl) (hd:oi.dst=some d:=by rfl) (k0:Region.noSelect ops=true:=by kernel_rfl) (k1:Region.free md ops listed i=true:=by kernel_rfl) (k2:(Region.ready md ops listed).contains i=true:=by kernel_rfl) (k3:waits md ops last i=true:=by kernel_rfl) (g:Region.wanted oi (yielded ops a.tmps)=true:=by rfl) (y:∀ w,S w->(execOp a.eval oi).run P w=.ok (.value v) w:=by (intro w hS;(repeat (obtain ⟨h,hS⟩:=hS));go_simp))
 (hQ:∀ c a w,Q (.panic c) (a.put (some d) v) w->Q (.panic c) a w:=by exact fun _ _ _ h=>h):wpAnyE P md ops Q S last (fuel+1) listed a w :=
 wpAnyE_val hi hd k0 k1 k2 k3 hQ (Or.inl ⟨g,y⟩) s h
end
section
variable {P:Program} {ops:Array Oper} {Q:Exit->Act->World->Prop} {md:Region.Mode} {S:World->Prop}
theorem wpAnyH_val {i:Nat} {oi:Oper} {d:Option Tmp} {v:Value} {fuel:Nat} {listed:Array Bool} {a:Act} {w:World} (hi:ops[i]?=some oi) (hd:oi.dst=d)
 (hs:Region.noSelect ops=true) (hf:Region.free md ops listed i=true) (hr:(Region.ready md ops listed).contains i=true)
 (hQ:∀ c a w,Q (.panic c) (a.put d v) w->Q (.panic c) a w) (hy:YieldsIf P ops S oi v a) (hS:S w)
 (h:wpAnyH P md ops Q S fuel (listed.setIfInBounds i true) (a.put d v) w):wpAnyH P md ops Q S (fuel+1) listed a w:=by
 subst hd
 exact wpAnyH_take hi hs hf hr hQ hy hS h
theorem wpAnyH_oneW {i:Nat} {oi:Oper} {fuel:Nat} {listed:Array Bool} {a:Act} {w:World} (hi:ops[i]?=some oi) (hr:Region.ready md ops listed=[i]) (hg:Region.wanted oi (yielded ops a.tmps)=true)
 (h:oi.wp P a w (fun a' w'=>S w'/\wpAnyH P md ops Q S fuel (listed.setIfInBounds i true) a' w') Q):wpAnyH P md ops Q S (fuel+1) listed a w :=
 wpAnyH_all hr (by simp) fun j hj=>by
  have e:j=i:=by simpa using hj
  subst e
  unfold wpOp
  simp only [hi,hg,if_true]
  exact .inl h
theorem wp_region_H {id:Nat} {a:Act} {w:World} (hm:P.follows .mixedOrders=true)
 (h:wpAnyH P .any ops Q S ops.size (Array.replicate ops.size false) a w.drew):(Code.region id ops true).wp P Q a w :=
 wp_region_held hm h
theorem wpH (i:Nat) (v:Value) (d:Tmp) {oi:Oper} {fuel:Nat} {listed:Array Bool} {a:Act} {w:World} (s:S w) (h:wpAnyH P md ops Q S fuel (listed.setIfInBounds i true) (a.put (some d) v) w)
 (hi:ops[i]?=some oi:=by rfl) (hd:oi.dst=some d:=by rfl) (k0:Region.noSelect ops=true:=by kernel_rfl) (k1:Region.free md ops listed i=true:=by kernel_rfl) (k2:(Region.ready md ops listed).contains i=true:=by kernel_rfl) (g:Region.wanted oi (yielded ops a.tmps)=true:=by rfl) (y:∀ w,S w->(execOp a.eval oi).run P w=.ok (.value v) w:=by (intro w hS;(repeat (obtain ⟨h,hS⟩:=hS));go_simp))
 (hQ:∀ c a w,Q (.panic c) (a.put (some d) v) w->Q (.panic c) a w:=by exact fun _ _ _ h=>h):wpAnyH P md ops Q S (fuel+1) listed a w :=
 wpAnyH_val hi hd k0 k1 k2 hQ (Or.inl ⟨g,y⟩) s h
theorem wpHn (i:Nat) (d:Tmp) {oi:Oper} {fuel:Nat} {listed:Array Bool} {a:Act} {w:World} (s:S w) (h:wpAnyH P md ops Q S fuel (listed.setIfInBounds i true) (a.put (some d) undef) w)
 (hi:ops[i]?=some oi:=by rfl) (hd:oi.dst=some d:=by rfl) (k0:Region.noSelect ops=true:=by kernel_rfl) (k1:Region.free md ops listed i=true:=by kernel_rfl) (k2:(Region.ready md ops listed).contains i=true:=by kernel_rfl) (g:Region.wanted oi (yielded ops a.tmps)=false:=by rfl)
 (hQ:∀ c a w,Q (.panic c) (a.put (some d) undef) w->Q (.panic c) a w:=by exact fun _ _ _ h=>h):wpAnyH P md ops Q S (fuel+1) listed a w :=
 wpAnyH_val hi hd k0 k1 k2 hQ (Or.inr ⟨g,rfl⟩) s h
end
section
variable {P:Program} {ops:Array Oper} {Q:Exit->Act->World->Prop} {md:Region.Mode} {S:World->Prop} {late:List Nat}
def wpAnyL (P:Program) (md:Region.Mode) (ops:Array Oper) (Q:Exit->Act->World->Prop) (S:World->Prop) (late:List Nat):Nat->Array Bool->Act->World->Prop
 | 0,listed,a,w=>Region.ready md ops listed=[]/\Q .normal a w
 | fuel+1,listed,a,w =>
   (Region.ready md ops listed=[]->Q .normal a w) /\
   ∀ i∈Region.ready md ops listed,wpOp P ops Q i (fun a' w'=>(i ∉ late->S w')/\wpAnyL P md ops Q S late fuel (listed.setIfInBounds i true) a' w') a w
theorem wpAny_of_L:∀ (fuel:Nat) (listed:Array Bool) (a:Act) (w:World),wpAnyL P md ops Q S late fuel listed a w->wpAny P md ops Q fuel listed a w
 | 0,_,_,_,h=>h
 | fuel+1,_,_,_,h=>⟨h.1,fun i hi=>wpOp_mono (fun a' w' h'=>wpAny_of_L fuel _ a' w' h'.2) (h.2 i hi)⟩
def Waits (md:Region.Mode) (ops:Array Oper) (l i:Nat):Prop:=∃ ol,ops[l]?=some ol/\∃ e∈ol.after,Region.binds md e=true/\e.on=i
theorem Waits.not_ready {l i:Nat} {listed:Array Bool} (h:Waits md ops l i) (hi:listed.getD i true=false):l ∉ Region.ready md ops listed:=fun hj=>by
 obtain ⟨ol,hol,e,he,hb,heq⟩:=h
 obtain ⟨_,oj,hoj,hall⟩:=mem_ready.1 hj
 rw [hol] at hoj
 injection hoj with hoj
 subst hoj
 have h1:=hall e he hb
 rw [heq] at h1
 rcases Nat.lt_or_ge i listed.size with h' | h'
 . simp [h'] at hi h1;rw [hi] at h1;cases h1
 . simp [Array.getElem?_eq_none h'] at h1
def WaitsN (md:Region.Mode) (ops:Array Oper) (listed:Array Bool):Nat->Nat->Nat->Prop
 | 0,l,i=>Waits md ops l i
 | n+1,l,i=>Waits md ops l i\/∃ m,Waits md ops l m/\listed.getD m true=false/\WaitsN md ops listed n m i
theorem WaitsN.not_ready {i:Nat} {listed:Array Bool} (hi:listed.getD i true=false):∀ {n l:Nat},WaitsN md ops listed n l i->l ∉ Region.ready md ops listed
 | 0,_,h=>Waits.not_ready h hi
 | _+1,_,.inl h=>h.not_ready hi
 | _+1,_,.inr ⟨_,h,hm,_⟩=>h.not_ready hm
theorem WaitsN.set {i j:Nat} {listed:Array Bool} (hi:listed.getD i true=false) (hj:j∈Region.ready md ops listed):∀ {n l:Nat},WaitsN md ops listed n l i->WaitsN md ops (listed.setIfInBounds j true) n l i
 | 0,_,h=>h
 | _+1,_,.inl h=>.inl h
 | _+1,_,.inr ⟨m,h,hm,hr⟩=>.inr ⟨m,h,by
     rw [getD_set_ne true (fun e=>by subst e;exact hr.not_ready hi hj)]
     exact hm,hr.set hi hj⟩
def waitsN (md:Region.Mode) (ops:Array Oper) (listed:Array Bool):Nat->Nat->Nat->Bool
 | 0,l,i=>waits md ops l i
 | n+1,l,i=>waits md ops l i||(List.range ops.size).any fun m=>waits md ops l m&&(!(listed.getD m true)&&waitsN md ops listed n m i)
theorem wpAnyL_first {i:Nat} {oi:Oper} {v:Value} (hi:ops[i]?=some oi) (hsel:∀ (j:Nat) (o:Oper) cs b,ops[j]?=some o->o.op≠.select cs b)
 (hQ:∀ c a w,Q (.panic c) (a.put oi.dst v) w->Q (.panic c) a w) :
 ∀ (fuel:Nat) (listed:Array Bool) (a:Act) (w:World),(∀ l∈late,WaitsN md ops listed 5 l i) ->
   (∀ j oj,ops[j]?=some oj->j≠i->listed.getD j true=false->(∀ e∈oj.after,Region.binds md e=true->e.on≠i)->oi.apart ops oj=true) ->
   i∈Region.ready md ops listed->YieldsIf P ops S oi v a->S w ->
   wpAnyL P md ops Q S late fuel (listed.setIfInBounds i true) (a.put oi.dst v) w->wpAnyL P md ops Q S late (fuel+1) listed a w:=by
 intro fuel
 induction fuel with
 | zero =>
   intro listed a w _ _ hr hy hS H
   refine ⟨fun h=>(by rw [h] at hr;cases hr),fun j hj=>?_⟩
   by_cases hji:j=i
   . subst hji;exact hy.wpOp hi hS ⟨fun _=>hS,H⟩
   . have:=ready_mono hj hji
     rw [H.1] at this
     cases this
 | succ fuel ih =>
   intro listed a w hwt hfree hr hy hS H
   refine ⟨fun h=>(by rw [h] at hr;cases hr),fun j hj=>?_⟩
   by_cases hji:j=i
   . subst hji;exact hy.wpOp hi hS ⟨fun _=>hS,H⟩
   . have h1:=H.2 j (ready_mono hj hji)
     obtain ⟨hjun,oj,hoj,hall⟩:=mem_ready.1 hj
     have hiun:=(mem_ready.1 hr).1
     have hnot:∀ e∈oj.after,Region.binds md e=true->e.on≠i:=fun e he hb heq =>
      Waits.not_ready (md:=md) (ops:=ops) ⟨oj,hoj,e,he,hb,heq⟩ hiun hj
     have hjl:j ∉ late:=fun hm=>(hwt j hm).not_ready hiun hj
     have h2:=wpOp_putIf hoj (hfree j oj hoj hji hjun hnot) (fun cs b=>hsel i oi cs b hi) (fun cs b=>hsel j oj cs b hoj) hQ hy h1
     have hfree':∀ k ok,ops[k]?=some ok->k≠i->(listed.setIfInBounds j true).getD k true=false ->
      (∀ e∈ok.after,Region.binds md e=true->e.on≠i)->oi.apart ops ok=true:=fun k ok hk hki hun hno=>by
      refine hfree k ok hk hki ?_ hno
      by_cases hjk:j=k
      . subst hjk;exact hjun
      . rw [getD_set_ne true hjk] at hun;exact hun
     refine wpOp_mono (fun a' w' h3=>⟨fun _=>h3.2.1 hjl,ih (listed.setIfInBounds j true) a' w' (fun l hl=>(hwt l hl).set hiun hj) hfree' (ready_mono hr (Ne.symm hji)) h3.1 (h3.2.1 hjl) ?_⟩) h2
     rw [Array.setIfInBounds_comm _ _ hji]
     exact h3.2.2
theorem waits_spec {l i:Nat} (h:waits md ops l i=true):Waits md ops l i:=by
 unfold waits at h
 rw [Bool.and_eq_true] at h
 obtain ⟨h1,h2⟩:=h
 cases hol:ops[l]? with
 | none=>rw [hol] at h2;cases h2
 | some ol =>
   rw [hol] at h2
   have h3:(ol.after.any fun e=>Region.binds md e&&e.on == i)=true:=h2
   obtain ⟨e,he,h4⟩:=Array.any_eq_true'.1 h3
   rw [Bool.and_eq_true] at h4
   exact ⟨ol,hol,e,he,h4.1,by simpa using h4.2⟩
theorem waitsN_spec {i:Nat} {listed:Array Bool}:∀ {n l:Nat},waitsN md ops listed n l i=true->WaitsN md ops listed n l i
 | 0,_,h=>waits_spec h
 | n+1,l,h=>by
   unfold waitsN at h
   rw [Bool.or_eq_true] at h
   rcases h with h | h
   . exact .inl (waits_spec h)
   . obtain ⟨m,_,h⟩:=List.any_eq_true.1 h
     simp only [Bool.and_eq_true,Bool.not_eq_true'] at h
     exact .inr ⟨m,waits_spec h.1,h.2.1,waitsN_spec h.2.2⟩
theorem wpAnyL_val {i:Nat} {oi:Oper} {d:Option Tmp} {v:Value} {fuel:Nat} {listed:Array Bool} {a:Act} {w:World} (hi:ops[i]?=some oi) (hd:oi.dst=d)
 (hs:Region.noSelect ops=true) (hf:Region.free md ops listed i=true) (hr:(Region.ready md ops listed).contains i=true) (hwl:(late.all fun l=>waitsN md ops listed 5 l i)=true)
 (hQ:∀ c a w,Q (.panic c) (a.put d v) w->Q (.panic c) a w) (hy:YieldsIf P ops S oi v a) (hS:S w)
 (h:wpAnyL P md ops Q S late fuel (listed.setIfInBounds i true) (a.put d v) w):wpAnyL P md ops Q S late (fuel+1) listed a w:=by
 subst hd
 rw [List.all_eq_true] at hwl
 exact wpAnyL_first hi (Region.noSelect_spec hs) hQ fuel listed a w (fun l hl=>waitsN_spec (hwl l hl)) (Region.free_spec hi hf) (by simpa using hr) hy hS h
theorem wpAnyL_all {R:List Nat} {fuel:Nat} {listed:Array Bool} {a:Act} {w:World} (hr:Region.ready md ops listed=R) (hne:R≠[])
 (h:∀ i∈R,wpOp P ops Q i (fun a' w'=>(i ∉ late->S w')/\wpAnyL P md ops Q S late fuel (listed.setIfInBounds i true) a' w') a w):wpAnyL P md ops Q S late (fuel+1) listed a w :=
 ⟨fun h0=>absurd (hr.symm.trans h0) hne,fun i hi=>h i (by rw [<- hr];exact hi)⟩
theorem wpOp_L {i:Nat} {oi:Oper} {a:Act} {w:World} {K:Act->World->Prop} (hi:ops[i]?=some oi) (hg:Region.wanted oi (yielded ops a.tmps)=true)
 (h:oi.wp P a w (fun a' w'=>S w'/\K a' w') Q):wpOp P ops Q i (fun a' w'=>(i ∉ late->S w')/\K a' w') a w:=by
 unfold wpOp
 simp only [hi,hg,if_true]
 exact .inl (Oper.wp_mono (fun a' w' h=>⟨fun _=>h.1,h.2⟩) h)
theorem wpAnyL_one {i:Nat} {oi:Oper} {fuel:Nat} {listed:Array Bool} {a:Act} {w:World} (hi:ops[i]?=some oi) (hr:Region.ready md ops listed=[i]) (hg:Region.wanted oi (yielded ops a.tmps)=true)
 (h:oi.wp P a w (fun a' w'=>S w'/\wpAnyL P md ops Q S late fuel (listed.setIfInBounds i true) a' w') Q):wpAnyL P md ops Q S late (fuel+1) listed a w :=
 wpAnyL_all hr (by simp) fun j hj=>by
  have e:j=i:=by simpa using hj
  subst e
  exact wpOp_L hi hg h
theorem wpAnyL_late {i:Nat} {oi:Oper} {fuel:Nat} {listed:Array Bool} {a:Act} {w:World} (hi:ops[i]?=some oi) (hr:Region.ready md ops listed=[i]) (hg:Region.wanted oi (yielded ops a.tmps)=true) (hl:late.contains i=true)
 (h:oi.wp P a w (fun a' w'=>wpAnyL P md ops Q S late fuel (listed.setIfInBounds i true) a' w') Q):wpAnyL P md ops Q S late (fuel+1) listed a w :=
 wpAnyL_all hr (by simp) fun j hj=>by
  have e:j=i:=by simpa using hj
  subst e
  unfold wpOp
  simp only [hi,hg,if_true]
  exact .inl (Oper.wp_mono (fun a' w' h=>⟨fun h0=>absurd (by simpa using hl) h0,h⟩) h)
theorem wpAnyL_two {i j:Nat} {oi oj:Oper} {fuel:Nat} {listed:Array Bool} {a:Act} {w:World} (hi:ops[i]?=some oi) (hj:ops[j]?=some oj) (hr:Region.ready md ops listed=[i,j]) (hg:Region.wanted oi (yielded ops a.tmps)=true) (hg':Region.wanted oj (yielded ops a.tmps)=true)
 (h1:oi.wp P a w (fun a' w'=>S w'/\wpAnyL P md ops Q S late fuel (listed.setIfInBounds i true) a' w') Q) (h2:oj.wp P a w (fun a' w'=>S w'/\wpAnyL P md ops Q S late fuel (listed.setIfInBounds j true) a' w') Q):wpAnyL P md ops Q S late (fuel+1) listed a w :=
 wpAnyL_all hr (by simp) fun k hk=>by
  rcases (by simpa using hk:k=i\/k=j) with e | e
  . subst e
    exact wpOp_L hi hg h1
  . subst e
    exact wpOp_L hj hg' h2
theorem wpAnyL_done {listed:Array Bool} {a:Act} {w:World} (hr:Region.ready md ops listed=[]) (h:Q .normal a w) :
 ∀ fuel,wpAnyL P md ops Q S late fuel listed a w
 | 0=>⟨hr,h⟩
 | _+1=>⟨fun _=>h,by rw [hr];simp⟩
theorem wp_region_L {id:Nat} {a:Act} {w:World} (hm:P.follows .mixedOrders=true)
 (h:wpAnyL P .any ops Q S late ops.size (Array.replicate ops.size false) a w.drew):(Code.region id ops true).wp P Q a w :=
 wp_region_any hm (wpAny_of_L _ _ _ _ h)
theorem wpL (i:Nat) (v:Value) (d:Tmp) {oi:Oper} {fuel:Nat} {listed:Array Bool} {a:Act} {w:World} (s:S w) (h:wpAnyL P md ops Q S late fuel (listed.setIfInBounds i true) (a.put (some d) v) w)
 (hi:ops[i]?=some oi:=by rfl) (hd:oi.dst=some d:=by rfl) (k0:Region.noSelect ops=true:=by kernel_rfl) (k1:Region.free md ops listed i=true:=by kernel_rfl) (k2:(Region.ready md ops listed).contains i=true:=by kernel_rfl) (k3:(late.all fun l=>waitsN md ops listed 5 l i)=true:=by kernel_rfl) (g:Region.wanted oi (yielded ops a.tmps)=true:=by rfl) (y:∀ w,S w->(execOp a.eval oi).run P w=.ok (.value v) w:=by (intro w hS;(repeat (obtain ⟨h,hS⟩:=hS));go_simp))
 (hQ:∀ c a w,Q (.panic c) (a.put (some d) v) w->Q (.panic c) a w:=by exact fun _ _ _ h=>h):wpAnyL P md ops Q S late (fuel+1) listed a w :=
 wpAnyL_val hi hd k0 k1 k2 k3 hQ (Or.inl ⟨g,y⟩) s h
end
def updC (m:Int) (fv:List Int) (c:Cv):Cv:=if c.1=m then (m,fv) else c
theorem cmCs_len (l:List Cm):(cmCs l).length=l.length*2:=by
 induction l with
 | nil=>rfl
 | cons a l ih=>simp only [cmCs,List.flatMap_cons,List.length_append] at ih ⊢;rw [ih];simp [Cm.cs];omega
theorem cmCs_set {l:List Cm} {k:Nat} {x y:Cm} (h:l[k]?=some x) (hk:y.k=x.k):(cmCs l).set (k*2+1) (.slice y.A y.n y.c)=cmCs (l.set k y):=by
 induction l generalizing k with
 | nil=>simp at h
 | cons a l ih =>
   cases k with
   | zero =>
     have e:a=x:=by simpa using h
     subst e
     simp [cmCs,Cm.cs,hk]
   | succ k =>
     have h2:l[k]?=some x:=by simpa using h
     have e:=ih h2
     simp only [cmCs,List.flatMap_cons,List.set_cons_succ] at e ⊢
     rw [<- e]
     have:(k+1)*2+1=(Cm.cs a).length+(k*2+1):=by simp [Cm.cs];omega
     rw [this,List.set_append_right _ _ (by omega)]
     congr 2;omega
theorem cmCs_at {l:List Cm} {k:Nat} {x:Cm} (h:l[k]?=some x):(cmCs l)[k*2]?=some (.int i64 x.k)/\(cmCs l)[k*2+1]?=some (.slice x.A x.n x.c):=by
 induction l generalizing k with
 | nil=>simp at h
 | cons a l ih =>
   cases k with
   | zero =>
     have e:a=x:=by simpa using h
     subst e
     simp [cmCs,Cm.cs]
   | succ k =>
     have h2:l[k]?=some x:=by simpa using h
     obtain ⟨e1,e2⟩:=ih h2
     have e0:cmCs (a::l)=Cm.cs a++cmCs l:=by simp [cmCs]
     rw [e0]
     constructor
     . rw [List.getElem?_append_right (by simp [Cm.cs];omega)]
       rw [show (k+1)*2-(Cm.cs a).length=k*2 by simp [Cm.cs];omega];exact e1
     . rw [List.getElem?_append_right (by simp [Cm.cs];omega)]
       rw [show (k+1)*2+1-(Cm.cs a).length=k*2+1 by simp [Cm.cs];omega];exact e2
theorem Kx.fqT {w w':World} {B g:Nat} {t:TypeId} {cs:Array Value} (h:Fq [g] w w') (hk:Bk w g t cs) (hB:B<=g):Kx B [t] w w' :=
 ⟨h.size,fun b h1 h2=>h.low b h2 (by simp;omega),fun b t' cs' h1 h2=>(h.low b h1.lt fun hb=>by
  have e:b=g:=by simpa using hb
  exact (Bk.ne_ h1 hk (fun e'=>h2 (by rw [e'];simp)) e).elim).trans h1⟩
theorem List.set_getElem_self' {α:Type} {l:List α} {k:Nat} {x:α} (h:l[k]?=some x):l.set k x=l:=by
 apply List.ext_getElem?
 intro i
 rw [List.getElem?_set]
 split
 . next e=>subst e;split
           . exact h.symm
           . next hh=>rw [List.getElem?_eq_none (by omega)]
 . rfl
structure SeI (w:World) (g:Nat) (m:Int) (fv:List Int) (l l1:List Cm) (k:Nat):Prop where
 bk:Bk w g 166 (cmCs l1).toArray
 len:l1.length=l.length
 val:l1.map Cm.p=(l.take k).map (fun c=>updC m fv c.p)++(l.drop k).map Cm.p
 cm:∀ c∈l1,CmY w 0 c
theorem SeI.at_ {w:World} {g k:Nat} {m:Int} {fv:List Int} {l l1:List Cm} (h:SeI w g m fv l l1 k) {x:Cm} (hx:l1[k]?=some x):∃ y,l[k]?=some y/\x.p=y.p:=by
 have hk:k<l1.length:=(List.getElem?_eq_some_iff.1 hx).1
 have hkl:k<l.length:=by rw [<- h.len];exact hk
 refine ⟨_,List.getElem?_eq_getElem hkl,?_⟩
 have e:=congrArg (fun z=>z[k]?) h.val
 simp only [List.getElem?_map,hx,Option.map_some] at e
 rw [List.getElem?_append_right (by simp;omega)] at e
 simp only [List.length_map,List.length_take,List.getElem?_map,List.getElem?_drop] at e
 rw [show k+(k-min k l.length)=k by omega,List.getElem?_eq_getElem hkl] at e
 simpa using e
theorem map_set_take {α β:Type} {l:List α} {f g:α->β} {L:List β} {k:Nat} {y:α} (hL:L=(l.take k).map f++(l.drop k).map g) (hy:l[k]?=some y):L.set k (f y)=(l.take (k+1)).map f++(l.drop (k+1)).map g:=by
 have hk:k<l.length:=(List.getElem?_eq_some_iff.1 hy).1
 have e:l.drop k=y::l.drop (k+1):=by
  rw [List.drop_eq_getElem_cons hk]
  congr 1
  have:=(List.getElem?_eq_some_iff.1 hy).2
  exact this
 rw [hL,e,List.set_append_right _ _ (by simp;omega)]
 rw [show k-((l.take k).map f).length=0 by simp;omega]
 rw [List.map_cons,List.set_cons_zero,List.take_add_one,hy]
 simp
theorem SeI.skip {w:World} {g k:Nat} {m:Int} {fv:List Int} {l l1:List Cm} (h:SeI w g m fv l l1 k) {x:Cm} (hx:l1[k]?=some x) (hm:x.k≠m):SeI w g m fv l l1 (k+1):=by
 obtain ⟨y,hy,e⟩:=h.at_ hx
 refine ⟨h.bk,h.len,?_,h.cm⟩
 have h1:=map_set_take (f:=fun c:Cm=>updC m fv c.p) (g:=Cm.p) h.val hy
 rw [<- h1]
 have e2:updC m fv y.p=x.p:=by
  rw [<- e];unfold updC;rw [if_neg (show ¬ x.p.1=m from hm)]
 show _=(l1.map Cm.p).set k (updC m fv y.p)
 rw [e2]
 have h3:(l1.map Cm.p)[k]?=some x.p:=by rw [List.getElem?_map,hx];rfl
 exact (List.set_getElem_self' h3).symm
theorem SeI.put {w w':World} {g k B:Nat} {m:Int} {fv:List Int} {l l1:List Cm} {A:Option Addr} {c:Nat} {F:List TypeId} (h:SeI w g m fv l l1 k) {x:Cm} (hx:l1[k]?=some x) (hm:x.k=m) (hk:Kx B F w w') (hF:(166:TypeId) ∉ F) (hF3:(3:TypeId) ∉ F)
 (hc:CmY w' 0 ⟨m,A,fv.length,c,fv⟩):SeI (w'.setCell ⟨g,k*2+1,none⟩ (.slice A fv.length c)) g m fv l (l1.set k ⟨m,A,fv.length,c,fv⟩) (k+1):=by
 obtain ⟨y,hy,e⟩:=h.at_ hx
 have hb:=hk.bk h.bk hF
 have hkx:Kx 0 [166] w' (w'.setCell ⟨g,k*2+1,none⟩ (.slice A fv.length c)):=Kx.refl.set hb (Nat.zero_le _) (by simp) _ _
 refine ⟨?_,by rw [List.length_set];exact h.len,?_,fun z hz=>?_⟩
 . have h1:=hb.set_ (k*2+1) (.slice A fv.length c)
   rw [<- cmCs_set (y:=⟨m,A,fv.length,c,fv⟩) hx hm.symm]
   simpa using h1
 . rw [List.map_set]
   have e2:(⟨m,A,fv.length,c,fv⟩:Cm).p=updC m fv y.p:=by
    rw [<- e];unfold updC;rw [if_pos (show x.p.1=m from hm)];rfl
   rw [e2]
   exact map_set_take (f:=fun c:Cm=>updC m fv c.p) (g:=Cm.p) h.val hy
 . rcases List.mem_or_eq_of_mem_set hz with hz | rfl
   . exact ((h.cm z hz).keep (hk.mono (Nat.zero_le _) (fun _ h=>h)) hF3).keep hkx (by decide)
   . exact hc.keep hkx (by decide)
set_option maxHeartbeats 8000000 in
theorem set_any {w:World} {g n kn kc vn vc:Nat} {kA vA:Option Addr} {ks:List Kd} {l:List Cm} {e q m:Int} {vs fv:List Int} (hk:KsY w 0 kA kn kc ks) (hn:n=l.length) (hn64:n<=1000) (hrow:Bk w g 166 (cmCs l).toArray) (hcm:∀ c∈l,CmY w 0 c)
 (hv:RdY w 0 3 1 vA vn (vs.map (Value.int .i64))) (hvn:vn=vs.length) (hvc:vn<=vc) (hvc2:vc<=9223372036854775807)
 (hm:∀ c∈l,c.k=m->∃ (K:Nat) (d:Kd),m=K/\ks[K]?=some d/\(fitF d.nm d.fds vs).1=fv) :
 Calls Try.prog 153 #[.slice kA kn kc,.agg #[.int i64 e,.int i64 q,.slice (some ⟨g,0,none⟩) n n],.int i64 m,.slice vA vn vc] w fun en w'=>en=.returned (.tuple #[])/\∃ l',Hid (SeI w' g m fv l l' l.length/\Fq [g] w w'):=by
 obtain ⟨W0,hW0⟩:∃ z,z=w.alloc (.cells #[.int i64 e,.int i64 q,.slice (some ⟨g,0,none⟩) n n] 147):=⟨_,rfl⟩
 obtain ⟨hb,hhb⟩:∃ z,z=w.heap.size:=⟨_,rfl⟩
 have HB0:Hid (Below w.heap.size w W0):=hid (by rw [hW0];exact Below.al (Below.refl _ _) _)
 have hk0:Kx 0 [] w W0:=Kx.of_below HB0.out
 have HBX:Hid (Bk W0 hb 147 #[.int i64 e,.int i64 q,.slice (some ⟨g,0,none⟩) n n]):=hid (by rw [hW0,hhb];exact Bk.new _ _ _)
 have HK0:Hid (KsY W0 0 kA kn kc ks):=hid (hk.keep hk0 (by simp) (by simp))
 have HV0:Hid (RdY W0 0 3 1 vA vn (vs.map (Value.int .i64))):=hid (hv.keep hk0 (by simp))
 have HS0:Hid (SeI W0 g m fv l l 0):=hid ⟨hk0.bk hrow (by simp),rfl,by simp,fun c hc=>(hcm c hc).keep hk0 (by simp)⟩
 have HR0:Hid (Bk W0 g 166 (cmCs l).toArray):=hid (hk0.bk hrow (by simp))
 have HN:=hid hn
 have HM:=hid hm
 have HVN:=hid hvn
 have hkc1:=hk.cap
 have hkc2:=hk.cap2
 have hgw:=hrow.lt
 have hsz0:W0.heap.size=w.heap.size+1:=by rw [hW0];simp
 clear hk hrow hcm hv hvn hm hn hk0
 have c2:W0.cell? ⟨hb,2,none⟩=some (.slice (some ⟨g,0,none⟩) n n):=HBX.out.cell 2
 go_enter Try.func153,Try.ntmps153
 go_upto_region 1 with fail
 rw [<- hW0,<- hhb]
 have HHB:=hid (And.intro hhb hW0)
 clear hW0 hhb
 go_wp2_with fail
 clear c2
 go_loopw [13] (fun jv wx=>∃ (k:Nat) (l1:List Cm),k<=n/\jv=.int i64 k/\Hid (SeI wx g m fv l l1 k/\Fq [g] W0 wx)) (fun jv _=>n-(intOf jv).toNat)
 case atStart=>exact ⟨0,l,Nat.zero_le _,rfl,hid ⟨HS0.out,Fq.refl⟩⟩
 case round =>
  clear HS0
  obtain ⟨k,l1,hkn,rfl,HI⟩:=hrel
  by_cases hlt:k<n
  . have hkz:(k:Int)<n:=by omega
    have hkz0:(0:Int)<=k:=by omega
    obtain ⟨x,hx⟩:∃ x,l1[k]?=some x:=⟨_,List.getElem?_eq_getElem (by have h1:=HI.out.1.len;have h2:=HN.out;omega)⟩
    have hat:=cmCs_at hx
    have r0:wr.cell? ⟨g,k*2,none⟩=some (.int i64 x.k):=(HI.out.1.bk.cell _).trans (by simpa using hat.1)
    have r1:wr.cell? ⟨g,k*2+1,none⟩=some (.slice x.A x.n x.c):=(HI.out.1.bk.cell _).trans (by simpa using hat.2)
    have HX:=hid hx
    have HBW:Hid (Below wr.heap.size wr (wr.alloc (.cells #[.int i64 x.k,.slice x.A x.n x.c] 166))):=hid (Below.al (Below.refl _ _) _)
    obtain ⟨w1,hw1⟩:∃ z,z=wr.alloc (.cells #[.int i64 x.k,.slice x.A x.n x.c] 166):=⟨_,rfl⟩
    obtain ⟨hc,hhc⟩:∃ z,z=wr.heap.size:=⟨_,rfl⟩
    rw [<- hw1] at HBW
    have HC1:Hid (Bk w1 hc 166 #[.int i64 x.k,.slice x.A x.n x.c]):=hid (by rw [hw1,hhc];exact Bk.new _ _ _)
    have hk1:Kx 0 [] wr w1:=Kx.of_below HBW.out
    have HI1:Hid (SeI w1 g m fv l l1 k/\Fq [g] W0 w1):=hid ⟨⟨hk1.bk HI.out.1.bk (by simp),HI.out.1.len,HI.out.1.val,fun c hc=>(HI.out.1.cm c hc).keep hk1 (by simp)⟩,HI.out.2.trans (Fq.of_below HBW.out) (SubF.refl _ _)⟩
    clear hx hat hk1
    generalize hxk:x.k=xk at *
    generalize hxA:x.A=xA at *
    generalize hxn:x.n=xn at *
    generalize hxc:x.c=xc at *
    have HXK:=hid hxk
    clear hxk hxA hxn hxc
    go_upto_region 4 with fail
    rw [<- hw1,<- hhc]
    clear hw1 hhc r0 r1 HI
    have d0:w1.cell? ⟨hc,0,none⟩=some (.int i64 xk):=HC1.out.cell 0
    by_cases hxm:xk=m
    . have t0:(xk == m)=true:=by simp [hxm]
      obtain ⟨y,hy,ey⟩:=HI1.out.1.at_ HX.out
      have hyk:y.k=m:=by have h1:=congrArg Prod.fst ey;have h2:x.k=y.k:=h1;rw [<- h2,HXK.out];exact hxm
      obtain ⟨K,d,rfl,hd,hfit⟩:=HM.out y (List.mem_of_getElem? hy) hyk
      have HFIT:=hid hfit
      have HXM:Hid (x.k=(K:Int)):=hid (by rw [HXK.out];exact hxm)
      clear hy ey hyk hfit hxm
      have HQ0w:Hid (Fq [g] W0 w1):=hid HI1.out.2
      have hKn:K<kn:=by have h1:=(List.getElem?_eq_some_iff.1 hd).1;have h2:=HK0.out.len;omega
      have hKz:(K:Int)<kn:=by omega
      have hKz0:(0:Int)<=K:=by omega
      have hkx1:Kx 0 [166] W0 w1:=Kx.fqT HQ0w.out HR0.out (Nat.zero_le _)
      have hkk1:=HK0.out.keep hkx1 (by decide) (by decide)
      have hbx1:Bk w1 hb 147 #[.int i64 e,.int i64 q,.slice (some ⟨g,0,none⟩) n n]:=hkx1.bk HBX.out (by decide)
      have hWF:(Lit.int i64 (K:Int)).wf=true:=by rw [<- HXM.out];exact (HI1.out.1.cm x (List.mem_of_getElem? HX.out)).wf
      have HWF:=hid hWF
      obtain ⟨kb,ko,rfl,hkb,k0,k1⟩:=hkk1.rd.rd.kd hKn hd
      obtain ⟨kcs,hkcs⟩:∃ cs,Bk w1 kb 63 cs:=by
       obtain ⟨b',o',e',_,h3,_⟩:=hkk1.rd.2 (by omega)
       have e2:b'=kb:=by injection e' with e';injection e' with e1;exact e1.symm
       rcases h3 with h3 | ⟨cs,h3⟩
       . omega
       . exact ⟨cs,e2▸h3⟩
      have hkbg:kb≠g:=hkcs.ne_ HI1.out.1.bk (by decide)
      have HNE:Hid (hb≠g/\kb≠g):=hid ⟨hbx1.ne_ HI1.out.1.bk (by decide),hkbg⟩
      have HKD:Hid (KdY w1 0 d):=hid (hkk1.ok d (List.mem_of_getElem? hd))
      have HFT:Hid (∀ wz,Below w1.heap.size w1 wz->Calls Try.prog 156 #[.agg #[.string d.nm,.slice d.A d.n d.c],.slice vA vn vc] wz (FitP wz (fitF d.nm d.fds vs))):=hid fun wz hz=>by
       have hkz:=Kx.of_below (B:=0) (F:=[]) hz
       exact fit_any d.nm d.A d.n d.c d.fds vA vn vc wz.heap.size vs wz (HKD.out.rd.keep hkz (by simp)).rd HKD.out.len HKD.out.cap HKD.out.cap2 ((HV0.out.keep hkx1 (by decide)).keep hkz (by simp)).rd HVN.out hvc hvc2 (Nat.le_refl _)
      have HKL:Hid (kb<w1.heap.size):=hid hkb
      clear hkk1 hkb
      generalize hfr:fitF d.nm d.fds vs=fr at *
      generalize d.nm=dnm at *
      generalize d.A=dA at *
      generalize d.n=dn at *
      generalize d.c=dc at *
      go_upto_region 5 with fail
      obtain ⟨u0,hu0⟩:∃ z,z=w1.drew:=⟨_,rfl⟩
      have HIu:Hid (SeI u0 g K fv l l1 k/\Fq [g] W0 u0):=hid (by
       have hk1:Kx 0 [] w1 u0:=by rw [hu0];exact Kx.refl.drew
       exact ⟨⟨hk1.bk HI1.out.1.bk (by simp),HI1.out.1.len,HI1.out.1.val,fun c hc=>(HI1.out.1.cm c hc).keep hk1 (by simp)⟩,by rw [hu0];exact HI1.out.2.drew⟩)
      have HSS:Hid (u0.cell? ⟨hb,2,none⟩=some (.slice (some ⟨g,0,none⟩) n n)/\u0.cell? ⟨kb,ko+K*2,none⟩=some (.string dnm)/\u0.cell? ⟨kb,ko+K*2+1,none⟩=some (.slice dA dn dc)):=hid (by rw [hu0];exact ⟨hbx1.cell 2,k0,k1⟩)
      have HLT:Hid (hb<u0.heap.size/\kb<u0.heap.size):=hid (by rw [hu0];exact ⟨hbx1.lt,HKL.out⟩)
      have HFU:Hid (Calls Try.prog 156 #[.agg #[.string dnm,.slice dA dn dc],.slice vA vn vc] u0 (FitP u0 fr)):=hid (HFT.out u0 (by rw [hu0];exact (Below.refl _ _).drew))
      clear k0 k1 hbx1 HFT hkx1 HI1 d0
      (try refine wp_region_noPanic ?_)
      refine wp_region_H (S:=fun wz=>wz.cell? ⟨hb,2,none⟩=some (.slice (some ⟨g,0,none⟩) n n)/\wz.cell? ⟨kb,ko+K*2,none⟩=some (.string dnm)/\wz.cell? ⟨kb,ko+K*2+1,none⟩=some (.slice dA dn dc)) (by kernel_rfl) ?_
      rw [<- hu0]
      clear hu0
      refine wpH 0 (.pointer (some ⟨hb,2,none⟩)) 23 HSS.out ?_
      (try simp only [sP])
      refine wpH 1 (.slice (some ⟨g,0,none⟩) n n) 24 HSS.out ?_
      (try simp only [sP])
      refine wpH 2 (.int i64 (k:Int)) 25 HSS.out ?_
      (try simp only [sP])
      refine wpH 3 (.slice (some ⟨kb,ko,none⟩) kn kc) 26 HSS.out ?_
      (try simp only [sP])
      refine wpH 4 (.int i64 (K:Int)) 27 HSS.out ?_
      (try simp only [sP])
      refine wpH 5 (.pointer (some ⟨kb,ko+K*2,none⟩)) 28 HSS.out ?_
      (try simp only [sP])
      refine wpH 6 (.agg #[.string dnm,.slice dA dn dc]) 29 HSS.out ?_
      (try simp only [sP])
      refine wpH 7 (.slice vA vn vc) 30 HSS.out ?_
      (try simp only [sP])
      refine wpAnyH_oneW (i:=8) rfl (by kernel_rfl) (by rfl) ?_
      go_simp
      go_at_call 156
      (with_reducible refine HFU.out.mono ?_)
      rintro e' u1 ⟨A',c',rfl,hown,hb1⟩
      have HS1:Hid (u1.cell? ⟨hb,2,none⟩=some (.slice (some ⟨g,0,none⟩) n n)/\u1.cell? ⟨kb,ko+K*2,none⟩=some (.string dnm)/\u1.cell? ⟨kb,ko+K*2+1,none⟩=some (.slice dA dn dc)):=hid ⟨(hb1.cell (p:=⟨hb,2,none⟩) HLT.out.1).trans HSS.out.1,(hb1.cell (p:=⟨kb,ko+K*2,none⟩) HLT.out.2).trans HSS.out.2.1,(hb1.cell (p:=⟨kb,ko+K*2+1,none⟩) HLT.out.2).trans HSS.out.2.2⟩
      have hfv:fr.1=fv:=HFIT.out
      rw [hfv] at hown
      rw [hfv]
      have HN1:Hid (SeI (u1.setCell ⟨g,k*2+1,none⟩ (.slice A' fv.length c')) g K fv l (l1.set k ⟨K,A',fv.length,c',fv⟩) (k+1)/\Fq [g] W0 (u1.setCell ⟨g,k*2+1,none⟩ (.slice A' fv.length c'))):=hid
       ⟨HIu.out.1.put (B:=0) (F:=[]) HX.out HXM.out (Kx.of_below hb1) (by simp) (by simp) ⟨RdY.of_own hown,rfl,(own_cap2 hown).1,(own_cap2 hown).2,HWF.out⟩,(HIu.out.2.trans (Fq.of_below hb1) (SubF.refl _ _)).set (.inl (by simp)) _ _⟩
      have HS2:Hid ((u1.setCell ⟨g,k*2+1,none⟩ (.slice A' fv.length c')).cell? ⟨hb,2,none⟩=some (.slice (some ⟨g,0,none⟩) n n)/\(u1.setCell ⟨g,k*2+1,none⟩ (.slice A' fv.length c')).cell? ⟨kb,ko+K*2,none⟩=some (.string dnm)/\(u1.setCell ⟨g,k*2+1,none⟩ (.slice A' fv.length c')).cell? ⟨kb,ko+K*2+1,none⟩=some (.slice dA dn dc)):=hid ⟨(World.cell?_setCell_far _ _ _ _ (by exact (Ne.symm HNE.out.1))).trans HS1.out.1,(World.cell?_setCell_far _ _ _ _ (by exact (Ne.symm HNE.out.2))).trans HS1.out.2.1,(World.cell?_setCell_far _ _ _ _ (by exact (Ne.symm HNE.out.2))).trans HS1.out.2.2⟩
      have hrow1:=HIu.out.1.bk.below hb1 HIu.out.1.bk.lt
      have o1:∃ u,u1.cell? ⟨g,k*2+1,none⟩=some u:=⟨_,(hrow1.cell _).trans (by simpa using (cmCs_at HX.out).2)⟩
      have f1:=hrow1.frozen (k*2+1)
      obtain ⟨uo,o1⟩:=o1
      clear hown hb1 hrow1 HFU HSS HIu
      refine And.intro HS1.out ?_
      (try simp only [sP])
      refine wpH 9 (.tuple #[.slice A' fv.length c',.int i64 fr.2]) 22 HS1.out ?_
      (try simp only [sP])
      refine wpH 10 (.slice A' fv.length c') 32 HS1.out ?_
      (try simp only [sP])
      refine wpH 11 (.int i64 fr.2) 33 HS1.out ?_
      (try simp only [sP])
      refine wpH 12 (.pointer (some ⟨g,k*2,none⟩)) 34 HS1.out ?_
      (try simp only [sP])
      refine wpH 13 (.pointer (some ⟨g,k*2+1,none⟩)) 35 HS1.out ?_
      (try simp only [sP])
      refine wpAnyH_oneW (i:=14) rfl (by kernel_rfl) (by rfl) ?_
      go_simp
      first | refine And.intro HS2.out ?_ | refine And.intro HS1.out ?_
      (try simp only [sP])
      refine wpAnyH_done (by kernel_rfl) ?_ _
      (try refine NoPanic.normal ?_)
      clear o1 f1 HS1
      go_wp2_with fail
      go_roundw
      case rel=>exact ⟨k+1,_,by omega,by go_num,HN1⟩
      case measure=>simp [intOf];omega
    . have t0:(xk == m)=false:=by simp [hxm]
      have HN1:Hid (SeI w1 g m fv l l1 (k+1)/\Fq [g] W0 w1):=hid ⟨HI1.out.1.skip HX.out (by rw [HXK.out];exact hxm),HI1.out.2⟩
      clear hxm HI1
      go_wp2_with fail
      go_roundw
      case rel=>exact ⟨k+1,l1,by omega,by go_num,HN1⟩
      case measure=>simp [intOf];omega
  . obtain rfl:n=k:=by omega
    go_wp2_with fail
    (try simp only [Exit.inBlock,Exit.then])
    refine bodyPost_end (results_none rfl _ _ _) rfl ?_
    refine ⟨rfl,l1,hid ⟨?_,?_⟩⟩
    . rw [<- HN.out];exact HI.out.1
    . exact (Fq.of_below HB0.out).trans HI.out.2 (SubF.refl _ _)
end Go.Proofs.Ytnidcmhfbkdioaa
