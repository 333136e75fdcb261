/-
  Plain law: a drawn world is valid; a changed world is valid and no older. No program. Conditions: none.
-/
import Derived.Test.YtnidcmhfbkdioaaSw7
namespace Go.Proofs.Ytnidcmhfbkdioaa
section
variable {κ:Type} {hold:κ->List Int->Bool} {ks:List κ}
theorem pw_snoc {α:Type} {R:α->α->Prop} {l:List α} {a:α} (h:l.Pairwise R) (h2:∀ b∈l,R b a):(l++[a]).Pairwise R:=by
 rw [List.pairwise_append]
 refine ⟨h,List.pairwise_cons.2 ⟨(fun b hb=>by cases hb),List.Pairwise.nil⟩,fun b hb c hc=>?_⟩
 rw [show c=a by simpa using hc];exact h2 b hb
theorem mem_snoc {α:Type} {l:List α} {a b:α} (h:b∈l++[a]):b∈l\/b=a:=by simpa using h
structure CwI (hold:κ->List Int->Bool) (ks:List κ) (i:Nat) (M:List Cv):Prop where
 sorted:M.Pairwise fun a b=>a.1<b.1
 lt:∀ a∈M,a.1<(i:Int)
 ok:∀ c∈M,∃ (k:Nat) (d:κ),c.1=k/\ks[k]?=some d/\hold d c.2=true
theorem CwI.zero:CwI hold ks 0 []:=⟨List.Pairwise.nil,(fun a ha=>by cases ha),(fun a ha=>by cases ha)⟩
theorem CwI.skip {i:Nat} {M:List Cv} (h:CwI hold ks i M):CwI hold ks (i+1) M:=⟨h.sorted,fun a ha=>by have:=h.lt a ha;omega,h.ok⟩
theorem CwI.keep {i:Nat} {M:List Cv} (h:CwI hold ks i M) {d:κ} {v:List Int} (hd:ks[i]?=some d) (hv:hold d v=true):CwI hold ks (i+1) (M++[((i:Int),v)]) :=
 ⟨pw_snoc h.sorted fun b hb=>h.lt b hb,fun a ha=>by
  rcases mem_snoc ha with ha | rfl
  . have:=h.lt a ha;omega
  . show (i:Int)<_;omega,fun a ha=>by
  rcases mem_snoc ha with ha | rfl
  . exact h.ok a ha
  . exact ⟨i,d,rfl,hd,hv⟩⟩
theorem CwI.done {i:Nat} {M:List Cv} (h:CwI hold ks i M):VCs hold ks M:=⟨h.sorted,h.ok⟩
structure WwI (hold:κ->List Int->Bool) (ks:List κ) (n:Nat) (G:List Int) (L:List Iv):Prop where
 len:G.length=n
 gens:∀ g∈G,0<=g/\g<=2
 sorted:L.Pairwise fun a b=>a.1.1<b.1.1
 lt:∀ a∈L,a.1.1<(n:Int)
 ok:∀ it∈L,(∃ n:Nat,it.1.1=n/\G[n]?=some it.1.2)/\it.1.2≠1073741824/\VCs hold ks it.2
theorem WwI.zero:WwI hold ks 0 [] []:=⟨rfl,(fun a ha=>by cases ha),List.Pairwise.nil,(fun a ha=>by cases ha),(fun a ha=>by cases ha)⟩
theorem WwI.gen {n:Nat} {G:List Int} {L:List Iv} (h:WwI hold ks n G L) {g:Int} (h0:0<=g) (h1:g<=2):WwI hold ks (n+1) (G++[g]) L :=
 ⟨by simp [h.len],fun x hx=>by
  rcases mem_snoc hx with hx | rfl
  . exact h.gens x hx
  . exact ⟨h0,h1⟩,h.sorted,fun a ha=>by have:=h.lt a ha;omega,fun it hit=>by
  obtain ⟨⟨m,e1,e2⟩,h2,h3⟩:=h.ok it hit
  exact ⟨⟨m,e1,by rw [List.getElem?_append_left (List.getElem?_eq_some_iff.1 e2).1];exact e2⟩,h2,h3⟩⟩
theorem WwI.item {n:Nat} {G:List Int} {L:List Iv} (h:WwI hold ks n G L) {g:Int} (h0:0<=g) (h1:g<=2) {M:List Cv} (hM:VCs hold ks M):WwI hold ks (n+1) (G++[g]) (L++[(((n:Int),g),M)]):=by
 have h2:=h.gen h0 h1
 refine ⟨h2.len,h2.gens,pw_snoc h.sorted fun b hb=>h.lt b hb,fun a ha=>?_,fun it hit=>?_⟩
 . rcases mem_snoc ha with ha | rfl
   . exact h2.lt a ha
   . show (n:Int)<_;omega
 . rcases mem_snoc hit with hit | rfl
   . exact h2.ok it hit
   . exact ⟨⟨n,rfl,by rw [<- h.len];simp⟩,by show g≠_;omega,hM⟩
theorem WwI.done {n:Nat} {G:List Int} {L:List Iv} (h:WwI hold ks n G L) (hn:n<=256):VW hold (⟨ks,G,L⟩:Wv κ) :=
 ⟨by show G.length<=256;rw [h.len];exact hn,fun g hg=>by have:=h.gens g hg;omega,h.sorted,h.ok⟩
structure CcI (hold:κ->List Int->Bool) (ks:List κ) (l:List Cv) (j:Nat) (M:List Cv):Prop where
 sorted:M.Pairwise fun a b=>a.1<b.1
 lt:∀ a∈M,∀ i c,j<=i->l[i]?=some c->a.1<c.1
 ok:∀ c∈M,∃ (k:Nat) (d:κ),c.1=k/\ks[k]?=some d/\hold d c.2=true
theorem CcI.zero {l:List Cv}:CcI hold ks l 0 []:=⟨List.Pairwise.nil,(fun a ha=>by cases ha),(fun a ha=>by cases ha)⟩
theorem CcI.skip {l:List Cv} {j:Nat} {M:List Cv} (h:CcI hold ks l j M):CcI hold ks l (j+1) M:=⟨h.sorted,fun a ha i c hi hc=>h.lt a ha i c (by omega) hc,h.ok⟩
theorem pw_lt {α:Type} {R:α->α->Prop} {l:List α} (h:l.Pairwise R) {i j:Nat} {a b:α} (hi:l[i]?=some a) (hj:l[j]?=some b) (hlt:i<j):R a b:=by
 obtain ⟨h1,rfl⟩:=List.getElem?_eq_some_iff.1 hi
 obtain ⟨h2,rfl⟩:=List.getElem?_eq_some_iff.1 hj
 exact List.pairwise_iff_getElem.1 h i j h1 h2 hlt
theorem CcI.keep {l:List Cv} {j:Nat} {M:List Cv} (h:CcI hold ks l j M) (hl:VCs hold ks l) {c:Cv} (hc:l[j]?=some c) {k:Nat} {d:κ} {v:List Int} (hk:c.1=k) (hd:ks[k]?=some d) (hv:hold d v=true):CcI hold ks l (j+1) (M++[(c.1,v)]):=by
 refine ⟨pw_snoc h.sorted fun b hb=>h.lt b hb j c (Nat.le_refl _) hc,fun a ha i x hi hx=>?_,fun a ha=>?_⟩
 . rcases mem_snoc ha with ha | rfl
   . exact h.lt a ha i x (by omega) hx
   . exact pw_lt (R:=fun a b:Cv=>a.1<b.1) (a:=c) (b:=x) hl.sorted hc hx (show j<i by omega)
 . rcases mem_snoc ha with ha | rfl
   . exact h.ok a ha
   . exact ⟨k,d,hk,hd,hv⟩
theorem CcI.done {l:List Cv} {j:Nat} {M:List Cv} (h:CcI hold ks l j M):VCs hold ks M:=⟨h.sorted,h.ok⟩
structure ChI (hold:κ->List Int->Bool) (w:Wv κ) (i:Nat) (G:List Int) (L:List Iv):Prop where
 len:G.length=w.gens.length
 up:∀ n:Nat,w.gens.getD n 0<=G.getD n 0
 hi:∀ g∈G,0<=g/\g<=1073741824
 rest:∀ j it,i<=j->w.its[j]?=some it->∃ n:Nat,it.1.1=n/\G[n]?=some it.1.2
 sorted:L.Pairwise fun a b=>a.1.1<b.1.1
 lt:∀ a∈L,∀ j it,i<=j->w.its[j]?=some it->a.1.1<it.1.1
 ok:∀ it∈L,(∃ n:Nat,it.1.1=n/\G[n]?=some it.1.2)/\it.1.2≠1073741824/\VCs hold w.ks it.2
theorem ChI.zero {w:Wv κ} (h:VW hold w):ChI hold w 0 w.gens [] :=
 ⟨rfl,fun _=>Int.le_refl _,h.gens,fun j it _ hj=>(h.ok it (List.mem_of_getElem? hj)).1,List.Pairwise.nil,(fun a ha=>by cases ha),(fun a ha=>by cases ha)⟩
theorem ChI.keep {w:Wv κ} (hw:VW hold w) {i:Nat} {G:List Int} {L:List Iv} (h:ChI hold w i G L) {it:Iv} (hit:w.its[i]?=some it) {M:List Cv} (hM:VCs hold w.ks M):ChI hold w (i+1) G (L++[(it.1,M)]):=by
 refine ⟨h.len,h.up,h.hi,fun j x hj hx=>h.rest j x (by omega) hx,pw_snoc h.sorted fun b hb=>h.lt b hb i it (Nat.le_refl _) hit,fun a ha j x hj hx=>?_,fun a ha=>?_⟩
 . rcases mem_snoc ha with ha | rfl
   . exact h.lt a ha j x (by omega) hx
   . exact pw_lt (R:=fun a b:Iv=>a.1.1<b.1.1) (a:=it) (b:=x) hw.sorted hit hx (show i<j by omega)
 . rcases mem_snoc ha with ha | rfl
   . exact h.ok a ha
   . exact ⟨h.rest i it (Nat.le_refl _) hit,(hw.ok it (List.mem_of_getElem? hit)).2.1,hM⟩
theorem getD_set_self {l:List Int} {n:Nat} {g:Int} (h:n<l.length):(l.set n g).getD n 0=g:=by simp [List.getD,h]
theorem ChI.drop {w:Wv κ} (hw:VW hold w) {i n:Nat} {G:List Int} {L:List Iv} (h:ChI hold w i G L) {it:Iv} (hit:w.its[i]?=some it) (hn:it.1.1=n):ChI hold w (i+1) (G.set n (it.1.2+1)) L:=by
 obtain ⟨n',e1,e2⟩:=h.rest i it (Nat.le_refl _) hit
 have e:n'=n:=by omega
 subst e
 have hlt:=(List.getElem?_eq_some_iff.1 e2).1
 have hG:∀ m:Nat,m≠n'->(G.set n' (it.1.2+1))[m]?=G[m]?:=fun m hm=>by rw [List.getElem?_set_ne (Ne.symm hm)]
 have hb:=h.hi _ (List.mem_of_getElem? e2)
 have hne:=(hw.ok it (List.mem_of_getElem? hit)).2.1
 refine ⟨by simp [h.len],fun m=>?_,fun g hg=>?_,fun j x hj hx=>?_,h.sorted,fun a ha j x hj hx=>h.lt a ha j x (by omega) hx,fun a ha=>?_⟩
 . by_cases hm:m=n'
   . subst hm
     rw [getD_set_self hlt]
     have:=h.up m
     rw [show G.getD m 0=it.1.2 by simp [List.getD,e2]] at this
     omega
   . have:=h.up m
     simp only [List.getD] at this ⊢
     rw [hG m hm];exact this
 . rcases List.mem_or_eq_of_mem_set hg with hg | rfl
   . exact h.hi g hg
   . omega
 . obtain ⟨m,f1,f2⟩:=h.rest j x (by omega) hx
   have:=pw_lt hw.sorted hit hx (by omega)
   exact ⟨m,f1,by rw [hG m (by omega)];exact f2⟩
 . obtain ⟨⟨m,f1,f2⟩,f3,f4⟩:=h.ok a ha
   have:=h.lt a ha i it (Nat.le_refl _) hit
   exact ⟨⟨m,f1,by rw [hG m (by omega)];exact f2⟩,f3,f4⟩
theorem ChI.done {w:Wv κ} (hw:VW hold w) {i:Nat} {G:List Int} {L:List Iv} (h:ChI hold w i G L):VW hold (⟨w.ks,G,L⟩:Wv κ)/\Newer w ⟨w.ks,G,L⟩ :=
 ⟨⟨by show G.length<=256;rw [h.len];exact hw.many,h.hi,h.sorted,h.ok⟩,⟨rfl,by show w.gens.length<=G.length;rw [h.len];exact Nat.le_refl _,fun n _=>h.up n⟩⟩
theorem ChI.more {w:Wv κ} {i:Nat} {G:List Int} {L:List Iv} (h:ChI hold w i G L) (h256:w.gens.length<256):VW hold (⟨w.ks,G++[0],L++[(((G.length:Int),0),[])]⟩:Wv κ)/\Newer w ⟨w.ks,G++[0],L++[(((G.length:Int),0),[])]⟩:=by
 refine ⟨⟨by show (G++[0]).length<=256;simp [h.len];omega,fun g hg=>?_,pw_snoc h.sorted fun b hb=>?_,fun a ha=>?_⟩,⟨rfl,by show w.gens.length<=(G++[0]).length;simp [h.len],fun n _=>?_⟩⟩
 . rcases mem_snoc hg with hg | rfl
   . exact h.hi g hg
   . omega
 . obtain ⟨⟨m,f1,f2⟩,_⟩:=h.ok b hb
   have:=(List.getElem?_eq_some_iff.1 f2).1
   show b.1.1<(G.length:Int);omega
 . rcases mem_snoc ha with ha | rfl
   . obtain ⟨⟨m,f1,f2⟩,f3,f4⟩:=h.ok a ha
     exact ⟨⟨m,f1,by show (G++[0])[m]?=_;rw [List.getElem?_append_left (List.getElem?_eq_some_iff.1 f2).1];exact f2⟩,f3,f4⟩
   . exact ⟨⟨G.length,rfl,by show (G++[0])[G.length]?=_;simp⟩,by show (0:Int)≠_;omega,⟨List.Pairwise.nil,(fun a ha=>by cases ha)⟩⟩
 . show w.gens.getD n 0<=(G++[0]).getD n 0
   by_cases hn:n<G.length
   . have:=h.up n
     simp only [List.getD] at this ⊢
     rw [List.getElem?_append_left hn];exact this
   . rw [show w.gens.getD n 0=0 by simp [List.getD,List.getElem?_eq_none (show w.gens.length<=n by have:=h.len;omega)]]
     by_cases hn2:n=G.length
     . subst hn2;simp
     . simp [List.getD,List.getElem?_eq_none (show (G++[(0:Int)]).length<=n by simp;omega)]
end
end Go.Proofs.Ytnidcmhfbkdioaa
