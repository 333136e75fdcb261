/-
  Lemmas for the walk, merged (Mg Mj Wb Mk Ml). No condition but those in each statement.
-/
import Derived.Test.YtnidcmhfbkdioaaSw8
import Derived.Test.YtnidcmhfbkdioaaSw5
namespace Go.Proofs.Ytnidcmhfbkdioaa
open Go.RowKit
open Go.IntKind (i64)
open Go.Lib (hid)
set_option maxRecDepth 100000
structure Kx (B:Nat) (F:List TypeId) (w w':World):Prop where
 size:w.heap.size<=w'.heap.size
 low:∀ b,b<B->b<w.heap.size->w'.heap[b]?=w.heap[b]?
 ty:∀ b t cs,Bk w b t cs->t ∉ F->Bk w' b t cs
section
variable {w w' w2:World} {B B':Nat} {F G:List TypeId}
theorem Kx.refl:Kx B F w w:=⟨Nat.le_refl _,fun _ _ _=>rfl,fun _ _ _ h _=>h⟩
theorem Kx.trans (h:Kx B F w w') (k:Kx B F w' w2):Kx B F w w2 :=
 ⟨Nat.le_trans h.size k.size,fun b h1 h2=>(k.low b h1 (Nat.lt_of_lt_of_le h2 h.size)).trans (h.low b h1 h2),fun b t cs h1 h2=>k.ty b t cs (h.ty b t cs h1 h2) h2⟩
theorem Kx.mono (h:Kx B F w w') (hB:B'<=B) (hF:∀ t,t∈F->t∈G):Kx B' G w w' :=
 ⟨h.size,fun b h1 h2=>h.low b (by omega) h2,fun b t cs h1 h2=>h.ty b t cs h1 fun h3=>h2 (hF t h3)⟩
theorem Kx.of_below (h:Below w.heap.size w w'):Kx B F w w' :=
 ⟨h.size,fun b _ h2=>h.block b h2,fun _b _ _ h1 _=>h1.below h h1.lt⟩
theorem Kx.below (h:Kx B F w w') (k:Below w'.heap.size w' w2):Kx B F w w2:=h.trans (Kx.of_below k)
theorem Kx.alloc (h:Kx B F w w') (o:Obj):Kx B F w (w'.alloc o):=h.below ((Below.refl _ _).alloc (Nat.le_refl _) o)
theorem Kx.drewN (h:Kx B F w w') (n:Nat):Kx B F w (w'.drewN n):=⟨h.size,h.low,h.ty⟩
theorem Kx.drew (h:Kx B F w w'):Kx B F w w'.drew:=⟨h.size,h.low,h.ty⟩
theorem Kx.set (h:Kx B F w w') {g:Nat} {t:TypeId} {cs:Array Value} (hg:Bk w' g t cs) (hB:B<=g) (ht:t∈F) (i:Nat) (u:Value):Kx B F w (w'.setCell ⟨g,i,none⟩ u) :=
 h.trans ⟨by simp [World.setCell],fun b h1 _=>Below.heap_setCell _ _ _ _ (by show b≠g;omega),fun b t' cs' h1 h2=>h1.far (fun e=>by
  have e:b=g:=e
  subst e
  exact Bk.ne_ h1 hg (fun e=>h2 (by rw [e];exact ht)) rfl) u⟩
theorem Kx.grown (h:Kx B F w w') {base size n:Nat} {e:TypeId} {v:Value} {xs:List Value} (ho:w'.ownsRow base e size v n xs) (hg:w'.grownBy w2 v.ownBlock) (hB:B<=base) (he:e∈F):Kx B F w w2 :=
 h.trans ⟨hg.size,fun b h1 h2=>hg.block b h2 (fun e1=>by have:=(ho.lt b e1.symm).1;omega),fun b t cs h1 h2=>h1.grown hg (fun e1=>own_ne ho h1 (fun e2=>h2 (by rw [<- e2];exact he)) e1.symm)⟩
theorem Kx.bk (h:Kx B F w w') {g:Nat} {t:TypeId} {cs:Array Value} (hg:Bk w g t cs) (ht:t ∉ F):Bk w' g t cs:=h.ty g t cs hg ht
theorem Kx.own (h:Kx B F w w') {base size n:Nat} {e:TypeId} {v:Value} {xs:List Value} (ho:w.ownsRow base e size v n xs) (he:e ∉ F):w'.ownsRow base e size v n xs:=by
 refine ⟨ho.1,?_⟩
 rcases ho.2 with h1 | ⟨g,cap,cur,h1,h2,h3,h4⟩
 . exact .inl h1
 . exact .inr ⟨g,cap,cur,h1,h2,h.ty g e cur h3 he,h4⟩
end
def RdY (w:World) (B:Nat) (e:TypeId) (size:Nat) (A:Option Addr) (n:Nat) (xs:List Value):Prop :=
 xs.length=n*size/\(0<n->∃ b o,A=some ⟨b,o,none⟩/\b<w.heap.size/\(b<B\/∃ cs,Bk w b e cs)/\∀ j u,xs[j]?=some u->w.cell? ⟨b,o+j,none⟩=some u)
section
variable {w w':World} {B B' size n:Nat} {e:TypeId} {A:Option Addr} {xs:List Value} {F:List TypeId}
theorem RdY.rd (h:RdY w B e size A n xs):Rd w w.heap.size size A n xs:=⟨h.1,fun hn=>by
 obtain ⟨b,o,h1,h2,_,h4⟩:=h.2 hn
 exact ⟨b,o,h1,h2,h4⟩⟩
theorem RdY.more (h:RdY w B e size A n xs) (hB:B<=B'):RdY w B' e size A n xs:=⟨h.1,fun hn=>by
 obtain ⟨b,o,h1,h2,h3,h4⟩:=h.2 hn
 exact ⟨b,o,h1,h2,h3.imp (fun h=>Nat.lt_of_lt_of_le h hB) id,h4⟩⟩
theorem RdY.keep (h:RdY w B e size A n xs) (hq:Kx B F w w') (he:e ∉ F):RdY w' B e size A n xs:=⟨h.1,fun hn=>by
 obtain ⟨b,o,h1,h2,h3,h4⟩:=h.2 hn
 have hs:=hq.size
 rcases h3 with h3 | ⟨cs,h3⟩
 . exact ⟨b,o,h1,by omega,.inl h3,fun j u hu=>(World.cell?_of_block (w:=w) (hq.low b h3 h2)).trans (h4 j u hu)⟩
 . have h5:=hq.ty b e cs h3 he
   exact ⟨b,o,h1,by omega,.inr ⟨cs,h5⟩,fun j u hu=>(World.cell?_of_block (w:=w) (h5.trans h3.symm)).trans (h4 j u hu)⟩⟩
theorem RdY.nil_ (A:Option Addr):RdY w B e size A 0 []:=⟨by simp,fun h=>absurd h (by omega)⟩
theorem RdY.of_own {base c:Nat} (h:w.ownsRow base e size (.slice A n c) n xs):RdY w B e size A n xs:=by
 refine ⟨h.1,fun hn=>?_⟩
 obtain ⟨b,o,cs,h1,h2,h3⟩:=(Tr.of_own h).2 hn
 exact ⟨b,o,h1,h2.lt,.inr ⟨cs,h2⟩,fun j u hu=>(h2.cell _).trans (h3 j u hu)⟩
theorem RdY.of_bk {g:Nat} {cs:Array Value} (h:Bk w g e cs) (hs:xs.length=n*size) (hx:∀ (j:Nat) (u:Value),xs[j]?=some u->cs[j]?=some u):RdY w B e size (some ⟨g,0,none⟩) n xs :=
 ⟨hs,fun _=>⟨g,0,rfl,h.lt,.inr ⟨cs,h⟩,fun j u hu=>(h.cell _).trans (by rw [Nat.zero_add];exact hx j u hu)⟩⟩
end
structure KdY (w:World) (B:Nat) (k:Kd):Prop where
 rd:RdY w B 66 3 k.A k.n (fdCs k.fds)
 len:k.n=k.fds.length
 cap:k.n<=k.c
 cap2:k.c<=9223372036854775807
structure KsY (w:World) (B:Nat) (A:Option Addr) (n c:Nat) (ks:List Kd):Prop where
 rd:RdY w B 63 2 A n (kdCs ks)
 len:n=ks.length
 cap:n<=c
 cap2:c<=9223372036854775807
 ok:∀ k∈ks,KdY w B k
structure CmY (w:World) (B:Nat) (x:Cm):Prop where
 rd:RdY w B 3 1 x.A x.n (x.vals.map (Value.int .i64))
 len:x.n=x.vals.length
 cap:x.n<=x.c
 cap2:x.c<=9223372036854775807
 wf:(Lit.int i64 x.k).wf=true
structure CsY (w:World) (B:Nat) (A:Option Addr) (n c:Nat) (l:List Cm):Prop where
 rd:RdY w B 166 2 A n (cmCs l)
 len:n=l.length
 cap:n<=c
 cap2:c<=9223372036854775807
 ok:∀ x∈l,CmY w B x
structure ItY (w:World) (B:Nat) (x:It):Prop where
 cs:CsY w B x.A x.n x.c x.cms
 wf1:(Lit.int i64 x.e).wf=true
 wf2:(Lit.int i64 x.g).wf=true
structure IsY (w:World) (B:Nat) (A:Option Addr) (n c:Nat) (l:List It):Prop where
 rd:RdY w B 147 3 A n (itCs l)
 len:n=l.length
 cap:n<=c
 cap2:c<=9223372036854775807
 ok:∀ x∈l,ItY w B x
structure GsY (w:World) (B:Nat) (A:Option Addr) (n c:Nat) (l:List Int):Prop where
 rd:RdY w B 3 1 A n (l.map (Value.int .i64))
 len:n=l.length
 cap:n<=c
 cap2:c<=9223372036854775807
 wf:∀ g∈l,(Lit.int i64 g).wf=true
structure WdY (w:World) (B:Nat) (x:Wd):Prop where
 ks:KsY w B x.kA x.kn x.kc x.ks
 gs:GsY w B x.gA x.gn x.gc x.gens
 its:IsY w B x.iA x.im x.ic x.its
section
variable {w w':World} {B B' n c:Nat} {A:Option Addr} {F:List TypeId}
theorem KdY.keep {k:Kd} (h:KdY w B k) (hq:Kx B F w w') (h66:(66:TypeId) ∉ F):KdY w' B k:=⟨h.rd.keep hq h66,h.len,h.cap,h.cap2⟩
theorem KsY.keep {l:List Kd} (h:KsY w B A n c l) (hq:Kx B F w w') (h66:(66:TypeId) ∉ F) (h63:(63:TypeId) ∉ F):KsY w' B A n c l:=⟨h.rd.keep hq h63,h.len,h.cap,h.cap2,fun x hx=>(h.ok x hx).keep hq h66⟩
theorem CmY.keep {x:Cm} (h:CmY w B x) (hq:Kx B F w w') (h3:(3:TypeId) ∉ F):CmY w' B x:=⟨h.rd.keep hq h3,h.len,h.cap,h.cap2,h.wf⟩
theorem CsY.keep {l:List Cm} (h:CsY w B A n c l) (hq:Kx B F w w') (h3:(3:TypeId) ∉ F) (h166:(166:TypeId) ∉ F):CsY w' B A n c l:=⟨h.rd.keep hq h166,h.len,h.cap,h.cap2,fun x hx=>(h.ok x hx).keep hq h3⟩
theorem ItY.keep {x:It} (h:ItY w B x) (hq:Kx B F w w') (h3:(3:TypeId) ∉ F) (h166:(166:TypeId) ∉ F):ItY w' B x:=⟨h.cs.keep hq h3 h166,h.wf1,h.wf2⟩
theorem IsY.keep {l:List It} (h:IsY w B A n c l) (hq:Kx B F w w') (h3:(3:TypeId) ∉ F) (h166:(166:TypeId) ∉ F) (h147:(147:TypeId) ∉ F):IsY w' B A n c l:=⟨h.rd.keep hq h147,h.len,h.cap,h.cap2,fun x hx=>(h.ok x hx).keep hq h3 h166⟩
theorem GsY.keep {l:List Int} (h:GsY w B A n c l) (hq:Kx B F w w') (h3:(3:TypeId) ∉ F):GsY w' B A n c l:=⟨h.rd.keep hq h3,h.len,h.cap,h.cap2,h.wf⟩
theorem WdY.keep {x:Wd} (h:WdY w B x) (hq:Kx B F w w') (h3:(3:TypeId) ∉ F) (h166:(166:TypeId) ∉ F) (h147:(147:TypeId) ∉ F) (h66:(66:TypeId) ∉ F) (h63:(63:TypeId) ∉ F):WdY w' B x:=⟨h.ks.keep hq h66 h63,h.gs.keep hq h3,h.its.keep hq h3 h166 h147⟩
theorem KsY.ok_ {l:List Kd} (h:KsY w B A n c l):KsOk w w.heap.size A n c l:=⟨h.rd.rd,h.len,h.cap,h.cap2,fun x hx=>⟨(h.ok x hx).rd.rd,(h.ok x hx).len,(h.ok x hx).cap,(h.ok x hx).cap2⟩,Nat.le_refl _⟩
theorem CmY.ok_ {x:Cm} (h:CmY w B x):CmOk w w.heap.size x:=⟨h.rd.rd,h.len,h.cap,h.cap2,h.wf⟩
theorem CsY.ok_ {l:List Cm} (h:CsY w B A n c l):CsOk w w.heap.size A n c l:=⟨h.rd.rd,h.len,h.cap,h.cap2,fun x hx=>(h.ok x hx).ok_,Nat.le_refl _⟩
theorem ItY.ok_ {x:It} (h:ItY w B x):ItOk w w.heap.size x:=⟨h.cs.ok_,h.wf1,h.wf2⟩
theorem IsY.ok_ {l:List It} (h:IsY w B A n c l):IsOk w w.heap.size A n c l:=⟨h.rd.rd,h.len,h.cap,h.cap2,fun x hx=>(h.ok x hx).ok_,Nat.le_refl _⟩
theorem GsY.ok_ {l:List Int} (h:GsY w B A n c l):GsOk w w.heap.size A n c l:=⟨h.rd.rd,h.len,h.cap,h.cap2,h.wf,Nat.le_refl _⟩
theorem WdY.ok_ {x:Wd} (h:WdY w B x):WdOk w w.heap.size x:=⟨h.ks.ok_,h.gs.ok_,h.its.ok_⟩
theorem KsY.more {l:List Kd} (h:KsY w B A n c l) (hB:B<=B'):KsY w B' A n c l:=⟨h.rd.more hB,h.len,h.cap,h.cap2,fun x hx=>⟨(h.ok x hx).rd.more hB,(h.ok x hx).len,(h.ok x hx).cap,(h.ok x hx).cap2⟩⟩
theorem CmY.more {x:Cm} (h:CmY w B x) (hB:B<=B'):CmY w B' x:=⟨h.rd.more hB,h.len,h.cap,h.cap2,h.wf⟩
theorem CsY.more {l:List Cm} (h:CsY w B A n c l) (hB:B<=B'):CsY w B' A n c l:=⟨h.rd.more hB,h.len,h.cap,h.cap2,fun x hx=>(h.ok x hx).more hB⟩
theorem ItY.more {x:It} (h:ItY w B x) (hB:B<=B'):ItY w B' x:=⟨h.cs.more hB,h.wf1,h.wf2⟩
theorem IsY.more {l:List It} (h:IsY w B A n c l) (hB:B<=B'):IsY w B' A n c l:=⟨h.rd.more hB,h.len,h.cap,h.cap2,fun x hx=>(h.ok x hx).more hB⟩
theorem GsY.more {l:List Int} (h:GsY w B A n c l) (hB:B<=B'):GsY w B' A n c l:=⟨h.rd.more hB,h.len,h.cap,h.cap2,h.wf⟩
theorem WdY.more {x:Wd} (h:WdY w B x) (hB:B<=B'):WdY w B' x:=⟨h.ks.more hB,h.gs.more hB,h.its.more hB⟩
end
theorem take_set2 {xs:List Value} {k:Nat} (u v:Value) (h:(k+1)*2<=xs.length):((xs.set (k*2) u).set (k*2+1) v).take ((k+1)*2)=xs.take (k*2)++[u,v]:=by
 apply List.ext_getElem?
 intro i
 rw [List.getElem?_take,List.getElem?_append,List.length_take,List.getElem?_take]
 simp only [List.getElem?_set,List.length_set]
 by_cases h1:i<k*2
 . rw [if_pos (by omega),if_neg (by omega),if_neg (by omega),if_pos (by omega),if_pos h1]
 . by_cases h2:i=k*2
   . subst h2
     rw [if_pos (by omega),if_neg (by omega),if_pos rfl,if_pos (by omega),if_neg (by omega),show k*2-min (k*2) xs.length=0 by omega];rfl
   . by_cases h3:i=k*2+1
     . subst h3
       rw [if_pos (by omega),if_pos rfl,if_pos (by omega),if_neg (by omega),show k*2+1-min (k*2) xs.length=1 by omega];rfl
     . rw [if_neg (by omega),if_neg (by omega),List.getElem?_eq_none (by simp;omega)]
theorem take_set3 {xs:List Value} {k:Nat} (u v z:Value) (h:(k+1)*3<=xs.length):(((xs.set (k*3) u).set (k*3+1) v).set (k*3+2) z).take ((k+1)*3)=xs.take (k*3)++[u,v,z]:=by
 apply List.ext_getElem?
 intro i
 rw [List.getElem?_take,List.getElem?_append,List.length_take,List.getElem?_take]
 simp only [List.getElem?_set,List.length_set]
 by_cases h1:i<k*3
 . rw [if_pos (by omega),if_neg (by omega),if_neg (by omega),if_neg (by omega),if_pos (by omega),if_pos h1]
 . by_cases h2:i=k*3
   . subst h2
     rw [if_pos (by omega),if_neg (by omega),if_neg (by omega),if_pos rfl,if_pos (by omega),if_neg (by omega),show k*3-min (k*3) xs.length=0 by omega];rfl
   . by_cases h3:i=k*3+1
     . subst h3
       rw [if_pos (by omega),if_neg (by omega),if_pos rfl,if_pos (by omega),if_neg (by omega),show k*3+1-min (k*3) xs.length=1 by omega];rfl
     . by_cases h4:i=k*3+2
       . subst h4
         rw [if_pos (by omega),if_pos rfl,if_pos (by omega),if_neg (by omega),show k*3+2-min (k*3) xs.length=2 by omega];rfl
       . rw [if_neg (by omega),if_neg (by omega),List.getElem?_eq_none (by simp;omega)]
theorem own_fullN {w:World} {base n g size:Nat} {e:TypeId} {xs:List Value} (h:w.ownsRow base e size (.slice (some ⟨g,0,none⟩) n n) n xs):base<=g/\Bk w g e xs.toArray:=by
 rcases h.2 with ⟨hv,_⟩ | ⟨g',cap,cur,hv,hb,hh,_,_,hs,ht⟩
 . cases hv
 . injection hv with h1 h2 h3
   injection h1 with h1
   injection h1 with h1
   subst h1;subst h3
   refine ⟨hb,?_⟩
   have e:cur.toList=xs:=by rw [<- ht,List.take_of_length_le (by simp [hs])]
   unfold Bk
   rw [hh,<- e]
theorem madeN (z:Value) (m:Nat):(madeCells z.cells m).size=m:=by unfold madeCells;simp
structure Fill (w:World) (g:Nat) (t:TypeId) (size n k:Nat) (xs:List Value):Prop where
 bk:∃ cs:Array Value,Bk w g t cs/\cs.size=n*size/\cs.toList.take (k*size)=xs
theorem Fill.keep {w w':World} {B g size n k:Nat} {t:TypeId} {xs:List Value} {F:List TypeId} (h:Fill w g t size n k xs) (hq:Kx B F w w') (ht:t ∉ F):Fill w' g t size n k xs:=by
 obtain ⟨cs,h1,h2⟩:=h.bk
 exact ⟨cs,hq.bk h1 ht,h2⟩
theorem Fill.below {w w':World} {B g size n k:Nat} {t:TypeId} {xs:List Value} (h:Fill w g t size n k xs) (hb:Below B w w') (hB:g<B):Fill w' g t size n k xs:=by
 obtain ⟨cs,h1,h2⟩:=h.bk
 exact ⟨cs,h1.below hb hB,h2⟩
theorem Fill.lt {w:World} {g size n k:Nat} {t:TypeId} {xs:List Value} (h:Fill w g t size n k xs):g<w.heap.size:=by
 obtain ⟨cs,h1,_⟩:=h.bk
 exact h1.lt
theorem Fill.at_ {w:World} {g size n k:Nat} {t:TypeId} {xs:List Value} (h:Fill w g t size n k xs) {j:Nat} (hj:j<n*size):∃ u,w.cell? ⟨g,j,none⟩=some u:=by
 obtain ⟨cs,h1,h2,_⟩:=h.bk
 exact ⟨_,(h1.cell j).trans (Array.getElem?_eq_getElem (by omega))⟩
theorem Fill.frozen {w:World} {g size n k:Nat} {t:TypeId} {xs:List Value} (h:Fill w g t size n k xs) (j:Nat):w.frozen? ⟨g,j,none⟩=false:=by
 obtain ⟨cs,h1,_⟩:=h.bk
 exact h1.frozen j
theorem Fill.step2 {w:World} {g n k:Nat} {t:TypeId} {xs:List Value} (h:Fill w g t 2 n k xs) (hk:k<n) (u v:Value):Fill ((w.setCell ⟨g,k*2,none⟩ u).setCell ⟨g,k*2+1,none⟩ v) g t 2 n (k+1) (xs++[u,v]):=by
 obtain ⟨cs,h1,h2,h3⟩:=h.bk
 refine ⟨_,(h1.set_ (k*2) u).set_ (k*2+1) v,by simp [h2],?_⟩
 rw [Array.toList_setIfInBounds,Array.toList_setIfInBounds,take_set2 u v (by rw [Array.length_toList];omega),h3]
theorem Fill.step3 {w:World} {g n k:Nat} {t:TypeId} {xs:List Value} (h:Fill w g t 3 n k xs) (hk:k<n) (u v z:Value):Fill (((w.setCell ⟨g,k*3,none⟩ u).setCell ⟨g,k*3+1,none⟩ v).setCell ⟨g,k*3+2,none⟩ z) g t 3 n (k+1) (xs++[u,v,z]):=by
 obtain ⟨cs,h1,h2,h3⟩:=h.bk
 refine ⟨_,((h1.set_ (k*3) u).set_ (k*3+1) v).set_ (k*3+2) z,by simp [h2],?_⟩
 rw [Array.toList_setIfInBounds,Array.toList_setIfInBounds,Array.toList_setIfInBounds,take_set3 u v z (by rw [Array.length_toList];omega),h3]
theorem Fill.made {w:World} {base g n size:Nat} {t:TypeId} {z:Value} (h:w.ownsRow base t size (.slice (some ⟨g,0,none⟩) n n) n (madeCells z.cells (n*size)).toList):base<=g/\Fill w g t size n 0 []:=by
 obtain ⟨h1,h2⟩:=own_fullN h
 exact ⟨h1,⟨_,h2,by simp [madeN],by simp⟩⟩
theorem Fill.rd {w:World} {B g size n:Nat} {t:TypeId} {xs:List Value} (h:Fill w g t size n n xs):RdY w B t size (some ⟨g,0,none⟩) n xs:=by
 obtain ⟨cs,h1,h2,h3⟩:=h.bk
 refine RdY.of_bk h1 (by rw [<- h3,List.length_take,Array.length_toList];omega) fun j u hu=>?_
 rw [<- h3,List.getElem?_take] at hu
 split at hu
 . simpa using hu
 . cases hu
theorem Fill.kx2 {w:World} {B g size n k:Nat} {t:TypeId} {xs:List Value} (h:Fill w g t size n k xs) (hB:B<=g) (i j:Nat) (u v:Value):Kx B [t] w ((w.setCell ⟨g,i,none⟩ u).setCell ⟨g,j,none⟩ v):=by
 obtain ⟨cs,h1,_⟩:=h.bk
 exact (Kx.refl.set h1 hB (by simp) i u).set (h1.set_ i u) hB (by simp) j v
theorem Fill.kx3 {w:World} {B g size n k:Nat} {t:TypeId} {xs:List Value} (h:Fill w g t size n k xs) (hB:B<=g) (i j m:Nat) (u v z:Value):Kx B [t] w (((w.setCell ⟨g,i,none⟩ u).setCell ⟨g,j,none⟩ v).setCell ⟨g,m,none⟩ z):=by
 obtain ⟨cs,h1,_⟩:=h.bk
 exact ((Kx.refl.set h1 hB (by simp) i u).set (h1.set_ i u) hB (by simp) j v).set ((h1.set_ i u).set_ j v) hB (by simp) m z
theorem T.infoCm:(Try.prog.info? 166).map (fun i=>(i.zero,i.size,i.bytes))=some (some (.agg #[.int i64 0,.slice none 0 0]),2,32):=by kernel_rfl
def genN (k:Nat):ByteArray:=if k=0 then ⟨#[115,112,111,116]⟩ else if k=1 then ⟨#[108,105,102,101]⟩ else if k=2 then ⟨#[116,101,97,109]⟩ else ⟨#[103,111,97,108]⟩
def genX (i:Nat):ByteArray:=if i=0 then ⟨#[120]⟩ else if i=1 then ⟨#[121]⟩ else ⟨#[122]⟩
structure GenF (f:Fd):Prop where
 b:(1<=f.bits/\f.bits<=9 /\ -30<=f.low/\f.low<=9)\/(f.bits=32/\f.low = -2147483648)
structure GenFs (l:List Fd):Prop where
 g:∀ i f,l[i]?=some f->f.nm=genX i/\GenF f
structure GenKs (l:List (ByteArray × List Fd)):Prop where
 g:∀ i k,l[i]?=some k->k.1=genN i/\1<=k.2.length/\k.2.length<=3/\GenFs k.2
structure KdT (w:World) (k:Kd):Prop where
 tr:Tr w 66 3 k.A k.n (fdCs k.fds)
 len:k.n=k.fds.length
 cap:k.n<=k.c
 cap2:k.c<=9223372036854775807
theorem T.infoKd:(Try.prog.info? 63).map (fun i=>(i.zero,i.size,i.bytes))=some (some (.agg #[.string ByteArray.empty,.slice none 0 0]),2,40):=by kernel_rfl
theorem T.infoFd:(Try.prog.info? 66).map (fun i=>(i.zero,i.size,i.bytes))=some (some (.agg #[.string ByteArray.empty,.int i64 0,.int i64 0]),3,32):=by kernel_rfl
structure KsI (w wr:World) (KA:Option Addr) (k kc:Nat) (ks:List Kd):Prop where
 len:ks.length=k
 own:wr.ownsRow w.heap.size 63 2 (.slice KA k kc) k (kdCs ks)
 gen:GenKs (ks.map Kd.p)
 ok:∀ x∈ks,KdT wr x
theorem KsI.fq {w wr w':World} {KA:Option Addr} {k kc s B:Nat} {ks:List Kd} (h:KsI w wr KA k kc ks) (hq:Fq [s] wr w') (hs:StrSt wr B s):KsI w w' KA k kc ks:=by
 obtain ⟨cs,hb⟩:=hs.bk
 refine ⟨h.len,own_keepB h.own fun g hg=>hq.low g (h.own.lt g hg).2 fun hgs=>?_,h.gen,fun x hx=>⟨(h.ok x hx).tr.fq hq fun b hbs=>?_,(h.ok x hx).len,(h.ok x hx).cap,(h.ok x hx).cap2⟩⟩
 . obtain ⟨cs',hb'⟩:=own_ty h.own hg
   exact Bk.ne_ hb hb' (by decide) (by simp at hgs;exact hgs.symm)
 . exact ⟨189,cs,by rw [show b=s by simpa using hbs];exact hb,by decide⟩
theorem GenKs.push {l:List (ByteArray × List Fd)} {k:ByteArray × List Fd} (h:GenKs l) (h1:k.1=genN l.length) (h2:1<=k.2.length) (h3:k.2.length<=3) (h4:GenFs k.2):GenKs (l++[k]):=by
 refine ⟨fun i x hx=>?_⟩
 rcases Nat.lt_or_ge i l.length with hi | hi
 . rw [List.getElem?_append_left hi] at hx
   exact h.g i x hx
 . rw [List.getElem?_append_right hi] at hx
   have e:i-l.length=0:=by
    rcases Nat.eq_zero_or_pos (i-l.length) with h | h
    . exact h
    . rw [List.getElem?_eq_none (by simp;omega)] at hx;cases hx
   rw [e] at hx
   have ek:k=x:=by simpa using hx
   subst ek
   rw [show i=l.length by omega]
   exact ⟨h1,h2,h3,h4⟩
theorem GenFs.push {l:List Fd} {f:Fd} (h:GenFs l) (h1:f.nm=genX l.length) (h2:GenF f):GenFs (l++[f]):=by
 refine ⟨fun i x hx=>?_⟩
 rcases Nat.lt_or_ge i l.length with hi | hi
 . rw [List.getElem?_append_left hi] at hx
   exact h.g i x hx
 . rw [List.getElem?_append_right hi] at hx
   have e:i-l.length=0:=by
    rcases Nat.eq_zero_or_pos (i-l.length) with h | h
    . exact h
    . rw [List.getElem?_eq_none (by simp;omega)] at hx;cases hx
   rw [e] at hx
   have ek:f=x:=by simpa using hx
   subst ek
   rw [show i=l.length by omega]
   exact ⟨h1,h2⟩
theorem KsI.push {w wr w':World} {KA KA':Option Addr} {k kc kc':Nat} {ks:List Kd} (h:KsI w wr KA k kc ks) (x:Kd) (hx:KdT wr x) (hn:x.nm=genN k) (h1:1<=x.fds.length) (h3:x.fds.length<=3) (h4:GenFs x.fds)
 (hown:w'.ownsRow w.heap.size 63 2 (.slice KA' (k+1) kc') (k+1) (kdCs ks++(#[Value.string x.nm,.slice x.A x.n x.c]:Array Value).toList)) {o:Obj} (hg:(wr.alloc o).grownBy w' (Value.slice KA k kc).ownBlock):KsI w w' KA' (k+1) kc' (ks++[x]):=by
 have hr:∀ b,(Value.slice KA k kc).ownBlock=some b->∃ t cs,Bk (wr.alloc o) b t cs/\t≠66:=fun b hb=>by
  obtain ⟨cs,hb'⟩:=own_ty h.own hb
  exact ⟨63,cs,hb'.alloc _,by decide⟩
 have ht:∀ y,KdT wr y->KdT w' y:=fun y hy=>⟨(hy.tr.below ((Below.refl _ _).alloc (Nat.le_refl _) o)).grown hg hr,hy.len,hy.cap,hy.cap2⟩
 refine ⟨by simp [h.len],?_,?_,fun y hy=>?_⟩
 . have e:kdCs (ks++[x])=kdCs ks++(#[Value.string x.nm,.slice x.A x.n x.c]:Array Value).toList:=by simp [kdCs,Kd.cs]
   rw [e];exact hown
 . rw [List.map_append]
   refine h.gen.push ?_ h1 h3 h4
   rw [List.length_map,h.len];exact hn
 . rcases List.mem_append.1 hy with hy | hy
   . exact ht y (h.ok y hy)
   . rw [show y=x by simpa using hy];exact ht x hx
theorem KsI.done {w wr:World} {KA:Option Addr} {k kc:Nat} {ks:List Kd} (h:KsI w wr KA k kc ks):KsOk wr wr.heap.size KA ks.length kc ks:=by
 have hr:=Rd.of_own h.own
 have hc:=own_cap2 h.own
 rw [h.len]
 exact ⟨hr,h.len.symm,hc.1,hc.2,fun x hx=>⟨(h.ok x hx).tr.rd,(h.ok x hx).len,(h.ok x hx).cap,(h.ok x hx).cap2⟩,Nat.le_refl _⟩
theorem Bk.set3 {w:World} {g:Nat} {t:TypeId} {x y z:Value} (h:Bk w g t #[x,y,z]) (a b c:Value):Bk (((w.setCell ⟨g,0,none⟩ a).setCell ⟨g,1,none⟩ b).setCell ⟨g,2,none⟩ c) g t #[a,b,c]:=by
 simpa using ((h.set_ 0 a).set_ 1 b).set_ 2 c
theorem StrSt.mv {w w':World} {B s n:Nat} (h:StrSt w B s) (hb:Below n w w') (hs:s<n) (hB:B<=s):StrSt w' B s:=by
 obtain ⟨A,m,c,zs,h1,h2,h3,h4,h5,h6⟩:=h
 exact ⟨A,m,c,zs,h1.below hb hs,h2,h3,h4,h5.below (hb.mono (by omega)),h6⟩
theorem Bk.two (w:World) (o:Obj) (t:TypeId) (cs:Array Value):Bk ((w.alloc o).alloc (.cells cs t)) (w.heap.size+1) t cs:=by simpa using Bk.new (w.alloc o) t cs
section
variable {P:Program}
theorem step_append_rd {ops:Array Oper} {o:Oper} {a:Act} {w:World} {K:Act->World->Prop} {Q:Exit->Act->World->Prop} {E:Prop} (hgd:o.guard=none) (s x:Operand) (t:TypeId)
 (ho:o.op=.call { callee:=.builtin .append,args:=#[s,x],argTypes:=#[t,t] })
 (base:Nat) (e:TypeId) (i:TypeInfo) (z:Value) (size bytes:Nat) (ht:P.underlying t=some (.slice e)) (hi:P.info? e=some i) (hz:i.zero=some z)
 (hsize:i.size=size) (hby:i.bytes=bytes) (hzs:z.cells.size=size) (hsz:0<size)
 (v:Value) (n:Nat) (xs:List Value) (hs:a.eval s=v) (hown:w.ownsRow base e size v n xs)
 (B:Nat) (A:Option Addr) (m c:Nat) (news:List Value) (hx:a.eval x=.slice A m c) (hr:Rd w B size A m news) (h1:∀ u∈news,u.oneCell'=true)
 (n':Nat) (hn':n'=n+m) (h63:n'<=maxLen) (hbytes:n'*bytes<=140737488355328) (hbase:base<=w.heap.size)
 (h:∀ A' c' w',w'.ownsRow base e size (.slice A' n' c') n' (xs++news)->w.grownBy w' v.ownBlock->K (a.put o.dst (.slice A' n' c')) w') :
 if Region.wanted o (yielded ops a.tmps)=true then Oper.wp P o a w K Q else E:=by
 have hw:Region.wanted o (yielded ops a.tmps)=true:=by simp [Region.wanted,hgd]
 rw [if_pos hw]
 subst hn'
 exact wp_append_rd w s x t ho base e i z size bytes ht hi hz hsize hby hzs hsz v n xs hs hown B A m c news hx hr h1 h63 hbytes hbase fun A' c' w' h2 h3 _=>h A' c' w' h2 h3
theorem step_append_one {ops:Array Oper} {o:Oper} {a:Act} {w:World} {K:Act->World->Prop} {Q:Exit->Act->World->Prop} {E:Prop} (hgd:o.guard=none) (s x:Operand) (t:TypeId)
 (ho:o.op=.call { callee:=.builtin .append,args:=#[s,x],argTypes:=#[t,t] })
 (base:Nat) (e:TypeId) (i:TypeInfo) (z:Value) (size bytes:Nat) (ht:P.underlying t=some (.slice e)) (hi:P.info? e=some i) (hz:i.zero=some z)
 (hsize:i.size=size) (hby:i.bytes=bytes) (hzs:z.cells.size=size) (hsz:0<size)
 (v:Value) (n:Nat) (xs:List Value) (hs:a.eval s=v) (hown:w.ownsRow base e size v n xs)
 (b c:Nat) (t':TypeId) (cs:Array Value) (hx:a.eval x=.slice (some ⟨b,0,none⟩) 1 c) (hr:Bk w b t' cs) (hcs:cs.size=size) (h1:∀ u∈cs.toList,u.oneCell'=true)
 (n':Nat) (hn':n'=n+1) (h63:n'<=maxLen) (hbytes:n'*bytes<=140737488355328) (hbase:base<=w.heap.size)
 (h:∀ g' c' w',w'.ownsRow base e size (.slice (some ⟨g',0,none⟩) n' c') n' (xs++cs.toList)->w.grownBy w' v.ownBlock->(v.ownBlock=some g'\/g'=w.heap.size)->K (a.put o.dst (.slice (some ⟨g',0,none⟩) n' c')) w') :
 if Region.wanted o (yielded ops a.tmps)=true then Oper.wp P o a w K Q else E:=by
 have hw:Region.wanted o (yielded ops a.tmps)=true:=by simp [Region.wanted,hgd]
 rw [if_pos hw]
 subst hn'
 have hrd:Rd w w.heap.size size (some ⟨b,0,none⟩) 1 cs.toList :=
  ⟨by simp [hcs],fun _=>⟨_,_,rfl,hr.lt,fun j u hu=>by
   rw [Nat.zero_add]
   exact (hr.cell j).trans (by simpa using hu)⟩⟩
 refine wp_append_rd w s x t ho base e i z size bytes ht hi hz hsize hby hzs hsz v n xs hs hown _ _ 1 c _ hx hrd h1 h63 hbytes hbase fun A' c' w' h2 h3 h4=>?_
 obtain ⟨g,cap,hv,_,hlt⟩:=h2.form (by omega)
 have hA:A'=some ⟨g,0,none⟩:=by injection hv
 subst hA
 refine h g c' w' h2 h3 ?_
 rcases h4 with h4 | h4
 . exact .inl (by rw [<- h4];rfl)
 . exact .inr (by simpa [Value.ownBlock] using h4)
end
theorem fdCs_one (l:List Fd):∀ u∈fdCs l,u.oneCell'=true:=by
 intro u hu
 obtain ⟨f,_,hf⟩:=List.mem_flatMap.1 hu
 simp [Fd.cs] at hf
 rcases hf with rfl | rfl | rfl <;> rfl
set_option maxHeartbeats 1600000 in
theorem kcopy_any {w:World} {B n c:Nat} {A:Option Addr} {l:List Kd} (h:KsOk w B A n c l) (hn:n<=1048576) (hv:∀ x∈l,x.n<=1048576) :
 Calls Try.prog 169 #[.slice A n c] w fun e w'=>∃ g l',e=.returned (.slice (some ⟨g,0,none⟩) n n)/\KsY w' 0 (some ⟨g,0,none⟩) n n l'/\l'.map Kd.p=l.map Kd.p/\Below w.heap.size w w':=by
 obtain ⟨i0,hi0,hz0,hz1,hz2⟩:=info_parts T.infoKd
 obtain ⟨i6,hi6,hz60,hz61,hz62⟩:=info_parts T.infoFd
 have hlo:=h.lo
 have hcap:=h.cap
 have hcap2:=h.cap2
 have HC:=hid h
 have HV:=hid hv
 clear h hv
 go_enter Try.func169,Try.ntmps169
 go_wp2_with
  (at_make
   go_must (refine wpList_make_full _ rfl _ _ 22 rfl w.heap.size 63 i0 (.agg #[.string ByteArray.empty,.slice none 0 0]) 2 Try.underlying22 hi0 hz0 hz1 .i64 .i64 _ _ n rfl rfl rfl rfl (by rw [hz2];omega) (by unfold maxLen;omega) (Nat.le_refl _) ?_)
   go_loud (
    intro w3 hown3 hg3
    obtain ⟨hgc,hf3⟩:=Fill.made hown3
    have hb3:=(Below.refl w.heap.size w).grown hg3 (Nat.le_refl _) (fun q hq=>by cases hq)
    clear hown3 hg3))
 obtain ⟨gO,hgO⟩:∃ g,g=w.heap.size:=⟨_,rfl⟩
 rw [<- hgO] at hf3 ⊢
 have hgc:w.heap.size<=gO:=by omega
 have HI0:Hid (Fill w3 gO 63 2 n 0 (kdCs [])/\Below w.heap.size w w3):=hid ⟨hf3,hb3⟩
 have HGO:=hid hgO
 clear hf3 hb3 hgO
 go_loopw [11] (fun iv wr=>∃ (k:Nat) (l1:List Kd),k<=n/\iv=.int i64 k/\Hid (Fill wr gO 63 2 n k (kdCs l1)/\Below w.heap.size w wr)/\Hid (l1.map Kd.p=(l.take k).map Kd.p/\∀ x∈l1,KdY wr 0 x)) (fun iv _=>n-(intOf iv).toNat)
 case atStart=>exact ⟨0,[],Nat.zero_le _,rfl,HI0,hid ⟨rfl,(fun x hx=>by cases hx)⟩⟩
 case round =>
  clear HI0
  obtain ⟨k,l1,hk,rfl,HI,HL⟩:=hrel
  by_cases hlt:k<n
  . have hkz:(k:Int)<n:=by omega
    obtain ⟨x,hx⟩:∃ x,l[k]?=some x:=⟨_,List.getElem?_eq_getElem (by have:=HC.out.len;omega)⟩
    have hcw:=HC.out.below (HI.out.2.mono hlo)
    have hxo:=hcw.ok x (List.mem_of_getElem? hx)
    have hxs:=HV.out x (List.mem_of_getElem? hx)
    obtain ⟨b,o,rfl,hbb,q0,q1⟩:=hcw.rd.kd hlt hx
    have hcl:=fun wx (hb:Below B wr wx)=>hxo.rd.below hb
    have HCL:=hid hcl
    have HX:=hid (And.intro hx hxo)
    have HLo:=hid hlo
    clear hx hcw hxo hcl
    generalize hxk:x.nm=xk at *
    generalize hxA:x.A=xA at *
    generalize hxn:x.n=xn at *
    generalize hxc:x.c=xc at *
    have HXV:=hid (And.intro hxk (And.intro hxA (And.intro hxn hxc)))
    clear hxk hxA hxn hxc
    go_wp2_with fail
    have hb1:=(Below.refl wr.heap.size wr).alloc (Nat.le_refl _) (.cells #[.string xk,.slice xA xn xc] 63)
    have hh1:=Bk.new wr 63 #[.string xk,.slice xA xn xc]
    have hO1:=HI.out.1.below (hb1) HI.out.1.lt
    have hw1:=HI.out.2.trans (hb1.mono HI.out.2.size)
    have hgh:gO<wr.heap.size:=HI.out.1.lt
    have hB1:B<=wr.heap.size:=Nat.le_trans hlo HI.out.2.size
    have hbB:Below B wr (wr.alloc (.cells #[.string xk,.slice xA xn xc] 63)):=hb1.mono hB1
    have HB1:=hid hb1
    clear hb1 q0 q1
    generalize wr.alloc (.cells #[.string xk,.slice xA xn xc] 63)=W1 at *
    generalize hhh:wr.heap.size=hh at *
    have hgh2:hh≠gO:=by omega
    have s1:W1.drew.cell? ⟨hh,0,none⟩=some (.string xk)/\W1.drew.cell? ⟨hh,1,none⟩=some (.slice xA xn xc):=⟨hh1.cell 0,hh1.cell 1⟩
    have hrd:Rd W1.drew B 3 xA xn (fdCs x.fds):=HCL.out _ hbB.drew
    have HH1:=hid hh1
    have HO1:=hid hO1
    have HW1:=hid hw1
    have hw1s:=hh1.lt
    have hB2:B<=W1.drew.heap.size:=Nat.le_trans hB1 (Nat.le_of_lt hw1s)
    have hbase:w.heap.size<=W1.drew.heap.size:=HW1.out.size
    clear hh1 hO1 hw1
    go_region_held3 (fun wx=>wx.cell? ⟨hh,0,none⟩=some (.string xk)/\wx.cell? ⟨hh,1,none⟩=some (.slice xA xn xc))
     (first | (with_reducible exact s1) | (with_reducible exact s3) | (with_reducible exact s4) | go_keep)
     (first
      | ((refine step_append_rd rfl (.const (.slice none 0 0)) (.tmp 21) 61 rfl W1.drew.heap.size 66 i6 (.agg #[.string ByteArray.empty,.int i64 0,.int i64 0]) 3 32 Try.underlying61 hi6 hz60 hz61 hz62 rfl (by decide) (.slice none 0 0) 0 [] rfl (World.ownsRow_nil _ _ _ _) B xA xn xc (fdCs x.fds) rfl hrd (fdCs_one _) xn ?c1 ?c2 ?c3 ?c4 ?_)
         case c1=>omega
         case c2=>unfold maxLen;omega
         case c3=>omega
         case c4=>exact Nat.le_refl _
         intro A3 c3 w3 hown3 hg3
         rw [List.nil_append] at hown3
         have hb3:Below W1.drew.heap.size W1.drew w3:=(Below.refl _ _).grown hg3 (Nat.le_refl _) (fun q hq=>by cases hq)
         have hh3:=HH1.out.drew.below hb3 HH1.out.lt
         have hO3:=Fill.below (w:=W1.drew) (HO1.out.keep (F:=[]) (Kx.refl (B:=0) |>.drew) (by simp)) hb3 (by have:=HO1.out.lt;exact this)
         have s3:w3.cell? ⟨hh,0,none⟩=some (.string xk)/\w3.cell? ⟨hh,1,none⟩=some (.slice xA xn xc):=⟨hh3.cell 0,hh3.cell 1⟩
         have hh4:=(hh3.far (p:=⟨gO,k*2,none⟩) hgh2 (.string xk)).far (p:=⟨gO,k*2+1,none⟩) hgh2 (.slice A3 xn c3)
         have s4:((w3.setCell ⟨gO,k*2,none⟩ (.string xk)).setCell ⟨gO,k*2+1,none⟩ (.slice A3 xn c3)).cell? ⟨hh,0,none⟩=some (.string xk)/\((w3.setCell ⟨gO,k*2,none⟩ (.string xk)).setCell ⟨gO,k*2+1,none⟩ (.slice A3 xn c3)).cell? ⟨hh,1,none⟩=some (.slice xA xn xc):=⟨hh4.cell 0,hh4.cell 1⟩
         obtain ⟨u0,o0⟩:=hO3.at_ (j:=k*2) (by omega)
         obtain ⟨u1,o1⟩:=hO3.at_ (j:=k*2+1) (by omega)
         have p0:=hO3.frozen (k*2)
         have p1:=hO3.frozen (k*2+1)
         have hI4:=hO3.step2 hlt (.string xk) (.slice A3 xn c3)
         have hw4:Below w.heap.size w ((w3.setCell ⟨gO,k*2,none⟩ (.string xk)).setCell ⟨gO,k*2+1,none⟩ (.slice A3 xn c3)):=((HW1.out.trans ((show Below W1.heap.size W1 w3 from ⟨hb3.os,hb3.tape,hb3.output,hb3.size,hb3.block⟩).mono HW1.out.size)).setCell (p:=⟨gO,k*2,none⟩) hgc _).setCell (p:=⟨gO,k*2+1,none⟩) hgc _
         have HI4:=hid (And.intro hI4 hw4)
         have HN3:=hid (And.intro hown3 hb3)
         have HO3:=hid hO3
         clear hb3 hh3 hO3 hh4 hI4 hw4 hown3 hg3))
    have hkx:Kx 0 [63] wr ((w3.setCell ⟨gO,k*2,none⟩ (.string xk)).setCell ⟨gO,k*2+1,none⟩ (.slice A3 xn c3)):=((Kx.refl.below (show Below wr.heap.size wr W1 by rw [hhh];exact HB1.out)).drew.below (w':=W1.drew) HN3.out.2).trans (HO3.out.kx2 (Nat.zero_le _) _ _ _ _)
    have hkx3:Kx 0 [63] w3 ((w3.setCell ⟨gO,k*2,none⟩ (.string xk)).setCell ⟨gO,k*2+1,none⟩ (.slice A3 xn c3)):=HO3.out.kx2 (Nat.zero_le _) _ _ _ _
    have hcp:=own_cap2 HN3.out.1
    have hyy:KdY ((w3.setCell ⟨gO,k*2,none⟩ (.string xk)).setCell ⟨gO,k*2+1,none⟩ (.slice A3 xn c3)) 0 ⟨xk,A3,xn,c3,x.fds⟩ :=
     ⟨(RdY.of_own HN3.out.1).keep hkx3 (by decide),by have:=HX.out.2.len;rw [HXV.out.2.2.1] at this;exact this,hcp.1,hcp.2⟩
    have HLN:Hid ((l1++[(⟨xk,A3,xn,c3,x.fds⟩:Kd)]).map Kd.p=(l.take (k+1)).map Kd.p/\∀ y∈l1++[(⟨xk,A3,xn,c3,x.fds⟩:Kd)],KdY ((w3.setCell ⟨gO,k*2,none⟩ (.string xk)).setCell ⟨gO,k*2+1,none⟩ (.slice A3 xn c3)) 0 y):=hid ⟨by
     rw [List.take_add_one,HX.out.1,List.map_append,HL.out.1,List.map_append,<- HXV.out.1];rfl,fun y hy=>by
     rcases List.mem_append.1 hy with hy | hy
     . exact (HL.out.2 y hy).keep hkx (by decide)
     . rw [show y=⟨xk,A3,xn,c3,x.fds⟩ by simpa using hy];exact hyy⟩
    have HIN:Hid (Fill ((w3.setCell ⟨gO,k*2,none⟩ (.string xk)).setCell ⟨gO,k*2+1,none⟩ (.slice A3 xn c3)) gO 63 2 n (k+1) (kdCs (l1++[(⟨xk,A3,xn,c3,x.fds⟩:Kd)]))/\Below w.heap.size w ((w3.setCell ⟨gO,k*2,none⟩ (.string xk)).setCell ⟨gO,k*2+1,none⟩ (.slice A3 xn c3))):=hid (by
     rw [show kdCs (l1++[(⟨xk,A3,xn,c3,x.fds⟩:Kd)])=kdCs l1++[.string xk,.slice A3 xn c3] by simp [kdCs,Kd.cs]]
     exact HI4.out)
    clear hkx hkx3 hcp hyy HI4 HO3 HN3
    go_wp2_with fail
    go_roundw
    case rel=>exact ⟨k+1,l1++[(⟨xk,A3,xn,c3,x.fds⟩:Kd)],by omega,by go_num,HIN,HLN⟩
    case measure=>simp [intOf];omega
  . obtain rfl:n=k:=by omega
    have HLL:=HL.out.1
    rw [List.take_of_length_le (by rw [<- HC.out.len];omega)] at HLL
    have HLP:=hid HLL
    clear HLL
    go_wp2_with fail
    go_ret
    have hlen:n=l1.length:=by have h:=congrArg List.length HLP.out;rw [List.length_map,List.length_map] at h;rw [h];exact HC.out.len
    exact ⟨gO,l1,rfl,⟨HI.out.1.rd,hlen,Nat.le_refl _,by omega,HL.out.2⟩,HLP.out,HI.out.2⟩
structure SmallV (v:Wv Kp2):Prop where
 ks:v.ks.length<=1048576
 fds:∀ k∈v.ks,k.2.length<=1048576
 gens:v.gens.length<=1048576
 its:v.its.length<=1048576
 cms:∀ it∈v.its,it.2.length<=1048576
 vals:∀ it∈v.its,∀ c∈it.2,c.2.length<=1048576
theorem results_c1 {fn:Func} {p:Tmp} {ty:TypeId} (h:fn.results=#[.cell p ty]) (tmps:Array Value) (P:Program) (w:World) :
 (results fn tmps).run P w=((asAddr (tmps.getD p undef)).run P w).andThen fun a w₁=>(loadVar ty a).run P w₁:=by
 simp only [results,h]
 simp [Sem.run_bind,Result.andThen]
theorem Below.al {w w':World} (h:Below w.heap.size w w') (o:Obj):Below w.heap.size w (w'.alloc o):=h.alloc h.size o
theorem Below.tr {w w' w2:World} (h:Below w.heap.size w w') (k:Below w'.heap.size w' w2):Below w.heap.size w w2:=h.trans (k.mono h.size)
theorem bcell {X w':World} (hb:Below X.heap.size X w') (b:Nat) (h:b<X.heap.size) (o:Nat):w'.cell? ⟨b,o,none⟩=X.cell? ⟨b,o,none⟩:=hb.cell (p:=⟨b,o,none⟩) h
theorem bfroz {X w':World} (hb:Below X.heap.size X w') (b:Nat) (h:b<X.heap.size) (o:Nat):w'.frozen? ⟨b,o,none⟩=X.frozen? ⟨b,o,none⟩:=World.frozen?_of_block (a:=⟨b,o,none⟩) (hb.block b h)
theorem Bk.below2 {X w':World} {g:Nat} {t:TypeId} {cs:Array Value} (h:Bk X g t cs) (hb:Below X.heap.size X w'):Bk w' g t cs:=h.below hb h.lt
theorem Bk.far3 {w:World} {g g':Nat} {t t':TypeId} {cs cs':Array Value} (h:Bk w g t cs) (hg:Bk w g' t' cs') (hne:t≠t') (i j k:Nat) (a b c:Value):Bk (((w.setCell ⟨g',i,none⟩ a).setCell ⟨g',j,none⟩ b).setCell ⟨g',k,none⟩ c) g t cs:=by
 have e:g≠g':=Bk.ne_ h hg hne
 exact ((h.far (p:=⟨g',i,none⟩) e a).far (p:=⟨g',j,none⟩) e b).far (p:=⟨g',k,none⟩) e c
theorem Kx.set3 {w w':World} {B g:Nat} {F:List TypeId} {t:TypeId} {cs:Array Value} (h:Kx B F w w') (hg:Bk w' g t cs) (hB:B<=g) (ht:t∈F) (i j k:Nat) (a b c:Value):Kx B F w (((w'.setCell ⟨g,i,none⟩ a).setCell ⟨g,j,none⟩ b).setCell ⟨g,k,none⟩ c) :=
 ((h.set hg hB ht i a).set (hg.set_ i a) hB ht j b).set ((hg.set_ i a).set_ j b) hB ht k c
theorem Fill.of_bk {w:World} {g n size:Nat} {t:TypeId} {cs:Array Value} (h:Bk w g t cs) (hs:cs.size=n*size):Fill w g t size n 0 []:=⟨cs,h,hs,by simp⟩
theorem T.infoIt:(Try.prog.info? 147).map (fun i=>(i.zero,i.size,i.bytes))=some (some (.agg #[.int i64 0,.int i64 0,.slice none 0 0]),3,40):=by kernel_rfl
theorem GsY.own {w:World} {B base n c:Nat} {A:Option Addr} {l:List Int} (h:w.ownsRow base 3 1 (.slice A n c) n (l.map (Value.int .i64))) (hw:∀ g∈l,(Lit.int i64 g).wf=true):GsY w B A n c l:=by
 have hc:=own_cap2 h
 refine ⟨.of_own h,?_,hc.1,hc.2,hw⟩
 have:=h.1
 simpa using this.symm
end Go.Proofs.Ytnidcmhfbkdioaa
