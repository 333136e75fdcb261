/-
  Plain law: merging worlds as data. No program. Conditions: none.
-/
import Derived.Test.YtnidcmhfbkdioaaRows
namespace Go.Proofs.Ytnidcmhfbkdioaa
abbrev Cv:=Int × List Int
abbrev Iv:=(Int × Int) × List Cv
abbrev Cl:=Int × Int × Int × Int
def findI (l:List Iv) (n:Int):Option Iv:=l.find? fun x=>decide (x.1.1=n)
def findC (l:List Cv) (k:Int):Option (List Int):=(l.find? fun c=>decide (c.1=k)).map (·.2)
def optC (k:Nat):Option (List Int)->List Cv
 | some v=>[((k:Int),v)]
 | none=>[]
structure Wv (κ:Type) where
 ks:List κ
 gens:List Int
 its:List Iv
structure VCs {κ:Type} (hold:κ->List Int->Bool) (ks:List κ) (l:List Cv):Prop where
 sorted:l.Pairwise fun a b=>a.1<b.1
 ok:∀ c∈l,∃ (k:Nat) (d:κ),c.1=k/\ks[k]?=some d/\hold d c.2=true
structure VW {κ:Type} (hold:κ->List Int->Bool) (w:Wv κ):Prop where
 many:w.gens.length<=256
 gens:∀ g∈w.gens,0<=g/\g<=1073741824
 sorted:w.its.Pairwise fun a b=>a.1.1<b.1.1
 ok:∀ it∈w.its,(∃ n:Nat,it.1.1=n/\w.gens[n]?=some it.1.2)/\it.1.2≠1073741824/\VCs hold w.ks it.2
theorem flat_congr {α β:Type} {l:List α} {f g:α->List β} (h:∀ a∈l,f a=g a):l.flatMap f=l.flatMap g:=by
 induction l with
 | nil=>rfl
 | cons a l ih=>simp only [List.flatMap_cons];rw [h a (by simp),ih fun b hb=>h b (by simp [hb])]
theorem findC_some {l:List Cv} {k:Int} {v:List Int} (h:findC l k=some v):(k,v)∈l:=by
 unfold findC at h
 cases hf:l.find? (fun c=>decide (c.1=k)) with
 | none=>rw [hf] at h;cases h
 | some c =>
   rw [hf] at h
   have e:c.2=v:=by simpa using h
   have e1:c.1=k:=by simpa using List.find?_some hf
   have:=List.mem_of_find?_eq_some hf
   rw [<- e1,<- e];exact this
theorem findI_some {l:List Iv} {k:Int} {v:Iv} (h:findI l k=some v):v∈l/\v.1.1=k:=by
 unfold findI at h
 exact ⟨List.mem_of_find?_eq_some h,by simpa using List.find?_some h⟩
theorem rebuild {α:Type} (key:α->Int) (K:Nat) (l:List α) (hs:l.Pairwise fun a b=>key a<key b) (hk:∀ c∈l,∃ k:Nat,key c=k/\k<K) :
 ((List.range K).flatMap fun k:Nat=>(l.find? fun c=>decide (key c=(k:Int))).toList)=l:=by
 suffices h:∀ (m:Nat) (l:List α),(l.Pairwise fun a b=>key a<key b)->(∀ c∈l,∃ k:Nat,key c=(k:Int)/\k<m)->((List.range m).flatMap fun k:Nat=>(l.find? fun c=>decide (key c=(k:Int))).toList)=l from h K l hs hk
 intro m
 induction m with
 | zero =>
   intro l _ hk
   cases l with
   | nil=>rfl
   | cons a l=>obtain ⟨k,_,h⟩:=hk a (List.mem_cons_self ..);omega
 | succ m ih =>
   intro l hs hk
   rw [List.range_succ,List.flatMap_append]
   simp only [List.flatMap_cons,List.flatMap_nil,List.append_nil]
   rcases List.eq_nil_or_concat l with rfl | ⟨l',a,rfl⟩
   . simp
   . rw [List.concat_eq_append] at hs hk ⊢
     obtain ⟨k,hka,hkm⟩:=hk a (by simp)
     rw [List.pairwise_append] at hs
     obtain ⟨hs1,_,hs3⟩:=hs
     have hlt:∀ c∈l',key c<(k:Int):=fun c hc=>by rw [<- hka];exact hs3 c hc a (by simp)
     by_cases hkm':k=m
     . subst hkm'
       have h1:∀ c∈l',∃ j:Nat,key c=(j:Int)/\j<k:=fun c hc=>by
        obtain ⟨j,hj,_⟩:=hk c (by simp [hc])
        exact ⟨j,hj,by have:=hlt c hc;omega⟩
       have e1:=ih l' hs1 h1
       have e2:((List.range k).flatMap fun j:Nat=>((l'++[a]).find? fun c=>decide (key c=(j:Int))).toList)=((List.range k).flatMap fun j:Nat=>(l'.find? fun c=>decide (key c=(j:Int))).toList):=by
        apply flat_congr
        intro j hj
        have hj':j<k:=by simpa using hj
        rw [List.find?_append]
        have:([a].find? fun c=>decide (key c=(j:Int)))=none:=by
         simp [hka];omega
        rw [this]
        cases (l'.find? fun c=>decide (key c=(j:Int))) <;> rfl
       have e3:((l'++[a]).find? fun c=>decide (key c=(k:Int)))=some a:=by
        rw [List.find?_append]
        have:(l'.find? fun c=>decide (key c=(k:Int)))=none:=List.find?_eq_none.2 fun c hc=>by
         have:=hlt c hc
         simp;omega
        rw [this]
        simp [hka]
       rw [e2,e1,e3];rfl
     . have h1:∀ c∈l'++[a],∃ j:Nat,key c=(j:Int)/\j<m:=fun c hc=>by
        obtain ⟨j,hj,_⟩:=hk c hc
        rcases List.mem_append.1 hc with hc | hc
        . exact ⟨j,hj,by have:=hlt c hc;omega⟩
        . have:c=a:=by simpa using hc
          subst this
          exact ⟨j,hj,by omega⟩
       have e1:=ih (l'++[a]) (by rw [List.pairwise_append];exact ⟨hs1,by simp,hs3⟩) h1
       have e3:((l'++[a]).find? fun c=>decide (key c=(m:Int)))=none:=List.find?_eq_none.2 fun c hc=>by
        obtain ⟨j,hj,hjm⟩:=h1 c hc
        simp;omega
       rw [e1,e3];simp
section
variable {κ:Type} {hold:κ->List Int->Bool} {ks:List κ}
theorem find_toList (l:List Cv) (k:Nat):(l.find? fun c=>decide (c.1=(k:Int))).toList=optC k (findC l k):=by
 unfold findC
 cases h:l.find? (fun c=>decide (c.1=(k:Int))) with
 | none=>rfl
 | some c =>
   have e:c.1=k:=by simpa using List.find?_some h
   show [c]=[((k:Int),c.2)]
   rw [<- e]
theorem VCs.key {l:List Cv} (h:VCs hold ks l):∀ c∈l,∃ k:Nat,c.1=k/\k<ks.length:=fun c hc=>by
 obtain ⟨k,d,h1,h2,_⟩:=h.ok c hc
 exact ⟨k,h1,(List.getElem?_eq_some_iff.1 h2).1⟩
theorem VCs.again {l:List Cv} (h:VCs hold ks l):((List.range ks.length).flatMap fun k:Nat=>optC k (findC l k))=l:=by
 have:=rebuild (fun c:Cv=>c.1) ks.length l h.sorted h.key
 rw [<- flat_congr (fun k _=>find_toList l k)]
 exact this
theorem VCs.at_ {l:List Cv} (h:VCs hold ks l) {k:Nat} {v:List Int} (hf:findC l k=some v):∃ d,ks[k]?=some d/\hold d v=true:=by
 obtain ⟨j,d,h1,h2,h3⟩:=h.ok _ (findC_some hf)
 have e:k=j:=Int.ofNat_inj.1 h1
 subst e
 exact ⟨d,h2,h3⟩
structure Len (hold:κ->List Int->Bool):Prop where
 len:∀ d x y,hold d x=true->hold d y=true->x.length=y.length
theorem VCs.len {hl:Len hold} {o y:List Cv} (ho:VCs hold ks o) (hy:VCs hold ks y) {k:Nat} {u v:List Int} (h1:findC o k=some u) (h2:findC y k=some v):u.length=v.length:=by
 obtain ⟨d,e1,e2⟩:=ho.at_ h1
 obtain ⟨d',e3,e4⟩:=hy.at_ h2
 rw [e1] at e3
 injection e3 with e3
 subst e3
 exact hl.len _ _ _ e2 e4
theorem VW.find {w:Wv κ} (h:VW hold w) {n:Nat} {it:Iv} (hf:findI w.its n=some it):it.1.1=n/\w.gens[n]?=some it.1.2/\it.1.2≠1073741824/\VCs hold w.ks it.2:=by
 obtain ⟨hm,hn⟩:=findI_some hf
 obtain ⟨⟨m,h1,h2⟩,h3,h4⟩:=h.ok it hm
 have e:m=n:=by omega
 subst e
 exact ⟨hn,h2,h3,h4⟩
theorem VW.key {w:Wv κ} (h:VW hold w):∀ c∈w.its,∃ k:Nat,c.1.1=k/\k<w.gens.length:=fun c hc=>by
 obtain ⟨⟨m,h1,h2⟩,_⟩:=h.ok c hc
 exact ⟨m,h1,(List.getElem?_eq_some_iff.1 h2).1⟩
theorem VW.fv {w:Wv κ} (h:VW hold w) (n:Nat):∀ it,findI w.its n=some it->VCs hold w.ks it.2:=fun _it hf=>(h.find hf).2.2.2
structure Newer (w a:Wv κ):Prop where
 ks:a.ks=w.ks
 len:w.gens.length<=a.gens.length
 gens:∀ n:Nat,findI a.its n=none->w.gens.getD n 0<=a.gens.getD n 0
end
end Go.Proofs.Ytnidcmhfbkdioaa
