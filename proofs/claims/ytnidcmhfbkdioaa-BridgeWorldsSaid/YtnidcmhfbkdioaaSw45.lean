/-
  Lemmas for the walk, merged (Eq Er Gc Gl Gk). No condition but those in each statement.
-/
import Derived.Test.YtnidcmhfbkdioaaSw44
import Derived.Test.YtnidcmhfbkdioaaSw41
import Derived.Test.YtnidcmhfbkdioaaSw10
import Derived.Test.YtnidcmhfbkdioaaSw37
namespace Go.Proofs.Ytnidcmhfbkdioaa
open Go.RowKit
open Go.IntKind (i64)
open Go.Lib (hid)
set_option maxRecDepth 100000
theorem VCs.upd {ks:List Kp2} {l:List Cv} {K:Nat} {d:Kp2} {fv:List Int} (h:VCs holdK ks l) (hd:ks[K]?=some d) (hf:holdK d fv=true):VCs holdK ks (l.map (updC (K:Int) fv)):=by
 have hk:∀ c:Cv,(updC (K:Int) fv c).1=c.1:=fun c=>by
  unfold updC
  by_cases e:c.1=(K:Int)
  . rw [if_pos e];exact e.symm
  . rw [if_neg e]
 refine ⟨List.pairwise_map.2 (h.sorted.imp fun hab=>by rw [hk,hk];exact hab),fun c hc=>?_⟩
 obtain ⟨c0,hc0,rfl⟩:=List.mem_map.1 hc
 obtain ⟨k,d',e1,e2,e3⟩:=h.ok c0 hc0
 by_cases e:c0.1=(K:Int)
 . refine ⟨K,d,by rw [hk,e],hd,?_⟩
   unfold updC
   rw [if_pos e]
   exact hf
 . refine ⟨k,d',by rw [hk,e1],e2,?_⟩
   unfold updC
   rw [if_neg e]
   exact e3
structure RsOf (m0 m1 m2:Int) (l:List Iv) (rs:List ((Int × Int) × By)):Prop where
 of:∀ r∈rs,∃ x∈l,∃ (b:Bo) (A:Option Addr) (n c:Nat),bodyP m0 m1 m2 x.2=some b/\r.1=x.1/\r.2=b.by_ A n c
 has:∀ x∈l,∀ b,bodyP m0 m1 m2 x.2=some b->∃ r∈rs,r.1=x.1
 apart:rs.Pairwise fun a b=>a.1≠b.1
theorem findP_at {l:List Iv} (hs:l.Pairwise fun a b=>a.1.1<b.1.1) {i:Nat} {x:Iv} (hi:l[i]?=some x):findP l x.1.1 x.1.2=i:=by
 have hil:=(List.getElem?_eq_some_iff.1 hi).1
 rw [findP_ents]
 refine idxF_hit (x:=x.1) (by rw [List.getElem?_map,hi];rfl) (by simp) fun j y hj hy=>decide_eq_false fun hh=>?_
 rw [List.getElem?_map] at hy
 obtain ⟨z,hz,rfl⟩:=Option.map_eq_some_iff.1 hy
 have hjl:=(List.getElem?_eq_some_iff.1 hz).1
 have h1:=List.pairwise_iff_getElem.1 hs j i hjl hil hj
 rw [(List.getElem?_eq_some_iff.1 hz).2,(List.getElem?_eq_some_iff.1 hi).2] at h1
 omega
theorem sorted_ents {l l':List Iv} (h:l'.map Prod.fst=l.map Prod.fst) (hs:l.Pairwise fun a b=>a.1.1<b.1.1):l'.Pairwise fun a b=>a.1.1<b.1.1:=by
 have h1:(l.map Prod.fst).Pairwise fun a b:Int × Int=>a.1<b.1:=List.pairwise_map.2 hs
 rw [<- h] at h1
 exact (List.pairwise_map (f:=Prod.fst) (R:=fun a b:Int × Int=>a.1<b.1)).1 h1
def Wr (m0 m1:Int) (d0 d1:ByteArray × List Fd) (l l':List Iv) (done:List ((Int × Int) × By)):Prop :=
 l'.length=l.length/\∀ (i:Nat) (x0:Iv),l[i]?=some x0->∃ x,l'[i]?=some x/\x.1=x0.1/\((x=x0/\∀ r∈done,r.1≠x0.1)\/∃ r∈done,r.1=x0.1/\x=bwUp m0 m1 d0 d1 r.2 x0)
theorem Wr.ents {m0 m1:Int} {d0 d1:ByteArray × List Fd} {l l':List Iv} {done:List ((Int × Int) × By)} (h:Wr m0 m1 d0 d1 l l' done):l'.map Prod.fst=l.map Prod.fst:=by
 apply List.ext_getElem?
 intro i
 rw [List.getElem?_map,List.getElem?_map]
 cases hi:l[i]? with
 | none =>
   have h1:l'[i]?=none:=List.getElem?_eq_none (by rw [h.1];exact List.getElem?_eq_none_iff.1 hi)
   rw [h1]
 | some x0 =>
   obtain ⟨x,h1,h2,_⟩:=h.2 i x0 hi
   rw [h1]
   simp [h2]
theorem Wr.step {m0 m1:Int} {d0 d1:ByteArray × List Fd} {l l':List Iv} {done:List ((Int × Int) × By)} {r:(Int × Int) × By} (h:Wr m0 m1 d0 d1 l l' done) (hs:l.Pairwise fun a b=>a.1.1<b.1.1) {x:Iv} (hx:x∈l) (hr:r.1=x.1) (hn:∀ r'∈done,r'.1≠r.1) :
 Wr m0 m1 d0 d1 l (bwOne m0 m1 d0 d1 l' r) (done++[r]):=by
 obtain ⟨j,hj⟩:=List.getElem?_of_mem hx
 obtain ⟨z,hz,hz1,hz2⟩:=h.2 j x hj
 have hs':=sorted_ents h.ents hs
 have hf:findP l' r.1.1 r.1.2=j:=by
  rw [hr,<- hz1]
  exact findP_at hs' hz
 have hzx:z=x:=by
  rcases hz2 with ⟨h1,_⟩ | ⟨r',h1,h2,_⟩
  . exact h1
  . exact absurd (h2.trans hr.symm) (hn r' h1)
 subst hzx
 have hjl:=(List.getElem?_eq_some_iff.1 hz).1
 have e:bwOne m0 m1 d0 d1 l' r=l'.set j (bwUp m0 m1 d0 d1 r.2 z):=by
  unfold bwOne
  rw [hf]
  simp only [Int.toNat_natCast]
  rw [hz]
 rw [e]
 refine ⟨by rw [List.length_set];exact h.1,fun i x0 hi=>?_⟩
 by_cases hij:i=j
 . subst hij
   rw [hj] at hi
   injection hi with hi
   subst hi
   exact ⟨_,List.getElem?_set_self hjl,rfl,.inr ⟨r,by simp,hr,rfl⟩⟩
 . obtain ⟨y,h1,h2,h3⟩:=h.2 i x0 hi
   refine ⟨y,by rw [List.getElem?_set_ne (Ne.symm hij)];exact h1,h2,?_⟩
   rcases h3 with ⟨h4,h5⟩ | ⟨r',h4,h5,h6⟩
   . refine .inl ⟨h4,fun r' hr'=>?_⟩
     rcases List.mem_append.1 hr' with hr' | hr'
     . exact h5 r' hr'
     . rw [show r'=r by simpa using hr']
       intro hh
       have e1:=findP_at hs hi
       have e2:=findP_at hs hj
       rw [<- hh,hr] at e1
       rw [e1] at e2
       omega
   . exact .inr ⟨r',List.mem_append_left _ h4,h5,h6⟩
theorem Wr.all {m0 m1 m2:Int} {d0 d1:ByteArray × List Fd} {l:List Iv} (hs:l.Pairwise fun a b=>a.1.1<b.1.1):∀ (rs done:List ((Int × Int) × By)) (l':List Iv),Wr m0 m1 d0 d1 l l' done->RsOf m0 m1 m2 l (done++rs)->Wr m0 m1 d0 d1 l (bwF m0 m1 d0 d1 l' rs) (done++rs)
 | [],done,l',h,_=>by rw [List.append_nil];exact h
 | r::rs,done,l',h,hR=>by
   obtain ⟨x,hx,b,A,n,c,_,h2,_⟩:=hR.of r (by simp)
   have hn:∀ r'∈done,r'.1≠r.1:=fun r' hr'=>(List.pairwise_append.1 hR.apart).2.2 r' hr' r (by simp)
   have h1:=Wr.all hs rs (done++[r]) _ (h.step hs hx h2 hn) (by simpa using hR)
   simpa [bwF] using h1
theorem Wr.start {m0 m1:Int} {d0 d1:ByteArray × List Fd} {l:List Iv}:Wr m0 m1 d0 d1 l l []:=⟨rfl,fun i x0 h=>⟨x0,h,rfl,.inl ⟨rfl,fun r hr=>by cases hr⟩⟩⟩
def mvOne (m0 m1:Int) (d0 d1:ByteArray × List Fd) (l:List Iv) (r:(Int × Int) × By):List Iv:=l.map fun x=>if x.1=r.1 then bwUp m0 m1 d0 d1 r.2 x else x
def mvF (m0 m1:Int) (d0 d1:ByteArray × List Fd) (l:List Iv) (rs:List ((Int × Int) × By)):List Iv:=rs.foldl (mvOne m0 m1 d0 d1) l
theorem idxF_spec {α:Type} {p:α->Bool} {l:List α} (h:¬ idxF p l<0):∃ (k:Nat) (x:α),idxF p l=k/\l[k]?=some x/\p x=true:=by
 induction l with
 | nil=>exact absurd (show idxF p []<0 by unfold idxF;omega) h
 | cons a l ih =>
   by_cases hp:p a=true
   . exact ⟨0,a,by unfold idxF;rw [if_pos hp];rfl,rfl,hp⟩
   . have h1:¬ idxF p l<0:=fun h2=>h (by unfold idxF;rw [if_neg hp,if_pos h2];omega)
     obtain ⟨k,x,e1,e2,e3⟩:=ih h1
     exact ⟨k+1,x,by unfold idxF;rw [if_neg hp,if_neg h1,e1];omega,by simpa using e2,e3⟩
theorem bwBad_find {m0:Int} {l:List Iv} {e:Int × Int} (h:bwBad m0 l e=false):∃ (k:Nat) (x:Iv),findP l e.1 e.2=k/\l[k]?=some x/\x.1=e:=by
 unfold bwBad at h
 rw [Bool.or_eq_false_iff] at h
 obtain ⟨k,x,e1,e2,e3⟩:=idxF_spec (of_decide_eq_false h.1)
 have e4:=of_decide_eq_true e3
 exact ⟨k,x,e1,e2,Prod.ext e4.1 e4.2⟩
theorem mv_one {m0 m1:Int} {d0 d1:ByteArray × List Fd} {l:List Iv} {r:(Int × Int) × By} (hs:l.Pairwise fun a b=>a.1.1<b.1.1) (h:bwBad m0 l r.1=false):mvOne m0 m1 d0 d1 l r=bwOne m0 m1 d0 d1 l r:=by
 obtain ⟨k,x,e1,e2,e3⟩:=bwBad_find h
 unfold mvOne bwOne
 rw [e1,Int.toNat_natCast,e2]
 dsimp only
 apply List.ext_getElem?
 intro i
 rw [List.getElem?_map,List.getElem?_set]
 by_cases hik:k=i
 . subst hik
   rw [if_pos rfl,if_pos (List.getElem?_eq_some_iff.1 e2).1,e2]
   simp only [Option.map_some]
   rw [if_pos e3]
 . rw [if_neg hik]
   cases hy:l[i]? with
   | none=>rfl
   | some y =>
     simp only [Option.map_some]
     rw [if_neg fun hye=>hik ?_]
     have h1:=findP_at hs hy
     rw [hye,e1] at h1
     omega
theorem mv_all {m0 m1:Int} {d0 d1:ByteArray × List Fd}:∀ (rs:List ((Int × Int) × By)) (l:List Iv),(l.Pairwise fun a b=>a.1.1<b.1.1)->(∀ (i:Nat) (r:(Int × Int) × By),rs[i]?=some r->bwBad m0 (bwF m0 m1 d0 d1 l (rs.take i)) r.1=false)->mvF m0 m1 d0 d1 l rs=bwF m0 m1 d0 d1 l rs:=by
 intro rs
 induction rs with
 | nil=>intro l _ _;rfl
 | cons r rs ih =>
   intro l hs h
   have h0:bwBad m0 l r.1=false:=h 0 r rfl
   show mvF m0 m1 d0 d1 (mvOne m0 m1 d0 d1 l r) rs=bwF m0 m1 d0 d1 (bwOne m0 m1 d0 d1 l r) rs
   rw [mv_one hs h0]
   exact ih _ (sorted_ents (KeepL.one l r).ents hs) fun i r' hr=>h (i+1) r' (by simpa using hr)
theorem KeepC.kinds {m0 m1:Int} {x y:Iv} (h:KeepC m0 m1 x y):y.2.map Prod.fst=x.2.map Prod.fst:=by
 apply List.ext_getElem?
 intro j
 rw [List.getElem?_map,List.getElem?_map]
 by_cases hj:j<x.2.length
 . have hj':j<y.2.length:=by rw [h.2.1];exact hj
   rw [List.getElem?_eq_getElem hj,List.getElem?_eq_getElem hj']
   simp only [Option.map_some]
   rw [(h.2.2 j _ _ (List.getElem?_eq_getElem hj) (List.getElem?_eq_getElem hj')).1]
 . rw [List.getElem?_eq_none (show y.2.length<=j by rw [h.2.1];omega),List.getElem?_eq_none (show x.2.length<=j by omega)]
theorem any_fst (l:List Cv) (m:Int):(l.any fun c=>decide (c.1=m))=(l.map Prod.fst).any fun k=>decide (k=m):=by
 rw [List.any_map];rfl
theorem bad_keep {m0 m1:Int} {l l':List Iv} (h:KeepL m0 m1 l l') (e:Int × Int):bwBad m0 l' e=bwBad m0 l e:=by
 have hf:findP l' e.1 e.2=findP l e.1 e.2:=by rw [findP_ents,findP_ents,h.ents]
 unfold bwBad
 rw [hf]
 congr 1
 by_cases hi:(findP l e.1 e.2).toNat<l.length
 . have hi':(findP l e.1 e.2).toNat<l'.length:=by rw [h.1];exact hi
   have hk:=h.2 _ _ _ (List.getElem?_eq_getElem hi) (List.getElem?_eq_getElem hi')
   rw [List.getElem?_eq_getElem hi,List.getElem?_eq_getElem hi']
   dsimp only
   rw [any_fst,any_fst,hk.kinds]
 . rw [List.getElem?_eq_none (show l'.length<=_ by rw [h.1];omega),List.getElem?_eq_none (show l.length<=_ by omega)]
def lwB2 (cv mv:Int) (en bn:Nat):Int:=if cv≠0 then cv else if mv≠0 then mv else if en≠bn then 1 else 0
def lwE (b m0:Int) (l:List Iv) (es:List (Int × Int)):Int:=if b≠0 then b else if es.any (bwBad m0 l)=true then 4 else 0
def lwC (b:Int) (el:List (Int × Int)) (cs:List Ct):Int:=if b≠0 then b else if cs.any (fun c=>!conOk el c)=true then 1 else 0
theorem lwE_snoc (b m0:Int) (l:List Iv) (es:List (Int × Int)) (e:Int × Int):lwE b m0 l (es++[e])=if lwE b m0 l es≠0 then lwE b m0 l es else if bwBad m0 l e=true then 4 else 0:=by
 unfold lwE
 by_cases hb:b≠0
 . rw [if_pos hb,if_pos hb,if_pos hb]
 . rw [if_neg hb,if_neg hb]
   rw [List.any_append]
   cases h1:es.any (bwBad m0 l) with
   | true=>simp
   | false=>simp
theorem lwC_snoc (b:Int) (el:List (Int × Int)) (cs:List Ct) (c:Ct):lwC b el (cs++[c])=if lwC b el cs≠0 then lwC b el cs else if conOk el c=false then 1 else 0:=by
 unfold lwC
 by_cases hb:b≠0
 . rw [if_pos hb,if_pos hb,if_pos hb]
 . rw [if_neg hb,if_neg hb]
   rw [List.any_append]
   cases h1:cs.any (fun c=>!conOk el c) with
   | true=>simp
   | false=>simp
def nilW:Wd:=⟨none,0,0,[],none,0,0,[],none,0,0,[]⟩
def BwS (w w':World) (E:Int) (cv mv:Int) (en bn:Nat) (m0 m1:Int) (d0 d1:ByteArray × List Fd) (p:Wv Kp2) (rs:List ((Int × Int) × By)) (el:List (Int × Int)) (cl:List Ct) (G:Wd) (QA:Option Addr) (qn qc:Nat):Prop :=
 let b:=lwC (lwE (lwB2 cv mv en bn) m0 p.its el) el cl
 E=b/\(b≠0->G.kn=0/\qn=0) /\
 (b=0->cv=0/\mv=0/\en=bn/\qn=cl.length/\WdY w' 0 G/\G.p={ p with its:=bwF m0 m1 d0 d1 p.its rs }/\w'.ownsRow w.heap.size 131 10 (.slice QA qn qc) qn (ctCs (cl.map (conN el))) /\
  (∀ i r,rs[i]?=some r->bwBad m0 (bwF m0 m1 d0 d1 p.its (rs.take i)) r.1=false)/\∀ c∈cl,conOk el c=true)
theorem BwP.says {w w':World} {cv mv m0 m1:Int} {en bn:Nat} {d0 d1:ByteArray × List Fd} {p:Wv Kp2} {bl:List By} {el:List (Int × Int)} {cl:List Ct} {e:Ending} (h:BwP w cv mv en bn m0 m1 d0 d1 p (el.zip bl) el cl e w') (hel:en=el.length) (hbl:bn=bl.length) :
 Below w.heap.size w w'/\∃ (G:Wd) (QA:Option Addr) (qn qc:Nat) (E:Int),e=.returned (.tuple #[G.v,.slice QA qn qc,.int i64 E])/\Hid (BwS w w' E cv mv en bn m0 m1 d0 d1 p (el.zip bl) el cl G QA qn qc):=by
 obtain ⟨hb,hr⟩:=h
 refine ⟨hb,?_⟩
 have hany:en=bn->(∀ i r,(el.zip bl)[i]?=some r->bwBad m0 (bwF m0 m1 d0 d1 p.its ((el.zip bl).take i)) r.1=false)->el.any (bwBad m0 p.its)=false:=fun hn hg=>by
  rw [List.any_eq_false]
  intro a ha
  obtain ⟨i,hi⟩:=List.getElem?_of_mem ha
  have hil:=(List.getElem?_eq_some_iff.1 hi).1
  have hz:(el.zip bl)[i]?=some (a,bl[i]'(by omega)):=by rw [List.getElem?_zip_eq_some];exact ⟨hi,List.getElem?_eq_getElem _⟩
  have h1:=hg i _ hz
  rw [bad_keep (KeepL.bwF _ _)] at h1
  simp [h1]
 rcases hr with ⟨hc,rfl⟩ | ⟨hc,hm,rfl⟩ | ⟨hc,hm,hn,rfl⟩ | ⟨hc,hm,hn,⟨i,r,hr1,hr2⟩,rfl⟩ | ⟨hc,hm,hn,hg,⟨c,hcm,hco⟩,rfl⟩ | ⟨hc,hm,hn,hg,hok,y,QA,qn,qc,rfl,hq,hY⟩
 . have hB:lwC (lwE (lwB2 cv mv en bn) m0 p.its el) el cl=cv:=by simp [lwC,lwE,lwB2,hc]
   exact ⟨nilW,none,0,0,cv,rfl,hid ⟨hB.symm,fun _=>⟨rfl,rfl⟩,fun h0=>absurd (hB.symm.trans h0) hc⟩⟩
 . have hB:lwC (lwE (lwB2 cv mv en bn) m0 p.its el) el cl=mv:=by simp [lwC,lwE,lwB2,hc,hm]
   exact ⟨nilW,none,0,0,mv,rfl,hid ⟨hB.symm,fun _=>⟨rfl,rfl⟩,fun h0=>absurd (hB.symm.trans h0) hm⟩⟩
 . have hB:lwC (lwE (lwB2 cv mv en bn) m0 p.its el) el cl=1:=by simp [lwC,lwE,lwB2,hc,hm,hn]
   exact ⟨nilW,none,0,0,1,rfl,hid ⟨hB.symm,fun _=>⟨rfl,rfl⟩,fun h0=>absurd (hB.symm.trans h0) (by decide)⟩⟩
 . have ha:el.any (bwBad m0 p.its)=true:=by
    rw [List.any_eq_true]
    rw [bad_keep (KeepL.bwF _ _)] at hr2
    rw [List.getElem?_zip_eq_some] at hr1
    exact ⟨r.1,List.mem_of_getElem? hr1.1,hr2⟩
   have hB:lwC (lwE (lwB2 cv mv en bn) m0 p.its el) el cl=4:=by simp only [lwC,lwE,lwB2,hc,hm,hn,ha];simp
   exact ⟨nilW,none,0,0,4,rfl,hid ⟨hB.symm,fun _=>⟨rfl,rfl⟩,fun h0=>absurd (hB.symm.trans h0) (by decide)⟩⟩
 . have ha:=hany hn hg
   have hd:cl.any (fun c=>!conOk el c)=true:=List.any_eq_true.2 ⟨c,hcm,by simp [hco]⟩
   have hB:lwC (lwE (lwB2 cv mv en bn) m0 p.its el) el cl=1:=by simp only [lwC,lwE,lwB2,hc,hm,hn,ha,hd];simp
   exact ⟨nilW,none,0,0,1,rfl,hid ⟨hB.symm,fun _=>⟨rfl,rfl⟩,fun h0=>absurd (hB.symm.trans h0) (by decide)⟩⟩
 . have ha:=hany hn hg
   have hd:cl.any (fun c=>!conOk el c)=false:=List.any_eq_false.2 fun c hcm=>by simp [hok c hcm]
   have hB:lwC (lwE (lwB2 cv mv en bn) m0 p.its el) el cl=0:=by simp only [lwC,lwE,lwB2,hc,hm,hn,ha,hd];simp
   exact ⟨y,QA,qn,qc,0,rfl,hid ⟨hB.symm,fun h0=>absurd hB h0,fun _=>⟨hc,hm,hn,hq,hY.out.1,hY.out.2.1,hY.out.2.2,hg,hok⟩⟩⟩
theorem clo69_any (xe:Int) (xg:Int) (xA:Option Addr) (xn:Nat) (xc:Nat) (gb:Nat) (N M:Int) (w:World) (hb:w.cell? ⟨gb,0,none⟩=some (.int i64 N)/\w.cell? ⟨gb,1,none⟩=some (.int i64 M)) (hgb:gb<w.heap.size) :
 Calls Try.prog 69 #[.agg #[.int i64 xe,.int i64 xg,.slice xA xn xc],.pointer (some ⟨gb,0,none⟩)] w fun e w'=>e=.returned (.bool (decide (xe=N/\xg=M)))/\Below w.heap.size w w':=by
 have hb1:(w.alloc (.cells #[.int i64 xe,.int i64 xg,.slice xA xn xc] 147)).cell? ⟨gb,0,none⟩=some (.int i64 N):=(((Below.refl w.heap.size w).alloc (Nat.le_refl _) _).cell (p:=⟨gb,0,none⟩) hgb).trans hb.1
 have hb2:(w.alloc (.cells #[.int i64 xe,.int i64 xg,.slice xA xn xc] 147)).cell? ⟨gb,1,none⟩=some (.int i64 M):=(((Below.refl w.heap.size w).alloc (Nat.le_refl _) _).cell (p:=⟨gb,1,none⟩) hgb).trans hb.2
 have HB:=hid ((Below.refl w.heap.size w).alloc (Nat.le_refl _) (.cells #[.int i64 xe,.int i64 xg,.slice xA xn xc] 147))
 have he:=eq128 xe xg N M
 obtain ⟨d,hd⟩:∃ d,d=decide (xe=N/\xg=M):=⟨_,rfl⟩
 rw [<- hd]
 rw [<- hd] at he
 clear hb hd
 go_enter Try.func69,Try.ntmps69
 go_wp2_with fail
 go_ret
 exact ⟨rfl,HB.out⟩
set_option maxHeartbeats 1600000 in
theorem idxEntL_any {w:World} {B n c:Nat} {A:Option Addr} {l:List It} (gb:Nat) (N M:Int) (h:IsOk w B A n c l) (hb:w.cell? ⟨gb,0,none⟩=some (.int i64 N)/\w.cell? ⟨gb,1,none⟩=some (.int i64 M)) (hgb:gb<w.heap.size) :
 Calls Try.prog 68 #[.slice A n c,.func (.func 69) #[] #[.pointer (some ⟨gb,0,none⟩)]] w fun e w'=>e=.returned (.int i64 (idxF (fun x:It=>decide (x.e=N/\x.g=M)) l))/\Below w.heap.size w w':=by
 obtain ⟨R,hR⟩:∃ R,R=idxF (fun x:It=>decide (x.e=N/\x.g=M)) l:=⟨_,rfl⟩
 rw [<- hR]
 have HR:=hid hR
 have HK:=hid h
 have HB:=hid hb
 have hB:=h.lo
 have hcap:=h.cap
 have hcap2:=h.cap2
 clear h hR hb
 go_enter Try.func68,Try.ntmps68
 go_wp2_with fail
 go_loopw [8] (fun i wr=>∃ k:Nat,k<=n/\i=.int i64 k/\Hid (∀ j x,j<k->l[j]?=some x->¬ (x.e=N/\x.g=M))/\Hid (Below w.heap.size w wr)) (fun i _=>n-(intOf i).toNat)
 case atStart=>exact ⟨0,Nat.zero_le _,rfl,hid (fun j x hj=>by omega),hid (Below.refl _ _)⟩
 case round =>
  obtain ⟨k,hk,rfl,HT,HW⟩:=hrel
  by_cases hlt:k<n
  . obtain ⟨x,hx⟩:∃ x,l[k]?=some x:=⟨_,List.getElem?_eq_getElem (by have:=HK.out.len;omega)⟩
    obtain ⟨b,o,rfl,hbb,q0,q1,q2⟩:=(HK.out.below (HW.out.mono hB)).rd.it hlt hx
    have hcl:=clo69_any x.e x.g x.A x.n x.c gb N M wr ⟨(HW.out.cell (p:=⟨gb,0,none⟩) hgb).trans HB.out.1,(HW.out.cell (p:=⟨gb,1,none⟩) hgb).trans HB.out.2⟩ (by have:=HW.out.size;omega)
    obtain ⟨d,hd⟩:∃ d,d=decide (x.e=N/\x.g=M):=⟨_,rfl⟩
    rw [<- hd] at hcl
    have HCL:=hid hcl
    have HX:=hid hx
    have HD:=hid hd
    have hkn:(k:Int)<n:=by omega
    have hk0:(0:Int)<=k:=by omega
    clear hx hcl hd
    generalize hx_e:x.e=xe at *
    generalize hx_g:x.g=xg at *
    generalize hx_A:x.A=xA at *
    generalize hx_n:x.n=xn at *
    generalize hx_c:x.c=xc at *
    have HKE:=hid (And.intro hx_e hx_g)
    clear hx_e hx_g hx_A hx_n hx_c
    go_wp2_with fail
    (with_reducible refine HCL.out.mono ?_)
    rintro e w3 ⟨rfl,hb3⟩
    have HB3:=hid (HW.out.trans (hb3.mono HW.out.size))
    clear hb3
    cases d
    . go_wp2_with fail
      go_roundw
      case measure=>simp [intOf];omega
      case rel=>exact ⟨k+1,by omega,by go_num,hid (fun j y hj hy=>by
       rcases Nat.lt_or_ge j k with h | h
       . exact HT.out j y h hy
       . obtain rfl:j=k:=by omega
         rw [HX.out] at hy
         injection hy with hy
         rw [<- hy,HKE.out.1,HKE.out.2];exact of_decide_eq_false HD.out.symm),HB3⟩
    . go_wp2_with fail
      go_ret
      rw [HR.out,idxF_hit HX.out (by rw [HKE.out.1,HKE.out.2];exact HD.out.symm) fun j y hj hy=>decide_eq_false (HT.out j y hj hy)]
      exact ⟨rfl,HB3.out⟩
  . obtain rfl:n=k:=by omega
    go_wp2_with fail
    go_ret
    rw [HR.out,idxF_none fun j y hy=>decide_eq_false (HT.out j y (by have:=(List.getElem?_eq_some_iff.1 hy).1;have:=HK.out.len;omega) hy)]
    exact ⟨rfl,HW.out⟩
set_option maxHeartbeats 800000 in
theorem cloneBys_any (A:Option Addr) (n c B:Nat) (xs:List Value) (w:World) (hr:Rd w B 13 A n xs) (h1:∀ u∈xs,u.oneCell'=true) (hB:B<=w.heap.size) (hs:n*120<=140737488355328) :
 Calls Try.prog 65 #[.slice A n c] w (RetS w 124 13 n xs):=by
 obtain ⟨i0,hi0,hz0,hz1,hz2⟩:=info_parts T.info124
 have hn:=fun wx=>Lib.run_eql_slice_nil (P:=Try.prog) wx 112 124 A n c 0 0 Try.underlying112
 cases A with
 | none =>
   obtain rfl:n=0:=by
    rcases Nat.eq_zero_or_pos n with h | h
    . exact h
    . obtain ⟨_,_,h,_⟩:=hr.2 h;cases h
   obtain rfl:xs=[]:=List.eq_nil_of_length_eq_zero (by simpa using hr.1)
   go_enter Try.func65,Try.ntmps65
   go_wp2_with fail
   go_ret
   exact ⟨none,0,by simp,World.ownsRow_nil _ _ _ _,Below.refl _ _⟩
 | some a =>
   go_enter Try.func65,Try.ntmps65
   go_wp2_with
    (at_builtin
     go_must (refine wpList_append_rd _ rfl (.tmp 5) (.tmp 6) _ rfl w.heap.size 124 i0 (.agg #[.int i64 0,.int i64 0,.int i64 0,.int i64 0,.int i64 0,.int i64 0,.int i64 0,.int i64 0,.int i64 0,.int i64 0,.slice none 0 0,.bool false,.int i64 0]) 13 120 Try.underlying112 hi0 hz0 hz1 hz2 rfl (by decide) (.slice (some ⟨w.heap.size,0,none⟩) 0 0) 0 [] rfl (World.ownsRow_lit w #[] 0 (Nat.le_refl _) (by decide) rfl) B (some a) n c xs rfl (hr.below ((Below.refl B w).alloc hB _)) h1 ?c2 ?c3 ?c4 ?_)
     case c2=>unfold maxLen;omega
     case c3=>omega
     case c4=>simp
     intro A' c' w1 hown1 hg1 hat1)
   go_ret
   simp only [Nat.zero_add,List.nil_append] at hown1
   exact ⟨A',c',by simp,hown1,((Below.refl _ _).alloc (Nat.le_refl _) _).grown hg1 (by simp) (by simp [Value.ownBlock])⟩
end Go.Proofs.Ytnidcmhfbkdioaa
