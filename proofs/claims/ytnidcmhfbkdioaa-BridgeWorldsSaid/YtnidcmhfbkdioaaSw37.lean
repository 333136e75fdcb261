/-
  Lemmas for the walk, merged (Bf Bg Bh Ed). No condition but those in each statement.
-/
import Derived.Maps.Own
import Derived.Maps.Views
import Derived.StillTailTactics
import Derived.Test.YtnidcmhfbkdioaaSw36
import Derived.Test.YtnidcmhfbkdioaaSw12
import Derived.Test.YtnidcmhfbkdioaaSw10
import Derived.Test.YtnidcmhfbkdioaaSw11
namespace Go.Proofs.Ytnidcmhfbkdioaa
open Go.RowKit
open Go.IntKind (i64)
set_option maxRecDepth 100000
def MpI (w:World) (b n:Nat) (f:Int->Option Int):Prop :=
 ∃ D:DataW Unit,w.ownsMap Try.prog 3 (plainElem Try.prog 3) b n D/\∀ (k:Int) (z:DataW Unit),D.atKey (.int i64 k) z=match f k with | some v=>.lit (.int i64 v) | none=>z
theorem MpI.made (w:World):MpI (w.alloc (.map #[] 0)) w.heap.size 0 fun _=>none :=
 ⟨.map [],World.ownsMap_made w Try.prog 3 _,fun _ _=>rfl⟩
theorem MpI.lt {w:World} {b n:Nat} {f:Int->Option Int} (h:MpI w b n f):b<w.heap.size:=by
 obtain ⟨D,h1,_⟩:=h
 exact h1.lt
theorem MpI.kept {w w':World} {b n:Nat} {f:Int->Option Int} (h:MpI w b n f) (hb:w'.heap[b]?=w.heap[b]?):MpI w' b n f:=by
 obtain ⟨D,⟨es,clock,h1,h2⟩,h3⟩:=h
 exact ⟨D,⟨es,clock,hb.trans h1,h2⟩,h3⟩
theorem lit_inj {a b:Int} (h:(DataW.lit (.int i64 a):DataW Unit)=.lit (.int i64 b)):a=b:=by
 injection h with h
 injection h
theorem MpI.look {w:World} {b n:Nat} {f:Int->Option Int} (h:MpI w b n f) {t:TypeId} (ht:Try.prog.underlying t=some (.map 3 3)) {k:Int} (hk:(Lit.int i64 k).wf=true) (wx:World) (hx:wx.heap[b]?=w.heap[b]?) :
 (Instr.lookup t (.map (some b)) (.int i64 k) true).run Try.prog wx=.ok (.tuple #[.int i64 ((f k).getD 0),.bool (f k).isSome]) wx:=by
 obtain ⟨D,⟨es,clock,h1,h2,_,hD⟩,h3⟩:=h
 have hz:(zeroValue 3).run Try.prog wx=.ok (.int i64 0) wx:=by kernel_rfl
 subst hD
 rcases Maps.fit_look true (Maps.int_keyed Try.underlying3) ht hz (hx.trans h1) h2 (Maps.keyOf_int_mk Try.underlying3 hk) with ⟨hrun,_,hat⟩ | ⟨e0,y,_,_,hrun,hRv,hat,_⟩
 . rw [hrun]
   cases hf:f k with
   | none=>rfl
   | some v =>
     have e:=(h3 k (.lit (.int i64 (v+1)))).symm.trans (hat _)
     rw [hf] at e
     have:=lit_inj e
     omega
 . obtain ⟨c,hc,hy,_⟩:=plainElem_int_inv Try.underlying3 hRv
   rw [hrun]
   cases hf:f k with
   | none =>
     have e1:=(h3 k (.lit (.int i64 (c+1)))).symm.trans (hat _)
     rw [hf,hy] at e1
     have:=lit_inj e1
     omega
   | some v =>
     have e1:=(h3 k (.lit (.int i64 0))).symm.trans (hat _)
     rw [hf,hy] at e1
     have e2:=lit_inj e1
     rw [hc,e2]
     rfl
theorem MpI.put {w:World} {b n:Nat} {f:Int->Option Int} (h:MpI w b n f) {t:TypeId} (ht:Try.prog.underlying t=some (.map 3 3)) (hn:n<maxLen) {k v:Int} (hk:(Lit.int i64 k).wf=true) (hv:(Lit.int i64 v).wf=true) :
 ∃ w',(Instr.mapUpdate t (.map (some b)) (.int i64 k) (.int i64 v)).run Try.prog w=.ok () w'/\MpI w' b (n+1) (fun j=>if j=k then some v else f j)/\w.grownBy w' (some b):=by
 obtain ⟨D,h1,h3⟩:=h
 obtain ⟨w',hr,ho,hg⟩:=h1.update (Maps.int_keyed Try.underlying3) ht hn (Maps.keyOf_int_mk Try.underlying3 hk) (plainElem_int Try.underlying3 hv)
 refine ⟨w',hr,⟨_,ho,fun j z=>?_⟩,hg⟩
 have hD:Maps.IsMap D:=by obtain ⟨es,clock,_,_,_,rfl⟩:=h1;exact ⟨_,rfl⟩
 dsimp only
 by_cases hj:j=k
 . subst hj
   rw [if_pos rfl,Maps.atKey_put_same (k:=.int i64 j) hD trivial]
 . rw [if_neg hj,Maps.atKey_put_other (by intro e;injection e with _ e;exact hj e),h3]
structure Bm where
 b:Bo
 g:Nat
 c:Nat
def Bm.cs (x:Bm):List Value:=(x.b.v x.g x.c).toList
def bmCs (l:List Bm):List Value:=l.flatMap Bm.cs
def BmY (w:World) (base:Nat) (x:Bm):Prop:=w.ownsRow base 105 2 (.slice (some ⟨x.g,0,none⟩) 4 x.c) 4 ((crn x.b).map (Value.int .i64))
structure BmI (w:World) (base:Nat) (A:Option Addr) (m c:Nat) (l:List Bm):Prop where
 own:w.ownsRow base 124 13 (.slice A m c) m (bmCs l)
 len:m=l.length
 ok:∀ x∈l,BmY w base x
theorem BmI.keep {w w':World} {base m c:Nat} {A:Option Addr} {l:List Bm} {F:List TypeId} (h:BmI w base A m c l) (hk:Kx 0 F w w') (h1:(124:TypeId) ∉ F) (h2:(105:TypeId) ∉ F):BmI w' base A m c l :=
 ⟨hk.own h.own h1,h.len,fun x hx=>hk.own (h.ok x hx) h2⟩
def enCs (l:List (Int × Int)):List Value:=l.flatMap fun e=>[.int i64 e.1,.int i64 e.2]
structure Ct where
 a:Int
 b:Int
 id:Int
 px:Int
 py:Int
 nx:Int
 ny:Int
 dp:Int
 ps:Int
 sl:Int
def Ct.cs (x:Ct):List Value:=[.int i64 x.a,.int i64 x.b,.int i64 x.id,.int i64 x.px,.int i64 x.py,.int i64 x.nx,.int i64 x.ny,.int i64 x.dp,.int i64 x.ps,.int i64 x.sl]
def ctCs (l:List Ct):List Value:=l.flatMap Ct.cs
theorem ctCs_app (a b:List Ct):ctCs (a++b)=ctCs a++ctCs b:=by simp [ctCs]
theorem ctCs_get (l:List Ct) (k j:Nat) (f:Ct) (h:l[k]?=some f) (hj:j<10):(ctCs l)[k*10+j]?=(Ct.cs f)[j]?:=by
 induction l generalizing k with
 | nil=>simp at h
 | cons a l ih =>
   have e:ctCs (a::l)=Ct.cs a++ctCs l:=by simp [ctCs]
   rw [e]
   cases k with
   | zero =>
     have ea:a=f:=by simpa using h
     subst ea
     rw [List.getElem?_append_left (by simp [Ct.cs];omega)]
     congr 1;omega
   | succ k =>
     rw [List.getElem?_append_right (by simp [Ct.cs];omega)]
     rw [show (k+1)*10+j-(Ct.cs a).length=k*10+j by simp [Ct.cs];omega]
     exact ih k (by simpa using h)
theorem Rd.ct {w:World} {B n:Nat} {A:Option Addr} {l:List Ct} {k:Nat} {f:Ct} (h:Rd w B 10 A n (ctCs l)) (hk:k<n) (hf:l[k]?=some f) :
 ∃ b o,A=some ⟨b,o,none⟩/\b<B/\w.cell? ⟨b,o+k*10,none⟩=some (.int i64 f.a)/\w.cell? ⟨b,o+k*10+1,none⟩=some (.int i64 f.b)/\w.cell? ⟨b,o+k*10+2,none⟩=some (.int i64 f.id)/\w.cell? ⟨b,o+k*10+3,none⟩=some (.int i64 f.px)/\w.cell? ⟨b,o+k*10+4,none⟩=some (.int i64 f.py)/\w.cell? ⟨b,o+k*10+5,none⟩=some (.int i64 f.nx)/\w.cell? ⟨b,o+k*10+6,none⟩=some (.int i64 f.ny)/\w.cell? ⟨b,o+k*10+7,none⟩=some (.int i64 f.dp)/\w.cell? ⟨b,o+k*10+8,none⟩=some (.int i64 f.ps)/\w.cell? ⟨b,o+k*10+9,none⟩=some (.int i64 f.sl):=by
 obtain ⟨b,o,e,hb,hc⟩:=h.2 (by omega)
 exact ⟨b,o,e,hb,hc (k*10) _ ((ctCs_get l k 0 f hf (by omega)).trans rfl),by rw [Nat.add_assoc];exact hc (k*10+1) _ ((ctCs_get l k 1 f hf (by omega)).trans rfl),by rw [Nat.add_assoc];exact hc (k*10+2) _ ((ctCs_get l k 2 f hf (by omega)).trans rfl),by rw [Nat.add_assoc];exact hc (k*10+3) _ ((ctCs_get l k 3 f hf (by omega)).trans rfl),by rw [Nat.add_assoc];exact hc (k*10+4) _ ((ctCs_get l k 4 f hf (by omega)).trans rfl),by rw [Nat.add_assoc];exact hc (k*10+5) _ ((ctCs_get l k 5 f hf (by omega)).trans rfl),by rw [Nat.add_assoc];exact hc (k*10+6) _ ((ctCs_get l k 6 f hf (by omega)).trans rfl),by rw [Nat.add_assoc];exact hc (k*10+7) _ ((ctCs_get l k 7 f hf (by omega)).trans rfl),by rw [Nat.add_assoc];exact hc (k*10+8) _ ((ctCs_get l k 8 f hf (by omega)).trans rfl),by rw [Nat.add_assoc];exact hc (k*10+9) _ ((ctCs_get l k 9 f hf (by omega)).trans rfl)⟩
def bodiesF (m0 m1 m2:Int) (l:List It):List (Bo × (Int × Int)):=l.filterMap fun x=>(bodyF m0 m1 m2 x.cms).map fun b=>(b,(x.e,x.g))
structure Kz (F:List TypeId) (w w':World):Prop where
 kx:Kx 0 F w w'
 mp:∀ (b:Nat) (es:Array MapEntry) (c:Nat),w.heap[b]?=some (.map es c)->w'.heap[b]?=w.heap[b]?
section
variable {w w' w2:World} {F:List TypeId}
theorem Kz.refl:Kz F w w:=⟨Kx.refl,fun _ _ _ _=>rfl⟩
theorem Kz.trans (h:Kz F w w') (k:Kz F w' w2):Kz F w w2:=⟨h.kx.trans k.kx,fun b es c h1=>(k.mp b es c ((h.mp b es c h1).trans h1)).trans (h.mp b es c h1)⟩
theorem Kz.mono {G:List TypeId} (h:Kz F w w') (hF:∀ t,t∈F->t∈G):Kz G w w':=⟨h.kx.mono (Nat.le_refl _) hF,h.mp⟩
theorem lt_of_some {b:Nat} {o:Obj} (h:w.heap[b]?=some o):b<w.heap.size:=(Array.getElem?_eq_some_iff.1 h).1
theorem Kz.of_below (h:Below w.heap.size w w'):Kz F w w':=⟨Kx.of_below h,fun b _ _ h1=>h.block b (lt_of_some h1)⟩
theorem Kz.below (h:Kz F w w') (k:Below w'.heap.size w' w2):Kz F w w2:=h.trans (Kz.of_below k)
theorem Kz.alloc (h:Kz F w w') (o:Obj):Kz F w (w'.alloc o):=h.below ((Below.refl _ _).alloc (Nat.le_refl _) o)
theorem Kz.drew (h:Kz F w w'):Kz F w w'.drew:=⟨h.kx.drew,h.mp⟩
theorem Kz.set (h:Kz F w w') {g:Nat} {t:TypeId} {cs:Array Value} (hg:Bk w' g t cs) (ht:t∈F) (i:Nat) (u:Value):Kz F w (w'.setCell ⟨g,i,none⟩ u) :=
 h.trans ⟨(Kx.refl (B:=0)).set hg (Nat.zero_le _) ht i u,fun b es c h1=>Below.heap_setCell _ _ _ _ (by
  show b≠g
  intro e
  subst e
  rw [show w'.heap[b]?=_ from hg] at h1
  cases h1)⟩
theorem own_map {base size n b:Nat} {e:TypeId} {v:Value} {xs:List Value} (ho:w.ownsRow base e size v n xs) {es:Array MapEntry} {c:Nat} (h1:w.heap[b]?=some (.map es c)):some b≠v.ownBlock:=by
 intro he
 rcases ho.2 with ⟨rfl,_⟩ | ⟨g,cap,cur,rfl,_,h3,_⟩
 . simp [Value.ownBlock] at he
 . have e:b=g:=by simpa [Value.ownBlock] using he
   subst e
   rw [h3] at h1
   cases h1
theorem Kz.grown (h:Kz F w w') {base size n:Nat} {e:TypeId} {v:Value} {xs:List Value} (ho:w'.ownsRow base e size v n xs) (hg:w'.grownBy w2 v.ownBlock) (he:e∈F):Kz F w w2 :=
 h.trans ⟨(Kx.refl (B:=0)).grown ho hg (Nat.zero_le _) he,fun b _ _ h1=>hg.block b (lt_of_some h1) (own_map ho h1)⟩
theorem MpI.keep {b n:Nat} {f:Int->Option Int} (h:MpI w b n f) (hz:Kz F w w'):MpI w' b n f:=by
 obtain ⟨D,⟨es,clock,h1,h2⟩,h3⟩:=h
 exact ⟨D,⟨es,clock,(hz.mp b es clock h1).trans h1,h2⟩,h3⟩
theorem MpI.kx {b n:Nat} {f:Int->Option Int} (h:MpI w b n f) (hg:w.grownBy w' (some b)):Kx 0 F w w':=by
 obtain ⟨D,⟨es,clock,h1,_⟩,_⟩:=h
 refine ⟨hg.size,fun _ h _=>absurd h (by omega),fun g t cs h2 _=>h2.grown hg fun e=>?_⟩
 have e:g=b:=by injection e
 subst e
 rw [show w.heap[g]?=_ from h2] at h1
 cases h1
end
structure ScI (w:World) (base sA:Nat) (A:Option Addr) (n c:Nat) (E:Option Addr) (ec:Nat) (gx gy st:Int) (q:List (Bo × (Int × Int))):Prop where
 s:Bk w sA 115 #[.slice A n c,.slice none 0 0,.slice none 0 0,.int i64 gx,.int i64 gy,.int i64 st]
 bm:∃ l,BmI w base A n c l/\l.map Bm.b=q.map Prod.fst
 en:w.ownsRow base 128 2 (.slice E n ec) n (enCs (q.map Prod.snd))
 len:n=q.length
 lo:base<=sA
theorem ScI.keep {w w':World} {base sA n c ec:Nat} {A E:Option Addr} {gx gy st:Int} {q:List (Bo × (Int × Int))} {F:List TypeId} (h:ScI w base sA A n c E ec gx gy st q) (hk:Kx 0 F w w') (h1:(124:TypeId) ∉ F) (h2:(105:TypeId) ∉ F) (h3:(115:TypeId) ∉ F) (h4:(128:TypeId) ∉ F):ScI w' base sA A n c E ec gx gy st q:=by
 obtain ⟨l,hl,hq⟩:=h.bm
 exact ⟨hk.bk h.s h3,⟨l,hl.keep hk h1 h2,hq⟩,hk.own h.en h4,h.len,h.lo⟩
theorem bmCs_app (a b:List Bm):bmCs (a++b)=bmCs a++bmCs b:=by simp [bmCs]
theorem enCs_app (a b:List (Int × Int)):enCs (a++b)=enCs a++enCs b:=by simp [enCs]
structure ScL (w:World) (base:Nat) (l:List Bm) (q:List (Bo × (Int × Int))) (b:Bo) (e g:Int) (g0 cc n:Nat):Prop where
 len:n=l.length
 ok:∀ x∈l,BmY w base x
 eq:l.map Bm.b=q.map Prod.fst
 n:n=q.length
 new:BmY w base ⟨b,g0,cc⟩
section
variable {P:Program} {ops:Array Oper} {Q:Exit->Act->World->Prop} {md:Region.Mode} {S:World->Prop}
theorem wpAnyH_three {i j k:Nat} {oi oj ok:Oper} {fuel:Nat} {listed:Array Bool} {a:Act} {w:World} (hi:ops[i]?=some oi) (hj:ops[j]?=some oj) (hk:ops[k]?=some ok) (hr:Region.ready md ops listed=[i,j,k]) (hg:Region.wanted oi (yielded ops a.tmps)=true) (hg':Region.wanted oj (yielded ops a.tmps)=true) (hg2:Region.wanted ok (yielded ops a.tmps)=true)
 (h1:oi.wp P a w (fun a' w'=>S w'/\wpAnyH P md ops Q S fuel (listed.setIfInBounds i true) a' w') Q) (h2:oj.wp P a w (fun a' w'=>S w'/\wpAnyH P md ops Q S fuel (listed.setIfInBounds j true) a' w') Q) (h3:ok.wp P a w (fun a' w'=>S w'/\wpAnyH P md ops Q S fuel (listed.setIfInBounds k true) a' w') Q):wpAnyH P md ops Q S (fuel+1) listed a w :=
 wpAnyH_all hr (by simp) fun m hm=>by
  have e:m=i\/m=j\/m=k:=by simpa using hm
  rcases e with rfl | rfl | rfl
  . unfold wpOp
    simp only [hi,hg,if_true]
    exact .inl h1
  . unfold wpOp
    simp only [hj,hg',if_true]
    exact .inl h2
  . unfold wpOp
    simp only [hk,hg2,if_true]
    exact .inl h3
end
theorem sc18_fin {w0 w:World} {base sA n c gB cB gE cE g0 cc:Nat} {A:Option Addr} {gx gy st e g:Int} {q:List (Bo × (Int × Int))} {l:List Bm} {b:Bo}
 (h1:Bk w sA 115 #[.slice A n c,.slice none 0 0,.slice none 0 0,.int i64 gx,.int i64 gy,.int i64 st]) (h2:w.ownsRow base 124 13 (.slice (some ⟨gB,0,none⟩) (n+1) cB) (n+1) (bmCs l++#[.int i64 b.px,.int i64 b.py,.int i64 b.vx,.int i64 b.vy,.int i64 b.ang,.int i64 b.spin,.int i64 b.mass,.int i64 b.inr,.int i64 b.bou,.int i64 b.rub,.slice (some ⟨g0,0,none⟩) 4 cc,.bool b.asl,.int i64 b.calm].toList)) (h3:w.ownsRow base 128 2 (.slice (some ⟨gE,0,none⟩) (n+1) cE) (n+1) (enCs (q.map Prod.snd)++#[.int i64 e,.int i64 g].toList)) (h4:Kz [124,128] w0 w) (h5:Below base w0 w) (hL:ScL w0 base l q b e g g0 cc n) (hlo:base<=sA) :
 ScI (w.setCell ⟨sA,0,none⟩ (.slice (some ⟨gB,0,none⟩) (n+1) cB)) base sA (some ⟨gB,0,none⟩) (n+1) cB (some ⟨gE,0,none⟩) cE gx gy st (q++[(b,(e,g))])/\Kz [124,128,115] w0 (w.setCell ⟨sA,0,none⟩ (.slice (some ⟨gB,0,none⟩) (n+1) cB))/\Below base w0 (w.setCell ⟨sA,0,none⟩ (.slice (some ⟨gB,0,none⟩) (n+1) cB))/\∀ g cs,g≠sA->Bk w0 g 115 cs->Bk (w.setCell ⟨sA,0,none⟩ (.slice (some ⟨gB,0,none⟩) (n+1) cB)) g 115 cs:=by
 have hz:Kz [115] w (w.setCell ⟨sA,0,none⟩ (.slice (some ⟨gB,0,none⟩) (n+1) cB)):=Kz.refl.set h1 (by simp) 0 _
 have hzz:Kz [124,128,115] w0 (w.setCell ⟨sA,0,none⟩ (.slice (some ⟨gB,0,none⟩) (n+1) cB)):=(h4.mono (by simp)).trans (hz.mono (by simp))
 refine ⟨⟨by simpa using h1.set_ 0 (.slice (some ⟨gB,0,none⟩) (n+1) cB),⟨l++[⟨b,g0,cc⟩],⟨?_,by simp [hL.len],?_⟩,by simp [hL.eq]⟩,?_,by simp [hL.n],hlo⟩,hzz,h5.setCell (p:=⟨sA,0,none⟩) hlo _,fun g cs hg hb=>(h4.kx.bk hb (by decide)).far (p:=⟨sA,0,none⟩) hg _⟩
 . have:=hz.kx.own h2 (by decide)
   rw [bmCs_app]
   simpa [bmCs,Bm.cs,Bo.v] using this
 . intro x hx
   have hx:x∈l\/x=⟨b,g0,cc⟩:=by simpa using hx
   have hk:BmY w0 base x:=by
    rcases hx with hx | rfl
    . exact hL.ok x hx
    . exact hL.new
   exact hzz.kx.own hk (by decide)
 . have:=hz.kx.own h3 (by decide)
   rw [List.map_append,enCs_app]
   simpa [enCs] using this
theorem set6_bk {w:World} {g:Nat} {c0 c1 c2 c3 c4 c5:Value} (h:Bk w g 115 #[c0,c1,c2,c3,c4,c5]) (u0 u1 u2 u3 u4 u5:Value) :
 Bk ((((((w.setCell ⟨g,0,none⟩ u0).setCell ⟨g,1,none⟩ u1).setCell ⟨g,2,none⟩ u2).setCell ⟨g,3,none⟩ u3).setCell ⟨g,4,none⟩ u4).setCell ⟨g,5,none⟩ u5) g 115 #[u0,u1,u2,u3,u4,u5]:=by
 simpa using (((((h.set_ 0 u0).set_ 1 u1).set_ 2 u2).set_ 3 u3).set_ 4 u4).set_ 5 u5
structure By where
 px:Int
 py:Int
 vx:Int
 vy:Int
 ang:Int
 spin:Int
 mass:Int
 inr:Int
 bou:Int
 rub:Int
 cA:Option Addr
 cn:Nat
 cc:Nat
 asl:Bool
 calm:Int
def By.cs (b:By):List Value:=[.int i64 b.px,.int i64 b.py,.int i64 b.vx,.int i64 b.vy,.int i64 b.ang,.int i64 b.spin,.int i64 b.mass,.int i64 b.inr,.int i64 b.bou,.int i64 b.rub,.slice b.cA b.cn b.cc,.bool b.asl,.int i64 b.calm]
def byCs (l:List By):List Value:=l.flatMap By.cs
def Bm.by_ (x:Bm):By:=⟨x.b.px,x.b.py,x.b.vx,x.b.vy,x.b.ang,x.b.spin,x.b.mass,x.b.inr,x.b.bou,x.b.rub,some ⟨x.g,0,none⟩,4,x.c,x.b.asl,x.b.calm⟩
theorem byCs_get (l:List By) (k j:Nat) (f:By) (h:l[k]?=some f) (hj:j<13):(byCs l)[k*13+j]?=(By.cs f)[j]?:=by
 induction l generalizing k with
 | nil=>simp at h
 | cons a l ih =>
   have e:byCs (a::l)=By.cs a++byCs l:=by simp [byCs]
   rw [e]
   cases k with
   | zero =>
     have ea:a=f:=by simpa using h
     subst ea
     rw [List.getElem?_append_left (by simp [By.cs];omega)]
     simp
   | succ k =>
     rw [List.getElem?_append_right (by simp [By.cs];omega)]
     have h2:l[k]?=some f:=by simpa using h
     rw [<- ih k h2]
     congr 1
     simp [By.cs];omega
theorem Rd.by_ {w:World} {B n:Nat} {A:Option Addr} {l:List By} {k:Nat} {f:By} (h:Rd w B 13 A n (byCs l)) (hk:k<n) (hf:l[k]?=some f) :
 ∃ b o,A=some ⟨b,o,none⟩/\b<B/\w.cell? ⟨b,o+k*13,none⟩=some (.int i64 f.px)/\w.cell? ⟨b,o+k*13+1,none⟩=some (.int i64 f.py)/\w.cell? ⟨b,o+k*13+2,none⟩=some (.int i64 f.vx)/\w.cell? ⟨b,o+k*13+3,none⟩=some (.int i64 f.vy)/\w.cell? ⟨b,o+k*13+4,none⟩=some (.int i64 f.ang)/\w.cell? ⟨b,o+k*13+5,none⟩=some (.int i64 f.spin)/\w.cell? ⟨b,o+k*13+6,none⟩=some (.int i64 f.mass)/\w.cell? ⟨b,o+k*13+7,none⟩=some (.int i64 f.inr)/\w.cell? ⟨b,o+k*13+8,none⟩=some (.int i64 f.bou)/\w.cell? ⟨b,o+k*13+9,none⟩=some (.int i64 f.rub)/\w.cell? ⟨b,o+k*13+10,none⟩=some (.slice f.cA f.cn f.cc)/\w.cell? ⟨b,o+k*13+11,none⟩=some (.bool f.asl)/\w.cell? ⟨b,o+k*13+12,none⟩=some (.int i64 f.calm):=by
 obtain ⟨b,o,e,hb,hc⟩:=h.2 (by omega)
 have hg:∀ j,j<13->∀ u,(By.cs f)[j]?=some u->w.cell? ⟨b,o+k*13+j,none⟩=some u:=fun j hj u hu=>by
  rw [Nat.add_assoc];exact hc (k*13+j) _ ((byCs_get l k j f hf hj).trans hu)
 exact ⟨b,o,e,hb,hg 0 (by omega) _ rfl,hg 1 (by omega) _ rfl,hg 2 (by omega) _ rfl,hg 3 (by omega) _ rfl,hg 4 (by omega) _ rfl,hg 5 (by omega) _ rfl,hg 6 (by omega) _ rfl,hg 7 (by omega) _ rfl,hg 8 (by omega) _ rfl,hg 9 (by omega) _ rfl,hg 10 (by omega) _ rfl,hg 11 (by omega) _ rfl,hg 12 (by omega) _ rfl⟩
theorem enCs_getW (l:List (Int × Int)) (k:Nat) (f:Int × Int) (h:l[k]?=some f):(enCs l)[k*2]?=some (.int i64 f.1)/\(enCs l)[k*2+1]?=some (.int i64 f.2):=by
 induction l generalizing k with
 | nil=>simp at h
 | cons a l ih =>
   have e:enCs (a::l)=[.int i64 a.1,.int i64 a.2]++enCs l:=by simp [enCs]
   rw [e]
   cases k with
   | zero =>
     have ea:a=f:=by simpa using h
     subst ea
     simp
   | succ k =>
     have h2:l[k]?=some f:=by simpa using h
     obtain ⟨e1,e2⟩:=ih k h2
     constructor
     . rw [List.getElem?_append_right (by simp;omega),<- e1];congr 1;simp;omega
     . rw [List.getElem?_append_right (by simp;omega),<- e2];congr 1;simp;omega
theorem Rd.enW {w:World} {B n:Nat} {A:Option Addr} {l:List (Int × Int)} {k:Nat} {f:Int × Int} (h:Rd w B 2 A n (enCs l)) (hk:k<n) (hf:l[k]?=some f) :
 ∃ b o,A=some ⟨b,o,none⟩/\b<B/\w.cell? ⟨b,o+k*2,none⟩=some (.int i64 f.1)/\w.cell? ⟨b,o+k*2+1,none⟩=some (.int i64 f.2):=by
 obtain ⟨b,o,e,hb,hc⟩:=h.2 (by omega)
 have hg:=enCs_getW l k f hf
 exact ⟨b,o,e,hb,hc (k*2) _ hg.1,by rw [Nat.add_assoc];exact hc (k*2+1) _ hg.2⟩
def calmV (b:By):Int:=2*wiF b.calm 0 1000+if b.asl then 1 else 0
def plF (d:ByteArray × List Fd) (b:By):List Int:=(fitF d.1 d.2 [b.px,b.py,b.ang]).1
def moF (d:ByteArray × List Fd) (b:By):List Int:=(fitF d.1 d.2 [b.vx,b.vy,b.spin,calmV b]).1
def updI (m:Int) (fv:List Int) (x:Iv):Iv:=(x.1,x.2.map (updC m fv))
def bwUp (m0 m1:Int) (d0 d1:ByteArray × List Fd) (b:By) (x:Iv):Iv:=updI m1 (moF d1 b) (updI m0 (plF d0 b) x)
def findP (l:List Iv) (N M:Int):Int:=idxF (fun x:Iv=>decide (x.1.1=N/\x.1.2=M)) l
theorem idxF_map {α β:Type} (f:α->β) (p:β->Bool) (l:List α):idxF p (l.map f)=idxF (fun x=>p (f x)) l:=by
 induction l with
 | nil=>rfl
 | cons a l ih=>simp only [List.map_cons,idxF];rw [ih]
theorem findEnt_p (l:List It) (N M:Int):findEnt l N M=findP (l.map It.p) N M:=by
 unfold findEnt findP
 rw [idxF_map]
 rfl
def bwOne (m0 m1:Int) (d0 d1:ByteArray × List Fd) (l:List Iv) (r:(Int × Int) × By):List Iv :=
 match l[(findP l r.1.1 r.1.2).toNat]? with
 | some x=>l.set (findP l r.1.1 r.1.2).toNat (bwUp m0 m1 d0 d1 r.2 x)
 | none=>l
def bwBad (m0:Int) (l:List Iv) (e:Int × Int):Bool :=
 decide (findP l e.1 e.2<0)||match l[(findP l e.1 e.2).toNat]? with
 | some x=>!(x.2.any fun c=>decide (c.1=m0))
 | none=>true
structure OutS (w:World) (base:Nat) (y:Wd):Prop where
 wd:WdY w 0 y
 sp:ItS w base y.its
theorem OutS.keep {w w':World} {base:Nat} {y:Wd} {F:List TypeId} (h:OutS w base y) (hk:Kx 0 F w w') (h3:(3:TypeId) ∉ F) (h166:(166:TypeId) ∉ F) (h147:(147:TypeId) ∉ F) (h66:(66:TypeId) ∉ F) (h63:(63:TypeId) ∉ F):OutS w' base y :=
 ⟨h.wd.keep hk h3 h166 h147 h66 h63,h.sp.keep hk h166⟩
theorem itCs_set {l:List It} {k:Nat} {x z:It} (h:l[k]?=some x) (hz:z.cs=x.cs):itCs (l.set k z)=itCs l:=by
 induction l generalizing k with
 | nil=>rfl
 | cons a l ih =>
   cases k with
   | zero =>
     have e:a=x:=by simpa using h
     subst e
     simp [itCs,hz]
   | succ k =>
     have h2:l[k]?=some x:=by simpa using h
     have e:=ih h2
     simp only [itCs,List.set_cons_succ,List.flatMap_cons] at e ⊢
     rw [e]
theorem ItS.ne {w:World} {base k j g g':Nat} {l:List It} {x z:It} (h:ItS w base l) (hk:l[k]?=some x) (hj:l[j]?=some z) (hne:j≠k) (hg:x.A=some ⟨g,0,none⟩) (hg':z.A=some ⟨g',0,none⟩):g'≠g:=by
 obtain ⟨hk1,hk2⟩:=List.getElem?_eq_some_iff.1 hk
 obtain ⟨hj1,hj2⟩:=List.getElem?_eq_some_iff.1 hj
 have hp:=List.pairwise_iff_getElem.1 h.apart
 rcases Nat.lt_or_gt_of_ne hne with h1 | h1
 . exact hp j k hj1 hk1 h1 g' g (by rw [hj2];exact hg') (by rw [hk2];exact hg)
 . exact (hp k j hk1 hj1 h1 g g' (by rw [hk2];exact hg) (by rw [hj2];exact hg')).symm
theorem OutS.set_ {w w':World} {base k g:Nat} {m:Int} {fv:List Int} {y:Wd} {x:It} {l':List Cm} (h:OutS w base y) (hx:y.its[k]?=some x) (hA:x.A=some ⟨g,0,none⟩) (hS:SeI w' g m fv x.cms l' x.cms.length) (hq:Fq [g] w w') :
 OutS w' base { y with its:=y.its.set k { x with cms:=l' } }/\(y.its.set k { x with cms:=l' }).map It.p=(y.its.map It.p).set k (updI m fv x.p)/\Kx 0 [166] w w'/\Below base w w':=by
 obtain ⟨hk1,hk2⟩:=List.getElem?_eq_some_iff.1 hx
 have hmem:=List.mem_of_getElem? hx
 obtain ⟨g0,e0,e1,e2,hb⟩:=h.sp.row x hmem
 obtain rfl:g0=g:=by rw [hA] at e0;injection e0 with e0;injection e0 with e0;exact e0.symm
 have hk:Kx 0 [166] w w':=Kx.fqT hq hb (Nat.zero_le _)
 have hoth:∀ j z,y.its[j]?=some z->j≠k->∃ g',z.A=some ⟨g',0,none⟩/\z.c=z.n/\base<=g'/\Bk w' g' 166 (cmCs z.cms).toArray:=fun j z hz hjk=>by
  obtain ⟨g',f1,f2,f3,f4⟩:=h.sp.row z (List.mem_of_getElem? hz)
  have hne:=h.sp.ne hx hz hjk hA f1
  exact ⟨g',f1,f2,f3,(hq.low g' f4.lt (by simpa using hne)).trans f4⟩
 have hval:l'.map Cm.p=x.cms.map fun c=>updC m fv c.p:=by
  have:=hS.val
  simpa using this
 have hrow:∀ z∈y.its.set k { x with cms:=l' },∃ g',z.A=some ⟨g',0,none⟩/\z.c=z.n/\base<=g'/\Bk w' g' 166 (cmCs z.cms).toArray:=fun z hz=>by
  obtain ⟨j,hj⟩:=List.getElem?_of_mem hz
  by_cases hjk:j=k
  . subst hjk
    rw [List.getElem?_set_self hk1] at hj
    injection hj with hj
    subst hj
    exact ⟨g0,hA,e1,e2,hS.bk⟩
  . rw [List.getElem?_set_ne (Ne.symm hjk)] at hj
    exact hoth j z hj hjk
 have hity:∀ z∈y.its.set k { x with cms:=l' },ItY w' 0 z:=fun z hz=>by
  obtain ⟨g',f1,f2,f3,f4⟩:=hrow z hz
  obtain ⟨j,hj⟩:=List.getElem?_of_mem hz
  by_cases hjk:j=k
  . subst hjk
    rw [List.getElem?_set_self hk1] at hj
    injection hj with hj
    subst hj
    have hi:=h.wd.its.ok x hmem
    refine ⟨⟨?_,hi.cs.len.trans hS.len.symm,hi.cs.cap,hi.cs.cap2,hS.cm⟩,hi.wf1,hi.wf2⟩
    show RdY w' 0 166 2 x.A x.n (cmCs l')
    rw [hA]
    exact RdY.of_bk hS.bk (by rw [cmCs_len,hS.len,<- hi.cs.len]) fun j u hu=>by simpa using hu
  . rw [List.getElem?_set_ne (Ne.symm hjk)] at hj
    have hi:=h.wd.its.ok z (List.mem_of_getElem? hj)
    refine ⟨⟨?_,hi.cs.len,hi.cs.cap,hi.cs.cap2,fun c hc=>(hi.cs.ok c hc).keep hk (by decide)⟩,hi.wf1,hi.wf2⟩
    rw [f1]
    exact RdY.of_bk f4 (by rw [cmCs_len,<- hi.cs.len]) fun j u hu=>by simpa using hu
 refine ⟨⟨⟨h.wd.ks.keep hk (by decide) (by decide),h.wd.gs.keep hk (by decide),⟨?_,by rw [List.length_set];exact h.wd.its.len,h.wd.its.cap,h.wd.its.cap2,hity⟩⟩,⟨hrow,?_⟩⟩,?_,hk,hq.below (by simpa using e2) (by have:=hb.lt;omega)⟩
 . show RdY w' 0 147 3 y.iA y.im (itCs (y.its.set k { x with cms:=l' }))
   rw [itCs_set (z:={ x with cms:=l' }) hx rfl]
   exact h.wd.its.rd.keep hk (by decide)
 . have ha:(y.its.set k { x with cms:=l' }).map It.A=y.its.map It.A:=by
    rw [List.map_set]
    exact List.set_getElem_self' (by rw [List.getElem?_map,hx];rfl)
   have hp:(y.its.map It.A).Pairwise fun a b=>∀ g g',a=some ⟨g,0,none⟩->b=some ⟨g',0,none⟩->g≠g':=List.pairwise_map.2 h.sp.apart
   rw [<- ha] at hp
   exact List.pairwise_map.1 hp
 . rw [List.map_set]
   congr 1
   show ((x.e,x.g),l'.map Cm.p)=updI m fv ((x.e,x.g),x.cms.map Cm.p)
   rw [hval]
   unfold updI
   rw [List.map_map]
   rfl
end Go.Proofs.Ytnidcmhfbkdioaa
