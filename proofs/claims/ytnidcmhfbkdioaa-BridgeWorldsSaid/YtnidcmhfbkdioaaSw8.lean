/-
  Lemmas for the walk, merged (Ma Mb Md Me). No condition but those in each statement.
-/
import Derived.DeepKeys
import Derived.Test.YtnidcmhfbkdioaaSw6
import Derived.Test.YtnidcmhfbkdioaaSw7
namespace Go.Proofs.Ytnidcmhfbkdioaa
open Go.RowKit
open Go.IntKind (i64)
open Go.Lib (hid)
set_option maxRecDepth 100000
def RdP (w:World) (P:Nat->Prop) (size:Nat) (A:Option Addr) (n:Nat) (xs:List Value):Prop :=
 xs.length=n*size/\(0<n->∃ b o,A=some ⟨b,o,none⟩/\b<w.heap.size/\P b/\∀ j u,xs[j]?=some u->w.cell? ⟨b,o+j,none⟩=some u)
section
variable {w w':World} {P Q:Nat->Prop} {size n:Nat} {A:Option Addr} {xs:List Value}
theorem RdP.rd (h:RdP w P size A n xs):Rd w w.heap.size size A n xs:=⟨h.1,fun hn=>by
 obtain ⟨b,o,h1,h2,_,h4⟩:=h.2 hn
 exact ⟨b,o,h1,h2,h4⟩⟩
theorem RdP.mono (h:RdP w P size A n xs) (hq:∀ b,b<w.heap.size->P b->Q b):RdP w Q size A n xs:=⟨h.1,fun hn=>by
 obtain ⟨b,o,h1,h2,h3,h4⟩:=h.2 hn
 exact ⟨b,o,h1,h2,hq b h2 h3,h4⟩⟩
theorem RdP.keep (h:RdP w P size A n xs) (hs:w.heap.size<=w'.heap.size) (hk:∀ b,b<w.heap.size->P b->w'.heap[b]?=w.heap[b]?):RdP w' P size A n xs:=⟨h.1,fun hn=>by
 obtain ⟨b,o,h1,h2,h3,h4⟩:=h.2 hn
 exact ⟨b,o,h1,by omega,h3,fun j u hu=>(World.cell?_of_block (w:=w) (hk b h2 h3)).trans (h4 j u hu)⟩⟩
theorem RdP.fq {F:List Nat} (h:RdP w P size A n xs) (hq:Fq F w w') (hP:∀ b,P b->b ∉ F):RdP w' P size A n xs :=
 h.keep hq.size fun b h1 h2=>hq.low b h1 (hP b h2)
theorem RdP.below (h:RdP w P size A n xs) (hb:Below w.heap.size w w'):RdP w' P size A n xs:=h.keep hb.size fun b h1 _=>hb.block b h1
theorem RdP.nil_ (A:Option Addr):RdP w P size A 0 []:=⟨by simp,fun h=>absurd h (by omega)⟩
theorem RdP.of_own {base:Nat} {e:TypeId} {c:Nat} (h:w.ownsRow base e size (.slice A n c) n xs):RdP w (base <= ·) size A n xs:=by
 refine ⟨h.1,fun hn=>?_⟩
 obtain ⟨b,o,h1,h2,h4⟩:=(Rd.of_own h).2 hn
 refine ⟨b,o,h1,h2,?_,h4⟩
 have:=h.lt b (by
  rcases h.2 with ⟨hv,_⟩ | ⟨g,cap,cur,hv,_⟩
  . omega
  . injection hv with hA
    subst hA
    injection h1 with h1
    injection h1 with h1
    subst h1;rfl)
 exact this.1
end
structure KdP (w:World) (P:Nat->Prop) (k:Kd):Prop where
 rd:RdP w P 3 k.A k.n (fdCs k.fds)
 len:k.n=k.fds.length
 cap:k.n<=k.c
 cap2:k.c<=9223372036854775807
structure KsP (w:World) (P:Nat->Prop) (A:Option Addr) (n c:Nat) (ks:List Kd):Prop where
 rd:RdP w P 2 A n (kdCs ks)
 len:n=ks.length
 cap:n<=c
 cap2:c<=9223372036854775807
 ok:∀ k∈ks,KdP w P k
structure CmP (w:World) (P:Nat->Prop) (x:Cm):Prop where
 rd:RdP w P 1 x.A x.n (x.vals.map (Value.int .i64))
 len:x.n=x.vals.length
 cap:x.n<=x.c
 cap2:x.c<=9223372036854775807
 wf:(Lit.int i64 x.k).wf=true
structure CsP (w:World) (P:Nat->Prop) (A:Option Addr) (n c:Nat) (l:List Cm):Prop where
 rd:RdP w P 2 A n (cmCs l)
 len:n=l.length
 cap:n<=c
 cap2:c<=9223372036854775807
 ok:∀ x∈l,CmP w P x
structure It where
 e:Int
 g:Int
 A:Option Addr
 n:Nat
 c:Nat
 cms:List Cm
def It.cs (x:It):List Value:=[.int i64 x.e,.int i64 x.g,.slice x.A x.n x.c]
def itCs (l:List It):List Value:=l.flatMap It.cs
def It.p (x:It):Iv:=((x.e,x.g),x.cms.map Cm.p)
structure ItOk (w:World) (B:Nat) (x:It):Prop where
 cs:CsOk w B x.A x.n x.c x.cms
 wf1:(Lit.int i64 x.e).wf=true
 wf2:(Lit.int i64 x.g).wf=true
structure ItP (w:World) (P:Nat->Prop) (x:It):Prop where
 cs:CsP w P x.A x.n x.c x.cms
 wf1:(Lit.int i64 x.e).wf=true
 wf2:(Lit.int i64 x.g).wf=true
structure IsOk (w:World) (B:Nat) (A:Option Addr) (n c:Nat) (l:List It):Prop where
 rd:Rd w B 3 A n (itCs l)
 len:n=l.length
 cap:n<=c
 cap2:c<=9223372036854775807
 ok:∀ x∈l,ItOk w B x
 lo:B<=w.heap.size
structure IsP (w:World) (P:Nat->Prop) (A:Option Addr) (n c:Nat) (l:List It):Prop where
 rd:RdP w P 3 A n (itCs l)
 len:n=l.length
 cap:n<=c
 cap2:c<=9223372036854775807
 ok:∀ x∈l,ItP w P x
structure GsOk (w:World) (B:Nat) (A:Option Addr) (n c:Nat) (l:List Int):Prop where
 rd:Rd w B 1 A n (l.map (Value.int .i64))
 len:n=l.length
 cap:n<=c
 cap2:c<=9223372036854775807
 wf:∀ g∈l,(Lit.int i64 g).wf=true
 lo:B<=w.heap.size
structure GsP (w:World) (P:Nat->Prop) (A:Option Addr) (n c:Nat) (l:List Int):Prop where
 rd:RdP w P 1 A n (l.map (Value.int .i64))
 len:n=l.length
 cap:n<=c
 cap2:c<=9223372036854775807
 wf:∀ g∈l,(Lit.int i64 g).wf=true
structure Wd where
 kA:Option Addr
 kn:Nat
 kc:Nat
 ks:List Kd
 gA:Option Addr
 gn:Nat
 gc:Nat
 gens:List Int
 iA:Option Addr
 im:Nat
 ic:Nat
 its:List It
abbrev Kp2:=ByteArray × List Fd
def Wd.p (w:Wd):Wv Kp2:=⟨w.ks.map Kd.p,w.gens,w.its.map It.p⟩
def Wd.v (x:Wd):Value:=.agg #[.slice x.kA x.kn x.kc,.slice x.gA x.gn x.gc,.slice x.iA x.im x.ic]
structure WdOk (w:World) (B:Nat) (x:Wd):Prop where
 ks:KsOk w B x.kA x.kn x.kc x.ks
 gs:GsOk w B x.gA x.gn x.gc x.gens
 its:IsOk w B x.iA x.im x.ic x.its
structure WdP (w:World) (P:Nat->Prop) (x:Wd):Prop where
 ks:KsP w P x.kA x.kn x.kc x.ks
 gs:GsP w P x.gA x.gn x.gc x.gens
 its:IsP w P x.iA x.im x.ic x.its
section
variable {w w':World} {P Q:Nat->Prop} {n c B B':Nat} {A:Option Addr}
theorem ItOk.below {x:It} (h:ItOk w B x) (hb:Below B w w'):ItOk w' B x:=⟨h.cs.below hb,h.wf1,h.wf2⟩
theorem IsOk.below {l:List It} (h:IsOk w B A n c l) (hb:Below B w w'):IsOk w' B A n c l :=
 ⟨h.rd.below hb,h.len,h.cap,h.cap2,fun x hx=>(h.ok x hx).below hb,Nat.le_trans h.lo hb.size⟩
theorem GsOk.below {l:List Int} (h:GsOk w B A n c l) (hb:Below B w w'):GsOk w' B A n c l:=⟨h.rd.below hb,h.len,h.cap,h.cap2,h.wf,Nat.le_trans h.lo hb.size⟩
theorem WdOk.below {x:Wd} (h:WdOk w B x) (hb:Below B w w'):WdOk w' B x:=⟨h.ks.below hb,h.gs.below hb,h.its.below hb⟩
theorem IsOk.more {l:List It} (h:IsOk w B A n c l) (hB:B<=B') (hB':B'<=w.heap.size):IsOk w B' A n c l :=
 ⟨h.rd.more hB,h.len,h.cap,h.cap2,fun x hx=>⟨(h.ok x hx).cs.more hB hB',(h.ok x hx).wf1,(h.ok x hx).wf2⟩,hB'⟩
theorem GsOk.more {l:List Int} (h:GsOk w B A n c l) (hB:B<=B') (hB':B'<=w.heap.size):GsOk w B' A n c l:=⟨h.rd.more hB,h.len,h.cap,h.cap2,h.wf,hB'⟩
theorem WdOk.more {x:Wd} (h:WdOk w B x) (hB:B<=B') (hB':B'<=w.heap.size):WdOk w B' x:=⟨h.ks.more hB hB',h.gs.more hB hB',h.its.more hB hB'⟩
theorem KdP.mono {k:Kd} (h:KdP w P k) (hq:∀ b,b<w.heap.size->P b->Q b):KdP w Q k:=⟨h.rd.mono hq,h.len,h.cap,h.cap2⟩
theorem KdP.keep {k:Kd} (h:KdP w P k) (hs:w.heap.size<=w'.heap.size) (hk:∀ b,b<w.heap.size->P b->w'.heap[b]?=w.heap[b]?):KdP w' P k:=⟨h.rd.keep hs hk,h.len,h.cap,h.cap2⟩
theorem KsP.mono {l:List Kd} (h:KsP w P A n c l) (hq:∀ b,b<w.heap.size->P b->Q b):KsP w Q A n c l:=⟨h.rd.mono hq,h.len,h.cap,h.cap2,fun x hx=>(h.ok x hx).mono hq⟩
theorem KsP.keep {l:List Kd} (h:KsP w P A n c l) (hs:w.heap.size<=w'.heap.size) (hk:∀ b,b<w.heap.size->P b->w'.heap[b]?=w.heap[b]?):KsP w' P A n c l:=⟨h.rd.keep hs hk,h.len,h.cap,h.cap2,fun x hx=>(h.ok x hx).keep hs hk⟩
theorem CmP.mono {x:Cm} (h:CmP w P x) (hq:∀ b,b<w.heap.size->P b->Q b):CmP w Q x:=⟨h.rd.mono hq,h.len,h.cap,h.cap2,h.wf⟩
theorem CmP.keep {x:Cm} (h:CmP w P x) (hs:w.heap.size<=w'.heap.size) (hk:∀ b,b<w.heap.size->P b->w'.heap[b]?=w.heap[b]?):CmP w' P x:=⟨h.rd.keep hs hk,h.len,h.cap,h.cap2,h.wf⟩
theorem CsP.mono {l:List Cm} (h:CsP w P A n c l) (hq:∀ b,b<w.heap.size->P b->Q b):CsP w Q A n c l:=⟨h.rd.mono hq,h.len,h.cap,h.cap2,fun x hx=>(h.ok x hx).mono hq⟩
theorem CsP.keep {l:List Cm} (h:CsP w P A n c l) (hs:w.heap.size<=w'.heap.size) (hk:∀ b,b<w.heap.size->P b->w'.heap[b]?=w.heap[b]?):CsP w' P A n c l:=⟨h.rd.keep hs hk,h.len,h.cap,h.cap2,fun x hx=>(h.ok x hx).keep hs hk⟩
theorem ItP.mono {x:It} (h:ItP w P x) (hq:∀ b,b<w.heap.size->P b->Q b):ItP w Q x:=⟨h.cs.mono hq,h.wf1,h.wf2⟩
theorem ItP.keep {x:It} (h:ItP w P x) (hs:w.heap.size<=w'.heap.size) (hk:∀ b,b<w.heap.size->P b->w'.heap[b]?=w.heap[b]?):ItP w' P x:=⟨h.cs.keep hs hk,h.wf1,h.wf2⟩
theorem IsP.mono {l:List It} (h:IsP w P A n c l) (hq:∀ b,b<w.heap.size->P b->Q b):IsP w Q A n c l:=⟨h.rd.mono hq,h.len,h.cap,h.cap2,fun x hx=>(h.ok x hx).mono hq⟩
theorem IsP.keep {l:List It} (h:IsP w P A n c l) (hs:w.heap.size<=w'.heap.size) (hk:∀ b,b<w.heap.size->P b->w'.heap[b]?=w.heap[b]?):IsP w' P A n c l:=⟨h.rd.keep hs hk,h.len,h.cap,h.cap2,fun x hx=>(h.ok x hx).keep hs hk⟩
theorem GsP.mono {l:List Int} (h:GsP w P A n c l) (hq:∀ b,b<w.heap.size->P b->Q b):GsP w Q A n c l:=⟨h.rd.mono hq,h.len,h.cap,h.cap2,h.wf⟩
theorem GsP.keep {l:List Int} (h:GsP w P A n c l) (hs:w.heap.size<=w'.heap.size) (hk:∀ b,b<w.heap.size->P b->w'.heap[b]?=w.heap[b]?):GsP w' P A n c l:=⟨h.rd.keep hs hk,h.len,h.cap,h.cap2,h.wf⟩
theorem WdP.mono {x:Wd} (h:WdP w P x) (hq:∀ b,b<w.heap.size->P b->Q b):WdP w Q x:=⟨h.ks.mono hq,h.gs.mono hq,h.its.mono hq⟩
theorem WdP.keep {x:Wd} (h:WdP w P x) (hs:w.heap.size<=w'.heap.size) (hk:∀ b,b<w.heap.size->P b->w'.heap[b]?=w.heap[b]?):WdP w' P x:=⟨h.ks.keep hs hk,h.gs.keep hs hk,h.its.keep hs hk⟩
theorem KsP.ok_ {l:List Kd} (h:KsP w P A n c l):KsOk w w.heap.size A n c l:=⟨h.rd.rd,h.len,h.cap,h.cap2,fun x hx=>⟨(h.ok x hx).rd.rd,(h.ok x hx).len,(h.ok x hx).cap,(h.ok x hx).cap2⟩,Nat.le_refl _⟩
theorem CsP.ok_ {l:List Cm} (h:CsP w P A n c l):CsOk w w.heap.size A n c l:=⟨h.rd.rd,h.len,h.cap,h.cap2,fun x hx=>⟨(h.ok x hx).rd.rd,(h.ok x hx).len,(h.ok x hx).cap,(h.ok x hx).cap2,(h.ok x hx).wf⟩,Nat.le_refl _⟩
theorem IsP.ok_ {l:List It} (h:IsP w P A n c l):IsOk w w.heap.size A n c l:=⟨h.rd.rd,h.len,h.cap,h.cap2,fun x hx=>⟨(h.ok x hx).cs.ok_,(h.ok x hx).wf1,(h.ok x hx).wf2⟩,Nat.le_refl _⟩
theorem GsP.ok_ {l:List Int} (h:GsP w P A n c l):GsOk w w.heap.size A n c l:=⟨h.rd.rd,h.len,h.cap,h.cap2,h.wf,Nat.le_refl _⟩
theorem WdP.ok_ {x:Wd} (h:WdP w P x):WdOk w w.heap.size x:=⟨h.ks.ok_,h.gs.ok_,h.its.ok_⟩
end
theorem itCs_get (l:List It) (k j:Nat) (f:It) (h:l[k]?=some f) (hj:j<3):(itCs l)[k*3+j]?=(It.cs f)[j]?:=by
 induction l generalizing k with
 | nil=>simp at h
 | cons a l ih =>
   have e:itCs (a::l)=It.cs a++itCs l:=by simp [itCs]
   rw [e]
   cases k with
   | zero =>
     have ea:a=f:=by simpa using h
     subst ea
     rw [List.getElem?_append_left (by simp [It.cs];omega)]
     congr 1;omega
   | succ k =>
     rw [List.getElem?_append_right (by simp [It.cs];omega)]
     rw [show (k+1)*3+j-(It.cs a).length=k*3+j by simp [It.cs];omega]
     exact ih k (by simpa using h)
theorem Rd.it {w:World} {B n:Nat} {A:Option Addr} {l:List It} {k:Nat} {f:It} (h:Rd w B 3 A n (itCs l)) (hk:k<n) (hf:l[k]?=some f) :
 ∃ b o,A=some ⟨b,o,none⟩/\b<B/\w.cell? ⟨b,o+k*3,none⟩=some (.int i64 f.e)/\w.cell? ⟨b,o+k*3+1,none⟩=some (.int i64 f.g)/\w.cell? ⟨b,o+k*3+2,none⟩=some (.slice f.A f.n f.c):=by
 obtain ⟨b,o,e,hb,hc⟩:=h.2 (by omega)
 exact ⟨b,o,e,hb,hc (k*3) _ ((itCs_get l k 0 f hf (by omega)).trans rfl),by rw [Nat.add_assoc];exact hc (k*3+1) _ ((itCs_get l k 1 f hf (by omega)).trans rfl),by rw [Nat.add_assoc];exact hc (k*3+2) _ ((itCs_get l k 2 f hf (by omega)).trans rfl)⟩
instance:DecidableEq Fd:=fun a b=>decidable_of_iff (a.nm=b.nm/\a.bits=b.bits/\a.low=b.low) ⟨fun ⟨h1,h2,h3⟩=>by cases a;cases b;simp_all,fun h=>by rw [h];exact ⟨rfl,rfl,rfl⟩⟩
theorem eqi (d:Nat) (a b:Int) (w:World):Sem.run Try.prog (Op.equalIn (d+1) 3 (.int i64 a) (.int i64 b)) w=.ok (a == b) w:=run_equalIn_int w d 3 .i64 .i64 a b Try.underlying3
theorem eqs (d:Nat) (a b:ByteArray) (w:World):Sem.run Try.prog (Op.equalIn (d+1) 9 (.string a) (.string b)) w=.ok (a.toList == b.toList) w:=run_equalIn_string w d 9 a b Try.underlying9
theorem tl_inj {a b:ByteArray} (h:a.toList=b.toList):a=b:=by
 apply Classical.byContradiction
 intro hn
 have:=ba_tl_ne hn
 rw [h] at this
 simp at this
theorem eq128 (a b c d:Int) (w:World):Sem.run Try.prog (Op.equalIn 10000 128 (.agg #[.int i64 a,.int i64 b]) (.agg #[.int i64 c,.int i64 d])) w=.ok (decide (a=c/\b=d)) w:=by
 have h3:=fun a b=>eqi 9998 a b
 have ha:∀ w,Sem.run Try.prog (isAgg 3) w=.ok false w:=fun w=>by simp [isAgg,run_underlying Try.underlying3,go_sem]
 rw [show (9998+1:Nat)=9999 from rfl] at h3
 rw [show (10000:Nat)=9999+1 from rfl]
 unfold Op.equalIn
 simp [run_underlying Try.underlying128,go_sem,ha,h3,part]
 by_cases h1:a=c <;> by_cases h2:b=d <;> simp [h1,h2]
theorem eq66 (f g:Fd) (w:World):Sem.run Try.prog (Op.equalIn 10000 66 (.agg #[.string f.nm,.int i64 f.bits,.int i64 f.low]) (.agg #[.string g.nm,.int i64 g.bits,.int i64 g.low])) w=.ok (decide (f=g)) w:=by
 have h3:=fun a b=>eqi 9998 a b
 have h9:=fun a b=>eqs 9998 a b
 have ha:∀ w,Sem.run Try.prog (isAgg 3) w=.ok false w:=fun w=>by simp [isAgg,run_underlying Try.underlying3,go_sem]
 have hs:∀ w,Sem.run Try.prog (isAgg 9) w=.ok false w:=fun w=>by simp [isAgg,run_underlying Try.underlying9,go_sem]
 rw [show (9998+1:Nat)=9999 from rfl] at h3 h9
 rw [show (10000:Nat)=9999+1 from rfl]
 unfold Op.equalIn
 simp [run_underlying Try.underlying66,go_sem,ha,h3,hs,h9,part]
 obtain ⟨f1,f2,f3⟩:=f
 obtain ⟨g1,g2,g3⟩:=g
 have e:decide ((⟨f1,f2,f3⟩:Fd)=⟨g1,g2,g3⟩)=decide (f1.toList=g1.toList/\f2=g2/\f3=g3):=by
  rw [decide_eq_decide]
  exact ⟨fun e=>by injection e with e1 e2 e3;rw [e1,e2,e3];exact ⟨rfl,rfl,rfl⟩,fun ⟨e1,e2,e3⟩=>by rw [tl_inj e1,e2,e3]⟩
 rw [e]
 by_cases h1:f1.toList=g1.toList <;> by_cases h2:f2=g2 <;> by_cases h3:f3=g3 <;> simp [h1,h2,h3]
set_option maxHeartbeats 1600000 in
theorem ksame_any {w:World} {B B' n n' c c':Nat} {A A':Option Addr} {l l':List Kd} (h:KsOk w B A n c l) (h':KsOk w B' A' n' c' l') :
 Calls Try.prog 114 #[.slice A n c,.slice A' n' c'] w fun e w'=>e=.returned (.bool (decide (l.map Kd.p=l'.map Kd.p)))/\∃ m,w.drewN m=w':=by
 have hcap:=h.cap
 have hcap2:=h.cap2
 have hcap':=h'.cap
 have hcap2':=h'.cap2
 by_cases h0:n=n'
 . subst h0
   have t0:((n:Int) != n)=false:=by simp
   have HK:=hid h
   have HK':=hid h'
   clear h h'
   go_enter Try.func114,Try.ntmps114
   go_wp2_with fail
   go_loopw [14] (fun i wr=>∃ k:Nat,k<=n/\i=.int i64 k/\Hid ((l.map Kd.p).take k=(l'.map Kd.p).take k)/\∃ m,w.drewN m=wr) (fun i _=>n-(intOf i).toNat)
   case atStart=>exact ⟨0,Nat.zero_le _,rfl,hid rfl,0,rfl⟩
   case round =>
    obtain ⟨k,hk,rfl,HT,m,rfl⟩:=hrel
    by_cases hlt:k<n
    . obtain ⟨x,hx⟩:∃ x,l[k]?=some x:=⟨_,List.getElem?_eq_getElem (by have:=HK.out.len;omega)⟩
      obtain ⟨y,hy⟩:∃ y,l'[k]?=some y:=⟨_,List.getElem?_eq_getElem (by have:=HK'.out.len;omega)⟩
      obtain ⟨b,o,rfl,hb,c0,c1⟩:=HK.out.rd.kd hlt hx
      obtain ⟨b',o',rfl,hb',d0,d1⟩:=HK'.out.rd.kd hlt hy
      have hxo:=HK.out.ok x (List.mem_of_getElem? hx)
      have hyo:=HK'.out.ok y (List.mem_of_getElem? hy)
      have HX:Hid ((l.map Kd.p)[k]?=some (x.nm,x.fds)):=hid (by rw [List.getElem?_map,hx];rfl)
      have HY:Hid ((l'.map Kd.p)[k]?=some (y.nm,y.fds)):=hid (by rw [List.getElem?_map,hy];rfl)
      have hkn:(k:Int)<n:=by omega
      have hk0:(0:Int)<=k:=by omega
      obtain ⟨xn,xA,xm,xc,xf⟩:=x
      obtain ⟨yn,yA,ym,yc,yf⟩:=y
      have HXO:=hid hxo
      have HYO:=hid hyo
      have hxcap:=hxo.cap
      have hxcap2:=hxo.cap2
      have hycap:=hyo.cap
      have hycap2:=hyo.cap2
      dsimp only at c0 c1 d0 d1 HX HY hxcap hxcap2 hycap hycap2
      clear hx hy hxo hyo
      by_cases hn:xn=yn
      . subst hn
        have t2:(xn.toList == xn.toList)=true:=by simp
        by_cases hm:xm=ym
        . subst hm
          have t3:((xm:Int) != xm)=false:=by simp
          go_wp2_with fail
          go_quiet (fail)
          go_wp2_with fail
          go_loopw [49] (fun i wr=>∃ (j:Nat),j<=xm/\i=.int i64 j/\Hid (xf.take j=yf.take j)/\∃ m,w.drewN m=wr) (fun i _=>xm-(intOf i).toNat)
          case atStart=>exact ⟨0,Nat.zero_le _,rfl,hid rfl,_,rfl⟩
          case round =>
           obtain ⟨j,hj,rfl,HU,m2,rfl⟩:=hrel
           by_cases hjl:j<xm
           . obtain ⟨f,hf⟩:∃ f,xf[j]?=some f:=⟨_,List.getElem?_eq_getElem (by have:=HXO.out.len;dsimp only at this;omega)⟩
             obtain ⟨g,hg⟩:∃ g,yf[j]?=some g:=⟨_,List.getElem?_eq_getElem (by have:=HYO.out.len;dsimp only at this;omega)⟩
             have hr1:=HXO.out.rd
             have hr2:=HYO.out.rd
             dsimp only at hr1 hr2
             obtain ⟨fb,fo,rfl,_,e0,e1,e2⟩:=hr1.fd hjl hf
             obtain ⟨gb,go,rfl,_,g0,g1,g2⟩:=hr2.fd hjl hg
             have hjn:(j:Int)<xm:=by omega
             have hj0:(0:Int)<=j:=by omega
             have E:=eq66 f g
             obtain ⟨d,hd⟩:∃ d,d=decide (f=g):=⟨_,rfl⟩
             rw [<- hd] at E
             have HF:=hid hf
             have HG:=hid hg
             have HD:=hid hd
             clear hf hg hd hr1 hr2
             generalize f.nm=f1 at *
             generalize f.bits=f2 at *
             generalize f.low=f3 at *
             generalize g.nm=g1' at *
             generalize g.bits=g2' at *
             generalize g.low=g3 at *
             go_wp2_with fail
             go_quiet (fail)
             cases d
             . go_wp2_with fail
               go_ret
               have hne:xf≠yf:=ne_of_at HF.out HG.out (of_decide_eq_false HD.out.symm)
               have hne2:l.map Kd.p≠l'.map Kd.p:=ne_of_at HX.out HY.out (fun e=>hne (by injection e))
               exact ⟨ret_b (by rw [decide_eq_false hne2]),_,(World.drewN_drewN _ _ _).symm⟩
             . go_wp2_with fail
               go_roundw
               case measure=>simp [intOf];omega
               case rel=>exact ⟨j+1,by omega,by go_num,hid (take_eq_succ HF.out HG.out HU.out (of_decide_eq_true HD.out.symm)),_,rfl⟩
           . obtain rfl:j=xm:=by omega
             have hu:=HU.out
             have l1:=HXO.out.len
             have l2:=HYO.out.len
             dsimp only at l1 l2
             rw [List.take_of_length_le (by omega),List.take_of_length_le (by omega)] at hu
             subst hu
             clear l1 l2
             go_wp2_with fail
             go_roundw
             case measure=>simp [intOf];omega
             case rel=>exact ⟨k+1,by omega,by go_num,hid (take_eq_succ HX.out HY.out HT.out rfl),_,rfl⟩
        . have t3:((xm:Int) != ym)=true:=by simp;omega
          have hne:xf≠yf:=by
           rintro rfl
           have l1:=HXO.out.len
           have l2:=HYO.out.len
           dsimp only at l1 l2
           omega
          have HN:=hid hne
          clear hm hne
          go_wp2_with fail
          go_quiet (fail)
          go_wp2_with fail
          go_ret
          have hne2:l.map Kd.p≠l'.map Kd.p:=ne_of_at HX.out HY.out (fun e=>HN.out (by injection e))
          exact ⟨ret_b (by rw [decide_eq_false hne2]),_,(World.drewN_drewN _ _ _).symm⟩
      . have t2:(xn.toList == yn.toList)=false:=ba_tl_ne hn
        have HN:=hid hn
        clear hn
        go_wp2_with fail
        go_quiet (fail)
        go_wp2_with fail
        go_ret
        have hne2:l.map Kd.p≠l'.map Kd.p:=ne_of_at HX.out HY.out (fun e=>HN.out (by injection e))
        exact ⟨ret_b (by rw [decide_eq_false hne2]),_,(World.drewN_drewN _ _ _).symm⟩
    . obtain rfl:k=n:=by omega
      go_wp2_with fail
      go_ret
      have h1:=HT.out
      rw [List.take_of_length_le (by rw [List.length_map,<- HK.out.len];omega),List.take_of_length_le (by rw [List.length_map,<- HK'.out.len];omega)] at h1
      exact ⟨ret_b (by simp [h1]),_,rfl⟩
 . have t0:((n:Int) != n')=true:=by simp;omega
   have HE:Hid (l.map Kd.p≠l'.map Kd.p):=hid (by
    intro e
    have:=congrArg List.length e
    rw [List.length_map,List.length_map,<- h.len,<- h'.len] at this
    exact h0 this)
   clear h h' h0
   go_enter Try.func114,Try.ntmps114
   go_wp2_with fail
   go_ret
   exact ⟨ret_b (by simp [HE.out]),0,rfl⟩
set_option maxHeartbeats 800000 in
theorem clo179_any {wx:World} {B B':Nat} (x y:Cm) (hx:CmOk wx B x) (hy:CmOk wx B' y) (hB:B<=wx.heap.size) (hB':B'<=wx.heap.size) :
 Calls Try.prog 179 #[.agg #[.int i64 x.k,.slice x.A x.n x.c],.agg #[.int i64 y.k,.slice y.A y.n y.c]] wx fun e w'=>e=.returned (.bool (decide (x.p=y.p)))/\Below wx.heap.size wx w':=by
 obtain ⟨xk,xA,xn,xc,xv⟩:=x
 obtain ⟨yk,yA,yn,yc,yv⟩:=y
 show Calls Try.prog 179 #[.agg #[.int i64 xk,.slice xA xn xc],.agg #[.int i64 yk,.slice yA yn yc]] wx _
 have hb1:Below wx.heap.size wx ((wx.alloc (.cells #[.int i64 xk,.slice xA xn xc] 166)).alloc (.cells #[.int i64 yk,.slice yA yn yc] 166)):=((Below.refl _ _).alloc (Nat.le_refl _) _).alloc (by simp) _
 have heq:=equalInts_any xA yA xn xc yn yc (max B B') xv yv ((wx.alloc (.cells #[.int i64 xk,.slice xA xn xc] 166)).alloc (.cells #[.int i64 yk,.slice yA yn yc] 166)) hx.len hy.len (by have:=hx.cap;have:=hx.cap2;dsimp only at *;omega) ((hx.rd.below (hb1.mono hB)).more (by omega)) ((hy.rd.below (hb1.mono hB')).more (by omega))
 have HEQ:=hid heq
 have HB1:=hid hb1
 clear hx hy hb1 heq
 by_cases hk:xk=yk
 . subst hk
   have hd:decide ((⟨xk,xA,xn,xc,xv⟩:Cm).p=(⟨xk,yA,yn,yc,yv⟩:Cm).p)=decide (xv=yv):=by
    rw [decide_eq_decide];unfold Cm.p;simp
   rw [hd]
   clear hd
   obtain ⟨d,hd⟩:∃ d,d=decide (xv=yv):=⟨_,rfl⟩
   rw [<- hd] at HEQ ⊢
   clear hd
   have t0:(xk == xk)=true:=by simp
   go_enter Try.func179,Try.ntmps179
   go_wp2_with fail
   (with_reducible refine HEQ.out.mono ?_)
   rintro e w3 ⟨rfl,m,rfl⟩
   have HBn:=hid (below_dn HB1.out m)
   go_wp2_with fail
   go_ret
   exact ⟨ret_b (by simp),HBn.out⟩
 . have hd:decide ((⟨xk,xA,xn,xc,xv⟩:Cm).p=(⟨yk,yA,yn,yc,yv⟩:Cm).p)=false:=by
    rw [decide_eq_false];unfold Cm.p;intro e;injection e with e;exact hk e
   rw [hd]
   clear hd
   have t0:(xk == yk)=false:=by simp [hk]
   clear hk
   go_enter Try.func179,Try.ntmps179
   go_wp2_with fail
   go_ret
   exact ⟨rfl,HB1.out⟩
set_option maxHeartbeats 1600000 in
theorem eqComps_any {w:World} {B B' n n' c c':Nat} {A A':Option Addr} {l l':List Cm} (h:CsOk w B A n c l) (h':CsOk w B' A' n' c' l') :
 Calls Try.prog 142 #[.slice A n c,.slice A' n' c',.func (.func 179) #[] #[]] w fun e w'=>e=.returned (.bool (decide (l.map Cm.p=l'.map Cm.p)))/\Below w.heap.size w w':=by
 have hcap:=h.cap
 have hcap2:=h.cap2
 have hcap':=h'.cap
 have hcap2':=h'.cap2
 by_cases h0:n=n'
 . subst h0
   have t0:((n:Int) != n)=false:=by simp
   have HK:=hid h
   have HK':=hid h'
   have hB:=h.lo
   have hB':=h'.lo
   clear h h'
   go_enter Try.func142,Try.ntmps142
   go_wp2_with fail
   go_loopw [17] (fun i wr=>∃ k:Nat,k<=n/\i=.int i64 k/\Hid ((l.map Cm.p).take k=(l'.map Cm.p).take k)/\Hid (Below w.heap.size w wr)) (fun i _=>n-(intOf i).toNat)
   case atStart=>exact ⟨0,Nat.zero_le _,rfl,hid rfl,hid (Below.refl _ _)⟩
   case round =>
    obtain ⟨k,hk,rfl,HT,HW⟩:=hrel
    by_cases hlt:k<n
    . obtain ⟨x,hx⟩:∃ x,l[k]?=some x:=⟨_,List.getElem?_eq_getElem (by have:=HK.out.len;omega)⟩
      obtain ⟨y,hy⟩:∃ y,l'[k]?=some y:=⟨_,List.getElem?_eq_getElem (by have:=HK'.out.len;omega)⟩
      have hbw:=HW.out.mono hB
      have hbw':=HW.out.mono hB'
      obtain ⟨b,o,rfl,hb,q0,q1⟩:=(HK.out.below hbw).rd.cm hlt hx
      obtain ⟨b',o',rfl,hb',r0,r1⟩:=(HK'.out.below hbw').rd.cm hlt hy
      have HX:Hid ((l.map Cm.p)[k]?=some x.p):=hid (by rw [List.getElem?_map,hx];rfl)
      have HY:Hid ((l'.map Cm.p)[k]?=some y.p):=hid (by rw [List.getElem?_map,hy];rfl)
      have hb1:Below wr.heap.size wr ((wr.alloc (.cells #[.int i64 x.k,.slice x.A x.n x.c] 166)).alloc (.cells #[.int i64 y.k,.slice y.A y.n y.c] 166)):=((Below.refl _ _).alloc (Nat.le_refl _) _).alloc (by simp) _
      have hcl:=clo179_any x y (wx:=((wr.alloc (.cells #[.int i64 x.k,.slice x.A x.n x.c] 166)).alloc (.cells #[.int i64 y.k,.slice y.A y.n y.c] 166))) (((HK.out.below hbw).ok x (List.mem_of_getElem? hx)).below (hb1.mono (Nat.le_trans hB HW.out.size))) (((HK'.out.below hbw').ok y (List.mem_of_getElem? hy)).below (hb1.mono (Nat.le_trans hB' HW.out.size))) (by have:=HW.out.size;simp;omega) (by have:=HW.out.size;simp;omega)
      obtain ⟨d,hd⟩:∃ d,d=decide (x.p=y.p):=⟨_,rfl⟩
      rw [<- hd] at hcl
      have HCL:=hid hcl
      have HD:=hid hd
      have HB1:=hid (HW.out.trans (hb1.mono HW.out.size))
      have hq:=(((Below.refl wr.heap.size wr).alloc (Nat.le_refl _) (.cells #[.int i64 x.k,.slice x.A x.n x.c] 166)).block b' (by have:=HW.out.size;omega))
      have HQ:=hid hq
      have hkn:(k:Int)<n:=by omega
      have hk0:(0:Int)<=k:=by omega
      have hbr:b<wr.heap.size:=by have:=HW.out.size;omega
      have hbr':b'<wr.heap.size:=by have:=HW.out.size;omega
      clear hx hy hbw hbw' hb1 hcl hd hq
      generalize hx_k:x.k=x_k at *
      generalize hy_k:y.k=y_k at *
      generalize hx_A:x.A=x_A at *
      generalize hy_A:y.A=y_A at *
      generalize hx_n:x.n=x_n at *
      generalize hy_n:y.n=y_n at *
      generalize hx_c:x.c=x_c at *
      generalize hy_c:y.c=y_c at *
      have HXY:True:=trivial
      clear hx_k hy_k hx_A hy_A hx_n hy_n hx_c hy_c
      go_wp2_with fail
      (with_reducible refine HCL.out.mono ?_)
      rintro e w3 ⟨rfl,hb3⟩
      have HB3:=hid (HB1.out.trans (hb3.mono HB1.out.size))
      clear hb3
      cases d
      . go_wp2_with fail
        go_ret
        have hne:l.map Cm.p≠l'.map Cm.p:=ne_of_at HX.out HY.out (of_decide_eq_false HD.out.symm)
        exact ⟨ret_b (by rw [decide_eq_false hne]),HB3.out⟩
      . go_wp2_with fail
        go_roundw
        case measure=>simp [intOf];omega
        case rel=>exact ⟨k+1,by omega,by go_num,hid (take_eq_succ HX.out HY.out HT.out (of_decide_eq_true HD.out.symm)),HB3⟩
    . obtain rfl:n=k:=by omega
      go_wp2_with fail
      go_ret
      have h1:=HT.out
      rw [List.take_of_length_le (by rw [List.length_map,<- HK.out.len];omega),List.take_of_length_le (by rw [List.length_map,<- HK'.out.len];omega)] at h1
      exact ⟨ret_b (by simp [h1]),HW.out⟩
 . have t0:((n:Int) != n')=true:=by simp;omega
   have HE:Hid (l.map Cm.p≠l'.map Cm.p):=hid (by
    intro e
    have:=congrArg List.length e
    rw [List.length_map,List.length_map,<- h.len,<- h'.len] at this
    exact h0 this)
   clear h h' h0
   go_enter Try.func142,Try.ntmps142
   go_wp2_with fail
   go_ret
   exact ⟨ret_b (by simp [HE.out]),Below.refl _ _⟩
theorem sameComps_any {w:World} {B B' n n' c c':Nat} {A A':Option Addr} {l l':List Cm} (h:CsOk w B A n c l) (h':CsOk w B' A' n' c' l') :
 Calls Try.prog 117 #[.slice A n c,.slice A' n' c'] w fun e w'=>e=.returned (.bool (decide (l.map Cm.p=l'.map Cm.p)))/\Below w.heap.size w w':=by
 have HE:=hid (eqComps_any h h')
 obtain ⟨d,hd⟩:∃ d,d=decide (l.map Cm.p=l'.map Cm.p):=⟨_,rfl⟩
 rw [<- hd] at HE ⊢
 clear h h' hd
 go_enter Try.func117,Try.ntmps117
 go_wp2_with fail
 (with_reducible refine HE.out.mono ?_)
 rintro e w3 ⟨rfl,hb⟩
 go_wp2_with fail
 go_ret
 exact ⟨rfl,hb⟩
instance:DecidableEq (Wv Kp2):=fun a b=>decidable_of_iff (a.ks=b.ks/\a.gens=b.gens/\a.its=b.its) ⟨fun ⟨h1,h2,h3⟩=>by cases a;cases b;simp_all,fun h=>by rw [h];exact ⟨rfl,rfl,rfl⟩⟩
theorem Bk.two2 (w:World) (o:Obj) (t:TypeId) (cs:Array Value):Bk ((w.alloc o).alloc (.cells cs t)) (w.heap.size+1) t cs:=by simpa using Bk.new (w.alloc o) t cs
set_option maxHeartbeats 800000 in
theorem clo116_any {wx:World} {B B':Nat} (x y:It) (hx:ItOk wx B x) (hy:ItOk wx B' y) (hB:B<=wx.heap.size) (hB':B'<=wx.heap.size) :
 Calls Try.prog 116 #[.agg #[.int i64 x.e,.int i64 x.g,.slice x.A x.n x.c],.agg #[.int i64 y.e,.int i64 y.g,.slice y.A y.n y.c]] wx fun e w'=>e=.returned (.bool (decide (x.p=y.p)))/\Below wx.heap.size wx w':=by
 obtain ⟨xe,xg,xA,xn,xc,xv⟩:=x
 obtain ⟨ye,yg,yA,yn,yc,yv⟩:=y
 show Calls Try.prog 116 #[.agg #[.int i64 xe,.int i64 xg,.slice xA xn xc],.agg #[.int i64 ye,.int i64 yg,.slice yA yn yc]] wx _
 have hb1:Below wx.heap.size wx ((wx.alloc (.cells #[.int i64 xe,.int i64 xg,.slice xA xn xc] 147)).alloc (.cells #[.int i64 ye,.int i64 yg,.slice yA yn yc] 147)):=((Below.refl _ _).alloc (Nat.le_refl _) _).alloc (by simp) _
 have heq:=sameComps_any (hx.cs.below (hb1.mono hB)) (hy.cs.below (hb1.mono hB'))
 have hsz:wx.heap.size<=((wx.alloc (.cells #[.int i64 xe,.int i64 xg,.slice xA xn xc] 147)).alloc (.cells #[.int i64 ye,.int i64 yg,.slice yA yn yc] 147)).heap.size:=hb1.size
 have E:=eq128 xe xg ye yg
 have HEQ:=hid heq
 have HB1:=hid hb1
 have HSZ:=hid hsz
 clear hx hy hb1 heq hsz
 by_cases hk:xe=ye/\xg=yg
 . have hd:decide ((⟨xe,xg,xA,xn,xc,xv⟩:It).p=(⟨ye,yg,yA,yn,yc,yv⟩:It).p)=decide (xv.map Cm.p=yv.map Cm.p):=by
    rw [decide_eq_decide];unfold It.p;obtain ⟨rfl,rfl⟩:=hk;simp
   rw [hd]
   rw [decide_eq_true hk] at E
   clear hd hk
   obtain ⟨d,hd⟩:∃ d,d=decide (xv.map Cm.p=yv.map Cm.p):=⟨_,rfl⟩
   dsimp only at HEQ
   rw [<- hd] at HEQ ⊢
   clear hd
   go_enter Try.func116,Try.ntmps116
   go_wp2_with fail
   (with_reducible refine HEQ.out.mono ?_)
   rintro e w3 ⟨rfl,hb3⟩
   have HBn:=hid (HB1.out.trans (hb3.mono HSZ.out))
   go_wp2_with fail
   go_ret
   exact ⟨ret_b (by simp),HBn.out⟩
 . have hd:decide ((⟨xe,xg,xA,xn,xc,xv⟩:It).p=(⟨ye,yg,yA,yn,yc,yv⟩:It).p)=false:=by
    rw [decide_eq_false];unfold It.p;intro e;injection e with e _;injection e with e1 e2;exact hk ⟨e1,e2⟩
   rw [hd]
   rw [decide_eq_false hk] at E
   clear hd hk
   go_enter Try.func116,Try.ntmps116
   go_wp2_with fail
   go_ret
   exact ⟨rfl,HB1.out⟩
set_option maxHeartbeats 1600000 in
theorem eqItems_any {w:World} {B B' n n' c c':Nat} {A A':Option Addr} {l l':List It} (h:IsOk w B A n c l) (h':IsOk w B' A' n' c' l') :
 Calls Try.prog 115 #[.slice A n c,.slice A' n' c',.func (.func 116) #[] #[]] w fun e w'=>e=.returned (.bool (decide (l.map It.p=l'.map It.p)))/\Below w.heap.size w w':=by
 have hcap:=h.cap
 have hcap2:=h.cap2
 have hcap':=h'.cap
 have hcap2':=h'.cap2
 by_cases h0:n=n'
 . subst h0
   have t0:((n:Int) != n)=false:=by simp
   have HK:=hid h
   have HK':=hid h'
   have hB:=h.lo
   have hB':=h'.lo
   clear h h'
   go_enter Try.func115,Try.ntmps115
   go_wp2_with fail
   go_loopw [17] (fun i wr=>∃ k:Nat,k<=n/\i=.int i64 k/\Hid ((l.map It.p).take k=(l'.map It.p).take k)/\Hid (Below w.heap.size w wr)) (fun i _=>n-(intOf i).toNat)
   case atStart=>exact ⟨0,Nat.zero_le _,rfl,hid rfl,hid (Below.refl _ _)⟩
   case round =>
    obtain ⟨k,hk,rfl,HT,HW⟩:=hrel
    by_cases hlt:k<n
    . obtain ⟨x,hx⟩:∃ x,l[k]?=some x:=⟨_,List.getElem?_eq_getElem (by have:=HK.out.len;omega)⟩
      obtain ⟨y,hy⟩:∃ y,l'[k]?=some y:=⟨_,List.getElem?_eq_getElem (by have:=HK'.out.len;omega)⟩
      have hbw:=HW.out.mono hB
      have hbw':=HW.out.mono hB'
      obtain ⟨b,o,rfl,hb,q0,q1,q2⟩:=(HK.out.below hbw).rd.it hlt hx
      obtain ⟨b',o',rfl,hb',r0,r1,r2⟩:=(HK'.out.below hbw').rd.it hlt hy
      have HX:Hid ((l.map It.p)[k]?=some x.p):=hid (by rw [List.getElem?_map,hx];rfl)
      have HY:Hid ((l'.map It.p)[k]?=some y.p):=hid (by rw [List.getElem?_map,hy];rfl)
      have hb1:Below wr.heap.size wr ((wr.alloc (.cells #[.int i64 x.e,.int i64 x.g,.slice x.A x.n x.c] 147)).alloc (.cells #[.int i64 y.e,.int i64 y.g,.slice y.A y.n y.c] 147)):=((Below.refl _ _).alloc (Nat.le_refl _) _).alloc (by simp) _
      have hcl:=clo116_any x y (wx:=((wr.alloc (.cells #[.int i64 x.e,.int i64 x.g,.slice x.A x.n x.c] 147)).alloc (.cells #[.int i64 y.e,.int i64 y.g,.slice y.A y.n y.c] 147))) (((HK.out.below hbw).ok x (List.mem_of_getElem? hx)).below (hb1.mono (Nat.le_trans hB HW.out.size))) (((HK'.out.below hbw').ok y (List.mem_of_getElem? hy)).below (hb1.mono (Nat.le_trans hB' HW.out.size))) (by have:=HW.out.size;simp;omega) (by have:=HW.out.size;simp;omega)
      obtain ⟨d,hd⟩:∃ d,d=decide (x.p=y.p):=⟨_,rfl⟩
      rw [<- hd] at hcl
      have HCL:=hid hcl
      have HD:=hid hd
      have HB1:=hid (HW.out.trans (hb1.mono HW.out.size))
      have hq:=(((Below.refl wr.heap.size wr).alloc (Nat.le_refl _) (.cells #[.int i64 x.e,.int i64 x.g,.slice x.A x.n x.c] 147)).block b' (by have:=HW.out.size;omega))
      have HQ:=hid hq
      have hkn:(k:Int)<n:=by omega
      have hk0:(0:Int)<=k:=by omega
      have hbr:b<wr.heap.size:=by have:=HW.out.size;omega
      have hbr':b'<wr.heap.size:=by have:=HW.out.size;omega
      clear hx hy hbw hbw' hb1 hcl hd hq
      generalize hx_e:x.e=x_e at *
      generalize hy_e:y.e=y_e at *
      generalize hx_g:x.g=x_g at *
      generalize hy_g:y.g=y_g at *
      generalize hx_A:x.A=x_A at *
      generalize hy_A:y.A=y_A at *
      generalize hx_n:x.n=x_n at *
      generalize hy_n:y.n=y_n at *
      generalize hx_c:x.c=x_c at *
      generalize hy_c:y.c=y_c at *
      have HXY:True:=trivial
      clear hx_e hy_e hx_g hy_g hx_A hy_A hx_n hy_n hx_c hy_c
      go_wp2_with fail
      (with_reducible refine HCL.out.mono ?_)
      rintro e w3 ⟨rfl,hb3⟩
      have HB3:=hid (HB1.out.trans (hb3.mono HB1.out.size))
      clear hb3
      cases d
      . go_wp2_with fail
        go_ret
        have hne:l.map It.p≠l'.map It.p:=ne_of_at HX.out HY.out (of_decide_eq_false HD.out.symm)
        exact ⟨ret_b (by rw [decide_eq_false hne]),HB3.out⟩
      . go_wp2_with fail
        go_roundw
        case measure=>simp [intOf];omega
        case rel=>exact ⟨k+1,by omega,by go_num,hid (take_eq_succ HX.out HY.out HT.out (of_decide_eq_true HD.out.symm)),HB3⟩
    . obtain rfl:n=k:=by omega
      go_wp2_with fail
      go_ret
      have h1:=HT.out
      rw [List.take_of_length_le (by rw [List.length_map,<- HK.out.len];omega),List.take_of_length_le (by rw [List.length_map,<- HK'.out.len];omega)] at h1
      exact ⟨ret_b (by simp [h1]),HW.out⟩
 . have t0:((n:Int) != n')=true:=by simp;omega
   have HE:Hid (l.map It.p≠l'.map It.p):=hid (by
    intro e
    have:=congrArg List.length e
    rw [List.length_map,List.length_map,<- h.len,<- h'.len] at this
    exact h0 this)
   clear h h' h0
   go_enter Try.func115,Try.ntmps115
   go_wp2_with fail
   go_ret
   exact ⟨ret_b (by simp [HE.out]),Below.refl _ _⟩
set_option maxHeartbeats 1600000 in
theorem wsame_any {w:World} {B B':Nat} {x y:Wd} (hx:WdOk w B x) (hy:WdOk w B' y):Calls Try.prog 38 #[x.v,y.v] w fun e w'=>e=.returned (.bool (decide (x.p=y.p)))/\Below w.heap.size w w':=by
 obtain ⟨kA,kn,kc,ks,gA,gn,gc,gens,iA,im,ic,its⟩:=x
 obtain ⟨kA',kn',kc',ks',gA',gn',gc',gens',iA',im',ic',its'⟩:=y
 obtain ⟨hk,hg,hi⟩:=hx
 obtain ⟨hk',hg',hi'⟩:=hy
 dsimp only at hk hg hi hk' hg' hi'
 show Calls Try.prog 38 #[.agg #[.slice kA kn kc,.slice gA gn gc,.slice iA im ic],.agg #[.slice kA' kn' kc',.slice gA' gn' gc',.slice iA' im' ic']] w _
 have hd:decide ((⟨kA,kn,kc,ks,gA,gn,gc,gens,iA,im,ic,its⟩:Wd).p=(⟨kA',kn',kc',ks',gA',gn',gc',gens',iA',im',ic',its'⟩:Wd).p)=(decide (ks.map Kd.p=ks'.map Kd.p)&&(decide (gens=gens')&&decide (its.map It.p=its'.map It.p))):=by
  rw [Bool.eq_iff_iff]
  simp only [Bool.and_eq_true,decide_eq_true_iff]
  unfold Wd.p
  simp
 rw [hd]
 clear hd
 have hb1:Below w.heap.size w ((w.alloc (.cells #[.slice kA kn kc,.slice gA gn gc,.slice iA im ic] 52)).alloc (.cells #[.slice kA' kn' kc',.slice gA' gn' gc',.slice iA' im' ic'] 52)):=((Below.refl _ _).alloc (Nat.le_refl _) _).alloc (by simp) _
 have hp1:Bk ((w.alloc (.cells #[.slice kA kn kc,.slice gA gn gc,.slice iA im ic] 52)).alloc (.cells #[.slice kA' kn' kc',.slice gA' gn' gc',.slice iA' im' ic'] 52)) w.heap.size 52 #[.slice kA kn kc,.slice gA gn gc,.slice iA im ic]:=(Bk.new w 52 _).alloc _
 have hp2:=Bk.two2 w (.cells #[.slice kA kn kc,.slice gA gn gc,.slice iA im ic] 52) 52 #[.slice kA' kn' kc',.slice gA' gn' gc',.slice iA' im' ic']
 have hs1:=ksame_any (hk.below (hb1.mono hk.lo)) (hk'.below (hb1.mono hk'.lo))
 have hs2:=fun wx (hb:Below w.heap.size w wx)=>equalInts_any gA gA' gn gc gn' gc' (max B B') gens gens' wx hg.len hg'.len (by have:=hg.cap;have:=hg.cap2;omega) ((hg.rd.below (hb.mono hg.lo)).more (by omega)) ((hg'.rd.below (hb.mono hg'.lo)).more (by omega))
 have hs3:=fun wx (hb:Below w.heap.size w wx)=>eqItems_any (hi.below (hb.mono hi.lo)) (hi'.below (hb.mono hi'.lo))
 obtain ⟨d1,hd1⟩:∃ d,d=decide (ks.map Kd.p=ks'.map Kd.p):=⟨_,rfl⟩
 obtain ⟨d2,hd2⟩:∃ d,d=decide (gens=gens'):=⟨_,rfl⟩
 obtain ⟨d3,hd3⟩:∃ d,d=decide (its.map It.p=its'.map It.p):=⟨_,rfl⟩
 rw [<- hd1] at hs1
 rw [<- hd2] at hs2
 rw [<- hd3] at hs3
 rw [<- hd1,<- hd2,<- hd3]
 have HS1:=hid hs1
 have HS2:=hid hs2
 have HS3:=hid hs3
 have HB1:=hid hb1
 have HP1:=hid hp1
 have HP2:=hid hp2
 clear hk hg hi hk' hg' hi' hb1 hp1 hp2 hs1 hs2 hs3 hd1 hd2 hd3
 go_enter Try.func38,Try.ntmps38
 go_wp2_with fail
 (with_reducible refine HS1.out.mono ?_)
 rintro e w3 ⟨rfl,m,rfl⟩
 have HBn:=hid (below_dn HB1.out m)
 have HP1n:=hid (HP1.out.drewN m)
 have HP2n:=hid (HP2.out.drewN m)
 clear HB1 HP1 HP2 HS1
 generalize ((w.alloc (.cells #[.slice kA kn kc,.slice gA gn gc,.slice iA im ic] 52)).alloc (.cells #[.slice kA' kn' kc',.slice gA' gn' gc',.slice iA' im' ic'] 52)).drewN m=W1 at *
 cases d1
 . go_wp2_with fail
   go_ret
   exact ⟨rfl,HBn.out⟩
 . have x1:W1.cell? ⟨w.heap.size,1,none⟩=some (.slice gA gn gc):=HP1n.out.cell 1
   have y1:W1.cell? ⟨w.heap.size+1,1,none⟩=some (.slice gA' gn' gc'):=HP2n.out.cell 1
   go_wp2_with fail
   (with_reducible refine (HS2.out _ HBn.out).mono ?_)
   rintro e w4 ⟨rfl,m2,rfl⟩
   have HBm:=hid (below_dn HBn.out m2)
   have HP1m:=hid (HP1n.out.drewN m2)
   have HP2m:=hid (HP2n.out.drewN m2)
   clear x1 y1 HBn HP1n HP2n HS2
   generalize W1.drewN m2=W2 at *
   cases d2
   . go_wp2_with fail
     go_ret
     exact ⟨rfl,HBm.out⟩
   . have x2:W2.cell? ⟨w.heap.size,2,none⟩=some (.slice iA im ic):=HP1m.out.cell 2
     have y2:W2.cell? ⟨w.heap.size+1,2,none⟩=some (.slice iA' im' ic'):=HP2m.out.cell 2
     go_wp2_with fail
     (with_reducible refine (HS3.out _ HBm.out).mono ?_)
     rintro e w5 ⟨rfl,hb5⟩
     have HB5:=hid (HBm.out.trans (hb5.mono HBm.out.size))
     clear hb5
     go_wp2_with fail
     go_ret
     exact ⟨ret_b (by simp),HB5.out⟩
end Go.Proofs.Ytnidcmhfbkdioaa
