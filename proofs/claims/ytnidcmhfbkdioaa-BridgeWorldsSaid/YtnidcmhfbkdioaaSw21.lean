/-
  Lemmas for the walk, merged (Mz Oe). No condition but those in each statement.
-/
import Derived.Test.YtnidcmhfbkdioaaSw19
import Derived.Test.YtnidcmhfbkdioaaSw20
import Derived.Test.YtnidcmhfbkdioaaSw10
namespace Go.Proofs.Ytnidcmhfbkdioaa
open Go.RowKit
open Go.IntKind (i64)
set_option maxRecDepth 100000
section
variable {r ho base:Nat} {wr w':World} {kA:Option Addr} {kn kc:Nat} {ks:List Kd} {GA:Option Addr} {n gc:Nat} {G:List Int} {IA:Option Addr} {q ic:Nat} {its:List It}
theorem WI.put {g:Nat} (H:WI r ho base wr kA kn kc ks (some ⟨g,0,none⟩) n gc G IA q ic its) (N:Nat) (u:Int) :
 WI r ho base (wr.setCell ⟨g,N,none⟩ (.int i64 u)) kA kn kc ks (some ⟨g,0,none⟩) n gc (G.set N u) IA q ic its/\Kx base [3] wr (wr.setCell ⟨g,N,none⟩ (.int i64 u)):=by
 obtain ⟨h1,h2⟩:=H.gown.stored N (.int i64 u)
 have h2:wr.grownBy (wr.setCell ⟨g,N,none⟩ (.int i64 u)) (Value.slice (some ⟨g,0,none⟩) n gc).ownBlock:=h2
 have hq:Kx base [3] wr (wr.setCell ⟨g,N,none⟩ (.int i64 u)):=(Kx.refl (B:=base)).grown H.gown h2 (Nat.le_refl _) (by simp)
 have hq0:=hq.mono (Nat.zero_le base) (G:=[3]) (fun _ h=>h)
 refine ⟨⟨hq.bk H.bR (by decide),hq.bk H.bo (by decide),H.ks.keep hq0 (by decide) (by decide),?_,hq.own H.iown (by decide),H.len,fun x hx=>(H.iok x hx).grown3 H.gown h2 (Nat.zero_le _) (H.nob x hx),H.nob,H.hro⟩,hq⟩
 rw [List.map_set];exact h1
end
structure LI (H hx:Nat) (e g:Int) (ks:List Kp2) (cs:List Cv) (wr:World) (j q:Nat) (OA:Option Addr) (oc:Nat) (l:List Cm):Prop where
 bx:Bk wr hx 147 #[.int i64 e,.int i64 g,.slice OA q oc]
 own:wr.ownsRow H 166 2 (.slice OA q oc) q (cmCs l)
 len:q=l.length
 ok:∀ z∈l,CmY wr 0 z
 cc:CcI holdK ks cs j (l.map Cm.p)
 fr:Fr H 0 l
 lo:H<=hx
section
variable {H hx:Nat} {e g:Int} {ks:List Kp2} {cs:List Cv} {wr w':World} {j q:Nat} {OA:Option Addr} {oc:Nat} {l:List Cm}
theorem LI.kx {B:Nat} {F:List TypeId} (h:LI H hx e g ks cs wr j q OA oc l) (hq:Kx B F wr w') (h3:(3:TypeId) ∉ F) (h147:(147:TypeId) ∉ F) (h166:(166:TypeId) ∉ F):LI H hx e g ks cs w' j q OA oc l :=
 ⟨hq.bk h.bx h147,hq.own h.own h166,h.len,fun z hz=>(h.ok z hz).keep (hq.mono (Nat.zero_le _) (fun _ h=>h)) h3,h.cc,h.fr,h.lo⟩
theorem LI.skip (h:LI H hx e g ks cs wr j q OA oc l):LI H hx e g ks cs wr (j+1) q OA oc l :=
 ⟨h.bx,h.own,h.len,h.ok,h.cc.skip,h.fr,h.lo⟩
theorem LI.snoc (h:LI H hx e g ks cs wr j q OA oc l) {w8:World} {g8 c8:Nat} {z:Cm} {o:Obj} {M:List Cv} (hz:CmY wr 0 z) (hfr:∀ b o,z.A=some ⟨b,o,none⟩->H<=b) (hM:M=l.map Cm.p++[z.p]) (hcc:CcI holdK ks cs (j+1) M)
 (hown8:w8.ownsRow H 166 2 (.slice (some ⟨g8,0,none⟩) (q+1) c8) (q+1) (cmCs l++[.int i64 z.k,.slice z.A z.n z.c])) (hg8:(wr.alloc o).grownBy w8 (Value.slice OA q oc).ownBlock) :
 LI H hx e g ks cs (w8.setCell ⟨hx,2,none⟩ (.slice (some ⟨g8,0,none⟩) (q+1) c8)) (j+1) (q+1) (some ⟨g8,0,none⟩) c8 (l++[z])/\Kx H [166,147] wr (w8.setCell ⟨hx,2,none⟩ (.slice (some ⟨g8,0,none⟩) (q+1) c8)):=by
 have hq7:Kx H [166] wr w8:=((Kx.refl (B:=H)).alloc _).grown (h.own.alloc _) hg8 (Nat.le_refl _) (by simp)
 have bo:=hq7.bk h.bx (by decide)
 have hset:Kx H [147] w8 (w8.setCell ⟨hx,2,none⟩ (.slice (some ⟨g8,0,none⟩) (q+1) c8)):=Kx.set Kx.refl bo h.lo (by simp) 2 _
 refine ⟨⟨by simpa using bo.set_ 2 (.slice (some ⟨g8,0,none⟩) (q+1) c8),?_,by simp [h.len],fun x hx'=>?_,?_,fun x hx' hn b o hA=>?_,h.lo⟩,(hq7.mono (Nat.le_refl _) (by simp)).trans (hset.mono (Nat.le_refl _) (by simp))⟩
 . rw [show cmCs (l++[z])=cmCs l++[.int i64 z.k,.slice z.A z.n z.c] by simp [cmCs,Cm.cs]]
   exact hset.own hown8 (by decide)
 . rcases List.mem_append.1 hx' with hx' | hx'
   . exact ((h.ok x hx').keep (hq7.mono (Nat.zero_le _) (fun _ h=>h)) (by decide)).keep (hset.mono (Nat.zero_le _) (fun _ h=>h)) (by decide)
   . rw [show x=z by simpa using hx'];exact (hz.keep (hq7.mono (Nat.zero_le _) (fun _ h=>h)) (by decide)).keep (hset.mono (Nat.zero_le _) (fun _ h=>h)) (by decide)
 . rw [List.map_append,<- show M=l.map Cm.p++[z].map Cm.p from hM];exact hcc
 . rcases List.mem_append.1 hx' with hx' | hx'
   . exact h.fr x hx' hn b o hA
   . rw [show x=z by simpa using hx'] at hA;exact .inr (hfr b o hA)
end
structure VI (H s B:Nat) (w0:World) (d:Kp2) (wr:World) (n:Nat) (VA:Option Addr) (vc:Nat) (V:List Int):Prop where
 own:wr.ownsRow H 3 1 (.slice VA n vc) n (V.map (Value.int .i64))
 hold:holdK d V=true
 len:V.length=n
 st:StrSt wr B s
 fq:Fq [s] w0 wr
section
variable {H s B:Nat} {w0:World} {d:Kp2} {wr w':World} {n:Nat} {VA:Option Addr} {vc:Nat} {V:List Int}
theorem VI.next (h:VI H s B w0 d wr n VA vc V) (hg:wr.grownBy w' (some s)) (hst:StrSt w' B s) (hH:s<H):VI H s B w0 d w' n VA vc V :=
 ⟨own_keepB h.own fun g hg'=>hg.block g (h.own.lt g hg').2 (fun e=>by injection e with e;have:=(h.own.lt g hg').1;omega),h.hold,h.len,hst,h.fq.grown hg fun g hg=>.inl (by injection hg with hg;simp [hg])⟩
theorem VI.drew (h:VI H s B w0 d wr n VA vc V):VI H s B w0 d wr.drew n VA vc V:=by
 obtain ⟨A,m,c,zs,h1,h2,h3,h4,h5,h6⟩:=h.st
 exact ⟨h.own,h.hold,h.len,⟨A,m,c,zs,h1,h2,h3,h4,h5,h6⟩,h.fq.drew⟩
theorem VI.below (h:VI H s B w0 d wr n VA vc V) (hb:Below wr.heap.size wr w') (hB:B<=s):VI H s B w0 d w' n VA vc V :=
 ⟨own_keepB h.own fun g hg'=>hb.block g (h.own.lt g hg').2,h.hold,h.len,h.st.below hb (h.st.lo hB),h.fq.trans (Fq.of_below hb) (SubF.refl _ _)⟩
theorem VI.put {g:Nat} (h:VI H s B w0 d wr n (some ⟨g,0,none⟩) vc V) (hH:w0.heap.size<=H) (hs:s<H) (hB:B<=s) {k:Nat} {f:Fd} {u:Int} (hf:d.2[k]?=some f) (h1:f.low<=u) (h2:u<f.low+2^f.bits.toNat) :
 VI H s B w0 d (wr.setCell ⟨g,k,none⟩ (.int i64 u)) n (some ⟨g,0,none⟩) vc (V.set k u):=by
 obtain ⟨h3,h4⟩:=h.own.stored k (.int i64 u)
 have hg:=(h.own.lt g rfl).1
 obtain ⟨A,m,c,zs,e1,e2,e3,e4,e5,e6⟩:=h.st
 refine ⟨by rw [List.map_set];exact h3,holdK_set h.hold hf h1 h2,by simp [h.len],⟨A,m,c,zs,e1.far (p:=⟨g,k,none⟩) (by show s≠g;omega) _,e2,e3,e4,e5.keep fun b hb=>Below.heap_setCell _ _ _ _ (by show b≠g;omega),e6⟩,h.fq.set (.inr (by omega)) k _⟩
theorem VI.cm (h:VI H s B w0 d wr n VA vc V) {k:Int} (hk:(Lit.int i64 k).wf=true):CmY wr 0 (⟨k,VA,n,vc,V⟩:Cm):=by
 have hc:=own_cap2 h.own
 exact ⟨.of_own h.own,h.len.symm,hc.1,hc.2,hk⟩
end
theorem below3 {w w':World} {r:Nat} (h:Below w.heap.size w w') (hr:w.heap.size<=r) (a b c:Value):Below w.heap.size w (((w'.setCell ⟨r,0,none⟩ a).setCell ⟨r,1,none⟩ b).setCell ⟨r,2,none⟩ c) :=
 ((h.setCell (p:=⟨r,0,none⟩) hr _).setCell (p:=⟨r,1,none⟩) hr _).setCell (p:=⟨r,2,none⟩) hr _
set_option maxHeartbeats 800000 in
theorem cloneFds_any (A:Option Addr) (n c B:Nat) (xs:List Value) (w:World) (hr:Rd w B 3 A n xs) (h1:∀ u∈xs,u.oneCell'=true) (hB:B<=w.heap.size) (hs:n*32<=140737488355328) :
 Calls Try.prog 175 #[.slice A n c] w (RetS w 66 3 n xs):=by
 obtain ⟨i0,hi0,hz0,hz1,hz2⟩:=info_parts T.infoFd
 have hn:=fun wx=>Lib.run_eql_slice_nil (P:=Try.prog) wx 61 66 A n c 0 0 Try.underlying61
 cases A with
 | none =>
   obtain rfl:n=0:=by
    rcases Nat.eq_zero_or_pos n with h | h
    . exact h
    . obtain ⟨_,_,h,_⟩:=hr.2 h;cases h
   obtain rfl:xs=[]:=List.eq_nil_of_length_eq_zero (by simpa using hr.1)
   go_enter Try.func175,Try.ntmps175
   go_wp2_with fail
   go_ret
   exact ⟨none,0,by simp,World.ownsRow_nil _ _ _ _,Below.refl _ _⟩
 | some a =>
   go_enter Try.func175,Try.ntmps175
   go_wp2_with
    (at_builtin
     go_must (refine wpList_append_rd _ rfl (.tmp 5) (.tmp 6) _ rfl w.heap.size 66 i0 (.agg #[.string ByteArray.empty,.int i64 0,.int i64 0]) 3 32 Try.underlying61 hi0 hz0 hz1 hz2 rfl (by decide) (.slice (some ⟨w.heap.size,0,none⟩) 0 0) 0 [] rfl (World.ownsRow_lit w #[] 0 (Nat.le_refl _) (by decide) rfl) B (some a) n c xs rfl (hr.below ((Below.refl B w).alloc hB _)) h1 ?c2 ?c3 ?c4 ?_)
     case c2=>unfold maxLen;omega
     case c3=>omega
     case c4=>simp
     intro A' c' w1 hown1 hg1 hat1)
   go_ret
   simp only [Nat.zero_add,List.nil_append] at hown1
   exact ⟨A',c',by simp,hown1,((Below.refl _ _).alloc (Nat.le_refl _) _).grown hg1 (by simp) (by simp [Value.ownBlock])⟩
theorem own_lo2 {w:World} {base base' size n:Nat} {e:TypeId} {v:Value} {xs:List Value} (h:w.ownsRow base e size v n xs) (hb:base'<=base):w.ownsRow base' e size v n xs:=by
 refine ⟨h.1,?_⟩
 rcases h.2 with h1 | ⟨g,cap,cur,h1,h2,h3⟩
 . exact .inl h1
 . exact .inr ⟨g,cap,cur,h1,Nat.le_trans hb h2,h3⟩
theorem take_map_succ {α β:Type} {f:α->β} {l:List α} {k:Nat} {x:α} (hx:l[k]?=some x):(l.take (k+1)).map f=(l.take k).map f++[f x]:=by
 rw [List.take_add_one,hx];simp
structure CWI (ho base:Nat) (wr:World) (kA:Option Addr) (kn kc:Nat) (ks:List Kd) (GA:Option Addr) (n gc:Nat) (G:List Int) (IA:Option Addr) (q ic:Nat) (its:List It):Prop where
 bo:Bk wr ho 52 #[.slice kA kn kc,.slice GA n gc,.slice IA q ic]
 kown:wr.ownsRow base 63 2 (.slice kA kn kc) kn (kdCs ks)
 kok:∀ k∈ks,KdY wr 0 k
 klen:kn=ks.length
 gs:GsY wr 0 GA n gc G
 iown:wr.ownsRow base 147 3 (.slice IA q ic) q (itCs its)
 len:q=its.length
 iok:∀ it∈its,ItY wr 0 it
 fr:∀ it∈its,Fr base 0 it.cms
 lo:base<=ho
section
variable {ho base:Nat} {wr w':World} {kA:Option Addr} {kn kc:Nat} {ks:List Kd} {GA:Option Addr} {n gc:Nat} {G:List Int} {IA:Option Addr} {q ic:Nat} {its:List It}
theorem CWI.kx {B:Nat} {F:List TypeId} (H:CWI ho base wr kA kn kc ks GA n gc G IA q ic its) (hq:Kx B F wr w') (h52:(52:TypeId) ∉ F) (h63:(63:TypeId) ∉ F) (h66:(66:TypeId) ∉ F) (h3:(3:TypeId) ∉ F) (h147:(147:TypeId) ∉ F) (h166:(166:TypeId) ∉ F):CWI ho base w' kA kn kc ks GA n gc G IA q ic its :=
 have hq0:=hq.mono (Nat.zero_le _) (G:=F) (fun _ h=>h)
 ⟨hq.bk H.bo h52,hq.own H.kown h63,fun k hk=>(H.kok k hk).keep hq0 h66,H.klen,H.gs.keep hq0 h3,hq.own H.iown h147,H.len,fun it hit=>(H.iok it hit).keep hq0 h3 h166,H.fr,H.lo⟩
theorem CWI.below (H:CWI ho base wr kA kn kc ks GA n gc G IA q ic its) (hb:Below wr.heap.size wr w'):CWI ho base w' kA kn kc ks GA n gc G IA q ic its :=
 H.kx (F:=[]) (Kx.of_below (B:=0) hb) (by simp) (by simp) (by simp) (by simp) (by simp) (by simp)
theorem CWI.kind (H:CWI ho base wr kA kn kc ks GA n gc G none 0 0 []) {w8:World} {g8 c8:Nat} {k:Kd} {o:Obj} (hk:KdY wr 0 k)
 (hown8:w8.ownsRow base 63 2 (.slice (some ⟨g8,0,none⟩) (kn+1) c8) (kn+1) (kdCs ks++[.string k.nm,.slice k.A k.n k.c])) (hg8:(wr.alloc o).grownBy w8 (Value.slice kA kn kc).ownBlock) :
 CWI ho base (w8.setCell ⟨ho,0,none⟩ (.slice (some ⟨g8,0,none⟩) (kn+1) c8)) (some ⟨g8,0,none⟩) (kn+1) c8 (ks++[k]) GA n gc G none 0 0 []:=by
 have hq7:Kx 0 [63] wr w8:=((Kx.refl (B:=0)).alloc _).grown (H.kown.alloc _) hg8 (Nat.zero_le _) (by simp)
 have bo:=hq7.bk H.bo (by decide)
 have hset:Kx 0 [52] w8 (w8.setCell ⟨ho,0,none⟩ (.slice (some ⟨g8,0,none⟩) (kn+1) c8)):=Kx.set Kx.refl bo (Nat.zero_le _) (by simp) 0 _
 refine ⟨by simpa using bo.set_ 0 (.slice (some ⟨g8,0,none⟩) (kn+1) c8),?_,fun x hx=>?_,by simp [H.klen],(H.gs.keep hq7 (by decide)).keep hset (by decide),hset.own (hq7.own H.iown (by decide)) (by decide),rfl,(fun x hx=>by cases hx),(fun x hx=>by cases hx),H.lo⟩
 . rw [show kdCs (ks++[k])=kdCs ks++[.string k.nm,.slice k.A k.n k.c] by simp [kdCs,Kd.cs]]
   exact hset.own hown8 (by decide)
 . rcases List.mem_append.1 hx with hx | hx
   . exact ((H.kok x hx).keep hq7 (by decide)).keep hset (by decide)
   . rw [show x=k by simpa using hx];exact (hk.keep hq7 (by decide)).keep hset (by decide)
theorem CWI.item (H:CWI ho base wr kA kn kc ks GA n gc G IA q ic its) {w8:World} {g8 c8:Nat} {it:It} {o:Obj} (hi:ItY wr 0 it) (hf:Fr base 0 it.cms)
 (hown8:w8.ownsRow base 147 3 (.slice (some ⟨g8,0,none⟩) (q+1) c8) (q+1) (itCs its++[.int i64 it.e,.int i64 it.g,.slice it.A it.n it.c])) (hg8:(wr.alloc o).grownBy w8 (Value.slice IA q ic).ownBlock) :
 CWI ho base (w8.setCell ⟨ho,2,none⟩ (.slice (some ⟨g8,0,none⟩) (q+1) c8)) kA kn kc ks GA n gc G (some ⟨g8,0,none⟩) (q+1) c8 (its++[it]):=by
 have hq7:Kx 0 [147] wr w8:=((Kx.refl (B:=0)).alloc _).grown (H.iown.alloc _) hg8 (Nat.zero_le _) (by simp)
 have bo:=hq7.bk H.bo (by decide)
 have hset:Kx 0 [52] w8 (w8.setCell ⟨ho,2,none⟩ (.slice (some ⟨g8,0,none⟩) (q+1) c8)):=Kx.set Kx.refl bo (Nat.zero_le _) (by simp) 2 _
 refine ⟨by simpa using bo.set_ 2 (.slice (some ⟨g8,0,none⟩) (q+1) c8),hset.own (hq7.own H.kown (by decide)) (by decide),fun k hk=>((H.kok k hk).keep hq7 (by decide)).keep hset (by decide),H.klen,(H.gs.keep hq7 (by decide)).keep hset (by decide),?_,by simp [H.len],fun x hx=>?_,fun x hx=>?_,H.lo⟩
 . rw [itCs_snoc];exact hset.own hown8 (by decide)
 . rcases List.mem_append.1 hx with hx | hx
   . exact ((H.iok x hx).keep hq7 (by decide) (by decide)).keep hset (by decide) (by decide)
   . rw [show x=it by simpa using hx];exact (hi.keep hq7 (by decide) (by decide)).keep hset (by decide) (by decide)
 . rcases List.mem_append.1 hx with hx | hx
   . exact H.fr x hx
   . rw [show x=it by simpa using hx];exact hf
theorem CWI.wd (H:CWI ho base wr kA kn kc ks GA n gc G IA q ic its):WdY wr 0 ⟨kA,kn,kc,ks,GA,n,gc,G,IA,q,ic,its⟩:=by
 have hc:=own_cap2 H.kown
 exact ⟨⟨.of_own H.kown,H.klen,hc.1,hc.2,H.kok⟩,H.gs,IsY.of_own H.iown H.len H.iok⟩
end
structure LJ (H hx:Nat) (e g:Int) (cs:List Cv) (wr:World) (j:Nat) (OA:Option Addr) (oc:Nat) (l:List Cm):Prop where
 bx:Bk wr hx 147 #[.int i64 e,.int i64 g,.slice OA j oc]
 own:wr.ownsRow H 166 2 (.slice OA j oc) j (cmCs l)
 len:j=l.length
 ok:∀ z∈l,CmY wr 0 z
 eq:l.map Cm.p=cs.take j
 fr:Fr H 0 l
 lo:H<=hx
section
variable {H hx:Nat} {e g:Int} {cs:List Cv} {wr w':World} {j:Nat} {OA:Option Addr} {oc:Nat} {l:List Cm}
theorem LJ.below (h:LJ H hx e g cs wr j OA oc l) (hb:Below wr.heap.size wr w'):LJ H hx e g cs w' j OA oc l :=
 have hq:Kx 0 [] wr w':=Kx.of_below hb
 ⟨hq.bk h.bx (by simp),hq.own h.own (by simp),h.len,fun z hz=>(h.ok z hz).keep hq (by simp),h.eq,h.fr,h.lo⟩
theorem LJ.snoc (h:LJ H hx e g cs wr j OA oc l) {w8:World} {g8 c8:Nat} {z:Cm} {o:Obj} (hz:CmY wr 0 z) (hfr:∀ b o,z.A=some ⟨b,o,none⟩->H<=b) (hcs:cs[j]?=some z.p)
 (hown8:w8.ownsRow H 166 2 (.slice (some ⟨g8,0,none⟩) (j+1) c8) (j+1) (cmCs l++[.int i64 z.k,.slice z.A z.n z.c])) (hg8:(wr.alloc o).grownBy w8 (Value.slice OA j oc).ownBlock) :
 LJ H hx e g cs (w8.setCell ⟨hx,2,none⟩ (.slice (some ⟨g8,0,none⟩) (j+1) c8)) (j+1) (some ⟨g8,0,none⟩) c8 (l++[z]):=by
 have hq7:Kx H [166] wr w8:=((Kx.refl (B:=H)).alloc _).grown (h.own.alloc _) hg8 (Nat.le_refl _) (by simp)
 have bo:=hq7.bk h.bx (by decide)
 have hset:Kx H [147] w8 (w8.setCell ⟨hx,2,none⟩ (.slice (some ⟨g8,0,none⟩) (j+1) c8)):=Kx.set Kx.refl bo h.lo (by simp) 2 _
 refine ⟨by simpa using bo.set_ 2 (.slice (some ⟨g8,0,none⟩) (j+1) c8),?_,by simp [h.len],fun x hx'=>?_,?_,fun x hx' hn b o hA=>?_,h.lo⟩
 . rw [show cmCs (l++[z])=cmCs l++[.int i64 z.k,.slice z.A z.n z.c] by simp [cmCs,Cm.cs]]
   exact hset.own hown8 (by decide)
 . rcases List.mem_append.1 hx' with hx' | hx'
   . exact ((h.ok x hx').keep (hq7.mono (Nat.zero_le _) (fun _ h=>h)) (by decide)).keep (hset.mono (Nat.zero_le _) (fun _ h=>h)) (by decide)
   . rw [show x=z by simpa using hx'];exact (hz.keep (hq7.mono (Nat.zero_le _) (fun _ h=>h)) (by decide)).keep (hset.mono (Nat.zero_le _) (fun _ h=>h)) (by decide)
 . rw [List.map_append,h.eq,List.take_add_one,hcs];rfl
 . rcases List.mem_append.1 hx' with hx' | hx'
   . exact h.fr x hx' hn b o hA
   . rw [show x=z by simpa using hx'] at hA;exact .inr (hfr b o hA)
end
end Go.Proofs.Ytnidcmhfbkdioaa
