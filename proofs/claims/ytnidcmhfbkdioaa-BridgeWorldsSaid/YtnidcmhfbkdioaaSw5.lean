/-
  Lemmas for the walk, merged (Kh Ki Sq Wa). No condition but those in each statement.
-/
import Derived.Laws.ResultCell
import Derived.Laws.CopyOwn
import Derived.ArgAppend
import Derived.RegionTactic
import Derived.ChangeAlike
import Derived.BigRegion
import Derived.IntWalk
import Derived.Test.YtnidcmhfbkdioaaSw4
import Derived.Test.YtnidcmhfbkdioaaSw3
namespace Go.Proofs.Ytnidcmhfbkdioaa
open Go.RowKit
open Go.IntKind (i64)
open Go.Lib (hid)
set_option maxRecDepth 100000
def sPlace:ByteArray:=⟨#[112,108,97,99,101]⟩
def sMotion:ByteArray:=⟨#[109,111,116,105,111,110]⟩
def sShape:ByteArray:=⟨#[115,104,97,112,101]⟩
def nPlace:List ByteArray:=[⟨#[120]⟩,⟨#[121]⟩,⟨#[97,110,103]⟩]
def nMotion:List ByteArray:=[⟨#[118,120]⟩,⟨#[118,121]⟩,⟨#[115,112,105,110]⟩,⟨#[99,97,108,109]⟩]
def nShape:List ByteArray:=[⟨#[119]⟩,⟨#[104]⟩,⟨#[109,97,115,115]⟩,⟨#[98,111,117,110,99,101]⟩,⟨#[114,117,98]⟩]
def ofF (ks:List (ByteArray × List Fd)):(Int × Int × Int) × Int :=
 if checkF ks≠0 then ((0,0,0),checkF ks) else
 if (bfindF ks sPlace nPlace).2≠0 then ((0,0,0),(bfindF ks sPlace nPlace).2) else
 if (bfindF ks sMotion nMotion).2≠0 then ((0,0,0),(bfindF ks sMotion nMotion).2) else
 if (bfindF ks sShape nShape).2≠0 then ((0,0,0),(bfindF ks sShape nShape).2) else
 (((bfindF ks sPlace nPlace).1,(bfindF ks sMotion nMotion).1,(bfindF ks sShape nShape).1),0)
theorem Rd.lit (w:World) (xs:List Value) (t:TypeId):Rd (w.alloc (.cells xs.toArray t)) (w.heap.size+1) 1 (some ⟨w.heap.size,0,none⟩) xs.length xs :=
 ⟨by simp,fun _=>⟨_,_,rfl,by omega,fun j u hu=>by
  rw [Nat.zero_add]
  exact ((Bk.new w t xs.toArray).cell j).trans (by simpa using hu)⟩⟩
structure KsOk (w:World) (B:Nat) (A:Option Addr) (n c:Nat) (ks:List Kd):Prop where
 rd:Rd w B 2 A n (kdCs ks)
 len:n=ks.length
 cap:n<=c
 cap2:c<=9223372036854775807
 ok:∀ k∈ks,KdOk w B k
 lo:B<=w.heap.size
theorem KsOk.below {w w':World} {B n c:Nat} {A:Option Addr} {ks:List Kd} (h:KsOk w B A n c ks) (hb:Below B w w'):KsOk w' B A n c ks :=
 ⟨h.rd.below hb,h.len,h.cap,h.cap2,fun k hk=>(h.ok k hk).below hb,Nat.le_trans h.lo hb.size⟩
theorem KsOk.more {w:World} {B B' n c:Nat} {A:Option Addr} {ks:List Kd} (h:KsOk w B A n c ks) (hB:B<=B') (hB':B'<=w.heap.size):KsOk w B' A n c ks :=
 ⟨h.rd.more hB,h.len,h.cap,h.cap2,fun k hk=>⟨(h.ok k hk).rd.more hB,(h.ok k hk).len,(h.ok k hk).cap,(h.ok k hk).cap2⟩,hB'⟩
def FindP (w:World) (r:Int × Int) (e:Ending) (w':World):Prop:=e=.returned (.tuple #[.int i64 r.1,.int i64 r.2])/\Below w.heap.size w w'
theorem find_lit {w:World} {B n c:Nat} {A:Option Addr} {ks:List Kd} (h:KsOk w B A n c ks) (nm:ByteArray) (ns:List ByteArray) :
 Calls Try.prog 95 #[.slice A n c,.string nm,.slice (some ⟨w.heap.size,0,none⟩) ns.length ns.length] (w.alloc (.cells (strV ns).toArray 9)) (FindP w (bfindF (ks.map Kd.p) nm ns)):=by
 have hb:=(Below.refl w.heap.size w).alloc (Nat.le_refl _) (.cells (strV ns).toArray 9)
 have h2:=(h.below (hb.mono h.lo)).more (B':=w.heap.size+1) (by have:=h.lo;omega) (by simp)
 have hl:=Rd.lit w (strV ns) 9
 rw [show (strV ns).length=ns.length by simp [strV]] at hl
 exact (bfind_any A (some ⟨w.heap.size,0,none⟩) n c ns.length ns.length (w.heap.size+1) ks nm ns _ h2.rd h2.len h2.cap h2.cap2 h2.ok hl rfl h2.lo).mono fun e w' hh=>⟨hh.1,hb.trans (hh.2.mono (by simp))⟩
def OfP (w:World) (r:(Int × Int × Int) × Int) (e:Ending) (w':World):Prop :=
 e=.returned (.tuple #[.agg #[.int i64 r.1.1,.int i64 r.1.2.1,.int i64 r.1.2.2],.int i64 r.2])/\Below w.heap.size w w'
set_option maxHeartbeats 800000 in
theorem of_any {w:World} {B n c:Nat} {A:Option Addr} {ks:List Kd} (h:KsOk w B A n c ks):Calls Try.prog 19 #[.slice A n c] w (OfP w (ofF (ks.map Kd.p))):=by
 obtain ⟨R,hR⟩:∃ R,R=ofF (ks.map Kd.p):=⟨_,rfl⟩
 rw [<- hR]
 have HR:=hid hR
 obtain ⟨w1,hw1⟩:∃ w1,w1=w.alloc (.cells #[.int i64 0,.int i64 0,.int i64 0] 24):=⟨_,rfl⟩
 have hb1:Below w.heap.size w w1:=by rw [hw1];exact (Below.refl _ w).alloc (Nat.le_refl _) _
 have hk1:Bk w1 w.heap.size 24 #[.int i64 0,.int i64 0,.int i64 0]:=by rw [hw1];exact Bk.new _ _ _
 have h1:=h.below (hb1.mono h.lo)
 have hck:=check_any A n c B ks w1 h1.rd h1.len h1.cap h1.cap2 h1.ok h1.lo
 have HCK:=hid hck
 have H1:=hid h1
 have HB1:=hid hb1
 have HK1:=hid hk1
 clear hR hb1 hk1 h1 hck
 go_enter Try.func19,Try.ntmps19
 go_wp2_with fail
 rw [<- hw1]
 clear hw1
 refine HCK.out.mono ?_
 rintro e w2 ⟨rfl,hb2⟩
 have HB2:=hid (HB1.out.trans (hb2.mono HB1.out.size))
 have HK2:=hid (HK1.out.below hb2 HK1.out.lt)
 have HZ2:Hid (w.heap.size<w2.heap.size):=hid (HK2.out.lt)
 have H2:=hid (H1.out.below (hb2.mono H1.out.lo))
 clear hb2
 generalize hcv:checkF (ks.map Kd.p)=cv at *
 by_cases hc0:cv=0
 . subst hc0
   have hR2:R=if (bfindF (ks.map Kd.p) sPlace nPlace).2≠0 then ((0,0,0),(bfindF (ks.map Kd.p) sPlace nPlace).2) else
    if (bfindF (ks.map Kd.p) sMotion nMotion).2≠0 then ((0,0,0),(bfindF (ks.map Kd.p) sMotion nMotion).2) else
    if (bfindF (ks.map Kd.p) sShape nShape).2≠0 then ((0,0,0),(bfindF (ks.map Kd.p) sShape nShape).2) else
    (((bfindF (ks.map Kd.p) sPlace nPlace).1,(bfindF (ks.map Kd.p) sMotion nMotion).1,(bfindF (ks.map Kd.p) sShape nShape).1),0):=by
    rw [HR.out,ofF,if_neg (by rw [hcv];simp)]
   have HR2:=hid hR2
   clear hR2 HR
   obtain ⟨w3,hw3⟩:∃ w3,w3=w2.alloc (.cells #[.int i64 0,.int i64 0,.int i64 0] 24):=⟨_,rfl⟩
   have hz3:w3.heap.size=w2.heap.size+1:=by rw [hw3];simp
   have hb3:Below w2.heap.size w2 w3:=by rw [hw3];exact (Below.refl _ w2).alloc (Nat.le_refl _) _
   have HM3:Hid (Bk w3 w2.heap.size 24 #[.int i64 0,.int i64 0,.int i64 0]):=hid (by rw [hw3];exact Bk.new _ _ _)
   have HB3:=hid (HB2.out.trans (hb3.mono HB2.out.size))
   have HK3:=hid (HK2.out.below hb3 HZ2.out)
   have H3:=hid (H2.out.below (hb3.mono H2.out.lo))
   clear hb3
   have HZ3:=hid hz3
   clear hz3
   have hf0:Calls Try.prog 95 #[.slice A n c,.string ⟨#[112,108,97,99,101]⟩,.slice (some ⟨(w3).heap.size,0,none⟩) 3 3] ((w3).alloc (.cells #[.string ⟨#[120]⟩,.string ⟨#[121]⟩,.string ⟨#[97,110,103]⟩] 9)) (FindP (w3) (bfindF (ks.map Kd.p) sPlace nPlace)):=find_lit H3.out sPlace nPlace
   rw [HZ3.out] at hf0
   generalize hg0:bfindF (ks.map Kd.p) sPlace nPlace=r0 at *
   obtain ⟨a0,e0⟩:=r0
   have HF0:=hid hf0
   clear hf0
   go_wp2_with fail
   rw [<- hw3]
   clear hw3
   refine HF0.out.mono ?_
   rintro e v0 ⟨rfl,hbv⟩
   replace hbv:Below w3.heap.size (w3) v0:=by
    have h9:=hbv
    exact h9
   have HVM:Hid (Bk v0 w2.heap.size 24 #[.int i64 0,.int i64 0,.int i64 0]):=hid (HM3.out.below hbv (by have:=HM3.out.lt;omega))
   have HVK:Hid (Bk v0 w.heap.size 24 #[.int i64 0,.int i64 0,.int i64 0]):=hid (HK3.out.below hbv (by have:=HK3.out.lt;omega))
   have HVB:Hid (Below w.heap.size w v0):=hid (HB3.out.trans (hbv.mono (by have:=HZ2.out;have:=HM3.out.lt;omega)))
   have HVH:Hid (KsOk v0 B A n c ks):=hid (H3.out.below (hbv.mono (by have:=H3.out.lo;omega)))
   clear hbv
   have HM0_:Hid (Bk (v0.setCell ⟨w2.heap.size,0,none⟩ (.int i64 a0)) w2.heap.size 24 #[.int i64 a0,.int i64 0,.int i64 0]):=hid (HVM.out.set_ 0 (.int i64 a0))
   have HK0_:Hid (Bk (v0.setCell ⟨w2.heap.size,0,none⟩ (.int i64 a0)) w.heap.size 24 #[.int i64 0,.int i64 0,.int i64 0]):=hid (HVK.out.far (by show w.heap.size≠w2.heap.size;have:=HZ2.out;omega) _)
   have HB0_:Hid (Below w.heap.size w (v0.setCell ⟨w2.heap.size,0,none⟩ (.int i64 a0))):=hid (HVB.out.setCell (p:=⟨w2.heap.size,0,none⟩) (by show w.heap.size<=w2.heap.size;have:=HZ2.out;omega) _)
   have HH0_:Hid (KsOk (v0.setCell ⟨w2.heap.size,0,none⟩ (.int i64 a0)) B A n c ks):=hid (HVH.out.below ((Below.refl w.heap.size v0).setCell (p:=⟨w2.heap.size,0,none⟩) (by show w.heap.size<=w2.heap.size;have:=HZ2.out;omega) _ |>.mono h.lo))
   have m0:v0.cell? ⟨w2.heap.size,0,none⟩=some (.int i64 0):=HVM.out.cell 0
   have mf0:=HVM.out.frozen 0
   clear HVM HVK HVB HVH
   by_cases he0:e0=0
   . subst he0
     have HR2':=HR2.out
     rw [if_neg (by simp)] at HR2'
     clear HR2
     have HR2:=hid HR2'
     clear HR2'
     have hf1:Calls Try.prog 95 #[.slice A n c,.string ⟨#[109,111,116,105,111,110]⟩,.slice (some ⟨(v0.setCell ⟨w2.heap.size,0,none⟩ (.int i64 a0)).heap.size,0,none⟩) 4 4] ((v0.setCell ⟨w2.heap.size,0,none⟩ (.int i64 a0)).alloc (.cells #[.string ⟨#[118,120]⟩,.string ⟨#[118,121]⟩,.string ⟨#[115,112,105,110]⟩,.string ⟨#[99,97,108,109]⟩] 9)) (FindP (v0.setCell ⟨w2.heap.size,0,none⟩ (.int i64 a0)) (bfindF (ks.map Kd.p) sMotion nMotion)):=find_lit HH0_.out sMotion nMotion
     rw [show (v0.setCell ⟨w2.heap.size,0,none⟩ (.int i64 a0)).heap.size=v0.heap.size from by simp [World.setCell]] at hf1
     generalize hg1:bfindF (ks.map Kd.p) sMotion nMotion=r1 at *
     obtain ⟨a1,e1⟩:=r1
     have HF1:=hid hf1
     clear hf1
     go_wp2_with fail
     refine HF1.out.mono ?_
     rintro e v1 ⟨rfl,hbv⟩
     replace hbv:Below v0.heap.size (v0.setCell ⟨w2.heap.size,0,none⟩ (.int i64 a0)) v1:=by
      have h9:=hbv
      rw [show (v0.setCell ⟨w2.heap.size,0,none⟩ (.int i64 a0)).heap.size=v0.heap.size from by simp [World.setCell]] at h9
      exact h9
     have HVM:Hid (Bk v1 w2.heap.size 24 #[.int i64 a0,.int i64 0,.int i64 0]):=hid (HM0_.out.below hbv (by have:=HM0_.out.lt;rw [show (v0.setCell ⟨w2.heap.size,0,none⟩ (.int i64 a0)).heap.size=v0.heap.size from by simp [World.setCell]] at this;omega))
     have HVK:Hid (Bk v1 w.heap.size 24 #[.int i64 0,.int i64 0,.int i64 0]):=hid (HK0_.out.below hbv (by have:=HK0_.out.lt;rw [show (v0.setCell ⟨w2.heap.size,0,none⟩ (.int i64 a0)).heap.size=v0.heap.size from by simp [World.setCell]] at this;omega))
     have HVB:Hid (Below w.heap.size w v1):=hid (HB0_.out.trans (hbv.mono (by have:=HZ2.out;have:=HM0_.out.lt;rw [show (v0.setCell ⟨w2.heap.size,0,none⟩ (.int i64 a0)).heap.size=v0.heap.size from by simp [World.setCell]] at this;omega)))
     have HVH:Hid (KsOk v1 B A n c ks):=hid (HH0_.out.below (hbv.mono (by have:=HH0_.out.lo;rw [show (v0.setCell ⟨w2.heap.size,0,none⟩ (.int i64 a0)).heap.size=v0.heap.size from by simp [World.setCell]] at this;omega)))
     clear hbv
     have HM1_:Hid (Bk (v1.setCell ⟨w2.heap.size,1,none⟩ (.int i64 a1)) w2.heap.size 24 #[.int i64 a0,.int i64 a1,.int i64 0]):=hid (HVM.out.set_ 1 (.int i64 a1))
     have HK1_:Hid (Bk (v1.setCell ⟨w2.heap.size,1,none⟩ (.int i64 a1)) w.heap.size 24 #[.int i64 0,.int i64 0,.int i64 0]):=hid (HVK.out.far (by show w.heap.size≠w2.heap.size;have:=HZ2.out;omega) _)
     have HB1_:Hid (Below w.heap.size w (v1.setCell ⟨w2.heap.size,1,none⟩ (.int i64 a1))):=hid (HVB.out.setCell (p:=⟨w2.heap.size,1,none⟩) (by show w.heap.size<=w2.heap.size;have:=HZ2.out;omega) _)
     have HH1_:Hid (KsOk (v1.setCell ⟨w2.heap.size,1,none⟩ (.int i64 a1)) B A n c ks):=hid (HVH.out.below ((Below.refl w.heap.size v1).setCell (p:=⟨w2.heap.size,1,none⟩) (by show w.heap.size<=w2.heap.size;have:=HZ2.out;omega) _ |>.mono h.lo))
     have m1:v1.cell? ⟨w2.heap.size,1,none⟩=some (.int i64 0):=HVM.out.cell 1
     have mf1:=HVM.out.frozen 1
     clear HVM HVK HVB HVH
     by_cases he1:e1=0
     . subst he1
       have HR2':=HR2.out
       rw [if_neg (by simp)] at HR2'
       clear HR2
       have HR2:=hid HR2'
       clear HR2'
       have hf2:Calls Try.prog 95 #[.slice A n c,.string ⟨#[115,104,97,112,101]⟩,.slice (some ⟨(v1.setCell ⟨w2.heap.size,1,none⟩ (.int i64 a1)).heap.size,0,none⟩) 5 5] ((v1.setCell ⟨w2.heap.size,1,none⟩ (.int i64 a1)).alloc (.cells #[.string ⟨#[119]⟩,.string ⟨#[104]⟩,.string ⟨#[109,97,115,115]⟩,.string ⟨#[98,111,117,110,99,101]⟩,.string ⟨#[114,117,98]⟩] 9)) (FindP (v1.setCell ⟨w2.heap.size,1,none⟩ (.int i64 a1)) (bfindF (ks.map Kd.p) sShape nShape)):=find_lit HH1_.out sShape nShape
       rw [show (v1.setCell ⟨w2.heap.size,1,none⟩ (.int i64 a1)).heap.size=v1.heap.size from by simp [World.setCell]] at hf2
       generalize hg2:bfindF (ks.map Kd.p) sShape nShape=r2 at *
       obtain ⟨a2,e2⟩:=r2
       have HF2:=hid hf2
       clear hf2
       go_wp2_with fail
       refine HF2.out.mono ?_
       rintro e v2 ⟨rfl,hbv⟩
       replace hbv:Below v1.heap.size (v1.setCell ⟨w2.heap.size,1,none⟩ (.int i64 a1)) v2:=by
        have h9:=hbv
        rw [show (v1.setCell ⟨w2.heap.size,1,none⟩ (.int i64 a1)).heap.size=v1.heap.size from by simp [World.setCell]] at h9
        exact h9
       have HVM:Hid (Bk v2 w2.heap.size 24 #[.int i64 a0,.int i64 a1,.int i64 0]):=hid (HM1_.out.below hbv (by have:=HM1_.out.lt;rw [show (v1.setCell ⟨w2.heap.size,1,none⟩ (.int i64 a1)).heap.size=v1.heap.size from by simp [World.setCell]] at this;omega))
       have HVK:Hid (Bk v2 w.heap.size 24 #[.int i64 0,.int i64 0,.int i64 0]):=hid (HK1_.out.below hbv (by have:=HK1_.out.lt;rw [show (v1.setCell ⟨w2.heap.size,1,none⟩ (.int i64 a1)).heap.size=v1.heap.size from by simp [World.setCell]] at this;omega))
       have HVB:Hid (Below w.heap.size w v2):=hid (HB1_.out.trans (hbv.mono (by have:=HZ2.out;have:=HM1_.out.lt;rw [show (v1.setCell ⟨w2.heap.size,1,none⟩ (.int i64 a1)).heap.size=v1.heap.size from by simp [World.setCell]] at this;omega)))
       have HVH:Hid (KsOk v2 B A n c ks):=hid (HH1_.out.below (hbv.mono (by have:=HH1_.out.lo;rw [show (v1.setCell ⟨w2.heap.size,1,none⟩ (.int i64 a1)).heap.size=v1.heap.size from by simp [World.setCell]] at this;omega)))
       clear hbv
       have HM2_:Hid (Bk (v2.setCell ⟨w2.heap.size,2,none⟩ (.int i64 a2)) w2.heap.size 24 #[.int i64 a0,.int i64 a1,.int i64 a2]):=hid (HVM.out.set_ 2 (.int i64 a2))
       have HK2_:Hid (Bk (v2.setCell ⟨w2.heap.size,2,none⟩ (.int i64 a2)) w.heap.size 24 #[.int i64 0,.int i64 0,.int i64 0]):=hid (HVK.out.far (by show w.heap.size≠w2.heap.size;have:=HZ2.out;omega) _)
       have HB2_:Hid (Below w.heap.size w (v2.setCell ⟨w2.heap.size,2,none⟩ (.int i64 a2))):=hid (HVB.out.setCell (p:=⟨w2.heap.size,2,none⟩) (by show w.heap.size<=w2.heap.size;have:=HZ2.out;omega) _)
       have HH2_:Hid (KsOk (v2.setCell ⟨w2.heap.size,2,none⟩ (.int i64 a2)) B A n c ks):=hid (HVH.out.below ((Below.refl w.heap.size v2).setCell (p:=⟨w2.heap.size,2,none⟩) (by show w.heap.size<=w2.heap.size;have:=HZ2.out;omega) _ |>.mono h.lo))
       have m2:v2.cell? ⟨w2.heap.size,2,none⟩=some (.int i64 0):=HVM.out.cell 2
       have mf2:=HVM.out.frozen 2
       clear HVM HVK HVB HVH
       by_cases he2:e2=0
       . subst he2
         have HR2':=HR2.out
         rw [if_neg (by simp)] at HR2'
         clear HR2
         have HR2:=hid HR2'
         clear HR2'
         have q0:(v2.setCell ⟨w2.heap.size,2,none⟩ (.int i64 a2)).cell? ⟨w.heap.size,0,none⟩=some (.int i64 0):=HK2_.out.cell 0
         have q1:(v2.setCell ⟨w2.heap.size,2,none⟩ (.int i64 a2)).cell? ⟨w.heap.size,1,none⟩=some (.int i64 0):=HK2_.out.cell 1
         have q2:(v2.setCell ⟨w2.heap.size,2,none⟩ (.int i64 a2)).cell? ⟨w.heap.size,2,none⟩=some (.int i64 0):=HK2_.out.cell 2
         have g0:=HK2_.out.frozen 0
         have g1:=HK2_.out.frozen 1
         have g2:=HK2_.out.frozen 2
         have n0:(v2.setCell ⟨w2.heap.size,2,none⟩ (.int i64 a2)).cell? ⟨w2.heap.size,0,none⟩=some (.int i64 a0):=HM2_.out.cell 0
         have n1:(v2.setCell ⟨w2.heap.size,2,none⟩ (.int i64 a2)).cell? ⟨w2.heap.size,1,none⟩=some (.int i64 a1):=HM2_.out.cell 1
         have n2:(v2.setCell ⟨w2.heap.size,2,none⟩ (.int i64 a2)).cell? ⟨w2.heap.size,2,none⟩=some (.int i64 a2):=HM2_.out.cell 2
         go_wp2_with fail
         (try simp only [Exit.inBlock,Exit.then])
         refine bodyPost_ret (v:=.tuple #[.agg #[.int i64 a0,.int i64 a1,.int i64 a2],.int i64 0]) ?_ rfl ⟨by rw [HR2.out],?_⟩
         . rw [results_cell_tmp rfl]
           go_simp
         . exact ((HB2_.out.setCell (p:=⟨w.heap.size,0,none⟩) (Nat.le_refl _) _).setCell (p:=⟨w.heap.size,1,none⟩) (Nat.le_refl _) _).setCell (p:=⟨w.heap.size,2,none⟩) (Nat.le_refl _) _
       . have heb:(e2 != 0)=true:=by simp [he2]
         have hR9:=HR2.out
         rw [if_pos (by exact he2)] at hR9
         have q0:(v2.setCell ⟨w2.heap.size,2,none⟩ (.int i64 a2)).cell? ⟨w.heap.size,0,none⟩=some (.int i64 0):=HK2_.out.cell 0
         have q1:(v2.setCell ⟨w2.heap.size,2,none⟩ (.int i64 a2)).cell? ⟨w.heap.size,1,none⟩=some (.int i64 0):=HK2_.out.cell 1
         have q2:(v2.setCell ⟨w2.heap.size,2,none⟩ (.int i64 a2)).cell? ⟨w.heap.size,2,none⟩=some (.int i64 0):=HK2_.out.cell 2
         have g0:=HK2_.out.frozen 0
         have g1:=HK2_.out.frozen 1
         have g2:=HK2_.out.frozen 2
         go_wp2_with fail
         (try simp only [Exit.inBlock,Exit.then])
         refine bodyPost_ret (v:=.tuple #[.agg #[.int i64 0,.int i64 0,.int i64 0],.int i64 e2]) ?_ rfl ⟨by rw [hR9],?_⟩
         . rw [results_cell_tmp rfl]
           go_simp
         . exact ((HB2_.out.setCell (p:=⟨w.heap.size,0,none⟩) (Nat.le_refl _) _).setCell (p:=⟨w.heap.size,1,none⟩) (Nat.le_refl _) _).setCell (p:=⟨w.heap.size,2,none⟩) (Nat.le_refl _) _
     . have heb:(e1 != 0)=true:=by simp [he1]
       have hR9:=HR2.out
       rw [if_pos (by exact he1)] at hR9
       have q0:(v1.setCell ⟨w2.heap.size,1,none⟩ (.int i64 a1)).cell? ⟨w.heap.size,0,none⟩=some (.int i64 0):=HK1_.out.cell 0
       have q1:(v1.setCell ⟨w2.heap.size,1,none⟩ (.int i64 a1)).cell? ⟨w.heap.size,1,none⟩=some (.int i64 0):=HK1_.out.cell 1
       have q2:(v1.setCell ⟨w2.heap.size,1,none⟩ (.int i64 a1)).cell? ⟨w.heap.size,2,none⟩=some (.int i64 0):=HK1_.out.cell 2
       have g0:=HK1_.out.frozen 0
       have g1:=HK1_.out.frozen 1
       have g2:=HK1_.out.frozen 2
       go_wp2_with fail
       (try simp only [Exit.inBlock,Exit.then])
       refine bodyPost_ret (v:=.tuple #[.agg #[.int i64 0,.int i64 0,.int i64 0],.int i64 e1]) ?_ rfl ⟨by rw [hR9],?_⟩
       . rw [results_cell_tmp rfl]
         go_simp
       . exact ((HB1_.out.setCell (p:=⟨w.heap.size,0,none⟩) (Nat.le_refl _) _).setCell (p:=⟨w.heap.size,1,none⟩) (Nat.le_refl _) _).setCell (p:=⟨w.heap.size,2,none⟩) (Nat.le_refl _) _
   . have heb:(e0 != 0)=true:=by simp [he0]
     have hR9:=HR2.out
     rw [if_pos (by exact he0)] at hR9
     have q0:(v0.setCell ⟨w2.heap.size,0,none⟩ (.int i64 a0)).cell? ⟨w.heap.size,0,none⟩=some (.int i64 0):=HK0_.out.cell 0
     have q1:(v0.setCell ⟨w2.heap.size,0,none⟩ (.int i64 a0)).cell? ⟨w.heap.size,1,none⟩=some (.int i64 0):=HK0_.out.cell 1
     have q2:(v0.setCell ⟨w2.heap.size,0,none⟩ (.int i64 a0)).cell? ⟨w.heap.size,2,none⟩=some (.int i64 0):=HK0_.out.cell 2
     have g0:=HK0_.out.frozen 0
     have g1:=HK0_.out.frozen 1
     have g2:=HK0_.out.frozen 2
     go_wp2_with fail
     (try simp only [Exit.inBlock,Exit.then])
     refine bodyPost_ret (v:=.tuple #[.agg #[.int i64 0,.int i64 0,.int i64 0],.int i64 e0]) ?_ rfl ⟨by rw [hR9],?_⟩
     . rw [results_cell_tmp rfl]
       go_simp
     . exact ((HB0_.out.setCell (p:=⟨w.heap.size,0,none⟩) (Nat.le_refl _) _).setCell (p:=⟨w.heap.size,1,none⟩) (Nat.le_refl _) _).setCell (p:=⟨w.heap.size,2,none⟩) (Nat.le_refl _) _
 . have hcb:(cv != 0)=true:=by simp [hc0]
   have hR2:=HR.out
   rw [ofF,if_pos (by rw [hcv];exact hc0),hcv] at hR2
   have q0:=HK2.out.cell 0
   have q1:=HK2.out.cell 1
   have q2:=HK2.out.cell 2
   have g0:=HK2.out.frozen 0
   have g1:=HK2.out.frozen 1
   have g2:=HK2.out.frozen 2
   replace q0:w2.cell? ⟨w.heap.size,0,none⟩=some (.int i64 0):=q0
   replace q1:w2.cell? ⟨w.heap.size,1,none⟩=some (.int i64 0):=q1
   replace q2:w2.cell? ⟨w.heap.size,2,none⟩=some (.int i64 0):=q2
   go_wp2_with fail
   (try simp only [Exit.inBlock,Exit.then])
   refine bodyPost_ret (v:=.tuple #[.agg #[.int i64 0,.int i64 0,.int i64 0],.int i64 cv]) ?_ rfl ⟨by rw [hR2],?_⟩
   . rw [results_cell_tmp rfl]
     go_simp
   . exact ((HB2.out.setCell (p:=⟨w.heap.size,0,none⟩) (Nat.le_refl _) _).setCell (p:=⟨w.heap.size,1,none⟩) (Nat.le_refl _) _).setCell (p:=⟨w.heap.size,2,none⟩) (Nat.le_refl _) _
theorem take_eq_succT {α:Type} {l l':List α} {k:Nat} {x y:α} (hx:l[k]?=some x) (hy:l'[k]?=some y) (h:l.take k=l'.take k) (e:x=y):l.take (k+1)=l'.take (k+1):=by
 rw [List.take_add_one,List.take_add_one,hx,hy,h,e]
theorem ne_of_atT {α:Type} {l l':List α} {k:Nat} {x y:α} (hx:l[k]?=some x) (hy:l'[k]?=some y) (h:x≠y):l≠l':=by
 rintro rfl
 rw [hx] at hy
 exact h (Option.some.inj hy)
theorem ret_bT {a b:Bool} (h:a=b):Ending.returned (.bool a)=Ending.returned (.bool b):=by rw [h]
set_option maxHeartbeats 800000 in
theorem equalSS_any (A A':Option Addr) (n c n' c' B:Nat) (l l':List ByteArray) (w:World) (hn:n=l.length) (hn':n'=l'.length) (hm:n<=9223372036854775807) (hr:Rd w B 1 A n (strV l)) (hr':Rd w B 1 A' n' (strV l')) :
 Calls Try.prog 93 #[.slice A n c,.slice A' n' c'] w fun e w'=>e=.returned (.bool (decide (l=l')))/\∃ m,w.drewN m=w':=by
 by_cases h0:n=n'
 . subst h0
   have t0:((n:Int) != n)=false:=by simp
   have HN:=hid hn
   have HN':=hid hn'
   have HR:=hid hr
   have HR':=hid hr'
   clear hn hn' hr hr'
   go_enter Try.func93,Try.ntmps93
   go_wp2_with fail
   go_loopw [13] (fun i wr=>∃ k:Nat,k<=n/\i=.int i64 k/\l.take k=l'.take k/\∃ m,w.drewN m=wr) (fun i _=>n-(intOf i).toNat)
   case atStart=>exact ⟨0,Nat.zero_le _,rfl,rfl,0,rfl⟩
   case round =>
    obtain ⟨k,hk,rfl,hT,m,rfl⟩:=hrel
    have HT:=hid hT
    clear hT
    by_cases hlt:k<n
    . have e1:=HN.out
      have e2:=HN'.out
      obtain ⟨x,hx'⟩:∃ x,l[k]?=some x:=⟨_,List.getElem?_eq_getElem (by omega)⟩
      obtain ⟨y,hy'⟩:∃ y,l'[k]?=some y:=⟨_,List.getElem?_eq_getElem (by omega)⟩
      have hx:=strV_get hx'
      have hy:=strV_get hy'
      obtain ⟨b,o,rfl,_,c0⟩:=HR.out.at1 hlt hx
      obtain ⟨b',o',rfl,_,c1⟩:=HR'.out.at1 hlt hy
      have HX:=hid hx'
      have HY:=hid hy'
      have hk0:(0:Int)<=k:=by omega
      have hkn:(k:Int)<n:=by omega
      clear e1 e2 hx hy hx' hy'
      go_wp2_with fail
      go_quiet (fail)
      by_cases hxy:x=y
      . have HXY:=hid hxy
        subst hxy
        go_wp2_with fail
        . rename_i hh
          exact absurd hh (by simp)
        go_roundw
        case measure=>simp [intOf];omega
        case rel=>exact ⟨k+1,by omega,by go_num,take_eq_succT HX.out HY.out HT.out HXY.out,_,rfl⟩
      . have t1:(x == y)=false:=ba_beq_ne hxy
        have t2:(x.toList == y.toList)=false:=ba_tl_ne hxy
        have t3:(!(x.toList == y.toList))=true:=by simp [t2]
        have t4:(x != y)=true:=by simp [bne,t1]
        have HXY:=hid hxy
        clear hxy
        go_wp2_with fail
        rotate_left
        . rename_i hh
          exact absurd hh (by simp [t2])
        go_ret
        exact ⟨ret_bT (by simp [ne_of_atT HX.out HY.out HXY.out]),_,(World.drewN_drewN _ _ _).symm⟩
    . go_wp2
      go_ret
      obtain rfl:k=n:=by omega
      have h1:=HT.out
      rw [List.take_of_length_le (by rw [<- HN.out];omega),List.take_of_length_le (by rw [<- HN'.out];omega)] at h1
      exact ⟨ret_bT (by simp [h1]),_,rfl⟩
 . have t0:((n:Int) != n')=true:=by simp;omega
   have HE:Hid (l≠l'):=hid (by rintro rfl;omega)
   clear hn hn' hr hr' h0
   go_enter Try.func93,Try.ntmps93
   go_wp2_with fail
   go_ret
   exact ⟨ret_bT (by simp [HE.out]),0,rfl⟩
theorem T.info3:(Try.prog.info? 3).map (fun i=>(i.zero,i.size,i.bytes))=some (some (.int i64 0),1,8):=by kernel_rfl
structure Fq (F:List Nat) (w w':World):Prop where
 os:w'.os=w.os
 tape:w'.tape=w.tape
 output:w'.output=w.output
 size:w.heap.size<=w'.heap.size
 low:∀ k,k<w.heap.size->k ∉ F->w'.heap[k]?=w.heap[k]?
def SubF (F F':List Nat) (s:Nat):Prop:=∀ k∈F',k∈F\/s<=k
section
variable {F F' G:List Nat} {a b c w w':World} {B:Nat}
theorem Fq.refl:Fq F w w:=⟨rfl,rfl,rfl,Nat.le_refl _,fun _ _ _=>rfl⟩
theorem Fq.trans (h:Fq F a b) (k:Fq G b c) (hs:SubF F G a.heap.size):Fq F a c :=
 ⟨k.os.trans h.os,k.tape.trans h.tape,k.output.trans h.output,Nat.le_trans h.size k.size,
  fun i h1 h2=>(k.low i (Nat.lt_of_lt_of_le h1 h.size) (fun hi=>by rcases hs i hi with hj | hj;exact h2 hj;omega)).trans (h.low i h1 h2)⟩
theorem Fq.of_below (h:Below w.heap.size w w'):Fq F w w':=⟨h.os,h.tape,h.output,h.size,fun k hk _=>h.block k hk⟩
theorem Fq.below (h:Fq F w w') (hF:∀ k∈F,B<=k) (hB:B<=w.heap.size):Below B w w' :=
 ⟨h.os,h.tape,h.output,h.size,fun k hk=>h.low k (by omega) (fun hi=>by have:=hF k hi;omega)⟩
theorem Fq.drew (h:Fq F a w):Fq F a w.drew:=⟨h.os,h.tape,h.output,h.size,h.low⟩
theorem Fq.drewN (h:Fq F a w) (n:Nat):Fq F a (w.drewN n):=⟨h.os,h.tape,h.output,h.size,h.low⟩
theorem Fq.set (h:Fq F a w) {g:Nat} (hg:g∈F\/a.heap.size<=g) (i:Nat) (u:Value):Fq F a (w.setCell ⟨g,i,none⟩ u) :=
 ⟨h.os,h.tape,h.output,by simp [World.setCell];exact h.size,fun k h1 h2=>(Below.heap_setCell _ _ _ _ (by show k≠g;rintro rfl;rcases hg with hg | hg;exact h2 hg;omega)).trans (h.low k h1 h2)⟩
theorem Fq.alloc (h:Fq F a w) (o:Obj):Fq F a (w.alloc o) :=
 ⟨h.os,h.tape,h.output,by simp;exact Nat.le_succ_of_le h.size,fun k h1 h2=>(Below.heap_alloc _ _ _ (Nat.lt_of_lt_of_le h1 h.size)).trans (h.low k h1 h2)⟩
theorem Fq.grown (h:Fq F a w) {row:Option Nat} (hg:w.grownBy w' row) (hr:∀ g,row=some g->g∈F\/a.heap.size<=g):Fq F a w' :=
 ⟨hg.os.trans h.os,hg.tape.trans h.tape,hg.output.trans h.output,Nat.le_trans h.size hg.size,fun k h1 h2=>(hg.block k (Nat.lt_of_lt_of_le h1 h.size) (fun e=>by rcases hr k e.symm with h3 | h3;exact h2 h3;omega)).trans (h.low k h1 h2)⟩
theorem SubF.refl (F:List Nat) (s:Nat):SubF F F s:=fun _ h=>.inl h
theorem SubF.trans {s t:Nat} (h:SubF F F' s) (k:SubF F' G t) (hst:s<=t):SubF F G s:=fun i hi=>by
 rcases k i hi with hj | hj
 . exact h i hj
 . exact .inr (by omega)
end
theorem own_keepB {w w':World} {base size n:Nat} {e:TypeId} {v:Value} {xs:List Value} (h:w.ownsRow base e size v n xs) (hk:∀ g,v.ownBlock=some g->w'.heap[g]?=w.heap[g]?):w'.ownsRow base e size v n xs:=by
 refine ⟨h.1,?_⟩
 rcases h.2 with h2 | ⟨g,cap,cur,rfl,h3,h4,h5⟩
 . exact .inl h2
 . exact .inr ⟨g,cap,cur,rfl,h3,(hk g rfl).trans h4,h5⟩
theorem tmod_emod (x n:Int) (hn:0<n):(x.tmod n<0->x.tmod n+n=x % n)/\(0<=x.tmod n->x.tmod n=x % n) /\ -n<x.tmod n/\x.tmod n<n:=by
 have h1:=@Int.tmod_eq_emod x n
 have hd:∀ (p:Prop) [Decidable p] (a b:Nat),((if p then a else b:Nat):Int)=if p then (a:Int) else b:=fun p _ a b=>by split <;> rfl
 rw [hd] at h1
 have h2:n.natAbs=n:=by omega
 have h3:=Int.emod_nonneg x (show n≠0 by omega)
 have h4:=Int.emod_lt_of_pos x hn
 split at h1
 . refine ⟨fun h=>?_,fun h=>?_,?_,?_⟩ <;> omega
 . refine ⟨fun h=>?_,fun h=>?_,?_,?_⟩ <;> omega
set_option maxHeartbeats 800000 in
theorem below_any (x n:Int) (w:World) (h1:1<=n) (h2:n<=9223372036854775807) :
 Calls Try.prog 24 #[.int i64 x,.int i64 n] w fun e w'=>e=.returned (.int i64 (x % n))/\w=w':=by
 obtain ⟨m1,m2,m3,m4⟩:=tmod_emod x n (by omega)
 have M1:=hid m1
 have M2:=hid m2
 generalize hT:x.tmod n=T at *
 have HE:Hid (x % n=x % n):=hid rfl
 generalize x % n=E at *
 clear m1 m2 HE
 have hnz:(n == 0)=false:=by simp;omega
 by_cases hT0:T<0
 . go_enter Try.func24,Try.ntmps24
   go_wp2_with fail
   go_ret
   exact ⟨ret_i (M1.out hT0),rfl⟩
 . go_enter Try.func24,Try.ntmps24
   go_wp2_with fail
   go_ret
   exact ⟨ret_i (M2.out (by omega)),rfl⟩
theorem take_eq_succ {α:Type} {l l':List α} {k:Nat} {x y:α} (hx:l[k]?=some x) (hy:l'[k]?=some y) (h:l.take k=l'.take k) (e:x=y):l.take (k+1)=l'.take (k+1):=by
 rw [List.take_add_one,List.take_add_one,hx,hy,h,e]
theorem ne_of_at {α:Type} {l l':List α} {k:Nat} {x y:α} (hx:l[k]?=some x) (hy:l'[k]?=some y) (e:x≠y):l≠l':=by
 rintro rfl;rw [hx] at hy;injection hy with hy;exact e hy
def RetS (w0:World) (t:TypeId) (size n:Nat) (xs:List Value) (e:Ending) (w':World):Prop :=
 ∃ A c,e=.returned (.slice A n c)/\w'.ownsRow w0.heap.size t size (.slice A n c) n xs/\Below w0.heap.size w0 w'
theorem intsV_get (l:List Int) (k:Nat) (h:k<l.length):(l.map (Value.int .i64))[k]?=some (.int i64 (l.getD k 0)):=by
 simp [List.getD,List.getElem?_eq_getElem h]
set_option maxHeartbeats 800000 in
theorem equalInts_any (A A':Option Addr) (n c n' c' B:Nat) (l l':List Int) (w:World) (hn:n=l.length) (hn':n'=l'.length) (hm:n<=9223372036854775807) (hr:Rd w B 1 A n (l.map (Value.int .i64))) (hr':Rd w B 1 A' n' (l'.map (Value.int .i64))) :
 Calls Try.prog 27 #[.slice A n c,.slice A' n' c'] w fun e w'=>e=.returned (.bool (decide (l=l')))/\∃ m,w.drewN m=w':=by
 by_cases h0:n=n'
 . subst h0
   have t0:((n:Int) != n)=false:=by simp
   have HN:=hid hn
   have HN':=hid hn'
   have HR:=hid hr
   have HR':=hid hr'
   clear hn hn' hr hr'
   go_enter Try.func27,Try.ntmps27
   go_wp2_with fail
   go_loopw [13] (fun i wr=>∃ k:Nat,k<=n/\i=.int i64 k/\l.take k=l'.take k/\∃ m,w.drewN m=wr) (fun i _=>n-(intOf i).toNat)
   case atStart=>exact ⟨0,Nat.zero_le _,rfl,rfl,0,rfl⟩
   case round =>
    obtain ⟨k,hk,rfl,hT,m,rfl⟩:=hrel
    have HT:=hid hT
    clear hT
    by_cases hlt:k<n
    . have e1:=HN.out
      have e2:=HN'.out
      have hx:=intsV_get l k (by omega)
      have hy:=intsV_get l' k (by omega)
      have hx':l[k]?=some (l.getD k 0):=by simp [List.getD,List.getElem?_eq_getElem (show k<l.length by omega)]
      have hy':l'[k]?=some (l'.getD k 0):=by simp [List.getD,List.getElem?_eq_getElem (show k<l'.length by omega)]
      generalize l.getD k 0=x at hx hx'
      generalize l'.getD k 0=y at hy hy'
      obtain ⟨b,o,rfl,_,c0⟩:=HR.out.at1 hlt hx
      obtain ⟨b',o',rfl,_,c1⟩:=HR'.out.at1 hlt hy
      have HX:=hid hx'
      have HY:=hid hy'
      have hk0:(0:Int)<=k:=by omega
      have hkn:(k:Int)<n:=by omega
      clear e1 e2 hx hy hx' hy'
      go_wp2_with fail
      go_quiet (fail)
      by_cases hxy:x=y
      . have t1:(x != y)=false:=by simp [hxy]
        have HXY:=hid hxy
        clear hxy
        go_wp2_with fail
        go_roundw
        case measure=>simp [intOf];omega
        case rel=>exact ⟨k+1,by omega,by go_num,take_eq_succ HX.out HY.out HT.out HXY.out,_,rfl⟩
      . have t1:(x != y)=true:=by simp;omega
        have HXY:=hid hxy
        clear hxy
        go_wp2_with fail
        go_ret
        exact ⟨ret_b (by simp [ne_of_at HX.out HY.out HXY.out]),_,(World.drewN_drewN _ _ _).symm⟩
    . go_wp2
      go_ret
      obtain rfl:k=n:=by omega
      have h1:=HT.out
      rw [List.take_of_length_le (by rw [<- HN.out];omega),List.take_of_length_le (by rw [<- HN'.out];omega)] at h1
      exact ⟨ret_b (by simp [h1]),_,rfl⟩
 . have t0:((n:Int) != n')=true:=by simp;omega
   have HE:Hid (l≠l'):=hid (by rintro rfl;omega)
   clear hn hn' hr hr' h0
   go_enter Try.func27,Try.ntmps27
   go_wp2_with fail
   go_ret
   exact ⟨ret_b (by simp [HE.out]),0,rfl⟩
theorem Gb.trans {a b c:World} {g:Nat} (h:a.grownBy b (some g)) (k:b.grownBy c (some g)):a.grownBy c (some g) :=
 ⟨k.os.trans h.os,k.tape.trans h.tape,k.output.trans h.output,Nat.le_trans h.size k.size,fun i hi hne=>(k.block i (Nat.lt_of_lt_of_le hi h.size) hne).trans (h.block i hi hne)⟩
theorem Gb.drewN {a w:World} {row:Option Nat} (h:a.grownBy w row) (n:Nat):a.grownBy (w.drewN n) row:=⟨h.os,h.tape,h.output,h.size,h.block⟩
theorem Gb.drew {a w:World} {row:Option Nat} (h:a.grownBy w row):a.grownBy w.drew row:=⟨h.os,h.tape,h.output,h.size,h.block⟩
theorem Gb.set_ {a w:World} {g:Nat} (h:a.grownBy w (some g)) (i:Nat) (u:Value):a.grownBy (w.setCell ⟨g,i,none⟩ u) (some g) :=
 ⟨h.os,h.tape,h.output,by simpa [World.setCell] using h.size,fun i hi hne=>(Below.heap_setCell w _ u i (by intro e;exact hne (by rw [e]))).trans (h.block i hi hne)⟩
theorem Gb.below {a w:World} {g B:Nat} (h:a.grownBy w (some g)) (hg:B<=g) (hB:B<=a.heap.size):Below B a w :=
 ⟨h.os,h.tape,h.output,h.size,fun k hk=>h.block k (by omega) (by intro e;injection e;omega)⟩
def StrSt (w:World) (B s:Nat):Prop :=
 ∃ (A:Option Addr) (n c:Nat) (zs:List Int),Bk w s 189 #[.slice A n c]/\n=zs.length/\n<=c/\c<=9223372036854775807/\Rd w B 1 A n (zs.map (Value.int .i64))/\∀ z∈zs,(Lit.int i64 z).wf=true
theorem StrSt.below {w w':World} {B s:Nat} (h:StrSt w B s) (hb:Below w.heap.size w w') (hB:B<=w.heap.size):StrSt w' B s:=by
 obtain ⟨A,n,c,zs,h1,h2,h3,h4,h5,h6⟩:=h
 exact ⟨A,n,c,zs,h1.below hb h1.lt,h2,h3,h4,h5.below (hb.mono hB),h6⟩
theorem cut1 {w:World} {B n c:Nat} {A:Option Addr} {z:Value} {zs:List Value} (h:Rd w B 1 A (n+1) (z::zs)) (hc:n+1<=c):∃ b o,A=some ⟨b,o,none⟩/\b<B/\w.cell? ⟨b,o,none⟩=some z /\
 Rd w B 1 (if c=1 then some ⟨b,o,none⟩ else some ⟨b,o+1,none⟩) n zs:=by
 obtain ⟨b,o,rfl,hb,hcell⟩:=h.2 (by omega)
 refine ⟨b,o,rfl,hb,hcell 0 z rfl,by have:=h.1;simpa using this,fun hn=>?_⟩
 rw [if_neg (by omega)]
 refine ⟨b,o+1,rfl,hb,fun j u hu=>?_⟩
 have:=hcell (j+1) u (by simpa using hu)
 rw [show o+1+j=o+(j+1) by omega]
 exact this
set_option maxHeartbeats 800000 in
theorem next_any (s B:Nat) (N:Int) (w:World) (hst:StrSt w B s) (hB:B<=s) (h1:1<=N) (h2:N<=1099511627776) :
 Calls Try.prog 98 #[.pointer (some ⟨s,0,none⟩),.int i64 N] w fun e w'=>(∃ v,e=.returned (.int i64 v)/\0<=v/\v<N/\StrSt w' B s/\w.grownBy w' (some s)):=by
 obtain ⟨A,n,c,zs,hbk,hn,hnc,hc,hr,hwf⟩:=hst
 have c0:w.cell? ⟨s,0,none⟩=some (.slice A n c):=hbk.cell 0
 cases zs with
 | nil =>
   obtain rfl:n=0:=by simpa using hn
   have HR:=hid hr
   clear hn hr hwf
   go_enter Try.func98,Try.ntmps98
   go_wp2_with fail
   go_ret
   exact ⟨0,rfl,by omega,by omega,⟨A,0,c,[],hbk,rfl,hnc,hc,HR.out,by simp⟩,World.grownBy.refl w _⟩
 | cons z zs =>
   obtain ⟨n,rfl⟩:∃ m,n=m+1:=⟨zs.length,by simpa using hn⟩
   have hn':n=zs.length:=by simpa using hn
   obtain ⟨b,o,rfl,hbB,cz,hr'⟩:=cut1 (z:=.int i64 z) (zs:=zs.map (Value.int .i64)) hr hnc
   have hz:=hwf z (List.mem_cons_self ..)
   have H:=hid (fun (wx:World)=>below_any z N wx h1 (by omega))
   have HN:=hid hn'
   have hne:s≠b:=by omega
   have hne':b≠s:=by omega
   have t0:((n:Int)+1 == 0)=false:=by simp;omega
   have f0:=hbk.frozen 0
   have HWF:=hid hwf
   have HRR:=hid hr'
   have hm0:=Int.emod_nonneg z (show N≠0 by omega)
   have hm1:=Int.emod_lt_of_pos z (show 0<N by omega)
   obtain ⟨V,hV⟩:∃ V,V=z % N:=⟨_,rfl⟩
   rw [<- hV] at hm0 hm1 H
   clear hn hn' hz hwf hr hr' hV
   go_enter Try.func98,Try.ntmps98
   go_wp2_with fail
   all_goals
    refine (H.out _).mono ?_
    rintro e w1 ⟨rfl,rfl⟩
    go_wp2_with fail
    go_ret
   . obtain rfl:n=0:=by omega
     refine ⟨V,rfl,hm0,hm1,⟨_,0,0,zs,hbk.set_ 0 _,HN.out,by omega,by omega,?_,fun i hi=>HWF.out i (List.mem_cons_of_mem _ hi)⟩,Gb.set_ (World.grownBy.refl w _) 0 _⟩
     have:zs=[]:=List.eq_nil_of_length_eq_zero HN.out.symm
     subst this
     exact Rd.nil_ _
   . have hc1:c≠1:=by omega
     have hr2:=HRR.out
     rw [if_neg hc1] at hr2
     refine ⟨V,rfl,hm0,hm1,⟨_,n,c-1,zs,hbk.set_ 0 _,HN.out,by omega,by omega,?_,fun i hi=>HWF.out i (List.mem_cons_of_mem _ hi)⟩,Gb.set_ (World.grownBy.refl w _) 0 _⟩
     exact hr2.keep fun k hk=>Below.heap_setCell _ _ _ _ (by show k≠s;omega)
theorem StrSt.bk {w:World} {B s:Nat} (h:StrSt w B s):∃ cs,Bk w s 189 cs:=by obtain ⟨A,n,c,zs,h1,_⟩:=h;exact ⟨_,h1⟩
set_option maxHeartbeats 800000 in
theorem cloneInts_any (A:Option Addr) (n c B:Nat) (xs:List Value) (w:World) (hr:Rd w B 1 A n xs) (h1:∀ u∈xs,u.oneCell'=true) (hB:B<=w.heap.size) (hs:n*8<=140737488355328) :
 Calls Try.prog 103 #[.slice A n c] w (RetS w 3 1 n xs):=by
 obtain ⟨i0,hi0,hz0,hz1,hz2⟩:=info_parts T.info3
 have hn:=fun wx=>Lib.run_eql_slice_nil (P:=Try.prog) wx 30 3 A n c 0 0 Try.underlying30
 cases A with
 | none =>
   obtain rfl:n=0:=by
    rcases Nat.eq_zero_or_pos n with h | h
    . exact h
    . obtain ⟨_,_,h,_⟩:=hr.2 h;cases h
   obtain rfl:xs=[]:=List.eq_nil_of_length_eq_zero (by simpa using hr.1)
   go_enter Try.func103,Try.ntmps103
   go_wp2_with fail
   go_ret
   exact ⟨none,0,by simp,World.ownsRow_nil _ _ _ _,Below.refl _ _⟩
 | some a =>
   go_enter Try.func103,Try.ntmps103
   go_wp2_with
    (at_builtin
     go_must (refine wpList_append_rd _ rfl (.tmp 5) (.tmp 6) _ rfl w.heap.size 3 i0 (.int i64 0) 1 8 Try.underlying30 hi0 hz0 hz1 hz2 rfl (by decide) (.slice (some ⟨w.heap.size,0,none⟩) 0 0) 0 [] rfl (World.ownsRow_lit w #[] 0 (Nat.le_refl _) (by decide) rfl) B (some a) n c xs rfl (hr.below ((Below.refl B w).alloc hB _)) h1 ?c2 ?c3 ?c4 ?_)
     case c2=>unfold maxLen;omega
     case c3=>omega
     case c4=>simp
     intro A' c' w1 hown1 hg1 hat1)
   go_ret
   simp only [Nat.zero_add,List.nil_append] at hown1
   exact ⟨A',c',by simp,hown1,((Below.refl _ _).alloc (Nat.le_refl _) _).grown hg1 (by simp) (by simp [Value.ownBlock])⟩
def Tr (w:World) (e:TypeId) (size:Nat) (A:Option Addr) (n:Nat) (xs:List Value):Prop :=
 xs.length=n*size/\(0<n->∃ b o cs,A=some ⟨b,o,none⟩/\Bk w b e cs/\∀ j u,xs[j]?=some u->cs[o+j]?=some u)
theorem Tr.rd {w:World} {e:TypeId} {size n:Nat} {A:Option Addr} {xs:List Value} (h:Tr w e size A n xs):Rd w w.heap.size size A n xs:=by
 refine ⟨h.1,fun hn=>?_⟩
 obtain ⟨b,o,cs,hA,hb,hc⟩:=h.2 hn
 exact ⟨b,o,hA,hb.lt,fun j u hu=>(hb.cell _).trans (hc j u hu)⟩
theorem Tr.of_own {w:World} {base:Nat} {e:TypeId} {size n c:Nat} {A:Option Addr} {xs:List Value} (h:w.ownsRow base e size (.slice A n c) n xs):Tr w e size A n xs:=by
 refine ⟨h.1,fun hn=>?_⟩
 rcases h.2 with ⟨hv,rfl⟩ | ⟨g,cap,cur,hv,_,hb,_,_,hs,ht⟩
 . omega
 . injection hv with hA _ _
   refine ⟨g,0,cur,hA,hb,fun j u hu=>?_⟩
   rw [Nat.zero_add,<- Array.getElem?_toList]
   rw [<- ht,List.getElem?_take] at hu
   split at hu
   . exact hu
   . cases hu
theorem Bk.drew {w:World} {g:Nat} {t:TypeId} {cs:Array Value} (h:Bk w g t cs):Bk w.drew g t cs:=h
theorem below_dn {B:Nat} {w w':World} (h:Below B w w') (q:Nat):Below B w (w'.drewN q):=h.trans ⟨rfl,rfl,rfl,Nat.le_refl _,fun _ _=>rfl⟩
theorem own_ty {w:World} {base size n g:Nat} {e:TypeId} {v:Value} {xs:List Value} (h:w.ownsRow base e size v n xs) (hv:v.ownBlock=some g):∃ cs,Bk w g e cs:=by
 rcases h.2 with ⟨hv',_⟩ | ⟨g',cap,cur,hv',_,hb,_⟩
 . subst hv';simp [Value.ownBlock] at hv
 . subst hv'
   have e:g'=g:=by simpa [Value.ownBlock] using hv
   subst e
   exact ⟨_,hb⟩
theorem own_cap2 {w:World} {base size n c:Nat} {e:TypeId} {A:Option Addr} {xs:List Value} (h:w.ownsRow base e size (.slice A n c) n xs):n<=c/\c<=9223372036854775807:=by
 rcases h.2 with ⟨hv,_⟩ | ⟨g',cap,cur,hv,_,_,h1,h2,_⟩
 . injection hv;omega
 . injection hv with _ _ h3
   unfold maxLen at h2
   omega
theorem Tr.fq {w w':World} {e:TypeId} {size n:Nat} {A:Option Addr} {xs:List Value} {F:List Nat} (h:Tr w e size A n xs) (hq:Fq F w w') (hF:∀ b∈F,∃ t cs,Bk w b t cs/\t≠e):Tr w' e size A n xs:=by
 refine ⟨h.1,fun hn=>?_⟩
 obtain ⟨b,o,cs,hA,hb,hc⟩:=h.2 hn
 refine ⟨b,o,cs,hA,(hq.low b hb.lt fun hbF=>?_).trans hb,hc⟩
 obtain ⟨t,cs',hb',ht⟩:=hF b hbF
 exact Bk.ne_ hb' hb ht rfl
theorem Tr.below {w w':World} {e:TypeId} {size n:Nat} {A:Option Addr} {xs:List Value} (h:Tr w e size A n xs) (hb:Below w.heap.size w w'):Tr w' e size A n xs :=
 h.fq (Fq.of_below (F:=[]) hb) fun b hb=>by cases hb
theorem Tr.grown {w w':World} {e:TypeId} {size n:Nat} {A:Option Addr} {xs:List Value} {row:Option Nat} (h:Tr w e size A n xs) (hg:w.grownBy w' row) (hr:∀ b,row=some b->∃ t cs,Bk w b t cs/\t≠e):Tr w' e size A n xs:=by
 refine ⟨h.1,fun hn=>?_⟩
 obtain ⟨b,o,cs,hA,hb,hc⟩:=h.2 hn
 refine ⟨b,o,cs,hA,hb.grown hg fun hbF=>?_,hc⟩
 obtain ⟨t,cs',hb',ht⟩:=hr b hbF.symm
 exact Bk.ne_ hb' hb ht rfl
end Go.Proofs.Ytnidcmhfbkdioaa
