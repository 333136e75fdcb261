/-
  Lemmas for the walk, merged (Kl Km Kn Ko Mn Mo Mh Mq Kp). No condition but those in each statement.
-/
import Derived.Laws.ResultCell
import Derived.Deep.CutBlock
import Derived.Test.YtnidcmhfbkdioaaSw13
import Derived.Test.YtnidcmhfbkdioaaSw9
import Derived.Test.YtnidcmhfbkdioaaSw8
import Derived.Test.YtnidcmhfbkdioaaSw10
import Derived.Test.YtnidcmhfbkdioaaSw12
namespace Go.Proofs.Ytnidcmhfbkdioaa
open Go.RowKit
open Go.IntKind (i64)
open Go.Lib (hid)
set_option maxRecDepth 100000
def sp0:ByteArray × List ByteArray:=(⟨#[112,108,97,99,101]⟩,[⟨#[120]⟩,⟨#[121]⟩,⟨#[97,110,103]⟩])
def sp1:ByteArray × List ByteArray:=(⟨#[109,111,116,105,111,110]⟩,[⟨#[118,120]⟩,⟨#[118,121]⟩,⟨#[115,112,105,110]⟩,⟨#[99,97,108,109]⟩])
def sp2:ByteArray × List ByteArray:=(⟨#[115,104,97,112,101]⟩,[⟨#[119]⟩,⟨#[104]⟩,⟨#[109,97,115,115]⟩,⟨#[98,111,117,110,99,101]⟩,⟨#[114,117,98]⟩])
def sp3:ByteArray × List ByteArray:=(⟨#[105,110,112,117,116]⟩,[⟨#[112,108,97,121,101,114]⟩,⟨#[107,101,121,115]⟩,⟨#[120]⟩,⟨#[121]⟩])
def sp4:ByteArray × List ByteArray:=(⟨#[109,105,110,100]⟩,[⟨#[112,114,111,103]⟩])
def NamedP (w:World) (r:Int × Bool) (e:Ending) (w':World):Prop:=e=.returned (.tuple #[.int i64 r.1,.bool r.2])/\Below w.heap.size w w'
theorem named_lit {w:World} {B n c:Nat} {A:Option Addr} {ks:List Kd} (h:KsOk w B A n c ks) (hsm:∀ k∈ks,k.n<=1048576) (nm:ByteArray) (ns:List ByteArray) :
 Calls Try.prog 154 #[.slice A n c,.string nm,.slice (some ⟨w.heap.size,0,none⟩) ns.length ns.length] (w.alloc (.cells (strV ns).toArray 9)) (NamedP w (namedF (ks.map Kd.p) nm ns)):=by
 have hb:=(Below.refl w.heap.size w).alloc (Nat.le_refl _) (.cells (strV ns).toArray 9)
 have h2:=(h.below (hb.mono h.lo)).more (B':=w.heap.size+1) (by have:=h.lo;omega) (by simp)
 have hl:=Rd.lit w (strV ns) 9
 rw [show (strV ns).length=ns.length by simp [strV]] at hl
 exact (named_any A (some ⟨w.heap.size,0,none⟩) n c ns.length ns.length (w.heap.size+1) ks nm ns _ h2.rd h2.len h2.cap h2.cap2 h2.ok hsm hl rfl h2.lo).mono fun e w' hh=>⟨hh.1,hb.trans (hh.2.mono (by simp))⟩
structure SpSt (w v:World) (B:Nat) (A:Option Addr) (n c:Nat) (ks:List Kd) (x y:Array Value):Prop where
 ks:KsOk v B A n c ks
 bx:Bk v w.heap.size 141 x
 ly:Bk v (w.heap.size+1) 142 y
 bl:Below w.heap.size w v
 lo:B<=w.heap.size
theorem SpSt.next {w v v':World} {B n c:Nat} {A:Option Addr} {ks:List Kd} {x y:Array Value} (h:SpSt w v B A n c ks x y) (hb:Below v.heap.size v v'):SpSt w v' B A n c ks x y :=
 ⟨h.ks.below (hb.mono h.ks.lo),h.bx.below hb h.bx.lt,h.ly.below hb h.ly.lt,h.bl.trans (hb.mono h.bl.size),h.lo⟩
theorem SpSt.put {w v:World} {B n c:Nat} {A:Option Addr} {ks:List Kd} {x y:Array Value} (h:SpSt w v B A n c ks x y) (i:Nat) (a b:Value) :
 SpSt w ((v.setCell ⟨w.heap.size,i,none⟩ a).setCell ⟨w.heap.size+1,i,none⟩ b) B A n c ks (x.setIfInBounds i a) (y.setIfInBounds i b):=by
 have hb:Below w.heap.size v ((v.setCell ⟨w.heap.size,i,none⟩ a).setCell ⟨w.heap.size+1,i,none⟩ b) :=
  ((Below.refl w.heap.size v).setCell (p:=⟨w.heap.size,i,none⟩) (Nat.le_refl _) _).setCell (p:=⟨w.heap.size+1,i,none⟩) (Nat.le_succ _) _
 exact ⟨h.ks.below (hb.mono h.lo),(h.bx.set_ i a).far (by show w.heap.size≠w.heap.size+1;omega) _,(h.ly.far (by show w.heap.size+1≠w.heap.size;omega) _).set_ i b,h.bl.trans hb,h.lo⟩
theorem SpSt.start {w:World} {B n c:Nat} {A:Option Addr} {ks:List Kd} (h:KsOk w B A n c ks) (x y:Array Value):SpSt w ((w.alloc (.cells x 141)).alloc (.cells y 142)) B A n c ks x y:=by
 have hb:=((Below.refl w.heap.size w).alloc (Nat.le_refl _) (.cells x 141)).alloc (by simp) (.cells y 142)
 exact ⟨h.below (hb.mono h.lo),(Bk.new w 141 x).alloc _,Bk.new2 w _ 142 y,hb,h.lo⟩
theorem results_cell_cell {fn:Func} {p q:Tmp} {ty tz:TypeId} (h:fn.results=#[.cell p ty,.cell q tz]) (tmps:Array Value) (P:Program) (w:World) :
 (results fn tmps).run P w =
  ((asAddr (tmps.getD p undef)).run P w).andThen fun a w₁=>((loadVar ty a).run P w₁).andThen fun v w₂ =>
    ((asAddr (tmps.getD q undef)).run P w₂).andThen fun a w₃=>((loadVar tz a).run P w₃).andThen fun u w₄=>.ok (.tuple #[v,u]) w₄:=by
 simp only [results,h]
 simp [Sem.run_bind,Result.andThen]
def spec (ks:List (ByteArray × List Fd)) (s:ByteArray × List ByteArray):Int × Bool:=namedF ks s.1 s.2
def spX (ks:List (ByteArray × List Fd)):Value:=.agg #[.int i64 (spec ks sp0).1,.int i64 (spec ks sp1).1,.int i64 (spec ks sp2).1,.int i64 (spec ks sp3).1,.int i64 (spec ks sp4).1]
def spY (ks:List (ByteArray × List Fd)):Value:=.agg #[.bool (spec ks sp0).2,.bool (spec ks sp1).2,.bool (spec ks sp2).2,.bool (spec ks sp3).2,.bool (spec ks sp4).2]
def SpecP (w:World) (ks:List (ByteArray × List Fd)) (e:Ending) (w':World):Prop:=e=.returned (.tuple #[spX ks,spY ks])/\Below w.heap.size w w'
set_option maxHeartbeats 1600000 in
theorem special_any {w:World} {B n c:Nat} {A:Option Addr} {ks:List Kd} (h:KsOk w B A n c ks) (hsm:∀ k∈ks,k.n<=1048576):Calls Try.prog 67 #[.slice A n c] w (SpecP w (ks.map Kd.p)):=by
 obtain ⟨w0,hw0⟩:∃ w0,w0=(w.alloc (.cells #[.int i64 0,.int i64 0,.int i64 0,.int i64 0,.int i64 0] 141)).alloc (.cells #[.bool false,.bool false,.bool false,.bool false,.bool false] 142):=⟨_,rfl⟩
 have HS0:Hid (SpSt w w0 B A n c ks #[.int i64 0,.int i64 0,.int i64 0,.int i64 0,.int i64 0] #[.bool false,.bool false,.bool false,.bool false,.bool false]):=hid (by rw [hw0];exact SpSt.start h _ _)
 have HSM:=hid hsm
 clear hsm
 unfold SpecP spX spY
 generalize hr0:spec (ks.map Kd.p) sp0=r0
 obtain ⟨a0,b0⟩:=r0
 generalize hr1:spec (ks.map Kd.p) sp1=r1
 obtain ⟨a1,b1⟩:=r1
 generalize hr2:spec (ks.map Kd.p) sp2=r2
 obtain ⟨a2,b2⟩:=r2
 generalize hr3:spec (ks.map Kd.p) sp3=r3
 obtain ⟨a3,b3⟩:=r3
 generalize hr4:spec (ks.map Kd.p) sp4=r4
 obtain ⟨a4,b4⟩:=r4
 go_enter Try.func67,Try.ntmps67
 have hf:Calls Try.prog 154 #[.slice A n c,.string ⟨#[112,108,97,99,101]⟩,.slice (some ⟨(w0).heap.size,0,none⟩) 3 3] ((w0).alloc (.cells #[.string ⟨#[120]⟩,.string ⟨#[121]⟩,.string ⟨#[97,110,103]⟩] 9)) (NamedP (w0) (a0,b0)):=by
  have h9:=named_lit HS0.out.ks HSM.out sp0.1 sp0.2
  rw [show namedF (ks.map Kd.p) sp0.1 sp0.2=(a0,b0) from hr0] at h9
  exact h9
 have HW0:=hid hw0
 have HF0:=hid hf
 clear hf hr0
 clear hw0
 go_wp2_with fail
 rw [<- HW0.out]
 rw [show w.heap.size+1+1=w0.heap.size from by rw [HW0.out];simp]
 refine HF0.out.mono ?_
 rintro e v0 ⟨rfl,hbv⟩
 have HV0:=hid (HS0.out.next hbv)
 clear hbv HS0 HF0
 have m0:v0.cell? ⟨w.heap.size,0,none⟩=some (.int i64 0):=HV0.out.bx.cell 0
 have mf0:=HV0.out.bx.frozen 0
 have my0:(v0.setCell ⟨w.heap.size,0,none⟩ (.int i64 a0)).cell? ⟨w.heap.size+1,0,none⟩=some (.bool false):=(HV0.out.ly.far (by show w.heap.size+1≠w.heap.size;omega) _).cell 0
 have myf0:(v0.setCell ⟨w.heap.size,0,none⟩ (.int i64 a0)).frozen? ⟨w.heap.size+1,0,none⟩=false:=(HV0.out.ly.far (by show w.heap.size+1≠w.heap.size;omega) _).frozen 0
 have HS1:Hid (SpSt w ((v0.setCell ⟨w.heap.size,0,none⟩ (.int i64 a0)).setCell ⟨w.heap.size+1,0,none⟩ (.bool b0)) B A n c ks #[.int i64 a0,.int i64 0,.int i64 0,.int i64 0,.int i64 0] #[.bool b0,.bool false,.bool false,.bool false,.bool false]):=hid (HV0.out.put 0 (.int i64 a0) (.bool b0))
 have hf:Calls Try.prog 154 #[.slice A n c,.string ⟨#[109,111,116,105,111,110]⟩,.slice (some ⟨((v0.setCell ⟨w.heap.size,0,none⟩ (.int i64 a0)).setCell ⟨w.heap.size+1,0,none⟩ (.bool b0)).heap.size,0,none⟩) 4 4] (((v0.setCell ⟨w.heap.size,0,none⟩ (.int i64 a0)).setCell ⟨w.heap.size+1,0,none⟩ (.bool b0)).alloc (.cells #[.string ⟨#[118,120]⟩,.string ⟨#[118,121]⟩,.string ⟨#[115,112,105,110]⟩,.string ⟨#[99,97,108,109]⟩] 9)) (NamedP ((v0.setCell ⟨w.heap.size,0,none⟩ (.int i64 a0)).setCell ⟨w.heap.size+1,0,none⟩ (.bool b0)) (a1,b1)):=by
  have h9:=named_lit HS1.out.ks HSM.out sp1.1 sp1.2
  rw [show namedF (ks.map Kd.p) sp1.1 sp1.2=(a1,b1) from hr1] at h9
  exact h9
 rw [show ((v0.setCell ⟨w.heap.size,0,none⟩ (.int i64 a0)).setCell ⟨w.heap.size+1,0,none⟩ (.bool b0)).heap.size=v0.heap.size from by simp [World.setCell]] at hf
 have HF1:=hid hf
 clear hf hr1
 go_wp2_with fail
 refine HF1.out.mono ?_
 rintro e v1 ⟨rfl,hbv⟩
 have HV1:=hid (HS1.out.next hbv)
 clear hbv HS1 HF1
 have m1:v1.cell? ⟨w.heap.size,1,none⟩=some (.int i64 0):=HV1.out.bx.cell 1
 have mf1:=HV1.out.bx.frozen 1
 have my1:(v1.setCell ⟨w.heap.size,1,none⟩ (.int i64 a1)).cell? ⟨w.heap.size+1,1,none⟩=some (.bool false):=(HV1.out.ly.far (by show w.heap.size+1≠w.heap.size;omega) _).cell 1
 have myf1:(v1.setCell ⟨w.heap.size,1,none⟩ (.int i64 a1)).frozen? ⟨w.heap.size+1,1,none⟩=false:=(HV1.out.ly.far (by show w.heap.size+1≠w.heap.size;omega) _).frozen 1
 have HS2:Hid (SpSt w ((v1.setCell ⟨w.heap.size,1,none⟩ (.int i64 a1)).setCell ⟨w.heap.size+1,1,none⟩ (.bool b1)) B A n c ks #[.int i64 a0,.int i64 a1,.int i64 0,.int i64 0,.int i64 0] #[.bool b0,.bool b1,.bool false,.bool false,.bool false]):=hid (HV1.out.put 1 (.int i64 a1) (.bool b1))
 have hf:Calls Try.prog 154 #[.slice A n c,.string ⟨#[115,104,97,112,101]⟩,.slice (some ⟨((v1.setCell ⟨w.heap.size,1,none⟩ (.int i64 a1)).setCell ⟨w.heap.size+1,1,none⟩ (.bool b1)).heap.size,0,none⟩) 5 5] (((v1.setCell ⟨w.heap.size,1,none⟩ (.int i64 a1)).setCell ⟨w.heap.size+1,1,none⟩ (.bool b1)).alloc (.cells #[.string ⟨#[119]⟩,.string ⟨#[104]⟩,.string ⟨#[109,97,115,115]⟩,.string ⟨#[98,111,117,110,99,101]⟩,.string ⟨#[114,117,98]⟩] 9)) (NamedP ((v1.setCell ⟨w.heap.size,1,none⟩ (.int i64 a1)).setCell ⟨w.heap.size+1,1,none⟩ (.bool b1)) (a2,b2)):=by
  have h9:=named_lit HS2.out.ks HSM.out sp2.1 sp2.2
  rw [show namedF (ks.map Kd.p) sp2.1 sp2.2=(a2,b2) from hr2] at h9
  exact h9
 rw [show ((v1.setCell ⟨w.heap.size,1,none⟩ (.int i64 a1)).setCell ⟨w.heap.size+1,1,none⟩ (.bool b1)).heap.size=v1.heap.size from by simp [World.setCell]] at hf
 have HF2:=hid hf
 clear hf hr2
 go_wp2_with fail
 refine HF2.out.mono ?_
 rintro e v2 ⟨rfl,hbv⟩
 have HV2:=hid (HS2.out.next hbv)
 clear hbv HS2 HF2
 have m2:v2.cell? ⟨w.heap.size,2,none⟩=some (.int i64 0):=HV2.out.bx.cell 2
 have mf2:=HV2.out.bx.frozen 2
 have my2:(v2.setCell ⟨w.heap.size,2,none⟩ (.int i64 a2)).cell? ⟨w.heap.size+1,2,none⟩=some (.bool false):=(HV2.out.ly.far (by show w.heap.size+1≠w.heap.size;omega) _).cell 2
 have myf2:(v2.setCell ⟨w.heap.size,2,none⟩ (.int i64 a2)).frozen? ⟨w.heap.size+1,2,none⟩=false:=(HV2.out.ly.far (by show w.heap.size+1≠w.heap.size;omega) _).frozen 2
 have HS3:Hid (SpSt w ((v2.setCell ⟨w.heap.size,2,none⟩ (.int i64 a2)).setCell ⟨w.heap.size+1,2,none⟩ (.bool b2)) B A n c ks #[.int i64 a0,.int i64 a1,.int i64 a2,.int i64 0,.int i64 0] #[.bool b0,.bool b1,.bool b2,.bool false,.bool false]):=hid (HV2.out.put 2 (.int i64 a2) (.bool b2))
 have hf:Calls Try.prog 154 #[.slice A n c,.string ⟨#[105,110,112,117,116]⟩,.slice (some ⟨((v2.setCell ⟨w.heap.size,2,none⟩ (.int i64 a2)).setCell ⟨w.heap.size+1,2,none⟩ (.bool b2)).heap.size,0,none⟩) 4 4] (((v2.setCell ⟨w.heap.size,2,none⟩ (.int i64 a2)).setCell ⟨w.heap.size+1,2,none⟩ (.bool b2)).alloc (.cells #[.string ⟨#[112,108,97,121,101,114]⟩,.string ⟨#[107,101,121,115]⟩,.string ⟨#[120]⟩,.string ⟨#[121]⟩] 9)) (NamedP ((v2.setCell ⟨w.heap.size,2,none⟩ (.int i64 a2)).setCell ⟨w.heap.size+1,2,none⟩ (.bool b2)) (a3,b3)):=by
  have h9:=named_lit HS3.out.ks HSM.out sp3.1 sp3.2
  rw [show namedF (ks.map Kd.p) sp3.1 sp3.2=(a3,b3) from hr3] at h9
  exact h9
 rw [show ((v2.setCell ⟨w.heap.size,2,none⟩ (.int i64 a2)).setCell ⟨w.heap.size+1,2,none⟩ (.bool b2)).heap.size=v2.heap.size from by simp [World.setCell]] at hf
 have HF3:=hid hf
 clear hf hr3
 go_wp2_with fail
 refine HF3.out.mono ?_
 rintro e v3 ⟨rfl,hbv⟩
 have HV3:=hid (HS3.out.next hbv)
 clear hbv HS3 HF3
 have m3:v3.cell? ⟨w.heap.size,3,none⟩=some (.int i64 0):=HV3.out.bx.cell 3
 have mf3:=HV3.out.bx.frozen 3
 have my3:(v3.setCell ⟨w.heap.size,3,none⟩ (.int i64 a3)).cell? ⟨w.heap.size+1,3,none⟩=some (.bool false):=(HV3.out.ly.far (by show w.heap.size+1≠w.heap.size;omega) _).cell 3
 have myf3:(v3.setCell ⟨w.heap.size,3,none⟩ (.int i64 a3)).frozen? ⟨w.heap.size+1,3,none⟩=false:=(HV3.out.ly.far (by show w.heap.size+1≠w.heap.size;omega) _).frozen 3
 have HS4:Hid (SpSt w ((v3.setCell ⟨w.heap.size,3,none⟩ (.int i64 a3)).setCell ⟨w.heap.size+1,3,none⟩ (.bool b3)) B A n c ks #[.int i64 a0,.int i64 a1,.int i64 a2,.int i64 a3,.int i64 0] #[.bool b0,.bool b1,.bool b2,.bool b3,.bool false]):=hid (HV3.out.put 3 (.int i64 a3) (.bool b3))
 have hf:Calls Try.prog 154 #[.slice A n c,.string ⟨#[109,105,110,100]⟩,.slice (some ⟨((v3.setCell ⟨w.heap.size,3,none⟩ (.int i64 a3)).setCell ⟨w.heap.size+1,3,none⟩ (.bool b3)).heap.size,0,none⟩) 1 1] (((v3.setCell ⟨w.heap.size,3,none⟩ (.int i64 a3)).setCell ⟨w.heap.size+1,3,none⟩ (.bool b3)).alloc (.cells #[.string ⟨#[112,114,111,103]⟩] 9)) (NamedP ((v3.setCell ⟨w.heap.size,3,none⟩ (.int i64 a3)).setCell ⟨w.heap.size+1,3,none⟩ (.bool b3)) (a4,b4)):=by
  have h9:=named_lit HS4.out.ks HSM.out sp4.1 sp4.2
  rw [show namedF (ks.map Kd.p) sp4.1 sp4.2=(a4,b4) from hr4] at h9
  exact h9
 rw [show ((v3.setCell ⟨w.heap.size,3,none⟩ (.int i64 a3)).setCell ⟨w.heap.size+1,3,none⟩ (.bool b3)).heap.size=v3.heap.size from by simp [World.setCell]] at hf
 have HF4:=hid hf
 clear hf hr4
 go_wp2_with fail
 refine HF4.out.mono ?_
 rintro e v4 ⟨rfl,hbv⟩
 have HV4:=hid (HS4.out.next hbv)
 clear hbv HS4 HF4
 have m4:v4.cell? ⟨w.heap.size,4,none⟩=some (.int i64 0):=HV4.out.bx.cell 4
 have mf4:=HV4.out.bx.frozen 4
 have my4:(v4.setCell ⟨w.heap.size,4,none⟩ (.int i64 a4)).cell? ⟨w.heap.size+1,4,none⟩=some (.bool false):=(HV4.out.ly.far (by show w.heap.size+1≠w.heap.size;omega) _).cell 4
 have myf4:(v4.setCell ⟨w.heap.size,4,none⟩ (.int i64 a4)).frozen? ⟨w.heap.size+1,4,none⟩=false:=(HV4.out.ly.far (by show w.heap.size+1≠w.heap.size;omega) _).frozen 4
 have HS5:Hid (SpSt w ((v4.setCell ⟨w.heap.size,4,none⟩ (.int i64 a4)).setCell ⟨w.heap.size+1,4,none⟩ (.bool b4)) B A n c ks #[.int i64 a0,.int i64 a1,.int i64 a2,.int i64 a3,.int i64 a4] #[.bool b0,.bool b1,.bool b2,.bool b3,.bool b4]):=hid (HV4.out.put 4 (.int i64 a4) (.bool b4))
 clear HV0 HV1 HV2 HV3 HV4 m0 m1 m2 m3 mf0 mf1 mf2 mf3 my0 my1 my2 my3 myf0 myf1 myf2 myf3
 go_wp2_with fail
 clear m4 mf4 my4 myf4
 have HZ:Hid (w.heap.size≠w.heap.size+1):=hid (by omega)
 generalize hv5:(v4.setCell ⟨w.heap.size,4,none⟩ (.int i64 a4)).setCell ⟨w.heap.size+1,4,none⟩ (.bool b4)=v5 at *
 clear hv5
 have q0:v5.cell? ⟨w.heap.size,0,none⟩=some (.int i64 a0):=HS5.out.bx.cell 0
 have p0:v5.cell? ⟨w.heap.size+1,0,none⟩=some (.bool b0):=HS5.out.ly.cell 0
 have g0:v5.frozen? ⟨w.heap.size,0,none⟩=false:=HS5.out.bx.frozen 0
 have h0:v5.frozen? ⟨w.heap.size+1,0,none⟩=false:=HS5.out.ly.frozen 0
 have q1:v5.cell? ⟨w.heap.size,1,none⟩=some (.int i64 a1):=HS5.out.bx.cell 1
 have p1:v5.cell? ⟨w.heap.size+1,1,none⟩=some (.bool b1):=HS5.out.ly.cell 1
 have g1:v5.frozen? ⟨w.heap.size,1,none⟩=false:=HS5.out.bx.frozen 1
 have h1:v5.frozen? ⟨w.heap.size+1,1,none⟩=false:=HS5.out.ly.frozen 1
 have q2:v5.cell? ⟨w.heap.size,2,none⟩=some (.int i64 a2):=HS5.out.bx.cell 2
 have p2:v5.cell? ⟨w.heap.size+1,2,none⟩=some (.bool b2):=HS5.out.ly.cell 2
 have g2:v5.frozen? ⟨w.heap.size,2,none⟩=false:=HS5.out.bx.frozen 2
 have h2:v5.frozen? ⟨w.heap.size+1,2,none⟩=false:=HS5.out.ly.frozen 2
 have q3:v5.cell? ⟨w.heap.size,3,none⟩=some (.int i64 a3):=HS5.out.bx.cell 3
 have p3:v5.cell? ⟨w.heap.size+1,3,none⟩=some (.bool b3):=HS5.out.ly.cell 3
 have g3:v5.frozen? ⟨w.heap.size,3,none⟩=false:=HS5.out.bx.frozen 3
 have h3:v5.frozen? ⟨w.heap.size+1,3,none⟩=false:=HS5.out.ly.frozen 3
 have q4:v5.cell? ⟨w.heap.size,4,none⟩=some (.int i64 a4):=HS5.out.bx.cell 4
 have p4:v5.cell? ⟨w.heap.size+1,4,none⟩=some (.bool b4):=HS5.out.ly.cell 4
 have g4:v5.frozen? ⟨w.heap.size,4,none⟩=false:=HS5.out.bx.frozen 4
 have h4:v5.frozen? ⟨w.heap.size+1,4,none⟩=false:=HS5.out.ly.frozen 4
 have hne:w.heap.size+1≠w.heap.size:=by omega
 have hne':w.heap.size≠w.heap.size+1:=by omega
 go_region
 all_goals (try go_wp2)
 (try simp only [Exit.inBlock,Exit.then])
 refine bodyPost_ret (v:=.tuple #[.agg #[.int i64 a0,.int i64 a1,.int i64 a2,.int i64 a3,.int i64 a4],.agg #[.bool b0,.bool b1,.bool b2,.bool b3,.bool b4]]) ?_ rfl ⟨rfl,?_⟩
 . rw [results_cell_cell rfl]
   go_simp
 . repeat' (first | with_reducible exact HS5.out.bl | (with_reducible refine Below.setCell ?_ ?_ _;rotate_left;(first | exact Nat.le_refl _ | exact Nat.le_succ _)) | (with_reducible refine Below.drew ?_))
def mapF (ks:List (ByteArray × List Fd)):(Int × Int × Int) × Int :=
 if checkF ks≠0 then ((0,0,0),checkF ks) else
 if (spec ks sp0).2&&(spec ks sp1).2&&(spec ks sp2).2 then (((spec ks sp0).1,(spec ks sp1).1,(spec ks sp2).1),0) else ((0,0,0),8)
set_option maxHeartbeats 1600000 in
theorem mapFault_any {w:World} {B n c:Nat} {A:Option Addr} {ks:List Kd} (h:KsOk w B A n c ks) (hsm:checkF (ks.map Kd.p)=0->∀ k∈ks,k.n<=1048576):Calls Try.prog 20 #[.slice A n c] w (OfP w (mapF (ks.map Kd.p))):=by
 obtain ⟨R,hR⟩:∃ R,R=mapF (ks.map Kd.p):=⟨_,rfl⟩
 rw [<- hR]
 have HR:=hid hR
 have HSM:=hid hsm
 obtain ⟨w1,hw1⟩:∃ w1,w1=w.alloc (.cells #[.int i64 0,.int i64 0,.int i64 0] 24):=⟨_,rfl⟩
 have hb1:Below w.heap.size w w1:=by rw [hw1];exact (Below.refl _ w).alloc (Nat.le_refl _) _
 have hk1:Bk w1 w.heap.size 24 #[.int i64 0,.int i64 0,.int i64 0]:=by rw [hw1];exact Bk.new _ _ _
 have h1:=h.below (hb1.mono h.lo)
 have hck:=check_any A n c B ks w1 h1.rd h1.len h1.cap h1.cap2 h1.ok h1.lo
 have HCK:=hid hck
 have H1:=hid h1
 have HB1:=hid hb1
 have HK1:=hid hk1
 clear hR hb1 hk1 h1 hck hsm
 go_enter Try.func20,Try.ntmps20
 go_wp2_with fail
 rw [<- hw1]
 clear hw1
 refine HCK.out.mono ?_
 rintro e w2 ⟨rfl,hb2⟩
 have HB2:=hid (HB1.out.trans (hb2.mono HB1.out.size))
 have HK2:=hid (HK1.out.below hb2 HK1.out.lt)
 have H2:=hid (H1.out.below (hb2.mono H1.out.lo))
 clear hb2
 have hR2:=HR.out
 rw [mapF] at hR2
 generalize hcv:checkF (ks.map Kd.p)=cv at *
 by_cases hc0:cv=0
 . subst hc0
   rw [if_neg (by simp)] at hR2
   have hsp:=special_any H2.out (HSM.out rfl)
   unfold SpecP spX spY at hsp
   generalize spec (ks.map Kd.p) sp0=r0 at *
   generalize spec (ks.map Kd.p) sp1=r1 at *
   generalize spec (ks.map Kd.p) sp2=r2 at *
   generalize spec (ks.map Kd.p) sp3=r3 at *
   generalize spec (ks.map Kd.p) sp4=r4 at *
   obtain ⟨a0,b0⟩:=r0
   obtain ⟨a1,b1⟩:=r1
   obtain ⟨a2,b2⟩:=r2
   obtain ⟨a3,b3⟩:=r3
   obtain ⟨a4,b4⟩:=r4
   have HSP:=hid hsp
   have HR2:=hid hR2
   clear hsp hR2 HR HSM HCK hcv
   go_wp2_with fail
   refine HSP.out.mono ?_
   rintro e w3 ⟨rfl,hb3⟩
   have hk3:=HK2.out.below hb3 HK2.out.lt
   have hb4:=HB2.out.trans (hb3.mono HB2.out.size)
   have hk5:=(hk3.alloc (.cells #[.int i64 a0,.int i64 a1,.int i64 a2,.int i64 a3,.int i64 a4] 141)).alloc (.cells #[.bool b0,.bool b1,.bool b2,.bool b3,.bool b4] 142)
   have hb5:=(hb4.alloc hb4.size (.cells #[.int i64 a0,.int i64 a1,.int i64 a2,.int i64 a3,.int i64 a4] 141)).alloc (by have:=hb4.size;simp;omega) (.cells #[.bool b0,.bool b1,.bool b2,.bool b3,.bool b4] 142)
   have HB5:=hid hb5
   have q0:=hk5.cell 0
   have q1:=hk5.cell 1
   have q2:=hk5.cell 2
   have g0:=hk5.frozen 0
   have g1:=hk5.frozen 1
   have g2:=hk5.frozen 2
   simp only [List.getElem?_toArray,List.getElem?_cons_zero,List.getElem?_cons_succ] at q0 q1 q2
   clear hk3 hb4 hk5 hb5 hb3 HSP
   cases b0 <;> cases b1 <;> cases b2 <;>
   . go_wp2_with fail
     (try simp only [Exit.inBlock,Exit.then])
     first
      | (refine bodyPost_ret (v:=.tuple #[.agg #[.int i64 0,.int i64 0,.int i64 0],.int i64 8]) ?_ rfl ⟨by rw [HR2.out];rfl,?_⟩
         . rw [results_cell_tmp rfl]
           go_simp
         . repeat' (first | with_reducible exact HB5.out | (with_reducible refine Below.setCell ?_ ?_ _;rotate_left;exact Nat.le_refl _)))
      | (refine bodyPost_ret (v:=.tuple #[.agg #[.int i64 a0,.int i64 a1,.int i64 a2],.int i64 0]) ?_ rfl ⟨by rw [HR2.out];rfl,?_⟩
         . rw [results_cell_tmp rfl]
           go_simp
         . repeat' (first | with_reducible exact HB5.out | (with_reducible refine Below.setCell ?_ ?_ _;rotate_left;exact Nat.le_refl _)))
 . have hcb:(cv != 0)=true:=by simp [hc0]
   rw [if_pos (by exact hc0)] at hR2
   have q0:=HK2.out.cell 0
   have q1:=HK2.out.cell 1
   have q2:=HK2.out.cell 2
   have g0:=HK2.out.frozen 0
   have g1:=HK2.out.frozen 1
   have g2:=HK2.out.frozen 2
   simp only [List.getElem?_toArray,List.getElem?_cons_zero,List.getElem?_cons_succ] at q0 q1 q2
   go_wp2_with fail
   (try simp only [Exit.inBlock,Exit.then])
   refine bodyPost_ret (v:=.tuple #[.agg #[.int i64 0,.int i64 0,.int i64 0],.int i64 cv]) ?_ rfl ⟨by rw [hR2],?_⟩
   . rw [results_cell_tmp rfl]
     go_simp
   . repeat' (first | with_reducible exact HB2.out | (with_reducible refine Below.setCell ?_ ?_ _;rotate_left;exact Nat.le_refl _))
theorem bfind_named (ks:List (ByteArray × List Fd)) (nm:ByteArray) (ns:List ByteArray) :
 ((bfindF ks nm ns).2=if (namedF ks nm ns).2 then 0 else 8)/\((namedF ks nm ns).2=true->(bfindF ks nm ns).1=(namedF ks nm ns).1):=by
 unfold bfindF namedF
 rcases findF_range (ks.map (·.1)) nm with h | ⟨i,h,hi⟩
 . simp [h]
 . rw [List.length_map] at hi
   have hni:¬ ((i:Int)<0):=by omega
   obtain ⟨k,hk⟩:∃ k,ks[i]?=some k:=⟨_,List.getElem?_eq_getElem hi⟩
   simp only [h,if_neg hni,Int.toNat_natCast,hk]
   by_cases he:k.2.map Fd.nm=ns
   . simp [he]
   . simp [he]
theorem of_is_map (ks:List (ByteArray × List Fd)):ofF ks=mapF ks:=by
 have h0:=bfind_named ks sPlace nPlace
 have h1:=bfind_named ks sMotion nMotion
 have h2:=bfind_named ks sShape nShape
 have e0:spec ks sp0=namedF ks sPlace nPlace:=rfl
 have e1:spec ks sp1=namedF ks sMotion nMotion:=rfl
 have e2:spec ks sp2=namedF ks sShape nShape:=rfl
 unfold ofF mapF
 rw [e0,e1,e2]
 generalize bfindF ks sPlace nPlace=p0 at *
 generalize bfindF ks sMotion nMotion=p1 at *
 generalize bfindF ks sShape nShape=p2 at *
 generalize namedF ks sPlace nPlace=n0 at *
 generalize namedF ks sMotion nMotion=n1 at *
 generalize namedF ks sShape nShape=n2 at *
 obtain ⟨a0,b0⟩:=p0
 obtain ⟨a1,b1⟩:=p1
 obtain ⟨a2,b2⟩:=p2
 obtain ⟨c0,d0⟩:=n0
 obtain ⟨c1,d1⟩:=n1
 obtain ⟨c2,d2⟩:=n2
 cases d0 <;> cases d1 <;> cases d2 <;> simp_all
theorem oneF_small {nm:ByteArray} {fds:List Fd} (h:oneF nm fds=0):fds.length<=8:=by
 unfold oneF at h
 split at h
 . cases h
 . split at h
   . cases h
   . omega
theorem chkF_small:∀ (l seen:List (ByteArray × List Fd)),chkF seen l=0->∀ k∈l,k.2.length<=8
 | [],_,_,_,hk=>by cases hk
 | a::l,seen,h,k,hk=>by
   rw [chkF_at] at h
   split at h
   . rename_i h1;exact absurd h h1
   . rename_i h1
     split at h
     . cases h
     . rcases List.mem_cons.1 hk with rfl | hk
       . exact oneF_small (Decidable.not_not.1 h1)
       . exact chkF_small l _ h k hk
theorem checkF_small {l:List (ByteArray × List Fd)} (h:checkF l=0):∀ k∈l,k.2.length<=8:=by
 unfold checkF at h
 split at h
 . cases h
 . exact chkF_small _ _ h
theorem mapFault_says {w:World} {B n c:Nat} {A:Option Addr} {ks:List Kd} (h:KsOk w B A n c ks):Calls Try.prog 20 #[.slice A n c] w (OfP w (mapF (ks.map Kd.p))) :=
 mapFault_any h fun h0 k hk=>by
  have h1:=checkF_small h0 (Kd.p k) (List.mem_map_of_mem hk)
  have h2:=(h.ok k hk).len
  have h3:(Kd.p k).2=k.fds:=rfl
  rw [h3] at h1
  omega
theorem of_says {w:World} {B n c:Nat} {A:Option Addr} {ks:List Kd} (h:KsOk w B A n c ks):Calls Try.prog 19 #[.slice A n c] w (OfP w (mapF (ks.map Kd.p))):=by
 have:=of_any h
 rwa [of_is_map] at this
theorem results_cell_one {fn:Func} {p:Tmp} {ty:TypeId} (h:fn.results=#[.cell p ty]) (tmps:Array Value) (P:Program) (w:World) :
 (results fn tmps).run P w=((asAddr (tmps.getD p undef)).run P w).andThen fun a w₁=>(loadVar ty a).run P w₁:=by
 simp only [results,h]
 simp [Sem.run_bind,Result.andThen]
set_option maxHeartbeats 800000 in
theorem fieldMk_any (nm:ByteArray) (b l:Int) (w:World):Calls Try.prog 167 #[.string nm,.int i64 b,.int i64 l] w fun e w'=>e=.returned (.agg #[.string nm,.int i64 b,.int i64 l])/\Below w.heap.size w w':=by
 have hk:=Bk.new w 66 #[.string ByteArray.empty,.int i64 0,.int i64 0]
 have q0:=hk.cell 0
 have q1:=hk.cell 1
 have q2:=hk.cell 2
 have g0:=hk.frozen 0
 have g1:=hk.frozen 1
 have g2:=hk.frozen 2
 simp only [List.getElem?_toArray,List.getElem?_cons_zero,List.getElem?_cons_succ] at q0 q1 q2
 clear hk
 go_enter Try.func167,Try.ntmps167
 go_wp2_with fail
 (try simp only [Exit.inBlock,Exit.then])
 refine bodyPost_ret (v:=.agg #[.string nm,.int i64 b,.int i64 l]) ?_ rfl ⟨rfl,?_⟩
 . rw [results_cell_one rfl]
   go_simp
 . exact (Below.refl _ w).alloc (Nat.le_refl _) _
def clC (c:Cl):List Value:=[.int i64 c.1,.int i64 c.2.1,.int i64 c.2.2.1,.int i64 c.2.2.2]
def clCs (l:List Cl):List Value:=l.flatMap clC
structure MgSt (w:World) (base m:Nat) (l:List Cl):Prop where
 ex:∃ A c,Bk w m 198 #[.slice A l.length c]/\w.ownsRow base 73 4 (.slice A l.length c) l.length (clCs l)
theorem MgSt.lt {w:World} {base m:Nat} {l:List Cl} (h:MgSt w base m l):m<w.heap.size:=by
 obtain ⟨A,c,h1,_⟩:=h.ex
 exact h1.lt
theorem MgSt.below {w w':World} {base m:Nat} {l:List Cl} (h:MgSt w base m l) (hb:Below w.heap.size w w'):MgSt w' base m l:=by
 obtain ⟨A,c,h1,h2⟩:=h.ex
 exact ⟨A,c,h1.below hb h1.lt,(Kx.of_below (B:=0) (F:=[]) hb).own h2 (by simp)⟩
theorem MgSt.kx {w w':World} {B base m:Nat} {l:List Cl} {F:List TypeId} (h:MgSt w base m l) (hq:Kx B F w w') (h1:(198:TypeId) ∉ F) (h2:(73:TypeId) ∉ F):MgSt w' base m l:=by
 obtain ⟨A,c,h3,h4⟩:=h.ex
 exact ⟨A,c,hq.bk h3 h1,hq.own h4 h2⟩
def OutI (w:World) (base:Nat) (A:Option Addr) (n:Nat) (xs:List Int):Prop :=
 xs.length=n/\(0<n->∃ g N,A=some ⟨g,0,none⟩/\base<=g/\n<=N/\Fill w g 3 1 N n (xs.map (Value.int .i64)))
theorem OutI.of_own {w:World} {base n c:Nat} {A:Option Addr} {xs:List Int} (h:w.ownsRow base 3 1 (.slice A n c) n (xs.map (Value.int .i64))):OutI w base A n xs:=by
 refine ⟨by have:=h.1;simpa using this,fun hn=>?_⟩
 rcases h.2 with ⟨_,h0⟩ | ⟨g,cap,cur,hv,hb,hh,h1,_,hs,ht⟩
 . omega
 . injection hv with hA _ _
   exact ⟨g,cap,hA,hb,h1,⟨cur,hh,hs,ht⟩⟩
theorem OutI.keep {w w':World} {B base n:Nat} {A:Option Addr} {xs:List Int} {F:List TypeId} (h:OutI w base A n xs) (hq:Kx B F w w') (h3:(3:TypeId) ∉ F):OutI w' base A n xs :=
 ⟨h.1,fun hn=>by
  obtain ⟨g,N,h1,h2,h4,h5⟩:=h.2 hn
  exact ⟨g,N,h1,h2,h4,h5.keep hq h3⟩⟩
theorem OutI.rd {w:World} {B base n:Nat} {A:Option Addr} {xs:List Int} (h:OutI w base A n xs):RdY w B 3 1 A n (xs.map (Value.int .i64)):=by
 refine ⟨by simp [h.1],fun hn=>?_⟩
 obtain ⟨g,N,h1,_,_,cs,h3,h4,h5⟩:=h.2 hn
 refine ⟨g,0,h1,h3.lt,.inr ⟨cs,h3⟩,fun j u hu=>(h3.cell _).trans ?_⟩
 rw [<- h5,List.getElem?_take] at hu
 split at hu
 . rw [Nat.zero_add];simpa using hu
 . cases hu
theorem OutI.set {w:World} {base n g N k:Nat} {xs:List Int} (h1:xs.length=n) (hb:base<=g) (hn:n<=N) (hf:Fill w g 3 1 N n (xs.map (Value.int .i64))) (_hk:k<n) (v:Int):OutI (w.setCell ⟨g,k,none⟩ (.int i64 v)) base (some ⟨g,0,none⟩) n (xs.set k v):=by
 refine ⟨by simp [h1],fun _=>⟨g,N,rfl,hb,hn,?_⟩⟩
 obtain ⟨cs,h3,h4,h5⟩:=hf
 refine ⟨_,h3.set_ k (.int i64 v),by simp [h4],?_⟩
 rw [Array.toList_setIfInBounds,List.take_set,h5,List.map_set]
theorem own_far {w:World} {base size n g:Nat} {e t:TypeId} {v:Value} {xs:List Value} {cs:Array Value} (h:w.ownsRow base e size v n xs) (hg:Bk w g t cs) (hne:e≠t) (i:Nat) (u:Value) :
 (w.setCell ⟨g,i,none⟩ u).ownsRow base e size v n xs :=
 (Kx.set (B:=0) (F:=[t]) Kx.refl hg (Nat.zero_le _) (by simp) i u).own h (by simp [hne])
def Fr (h B:Nat) (l:List Cm):Prop:=∀ z∈l,0<z.n->∀ b o,z.A=some ⟨b,o,none⟩->b<B\/h<=b
theorem Fr.mono {h h' B:Nat} {l:List Cm} (H:Fr h B l) (hh:h'<=h):Fr h' B l:=fun z hz hn b o hA=>(H z hz hn b o hA).imp id fun h2=>Nat.le_trans hh h2
structure CI (h:Nat) (wr:World) (B:Nat) (o x y:It) (A:Option Addr) (n c:Nat) (l1:List Cm):Prop where
 b0:Bk wr h 147 #[.int i64 o.e,.int i64 o.g,.slice o.A o.n o.c]
 b1:Bk wr (h+1) 147 #[.int i64 x.e,.int i64 x.g,.slice x.A x.n x.c]
 b2:Bk wr (h+2) 147 #[.int i64 y.e,.int i64 y.g,.slice y.A y.n y.c]
 b3:Bk wr (h+3) 147 #[.int i64 0,.int i64 0,.slice none 0 0]
 b4:Bk wr (h+4) 147 #[.int i64 x.e,.int i64 x.g,.slice A n c]
 own:wr.ownsRow h 166 2 (.slice A n c) n (cmCs l1)
 len:n=l1.length
 ok:∀ z∈l1,CmY wr B z
 fr:Fr h B l1
theorem CI.kx {h:Nat} {wr w':World} {B B':Nat} {o x y:It} {A:Option Addr} {n c:Nat} {l1:List Cm} {F:List TypeId} (H:CI h wr B o x y A n c l1) (hq:Kx B' F wr w') (hB:B<=B') (h147:(147:TypeId) ∉ F) (h166:(166:TypeId) ∉ F) (h3:(3:TypeId) ∉ F):CI h w' B o x y A n c l1 :=
 ⟨hq.bk H.b0 h147,hq.bk H.b1 h147,hq.bk H.b2 h147,hq.bk H.b3 h147,hq.bk H.b4 h147,hq.own H.own h166,H.len,fun z hz=>(H.ok z hz).keep (hq.mono hB (fun _ h=>h)) h3,H.fr⟩
theorem CI.below {h:Nat} {wr w':World} {B:Nat} {o x y:It} {A:Option Addr} {n c:Nat} {l1:List Cm} (H:CI h wr B o x y A n c l1) (hb:Below wr.heap.size wr w'):CI h w' B o x y A n c l1:=H.kx (F:=[]) (Kx.of_below (B:=B) hb) (Nat.le_refl _) (by simp) (by simp) (by simp)
theorem wf_i64 {n:Int} (h1 : -9223372036854775808<=n) (h2:n<=9223372036854775807):(Lit.int i64 n).wf=true:=by
 simp [Lit.wf,IntKind.min,IntKind.max,IntKind.signed,IntKind.bits]
 omega
theorem genX_name (i:Nat):nameF (genX i)=true:=by unfold genX;split <;> (try split) <;> decide
theorem genN_name (i:Nat):nameF (genN i)=true:=by unfold genN;split <;> (try split) <;> (try split) <;> decide
theorem ba_ne {a b:ByteArray} (h:a.data.toList≠b.data.toList):a≠b:=fun e=>h (by rw [e])
theorem genX_ne {i j:Nat} (hi:i<j) (hj:j<3):genX i≠genX j:=by
 have:i=0\/i=1:=by omega
 have:j=1\/j=2:=by omega
 rcases ‹i=0\/i=1› with rfl | rfl <;> rcases ‹j=1\/j=2› with rfl | rfl <;> (first | omega | (apply ba_ne;decide))
theorem GenF.field {f:Fd} {i:Nat} (h:GenF f) (hn:f.nm=genX i):fieldF f=0:=by
 unfold fieldF
 have:=h.b
 rw [if_pos ⟨by rw [hn];exact genX_name i,by omega,by omega,by omega,by omega⟩]
theorem GenFs.scan {l:List Fd} (h:GenFs l) (hl:l.length<=3):scanF [] l=0:=by
 suffices ∀ (r seen:List Fd),seen++r=l->scanF seen r=0 from this l [] rfl
 intro r
 induction r with
 | nil=>intro seen _;rfl
 | cons f r ih =>
   intro seen he
   rw [scanF_at]
   have hf:=h.g seen.length f (by rw [<- he];simp)
   rw [if_neg (by rw [hf.2.field hf.1];simp),if_neg]
   . exact ih _ (by rw [<- he];simp)
   . intro ha
     rw [List.any_eq_true] at ha
     obtain ⟨o,ho,h2⟩:=ha
     have h2:o.nm=f.nm:=by simpa using h2
     obtain ⟨i,hi⟩:=List.mem_iff_getElem?.1 ho
     have hil:=(List.getElem?_eq_some_iff.1 hi).1
     have hg:=h.g i o (by rw [<- he,List.getElem?_append_left hil];exact hi)
     rw [hg.1,hf.1] at h2
     exact genX_ne hil (by have:=congrArg List.length he;simp at this;omega) h2
theorem GenKs.one {l:List Kp2} (h:GenKs l) {i:Nat} {k:Kp2} (hk:l[i]?=some k):oneF k.1 k.2=0:=by
 obtain ⟨h1,h2,h3,h4⟩:=h.g i k hk
 unfold oneF
 rw [if_neg (by rw [h1,genN_name];simp),if_neg (by omega)]
 exact h4.scan h3
theorem scan_ok {r:List Fd}:∀ {seen:List Fd},scanF seen r=0->∀ f∈r,fieldF f=0:=by
 induction r with
 | nil=>intro _ _ f hf;cases hf
 | cons a r ih =>
   intro seen h f hf
   rw [scanF_at] at h
   by_cases h0:fieldF a≠0
   . rw [if_pos h0] at h;exact absurd h h0
   . rw [if_neg h0] at h
     split at h
     . cases h
     . rcases List.mem_cons.1 hf with rfl | hf
       . omega
       . exact ih h f hf
theorem one_ok {nm:ByteArray} {fds:List Fd} (h:oneF nm fds=0) {f:Fd} (hf:f∈fds):fieldF f=0:=by
 unfold oneF at h
 split at h
 . cases h
 . split at h
   . cases h
   . exact scan_ok h f hf
theorem near_in {f:Fd} (h:fieldF f=0) {v:Int} (h1:f.low<=v) (h2:v<f.low+2^f.bits.toNat):nearF f v=v:=by
 unfold nearF highF
 rw [if_pos h,if_pos h]
 omega
theorem hold_of {d:Kp2} {v:List Int} (h:oneF d.1 d.2=0) (hl:v.length=d.2.length) (hv:∀ i f,d.2[i]?=some f->f.low<=v.getD i 0/\v.getD i 0<f.low+2^f.bits.toNat):holdK d v=true :=
 holdK_iff.2 ⟨h,hl,fun i f hf=>near_in (one_ok h (List.mem_of_getElem? hf)) (hv i f hf).1 (hv i f hf).2⟩
theorem chk_one {r:List Kp2}:∀ {seen:List Kp2},chkF seen r=0->∀ k∈r,oneF k.1 k.2=0:=by
 induction r with
 | nil=>intro _ _ k hk;cases hk
 | cons a r ih =>
   intro seen h k hk
   rw [chkF_at] at h
   by_cases h0:oneF a.1 a.2≠0
   . rw [if_pos h0] at h;exact absurd h h0
   . rw [if_neg h0] at h
     split at h
     . cases h
     . rcases List.mem_cons.1 hk with rfl | hk
       . omega
       . exact ih h k hk
theorem check_len {l:List Kp2} (h:checkF l=0):l.length<=16/\∀ k∈l,oneF k.1 k.2=0:=by
 unfold checkF at h
 split at h
 . cases h
 . exact ⟨by omega,chk_one h⟩
theorem holdK_small {d:Kp2} {v:List Int} (h:holdK d v=true):v.length<=8:=by
 obtain ⟨h1,h2,_⟩:=holdK_iff.1 h
 rw [h2];exact oneF_len h1
theorem VCs.len_le {ks:List Kp2} {l:List Cv} (h:VCs holdK ks l):l.length<=ks.length:=by
 rw [<- h.again]
 exact flat_len _ _ fun n=>by cases findC l n <;> simp [optC]
theorem small_of {w:Wv Kp2} (h0:checkF w.ks=0) (h:VW holdK w):SmallV w:=by
 obtain ⟨h1,h2⟩:=check_len h0
 have hm:=h.many
 have hl:=h.its_len
 refine ⟨by omega,fun k hk=>by have:=oneF_len (h2 k hk);omega,by omega,by omega,fun it hit=>?_,fun it hit c hc=>?_⟩
 . have:=((h.ok it hit).2.2).len_le;omega
 . obtain ⟨k,d,_,_,e⟩:=(h.ok it hit).2.2.ok c hc
   have:=holdK_small e
   omega
def NoB (g:Option Nat) (l:List Cm):Prop:=∀ z∈l,0<z.n->∀ b o,z.A=some ⟨b,o,none⟩->some b≠g
theorem NoB.of_fr {h B:Nat} {l:List Cm} {g:Option Nat} (H:Fr h B l) (hg:∀ q,g=some q->B<=q/\q<h):NoB g l:=fun z hz hn b o hA e=>by
 obtain ⟨h1,h2⟩:=hg b e.symm
 rcases H z hz hn b o hA with h3 | h3 <;> omega
theorem NoB.grown {w:World} {B:Nat} {it:It} {g g':Option Nat} (h:ItY w B it) (hn:NoB g it.cms) (hg:g'=g\/g'=some w.heap.size):NoB g' it.cms:=fun z hz hzn b o hA=>by
 rcases hg with rfl | rfl
 . exact hn z hz hzn b o hA
 . obtain ⟨b',o',hA',hlt,_⟩:=(h.cs.ok z hz).rd.2 hzn
   rw [hA] at hA'
   injection hA' with hA'
   injection hA' with h1
   intro e
   injection e with e
   omega
theorem ItY.grown3 {w w':World} {B base n:Nat} {v:Value} {xs:List Value} {it:It} (h:ItY w B it) (ho:w.ownsRow base 3 1 v n xs) (hg:w.grownBy w' v.ownBlock) (hB:B<=base) (hno:NoB v.ownBlock it.cms):ItY w' B it:=by
 have hkx:Kx B [3] w w':=Kx.refl.grown ho hg hB (by simp)
 refine ⟨⟨h.cs.rd.keep hkx (by decide),h.cs.len,h.cs.cap,h.cs.cap2,fun z hz=>?_⟩,h.wf1,h.wf2⟩
 have hz':=h.cs.ok z hz
 refine ⟨⟨hz'.rd.1,fun hn=>?_⟩,hz'.len,hz'.cap,hz'.cap2,hz'.wf⟩
 obtain ⟨b,o,hA,hlt,h3,h4⟩:=hz'.rd.2 hn
 have hne:some b≠v.ownBlock:=hno z hz hn b o hA
 have hb:=hg.block b hlt hne
 exact ⟨b,o,hA,by have:=hg.size;omega,h3.imp id fun ⟨cs,hc⟩=>⟨cs,hb.trans hc⟩,fun j u hu=>(World.cell?_of_block (w:=w) hb).trans (h4 j u hu)⟩
theorem IsY.of_own {w:World} {B base q c:Nat} {A:Option Addr} {its:List It} (h:w.ownsRow base 147 3 (.slice A q c) q (itCs its)) (hl:q=its.length) (hi:∀ it∈its,ItY w B it):IsY w B A q c its:=by
 have hc:=own_cap2 h
 exact ⟨.of_own h,hl,hc.1,hc.2,hi⟩
theorem itCs_snoc (l:List It) (x:It):itCs (l++[x])=itCs l++[.int i64 x.e,.int i64 x.g,.slice x.A x.n x.c]:=by simp [itCs,It.cs]
def BodiesSay:Prop:=∀ w:World,Calls Try.prog 21 #[] w fun e w'=>e=.returned (.bool true)/\Below w.heap.size w w'
end Go.Proofs.Ytnidcmhfbkdioaa
