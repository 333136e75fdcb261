/-
  The contract of Kinds at 4. Conditions: none.
-/
import Derived.Test.YtnidcmhfbkdioaaSw14
namespace Go.Proofs.Ytnidcmhfbkdioaa
open Go.RowKit
open Go.IntKind (i64)
open Go.Lib (hid)
set_option maxRecDepth 100000
theorem own_keep {w w':World} {base:Nat} {e:TypeId} {size n:Nat} {v:Value} {xs:List Value} (h:w.ownsRow base e size v n xs) (hb:Below w.heap.size w w'):w'.ownsRow base e size v n xs :=
 h.kept (row:=none) ⟨hb.os,hb.tape,hb.output,hb.size,fun k hk _=>hb.block k hk⟩ (by cases hv:v.ownBlock <;> simp)
theorem T.info63:(Try.prog.info? 63).map (fun i=>(i.zero,i.size,i.bytes))=some (some (.agg #[.string ByteArray.empty,.slice none 0 0]),2,40):=by kernel_rfl
theorem and41:(bits BinOp.and IntKind.i64 4 1 == 1)=false:=by decide +kernel
theorem and42:(bits BinOp.and IntKind.i64 4 2 == 2)=false:=by decide +kernel
theorem and44:(bits BinOp.and IntKind.i64 4 4 == 4)=true:=by decide +kernel
structure Bd where
 nm:ByteArray
 g:Nat
 fds:List Fd
def Bd.kd (x:Bd):Kd:=⟨x.nm,some ⟨x.g,0,none⟩,x.fds.length,x.fds.length,x.fds⟩
theorem kdCs_append (a b:List Kd):kdCs (a++b)=kdCs a++kdCs b:=by simp [kdCs]
structure KSt (w wr:World) (S:Value) (m:Nat) (l:List Bd):Prop where
 own:wr.ownsRow w.heap.size 63 2 S m (kdCs (l.map Bd.kd))
 bk:∀ x∈l,Bk wr x.g 66 (fdCs x.fds).toArray
 bl:Below w.heap.size w wr
theorem KSt.below {w wr w':World} {S:Value} {m:Nat} {l:List Bd} (h:KSt w wr S m l) (hb:Below wr.heap.size wr w'):KSt w w' S m l :=
 ⟨own_keep h.own hb,fun x hx=>(h.bk x hx).below hb (h.bk x hx).lt,h.bl.trans (hb.mono h.bl.size)⟩
theorem KSt.start {w wr:World} (hb:Below w.heap.size w wr) (x:Bd) (hx:x.g=wr.heap.size) :
 KSt w ((wr.alloc (.cells (fdCs x.fds).toArray 66)).alloc (.cells x.kd.cs.toArray 63)) (.slice (some ⟨wr.heap.size+1,0,none⟩) 1 1) 1 [x]:=by
 have hs:=hb.size
 refine ⟨?_,fun y hy=>?_,(hb.alloc hs _).alloc (by simp;omega) _⟩
 . have:=World.ownsRow_lit (base:=w.heap.size) (e:=63) (size:=2) (wr.alloc (.cells (fdCs x.fds).toArray 66)) x.kd.cs.toArray 1 (by simp;omega) (by decide) rfl
   simpa [kdCs] using this
 . rw [List.mem_singleton.1 hy,hx]
   exact (Bk.new wr 66 _).alloc _
theorem KSt.push {w wr w':World} {S S':Value} {m:Nat} {l:List Bd} (h:KSt w wr S m l) (x:Bd) (hx:x.g=wr.heap.size)
 (hown:w'.ownsRow w.heap.size 63 2 S' (m+1) (kdCs (l.map Bd.kd)++x.kd.cs.toArray.toList)) (hg:((wr.alloc (.cells (fdCs x.fds).toArray 66)).alloc (.cells x.kd.cs.toArray 63)).grownBy w' S.ownBlock) :
 KSt w w' S' (m+1) (l++[x]):=by
 have hs:=h.bl.size
 have ho:=(h.own.alloc (.cells (fdCs x.fds).toArray 66)).alloc (.cells x.kd.cs.toArray 63)
 refine ⟨?_,fun y hy=>?_,((h.bl.alloc hs _).alloc (by simp;omega) _).grown hg (by simp;omega) fun q hq=>(h.own.lt q hq).1⟩
 . rw [List.map_append,kdCs_append]
   simpa [kdCs] using hown
 . have hb:Bk ((wr.alloc (.cells (fdCs x.fds).toArray 66)).alloc (.cells x.kd.cs.toArray 63)) y.g 66 (fdCs y.fds).toArray:=by
    rcases List.mem_append.1 hy with hy | hy
    . exact ((h.bk y hy).alloc _).alloc _
    . rw [List.mem_singleton.1 hy,hx]
      exact (Bk.new wr 66 _).alloc _
   exact hb.grown hg fun e=>own_ne ho hb (by decide) e.symm
theorem KSt.ks {w wr:World} {A:Option Addr} {m c:Nat} {l:List Bd} (h:KSt w wr (.slice A m c) m l) (hm:m=l.length) (hc:m<=c) (hc2:c<=9223372036854775807) (hl:∀ x∈l,x.fds.length<=8):KsOk wr wr.heap.size A m c (l.map Bd.kd):=by
 refine ⟨Rd.of_own h.own,by rw [List.length_map];exact hm,hc,hc2,fun k hk=>?_,Nat.le_refl _⟩
 obtain ⟨x,hx,rfl⟩:=List.mem_map.1 hk
 have hb:=h.bk x hx
 refine ⟨⟨?_,fun _=>⟨_,_,rfl,hb.lt,fun j u hu=>?_⟩⟩,rfl,Nat.le_refl _,?_⟩
 . show (fdCs x.fds).length=x.fds.length*3
   generalize x.fds=f
   induction f with
   | nil=>rfl
   | cons a f ih=>simp only [fdCs,List.flatMap_cons] at ih ⊢;rw [List.length_append,ih];simp [Fd.cs];omega
 . rw [Nat.zero_add]
   exact (hb.cell j).trans (by have hu':(fdCs x.fds)[j]?=some u:=hu;simpa using hu')
 . have:=hl x hx
   show x.fds.length<=_
   omega
def k4f0:List Fd:=[⟨⟨#[120]⟩,8,(-100)⟩,⟨⟨#[121]⟩,8,(-100)⟩]
def k4n0:ByteArray:=⟨#[115,112,111,116]⟩
def k4f1:List Fd:=[⟨⟨#[120]⟩,26,(-33554432)⟩,⟨⟨#[121]⟩,26,(-33554432)⟩,⟨⟨#[97,110,103]⟩,16,0⟩]
def k4n1:ByteArray:=⟨#[112,108,97,99,101]⟩
def k4f2:List Fd:=[⟨⟨#[118,120]⟩,22,(-2097152)⟩,⟨⟨#[118,121]⟩,22,(-2097152)⟩,⟨⟨#[115,112,105,110]⟩,18,(-131072)⟩,⟨⟨#[99,97,108,109]⟩,12,0⟩]
def k4n2:ByteArray:=⟨#[109,111,116,105,111,110]⟩
def k4f3:List Fd:=[⟨⟨#[119]⟩,18,4096⟩,⟨⟨#[104]⟩,18,4096⟩,⟨⟨#[109,97,115,115]⟩,20,0⟩,⟨⟨#[98,111,117,110,99,101]⟩,17,0⟩,⟨⟨#[114,117,98]⟩,17,0⟩]
def k4n3:ByteArray:=⟨#[115,104,97,112,101]⟩
def k4:List (ByteArray × List Fd):=[(k4n0,k4f0),(k4n1,k4f1),(k4n2,k4f2),(k4n3,k4f3)]
def Kinds4P (w:World) (e:Ending) (w':World):Prop:=∃ A c ks,e=.returned (.slice A 4 c)/\KsOk w' w'.heap.size A 4 c ks/\ks.map Kd.p=k4/\Below w.heap.size w w'
set_option maxHeartbeats 3200000 in
theorem kinds4_any (w:World):Calls Try.prog 96 #[.int i64 4] w (Kinds4P w):=by
 obtain ⟨i0,hi0,hz0,hz1,hz2⟩:=info_parts T.info63
 have HF:=hid fieldMk_any
 have t1:=and41
 have t2:=and42
 have t3:=and44
 go_enter Try.func96,Try.ntmps96
 go_wp2_with fail
 refine (HF.out ⟨#[120]⟩ 8 (-100) _).mono ?_
 rintro e w1 ⟨rfl,hb1⟩
 have HB1:=hid hb1
 clear hb1
 go_wp2_with fail
 refine (HF.out ⟨#[121]⟩ 8 (-100) _).mono ?_
 rintro e w2 ⟨rfl,hb2⟩
 have HB2:=hid (HB1.out.trans (hb2.mono HB1.out.size))
 clear hb2 HB1
 have HS:Hid (KSt w ((w2.alloc (.cells #[.string ⟨#[120]⟩,.int i64 8,.int i64 (-100),.string ⟨#[121]⟩,.int i64 8,.int i64 (-100)] 66)).alloc (.cells #[.string ⟨#[115,112,111,116]⟩,.slice (some ⟨w2.heap.size,0,none⟩) 2 2] 63)) (.slice (some ⟨w2.heap.size+1,0,none⟩) 1 1) 1 [⟨k4n0,w2.heap.size,k4f0⟩]):=hid (KSt.start HB2.out ⟨k4n0,w2.heap.size,k4f0⟩ rfl)
 clear HB2
 go_wp2_with fail
 refine (HF.out ⟨#[120]⟩ 26 (-33554432) _).mono ?_
 rintro e w3 ⟨rfl,hb3⟩
 have HS3:=hid (HS.out.below hb3)
 clear hb3 HS
 go_wp2_with fail
 refine (HF.out ⟨#[121]⟩ 26 (-33554432) _).mono ?_
 rintro e w4 ⟨rfl,hb4⟩
 have HS4:=hid (HS3.out.below hb4)
 clear hb4 HS3
 go_wp2_with fail
 refine (HF.out ⟨#[97,110,103]⟩ 16 0 _).mono ?_
 rintro e w5 ⟨rfl,hb5⟩
 have HS5:=hid (HS4.out.below hb5)
 clear hb5 HS4
 go_wp2_with
  (at_builtin
   go_must (refine wpList_append_one _ rfl (.tmp 33) (.tmp 39) _ rfl w.heap.size 63 i0 (.agg #[.string ByteArray.empty,.slice none 0 0]) 2 40 Try.underlying22 hi0 hz0 hz1 hz2 rfl (by decide) (.slice (some ⟨w2.heap.size+1,0,none⟩) 1 1) 1 _ rfl ((HS5.out.own.alloc _).alloc _) (w5.heap.size+1) 1 63 #[.string ⟨#[112,108,97,99,101]⟩,.slice (some ⟨w5.heap.size,0,none⟩) 3 3] rfl (Bk.new2 _ _ _ _) rfl ?c1 2 rfl ?c2 ?c3 ?c4 ?_)
   case c1=>simp [Value.oneCell']
   case c2=>unfold maxLen;omega
   case c3=>omega
   case c4=>(have:=HS5.out.bl.size;simp;omega)
   intro g1 c1 v1 hown hg hat
   have HT1:Hid (KSt w v1 (.slice (some ⟨g1,0,none⟩) 2 c1) 2 [⟨k4n0,w2.heap.size,k4f0⟩,⟨k4n1,w5.heap.size,k4f1⟩]):=hid (HS5.out.push ⟨k4n1,w5.heap.size,k4f1⟩ rfl hown hg)
   clear hown hg hat HS5)
 go_wp2_with fail
 refine (HF.out ⟨#[118,120]⟩ 22 (-2097152) _).mono ?_
 rintro e w6 ⟨rfl,hb6⟩
 have HS6:=hid (HT1.out.below hb6)
 clear hb6 HT1
 go_wp2_with fail
 refine (HF.out ⟨#[118,121]⟩ 22 (-2097152) _).mono ?_
 rintro e w7 ⟨rfl,hb7⟩
 have HS7:=hid (HS6.out.below hb7)
 clear hb7 HS6
 go_wp2_with fail
 refine (HF.out ⟨#[115,112,105,110]⟩ 18 (-131072) _).mono ?_
 rintro e w8 ⟨rfl,hb8⟩
 have HS8:=hid (HS7.out.below hb8)
 clear hb8 HS7
 go_wp2_with fail
 refine (HF.out ⟨#[99,97,108,109]⟩ 12 0 _).mono ?_
 rintro e w9 ⟨rfl,hb9⟩
 have HS9:=hid (HS8.out.below hb9)
 clear hb9 HS8
 go_wp2_with
  (at_builtin
   go_must (refine wpList_append_one _ rfl (.tmp 41) (.tmp 48) _ rfl w.heap.size 63 i0 (.agg #[.string ByteArray.empty,.slice none 0 0]) 2 40 Try.underlying22 hi0 hz0 hz1 hz2 rfl (by decide) (.slice (some ⟨g1,0,none⟩) 2 c1) 2 _ rfl ((HS9.out.own.alloc _).alloc _) (w9.heap.size+1) 1 63 #[.string ⟨#[109,111,116,105,111,110]⟩,.slice (some ⟨w9.heap.size,0,none⟩) 4 4] rfl (Bk.new2 _ _ _ _) rfl ?c1 3 rfl ?c2 ?c3 ?c4 ?_)
   case c1=>simp [Value.oneCell']
   case c2=>unfold maxLen;omega
   case c3=>omega
   case c4=>(have:=HS9.out.bl.size;simp;omega)
   intro g2 c2 v2 hown hg hat
   have HT2:Hid (KSt w v2 (.slice (some ⟨g2,0,none⟩) 3 c2) 3 [⟨k4n0,w2.heap.size,k4f0⟩,⟨k4n1,w5.heap.size,k4f1⟩,⟨k4n2,w9.heap.size,k4f2⟩]):=hid (HS9.out.push ⟨k4n2,w9.heap.size,k4f2⟩ rfl hown hg)
   clear hown hg hat HS9)
 go_wp2_with fail
 refine (HF.out ⟨#[119]⟩ 18 4096 _).mono ?_
 rintro e w10 ⟨rfl,hb10⟩
 have HS10:=hid (HT2.out.below hb10)
 clear hb10 HT2
 go_wp2_with fail
 refine (HF.out ⟨#[104]⟩ 18 4096 _).mono ?_
 rintro e w11 ⟨rfl,hb11⟩
 have HS11:=hid (HS10.out.below hb11)
 clear hb11 HS10
 go_wp2_with fail
 refine (HF.out ⟨#[109,97,115,115]⟩ 20 0 _).mono ?_
 rintro e w12 ⟨rfl,hb12⟩
 have HS12:=hid (HS11.out.below hb12)
 clear hb12 HS11
 go_wp2_with fail
 refine (HF.out ⟨#[98,111,117,110,99,101]⟩ 17 0 _).mono ?_
 rintro e w13 ⟨rfl,hb13⟩
 have HS13:=hid (HS12.out.below hb13)
 clear hb13 HS12
 go_wp2_with fail
 refine (HF.out ⟨#[114,117,98]⟩ 17 0 _).mono ?_
 rintro e w14 ⟨rfl,hb14⟩
 have HS14:=hid (HS13.out.below hb14)
 clear hb14 HS13
 go_wp2_with
  (at_builtin
   go_must (refine wpList_append_one _ rfl (.tmp 50) (.tmp 58) _ rfl w.heap.size 63 i0 (.agg #[.string ByteArray.empty,.slice none 0 0]) 2 40 Try.underlying22 hi0 hz0 hz1 hz2 rfl (by decide) (.slice (some ⟨g2,0,none⟩) 3 c2) 3 _ rfl ((HS14.out.own.alloc _).alloc _) (w14.heap.size+1) 1 63 #[.string ⟨#[115,104,97,112,101]⟩,.slice (some ⟨w14.heap.size,0,none⟩) 5 5] rfl (Bk.new2 _ _ _ _) rfl ?c1 4 rfl ?c2 ?c3 ?c4 ?_)
   case c1=>simp [Value.oneCell']
   case c2=>unfold maxLen;omega
   case c3=>omega
   case c4=>(have:=HS14.out.bl.size;simp;omega)
   intro g3 c3 v3 hown hg hat
   have HT3:Hid (KSt w v3 (.slice (some ⟨g3,0,none⟩) 4 c3) 4 [⟨k4n0,w2.heap.size,k4f0⟩,⟨k4n1,w5.heap.size,k4f1⟩,⟨k4n2,w9.heap.size,k4f2⟩,⟨k4n3,w14.heap.size,k4f3⟩]):=hid (HS14.out.push ⟨k4n3,w14.heap.size,k4f3⟩ rfl hown hg)
   clear hown hg hat HS14)
 go_ret
 have hcap:4<=c3/\c3<=9223372036854775807:=by
  rcases HT3.out.own.2 with ⟨h',_⟩ | ⟨g',cap',cur,h',_,hg,h1,h2,_,_⟩
  . simp at h'
  . injection h' with _ _ h3
    subst h3
    exact ⟨h1,by unfold maxLen at h2;omega⟩
 refine ⟨_,c3,_,rfl,HT3.out.ks rfl hcap.1 hcap.2 ?_,rfl,HT3.out.bl⟩
 intro x hx
 simp only [List.mem_cons,List.not_mem_nil,or_false] at hx
 rcases hx with rfl | rfl | rfl | rfl
 . show k4f0.length<=8;decide
 . show k4f1.length<=8;decide
 . show k4f2.length<=8;decide
 . show k4f3.length<=8;decide
end Go.Proofs.Ytnidcmhfbkdioaa
