/-
  The contract of Kinds at each number below 8. Conditions: none.
-/
import Derived.Test.YtnidcmhfbkdioaaSw15
import Derived.Test.YtnidcmhfbkdioaaSw9
namespace Go.Proofs.Ytnidcmhfbkdioaa
open Go.RowKit
open Go.IntKind (i64)
open Go.Lib (hid)
set_option maxRecDepth 100000
def kf_s:List Fd:=[⟨⟨#[120]⟩,8,(-100)⟩,⟨⟨#[121]⟩,8,(-100)⟩]
def kn_s:ByteArray:=⟨#[115,112,111,116]⟩
def kf_i:List Fd:=[⟨⟨#[112,108,97,121,101,114]⟩,2,0⟩,⟨⟨#[107,101,121,115]⟩,8,0⟩,⟨⟨#[120]⟩,8,(-128)⟩,⟨⟨#[121]⟩,8,(-128)⟩]
def kn_i:ByteArray:=⟨#[105,110,112,117,116]⟩
def kf_m:List Fd:=[⟨⟨#[112,114,111,103]⟩,2,(-1)⟩]
def kn_m:ByteArray:=⟨#[109,105,110,100]⟩
def kf_p:List Fd:=[⟨⟨#[120]⟩,26,(-33554432)⟩,⟨⟨#[121]⟩,26,(-33554432)⟩,⟨⟨#[97,110,103]⟩,16,0⟩]
def kn_p:ByteArray:=⟨#[112,108,97,99,101]⟩
def kf_o:List Fd:=[⟨⟨#[118,120]⟩,22,(-2097152)⟩,⟨⟨#[118,121]⟩,22,(-2097152)⟩,⟨⟨#[115,112,105,110]⟩,18,(-131072)⟩,⟨⟨#[99,97,108,109]⟩,12,0⟩]
def kn_o:ByteArray:=⟨#[109,111,116,105,111,110]⟩
def kf_h:List Fd:=[⟨⟨#[119]⟩,18,4096⟩,⟨⟨#[104]⟩,18,4096⟩,⟨⟨#[109,97,115,115]⟩,20,0⟩,⟨⟨#[98,111,117,110,99,101]⟩,17,0⟩,⟨⟨#[114,117,98]⟩,17,0⟩]
def kn_h:ByteArray:=⟨#[115,104,97,112,101]⟩
def kindsN (n:Nat):List (ByteArray × List Fd):=[(kn_s,kf_s)]++(if n % 2=1 then [(kn_i,kf_i)] else [])++(if n / 2 % 2=1 then [(kn_m,kf_m)] else [])++(if n / 4 % 2=1 then [(kn_p,kf_p),(kn_o,kf_o),(kn_h,kf_h)] else [])
def KindsNP (n:Nat) (w:World) (e:Ending) (w':World):Prop:=∃ A m c ks,e=.returned (.slice A m c)/\KsY w' 0 A m c ks/\ks.map Kd.p=kindsN n/\Below w.heap.size w w'
theorem KSt.ksy {w wr:World} {A:Option Addr} {m c:Nat} {l:List Bd} (h:KSt w wr (.slice A m c) m l) (hm:m=l.length) (hl:∀ x∈l,x.fds.length<=8):KsY wr 0 A m c (l.map Bd.kd):=by
 obtain ⟨hc,hc2⟩:=own_cap2 h.own
 refine ⟨RdY.of_own h.own,by rw [List.length_map];exact hm,hc,hc2,fun k hk=>?_⟩
 obtain ⟨x,hx,rfl⟩:=List.mem_map.1 hk
 have hb:=h.bk x hx
 refine ⟨RdY.of_bk hb ?_ (fun j u hu=>by have hu':(fdCs x.fds)[j]?=some u:=hu;simpa using hu'),rfl,Nat.le_refl _,?_⟩
 . show (fdCs x.fds).length=x.fds.length*3
   generalize x.fds=f
   induction f with
   | nil=>rfl
   | cons a f ih=>simp only [fdCs,List.flatMap_cons] at ih ⊢;rw [List.length_append,ih];simp [Fd.cs];omega
 . have:=hl x hx
   show x.fds.length<=_
   omega
set_option maxHeartbeats 3200000 in
theorem kinds_0 (w:World):Calls Try.prog 96 #[.int i64 0] w (KindsNP 0 w):=by
 obtain ⟨i0,hi0,hz0,hz1,hz2⟩:=info_parts T.info63
 have HF:=hid fieldMk_any
 have t1:(bits BinOp.and IntKind.i64 0 1 == 1)=false:=by decide +kernel
 have t2:(bits BinOp.and IntKind.i64 0 2 == 2)=false:=by decide +kernel
 have t3:(bits BinOp.and IntKind.i64 0 4 == 4)=false:=by decide +kernel
 go_enter Try.func96,Try.ntmps96
 go_wp2_with fail
 refine (HF.out ⟨#[120]⟩ 8 (-100) _).mono ?_
 rintro e w1 ⟨rfl,hb1⟩
 have HB1:=hid hb1
 clear hb1
 go_wp2_with fail
 refine (HF.out ⟨#[121]⟩ 8 (-100) _).mono ?_
 rintro e w2 ⟨rfl,hb2⟩
 have HB2:=hid (HB1.out.trans (hb2.mono HB1.out.size))
 clear hb2 HB1
 have HS:Hid (KSt w ((w2.alloc (.cells #[.string ⟨#[120]⟩,.int i64 8,.int i64 (-100),.string ⟨#[121]⟩,.int i64 8,.int i64 (-100)] 66)).alloc (.cells #[.string ⟨#[115,112,111,116]⟩,.slice (some ⟨w2.heap.size,0,none⟩) 2 2] 63)) (.slice (some ⟨w2.heap.size+1,0,none⟩) 1 1) 1 [⟨kn_s,w2.heap.size,kf_s⟩]):=hid (KSt.start HB2.out ⟨kn_s,w2.heap.size,kf_s⟩ rfl)
 clear HB2
 go_wp2_with fail
 go_ret
 refine ⟨_,_,_,_,rfl,HS.out.ksy rfl ?_,rfl,HS.out.bl⟩
 intro x hx
 simp only [List.mem_cons,List.not_mem_nil,or_false] at hx
 subst hx
 show kf_s.length<=8;decide
set_option maxHeartbeats 3200000 in
theorem kinds_1 (w:World):Calls Try.prog 96 #[.int i64 1] w (KindsNP 1 w):=by
 obtain ⟨i0,hi0,hz0,hz1,hz2⟩:=info_parts T.info63
 have HF:=hid fieldMk_any
 have t1:(bits BinOp.and IntKind.i64 1 1 == 1)=true:=by decide +kernel
 have t2:(bits BinOp.and IntKind.i64 1 2 == 2)=false:=by decide +kernel
 have t3:(bits BinOp.and IntKind.i64 1 4 == 4)=false:=by decide +kernel
 go_enter Try.func96,Try.ntmps96
 go_wp2_with fail
 refine (HF.out ⟨#[120]⟩ 8 (-100) _).mono ?_
 rintro e w1 ⟨rfl,hb1⟩
 have HB1:=hid hb1
 clear hb1
 go_wp2_with fail
 refine (HF.out ⟨#[121]⟩ 8 (-100) _).mono ?_
 rintro e w2 ⟨rfl,hb2⟩
 have HB2:=hid (HB1.out.trans (hb2.mono HB1.out.size))
 clear hb2 HB1
 have HS:Hid (KSt w ((w2.alloc (.cells #[.string ⟨#[120]⟩,.int i64 8,.int i64 (-100),.string ⟨#[121]⟩,.int i64 8,.int i64 (-100)] 66)).alloc (.cells #[.string ⟨#[115,112,111,116]⟩,.slice (some ⟨w2.heap.size,0,none⟩) 2 2] 63)) (.slice (some ⟨w2.heap.size+1,0,none⟩) 1 1) 1 [⟨kn_s,w2.heap.size,kf_s⟩]):=hid (KSt.start HB2.out ⟨kn_s,w2.heap.size,kf_s⟩ rfl)
 clear HB2
 go_wp2_with fail
 refine (HF.out ⟨#[112,108,97,121,101,114]⟩ 2 0 _).mono ?_
 rintro e w3 ⟨rfl,hb3⟩
 have HS3:=hid (HS.out.below hb3)
 clear hb3 HS
 go_wp2_with fail
 refine (HF.out ⟨#[107,101,121,115]⟩ 8 0 _).mono ?_
 rintro e w4 ⟨rfl,hb4⟩
 have HS4:=hid (HS3.out.below hb4)
 clear hb4 HS3
 go_wp2_with fail
 refine (HF.out ⟨#[120]⟩ 8 (-128) _).mono ?_
 rintro e w5 ⟨rfl,hb5⟩
 have HS5:=hid (HS4.out.below hb5)
 clear hb5 HS4
 go_wp2_with fail
 refine (HF.out ⟨#[121]⟩ 8 (-128) _).mono ?_
 rintro e w6 ⟨rfl,hb6⟩
 have HS6:=hid (HS5.out.below hb6)
 clear hb6 HS5
 go_wp2_with
  (at_builtin
   go_must (refine wpList_append_one _ rfl (.tmp 12) (.tmp 19) _ rfl w.heap.size 63 i0 (.agg #[.string ByteArray.empty,.slice none 0 0]) 2 40 Try.underlying22 hi0 hz0 hz1 hz2 rfl (by decide) (.slice (some ⟨w2.heap.size+1,0,none⟩) 1 1) 1 _ rfl ((HS6.out.own.alloc _).alloc _) (w6.heap.size+1) 1 63 #[.string ⟨#[105,110,112,117,116]⟩,.slice (some ⟨w6.heap.size,0,none⟩) 4 4] rfl (Bk.new2 _ _ _ _) rfl ?c1 2 rfl ?c2 ?c3 ?c4 ?_)
   case c1=>simp [Value.oneCell']
   case c2=>unfold maxLen;omega
   case c3=>omega
   case c4=>(have:=HS6.out.bl.size;simp;omega)
   intro g1 c1 v1 hown hg hat
   have HT1:Hid (KSt w v1 (.slice (some ⟨g1,0,none⟩) 2 c1) 2 [⟨kn_s,w2.heap.size,kf_s⟩,⟨kn_i,w6.heap.size,kf_i⟩]):=hid (HS6.out.push ⟨kn_i,w6.heap.size,kf_i⟩ rfl hown hg)
   clear hown hg hat HS6)
 go_ret
 refine ⟨_,_,_,_,rfl,HT1.out.ksy rfl ?_,rfl,HT1.out.bl⟩
 intro x hx
 simp only [List.mem_cons,List.not_mem_nil,or_false] at hx
 rcases hx with rfl | rfl
 . show kf_s.length<=8;decide
 . show kf_i.length<=8;decide
set_option maxHeartbeats 3200000 in
theorem kinds_2 (w:World):Calls Try.prog 96 #[.int i64 2] w (KindsNP 2 w):=by
 obtain ⟨i0,hi0,hz0,hz1,hz2⟩:=info_parts T.info63
 have HF:=hid fieldMk_any
 have t1:(bits BinOp.and IntKind.i64 2 1 == 1)=false:=by decide +kernel
 have t2:(bits BinOp.and IntKind.i64 2 2 == 2)=true:=by decide +kernel
 have t3:(bits BinOp.and IntKind.i64 2 4 == 4)=false:=by decide +kernel
 go_enter Try.func96,Try.ntmps96
 go_wp2_with fail
 refine (HF.out ⟨#[120]⟩ 8 (-100) _).mono ?_
 rintro e w1 ⟨rfl,hb1⟩
 have HB1:=hid hb1
 clear hb1
 go_wp2_with fail
 refine (HF.out ⟨#[121]⟩ 8 (-100) _).mono ?_
 rintro e w2 ⟨rfl,hb2⟩
 have HB2:=hid (HB1.out.trans (hb2.mono HB1.out.size))
 clear hb2 HB1
 have HS:Hid (KSt w ((w2.alloc (.cells #[.string ⟨#[120]⟩,.int i64 8,.int i64 (-100),.string ⟨#[121]⟩,.int i64 8,.int i64 (-100)] 66)).alloc (.cells #[.string ⟨#[115,112,111,116]⟩,.slice (some ⟨w2.heap.size,0,none⟩) 2 2] 63)) (.slice (some ⟨w2.heap.size+1,0,none⟩) 1 1) 1 [⟨kn_s,w2.heap.size,kf_s⟩]):=hid (KSt.start HB2.out ⟨kn_s,w2.heap.size,kf_s⟩ rfl)
 clear HB2
 go_wp2_with fail
 refine (HF.out ⟨#[112,114,111,103]⟩ 2 (-1) _).mono ?_
 rintro e w3 ⟨rfl,hb3⟩
 have HS3:=hid (HS.out.below hb3)
 clear hb3 HS
 go_wp2_with
  (at_builtin
   go_must (refine wpList_append_one _ rfl (.tmp 24) (.tmp 28) _ rfl w.heap.size 63 i0 (.agg #[.string ByteArray.empty,.slice none 0 0]) 2 40 Try.underlying22 hi0 hz0 hz1 hz2 rfl (by decide) (.slice (some ⟨w2.heap.size+1,0,none⟩) 1 1) 1 _ rfl ((HS3.out.own.alloc _).alloc _) (w3.heap.size+1) 1 63 #[.string ⟨#[109,105,110,100]⟩,.slice (some ⟨w3.heap.size,0,none⟩) 1 1] rfl (Bk.new2 _ _ _ _) rfl ?c1 2 rfl ?c2 ?c3 ?c4 ?_)
   case c1=>simp [Value.oneCell']
   case c2=>unfold maxLen;omega
   case c3=>omega
   case c4=>(have:=HS3.out.bl.size;simp;omega)
   intro g1 c1 v1 hown hg hat
   have HT1:Hid (KSt w v1 (.slice (some ⟨g1,0,none⟩) 2 c1) 2 [⟨kn_s,w2.heap.size,kf_s⟩,⟨kn_m,w3.heap.size,kf_m⟩]):=hid (HS3.out.push ⟨kn_m,w3.heap.size,kf_m⟩ rfl hown hg)
   clear hown hg hat HS3)
 go_ret
 refine ⟨_,_,_,_,rfl,HT1.out.ksy rfl ?_,rfl,HT1.out.bl⟩
 intro x hx
 simp only [List.mem_cons,List.not_mem_nil,or_false] at hx
 rcases hx with rfl | rfl
 . show kf_s.length<=8;decide
 . show kf_m.length<=8;decide
set_option maxHeartbeats 3200000 in
theorem kinds_3 (w:World):Calls Try.prog 96 #[.int i64 3] w (KindsNP 3 w):=by
 obtain ⟨i0,hi0,hz0,hz1,hz2⟩:=info_parts T.info63
 have HF:=hid fieldMk_any
 have t1:(bits BinOp.and IntKind.i64 3 1 == 1)=true:=by decide +kernel
 have t2:(bits BinOp.and IntKind.i64 3 2 == 2)=true:=by decide +kernel
 have t3:(bits BinOp.and IntKind.i64 3 4 == 4)=false:=by decide +kernel
 go_enter Try.func96,Try.ntmps96
 go_wp2_with fail
 refine (HF.out ⟨#[120]⟩ 8 (-100) _).mono ?_
 rintro e w1 ⟨rfl,hb1⟩
 have HB1:=hid hb1
 clear hb1
 go_wp2_with fail
 refine (HF.out ⟨#[121]⟩ 8 (-100) _).mono ?_
 rintro e w2 ⟨rfl,hb2⟩
 have HB2:=hid (HB1.out.trans (hb2.mono HB1.out.size))
 clear hb2 HB1
 have HS:Hid (KSt w ((w2.alloc (.cells #[.string ⟨#[120]⟩,.int i64 8,.int i64 (-100),.string ⟨#[121]⟩,.int i64 8,.int i64 (-100)] 66)).alloc (.cells #[.string ⟨#[115,112,111,116]⟩,.slice (some ⟨w2.heap.size,0,none⟩) 2 2] 63)) (.slice (some ⟨w2.heap.size+1,0,none⟩) 1 1) 1 [⟨kn_s,w2.heap.size,kf_s⟩]):=hid (KSt.start HB2.out ⟨kn_s,w2.heap.size,kf_s⟩ rfl)
 clear HB2
 go_wp2_with fail
 refine (HF.out ⟨#[112,108,97,121,101,114]⟩ 2 0 _).mono ?_
 rintro e w3 ⟨rfl,hb3⟩
 have HS3:=hid (HS.out.below hb3)
 clear hb3 HS
 go_wp2_with fail
 refine (HF.out ⟨#[107,101,121,115]⟩ 8 0 _).mono ?_
 rintro e w4 ⟨rfl,hb4⟩
 have HS4:=hid (HS3.out.below hb4)
 clear hb4 HS3
 go_wp2_with fail
 refine (HF.out ⟨#[120]⟩ 8 (-128) _).mono ?_
 rintro e w5 ⟨rfl,hb5⟩
 have HS5:=hid (HS4.out.below hb5)
 clear hb5 HS4
 go_wp2_with fail
 refine (HF.out ⟨#[121]⟩ 8 (-128) _).mono ?_
 rintro e w6 ⟨rfl,hb6⟩
 have HS6:=hid (HS5.out.below hb6)
 clear hb6 HS5
 go_wp2_with
  (at_builtin
   go_must (refine wpList_append_one _ rfl (.tmp 12) (.tmp 19) _ rfl w.heap.size 63 i0 (.agg #[.string ByteArray.empty,.slice none 0 0]) 2 40 Try.underlying22 hi0 hz0 hz1 hz2 rfl (by decide) (.slice (some ⟨w2.heap.size+1,0,none⟩) 1 1) 1 _ rfl ((HS6.out.own.alloc _).alloc _) (w6.heap.size+1) 1 63 #[.string ⟨#[105,110,112,117,116]⟩,.slice (some ⟨w6.heap.size,0,none⟩) 4 4] rfl (Bk.new2 _ _ _ _) rfl ?c1 2 rfl ?c2 ?c3 ?c4 ?_)
   case c1=>simp [Value.oneCell']
   case c2=>unfold maxLen;omega
   case c3=>omega
   case c4=>(have:=HS6.out.bl.size;simp;omega)
   intro g1 c1 v1 hown hg hat
   have HT1:Hid (KSt w v1 (.slice (some ⟨g1,0,none⟩) 2 c1) 2 [⟨kn_s,w2.heap.size,kf_s⟩,⟨kn_i,w6.heap.size,kf_i⟩]):=hid (HS6.out.push ⟨kn_i,w6.heap.size,kf_i⟩ rfl hown hg)
   clear hown hg hat HS6)
 go_wp2_with fail
 refine (HF.out ⟨#[112,114,111,103]⟩ 2 (-1) _).mono ?_
 rintro e w7 ⟨rfl,hb7⟩
 have HS7:=hid (HT1.out.below hb7)
 clear hb7 HT1
 go_wp2_with
  (at_builtin
   go_must (refine wpList_append_one _ rfl (.tmp 24) (.tmp 28) _ rfl w.heap.size 63 i0 (.agg #[.string ByteArray.empty,.slice none 0 0]) 2 40 Try.underlying22 hi0 hz0 hz1 hz2 rfl (by decide) (.slice (some ⟨g1,0,none⟩) 2 c1) 2 _ rfl ((HS7.out.own.alloc _).alloc _) (w7.heap.size+1) 1 63 #[.string ⟨#[109,105,110,100]⟩,.slice (some ⟨w7.heap.size,0,none⟩) 1 1] rfl (Bk.new2 _ _ _ _) rfl ?c1 3 rfl ?c2 ?c3 ?c4 ?_)
   case c1=>simp [Value.oneCell']
   case c2=>unfold maxLen;omega
   case c3=>omega
   case c4=>(have:=HS7.out.bl.size;simp;omega)
   intro g2 c2 v2 hown hg hat
   have HT2:Hid (KSt w v2 (.slice (some ⟨g2,0,none⟩) 3 c2) 3 [⟨kn_s,w2.heap.size,kf_s⟩,⟨kn_i,w6.heap.size,kf_i⟩,⟨kn_m,w7.heap.size,kf_m⟩]):=hid (HS7.out.push ⟨kn_m,w7.heap.size,kf_m⟩ rfl hown hg)
   clear hown hg hat HS7)
 go_ret
 refine ⟨_,_,_,_,rfl,HT2.out.ksy rfl ?_,rfl,HT2.out.bl⟩
 intro x hx
 simp only [List.mem_cons,List.not_mem_nil,or_false] at hx
 rcases hx with rfl | rfl | rfl
 . show kf_s.length<=8;decide
 . show kf_i.length<=8;decide
 . show kf_m.length<=8;decide
set_option maxHeartbeats 3200000 in
theorem kinds_4 (w:World):Calls Try.prog 96 #[.int i64 4] w (KindsNP 4 w):=by
 obtain ⟨i0,hi0,hz0,hz1,hz2⟩:=info_parts T.info63
 have HF:=hid fieldMk_any
 have t1:(bits BinOp.and IntKind.i64 4 1 == 1)=false:=by decide +kernel
 have t2:(bits BinOp.and IntKind.i64 4 2 == 2)=false:=by decide +kernel
 have t3:(bits BinOp.and IntKind.i64 4 4 == 4)=true:=by decide +kernel
 go_enter Try.func96,Try.ntmps96
 go_wp2_with fail
 refine (HF.out ⟨#[120]⟩ 8 (-100) _).mono ?_
 rintro e w1 ⟨rfl,hb1⟩
 have HB1:=hid hb1
 clear hb1
 go_wp2_with fail
 refine (HF.out ⟨#[121]⟩ 8 (-100) _).mono ?_
 rintro e w2 ⟨rfl,hb2⟩
 have HB2:=hid (HB1.out.trans (hb2.mono HB1.out.size))
 clear hb2 HB1
 have HS:Hid (KSt w ((w2.alloc (.cells #[.string ⟨#[120]⟩,.int i64 8,.int i64 (-100),.string ⟨#[121]⟩,.int i64 8,.int i64 (-100)] 66)).alloc (.cells #[.string ⟨#[115,112,111,116]⟩,.slice (some ⟨w2.heap.size,0,none⟩) 2 2] 63)) (.slice (some ⟨w2.heap.size+1,0,none⟩) 1 1) 1 [⟨kn_s,w2.heap.size,kf_s⟩]):=hid (KSt.start HB2.out ⟨kn_s,w2.heap.size,kf_s⟩ rfl)
 clear HB2
 go_wp2_with fail
 refine (HF.out ⟨#[120]⟩ 26 (-33554432) _).mono ?_
 rintro e w3 ⟨rfl,hb3⟩
 have HS3:=hid (HS.out.below hb3)
 clear hb3 HS
 go_wp2_with fail
 refine (HF.out ⟨#[121]⟩ 26 (-33554432) _).mono ?_
 rintro e w4 ⟨rfl,hb4⟩
 have HS4:=hid (HS3.out.below hb4)
 clear hb4 HS3
 go_wp2_with fail
 refine (HF.out ⟨#[97,110,103]⟩ 16 0 _).mono ?_
 rintro e w5 ⟨rfl,hb5⟩
 have HS5:=hid (HS4.out.below hb5)
 clear hb5 HS4
 go_wp2_with
  (at_builtin
   go_must (refine wpList_append_one _ rfl (.tmp 33) (.tmp 39) _ rfl w.heap.size 63 i0 (.agg #[.string ByteArray.empty,.slice none 0 0]) 2 40 Try.underlying22 hi0 hz0 hz1 hz2 rfl (by decide) (.slice (some ⟨w2.heap.size+1,0,none⟩) 1 1) 1 _ rfl ((HS5.out.own.alloc _).alloc _) (w5.heap.size+1) 1 63 #[.string ⟨#[112,108,97,99,101]⟩,.slice (some ⟨w5.heap.size,0,none⟩) 3 3] rfl (Bk.new2 _ _ _ _) rfl ?c1 2 rfl ?c2 ?c3 ?c4 ?_)
   case c1=>simp [Value.oneCell']
   case c2=>unfold maxLen;omega
   case c3=>omega
   case c4=>(have:=HS5.out.bl.size;simp;omega)
   intro g1 c1 v1 hown hg hat
   have HT1:Hid (KSt w v1 (.slice (some ⟨g1,0,none⟩) 2 c1) 2 [⟨kn_s,w2.heap.size,kf_s⟩,⟨kn_p,w5.heap.size,kf_p⟩]):=hid (HS5.out.push ⟨kn_p,w5.heap.size,kf_p⟩ rfl hown hg)
   clear hown hg hat HS5)
 go_wp2_with fail
 refine (HF.out ⟨#[118,120]⟩ 22 (-2097152) _).mono ?_
 rintro e w6 ⟨rfl,hb6⟩
 have HS6:=hid (HT1.out.below hb6)
 clear hb6 HT1
 go_wp2_with fail
 refine (HF.out ⟨#[118,121]⟩ 22 (-2097152) _).mono ?_
 rintro e w7 ⟨rfl,hb7⟩
 have HS7:=hid (HS6.out.below hb7)
 clear hb7 HS6
 go_wp2_with fail
 refine (HF.out ⟨#[115,112,105,110]⟩ 18 (-131072) _).mono ?_
 rintro e w8 ⟨rfl,hb8⟩
 have HS8:=hid (HS7.out.below hb8)
 clear hb8 HS7
 go_wp2_with fail
 refine (HF.out ⟨#[99,97,108,109]⟩ 12 0 _).mono ?_
 rintro e w9 ⟨rfl,hb9⟩
 have HS9:=hid (HS8.out.below hb9)
 clear hb9 HS8
 go_wp2_with
  (at_builtin
   go_must (refine wpList_append_one _ rfl (.tmp 41) (.tmp 48) _ rfl w.heap.size 63 i0 (.agg #[.string ByteArray.empty,.slice none 0 0]) 2 40 Try.underlying22 hi0 hz0 hz1 hz2 rfl (by decide) (.slice (some ⟨g1,0,none⟩) 2 c1) 2 _ rfl ((HS9.out.own.alloc _).alloc _) (w9.heap.size+1) 1 63 #[.string ⟨#[109,111,116,105,111,110]⟩,.slice (some ⟨w9.heap.size,0,none⟩) 4 4] rfl (Bk.new2 _ _ _ _) rfl ?c1 3 rfl ?c2 ?c3 ?c4 ?_)
   case c1=>simp [Value.oneCell']
   case c2=>unfold maxLen;omega
   case c3=>omega
   case c4=>(have:=HS9.out.bl.size;simp;omega)
   intro g2 c2 v2 hown hg hat
   have HT2:Hid (KSt w v2 (.slice (some ⟨g2,0,none⟩) 3 c2) 3 [⟨kn_s,w2.heap.size,kf_s⟩,⟨kn_p,w5.heap.size,kf_p⟩,⟨kn_o,w9.heap.size,kf_o⟩]):=hid (HS9.out.push ⟨kn_o,w9.heap.size,kf_o⟩ rfl hown hg)
   clear hown hg hat HS9)
 go_wp2_with fail
 refine (HF.out ⟨#[119]⟩ 18 4096 _).mono ?_
 rintro e w10 ⟨rfl,hb10⟩
 have HS10:=hid (HT2.out.below hb10)
 clear hb10 HT2
 go_wp2_with fail
 refine (HF.out ⟨#[104]⟩ 18 4096 _).mono ?_
 rintro e w11 ⟨rfl,hb11⟩
 have HS11:=hid (HS10.out.below hb11)
 clear hb11 HS10
 go_wp2_with fail
 refine (HF.out ⟨#[109,97,115,115]⟩ 20 0 _).mono ?_
 rintro e w12 ⟨rfl,hb12⟩
 have HS12:=hid (HS11.out.below hb12)
 clear hb12 HS11
 go_wp2_with fail
 refine (HF.out ⟨#[98,111,117,110,99,101]⟩ 17 0 _).mono ?_
 rintro e w13 ⟨rfl,hb13⟩
 have HS13:=hid (HS12.out.below hb13)
 clear hb13 HS12
 go_wp2_with fail
 refine (HF.out ⟨#[114,117,98]⟩ 17 0 _).mono ?_
 rintro e w14 ⟨rfl,hb14⟩
 have HS14:=hid (HS13.out.below hb14)
 clear hb14 HS13
 go_wp2_with
  (at_builtin
   go_must (refine wpList_append_one _ rfl (.tmp 50) (.tmp 58) _ rfl w.heap.size 63 i0 (.agg #[.string ByteArray.empty,.slice none 0 0]) 2 40 Try.underlying22 hi0 hz0 hz1 hz2 rfl (by decide) (.slice (some ⟨g2,0,none⟩) 3 c2) 3 _ rfl ((HS14.out.own.alloc _).alloc _) (w14.heap.size+1) 1 63 #[.string ⟨#[115,104,97,112,101]⟩,.slice (some ⟨w14.heap.size,0,none⟩) 5 5] rfl (Bk.new2 _ _ _ _) rfl ?c1 4 rfl ?c2 ?c3 ?c4 ?_)
   case c1=>simp [Value.oneCell']
   case c2=>unfold maxLen;omega
   case c3=>omega
   case c4=>(have:=HS14.out.bl.size;simp;omega)
   intro g3 c3 v3 hown hg hat
   have HT3:Hid (KSt w v3 (.slice (some ⟨g3,0,none⟩) 4 c3) 4 [⟨kn_s,w2.heap.size,kf_s⟩,⟨kn_p,w5.heap.size,kf_p⟩,⟨kn_o,w9.heap.size,kf_o⟩,⟨kn_h,w14.heap.size,kf_h⟩]):=hid (HS14.out.push ⟨kn_h,w14.heap.size,kf_h⟩ rfl hown hg)
   clear hown hg hat HS14)
 go_ret
 refine ⟨_,_,_,_,rfl,HT3.out.ksy rfl ?_,rfl,HT3.out.bl⟩
 intro x hx
 simp only [List.mem_cons,List.not_mem_nil,or_false] at hx
 rcases hx with rfl | rfl | rfl | rfl
 . show kf_s.length<=8;decide
 . show kf_p.length<=8;decide
 . show kf_o.length<=8;decide
 . show kf_h.length<=8;decide
set_option maxHeartbeats 3200000 in
theorem kinds_5 (w:World):Calls Try.prog 96 #[.int i64 5] w (KindsNP 5 w):=by
 obtain ⟨i0,hi0,hz0,hz1,hz2⟩:=info_parts T.info63
 have HF:=hid fieldMk_any
 have t1:(bits BinOp.and IntKind.i64 5 1 == 1)=true:=by decide +kernel
 have t2:(bits BinOp.and IntKind.i64 5 2 == 2)=false:=by decide +kernel
 have t3:(bits BinOp.and IntKind.i64 5 4 == 4)=true:=by decide +kernel
 go_enter Try.func96,Try.ntmps96
 go_wp2_with fail
 refine (HF.out ⟨#[120]⟩ 8 (-100) _).mono ?_
 rintro e w1 ⟨rfl,hb1⟩
 have HB1:=hid hb1
 clear hb1
 go_wp2_with fail
 refine (HF.out ⟨#[121]⟩ 8 (-100) _).mono ?_
 rintro e w2 ⟨rfl,hb2⟩
 have HB2:=hid (HB1.out.trans (hb2.mono HB1.out.size))
 clear hb2 HB1
 have HS:Hid (KSt w ((w2.alloc (.cells #[.string ⟨#[120]⟩,.int i64 8,.int i64 (-100),.string ⟨#[121]⟩,.int i64 8,.int i64 (-100)] 66)).alloc (.cells #[.string ⟨#[115,112,111,116]⟩,.slice (some ⟨w2.heap.size,0,none⟩) 2 2] 63)) (.slice (some ⟨w2.heap.size+1,0,none⟩) 1 1) 1 [⟨kn_s,w2.heap.size,kf_s⟩]):=hid (KSt.start HB2.out ⟨kn_s,w2.heap.size,kf_s⟩ rfl)
 clear HB2
 go_wp2_with fail
 refine (HF.out ⟨#[112,108,97,121,101,114]⟩ 2 0 _).mono ?_
 rintro e w3 ⟨rfl,hb3⟩
 have HS3:=hid (HS.out.below hb3)
 clear hb3 HS
 go_wp2_with fail
 refine (HF.out ⟨#[107,101,121,115]⟩ 8 0 _).mono ?_
 rintro e w4 ⟨rfl,hb4⟩
 have HS4:=hid (HS3.out.below hb4)
 clear hb4 HS3
 go_wp2_with fail
 refine (HF.out ⟨#[120]⟩ 8 (-128) _).mono ?_
 rintro e w5 ⟨rfl,hb5⟩
 have HS5:=hid (HS4.out.below hb5)
 clear hb5 HS4
 go_wp2_with fail
 refine (HF.out ⟨#[121]⟩ 8 (-128) _).mono ?_
 rintro e w6 ⟨rfl,hb6⟩
 have HS6:=hid (HS5.out.below hb6)
 clear hb6 HS5
 go_wp2_with
  (at_builtin
   go_must (refine wpList_append_one _ rfl (.tmp 12) (.tmp 19) _ rfl w.heap.size 63 i0 (.agg #[.string ByteArray.empty,.slice none 0 0]) 2 40 Try.underlying22 hi0 hz0 hz1 hz2 rfl (by decide) (.slice (some ⟨w2.heap.size+1,0,none⟩) 1 1) 1 _ rfl ((HS6.out.own.alloc _).alloc _) (w6.heap.size+1) 1 63 #[.string ⟨#[105,110,112,117,116]⟩,.slice (some ⟨w6.heap.size,0,none⟩) 4 4] rfl (Bk.new2 _ _ _ _) rfl ?c1 2 rfl ?c2 ?c3 ?c4 ?_)
   case c1=>simp [Value.oneCell']
   case c2=>unfold maxLen;omega
   case c3=>omega
   case c4=>(have:=HS6.out.bl.size;simp;omega)
   intro g1 c1 v1 hown hg hat
   have HT1:Hid (KSt w v1 (.slice (some ⟨g1,0,none⟩) 2 c1) 2 [⟨kn_s,w2.heap.size,kf_s⟩,⟨kn_i,w6.heap.size,kf_i⟩]):=hid (HS6.out.push ⟨kn_i,w6.heap.size,kf_i⟩ rfl hown hg)
   clear hown hg hat HS6)
 go_wp2_with fail
 refine (HF.out ⟨#[120]⟩ 26 (-33554432) _).mono ?_
 rintro e w7 ⟨rfl,hb7⟩
 have HS7:=hid (HT1.out.below hb7)
 clear hb7 HT1
 go_wp2_with fail
 refine (HF.out ⟨#[121]⟩ 26 (-33554432) _).mono ?_
 rintro e w8 ⟨rfl,hb8⟩
 have HS8:=hid (HS7.out.below hb8)
 clear hb8 HS7
 go_wp2_with fail
 refine (HF.out ⟨#[97,110,103]⟩ 16 0 _).mono ?_
 rintro e w9 ⟨rfl,hb9⟩
 have HS9:=hid (HS8.out.below hb9)
 clear hb9 HS8
 go_wp2_with
  (at_builtin
   go_must (refine wpList_append_one _ rfl (.tmp 33) (.tmp 39) _ rfl w.heap.size 63 i0 (.agg #[.string ByteArray.empty,.slice none 0 0]) 2 40 Try.underlying22 hi0 hz0 hz1 hz2 rfl (by decide) (.slice (some ⟨g1,0,none⟩) 2 c1) 2 _ rfl ((HS9.out.own.alloc _).alloc _) (w9.heap.size+1) 1 63 #[.string ⟨#[112,108,97,99,101]⟩,.slice (some ⟨w9.heap.size,0,none⟩) 3 3] rfl (Bk.new2 _ _ _ _) rfl ?c1 3 rfl ?c2 ?c3 ?c4 ?_)
   case c1=>simp [Value.oneCell']
   case c2=>unfold maxLen;omega
   case c3=>omega
   case c4=>(have:=HS9.out.bl.size;simp;omega)
   intro g2 c2 v2 hown hg hat
   have HT2:Hid (KSt w v2 (.slice (some ⟨g2,0,none⟩) 3 c2) 3 [⟨kn_s,w2.heap.size,kf_s⟩,⟨kn_i,w6.heap.size,kf_i⟩,⟨kn_p,w9.heap.size,kf_p⟩]):=hid (HS9.out.push ⟨kn_p,w9.heap.size,kf_p⟩ rfl hown hg)
   clear hown hg hat HS9)
 go_wp2_with fail
 refine (HF.out ⟨#[118,120]⟩ 22 (-2097152) _).mono ?_
 rintro e w10 ⟨rfl,hb10⟩
 have HS10:=hid (HT2.out.below hb10)
 clear hb10 HT2
 go_wp2_with fail
 refine (HF.out ⟨#[118,121]⟩ 22 (-2097152) _).mono ?_
 rintro e w11 ⟨rfl,hb11⟩
 have HS11:=hid (HS10.out.below hb11)
 clear hb11 HS10
 go_wp2_with fail
 refine (HF.out ⟨#[115,112,105,110]⟩ 18 (-131072) _).mono ?_
 rintro e w12 ⟨rfl,hb12⟩
 have HS12:=hid (HS11.out.below hb12)
 clear hb12 HS11
 go_wp2_with fail
 refine (HF.out ⟨#[99,97,108,109]⟩ 12 0 _).mono ?_
 rintro e w13 ⟨rfl,hb13⟩
 have HS13:=hid (HS12.out.below hb13)
 clear hb13 HS12
 go_wp2_with
  (at_builtin
   go_must (refine wpList_append_one _ rfl (.tmp 41) (.tmp 48) _ rfl w.heap.size 63 i0 (.agg #[.string ByteArray.empty,.slice none 0 0]) 2 40 Try.underlying22 hi0 hz0 hz1 hz2 rfl (by decide) (.slice (some ⟨g2,0,none⟩) 3 c2) 3 _ rfl ((HS13.out.own.alloc _).alloc _) (w13.heap.size+1) 1 63 #[.string ⟨#[109,111,116,105,111,110]⟩,.slice (some ⟨w13.heap.size,0,none⟩) 4 4] rfl (Bk.new2 _ _ _ _) rfl ?c1 4 rfl ?c2 ?c3 ?c4 ?_)
   case c1=>simp [Value.oneCell']
   case c2=>unfold maxLen;omega
   case c3=>omega
   case c4=>(have:=HS13.out.bl.size;simp;omega)
   intro g3 c3 v3 hown hg hat
   have HT3:Hid (KSt w v3 (.slice (some ⟨g3,0,none⟩) 4 c3) 4 [⟨kn_s,w2.heap.size,kf_s⟩,⟨kn_i,w6.heap.size,kf_i⟩,⟨kn_p,w9.heap.size,kf_p⟩,⟨kn_o,w13.heap.size,kf_o⟩]):=hid (HS13.out.push ⟨kn_o,w13.heap.size,kf_o⟩ rfl hown hg)
   clear hown hg hat HS13)
 go_wp2_with fail
 refine (HF.out ⟨#[119]⟩ 18 4096 _).mono ?_
 rintro e w14 ⟨rfl,hb14⟩
 have HS14:=hid (HT3.out.below hb14)
 clear hb14 HT3
 go_wp2_with fail
 refine (HF.out ⟨#[104]⟩ 18 4096 _).mono ?_
 rintro e w15 ⟨rfl,hb15⟩
 have HS15:=hid (HS14.out.below hb15)
 clear hb15 HS14
 go_wp2_with fail
 refine (HF.out ⟨#[109,97,115,115]⟩ 20 0 _).mono ?_
 rintro e w16 ⟨rfl,hb16⟩
 have HS16:=hid (HS15.out.below hb16)
 clear hb16 HS15
 go_wp2_with fail
 refine (HF.out ⟨#[98,111,117,110,99,101]⟩ 17 0 _).mono ?_
 rintro e w17 ⟨rfl,hb17⟩
 have HS17:=hid (HS16.out.below hb17)
 clear hb17 HS16
 go_wp2_with fail
 refine (HF.out ⟨#[114,117,98]⟩ 17 0 _).mono ?_
 rintro e w18 ⟨rfl,hb18⟩
 have HS18:=hid (HS17.out.below hb18)
 clear hb18 HS17
 go_wp2_with
  (at_builtin
   go_must (refine wpList_append_one _ rfl (.tmp 50) (.tmp 58) _ rfl w.heap.size 63 i0 (.agg #[.string ByteArray.empty,.slice none 0 0]) 2 40 Try.underlying22 hi0 hz0 hz1 hz2 rfl (by decide) (.slice (some ⟨g3,0,none⟩) 4 c3) 4 _ rfl ((HS18.out.own.alloc _).alloc _) (w18.heap.size+1) 1 63 #[.string ⟨#[115,104,97,112,101]⟩,.slice (some ⟨w18.heap.size,0,none⟩) 5 5] rfl (Bk.new2 _ _ _ _) rfl ?c1 5 rfl ?c2 ?c3 ?c4 ?_)
   case c1=>simp [Value.oneCell']
   case c2=>unfold maxLen;omega
   case c3=>omega
   case c4=>(have:=HS18.out.bl.size;simp;omega)
   intro g4 c4 v4 hown hg hat
   have HT4:Hid (KSt w v4 (.slice (some ⟨g4,0,none⟩) 5 c4) 5 [⟨kn_s,w2.heap.size,kf_s⟩,⟨kn_i,w6.heap.size,kf_i⟩,⟨kn_p,w9.heap.size,kf_p⟩,⟨kn_o,w13.heap.size,kf_o⟩,⟨kn_h,w18.heap.size,kf_h⟩]):=hid (HS18.out.push ⟨kn_h,w18.heap.size,kf_h⟩ rfl hown hg)
   clear hown hg hat HS18)
 go_ret
 refine ⟨_,_,_,_,rfl,HT4.out.ksy rfl ?_,rfl,HT4.out.bl⟩
 intro x hx
 simp only [List.mem_cons,List.not_mem_nil,or_false] at hx
 rcases hx with rfl | rfl | rfl | rfl | rfl
 . show kf_s.length<=8;decide
 . show kf_i.length<=8;decide
 . show kf_p.length<=8;decide
 . show kf_o.length<=8;decide
 . show kf_h.length<=8;decide
set_option maxHeartbeats 3200000 in
theorem kinds_6 (w:World):Calls Try.prog 96 #[.int i64 6] w (KindsNP 6 w):=by
 obtain ⟨i0,hi0,hz0,hz1,hz2⟩:=info_parts T.info63
 have HF:=hid fieldMk_any
 have t1:(bits BinOp.and IntKind.i64 6 1 == 1)=false:=by decide +kernel
 have t2:(bits BinOp.and IntKind.i64 6 2 == 2)=true:=by decide +kernel
 have t3:(bits BinOp.and IntKind.i64 6 4 == 4)=true:=by decide +kernel
 go_enter Try.func96,Try.ntmps96
 go_wp2_with fail
 refine (HF.out ⟨#[120]⟩ 8 (-100) _).mono ?_
 rintro e w1 ⟨rfl,hb1⟩
 have HB1:=hid hb1
 clear hb1
 go_wp2_with fail
 refine (HF.out ⟨#[121]⟩ 8 (-100) _).mono ?_
 rintro e w2 ⟨rfl,hb2⟩
 have HB2:=hid (HB1.out.trans (hb2.mono HB1.out.size))
 clear hb2 HB1
 have HS:Hid (KSt w ((w2.alloc (.cells #[.string ⟨#[120]⟩,.int i64 8,.int i64 (-100),.string ⟨#[121]⟩,.int i64 8,.int i64 (-100)] 66)).alloc (.cells #[.string ⟨#[115,112,111,116]⟩,.slice (some ⟨w2.heap.size,0,none⟩) 2 2] 63)) (.slice (some ⟨w2.heap.size+1,0,none⟩) 1 1) 1 [⟨kn_s,w2.heap.size,kf_s⟩]):=hid (KSt.start HB2.out ⟨kn_s,w2.heap.size,kf_s⟩ rfl)
 clear HB2
 go_wp2_with fail
 refine (HF.out ⟨#[112,114,111,103]⟩ 2 (-1) _).mono ?_
 rintro e w3 ⟨rfl,hb3⟩
 have HS3:=hid (HS.out.below hb3)
 clear hb3 HS
 go_wp2_with
  (at_builtin
   go_must (refine wpList_append_one _ rfl (.tmp 24) (.tmp 28) _ rfl w.heap.size 63 i0 (.agg #[.string ByteArray.empty,.slice none 0 0]) 2 40 Try.underlying22 hi0 hz0 hz1 hz2 rfl (by decide) (.slice (some ⟨w2.heap.size+1,0,none⟩) 1 1) 1 _ rfl ((HS3.out.own.alloc _).alloc _) (w3.heap.size+1) 1 63 #[.string ⟨#[109,105,110,100]⟩,.slice (some ⟨w3.heap.size,0,none⟩) 1 1] rfl (Bk.new2 _ _ _ _) rfl ?c1 2 rfl ?c2 ?c3 ?c4 ?_)
   case c1=>simp [Value.oneCell']
   case c2=>unfold maxLen;omega
   case c3=>omega
   case c4=>(have:=HS3.out.bl.size;simp;omega)
   intro g1 c1 v1 hown hg hat
   have HT1:Hid (KSt w v1 (.slice (some ⟨g1,0,none⟩) 2 c1) 2 [⟨kn_s,w2.heap.size,kf_s⟩,⟨kn_m,w3.heap.size,kf_m⟩]):=hid (HS3.out.push ⟨kn_m,w3.heap.size,kf_m⟩ rfl hown hg)
   clear hown hg hat HS3)
 go_wp2_with fail
 refine (HF.out ⟨#[120]⟩ 26 (-33554432) _).mono ?_
 rintro e w4 ⟨rfl,hb4⟩
 have HS4:=hid (HT1.out.below hb4)
 clear hb4 HT1
 go_wp2_with fail
 refine (HF.out ⟨#[121]⟩ 26 (-33554432) _).mono ?_
 rintro e w5 ⟨rfl,hb5⟩
 have HS5:=hid (HS4.out.below hb5)
 clear hb5 HS4
 go_wp2_with fail
 refine (HF.out ⟨#[97,110,103]⟩ 16 0 _).mono ?_
 rintro e w6 ⟨rfl,hb6⟩
 have HS6:=hid (HS5.out.below hb6)
 clear hb6 HS5
 go_wp2_with
  (at_builtin
   go_must (refine wpList_append_one _ rfl (.tmp 33) (.tmp 39) _ rfl w.heap.size 63 i0 (.agg #[.string ByteArray.empty,.slice none 0 0]) 2 40 Try.underlying22 hi0 hz0 hz1 hz2 rfl (by decide) (.slice (some ⟨g1,0,none⟩) 2 c1) 2 _ rfl ((HS6.out.own.alloc _).alloc _) (w6.heap.size+1) 1 63 #[.string ⟨#[112,108,97,99,101]⟩,.slice (some ⟨w6.heap.size,0,none⟩) 3 3] rfl (Bk.new2 _ _ _ _) rfl ?c1 3 rfl ?c2 ?c3 ?c4 ?_)
   case c1=>simp [Value.oneCell']
   case c2=>unfold maxLen;omega
   case c3=>omega
   case c4=>(have:=HS6.out.bl.size;simp;omega)
   intro g2 c2 v2 hown hg hat
   have HT2:Hid (KSt w v2 (.slice (some ⟨g2,0,none⟩) 3 c2) 3 [⟨kn_s,w2.heap.size,kf_s⟩,⟨kn_m,w3.heap.size,kf_m⟩,⟨kn_p,w6.heap.size,kf_p⟩]):=hid (HS6.out.push ⟨kn_p,w6.heap.size,kf_p⟩ rfl hown hg)
   clear hown hg hat HS6)
 go_wp2_with fail
 refine (HF.out ⟨#[118,120]⟩ 22 (-2097152) _).mono ?_
 rintro e w7 ⟨rfl,hb7⟩
 have HS7:=hid (HT2.out.below hb7)
 clear hb7 HT2
 go_wp2_with fail
 refine (HF.out ⟨#[118,121]⟩ 22 (-2097152) _).mono ?_
 rintro e w8 ⟨rfl,hb8⟩
 have HS8:=hid (HS7.out.below hb8)
 clear hb8 HS7
 go_wp2_with fail
 refine (HF.out ⟨#[115,112,105,110]⟩ 18 (-131072) _).mono ?_
 rintro e w9 ⟨rfl,hb9⟩
 have HS9:=hid (HS8.out.below hb9)
 clear hb9 HS8
 go_wp2_with fail
 refine (HF.out ⟨#[99,97,108,109]⟩ 12 0 _).mono ?_
 rintro e w10 ⟨rfl,hb10⟩
 have HS10:=hid (HS9.out.below hb10)
 clear hb10 HS9
 go_wp2_with
  (at_builtin
   go_must (refine wpList_append_one _ rfl (.tmp 41) (.tmp 48) _ rfl w.heap.size 63 i0 (.agg #[.string ByteArray.empty,.slice none 0 0]) 2 40 Try.underlying22 hi0 hz0 hz1 hz2 rfl (by decide) (.slice (some ⟨g2,0,none⟩) 3 c2) 3 _ rfl ((HS10.out.own.alloc _).alloc _) (w10.heap.size+1) 1 63 #[.string ⟨#[109,111,116,105,111,110]⟩,.slice (some ⟨w10.heap.size,0,none⟩) 4 4] rfl (Bk.new2 _ _ _ _) rfl ?c1 4 rfl ?c2 ?c3 ?c4 ?_)
   case c1=>simp [Value.oneCell']
   case c2=>unfold maxLen;omega
   case c3=>omega
   case c4=>(have:=HS10.out.bl.size;simp;omega)
   intro g3 c3 v3 hown hg hat
   have HT3:Hid (KSt w v3 (.slice (some ⟨g3,0,none⟩) 4 c3) 4 [⟨kn_s,w2.heap.size,kf_s⟩,⟨kn_m,w3.heap.size,kf_m⟩,⟨kn_p,w6.heap.size,kf_p⟩,⟨kn_o,w10.heap.size,kf_o⟩]):=hid (HS10.out.push ⟨kn_o,w10.heap.size,kf_o⟩ rfl hown hg)
   clear hown hg hat HS10)
 go_wp2_with fail
 refine (HF.out ⟨#[119]⟩ 18 4096 _).mono ?_
 rintro e w11 ⟨rfl,hb11⟩
 have HS11:=hid (HT3.out.below hb11)
 clear hb11 HT3
 go_wp2_with fail
 refine (HF.out ⟨#[104]⟩ 18 4096 _).mono ?_
 rintro e w12 ⟨rfl,hb12⟩
 have HS12:=hid (HS11.out.below hb12)
 clear hb12 HS11
 go_wp2_with fail
 refine (HF.out ⟨#[109,97,115,115]⟩ 20 0 _).mono ?_
 rintro e w13 ⟨rfl,hb13⟩
 have HS13:=hid (HS12.out.below hb13)
 clear hb13 HS12
 go_wp2_with fail
 refine (HF.out ⟨#[98,111,117,110,99,101]⟩ 17 0 _).mono ?_
 rintro e w14 ⟨rfl,hb14⟩
 have HS14:=hid (HS13.out.below hb14)
 clear hb14 HS13
 go_wp2_with fail
 refine (HF.out ⟨#[114,117,98]⟩ 17 0 _).mono ?_
 rintro e w15 ⟨rfl,hb15⟩
 have HS15:=hid (HS14.out.below hb15)
 clear hb15 HS14
 go_wp2_with
  (at_builtin
   go_must (refine wpList_append_one _ rfl (.tmp 50) (.tmp 58) _ rfl w.heap.size 63 i0 (.agg #[.string ByteArray.empty,.slice none 0 0]) 2 40 Try.underlying22 hi0 hz0 hz1 hz2 rfl (by decide) (.slice (some ⟨g3,0,none⟩) 4 c3) 4 _ rfl ((HS15.out.own.alloc _).alloc _) (w15.heap.size+1) 1 63 #[.string ⟨#[115,104,97,112,101]⟩,.slice (some ⟨w15.heap.size,0,none⟩) 5 5] rfl (Bk.new2 _ _ _ _) rfl ?c1 5 rfl ?c2 ?c3 ?c4 ?_)
   case c1=>simp [Value.oneCell']
   case c2=>unfold maxLen;omega
   case c3=>omega
   case c4=>(have:=HS15.out.bl.size;simp;omega)
   intro g4 c4 v4 hown hg hat
   have HT4:Hid (KSt w v4 (.slice (some ⟨g4,0,none⟩) 5 c4) 5 [⟨kn_s,w2.heap.size,kf_s⟩,⟨kn_m,w3.heap.size,kf_m⟩,⟨kn_p,w6.heap.size,kf_p⟩,⟨kn_o,w10.heap.size,kf_o⟩,⟨kn_h,w15.heap.size,kf_h⟩]):=hid (HS15.out.push ⟨kn_h,w15.heap.size,kf_h⟩ rfl hown hg)
   clear hown hg hat HS15)
 go_ret
 refine ⟨_,_,_,_,rfl,HT4.out.ksy rfl ?_,rfl,HT4.out.bl⟩
 intro x hx
 simp only [List.mem_cons,List.not_mem_nil,or_false] at hx
 rcases hx with rfl | rfl | rfl | rfl | rfl
 . show kf_s.length<=8;decide
 . show kf_m.length<=8;decide
 . show kf_p.length<=8;decide
 . show kf_o.length<=8;decide
 . show kf_h.length<=8;decide
set_option maxHeartbeats 3200000 in
theorem kinds_7 (w:World):Calls Try.prog 96 #[.int i64 7] w (KindsNP 7 w):=by
 obtain ⟨i0,hi0,hz0,hz1,hz2⟩:=info_parts T.info63
 have HF:=hid fieldMk_any
 have t1:(bits BinOp.and IntKind.i64 7 1 == 1)=true:=by decide +kernel
 have t2:(bits BinOp.and IntKind.i64 7 2 == 2)=true:=by decide +kernel
 have t3:(bits BinOp.and IntKind.i64 7 4 == 4)=true:=by decide +kernel
 go_enter Try.func96,Try.ntmps96
 go_wp2_with fail
 refine (HF.out ⟨#[120]⟩ 8 (-100) _).mono ?_
 rintro e w1 ⟨rfl,hb1⟩
 have HB1:=hid hb1
 clear hb1
 go_wp2_with fail
 refine (HF.out ⟨#[121]⟩ 8 (-100) _).mono ?_
 rintro e w2 ⟨rfl,hb2⟩
 have HB2:=hid (HB1.out.trans (hb2.mono HB1.out.size))
 clear hb2 HB1
 have HS:Hid (KSt w ((w2.alloc (.cells #[.string ⟨#[120]⟩,.int i64 8,.int i64 (-100),.string ⟨#[121]⟩,.int i64 8,.int i64 (-100)] 66)).alloc (.cells #[.string ⟨#[115,112,111,116]⟩,.slice (some ⟨w2.heap.size,0,none⟩) 2 2] 63)) (.slice (some ⟨w2.heap.size+1,0,none⟩) 1 1) 1 [⟨kn_s,w2.heap.size,kf_s⟩]):=hid (KSt.start HB2.out ⟨kn_s,w2.heap.size,kf_s⟩ rfl)
 clear HB2
 go_wp2_with fail
 refine (HF.out ⟨#[112,108,97,121,101,114]⟩ 2 0 _).mono ?_
 rintro e w3 ⟨rfl,hb3⟩
 have HS3:=hid (HS.out.below hb3)
 clear hb3 HS
 go_wp2_with fail
 refine (HF.out ⟨#[107,101,121,115]⟩ 8 0 _).mono ?_
 rintro e w4 ⟨rfl,hb4⟩
 have HS4:=hid (HS3.out.below hb4)
 clear hb4 HS3
 go_wp2_with fail
 refine (HF.out ⟨#[120]⟩ 8 (-128) _).mono ?_
 rintro e w5 ⟨rfl,hb5⟩
 have HS5:=hid (HS4.out.below hb5)
 clear hb5 HS4
 go_wp2_with fail
 refine (HF.out ⟨#[121]⟩ 8 (-128) _).mono ?_
 rintro e w6 ⟨rfl,hb6⟩
 have HS6:=hid (HS5.out.below hb6)
 clear hb6 HS5
 go_wp2_with
  (at_builtin
   go_must (refine wpList_append_one _ rfl (.tmp 12) (.tmp 19) _ rfl w.heap.size 63 i0 (.agg #[.string ByteArray.empty,.slice none 0 0]) 2 40 Try.underlying22 hi0 hz0 hz1 hz2 rfl (by decide) (.slice (some ⟨w2.heap.size+1,0,none⟩) 1 1) 1 _ rfl ((HS6.out.own.alloc _).alloc _) (w6.heap.size+1) 1 63 #[.string ⟨#[105,110,112,117,116]⟩,.slice (some ⟨w6.heap.size,0,none⟩) 4 4] rfl (Bk.new2 _ _ _ _) rfl ?c1 2 rfl ?c2 ?c3 ?c4 ?_)
   case c1=>simp [Value.oneCell']
   case c2=>unfold maxLen;omega
   case c3=>omega
   case c4=>(have:=HS6.out.bl.size;simp;omega)
   intro g1 c1 v1 hown hg hat
   have HT1:Hid (KSt w v1 (.slice (some ⟨g1,0,none⟩) 2 c1) 2 [⟨kn_s,w2.heap.size,kf_s⟩,⟨kn_i,w6.heap.size,kf_i⟩]):=hid (HS6.out.push ⟨kn_i,w6.heap.size,kf_i⟩ rfl hown hg)
   clear hown hg hat HS6)
 go_wp2_with fail
 refine (HF.out ⟨#[112,114,111,103]⟩ 2 (-1) _).mono ?_
 rintro e w7 ⟨rfl,hb7⟩
 have HS7:=hid (HT1.out.below hb7)
 clear hb7 HT1
 go_wp2_with
  (at_builtin
   go_must (refine wpList_append_one _ rfl (.tmp 24) (.tmp 28) _ rfl w.heap.size 63 i0 (.agg #[.string ByteArray.empty,.slice none 0 0]) 2 40 Try.underlying22 hi0 hz0 hz1 hz2 rfl (by decide) (.slice (some ⟨g1,0,none⟩) 2 c1) 2 _ rfl ((HS7.out.own.alloc _).alloc _) (w7.heap.size+1) 1 63 #[.string ⟨#[109,105,110,100]⟩,.slice (some ⟨w7.heap.size,0,none⟩) 1 1] rfl (Bk.new2 _ _ _ _) rfl ?c1 3 rfl ?c2 ?c3 ?c4 ?_)
   case c1=>simp [Value.oneCell']
   case c2=>unfold maxLen;omega
   case c3=>omega
   case c4=>(have:=HS7.out.bl.size;simp;omega)
   intro g2 c2 v2 hown hg hat
   have HT2:Hid (KSt w v2 (.slice (some ⟨g2,0,none⟩) 3 c2) 3 [⟨kn_s,w2.heap.size,kf_s⟩,⟨kn_i,w6.heap.size,kf_i⟩,⟨kn_m,w7.heap.size,kf_m⟩]):=hid (HS7.out.push ⟨kn_m,w7.heap.size,kf_m⟩ rfl hown hg)
   clear hown hg hat HS7)
 go_wp2_with fail
 refine (HF.out ⟨#[120]⟩ 26 (-33554432) _).mono ?_
 rintro e w8 ⟨rfl,hb8⟩
 have HS8:=hid (HT2.out.below hb8)
 clear hb8 HT2
 go_wp2_with fail
 refine (HF.out ⟨#[121]⟩ 26 (-33554432) _).mono ?_
 rintro e w9 ⟨rfl,hb9⟩
 have HS9:=hid (HS8.out.below hb9)
 clear hb9 HS8
 go_wp2_with fail
 refine (HF.out ⟨#[97,110,103]⟩ 16 0 _).mono ?_
 rintro e w10 ⟨rfl,hb10⟩
 have HS10:=hid (HS9.out.below hb10)
 clear hb10 HS9
 go_wp2_with
  (at_builtin
   go_must (refine wpList_append_one _ rfl (.tmp 33) (.tmp 39) _ rfl w.heap.size 63 i0 (.agg #[.string ByteArray.empty,.slice none 0 0]) 2 40 Try.underlying22 hi0 hz0 hz1 hz2 rfl (by decide) (.slice (some ⟨g2,0,none⟩) 3 c2) 3 _ rfl ((HS10.out.own.alloc _).alloc _) (w10.heap.size+1) 1 63 #[.string ⟨#[112,108,97,99,101]⟩,.slice (some ⟨w10.heap.size,0,none⟩) 3 3] rfl (Bk.new2 _ _ _ _) rfl ?c1 4 rfl ?c2 ?c3 ?c4 ?_)
   case c1=>simp [Value.oneCell']
   case c2=>unfold maxLen;omega
   case c3=>omega
   case c4=>(have:=HS10.out.bl.size;simp;omega)
   intro g3 c3 v3 hown hg hat
   have HT3:Hid (KSt w v3 (.slice (some ⟨g3,0,none⟩) 4 c3) 4 [⟨kn_s,w2.heap.size,kf_s⟩,⟨kn_i,w6.heap.size,kf_i⟩,⟨kn_m,w7.heap.size,kf_m⟩,⟨kn_p,w10.heap.size,kf_p⟩]):=hid (HS10.out.push ⟨kn_p,w10.heap.size,kf_p⟩ rfl hown hg)
   clear hown hg hat HS10)
 go_wp2_with fail
 refine (HF.out ⟨#[118,120]⟩ 22 (-2097152) _).mono ?_
 rintro e w11 ⟨rfl,hb11⟩
 have HS11:=hid (HT3.out.below hb11)
 clear hb11 HT3
 go_wp2_with fail
 refine (HF.out ⟨#[118,121]⟩ 22 (-2097152) _).mono ?_
 rintro e w12 ⟨rfl,hb12⟩
 have HS12:=hid (HS11.out.below hb12)
 clear hb12 HS11
 go_wp2_with fail
 refine (HF.out ⟨#[115,112,105,110]⟩ 18 (-131072) _).mono ?_
 rintro e w13 ⟨rfl,hb13⟩
 have HS13:=hid (HS12.out.below hb13)
 clear hb13 HS12
 go_wp2_with fail
 refine (HF.out ⟨#[99,97,108,109]⟩ 12 0 _).mono ?_
 rintro e w14 ⟨rfl,hb14⟩
 have HS14:=hid (HS13.out.below hb14)
 clear hb14 HS13
 go_wp2_with
  (at_builtin
   go_must (refine wpList_append_one _ rfl (.tmp 41) (.tmp 48) _ rfl w.heap.size 63 i0 (.agg #[.string ByteArray.empty,.slice none 0 0]) 2 40 Try.underlying22 hi0 hz0 hz1 hz2 rfl (by decide) (.slice (some ⟨g3,0,none⟩) 4 c3) 4 _ rfl ((HS14.out.own.alloc _).alloc _) (w14.heap.size+1) 1 63 #[.string ⟨#[109,111,116,105,111,110]⟩,.slice (some ⟨w14.heap.size,0,none⟩) 4 4] rfl (Bk.new2 _ _ _ _) rfl ?c1 5 rfl ?c2 ?c3 ?c4 ?_)
   case c1=>simp [Value.oneCell']
   case c2=>unfold maxLen;omega
   case c3=>omega
   case c4=>(have:=HS14.out.bl.size;simp;omega)
   intro g4 c4 v4 hown hg hat
   have HT4:Hid (KSt w v4 (.slice (some ⟨g4,0,none⟩) 5 c4) 5 [⟨kn_s,w2.heap.size,kf_s⟩,⟨kn_i,w6.heap.size,kf_i⟩,⟨kn_m,w7.heap.size,kf_m⟩,⟨kn_p,w10.heap.size,kf_p⟩,⟨kn_o,w14.heap.size,kf_o⟩]):=hid (HS14.out.push ⟨kn_o,w14.heap.size,kf_o⟩ rfl hown hg)
   clear hown hg hat HS14)
 go_wp2_with fail
 refine (HF.out ⟨#[119]⟩ 18 4096 _).mono ?_
 rintro e w15 ⟨rfl,hb15⟩
 have HS15:=hid (HT4.out.below hb15)
 clear hb15 HT4
 go_wp2_with fail
 refine (HF.out ⟨#[104]⟩ 18 4096 _).mono ?_
 rintro e w16 ⟨rfl,hb16⟩
 have HS16:=hid (HS15.out.below hb16)
 clear hb16 HS15
 go_wp2_with fail
 refine (HF.out ⟨#[109,97,115,115]⟩ 20 0 _).mono ?_
 rintro e w17 ⟨rfl,hb17⟩
 have HS17:=hid (HS16.out.below hb17)
 clear hb17 HS16
 go_wp2_with fail
 refine (HF.out ⟨#[98,111,117,110,99,101]⟩ 17 0 _).mono ?_
 rintro e w18 ⟨rfl,hb18⟩
 have HS18:=hid (HS17.out.below hb18)
 clear hb18 HS17
 go_wp2_with fail
 refine (HF.out ⟨#[114,117,98]⟩ 17 0 _).mono ?_
 rintro e w19 ⟨rfl,hb19⟩
 have HS19:=hid (HS18.out.below hb19)
 clear hb19 HS18
 go_wp2_with
  (at_builtin
   go_must (refine wpList_append_one _ rfl (.tmp 50) (.tmp 58) _ rfl w.heap.size 63 i0 (.agg #[.string ByteArray.empty,.slice none 0 0]) 2 40 Try.underlying22 hi0 hz0 hz1 hz2 rfl (by decide) (.slice (some ⟨g4,0,none⟩) 5 c4) 5 _ rfl ((HS19.out.own.alloc _).alloc _) (w19.heap.size+1) 1 63 #[.string ⟨#[115,104,97,112,101]⟩,.slice (some ⟨w19.heap.size,0,none⟩) 5 5] rfl (Bk.new2 _ _ _ _) rfl ?c1 6 rfl ?c2 ?c3 ?c4 ?_)
   case c1=>simp [Value.oneCell']
   case c2=>unfold maxLen;omega
   case c3=>omega
   case c4=>(have:=HS19.out.bl.size;simp;omega)
   intro g5 c5 v5 hown hg hat
   have HT5:Hid (KSt w v5 (.slice (some ⟨g5,0,none⟩) 6 c5) 6 [⟨kn_s,w2.heap.size,kf_s⟩,⟨kn_i,w6.heap.size,kf_i⟩,⟨kn_m,w7.heap.size,kf_m⟩,⟨kn_p,w10.heap.size,kf_p⟩,⟨kn_o,w14.heap.size,kf_o⟩,⟨kn_h,w19.heap.size,kf_h⟩]):=hid (HS19.out.push ⟨kn_h,w19.heap.size,kf_h⟩ rfl hown hg)
   clear hown hg hat HS19)
 go_ret
 refine ⟨_,_,_,_,rfl,HT5.out.ksy rfl ?_,rfl,HT5.out.bl⟩
 intro x hx
 simp only [List.mem_cons,List.not_mem_nil,or_false] at hx
 rcases hx with rfl | rfl | rfl | rfl | rfl | rfl
 . show kf_s.length<=8;decide
 . show kf_i.length<=8;decide
 . show kf_m.length<=8;decide
 . show kf_p.length<=8;decide
 . show kf_o.length<=8;decide
 . show kf_h.length<=8;decide
theorem kindsN_any (n:Nat) (hn:n<8) (w:World):Calls Try.prog 96 #[.int i64 n] w (KindsNP n w):=by
 rcases (by omega:n=0\/n=1\/n=2\/n=3\/n=4\/n=5\/n=6\/n=7) with rfl | rfl | rfl | rfl | rfl | rfl | rfl | rfl
 . exact kinds_0 w
 . exact kinds_1 w
 . exact kinds_2 w
 . exact kinds_3 w
 . exact kinds_4 w
 . exact kinds_5 w
 . exact kinds_6 w
 . exact kinds_7 w
end Go.Proofs.Ytnidcmhfbkdioaa
