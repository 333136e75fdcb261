/-
  Lemmas for the walk, merged (Ba Bb Dz Rm Mw). No condition but those in each statement.
-/
import Derived.Lib.Mul64
import Derived.Laws.Bits64b
import Derived.StillTailTactics
import Derived.BigQuiet
import Derived.Test.YtnidcmhfbkdioaaSw8
import Derived.Test.YtnidcmhfbkdioaaSw9
import Derived.Test.YtnidcmhfbkdioaaSw5
import Derived.Test.YtnidcmhfbkdioaaSw11
namespace Go.Proofs.Ytnidcmhfbkdioaa
open Go.RowKit
open Go.IntKind (i64)
open Go.Lib (hid)
set_option maxRecDepth 100000
def wiF (n lo hi:Int):Int:=if n<lo then lo else if hi<n then hi else n
set_option maxHeartbeats 800000 in
theorem within_any (n lo hi:Int) (h:lo<=hi) (w:World):Calls Try.prog 152 #[.int i64 n,.int i64 lo,.int i64 hi] w fun e w'=>e=.returned (.int i64 (wiF n lo hi))/\w=w':=by
 obtain ⟨R,hR⟩:∃ R,R=wiF n lo hi:=⟨_,rfl⟩
 rw [<- hR]
 unfold wiF at hR
 have HR:=hid hR
 clear hR
 go_enter Try.func152,Try.ntmps152
 go_wp2_with fail
 all_goals
  go_ret
  refine ⟨?_,rfl⟩
  rw [HR.out]
  clear HR
  (repeat' split) <;> first | rfl | (exfalso;simp_all;omega) | (exfalso;omega)
set_option maxHeartbeats 800000 in
theorem rnear_any (n lo hi:Int) (w:World):Calls Try.prog 155 #[.int i64 n,.int i64 lo,.int i64 hi] w fun e w'=>e=.returned (.int i64 (wiF n lo hi))/\w=w':=by
 obtain ⟨R,hR⟩:∃ R,R=wiF n lo hi:=⟨_,rfl⟩
 rw [<- hR]
 unfold wiF at hR
 by_cases h1:n<lo
 . rw [if_pos h1] at hR
   subst hR
   go_enter Try.func155,Try.ntmps155
   go_wp2_with fail
   go_ret
   exact ⟨rfl,rfl⟩
 . rw [if_neg h1] at hR
   by_cases h2:hi<n
   . rw [if_pos h2] at hR
     subst hR
     go_enter Try.func155,Try.ntmps155
     go_wp2_with fail
     go_ret
     exact ⟨rfl,rfl⟩
   . rw [if_neg h2] at hR
     subst hR
     go_enter Try.func155,Try.ntmps155
     go_wp2_with fail
     go_ret
     exact ⟨rfl,rfl⟩
theorem wiF_in {n lo hi:Int} (h:lo<=hi):lo<=wiF n lo hi/\wiF n lo hi<=hi:=by
 unfold wiF
 split
 . omega
 . split <;> omega
set_option maxHeartbeats 800000 in
theorem clamp_any (a:Int) (h1 : -1099511627776<=a) (h2:a<=1099511627776) (w:World):Calls Try.prog 239 #[.int i64 a] w fun e w'=>e=.returned (.int i64 a)/\w=w':=by
 go_enter Try.func239,Try.ntmps239
 go_wp2_with fail
 all_goals
  go_ret
  refine ⟨?_,rfl⟩
  first | rfl | (exfalso;simp_all;omega) | (exfalso;omega) | (congr 2;omega)
set_option maxHeartbeats 800000 in
theorem mag_any (a:Nat) (h:a<9223372036854775808) (w:World):Calls Try.prog 249 #[.int i64 (a:Int)] w fun e w'=>e=.returned (.int .u64 (a:Int))/\w=w':=by
 have h0:¬ ((a:Int)<0):=by omega
 have hw:IntKind.u64.wrap (a:Int)=(a:Int):=by rw [IntKind.wrap_u64];omega
 go_enter Try.func249,Try.ntmps249
 go_wp2_with fail
 go_ret
 exact ⟨rfl,rfl⟩
theorem mq_mask (a:Nat) (ha:a<18446744073709551616):bits .and .u64 (a:Int) 4294967295=((a % 4294967296:Nat):Int):=by
 have h:=bits_and_u64_nat a 4294967295 ha (by omega)
 have e:a &&& 4294967295=a % 4294967296:=Nat.and_two_pow_sub_one_eq_mod a 32
 rw [e] at h
 exact h
theorem mq_div (a:Nat):(a:Int) / 4294967296=((a / 4294967296:Nat):Int):=by omega
theorem mq_mul (a b:Nat):(a:Int)*(b:Int)=((a*b:Nat):Int):=(Int.natCast_mul a b).symm
theorem mq_add (a b:Nat):(a:Int)+(b:Int)=((a+b:Nat):Int):=(Int.natCast_add a b).symm
theorem mq_wrap (a:Nat) (ha:a<18446744073709551616):IntKind.u64.wrap (a:Int)=(a:Int):=by rw [IntKind.wrap_u64];omega
set_option maxHeartbeats 1600000 in
theorem mul64_any (x y:Nat) (hx:x<18446744073709551616) (hy:y<18446744073709551616) (hxy:x*y<18446744073709551616) (w:World) :
 Calls Try.prog 250 #[.int .u64 (x:Int),.int .u64 (y:Int)] w fun e w'=>e=.returned (.tuple #[.int .u64 0,.int .u64 ((x*y:Nat):Int)])/\w=w':=by
 obtain ⟨bd,bt,bw,hhi⟩:=Lib.mul64_hi x y hx hy
 have ba:=Lib.half_mul_le (a:=x / 4294967296) (b:=y / 4294967296) (by omega) (by omega)
 have bb:=Lib.half_mul_le (a:=x / 4294967296) (b:=y % 4294967296) (by omega) (by omega)
 have bc:=Lib.half_mul_le (a:=x % 4294967296) (b:=y / 4294967296) (by omega) (by omega)
 have ba':x / 4294967296*(y / 4294967296)<18446744073709551616:=by omega
 have bb':x / 4294967296*(y % 4294967296)<18446744073709551616:=by omega
 have bc':x % 4294967296*(y / 4294967296)<18446744073709551616:=by omega
 have bh1:x / 4294967296*(y / 4294967296)+(x / 4294967296*(y % 4294967296)+x % 4294967296*(y % 4294967296) / 4294967296) / 4294967296<18446744073709551616:=by omega
 have bh:x / 4294967296*(y / 4294967296)+(x / 4294967296*(y % 4294967296)+x % 4294967296*(y % 4294967296) / 4294967296) / 4294967296+((x / 4294967296*(y % 4294967296)+x % 4294967296*(y % 4294967296) / 4294967296) % 4294967296+x % 4294967296*(y / 4294967296)) / 4294967296<18446744073709551616:=by omega
 have hz:x*y / 18446744073709551616=0:=Nat.div_eq_of_lt hxy
 rw [hz] at hhi
 go_enter Try.func250,Try.ntmps250
 go_wp2_with fail
 simp only [mq_mask x hx,mq_mask y hy,mq_div,mq_mul,mq_add,mq_wrap _ bd,mq_wrap _ bb',mq_wrap _ bt,mq_mask _ bt,mq_wrap _ bc',mq_wrap _ bw,mq_wrap _ ba',mq_wrap _ bh1,mq_wrap _ bh]
 rw [hhi]
 go_ret2
 exact ⟨rfl,rfl⟩
set_option maxHeartbeats 1600000 in
theorem div64_any (x y:Nat) (hx:x<18446744073709551616) (hy0:0<y) (hy:y<18446744073709551616) (w:World) :
 Calls Try.prog 251 #[.int .u64 0,.int .u64 (x:Int),.int .u64 (y:Int)] w fun e w'=>e=.returned (.tuple #[.int .u64 ((x / y:Nat):Int),.int .u64 ((x % y:Nat):Int)])/\∃ m,w.drewN m=w':=by
 have h1:((y:Int) == 0)=false:=by simp;omega
 have h2:¬ ((y:Int)<=0):=by omega
 have h3:(y:Int)≠0:=by omega
 go_enter Try.func251,Try.ntmps251
 go_wp2_with fail
 go_quiet (fail)
 have hq:IntKind.u64.wrap ((x:Int) / (y:Int))=((x / y:Nat):Int):=by
  have h:=Nat.div_le_self x y
  rw [<- Int.natCast_ediv]
  generalize x / y=k at *
  rw [IntKind.wrap_u64];omega
 have hr:(x:Int) % (y:Int)=((x % y:Nat):Int):=(Int.natCast_emod x y).symm
 rw [hq,hr]
 go_wp2_with fail
 go_ret2
 exact ⟨rfl,_,rfl⟩
def mdF (a b c:Nat):Nat:=if c-a*b % c<=a*b % c then a*b / c+1 else a*b / c
theorem mdF_le (a b c:Nat):mdF a b c<=a*b / c+1:=by unfold mdF;split <;> omega
set_option maxHeartbeats 3200000 in
theorem mulDiv_any (a b c:Nat) (ha:a<=1099511627776) (hb:b<=1099511627776) (hc0:0<c) (hc:c<=1099511627776) (hab:a*b<18446744073709551616) (hq:a*b / c<=549755813888) (w:World) :
 Calls Try.prog 238 #[.int i64 (a:Int),.int i64 (b:Int),.int i64 (c:Int)] w fun e w'=>e=.returned (.int i64 (mdF a b c:Nat))/\∃ m,w.drewN m=w':=by
 have HCA:=hid (clamp_any (a:Int) (by omega) (by omega))
 have HCB:=hid (clamp_any (b:Int) (by omega) (by omega))
 have HCC:=hid (clamp_any (c:Int) (by omega) (by omega))
 have HMA:=hid (mag_any a (by omega))
 have HMB:=hid (mag_any b (by omega))
 have HMC:=hid (mag_any c (by omega))
 have HMU:=hid (mul64_any a b (by omega) (by omega) hab)
 have HDV:=hid (div64_any (a*b) c hab hc0 (by omega))
 obtain ⟨R,hR⟩:∃ R,R=mdF a b c:=⟨_,rfl⟩
 rw [<- hR]
 unfold mdF at hR
 have hr:=Nat.mod_lt (a*b) hc0
 have hrl:R<=549755813889:=by rw [hR];split <;> omega
 have HCR:=hid (clamp_any (R:Int) (by omega) (by omega))
 generalize a*b=ab at *
 obtain ⟨q,hqe⟩:∃ q,q=ab / c:=⟨_,rfl⟩
 obtain ⟨r,hre⟩:∃ r,r=ab % c:=⟨_,rfl⟩
 rw [<- hqe] at hR HDV hq
 rw [<- hre] at hR HDV hr
 have HR:=hid hR
 have ha0:¬ ((a:Int)<0):=by omega
 have hb0:¬ ((b:Int)<0):=by omega
 have hc1:¬ ((c:Int)<0):=by omega
 have hc2:((c:Int) == 0)=false:=by simp;omega
 have hc3:¬ ((c:Int)<=0):=by omega
 have hq1:¬ ((1099511627776:Int)<q):=by omega
 have hwr:IntKind.u64.wrap ((c:Int)-r)=(c:Int)-r:=by rw [IntKind.wrap_u64];omega
 have hwq:IntKind.i64.wrap (q:Int)=q:=by rw [IntKind.wrap_i64];omega
 have hwq1:IntKind.i64.wrap ((q:Int)+1)=(q:Int)+1:=by rw [IntKind.wrap_i64];omega
 clear hR hqe hre hab
 go_enter Try.func238,Try.ntmps238
 go_wp2_with fail
 (with_reducible refine (HCA.out w).mono ?_)
 rintro e w1 ⟨rfl,rfl⟩
 go_wp2_with fail
 (with_reducible refine (HCB.out w).mono ?_)
 rintro e w1 ⟨rfl,rfl⟩
 go_wp2_with fail
 (with_reducible refine (HCC.out w).mono ?_)
 rintro e w1 ⟨rfl,rfl⟩
 go_wp2_with fail
 (with_reducible refine (HMC.out w).mono ?_)
 rintro e w1 ⟨rfl,rfl⟩
 go_wp2_with fail
 (with_reducible refine (HMA.out w).mono ?_)
 rintro e w1 ⟨rfl,rfl⟩
 go_wp2_with fail
 (with_reducible refine (HMB.out w).mono ?_)
 rintro e w1 ⟨rfl,rfl⟩
 go_wp2_with fail
 (with_reducible refine (HMU.out w).mono ?_)
 rintro e w1 ⟨rfl,rfl⟩
 go_wp2_with fail
 (with_reducible refine (HDV.out w).mono ?_)
 rintro e w1 ⟨rfl,m,rfl⟩
 by_cases hrc:(c:Int)-r<=r
 . have hRq:R=q+1:=by rw [HR.out,if_pos (by omega)]
   subst hRq
   have hcast:((q+1:Nat):Int)=(q:Int)+1:=by omega
   rw [hcast] at HCR
   go_wp2_with fail
   (with_reducible refine (HCR.out _).mono ?_)
   rintro e w1 ⟨rfl,rfl⟩
   go_wp2_with fail
   go_ret
   exact ⟨by first | rfl | omega | simp | (rw [hcast]),m,rfl⟩
 . have hRq:R=q:=by rw [HR.out,if_neg (by omega)]
   subst hRq
   go_wp2_with fail
   (with_reducible refine (HCR.out _).mono ?_)
   rintro e w1 ⟨rfl,rfl⟩
   go_wp2_with fail
   go_ret
   exact ⟨rfl,m,rfl⟩
set_option maxHeartbeats 800000 in
theorem fmul_any (a b:Nat) (ha:a<=1099511627776) (hb:b<=1099511627776) (hab:a*b<=9007199254740992) (w:World) :
 Calls Try.prog 201 #[.int i64 (a:Int),.int i64 (b:Int)] w fun e w'=>e=.returned (.int i64 (mdF a b 65536:Nat))/\∃ m,w.drewN m=w':=by
 have H:Hid (Calls Try.prog 238 #[.int i64 (a:Int),.int i64 (b:Int),.int i64 65536] w fun e w'=>e=.returned (.int i64 (mdF a b 65536:Nat))/\∃ m,w.drewN m=w'):=hid (mulDiv_any a b 65536 ha hb (by omega) (by omega) (by omega) (by omega) w)
 go_enter Try.func201,Try.ntmps201
 go_wp2_with fail
 (with_reducible refine H.out.mono ?_)
 rintro e w1 ⟨rfl,m,rfl⟩
 go_wp2_with fail
 go_ret
 exact ⟨rfl,m,rfl⟩
set_option maxHeartbeats 800000 in
theorem fadd_any (a b:Nat) (ha:a<=274877906944) (hb:b<=274877906944) (w:World) :
 Calls Try.prog 202 #[.int i64 (a:Int),.int i64 (b:Int)] w fun e w'=>e=.returned (.int i64 ((a+b:Nat):Int))/\w=w':=by
 have HA:=hid (clamp_any (a:Int) (by omega) (by omega))
 have HB:=hid (clamp_any (b:Int) (by omega) (by omega))
 have hcast:((a+b:Nat):Int)=(a:Int)+b:=by omega
 rw [hcast]
 have HC:=hid (clamp_any ((a:Int)+b) (by omega) (by omega))
 go_enter Try.func202,Try.ntmps202
 go_wp2_with fail
 (with_reducible refine (HA.out w).mono ?_)
 rintro e w1 ⟨rfl,rfl⟩
 go_wp2_with fail
 (with_reducible refine (HB.out w).mono ?_)
 rintro e w1 ⟨rfl,rfl⟩
 go_wp2_with fail
 (with_reducible refine (HC.out w).mono ?_)
 rintro e w1 ⟨rfl,rfl⟩
 go_wp2_with fail
 go_ret
 exact ⟨rfl,rfl⟩
set_option maxHeartbeats 800000 in
theorem fdiv_any (a:Nat) (ha:a<=137438953472) (w:World) :
 Calls Try.prog 200 #[.int i64 (a:Int),.int i64 196608] w fun e w'=>e=.returned (.tuple #[.int i64 (mdF a 65536 196608:Nat),.int i64 0])/\∃ m,w.drewN m=w':=by
 have H:Hid (Calls Try.prog 238 #[.int i64 (a:Int),.int i64 65536,.int i64 196608] w fun e w'=>e=.returned (.int i64 (mdF a 65536 196608:Nat))/\∃ m,w.drewN m=w'):=hid (mulDiv_any a 65536 196608 (by omega) (by omega) (by omega) (by omega) (by omega) (by omega) w)
 go_enter Try.func200,Try.ntmps200
 go_wp2_with fail
 (with_reducible refine H.out.mono ?_)
 rintro e w1 ⟨rfl,m,rfl⟩
 go_wp2_with fail
 go_ret2
 exact ⟨rfl,m,rfl⟩
theorem find_hit {α:Type} {p:α->Bool}:∀ {l:List α} {i:Nat} {x:α},l[i]?=some x->p x=true->(∀ (j:Nat) (y:α),j<i->l[j]?=some y->p y=false)->l.find? p=some x
 | [],_,_,h,_,_=>by simp at h
 | a::r,0,x,h,hp,_=>by
   have e:a=x:=by simpa using h
   rw [e,List.find?_cons_of_pos hp]
 | a::r,i+1,x,h,hp,hf=>by
   rw [List.find?_cons_of_neg (by rw [hf 0 a (by omega) rfl];simp)]
   exact find_hit (by simpa using h) hp fun j y hj hy=>hf (j+1) y (by omega) (by simpa using hy)
theorem find_no {α:Type} {p:α->Bool} {l:List α} (h:∀ (j:Nat) (y:α),l[j]?=some y->p y=false):l.find? p=none :=
 List.find?_eq_none.2 fun y hy=>by
  obtain ⟨j,hj⟩:=List.mem_iff_getElem?.1 hy
  rw [h j y hj];simp
def cmAt (l:List Cm) (k:Int):Option Cm:=l.find? fun c=>decide (c.k=k)
def vaV:Option Cm->Value
 | none=>.slice none 0 0
 | some cm=>.slice cm.A cm.n cm.c
set_option maxHeartbeats 1600000 in
theorem bvals_any {w:World} {B n c:Nat} {A:Option Addr} {l:List Cm} (h:CsOk w B A n c l) (e g k:Int) :
 Calls Try.prog 151 #[.agg #[.int i64 e,.int i64 g,.slice A n c],.int i64 k] w fun r w'=>r=.returned (vaV (cmAt l k))/\Below w.heap.size w w':=by
 obtain ⟨R,hR⟩:∃ R,R=vaV (cmAt l k):=⟨_,rfl⟩
 rw [<- hR]
 have hcap:=h.cap
 have hcap2:=h.cap2
 have hB:=h.lo
 have hb0:Below w.heap.size w (w.alloc (.cells #[.int i64 e,.int i64 g,.slice A n c] 147)):=(Below.refl _ _).alloc (Nat.le_refl _) _
 have q0:(w.alloc (.cells #[.int i64 e,.int i64 g,.slice A n c] 147)).cell? ⟨w.heap.size,2,none⟩=some (.slice A n c):=(Bk.new w 147 #[.int i64 e,.int i64 g,.slice A n c]).cell 2
 have HB0:=hid hb0
 have HR:=hid hR
 have HK:=hid h
 clear h hR hb0
 go_enter Try.func151,Try.ntmps151
 go_wp2_with fail
 go_loopw [10] (fun iv wr=>∃ i:Nat,i<=n/\iv=.int i64 i/\Hid (∀ (j:Nat) (x:Cm),j<i->l[j]?=some x->¬ x.k=k)/\Hid (Below w.heap.size w wr)) (fun iv _=>n-(intOf iv).toNat)
 case atStart=>exact ⟨0,Nat.zero_le _,rfl,hid (fun j x hj=>by omega),HB0⟩
 case round =>
  clear q0 HB0
  obtain ⟨i,hi,rfl,HT,HW⟩:=hrel
  by_cases hlt:i<n
  . obtain ⟨x,hx⟩:∃ x,l[i]?=some x:=⟨_,List.getElem?_eq_getElem (by have:=HK.out.len;omega)⟩
    obtain ⟨b,o,rfl,hbb,r0,r1⟩:=(HK.out.below (HW.out.mono hB)).rd.cm hlt hx
    have hiz:(i:Int)<n:=by omega
    have hiz0:(0:Int)<=i:=by omega
    have HX:=hid hx
    obtain ⟨hh,hhe⟩:∃ hh,hh=wr.heap.size:=⟨_,rfl⟩
    obtain ⟨W1,hW1⟩:∃ W1,W1=wr.alloc (.cells #[.int i64 x.k,.slice x.A x.n x.c] 166):=⟨_,rfl⟩
    have hk1:Bk W1 hh 166 #[.int i64 x.k,.slice x.A x.n x.c]:=by rw [hW1,hhe];exact Bk.new _ _ _
    have HB1:Hid (Below w.heap.size w W1):=hid (by rw [hW1];exact HW.out.alloc HW.out.size _)
    have s0:W1.cell? ⟨hh,0,none⟩=some (.int i64 x.k):=hk1.cell 0
    have s1:W1.cell? ⟨hh,1,none⟩=some (.slice x.A x.n x.c):=hk1.cell 1
    have HW1:=hid (And.intro hW1 hhe)
    clear hx hbb hk1 hW1 hhe
    go_upto_region 4 with fail
    rw [<- HW1.out.1,<- HW1.out.2]
    clear r0 r1
    by_cases hk:x.k=k
    . have t0:(x.k == k)=true:=by simp [hk]
      have HP:Hid (vaV (cmAt l k)=.slice x.A x.n x.c):=hid (by
       unfold cmAt
       rw [find_hit HX.out (decide_eq_true hk) fun j y hj hy=>decide_eq_false (HT.out j y hj hy)];rfl)
      have e:R=.slice x.A x.n x.c:=HR.out.trans HP.out
      clear hk HR HP
      subst e
      go_wp2_with fail
      go_ret
      exact ⟨rfl,HB1.out⟩
    . have t0:(x.k == k)=false:=by simp [hk]
      have HT2:Hid (∀ (j:Nat) (y:Cm),j<i+1->l[j]?=some y->¬ y.k=k):=hid fun j y hj hy=>by
       rcases Nat.lt_or_ge j i with h | h
       . exact HT.out j y h hy
       . obtain rfl:j=i:=by omega
         rw [HX.out] at hy
         injection hy with hy
         rw [<- hy];exact hk
      clear hk HT
      go_wp2_with fail
      go_roundw
      case measure=>simp [intOf];omega
      case rel=>exact ⟨i+1,by omega,by go_num,HT2,HB1⟩
  . obtain rfl:n=i:=by omega
    have HP:Hid (vaV (cmAt l k)=.slice none 0 0):=hid (by
     unfold cmAt
     rw [find_no fun j y hy=>decide_eq_false (HT.out j y (by have:=(List.getElem?_eq_some_iff.1 hy).1;have:=HK.out.len;omega) hy)];rfl)
    have e:R=.slice none 0 0:=HR.out.trans HP.out
    clear HR HP
    subst e
    go_wp2_with fail
    go_ret
    exact ⟨rfl,HW.out⟩
def RvP (w:World) (l:List Cm) (k:Int) (r:Ending) (w':World):Prop :=
 match if 0<=k then cmAt l k else none with
 | none=>r=.returned (.slice none 0 0)/\Below w.heap.size w w'
 | some cm=>∃ (A':Option Addr) (c':Nat),r=.returned (.slice A' cm.n c')/\w'.ownsRow w.heap.size 3 1 (.slice A' cm.n c') cm.n (cm.vals.map (Value.int .i64))/\Below w.heap.size w w'
set_option maxHeartbeats 1600000 in
theorem rvals_any {w:World} {B n c:Nat} {A:Option Addr} {l:List Cm} (h:CsOk w B A n c l) (e g k:Int) (hsz:∀ cm∈l,cm.n<=1048576) :
 Calls Try.prog 70 #[.agg #[.int i64 e,.int i64 g,.slice A n c],.int i64 k] w (RvP w l k):=by
 obtain ⟨i3,hi3,hz30,hz31,hz32⟩:=info_parts T.info3
 have hcap:=h.cap
 have hcap2:=h.cap2
 have hB:=h.lo
 have hb0:Below w.heap.size w (w.alloc (.cells #[.int i64 e,.int i64 g,.slice A n c] 147)):=(Below.refl _ _).alloc (Nat.le_refl _) _
 have q0:(w.alloc (.cells #[.int i64 e,.int i64 g,.slice A n c] 147)).cell? ⟨w.heap.size,2,none⟩=some (.slice A n c):=(Bk.new w 147 #[.int i64 e,.int i64 g,.slice A n c]).cell 2
 have HB0:=hid hb0
 have HK:=hid h
 have HSZ:=hid hsz
 clear h hb0 hsz
 go_enter Try.func70,Try.ntmps70
 go_wp2_with fail
 go_loopw [10] (fun iv wr=>∃ i:Nat,i<=n/\iv=.int i64 i/\Hid (∀ (j:Nat) (x:Cm),j<i->l[j]?=some x->¬ (x.k=k/\0<=k))/\Hid (Below w.heap.size w wr)) (fun iv _=>n-(intOf iv).toNat)
 case atStart=>exact ⟨0,Nat.zero_le _,rfl,hid (fun j x hj=>by omega),HB0⟩
 case round =>
  clear q0 HB0
  obtain ⟨i,hi,rfl,HT,HW⟩:=hrel
  by_cases hlt:i<n
  . obtain ⟨x,hx⟩:∃ x,l[i]?=some x:=⟨_,List.getElem?_eq_getElem (by have:=HK.out.len;omega)⟩
    have hkw:=HK.out.below (HW.out.mono hB)
    have hxo:=hkw.ok x (List.mem_of_getElem? hx)
    have hxs:=HSZ.out x (List.mem_of_getElem? hx)
    obtain ⟨b,o,rfl,hbb,r0,r1⟩:=hkw.rd.cm hlt hx
    have hiz:(i:Int)<n:=by omega
    have hiz0:(0:Int)<=i:=by omega
    have HX:=hid hx
    obtain ⟨hh,hhe⟩:∃ hh,hh=wr.heap.size:=⟨_,rfl⟩
    obtain ⟨W1,hW1⟩:∃ W1,W1=wr.alloc (.cells #[.int i64 x.k,.slice x.A x.n x.c] 166):=⟨_,rfl⟩
    have hk1:Bk W1 hh 166 #[.int i64 x.k,.slice x.A x.n x.c]:=by rw [hW1,hhe];exact Bk.new _ _ _
    have hbw1:Below wr.heap.size wr W1:=by rw [hW1];exact (Below.refl _ _).alloc (Nat.le_refl _) _
    have HB1:Hid (Below w.heap.size w W1):=hid (HW.out.trans (hbw1.mono HW.out.size))
    have s0:W1.cell? ⟨hh,0,none⟩=some (.int i64 x.k):=hk1.cell 0
    have s1:(W1.alloc (.cells #[] 3)).cell? ⟨hh,1,none⟩=some (.slice x.A x.n x.c):=(hk1.alloc _).cell 1
    have HXO:Hid (Rd W1 B 1 x.A x.n (x.vals.map (Value.int .i64))):=hid (hxo.rd.below (hbw1.mono (Nat.le_trans hB HW.out.size)))
    have HW1:=hid (And.intro hW1 hhe)
    have hs1:w.heap.size<=W1.heap.size:=HB1.out.size
    have hxcap:=hxo.cap
    have hxcap2:=hxo.cap2
    clear hx hbb hk1 hW1 hhe hkw hxo hbw1
    go_upto_region 4 with fail
    rw [<- HW1.out.1,<- HW1.out.2]
    clear r0 r1
    by_cases hk:x.k=k
    . subst hk
      have t0:(x.k == x.k)=true:=by simp
      by_cases hp:0<=x.k
      . have HP:Hid ((if 0<=x.k then cmAt l x.k else none)=some x):=hid (by
         rw [if_pos hp]
         unfold cmAt
         rw [find_hit HX.out (decide_eq_true rfl) fun j y hj hy=>decide_eq_false fun h=>HT.out j y hj hy ⟨h,hp⟩])
        clear HT
        go_wp2_with
         (at_builtin
          go_must (refine wpList_append_rd _ rfl (.tmp 22) (.tmp 24) _ rfl w.heap.size 3 i3 (.int i64 0) 1 8 Try.underlying30 hi3 hz30 hz31 hz32 rfl (by decide) (.slice (some ⟨W1.heap.size,0,none⟩) 0 0) 0 [] rfl (World.ownsRow_lit W1 #[] 0 hs1 (by decide) rfl) B x.A x.n x.c (x.vals.map (Value.int .i64)) rfl (HXO.out.below ((Below.refl _ _).alloc (Nat.le_trans hB hs1) _)) (by intro u hu;obtain ⟨z,_,rfl⟩:=List.mem_map.1 hu;rfl) ?c2 ?c3 ?c4 ?_)
          case c2=>unfold maxLen;omega
          case c3=>omega
          case c4=>(simp;omega)
          intro A' c' w1 hown1 hg1 hat1)
        go_ret
        simp only [Nat.zero_add,List.nil_append] at hown1
        unfold RvP
        rw [HP.out]
        exact ⟨A',c',by simp,hown1,(HB1.out.alloc hs1 _).grown hg1 (by simp;omega) (by simp [Value.ownBlock];omega)⟩
      . have t1:decide (0<=x.k)=false:=decide_eq_false hp
        have hp2:x.k<0:=by omega
        have HT2:Hid (∀ (j:Nat) (y:Cm),j<i+1->l[j]?=some y->¬ (y.k=x.k/\0<=x.k)):=hid fun j y _ _ h=>hp h.2
        clear HT hp
        go_wp2_with fail
        go_roundw
        case measure=>simp [intOf];omega
        case rel=>exact ⟨i+1,by omega,by go_num,HT2,HB1⟩
    . have t0:(x.k == k)=false:=by simp [hk]
      have HT2:Hid (∀ (j:Nat) (y:Cm),j<i+1->l[j]?=some y->¬ (y.k=k/\0<=k)):=hid fun j y hj hy=>by
       rcases Nat.lt_or_ge j i with h | h
       . exact HT.out j y h hy
       . obtain rfl:j=i:=by omega
         rw [HX.out] at hy
         injection hy with hy
         rw [<- hy];exact fun h=>hk h.1
      clear hk HT
      go_wp2_with fail
      go_roundw
      case measure=>simp [intOf];omega
      case rel=>exact ⟨i+1,by omega,by go_num,HT2,HB1⟩
  . obtain rfl:n=i:=by omega
    have HP:Hid ((if 0<=k then cmAt l k else none)=none):=hid (by
     split
     . rename_i hk
       unfold cmAt
       exact find_no fun j y hy=>decide_eq_false fun h=>HT.out j y (by have:=(List.getElem?_eq_some_iff.1 hy).1;have:=HK.out.len;omega) hy ⟨h,hk⟩
     . rfl)
    go_wp2_with fail
    go_ret
    unfold RvP
    rw [HP.out]
    exact ⟨rfl,HW.out⟩
theorem T.info124:(Try.prog.info? 124).map (fun i=>(i.zero,i.size,i.bytes))=some (some (.agg #[.int i64 0,.int i64 0,.int i64 0,.int i64 0,.int i64 0,.int i64 0,.int i64 0,.int i64 0,.int i64 0,.int i64 0,.slice none 0 0,.bool false,.int i64 0]),13,120):=by kernel_rfl
theorem T.info128:(Try.prog.info? 128).map (fun i=>(i.zero,i.size,i.bytes))=some (some (.agg #[.int i64 0,.int i64 0]),2,16):=by kernel_rfl
def rgnN (n:Nat):Code->Option Code
 | .region k o b=>if k=n then some (.region k o b) else none
 | .block _ c=>rgnN n c
 | .seq a b=>match rgnN n a with
   | some c=>some c
   | none=>rgnN n b
 | .loop c=>rgnN n c
 | .scope c=>rgnN n c
 | .cond _ a b=>match rgnN n a with
   | some c=>some c
   | none=>rgnN n b
 | _=>none
theorem grown_below {w w':World} {base size n:Nat} {e:TypeId} {v:Value} {xs:List Value} (ho:w.ownsRow base e size v n xs) (hg:w.grownBy w' v.ownBlock) (hb:base<=w.heap.size):Below base w w' :=
 ⟨hg.os,hg.tape,hg.output,hg.size,fun q hq=>hg.block q (by omega) fun e=>by have:=(ho.lt q e.symm).1;omega⟩
section
variable {P:Program}
theorem wp_append_one {o:Oper} {a:Act} {w:World} {K:Act->World->Prop} {Q:Exit->Act->World->Prop} (s x:Operand) (t:TypeId)
 (ho:o.op=.call { callee:=.builtin .append,args:=#[s,x],argTypes:=#[t,t] })
 (base:Nat) (e:TypeId) (i:TypeInfo) (z:Value) (size bytes:Nat) (ht:P.underlying t=some (.slice e)) (hi:P.info? e=some i) (hz:i.zero=some z)
 (hsize:i.size=size) (hby:i.bytes=bytes) (hzs:z.cells.size=size) (hsz:0<size)
 (v:Value) (n:Nat) (xs:List Value) (hs:a.eval s=v) (hown:w.ownsRow base e size v n xs)
 (b c:Nat) (t':TypeId) (cs:Array Value) (hx:a.eval x=.slice (some ⟨b,0,none⟩) 1 c) (hr:Bk w b t' cs) (hcs:cs.size=size) (h1:∀ u∈cs.toList,u.oneCell'=true)
 (n':Nat) (hn':n'=n+1) (h63:n'<=maxLen) (hbytes:n'*bytes<=140737488355328) (hbase:base<=w.heap.size)
 (h:∀ g' c' w',w'.ownsRow base e size (.slice (some ⟨g',0,none⟩) n' c') n' (xs++cs.toList)->w.grownBy w' v.ownBlock->(v.ownBlock=some g'\/g'=w.heap.size)->K (a.put o.dst (.slice (some ⟨g',0,none⟩) n' c')) w'):o.wp P a w K Q:=by
 subst hn'
 have hrd:Rd w w.heap.size size (some ⟨b,0,none⟩) 1 cs.toList :=
  ⟨by simp [hcs],fun _=>⟨_,_,rfl,hr.lt,fun j u hu=>by
   rw [Nat.zero_add]
   exact (hr.cell j).trans (by simpa using hu)⟩⟩
 refine wp_append_rd w s x t ho base e i z size bytes ht hi hz hsize hby hzs hsz v n xs hs hown _ _ 1 c _ hx hrd h1 h63 hbytes hbase fun A' c' w' h2 h3 h4=>?_
 obtain ⟨g,cap,hv,_,hlt⟩:=h2.form (by omega)
 have hA:A'=some ⟨g,0,none⟩:=by injection hv
 subst hA
 refine h g c' w' h2 h3 ?_
 rcases h4 with h4 | h4
 . exact .inl (by rw [<- h4];rfl)
 . exact .inr (by simpa [Value.ownBlock] using h4)
end
def blkN (n:Nat):Code->Option Code
 | .block k c=>if k=n then some (.block k c) else blkN n c
 | .seq a b=>match blkN n a with
   | some c=>some c
   | none=>blkN n b
 | .loop c=>blkN n c
 | .scope c=>blkN n c
 | .cond _ a b=>match blkN n a with
   | some c=>some c
   | none=>blkN n b
 | _=>none
theorem own_farB {w:World} {base size n b i:Nat} {e:TypeId} {v:Value} {xs:List Value} (h:w.ownsRow base e size v n xs) (hb:v.ownBlock≠some b) {u:Value}:(w.setCell ⟨b,i,none⟩ u).ownsRow base e size v n xs:=by
 refine ⟨h.1,?_⟩
 rcases h.2 with h1 | ⟨g,cap,cur,h1,h2,h3,h4⟩
 . exact .inl h1
 . refine .inr ⟨g,cap,cur,h1,h2,?_,h4⟩
   have:g≠b:=fun e=>hb (by rw [h1,e];rfl)
   exact (Below.heap_setCell w ⟨b,i,none⟩ u g this).trans h3
section
variable {P:Program} {ops:Array Oper} {Q:Exit->Act->World->Prop} {md:Region.Mode} {S T:World->Prop} {late:List Nat}
def NLate (late:List Nat) (listed:Array Bool):Prop:=∀ l∈late,listed.getD l true=false
theorem NLate.of_set {i:Nat} {listed:Array Bool} (h:NLate late (listed.setIfInBounds i true)) (hi:i ∉ late):NLate late listed:=fun l hl=>by
 have h1:=h l hl
 rwa [getD_set_ne true (fun e=>by subst e;exact hi hl)] at h1
theorem NLate.set {i:Nat} {listed:Array Bool} (h:NLate late listed) (hi:i ∉ late):NLate late (listed.setIfInBounds i true):=fun l hl=>by
 rw [getD_set_ne true (fun e=>by subst e;exact hi hl)]
 exact h l hl
def wpAnyM (P:Program) (md:Region.Mode) (ops:Array Oper) (Q:Exit->Act->World->Prop) (S T:World->Prop) (late:List Nat):Nat->Array Bool->Act->World->Prop
 | 0,listed,a,w=>Region.ready md ops listed=[]/\Q .normal a w
 | fuel+1,listed,a,w =>
   (Region.ready md ops listed=[]->Q .normal a w) /\
   ∀ i∈Region.ready md ops listed,wpOp P ops Q i (fun a' w'=>(NLate late (listed.setIfInBounds i true)->S w')/\T w'/\wpAnyM P md ops Q S T late fuel (listed.setIfInBounds i true) a' w') a w
theorem wpAny_of_M:∀ (fuel:Nat) (listed:Array Bool) (a:Act) (w:World),wpAnyM P md ops Q S T late fuel listed a w->wpAny P md ops Q fuel listed a w
 | 0,_,_,_,h=>h
 | fuel+1,_,_,_,h=>⟨h.1,fun i hi=>wpOp_mono (fun a' w' h'=>wpAny_of_M fuel _ a' w' h'.2.2) (h.2 i hi)⟩
theorem wpAnyM_firstS {i:Nat} {oi:Oper} {v:Value} (hi:ops[i]?=some oi) (hsel:∀ (j:Nat) (o:Oper) cs b,ops[j]?=some o->o.op≠.select cs b)
 (hQ:∀ c a w,Q (.panic c) (a.put oi.dst v) w->Q (.panic c) a w) :
 ∀ (fuel:Nat) (listed:Array Bool) (a:Act) (w:World),(∀ l∈late,WaitsN md ops listed 5 l i) ->
   (∀ j oj,ops[j]?=some oj->j≠i->listed.getD j true=false->(∀ e∈oj.after,Region.binds md e=true->e.on≠i)->oi.apart ops oj=true) ->
   i∈Region.ready md ops listed->NLate late listed->i ∉ late->YieldsIf P ops S oi v a->S w->T w ->
   wpAnyM P md ops Q S T late fuel (listed.setIfInBounds i true) (a.put oi.dst v) w->wpAnyM P md ops Q S T late (fuel+1) listed a w:=by
 intro fuel
 induction fuel with
 | zero =>
   intro listed a w _ _ hr _ _ hy hS hT H
   refine ⟨fun h=>(by rw [h] at hr;cases hr),fun j hj=>?_⟩
   by_cases hji:j=i
   . subst hji;exact hy.wpOp hi hS ⟨fun _=>hS,hT,H⟩
   . have:=ready_mono hj hji
     rw [H.1] at this
     cases this
 | succ fuel ih =>
   intro listed a w hwt hfree hr hNL hil hy hS hT H
   refine ⟨fun h=>(by rw [h] at hr;cases hr),fun j hj=>?_⟩
   by_cases hji:j=i
   . subst hji;exact hy.wpOp hi hS ⟨fun _=>hS,hT,H⟩
   . have h1:=H.2 j (ready_mono hj hji)
     obtain ⟨hjun,oj,hoj,hall⟩:=mem_ready.1 hj
     have hiun:=(mem_ready.1 hr).1
     have hnot:∀ e∈oj.after,Region.binds md e=true->e.on≠i:=fun e he hb heq =>
      Waits.not_ready (md:=md) (ops:=ops) ⟨oj,hoj,e,he,hb,heq⟩ hiun hj
     have hjl:j ∉ late:=fun hm=>(hwt j hm).not_ready hiun hj
     have h2:=wpOp_putIf hoj (hfree j oj hoj hji hjun hnot) (fun cs b=>hsel i oi cs b hi) (fun cs b=>hsel j oj cs b hoj) hQ hy h1
     have hfree':∀ k ok,ops[k]?=some ok->k≠i->(listed.setIfInBounds j true).getD k true=false ->
      (∀ e∈ok.after,Region.binds md e=true->e.on≠i)->oi.apart ops ok=true:=fun k ok hk hki hun hno=>by
      refine hfree k ok hk hki ?_ hno
      by_cases hjk:j=k
      . subst hjk;exact hjun
      . rw [getD_set_ne true hjk] at hun;exact hun
     have hS3:NLate late ((listed.setIfInBounds i true).setIfInBounds j true):=(hNL.set hil).set hjl
     refine wpOp_mono (fun a' w' h3=>⟨fun _=>h3.2.1 hS3,h3.2.2.1,ih (listed.setIfInBounds j true) a' w' (fun l hl=>(hwt l hl).set hiun hj) hfree' (ready_mono hr (Ne.symm hji)) (hNL.set hjl) hil h3.1 (h3.2.1 hS3) h3.2.2.1 ?_⟩) h2
     rw [Array.setIfInBounds_comm _ _ hji]
     exact h3.2.2.2
theorem wpAnyM_firstT {i:Nat} {oi:Oper} {v:Value} (hi:ops[i]?=some oi) (hsel:∀ (j:Nat) (o:Oper) cs b,ops[j]?=some o->o.op≠.select cs b)
 (hQ:∀ c a w,Q (.panic c) (a.put oi.dst v) w->Q (.panic c) a w) :
 ∀ (fuel:Nat) (listed:Array Bool) (a:Act) (w:World),(∀ j oj,ops[j]?=some oj->j≠i->listed.getD j true=false->(∀ e∈oj.after,Region.binds md e=true->e.on≠i)->oi.apart ops oj=true) ->
   i∈Region.ready md ops listed->i ∉ late->YieldsIf P ops T oi v a->(NLate late listed->S w)->T w ->
   wpAnyM P md ops Q S T late fuel (listed.setIfInBounds i true) (a.put oi.dst v) w->wpAnyM P md ops Q S T late (fuel+1) listed a w:=by
 intro fuel
 induction fuel with
 | zero =>
   intro listed a w _ hr hil hy hS hT H
   refine ⟨fun h=>(by rw [h] at hr;cases hr),fun j hj=>?_⟩
   by_cases hji:j=i
   . subst hji;exact hy.wpOp hi hT ⟨fun h=>hS (h.of_set hil),hT,H⟩
   . have:=ready_mono hj hji
     rw [H.1] at this
     cases this
 | succ fuel ih =>
   intro listed a w hfree hr hil hy hS hT H
   refine ⟨fun h=>(by rw [h] at hr;cases hr),fun j hj=>?_⟩
   by_cases hji:j=i
   . subst hji;exact hy.wpOp hi hT ⟨fun h=>hS (h.of_set hil),hT,H⟩
   . have h1:=H.2 j (ready_mono hj hji)
     obtain ⟨hjun,oj,hoj,hall⟩:=mem_ready.1 hj
     have hiun:=(mem_ready.1 hr).1
     have hnot:∀ e∈oj.after,Region.binds md e=true->e.on≠i:=fun e he hb heq =>
      Waits.not_ready (md:=md) (ops:=ops) ⟨oj,hoj,e,he,hb,heq⟩ hiun hj
     have h2:=wpOp_putIf hoj (hfree j oj hoj hji hjun hnot) (fun cs b=>hsel i oi cs b hi) (fun cs b=>hsel j oj cs b hoj) hQ hy h1
     have hfree':∀ k ok,ops[k]?=some ok->k≠i->(listed.setIfInBounds j true).getD k true=false ->
      (∀ e∈ok.after,Region.binds md e=true->e.on≠i)->oi.apart ops ok=true:=fun k ok hk hki hun hno=>by
      refine hfree k ok hk hki ?_ hno
      by_cases hjk:j=k
      . subst hjk;exact hjun
      . rw [getD_set_ne true hjk] at hun;exact hun
     have hSn:∀ w',(NLate late ((listed.setIfInBounds i true).setIfInBounds j true)->S w')->NLate late (listed.setIfInBounds j true)->S w':=fun w' h h'=>h (by
      rw [Array.setIfInBounds_comm _ _ (Ne.symm hji)]
      exact h'.set hil)
     refine wpOp_mono (fun a' w' h3=>⟨hSn w' h3.2.1,h3.2.2.1,ih (listed.setIfInBounds j true) a' w' hfree' (ready_mono hr (Ne.symm hji)) hil h3.1 (hSn w' h3.2.1) h3.2.2.1 ?_⟩) h2
     rw [Array.setIfInBounds_comm _ _ hji]
     exact h3.2.2.2
theorem wpAnyM_valS {i:Nat} {oi:Oper} {d:Option Tmp} {v:Value} {fuel:Nat} {listed:Array Bool} {a:Act} {w:World} (hi:ops[i]?=some oi) (hd:oi.dst=d)
 (hs:Region.noSelect ops=true) (hf:Region.free md ops listed i=true) (hr:(Region.ready md ops listed).contains i=true) (hwl:(late.all fun l=>waitsN md ops listed 5 l i && !(listed.getD l true))=true) (hil:late.contains i=false)
 (hQ:∀ c a w,Q (.panic c) (a.put d v) w->Q (.panic c) a w) (hy:YieldsIf P ops S oi v a) (hS:S w) (hT:T w)
 (h:wpAnyM P md ops Q S T late fuel (listed.setIfInBounds i true) (a.put d v) w):wpAnyM P md ops Q S T late (fuel+1) listed a w:=by
 subst hd
 rw [List.all_eq_true] at hwl
 refine wpAnyM_firstS hi (Region.noSelect_spec hs) hQ fuel listed a w (fun l hl=>waitsN_spec ?_) (Region.free_spec hi hf) (by simpa using hr) (fun l hl=>?_) (by simpa using hil) hy hS hT h
 . have:=hwl l hl;rw [Bool.and_eq_true] at this;exact this.1
 . have:=hwl l hl;rw [Bool.and_eq_true] at this;simpa using this.2
theorem wpAnyM_val {i:Nat} {oi:Oper} {d:Option Tmp} {v:Value} {fuel:Nat} {listed:Array Bool} {a:Act} {w:World} (hi:ops[i]?=some oi) (hd:oi.dst=d)
 (hs:Region.noSelect ops=true) (hf:Region.free md ops listed i=true) (hr:(Region.ready md ops listed).contains i=true) (hil:late.contains i=false)
 (hQ:∀ c a w,Q (.panic c) (a.put d v) w->Q (.panic c) a w) (hy:YieldsIf P ops T oi v a) (hS:NLate late listed->S w) (hT:T w)
 (h:wpAnyM P md ops Q S T late fuel (listed.setIfInBounds i true) (a.put d v) w):wpAnyM P md ops Q S T late (fuel+1) listed a w:=by
 subst hd
 exact wpAnyM_firstT hi (Region.noSelect_spec hs) hQ fuel listed a w (Region.free_spec hi hf) (by simpa using hr) (by simpa using hil) hy hS hT h
theorem wpAnyM_late {i:Nat} {oi:Oper} {fuel:Nat} {listed:Array Bool} {a:Act} {w:World} (hi:ops[i]?=some oi) (hr:Region.ready md ops listed=[i]) (hg:Region.wanted oi (yielded ops a.tmps)=true) (hl:late.contains i=true) (hsz:i<listed.size)
 (h:oi.wp P a w (fun a' w'=>T w'/\wpAnyM P md ops Q S T late fuel (listed.setIfInBounds i true) a' w') Q):wpAnyM P md ops Q S T late (fuel+1) listed a w :=
 ⟨fun h0=>(by rw [hr] at h0;cases h0),fun j hj=>by
  have e:j=i:=by rw [hr] at hj;simpa using hj
  subst e
  unfold wpOp
  simp only [hi,hg,if_true]
  exact .inl (Oper.wp_mono (fun a' w' h=>⟨fun h0=>by
   have h1:=h0 j (by simpa using hl)
   simp [hsz] at h1,h⟩) h)⟩
theorem wpAnyM_done {listed:Array Bool} {a:Act} {w:World} (hr:Region.ready md ops listed=[]) (h:Q .normal a w) :
 ∀ fuel,wpAnyM P md ops Q S T late fuel listed a w
 | 0=>⟨hr,h⟩
 | _+1=>⟨fun _=>h,by rw [hr];simp⟩
theorem wp_region_M {id:Nat} {a:Act} {w:World} (hm:P.follows .mixedOrders=true)
 (h:wpAnyM P .any ops Q S T late ops.size (Array.replicate ops.size false) a w.drew):(Code.region id ops true).wp P Q a w :=
 wp_region_any hm (wpAny_of_M _ _ _ _ h)
end
def holdK (d:Kp2) (v:List Int):Bool:=holdsF d.1 d.2 v
def itOne (ks:List Kp2) (gens:List Int) (last:Int) (it:Iv):Bool :=
 decide (last<it.1.1)&&(decide (gens[it.1.1.toNat]?=some it.1.2)&&(decide (it.1.2≠1073741824)&&heldF ks (-1) it.2))
def itChk (ks:List Kp2) (gens:List Int):Int->List Iv->Bool
 | _,[]=>true
 | last,it::r=>itOne ks gens last it&&itChk ks gens it.1.1 r
def genOk (g:Int):Bool:=decide (0<=g)&&decide (g<=1073741824)
def wcheckF (w:Wv Kp2):Int :=
 if checkF w.ks≠0 then checkF w.ks else if 256<w.gens.length\/w.gens.length<w.its.length then 2 else
 if w.gens.all genOk=true then (if itChk w.ks w.gens (-1) w.its=true then 0 else 3) else 3
theorem heldF_iff {ks:List Kp2} {l:List Cv} {last:Int} (h0 : -1<=last):heldF ks last l=true↔(∀ c∈l,last<c.1)/\VCs holdK ks l:=by
 induction l generalizing last with
 | nil=>exact ⟨fun _=>⟨(fun c hc=>by cases hc),⟨List.Pairwise.nil,(fun c hc=>by cases hc)⟩⟩,fun _=>rfl⟩
 | cons x l ih =>
   have e:heldF ks last (x::l)=(heldOne ks last x&&heldF ks x.1 l):=rfl
   rw [e,Bool.and_eq_true]
   constructor
   . rintro ⟨h1,h2⟩
     unfold heldOne at h1
     rw [Bool.and_eq_true] at h1
     have hlt:last<x.1:=by simpa using h1.1
     obtain ⟨h3,h4⟩:=(ih (by omega)).1 h2
     obtain ⟨k,hk⟩:∃ k:Nat,x.1=k:=⟨x.1.toNat,by omega⟩
     have hx:∃ d,ks[k]?=some d/\holdK d x.2=true:=by
      have h5:=h1.2
      rw [hk,Int.toNat_natCast] at h5
      cases hd:ks[k]? with
      | none=>rw [hd] at h5;cases h5
      | some d=>rw [hd] at h5;exact ⟨d,rfl,h5⟩
     refine ⟨fun c hc=>?_,⟨List.Pairwise.cons h3 h4.sorted,fun c hc=>?_⟩⟩
     . rcases List.mem_cons.1 hc with rfl | hc
       . exact hlt
       . have:=h3 c hc;omega
     . rcases List.mem_cons.1 hc with rfl | hc
       . obtain ⟨d,h6,h7⟩:=hx
         exact ⟨k,d,hk,h6,h7⟩
       . exact h4.ok c hc
   . rintro ⟨h1,h2⟩
     have hlt:=h1 x (List.mem_cons_self ..)
     obtain ⟨k,d,hk,h6,h7⟩:=h2.ok x (List.mem_cons_self ..)
     obtain ⟨h8,h9⟩:=List.pairwise_cons.1 h2.sorted
     refine ⟨?_,(ih (by omega)).2 ⟨h8,⟨h9,fun c hc=>h2.ok c (List.mem_cons_of_mem _ hc)⟩⟩⟩
     unfold heldOne
     rw [decide_eq_true hlt,hk,Int.toNat_natCast,h6]
     exact h7
theorem itChk_iff {ks:List Kp2} {gens:List Int} {l:List Iv} {last:Int} (h0 : -1<=last) :
 itChk ks gens last l=true↔(∀ c∈l,last<c.1.1)/\(l.Pairwise fun a b=>a.1.1<b.1.1)/\∀ it∈l,(∃ n:Nat,it.1.1=n/\gens[n]?=some it.1.2)/\it.1.2≠1073741824/\VCs holdK ks it.2:=by
 induction l generalizing last with
 | nil=>exact ⟨fun _=>⟨(fun c hc=>by cases hc),List.Pairwise.nil,(fun c hc=>by cases hc)⟩,fun _=>rfl⟩
 | cons x l ih =>
   have e:itChk ks gens last (x::l)=(itOne ks gens last x&&itChk ks gens x.1.1 l):=rfl
   have e2:itOne ks gens last x=true↔last<x.1.1/\gens[x.1.1.toNat]?=some x.1.2/\x.1.2≠1073741824/\heldF ks (-1) x.2=true:=by
    unfold itOne
    simp only [Bool.and_eq_true,decide_eq_true_eq]
   rw [e,Bool.and_eq_true,e2]
   constructor
   . rintro ⟨⟨hlt,hg,hm,hh⟩,h2⟩
     obtain ⟨h3,h4,h5⟩:=(ih (by omega)).1 h2
     obtain ⟨k,hk⟩:∃ k:Nat,x.1.1=k:=⟨x.1.1.toNat,by omega⟩
     rw [hk,Int.toNat_natCast] at hg
     refine ⟨fun c hc=>?_,List.Pairwise.cons h3 h4,fun c hc=>?_⟩
     . rcases List.mem_cons.1 hc with rfl | hc
       . exact hlt
       . have:=h3 c hc;omega
     . rcases List.mem_cons.1 hc with rfl | hc
       . exact ⟨⟨k,hk,hg⟩,hm,((heldF_iff (by omega)).1 hh).2⟩
       . exact h5 c hc
   . rintro ⟨h1,h2,h3⟩
     have hlt:=h1 x (List.mem_cons_self ..)
     obtain ⟨⟨k,hk,hg⟩,hm,hc⟩:=h3 x (List.mem_cons_self ..)
     obtain ⟨h8,h9⟩:=List.pairwise_cons.1 h2
     refine ⟨⟨hlt,by rw [hk,Int.toNat_natCast];exact hg,hm,(heldF_iff (by omega)).2 ⟨fun c hcc=>?_,hc⟩⟩,(ih (by omega)).2 ⟨h8,h9,fun c hc=>h3 c (List.mem_cons_of_mem _ hc)⟩⟩
     obtain ⟨j,_,e3,_⟩:=hc.ok c hcc
     omega
theorem flat_len {α:Type} (f:Nat->List α) (K:Nat) (h:∀ n,(f n).length<=1):((List.range K).flatMap f).length<=K:=by
 induction K with
 | zero=>simp
 | succ K ih =>
   rw [List.range_succ,List.flatMap_append,List.length_append]
   have:=h K
   simp only [List.flatMap_cons,List.flatMap_nil,List.append_nil]
   omega
theorem VW.its_len {κ:Type} {hold:κ->List Int->Bool} {w:Wv κ} (h:VW hold w):w.its.length<=w.gens.length:=by
 have e:=rebuild (fun c:Iv=>c.1.1) w.gens.length w.its h.sorted h.key
 rw [<- e]
 exact flat_len _ _ fun n=>by cases (w.its.find? fun c=>decide (c.1.1=(n:Int))) <;> simp
theorem vw_of {w:Wv Kp2} (h:wcheckF w=0):checkF w.ks=0/\VW holdK w:=by
 unfold wcheckF at h
 by_cases h0:checkF w.ks≠0
 . rw [if_pos h0] at h;exact absurd h h0
 . rw [if_neg h0] at h
   by_cases h1:256<w.gens.length\/w.gens.length<w.its.length
   . rw [if_pos h1] at h;cases h
   . rw [if_neg h1] at h
     by_cases h2:w.gens.all genOk=true
     . rw [if_pos h2] at h
       by_cases h3:itChk w.ks w.gens (-1) w.its=true
       . obtain ⟨_,a,b⟩:=(itChk_iff (by omega)).1 h3
         refine ⟨by omega,⟨by omega,fun g hg=>?_,a,b⟩⟩
         have:=List.all_eq_true.1 h2 g hg
         unfold genOk at this
         simp only [Bool.and_eq_true,decide_eq_true_eq] at this
         exact this
       . rw [if_neg h3] at h;cases h
     . rw [if_neg h2] at h;cases h
theorem check_of {w:Wv Kp2} (h0:checkF w.ks=0) (h:VW holdK w):wcheckF w=0:=by
 unfold wcheckF
 have hl:=h.its_len
 have hm:=h.many
 rw [if_neg (by omega),if_neg (by omega),if_pos (List.all_eq_true.2 fun g hg=>by
  have:=h.gens g hg
  unfold genOk
  simp only [Bool.and_eq_true,decide_eq_true_eq];exact this),if_pos ((itChk_iff (by omega)).2 ⟨fun c hc=>by
   obtain ⟨⟨n,e,_⟩,_⟩:=h.ok c hc
   omega,h.sorted,h.ok⟩)]
theorem holdK_iff {d:Kp2} {v:List Int}:holdK d v=true↔oneF d.1 d.2=0/\v.length=d.2.length/\∀ i f,d.2[i]?=some f->nearF f (v.getD i 0)=v.getD i 0:=by
 unfold holdK holdsF
 simp only [Bool.and_eq_true,decide_eq_true_eq]
 unfold fitF
 by_cases h0:oneF d.1 d.2=0
 . rw [if_neg (by simp [h0])]
   by_cases h1:v.length=d.2.length
   . rw [if_neg (by simp [h1])]
     constructor
     . rintro ⟨_,h⟩
       refine ⟨h0,h1,fun i f hf=>?_⟩
       have hi:i<d.2.length:=(List.getElem?_eq_some_iff.1 hf).1
       have hv:v[i]?=some (v.getD i 0):=by simp [List.getD,List.getElem?_eq_getElem (show i<v.length by omega)]
       have:=zipF_at hf hv
       rw [show zipF d.2 v=v from h,hv] at this
       injection this with this
       exact this.symm
     . rintro ⟨_,_,h⟩
       refine ⟨rfl,List.ext_getElem? fun i=>?_⟩
       by_cases hi:i<d.2.length
       . have hf:d.2[i]?=some d.2[i]:=List.getElem?_eq_getElem hi
         have hv:v[i]?=some (v.getD i 0):=by simp [List.getD,List.getElem?_eq_getElem (show i<v.length by omega)]
         show (zipF d.2 v)[i]?=_
         rw [zipF_at hf hv,h i _ hf,hv]
       . rw [List.getElem?_eq_none (by unfold zipF;rw [List.length_zipWith];omega),List.getElem?_eq_none (by omega)]
   . rw [if_pos h1]
     exact ⟨(fun h=>by cases h.1),fun h=>absurd h.2.1 h1⟩
 . rw [if_pos h0]
   exact ⟨fun h=>absurd h.1 h0,fun h=>absurd h.1 h0⟩
end Go.Proofs.Ytnidcmhfbkdioaa
