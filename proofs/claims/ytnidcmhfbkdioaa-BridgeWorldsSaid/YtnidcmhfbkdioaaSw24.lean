/-
  Lemmas for the walk, merged (Bx By Bz Ca). No condition but those in each statement.
-/
import Derived.Test.YtnidcmhfbkdioaaSw12
import Derived.Test.YtnidcmhfbkdioaaSw19
import Derived.Test.YtnidcmhfbkdioaaSw17
import Derived.Test.YtnidcmhfbkdioaaSw14
namespace Go.Proofs.Ytnidcmhfbkdioaa
open Go.RowKit
open Go.IntKind (i64)
open Go.Lib (hid)
set_option maxRecDepth 100000
noncomputable def vdOne:Code:=(Try.f54.body.bind (blkN 5)).getD .skip
theorem Kx.grownS {w w':World} {B s:Nat} {cs:Array Value} (hk:Bk w s 189 cs) (hg:w.grownBy w' (some s)) (hB:B<=s):Kx B [189] w w' :=
 ⟨hg.size,fun b h1 h2=>hg.block b h2 (fun e=>by injection e with e;omega),fun b t cs' h1 h2=>h1.grown hg fun e=>by
  injection e with e
  subst e
  exact Bk.ne_ h1 hk (fun e=>h2 (by simp [e])) rfl⟩
set_option maxHeartbeats 8000000 in
theorem vdOne_any {x0 x1 x2 x3 x4 x6 x7 x8 x9 Aa Ac Ad Ae Af Ag Ah Ai Aj Ak Al Am Ao Ap Aq Ar Au Av Aw Ax Ay Az A7 A9 Be Bl Bu Bv Bw B0 B1 B2 B3 B4 B5 B6 B7 B8 B9 Cg Ch Ci Cj Ck Cp Cq Cs Cw Cx Cy Cz C0 C1 C2 C3 C4 C5 C6 C7 C8 C9 Da Db Dc Dd De Dg Dh Di Dj Dk Dl Dm Dn Dp Dq Dr Ds Dt Du Dv Dw Dx Dy D0 D1 D3 D4 D5 D6 D7 D8 D9 Ee Ef Ei:Value} {Q:Exit->Act->World->Prop} {wI w0:World} {B D base s cA fn fc j vc i:Nat} {fA VA:Option Addr} {fds:List Fd} {f:Fd} {vs:List Int}
 (hst:StrSt w0 B s) (hB:B<=s) (hrd:Rd w0 D 3 fA fn (fdCs fds)) (_hfn:fn<=fc) (_hfc:fc<=9223372036854775807) (hj:fds[j]?=some f) (hjl:j<fn) (hfok:1<=f.bits/\f.bits<=32 /\ -4294967296<=f.low/\f.low<=4294967296) (hj8:j<=64)
 (hc:Bk w0 cA 166 #[.int i64 (i:Int),.slice VA j vc]) (ho:w0.ownsRow base 3 1 (.slice VA j vc) j (vs.map (Value.int .i64))) (hBb:B<=base) (hbase:base<=w0.heap.size) (hcA:base<=cA) (hQ:Fq [s] wI w0) (hI:wI.heap.size<=base)
 (hN:∀ (Ho Ji Jj Jk Jl Jm Jn Jo Jp Jq Jr Js Jt Ju Jv Jw:Value) (v:Int) (g7 c7:Nat) (w':World),Hid (0<=v/\v<(2:Int)^f.bits.toNat/\StrSt w' B s/\Bk w' cA 166 #[.int i64 (i:Int),.slice (some ⟨g7,0,none⟩) (j+1) c7]/\w'.ownsRow base 3 1 (.slice (some ⟨g7,0,none⟩) (j+1) c7) (j+1) ((vs++[f.low+v]).map (Value.int .i64))/\Fq [s] wI w'/\Kx B [189,3,166] w0 w')->Q .normal ⟨#[x0,x1,x2,x3,x4,.pointer (some ⟨s,0,none⟩),x6,x7,x8,x9,Aa,.pointer (some ⟨cA,0,none⟩),Ac,Ho,Ae,Af,Ag,Ah,Ai,Aj,Ak,Al,Am,Ao,Ap,Aq,Ar,Au,Av,Aw,Ax,Ay,Az,A7,A9,Be,Bl,Bu,Bv,Bw,B0,B1,B2,B3,B4,B5,B6,B7,B8,B9,Cg,Ch,Ci,Cj,Ck,Cp,Cq,.slice fA fn fc,Cs,.int i64 (j:Int),Cw,Ji,Jj,Jk,Jl,Jm,Jn,Jo,Jp,Jq,Jr,Js,Jt,Ju,Jv,Jw,Dc,Dd,De,Dg,Dh,Di,Dj,Dk,Dl,Dm,Dn,Dp,Dq,Dr,Ds,Dt,Du,Dv,Dw,Dx,Dy,D0,D1,D3,D4,D5,D6,D7,D8,D9,Ee,Ef,Ei],[]⟩ w') :
 Code.wp Try.prog vdOne Q ⟨#[x0,x1,x2,x3,x4,.pointer (some ⟨s,0,none⟩),x6,x7,x8,x9,Aa,.pointer (some ⟨cA,0,none⟩),Ac,Ad,Ae,Af,Ag,Ah,Ai,Aj,Ak,Al,Am,Ao,Ap,Aq,Ar,Au,Av,Aw,Ax,Ay,Az,A7,A9,Be,Bl,Bu,Bv,Bw,B0,B1,B2,B3,B4,B5,B6,B7,B8,B9,Cg,Ch,Ci,Cj,Ck,Cp,Cq,.slice fA fn fc,Cs,.int i64 (j:Int),Cw,Cx,Cy,Cz,C0,C1,C2,C3,C4,C5,C6,C7,C8,C9,Da,Db,Dc,Dd,De,Dg,Dh,Di,Dj,Dk,Dl,Dm,Dn,Dp,Dq,Dr,Ds,Dt,Du,Dv,Dw,Dx,Dy,D0,D1,D3,D4,D5,D6,D7,D8,D9,Ee,Ef,Ei],[]⟩ w0:=by
 conv=>arg 2;whnf
 obtain ⟨i3,hi3,hz30,hz31,hz32⟩:=info_parts T.info3
 obtain ⟨fb,fo,rfl,hfb,e0,e1,e2⟩:=hrd.fd hjl hj
 have hjz:(j:Int)<fn:=by omega
 have hjz0:(0:Int)<=j:=by omega
 have HNX:=hid next_any
 have HFL:Hid (f.bits.toNat=f.bits.toNat):=hid rfl
 generalize f.nm=fnm at *
 obtain ⟨bt,hbt⟩:∃ bt:Nat,f.bits=bt:=⟨f.bits.toNat,by omega⟩
 generalize hlo:f.low=lo at *
 rw [hbt] at e1 hfok hN
 rw [Int.toNat_natCast] at hN
 have p1:=pow2_one bt
 have p2:=pow2_32 bt (by omega)
 obtain ⟨M,hM⟩:∃ M,M=(2:Int)^bt:=⟨_,rfl⟩
 rw [<- hM] at p1 p2 hN
 have hsh:wrap64 ((2:Int)^bt)=M:=by rw [<- hM];exact wrap_small (Int.le_trans (by decide) p1) (Int.le_trans p2 (by decide))
 have hsh2:IntKind.i64.wrap ((2:Int)^bt)=M:=by rw [<- hM];exact wrap_small2 (Int.le_trans (by decide) p1) (Int.le_trans p2 (by decide))
 have HM:=hid hM
 clear hM
 have HP:=hid (And.intro p1 p2)
 have hb32:bt<=32:=by omega
 have hb0:(0:Int)<=bt:=by omega
 have hlo1 : -4294967296<=lo:=hfok.2.2.1
 have hlo2:lo<=4294967296:=hfok.2.2.2
 clear hfok p1 p2 hbt hlo hrd hj hfb HFL
 obtain ⟨w5,hw5⟩:∃ w5,w5=w0.alloc (.cells #[.string fnm,.int i64 bt,.int i64 lo] 66):=⟨_,rfl⟩
 obtain ⟨hf,hhf⟩:∃ z,z=w0.heap.size:=⟨_,rfl⟩
 have HB5:Hid (Below w0.heap.size w0 w5):=hid (by rw [hw5];exact (Below.refl _ _).alloc (Nat.le_refl _) _)
 have hh5:Bk w5 hf 66 #[.string fnm,.int i64 bt,.int i64 lo]:=by rw [hw5,hhf];exact Bk.new _ _ _
 have hs5:StrSt w5 B s:=hst.below HB5.out (hst.lo hB)
 have hv5:Bk w5 cA 166 #[.int i64 (i:Int),.slice VA j vc]:=hc.below HB5.out hc.lt
 have how5:w5.ownsRow base 3 1 (.slice VA j vc) j (vs.map (Value.int .i64)):=(Kx.of_below (B:=0) (F:=[]) HB5.out).own ho (by simp)
 have hbs:B<=w0.heap.size:=hst.lo hB
 obtain ⟨scs,hsk⟩:=hs5.bk
 have hfs:hf≠s:=hh5.ne_ hsk (by decide)
 have hcs:cA≠s:=hv5.ne_ hsk (by decide)
 have HRS:Hid (∀ g,(Value.slice VA j vc).ownBlock=some g->g≠s):=hid fun g hg e=>own_ne how5 hsk (by decide) (by rw [hg,e])
 have HSZ5:Hid (base<=w5.heap.size):=hid (Nat.le_trans hbase HB5.out.size)
 clear hst hc ho hsk
 go_upto_region 17 with fail
 rw [<- hw5,<- hhf]
 clear hw5 hhf e0 e1 e2
 have d1:w5.cell? ⟨hf,1,none⟩=some (.int i64 bt):=hh5.cell 1
 have d2:w5.cell? ⟨hf,2,none⟩=some (.int i64 lo):=hh5.cell 2
 have d3:w5.cell? ⟨cA,1,none⟩=some (.slice VA j vc):=hv5.cell 1
 have HH5:=hid hh5
 have HV5:=hid hv5
 have HO5:=hid how5
 have HS5:=hid hs5
 clear hh5 hv5 how5 hs5
 refine wp_region_noPanic ?_
 go_region_law
  (first
   | (go_simp
      go_at_call 98
      (with_reducible refine (HNX.out s B M _ (HS5.out.below (w':=w5.drew) (Below.refl _ _).drew (HS5.out.lo hB)) hB HP.out.1 ?hM).mono ?_)
      case hM=>(have h:=HP.out.2;omega)
      rintro e w6 ⟨v6,rfl,hv60,hv61,hst6,hg6⟩
      have hh6:=HH5.out.drew.grown hg6 (fun e=>by injection e with e;omega)
      have hv6:=HV5.out.drew.grown hg6 (fun e=>by injection e with e;omega)
      have hwv:IntKind.i64.wrap (lo+v6)=lo+v6:=by (have h:=HP.out.2;exact wrap_small2 (by omega) (by omega))
      have g1:w6.cell? ⟨hf,1,none⟩=some (.int i64 bt):=hh6.cell 1
      have g2:w6.cell? ⟨hf,2,none⟩=some (.int i64 lo):=hh6.cell 2
      have g3:w6.cell? ⟨cA,1,none⟩=some (.slice VA j vc):=hv6.cell 1
      have g4:(w6.alloc (.cells #[.int i64 (lo+v6)] 3)).cell? ⟨cA,1,none⟩=some (.slice VA j vc):=(hv6.alloc _).cell 1
      have how6:w6.ownsRow base 3 1 (.slice VA j vc) j (vs.map (Value.int .i64)):=own_keepB HO5.out fun g hg=>hg6.block g (HO5.out.lt g hg).2 (fun e=>by injection e with e;exact HRS.out g hg e))
   | (refine step_append_one rfl (.tmp 64) (.tmp 73) 30 rfl base 3 i3 (.int i64 0) 1 8 Try.underlying30 hi3 hz30 hz31 hz32 rfl (by decide) (.slice VA j vc) j (vs.map (Value.int .i64)) rfl (World.ownsRow.alloc (w:=w6) how6 _) w6.heap.size 1 3 #[.int i64 (lo+v6)] rfl (Bk.new w6 _ _) rfl ?c1 (j+1) rfl ?c2 ?c3 ?c4 ?_
      case c1=>simp [Value.oneCell']
      case c2=>unfold maxLen;omega
      case c3=>omega
      case c4=>(have h1:=hg6.size;have h2:=HSZ5.out;simp at h1;simp;omega)
      intro g7 c7 w7 hown7 hg7 hat7
      have hv7:=(hv6.alloc (.cells #[.int i64 (lo+v6)] 3)).grown hg7 (fun e=>own_ne how6 hv6 (by decide) e.symm)
      have e3:w7.cell? ⟨cA,1,none⟩=some (.slice VA j vc):=hv7.cell 1
      have f3:w7.frozen? ⟨cA,1,none⟩=false:=hv7.frozen 1))
 all_goals
  obtain ⟨scs5,hsk5⟩:=HS5.out.bk
  have hk6:Kx B [189,3,166] w0 w6:=((Kx.of_below HB5.out).drew.trans ((Kx.grownS hsk5.drew hg6 hB).mono (Nat.le_refl _) (by simp)))
  have hkx:Kx B [3,166] w6 (w7.setCell ⟨cA,1,none⟩ (.slice (some ⟨g7,0,none⟩) (j+1) c7)):=(((Kx.refl (B:=B)).alloc _).grown (World.ownsRow.alloc (w:=w6) how6 _) hg7 hBb (by simp)).set hv7 (by omega) (by simp) 1 _
  have hfq:Fq [s] wI (w7.setCell ⟨cA,1,none⟩ (.slice (some ⟨g7,0,none⟩) (j+1) c7)):=((((((hQ.trans (Fq.of_below HB5.out) (SubF.refl _ _)).drew).grown hg6 (fun g hg=>.inl (by injection hg with hg;simp [hg]))).alloc _).grown hg7 (fun g hg=>.inr (by have:=(how6.lt g hg).1;omega))).set (.inr (by omega)) 1 _)
  have hkn:Kx B [189,3,166] w0 (w7.setCell ⟨cA,1,none⟩ (.slice (some ⟨g7,0,none⟩) (j+1) c7)):=hk6.trans (hkx.mono (Nat.le_refl _) (by simp))
  have HF:Hid (0<=v6/\v6<M/\StrSt (w7.setCell ⟨cA,1,none⟩ (.slice (some ⟨g7,0,none⟩) (j+1) c7)) B s/\Bk (w7.setCell ⟨cA,1,none⟩ (.slice (some ⟨g7,0,none⟩) (j+1) c7)) cA 166 #[.int i64 (i:Int),.slice (some ⟨g7,0,none⟩) (j+1) c7]/\(w7.setCell ⟨cA,1,none⟩ (.slice (some ⟨g7,0,none⟩) (j+1) c7)).ownsRow base 3 1 (.slice (some ⟨g7,0,none⟩) (j+1) c7) (j+1) ((vs++[lo+v6]).map (Value.int .i64))/\Fq [s] wI (w7.setCell ⟨cA,1,none⟩ (.slice (some ⟨g7,0,none⟩) (j+1) c7))/\Kx B [189,3,166] w0 (w7.setCell ⟨cA,1,none⟩ (.slice (some ⟨g7,0,none⟩) (j+1) c7))):=hid
   ⟨hv60,hv61,hst6.kx hkx (Nat.le_refl _) (hst6.lo hB) (by decide),by simpa using hv7.set_ 1 (.slice (some ⟨g7,0,none⟩) (j+1) c7),by rw [List.map_append];exact own_far hown7 hv7 (by decide) 1 _,hfq,hkn⟩
  clear hkx hkn hk6 hown7 hg7 hat7 hv7 e3 f3 how6 g1 g2 g3 g4 hh6 hv6 hst6 hg6 hwv d1 d2 d3 hsk5
  (try refine NoPanic.normal ?_)
  (try simp only [Exit.inBlock])
  first
   | exact HF
   | (apply hN;exact HF)
def InR (fds:List Fd) (vs:List Int):Prop:=vs.length=fds.length/\∀ t f,fds[t]?=some f->f.low<=vs.getD t 0/\vs.getD t 0<f.low+2^f.bits.toNat
theorem InR.hold {nm:ByteArray} {fds:List Fd} {vs:List Int} (h:InR fds vs) (h1:oneF nm fds=0):holdK (nm,fds) vs=true:=hold_of h1 h.1 h.2
theorem InR.place {vs:List Int} (h:InR kf_p vs) {a b:Int} (ha:0<=a/\a<9) (hb:0<=b/\b<9):InR kf_p ((vs.set 0 ((a-4)*65536)).set 1 ((b-4)*65536)):=by
 obtain ⟨hl,hr⟩:=h
 have hl3:vs.length=3:=hl
 match vs,hl3 with
 | [x,y,z],_ =>
   refine ⟨rfl,fun t f hf=>?_⟩
   match t with
   | 0 =>
     have e:f=⟨⟨#[120]⟩,26,(-33554432)⟩:=by simpa [kf_p] using hf.symm
     subst e
     show (-33554432:Int)<=(a-4)*65536/\(a-4)*65536 < -33554432+2^(26:Int).toNat
     have e2:(2:Int)^(26:Int).toNat=67108864:=by decide
     rw [e2]
     omega
   | 1 =>
     have e:f=⟨⟨#[121]⟩,26,(-33554432)⟩:=by simpa [kf_p] using hf.symm
     subst e
     show (-33554432:Int)<=(b-4)*65536/\(b-4)*65536 < -33554432+2^(26:Int).toNat
     have e2:(2:Int)^(26:Int).toNat=67108864:=by decide
     rw [e2]
     omega
   | 2=>exact hr 2 f hf
   | (n+3)=>simp [kf_p] at hf
noncomputable def vdLoop:Code:=(Try.f54.body.bind (blkN 4)).getD .skip
set_option maxHeartbeats 8000000 in
theorem vdLoop_any {x0 x1 x2 x3 x4 x6 x7 x8 x9 Aa Ac Ad Ae Af Ag Ah Ai Aj Ak Al Am Ao Ap Aq Ar Au Av Aw Ax Ay Az A7 A9 Be Bl Bu Bv Bw B0 B1 B2 B3 B4 B5 B6 B7 B8 B9 Cg Ch Ci Cj Ck Cp Cq Cw Cx Cy Cz C0 C1 C2 C3 C4 C5 C6 C7 C8 C9 Da Db Dc Dd De Dg Dh Di Dj Dk Dl Dm Dn Dp Dq Dr Ds Dt Du Dv Dw Dx Dy D0 D1 D3 D4 D5 D6 D7 D8 D9 Ee Ef Ei:Value} {Q:Exit->Act->World->Prop} {wI w0:World} {B base s cA fn fc i:Nat} {fA:Option Addr} {fds:List Fd}
 (hst:StrSt w0 B s) (hB:B<=s) (hrd:RdY w0 B 66 3 fA fn (fdCs fds)) (hfl:fn=fds.length) (hfn:fn<=fc) (hfc:fc<=9223372036854775807) (hfok:∀ f∈fds,fieldF f=0) (h8:fn<=8)
 (hc:Bk w0 cA 166 #[.int i64 (i:Int),.slice none 0 0]) (hBb:B<=base) (hbase:base<=w0.heap.size) (hcA:base<=cA) (hQ:Fq [s] wI w0) (hI:wI.heap.size<=base)
 (hN:∀ (Ho Jh Ji Jj Jk Jl Jm Jn Jo Jp Jq Jr Js Jt Ju Jv Jw Jx:Value) (vs:List Int) (VA:Option Addr) (vc:Nat) (w':World),Hid (InR fds vs/\StrSt w' B s/\Bk w' cA 166 #[.int i64 (i:Int),.slice VA fn vc]/\w'.ownsRow base 3 1 (.slice VA fn vc) fn (vs.map (Value.int .i64))/\Fq [s] wI w'/\Kx B [189,3,166] w0 w')->Q .normal ⟨#[x0,x1,x2,x3,x4,.pointer (some ⟨s,0,none⟩),x6,x7,x8,x9,Aa,.pointer (some ⟨cA,0,none⟩),Ac,Ho,Ae,Af,Ag,Ah,Ai,Aj,Ak,Al,Am,Ao,Ap,Aq,Ar,Au,Av,Aw,Ax,Ay,Az,A7,A9,Be,Bl,Bu,Bv,Bw,B0,B1,B2,B3,B4,B5,B6,B7,B8,B9,Cg,Ch,Ci,Cj,Ck,Cp,Cq,.slice fA fn fc,.int i64 (fn:Int),.int i64 (fn:Int),Jh,Ji,Jj,Jk,Jl,Jm,Jn,Jo,Jp,Jq,Jr,Js,Jt,Ju,Jv,Jw,Jx,Dd,De,Dg,Dh,Di,Dj,Dk,Dl,Dm,Dn,Dp,Dq,Dr,Ds,Dt,Du,Dv,Dw,Dx,Dy,D0,D1,D3,D4,D5,D6,D7,D8,D9,Ee,Ef,Ei],[]⟩ w') :
 Code.wp Try.prog vdLoop Q ⟨#[x0,x1,x2,x3,x4,.pointer (some ⟨s,0,none⟩),x6,x7,x8,x9,Aa,.pointer (some ⟨cA,0,none⟩),Ac,Ad,Ae,Af,Ag,Ah,Ai,Aj,Ak,Al,Am,Ao,Ap,Aq,Ar,Au,Av,Aw,Ax,Ay,Az,A7,A9,Be,Bl,Bu,Bv,Bw,B0,B1,B2,B3,B4,B5,B6,B7,B8,B9,Cg,Ch,Ci,Cj,Ck,Cp,Cq,.slice fA fn fc,.int i64 (fn:Int),.int i64 0,Cw,Cx,Cy,Cz,C0,C1,C2,C3,C4,C5,C6,C7,C8,C9,Da,Db,Dc,Dd,De,Dg,Dh,Di,Dj,Dk,Dl,Dm,Dn,Dp,Dq,Dr,Ds,Dt,Du,Dv,Dw,Dx,Dy,D0,D1,D3,D4,D5,D6,D7,D8,D9,Ee,Ef,Ei],[]⟩ w0:=by
 conv=>arg 2;whnf
 have HRD:=hid hrd
 have HST:=hid hst
 have HC:=hid hc
 have HOK:=hid hfok
 have HFL:=hid hfl
 clear hrd hst hc hfok hfl
 go_wp2_with fail
 go_loopw [59] (fun jv wx=>∃ (j vc:Nat) (VA:Option Addr) (vs:List Int),j<=fn/\jv=.int i64 j/\Hid (StrSt wx B s/\Bk wx cA 166 #[.int i64 (i:Int),.slice VA j vc]/\wx.ownsRow base 3 1 (.slice VA j vc) j (vs.map (Value.int .i64))/\vs.length=j/\(∀ t f,t<j->fds[t]?=some f->f.low<=vs.getD t 0/\vs.getD t 0<f.low+2^f.bits.toNat)/\Fq [s] wI wx/\Kx B [189,3,166] w0 wx)) (fun jv _=>fn-(intOf jv).toNat)
 case atStart=>exact ⟨0,0,none,[],Nat.zero_le _,rfl,hid ⟨HST.out,HC.out,World.ownsRow_nil _ _ _ _,rfl,(fun t f ht=>by omega),hQ,Kx.refl⟩⟩
 case round =>
  obtain ⟨j,vc,VA,vs,hj,rfl,HV⟩:=hrel
  by_cases hjl:j<fn
  . obtain ⟨f,hf⟩:∃ f,fds[j]?=some f:=⟨_,List.getElem?_eq_getElem (by have:=HFL.out;omega)⟩
    have HF:=hid hf
    have hjz:(j:Int)<fn:=by omega
    have HRr:=hid ((HRD.out.keep HV.out.2.2.2.2.2.2 (by decide)).rd)
    have HFK:=hid (field_ok (HOK.out f (List.mem_of_getElem? hf)))
    have HSZ:Hid (base<=wr.heap.size):=hid (Nat.le_trans hbase HV.out.2.2.2.2.2.2.size)
    clear hf
    go_upto_if 60 with fail
    first
     | (go_step;refine vdOne_any HV.out.1 hB HRr.out hfn hfc HF.out hjl HFK.out (by omega) HV.out.2.1 HV.out.2.2.1 hBb HSZ.out hcA HV.out.2.2.2.2.2.1 hI ?_)
     | (go_step;go_step;refine vdOne_any HV.out.1 hB HRr.out hfn hfc HF.out hjl HFK.out (by omega) HV.out.2.1 HV.out.2.2.1 hBb HSZ.out hcA HV.out.2.2.2.2.2.1 hI ?_)
     | (go_step;go_step;go_step;refine vdOne_any HV.out.1 hB HRr.out hfn hfc HF.out hjl HFK.out (by omega) HV.out.2.1 HV.out.2.2.1 hBb HSZ.out hcA HV.out.2.2.2.2.2.1 hI ?_)
     | (go_step;go_step;go_step;go_step;refine vdOne_any HV.out.1 hB HRr.out hfn hfc HF.out hjl HFK.out (by omega) HV.out.2.1 HV.out.2.2.1 hBb HSZ.out hcA HV.out.2.2.2.2.2.1 hI ?_)
     | (go_step;go_step;go_step;go_step;go_step;refine vdOne_any HV.out.1 hB HRr.out hfn hfc HF.out hjl HFK.out (by omega) HV.out.2.1 HV.out.2.2.1 hBb HSZ.out hcA HV.out.2.2.2.2.2.1 hI ?_)
    intros
    rename_i v g7 c7 w7 H7
    have HVN:Hid (StrSt w7 B s/\Bk w7 cA 166 #[.int i64 (i:Int),.slice (some ⟨g7,0,none⟩) (j+1) c7]/\w7.ownsRow base 3 1 (.slice (some ⟨g7,0,none⟩) (j+1) c7) (j+1) ((vs++[f.low+v]).map (Value.int .i64))/\(vs++[f.low+v]).length=j+1/\(∀ t g,t<j+1->fds[t]?=some g->g.low<=(vs++[f.low+v]).getD t 0/\(vs++[f.low+v]).getD t 0<g.low+2^g.bits.toNat)/\Fq [s] wI w7/\Kx B [189,3,166] w0 w7):=hid
     ⟨H7.out.2.2.1,H7.out.2.2.2.1,H7.out.2.2.2.2.1,by rw [List.length_append,HV.out.2.2.2.1];rfl,mk_range (bt:=f.bits.toNat) HV.out.2.2.2.1 HV.out.2.2.2.2.1 HF.out (by have:=HFK.out;omega) rfl rfl H7.out.1 H7.out.2.1,H7.out.2.2.2.2.2.1,HV.out.2.2.2.2.2.2.trans H7.out.2.2.2.2.2.2⟩
    clear HV H7 HRr HFK HF HSZ
    go_wp2_with fail
    go_roundw
    case rel=>exact ⟨j+1,c7,some ⟨g7,0,none⟩,vs++[f.low+v],by omega,by go_num,HVN⟩
    case measure=>simp [intOf];omega
  . obtain rfl:fn=j:=by omega
    have HR:Hid (InR fds vs/\StrSt wr B s/\Bk wr cA 166 #[.int i64 (i:Int),.slice VA fn vc]/\wr.ownsRow base 3 1 (.slice VA fn vc) fn (vs.map (Value.int .i64))/\Fq [s] wI wr/\Kx B [189,3,166] w0 wr):=hid ⟨⟨by rw [HV.out.2.2.2.1];exact HFL.out,fun t f hf=>HV.out.2.2.2.2.1 t f (by have h1:=(List.getElem?_eq_some_iff.1 hf).1;have h2:=HFL.out;omega) hf⟩,HV.out.1,HV.out.2.1,HV.out.2.2.1,HV.out.2.2.2.2.2⟩
    clear HV
    go_wp2_with fail
    (try simp only [Exit.inBlock,Exit.then])
    first
     | exact HR
     | (apply hN;exact HR)
noncomputable def vdR20:Code:=(Try.f54.body.bind (rgnN 20)).getD .skip
theorem own_setB {w:World} {base n c g j:Nat} {e:TypeId} {xs:List Value} (h:w.ownsRow base e 1 (.slice (some ⟨g,0,none⟩) n c) n xs) (hj:j<n) (u:Value):(w.setCell ⟨g,j,none⟩ u).ownsRow base e 1 (.slice (some ⟨g,0,none⟩) n c) n (xs.set j u):=by
 refine ⟨by rw [List.length_set];exact h.1,?_⟩
 rcases h.2 with ⟨hv,hn⟩ | ⟨g',cap,cur,hv,h3,h4,h5,h6,h7,h8⟩
 . omega
 . injection hv with h1 h2 h3'
   injection h1 with h1
   injection h1 with h1
   subst h1 h3'
   refine .inr ⟨g,c,cur.setIfInBounds j u,rfl,h3,Bk.set_ (show Bk w g e cur from h4) j u,h5,h6,by rw [Array.size_setIfInBounds];exact h7,?_⟩
   rw [Array.toList_setIfInBounds,<- h8,List.take_set]
theorem own_cellB {w:World} {base n c g j:Nat} {e:TypeId} {xs:List Value} (h:w.ownsRow base e 1 (.slice (some ⟨g,0,none⟩) n c) n xs) (hj:j<n):(∃ u,w.cell? ⟨g,j,none⟩=some u)/\w.frozen? ⟨g,j,none⟩=false:=by
 rcases h.2 with ⟨hv,hn⟩ | ⟨g',cap,cur,hv,h3,h4,h5,h6,h7,h8⟩
 . omega
 . injection hv with h1 h2 h3'
   injection h1 with h1
   injection h1 with h1
   subst h1 h3'
   have hb:Bk w g e cur:=h4
   exact ⟨⟨_,(hb.cell j).trans (Array.getElem?_eq_getElem (by omega))⟩,hb.frozen j⟩
set_option maxHeartbeats 8000000 in
theorem vdPlace_any {x0 x1 x2 x3 x4 x6 x7 x8 x9 Aa Ac Ad Ae Af Ag Ah Ai Aj Ak Al Am Ao Ap Aq Ar Au Av Aw Ax Ay Az A7 A9 Be Bl Bu Bv Bw B0 B1 B2 B3 B4 B5 B6 B7 B8 B9 Cg Ch Ci Cj Ck Cp Cq Cr Cs Cu Cw Cx Cy Cz C0 C1 C2 C3 C4 C5 C6 C7 C8 C9 Da Db Dc Dd De Dg Dh Di Dj Dk Dl Dm Dn Dp Dq Dr Ds Dt Du Dv Dw Dx Dy D0 D1 D3 D4 D5 D6 D7 D8 D9 Ee Ef Ei:Value} {Q:Exit->Act->World->Prop} {wI w0:World} {B base s cA i vc:Nat} {VA:Option Addr} {vs:List Int}
 (hst:StrSt w0 B s) (hB:B<=s) (hc:Bk w0 cA 166 #[.int i64 (i:Int),.slice VA 3 vc]) (ho:w0.ownsRow base 3 1 (.slice VA 3 vc) 3 (vs.map (Value.int .i64))) (hv:InR kf_p vs) (hBb:B<=base) (hQ:Fq [s] wI w0) (hI:wI.heap.size<=base)
 (hN:∀ (J2 J3 J4 J5 J6 J7 J8 J9 Kk Kq Ks Kt Ku Kv:Value) (vs2:List Int) (w':World),Hid (InR kf_p vs2/\StrSt w' B s/\Bk w' cA 166 #[.int i64 (i:Int),.slice VA 3 vc]/\w'.ownsRow base 3 1 (.slice VA 3 vc) 3 (vs2.map (Value.int .i64))/\Fq [s] wI w'/\Kx B [189,3] w0 w')->Q .normal ⟨#[x0,x1,x2,x3,x4,.pointer (some ⟨s,0,none⟩),x6,x7,x8,x9,Aa,.pointer (some ⟨cA,0,none⟩),Ac,Ad,Ae,Af,Ag,Ah,Ai,Aj,Ak,Al,Am,Ao,Ap,Aq,Ar,Au,Av,Aw,Ax,Ay,Az,A7,A9,Be,Bl,Bu,Bv,Bw,B0,B1,B2,B3,B4,B5,B6,B7,B8,B9,Cg,Ch,Ci,Cj,Ck,Cp,Cq,Cr,Cs,Cu,Cw,Cx,Cy,Cz,C0,C1,C2,C3,C4,C5,C6,C7,C8,C9,Da,Db,Dc,Dd,De,Dg,J2,J3,J4,J5,J6,J7,J8,J9,Kk,Kq,Ks,Kt,Ku,Kv,Dw,Dx,Dy,D0,D1,D3,D4,D5,D6,D7,D8,D9,Ee,Ef,Ei],[]⟩ w') :
 Code.wp Try.prog vdR20 Q ⟨#[x0,x1,x2,x3,x4,.pointer (some ⟨s,0,none⟩),x6,x7,x8,x9,Aa,.pointer (some ⟨cA,0,none⟩),Ac,Ad,Ae,Af,Ag,Ah,Ai,Aj,Ak,Al,Am,Ao,Ap,Aq,Ar,Au,Av,Aw,Ax,Ay,Az,A7,A9,Be,Bl,Bu,Bv,Bw,B0,B1,B2,B3,B4,B5,B6,B7,B8,B9,Cg,Ch,Ci,Cj,Ck,Cp,Cq,Cr,Cs,Cu,Cw,Cx,Cy,Cz,C0,C1,C2,C3,C4,C5,C6,C7,C8,C9,Da,Db,Dc,Dd,De,Dg,Dh,Di,Dj,Dk,Dl,Dm,Dn,Dp,Dq,Dr,Ds,Dt,Du,Dv,Dw,Dx,Dy,D0,D1,D3,D4,D5,D6,D7,D8,D9,Ee,Ef,Ei],[]⟩ w0:=by
 conv=>arg 2;whnf
 obtain ⟨g,rfl⟩:∃ g,VA=some ⟨g,0,none⟩:=by
  obtain ⟨g,cap,hvv,_,_⟩:=ho.form (by omega)
  injection hvv with h1
  exact ⟨g,h1⟩
 have HNX:=hid next_any
 have hbs:B<=w0.heap.size:=hst.lo hB
 obtain ⟨scs,hsk⟩:=hst.bk
 have hgc:g≠cA:=fun e=>own_ne ho hc (by decide) (by rw [<- e];rfl)
 have hgs:g≠s:=fun e=>own_ne ho hsk (by decide) (by rw [<- e];rfl)
 have hcs:cA≠s:=hc.ne_ hsk (by decide)
 have hgI:wI.heap.size<=g:=Nat.le_trans hI (ho.lt g rfl).1
 have hgB:B<=g:=Nat.le_trans hBb (ho.lt g rfl).1
 obtain ⟨u0,hu0⟩:∃ z,z=w0.drew:=⟨_,rfl⟩
 have HC0:Hid (Bk u0 cA 166 #[.int i64 (i:Int),.slice (some ⟨g,0,none⟩) 3 vc]):=hid (by rw [hu0];exact hc.drew)
 have HO0:Hid (u0.ownsRow base 3 1 (.slice (some ⟨g,0,none⟩) 3 vc) 3 (vs.map (Value.int .i64))):=hid (by rw [hu0];exact (Kx.refl (B:=0) (F:=[])).drew.own ho (by simp))
 have HS0:Hid (StrSt u0 B s):=hid (by rw [hu0];exact hst.below (Below.refl _ _).drew hbs)
 have HK0:Hid (Kx B [189,3] w0 u0):=hid (by rw [hu0];exact Kx.refl.drew)
 have HQ0:Hid (Fq [s] wI u0):=hid (by rw [hu0];exact hQ.drew)
 have HV:=hid hv
 clear hst hc ho hsk hv
 refine wp_region_noPanic ?_
 refine wp_region_H (S:=fun wz=>wz.cell? ⟨cA,1,none⟩=some (.slice (some ⟨g,0,none⟩) 3 vc)) (by kernel_rfl) ?_
 rw [<- hu0]
 clear hu0
 refine wpH 0 (.pointer (some ⟨cA,1,none⟩)) 80 (HC0.out.cell 1) ?_
 (try simp only [sP])
 refine wpH 1 (.slice (some ⟨g,0,none⟩) 3 vc) 81 (HC0.out.cell 1) ?_
 (try simp only [sP])
 refine wpH 2 (.pointer (some ⟨cA,1,none⟩)) 82 (HC0.out.cell 1) ?_
 (try simp only [sP])
 refine wpH 3 (.slice (some ⟨g,0,none⟩) 3 vc) 83 (HC0.out.cell 1) ?_
 (try simp only [sP])
 refine wpH 4 (.pointer (some ⟨s,0,none⟩)) 84 (HC0.out.cell 1) ?_
 (try simp only [sP])
 refine wpH 8 (.pointer (some ⟨s,0,none⟩)) 88 (HC0.out.cell 1) ?_
 (try simp only [sP])
 refine wpAnyH_oneW (i:=5) rfl (by kernel_rfl) (by rfl) ?_
 go_simp
 go_at_call 98
 (with_reducible refine (HNX.out s B 9 _ HS0.out hB (by omega) (by omega)).mono ?_)
 rintro e u1 ⟨a,rfl,a0,a1,hst6,hg6⟩
 have HC1:Hid (Bk u1 cA 166 #[.int i64 (i:Int),.slice (some ⟨g,0,none⟩) 3 vc]):=hid (HC0.out.grown hg6 (fun e=>by injection e with e;omega))
 have HO1:Hid (u1.ownsRow base 3 1 (.slice (some ⟨g,0,none⟩) 3 vc) 3 (vs.map (Value.int .i64))):=hid (own_keepB HO0.out fun b hb=>hg6.block b (HO0.out.lt b hb).2 (fun e=>by injection e with e;have hb:g=b:=(by simpa [Value.ownBlock] using hb);omega))
 have HK1:Hid (Kx B [189,3] w0 u1):=hid (HK0.out.trans ((Kx.grownS (HS0.out.bk.choose_spec) hg6 hB).mono (Nat.le_refl _) (by simp)))
 have HS1:=hid hst6
 have hwaa:IntKind.i64.wrap (a-4)=a-4:=wrap_small2 (by omega) (by omega)
 have hwba:IntKind.i64.wrap ((a-4)*65536)=(a-4)*65536:=wrap_small2 (by omega) (by omega)
 have HQ1:Hid (Fq [s] wI u1):=hid (HQ0.out.grown hg6 (fun g hg=>.inl (by injection hg with hg;simp [hg])))
 clear hst6 hg6
 refine And.intro (HC1.out.cell 1) ?_
 (try simp only [sP])
 refine wpH 6 (.int i64 (a-4)) 86 (HC1.out.cell 1) ?_
 (try simp only [sP])
 refine wpH 7 (.int i64 ((a-4)*65536)) 87 (HC1.out.cell 1) ?_
 (try simp only [sP])
 refine wpAnyH_oneW (i:=9) rfl (by kernel_rfl) (by rfl) ?_
 go_simp
 go_at_call 98
 (with_reducible refine (HNX.out s B 9 _ HS1.out hB (by omega) (by omega)).mono ?_)
 rintro e u2 ⟨b,rfl,b0,b1,hst6,hg6⟩
 have HC2:Hid (Bk u2 cA 166 #[.int i64 (i:Int),.slice (some ⟨g,0,none⟩) 3 vc]):=hid (HC1.out.grown hg6 (fun e=>by injection e with e;omega))
 have HO2:Hid (u2.ownsRow base 3 1 (.slice (some ⟨g,0,none⟩) 3 vc) 3 (vs.map (Value.int .i64))):=hid (own_keepB HO1.out fun b hb=>hg6.block b (HO1.out.lt b hb).2 (fun e=>by injection e with e;have hb:g=b:=(by simpa [Value.ownBlock] using hb);omega))
 have HK2:Hid (Kx B [189,3] w0 u2):=hid (HK1.out.trans ((Kx.grownS (HS1.out.bk.choose_spec) hg6 hB).mono (Nat.le_refl _) (by simp)))
 have HS2:=hid hst6
 have hwab:IntKind.i64.wrap (b-4)=b-4:=wrap_small2 (by omega) (by omega)
 have hwbb:IntKind.i64.wrap ((b-4)*65536)=(b-4)*65536:=wrap_small2 (by omega) (by omega)
 have HQ2:Hid (Fq [s] wI u2):=hid (HQ1.out.grown hg6 (fun g hg=>.inl (by injection hg with hg;simp [hg])))
 clear hst6 hg6
 refine And.intro (HC2.out.cell 1) ?_
 (try simp only [sP])
 refine wpH 10 (.int i64 (b-4)) 90 (HC2.out.cell 1) ?_
 (try simp only [sP])
 refine wpH 11 (.int i64 ((b-4)*65536)) 91 (HC2.out.cell 1) ?_
 (try simp only [sP])
 refine wpH 12 (.pointer (some ⟨g,0,none⟩)) 92 (HC2.out.cell 1) ?_
 (try simp only [sP])
 have hbs2:B<=u2.heap.size:=HS2.out.lo hB
 obtain ⟨⟨q13,c13⟩,f13⟩:=own_cellB HO2.out (j:=0) (by omega)
 refine wpAnyH_oneW (i:=13) rfl (by kernel_rfl) (by rfl) ?_
 go_simp
 obtain ⟨u3,hu3⟩:∃ z,z=u2.setCell ⟨g,0,none⟩ (.int i64 ((a-4)*65536)):=⟨_,rfl⟩
 have HC3:Hid (Bk u3 cA 166 #[.int i64 (i:Int),.slice (some ⟨g,0,none⟩) 3 vc]):=hid (by rw [hu3];exact HC2.out.far (p:=⟨g,0,none⟩) (Ne.symm hgc) _)
 have HO3:Hid (u3.ownsRow base 3 1 (.slice (some ⟨g,0,none⟩) 3 vc) 3 ((vs.set 0 ((a-4)*65536)).map (Value.int .i64))):=hid (by rw [hu3,List.map_set];exact own_setB HO2.out (by omega) _)
 have HS3:Hid (StrSt u3 B s):=hid (HS2.out.kx (B':=B) (F:=[3]) (by rw [hu3];obtain ⟨cs,hk⟩:=own_ty HO2.out (g:=g) rfl;exact Kx.refl.set hk hgB (by simp) 0 _) (Nat.le_refl _) hbs2 (by decide))
 have HK3:Hid (Kx B [189,3] w0 u3):=hid (by rw [hu3];obtain ⟨cs,hk⟩:=own_ty HO2.out (g:=g) rfl;exact HK2.out.set hk hgB (by simp) 0 _)
 have HQ3:Hid (Fq [s] wI u3):=hid (by rw [hu3];exact HQ2.out.set (.inr hgI) 0 _)
 rw [<- hu3]
 clear hu3 c13 f13
 refine And.intro (HC2.out.cell 1) ?_
 (try simp only [sP])
 have hbs3:B<=u3.heap.size:=HS3.out.lo hB
 refine wpH 14 (.pointer (some ⟨g,1,none⟩)) 93 (HC3.out.cell 1) ?_
 (try simp only [sP])
 obtain ⟨⟨q15,c15⟩,f15⟩:=own_cellB HO3.out (j:=1) (by omega)
 refine wpAnyH_oneW (i:=15) rfl (by kernel_rfl) (by rfl) ?_
 go_simp
 obtain ⟨u4,hu4⟩:∃ z,z=u3.setCell ⟨g,1,none⟩ (.int i64 ((b-4)*65536)):=⟨_,rfl⟩
 have HC4:Hid (Bk u4 cA 166 #[.int i64 (i:Int),.slice (some ⟨g,0,none⟩) 3 vc]):=hid (by rw [hu4];exact HC3.out.far (p:=⟨g,1,none⟩) (Ne.symm hgc) _)
 have HO4:Hid (u4.ownsRow base 3 1 (.slice (some ⟨g,0,none⟩) 3 vc) 3 (((vs.set 0 ((a-4)*65536)).set 1 ((b-4)*65536)).map (Value.int .i64))):=hid (by rw [hu4,List.map_set];exact own_setB HO3.out (by omega) _)
 have HS4:Hid (StrSt u4 B s):=hid (HS3.out.kx (B':=B) (F:=[3]) (by rw [hu4];obtain ⟨cs,hk⟩:=own_ty HO3.out (g:=g) rfl;exact Kx.refl.set hk hgB (by simp) 1 _) (Nat.le_refl _) hbs3 (by decide))
 have HK4:Hid (Kx B [189,3] w0 u4):=hid (by rw [hu4];obtain ⟨cs,hk⟩:=own_ty HO3.out (g:=g) rfl;exact HK3.out.set hk hgB (by simp) 1 _)
 have HQ4:Hid (Fq [s] wI u4):=hid (by rw [hu4];exact HQ3.out.set (.inr hgI) 1 _)
 rw [<- hu4]
 clear hu4 c15 f15
 refine And.intro (HC3.out.cell 1) ?_
 (try simp only [sP])
 refine wpAnyH_done (by kernel_rfl) ?_ _
 refine NoPanic.normal ?_
 have HF:Hid (InR kf_p ((vs.set 0 ((a-4)*65536)).set 1 ((b-4)*65536))/\StrSt u4 B s/\Bk u4 cA 166 #[.int i64 (i:Int),.slice (some ⟨g,0,none⟩) 3 vc]/\u4.ownsRow base 3 1 (.slice (some ⟨g,0,none⟩) 3 vc) 3 (((vs.set 0 ((a-4)*65536)).set 1 ((b-4)*65536)).map (Value.int .i64))/\Fq [s] wI u4/\Kx B [189,3] w0 u4):=hid ⟨HV.out.place ⟨a0,a1⟩ ⟨b0,b1⟩,HS4.out,HC4.out,HO4.out,HQ4.out,HK4.out⟩
 (apply hN;exact HF)
end Go.Proofs.Ytnidcmhfbkdioaa
