/-
  Lemmas for the walk, merged (Cb Cc Cd). No condition but those in each statement.
-/
import Derived.Deep.CutBlock
import Derived.Test.YtnidcmhfbkdioaaSw24
import Derived.Test.YtnidcmhfbkdioaaSw19
namespace Go.Proofs.Ytnidcmhfbkdioaa
open Go.RowKit
open Go.IntKind (i64)
open Go.Lib (hid)
set_option maxRecDepth 100000
noncomputable def vdKind:Code:=(Try.f54.body.bind (blkN 3)).getD .skip
structure VkI (w wI:World) (B base s hi:Nat) (e g:Int) (CA:Option Addr) (q cc:Nat) (l1:List Cm):Prop where
 st:StrSt w B s
 it:Bk w hi 147 #[.int i64 e,.int i64 g,.slice CA q cc]
 own:w.ownsRow base 166 2 (.slice CA q cc) q (cmCs l1)
 len:q=l1.length
 cm:∀ z∈l1,CmY w 0 z
 fr:Fr wI.heap.size 0 l1
 fq:Fq [s] wI w
theorem VkI.kx {w w' wI:World} {B base s hi q cc:Nat} {e g:Int} {CA:Option Addr} {l1:List Cm} (h:VkI w wI B base s hi e g CA q cc l1) (_hB:B<=s) (hst:StrSt w' B s) (hq:Fq [s] w w'):VkI w' wI B base s hi e g CA q cc l1:=by
 have hk:=Kx.fq (B':=0) hq h.st (Nat.zero_le _)
 exact ⟨hst,hk.bk h.it (by decide),hk.own h.own (by decide),h.len,fun z hz=>(h.cm z hz).keep hk (by decide),h.fr,h.fq.trans hq (SubF.refl _ _)⟩
set_option maxHeartbeats 16000000 in
theorem vdKind_any {x0 x1 x2 x3 x4 x6 x7 x9 Aa Ab Ac Ad Ae Af Ag Ah Ai Aj Ak Al Am Ao Ap Aq Ar Au Av Aw Ax Ay Az A7 A9 Be Bl Bu Bv Bw B0 B1 B2 B3 B5 B7 B8 B9 Cg Ch Ci Cj Ck Cp Cq Cr Cs Cu Cw Cx Cy Cz C0 C1 C2 C3 C4 C5 C6 C7 C8 C9 Da Db Dc Dd De Dg Dh Di Dj Dk Dl Dm Dn Dp Dq Dr Ds Dt Du Dv Dw Dx Dy D0 D1 D3 D4 D5 D6 D7 D8 D9 Ee Ef Ei:Value} {Q:Exit->Act->World->Prop} {wI w0:World} {B base s hi i q cc kn kc:Nat} {kA CA:Option Addr} {ks:List Kd} {k:Kd} {e g:Int} {l1:List Cm}
 (hk:KsY w0 0 kA kn kc ks) (hkk:ks[i]?=some k) (hone:oneF k.nm k.fds=0) (hpl:k.nm=kn_p->k.fds=kf_p) (hI:VkI w0 wI B base s hi e g CA q cc l1)
 (hB:B<=s) (hBb:B<=base) (hbI:wI.heap.size<=base) (hhi:base<=hi) (hq:q<=64) (hb0:base<=w0.heap.size) (hi8:i<=64)
 (hSkip:∀ (y9 Hl Hm Ho I5 I6 I7 I8 I9 Ja Jb Jc Jd Je Jf Jg Jh Ji Jj Jk Jl Jm Jn Jo Jp Jq Jr Js Jt Ju Jv Jw Jx Jy Jz J1 J2 J3 J4 J5 J6 J7 J8 J9 Kk Kq Ks Kt Ku Kv Kw Ky K0 K1 K2 K3:Value) (w':World),Hid (VkI w' wI B base s hi e g CA q cc l1/\Fq [s] w0 w')->Q .normal ⟨#[x0,x1,x2,x3,x4,.pointer (some ⟨s,0,none⟩),x6,x7,.pointer (some ⟨hi,0,none⟩),y9,Hl,Hm,Ac,Ho,Ae,Af,Ag,Ah,Ai,Aj,Ak,Al,Am,Ao,Ap,Aq,Ar,Au,Av,Aw,Ax,Ay,Az,A7,A9,Be,Bl,Bu,Bv,Bw,B0,B1,B2,B3,.slice kA kn kc,B5,.int i64 (i:Int),B7,I5,I6,I7,I8,I9,Ja,Jb,Jc,Jd,Je,Jf,Jg,Jh,Ji,Jj,Jk,Jl,Jm,Jn,Jo,Jp,Jq,Jr,Js,Jt,Ju,Jv,Jw,Jx,Jy,Jz,J1,J2,J3,J4,J5,J6,J7,J8,J9,Kk,Kq,Ks,Kt,Ku,Kv,Kw,Ky,K0,K1,K2,K3,D4,D5,D6,D7,D8,D9,Ee,Ef,Ei],[]⟩ w')
 (hAdd:∀ (y9 Hl Hm Ho I5 I6 I7 I8 I9 Ja Jb Jc Jd Je Jf Jg Jh Ji Jj Jk Jl Jm Jn Jo Jp Jq Jr Js Jt Ju Jv Jw Jx Jy Jz J1 J2 J3 J4 J5 J6 J7 J8 J9 Kk Kq Ks Kt Ku Kv Kw Ky K0 K1 K2 K3:Value) (vs:List Int) (VA:Option Addr) (vc gA cA:Nat) (w':World),Hid (holdK k.p vs=true/\VkI w' wI B base s hi e g (some ⟨gA,0,none⟩) (q+1) cA (l1++[(⟨i,VA,vs.length,vc,vs⟩:Cm)])/\KsY w' 0 kA kn kc ks)->Q .normal ⟨#[x0,x1,x2,x3,x4,.pointer (some ⟨s,0,none⟩),x6,x7,.pointer (some ⟨hi,0,none⟩),y9,Hl,Hm,Ac,Ho,Ae,Af,Ag,Ah,Ai,Aj,Ak,Al,Am,Ao,Ap,Aq,Ar,Au,Av,Aw,Ax,Ay,Az,A7,A9,Be,Bl,Bu,Bv,Bw,B0,B1,B2,B3,.slice kA kn kc,B5,.int i64 (i:Int),B7,I5,I6,I7,I8,I9,Ja,Jb,Jc,Jd,Je,Jf,Jg,Jh,Ji,Jj,Jk,Jl,Jm,Jn,Jo,Jp,Jq,Jr,Js,Jt,Ju,Jv,Jw,Jx,Jy,Jz,J1,J2,J3,J4,J5,J6,J7,J8,J9,Kk,Kq,Ks,Kt,Ku,Kv,Kw,Ky,K0,K1,K2,K3,D4,D5,D6,D7,D8,D9,Ee,Ef,Ei],[]⟩ w') :
 Code.wp Try.prog vdKind Q ⟨#[x0,x1,x2,x3,x4,.pointer (some ⟨s,0,none⟩),x6,x7,.pointer (some ⟨hi,0,none⟩),x9,Aa,Ab,Ac,Ad,Ae,Af,Ag,Ah,Ai,Aj,Ak,Al,Am,Ao,Ap,Aq,Ar,Au,Av,Aw,Ax,Ay,Az,A7,A9,Be,Bl,Bu,Bv,Bw,B0,B1,B2,B3,.slice kA kn kc,B5,.int i64 (i:Int),B7,B8,B9,Cg,Ch,Ci,Cj,Ck,Cp,Cq,Cr,Cs,Cu,Cw,Cx,Cy,Cz,C0,C1,C2,C3,C4,C5,C6,C7,C8,C9,Da,Db,Dc,Dd,De,Dg,Dh,Di,Dj,Dk,Dl,Dm,Dn,Dp,Dq,Dr,Ds,Dt,Du,Dv,Dw,Dx,Dy,D0,D1,D3,D4,D5,D6,D7,D8,D9,Ee,Ef,Ei],[]⟩ w0:=by
 conv=>arg 2;whnf
 obtain ⟨i1,hi1,hz10,hz11,hz12⟩:=info_parts T.infoCm
 have HNX:=hid next_any
 have HK:=hid hk
 have HKK:=hid hkk
 have HI:=hid hI
 have hin:i<kn:=by have:=(List.getElem?_eq_some_iff.1 hkk).1;have:=hk.len;omega
 have hinz:(i:Int)<kn:=by omega
 have hinz0:(0:Int)<=i:=by omega
 have hcap:=hk.cap
 have hcap2:=hk.cap2
 have hko:=hk.ok k (List.mem_of_getElem? hkk)
 obtain ⟨b,o,rfl,hbb,q0,q1⟩:=hk.rd.rd.kd hin hkk
 obtain ⟨hkd,hhkd⟩:∃ z,z=w0.heap.size:=⟨_,rfl⟩
 obtain ⟨w1,hw1⟩:∃ w1,w1=w0.alloc (.cells #[.string k.nm,.slice k.A k.n k.c] 63):=⟨_,rfl⟩
 have HK1:Hid (Bk w1 hkd 63 #[.string k.nm,.slice k.A k.n k.c]):=hid (by rw [hw1,hhkd];exact Bk.new _ _ _)
 have HB1:Hid (Below w0.heap.size w0 w1):=hid (by rw [hw1];exact (Below.refl _ _).alloc (Nat.le_refl _) _)
 have HS1:Hid (StrSt w1 B s):=hid (hI.st.below HB1.out (hI.st.lo hB))
 have HKO:=hid hko
 have HON:=hid (And.intro hone hpl)
 have hf8:k.n<=8:=by rw [hko.len];exact oneF_len hone
 have hkcap:=hko.cap
 have hkcap2:=hko.cap2
 have hks:hkd≠s:=by
  obtain ⟨cs,h⟩:=hI.st.bk
  have:=h.lt
  omega
 clear hk hkk hko hI hone hpl
 generalize hknm:k.nm=knm at *
 generalize hkA:k.A=fA at *
 generalize hkn:k.n=fn at *
 generalize hkc:k.c=fc at *
 have HKV:=hid (And.intro hknm (And.intro hkA (And.intro hkn hkc)))
 clear hknm hkA hkn hkc
 go_upto_region 12 with fail
 rw [<- hw1,<- hhkd]
 clear hw1 q0 q1
 have HHK:=hid hhkd
 clear hhkd
 go_wp2_with fail
 (with_reducible refine (HNX.out s B 4 _ HS1.out hB (by omega) (by omega)).mono ?_)
 rintro e' w2 ⟨v,rfl,hv0,hv1,hst2,hg2⟩
 have HK2:Hid (Bk w2 hkd 63 #[.string knm,.slice fA fn fc]):=hid (HK1.out.grown hg2 (fun e=>by injection e with e;omega))
 have HQ2:Hid (Fq [s] w0 w2):=hid ((Fq.of_below HB1.out).grown hg2 fun g hg=>.inl (by injection hg with hg;simp [hg]))
 have HI2:Hid (VkI w2 wI B base s hi e g CA q cc l1):=hid (HI.out.kx hB hst2 HQ2.out)
 have HW2:Hid (w0.heap.size<w2.heap.size):=hid (by have h1:=HK1.out.lt;have h2:=hg2.size;have h3:=HHK.out;omega)
 clear hst2 hg2 HK1 HS1 HB1
 by_cases hv3:v=3
 . have t2:(v == 3)=true:=by simp [hv3]
   have HF:Hid (VkI w2 wI B base s hi e g CA q cc l1/\Fq [s] w0 w2):=hid ⟨HI2.out,HQ2.out⟩
   clear hv3
   go_wp2_with fail
   (try simp only [Exit.inBlock,Exit.then])
   first
    | exact HF
    | exact hSkip _ _ _ _ _ _ _ _ _ _ _ _ _ _ _ _ _ _ _ _ _ _ _ _ _ _ _ _ _ _ _ _ _ _ _ _ _ _ _ _ _ _ _ _ _ _ _ _ _ _ _ _ _ _ _ _ _ HF
 . have t2:(v == 3)=false:=by simp [hv3]
   clear hv3
   have c1:w2.cell? ⟨hkd,1,none⟩=some (.slice fA fn fc):=HK2.out.cell 1
   have c2:(w2.alloc (.cells #[.int i64 (i:Int),.slice none 0 0] 166)).cell? ⟨hkd,1,none⟩=some (.slice fA fn fc):=(HK2.out.alloc _).cell 1
   obtain ⟨w3,hw3⟩:∃ w3,w3=w2.alloc (.cells #[.int i64 (i:Int),.slice none 0 0] 166):=⟨_,rfl⟩
   obtain ⟨cA,hcA⟩:∃ z,z=w2.heap.size:=⟨_,rfl⟩
   have HB3:Hid (Below w2.heap.size w2 w3):=hid (by rw [hw3];exact (Below.refl _ _).alloc (Nat.le_refl _) _)
   have HC3:Hid (Bk w3 cA 166 #[.int i64 (i:Int),.slice none 0 0]):=hid (by rw [hw3,hcA];exact Bk.new _ _ _)
   have HS3:Hid (StrSt w3 B s):=hid (HI2.out.st.below HB3.out (HI2.out.st.lo hB))
   have HK3:Hid (Bk w3 hkd 63 #[.string knm,.slice fA fn fc]):=hid (HK2.out.below HB3.out HK2.out.lt)
   have HQ3:Hid (Fq [s] w2 w3):=hid (Fq.of_below HB3.out)
   have HRD:Hid (RdY w3 B 66 3 fA fn (fdCs k.fds)):=hid (by
    have h:=((HKO.out.rd.keep (Kx.fq (B':=0) HQ2.out HI.out.st (Nat.zero_le _)) (by decide)).keep (Kx.of_below (B:=0) (F:=[]) HB3.out) (by simp)).more (Nat.zero_le B)
    rw [HKV.out.2.1,HKV.out.2.2.1] at h
    exact h)
   have HLN:Hid (fn=k.fds.length):=hid (by rw [<- HKV.out.2.2.1];exact HKO.out.len)
   have HFO:Hid (∀ f∈k.fds,fieldF f=0):=hid fun f hf=>one_ok HON.out.1 hf
   have HWB:Hid (B<=w2.heap.size/\w2.heap.size<=w3.heap.size/\w2.heap.size<=cA):=hid ⟨by have:=HW2.out;omega,HB3.out.size,by omega⟩
   have HCW:=hid hcA
   go_upto_block 4 with fail
   rw [<- hw3,<- hcA]
   clear c1 c2 hw3 hcA
   refine vdLoop_any (wI:=w2) (base:=w2.heap.size) HS3.out hB HRD.out HLN.out (by omega) (by omega) HFO.out (by omega) HC3.out HWB.out.1 HWB.out.2.1 HWB.out.2.2 HQ3.out (Nat.le_refl _) ?_
   intros
   rename_i vs VA vc w4 H4
   have HK4:Hid (Bk w4 hkd 63 #[.string knm,.slice fA fn fc]):=hid (H4.out.2.2.2.2.2.bk HK3.out (by decide))
   have HIN4:Hid (InR k.fds vs):=hid H4.out.1
   have HST4:Hid (StrSt w4 B s/\Bk w4 cA 166 #[.int i64 (i:Int),.slice VA fn vc]/\w4.ownsRow w2.heap.size 3 1 (.slice VA fn vc) fn (vs.map (Value.int .i64))/\Fq [s] w2 w4):=hid ⟨H4.out.2.1,H4.out.2.2.1,H4.out.2.2.2.1,H4.out.2.2.2.2.1⟩
   clear H4 HK3 HC3 HS3 HQ3 HRD HB3
   have d0:w4.cell? ⟨hkd,0,none⟩=some (.string knm):=HK4.out.cell 0
   have HEND:Hid (∀ (vs2:List Int) (w5:World),InR k.fds vs2->StrSt w5 B s->Bk w5 cA 166 #[.int i64 (i:Int),.slice VA fn vc]->w5.ownsRow w2.heap.size 3 1 (.slice VA fn vc) fn (vs2.map (Value.int .i64))->Fq [s] w2 w5 ->
    (w5.cell? ⟨cA,0,none⟩=some (.int i64 (i:Int))/\w5.cell? ⟨cA,1,none⟩=some (.slice VA fn vc)/\w5.cell? ⟨hi,2,none⟩=some (.slice CA q cc)/\w5.ownsRow base 166 2 (.slice CA q cc) q (cmCs l1)/\base<=w5.heap.size) /\
    ∀ g8 c8 w8,w8.ownsRow base 166 2 (.slice (some ⟨g8,0,none⟩) (q+1) c8) (q+1) (cmCs l1++[.int i64 (i:Int),.slice VA fn vc])->(w5.alloc (.cells #[.int i64 (i:Int),.slice VA fn vc] 166)).grownBy w8 (Value.slice CA q cc).ownBlock ->
      (w8.cell? ⟨hi,2,none⟩=some (.slice CA q cc)/\w8.frozen? ⟨hi,2,none⟩=false) /\
      Hid (holdK k.p vs2=true/\VkI (w8.setCell ⟨hi,2,none⟩ (.slice (some ⟨g8,0,none⟩) (q+1) c8)) wI B base s hi e g (some ⟨g8,0,none⟩) (q+1) c8 (l1++[(⟨i,VA,vs2.length,vc,vs2⟩:Cm)])/\KsY (w8.setCell ⟨hi,2,none⟩ (.slice (some ⟨g8,0,none⟩) (q+1) c8)) 0 (some ⟨b,o,none⟩) kn kc ks)):=hid fun vs2 w5 hin5 hst5 hc5 ho5 hq5=>by
    have hI5:=HI2.out.kx hB hst5 hq5
    have hsz5:w2.heap.size<=w5.heap.size:=hq5.size
    refine ⟨⟨hc5.cell 0,hc5.cell 1,hI5.it.cell 2,hI5.own,by have:=HW2.out;omega⟩,fun g8 c8 w8 hown8 hg8=>?_⟩
    have hit8:=(hI5.it.alloc (.cells #[.int i64 (i:Int),.slice VA fn vc] 166)).grown hg8 (fun e=>own_ne hI5.own hI5.it (by decide) e.symm)
    refine ⟨⟨hit8.cell 2,hit8.frozen 2⟩,hid ?_⟩
    have hBw:B<=base:=hBb
    have hkx:Kx B [166,147] w5 (w8.setCell ⟨hi,2,none⟩ (.slice (some ⟨g8,0,none⟩) (q+1) c8)):=((((Kx.refl (B:=B)).alloc _).grown (hI5.own.alloc _) hg8 hBw (by simp)).set hit8 (by omega) (by simp) 2 _)
    have hk0:Kx 0 [166,147] w5 (w8.setCell ⟨hi,2,none⟩ (.slice (some ⟨g8,0,none⟩) (q+1) c8)):=hkx.mono (Nat.zero_le _) (fun _ h=>h)
    have hcp:=own_cap2 ho5
    have hvl:vs2.length=fn:=by rw [hin5.1];exact HLN.out.symm
    refine ⟨(by show holdK (k.nm,k.fds) vs2=true;rw [HKV.out.1];exact hin5.hold HON.out.1),⟨hst5.kx hkx (Nat.le_refl _) (hst5.lo hB) (by decide),by simpa using hit8.set_ 2 (.slice (some ⟨g8,0,none⟩) (q+1) c8),?_,by rw [List.length_append,<- HI.out.len];rfl,fun z hz=>?_,fun z hz hn b o hA=>?_,?_⟩,?_⟩
    . rw [show cmCs (l1++[(⟨i,VA,vs2.length,vc,vs2⟩:Cm)])=cmCs l1++[.int i64 (i:Int),.slice VA fn vc] by simp [cmCs,Cm.cs,hvl]]
      exact own_far hown8 hit8 (by decide) 2 _
    . rcases List.mem_append.1 hz with hz | hz
      . exact (hI5.cm z hz).keep hk0 (by decide)
      . rw [show z=⟨i,VA,vs2.length,vc,vs2⟩ by simpa using hz]
        refine ⟨?_,rfl,by show vs2.length<=vc;omega,hcp.2,wf_i64 (by show _<=((i:Nat):Int);omega) (by show ((i:Nat):Int)<=_;omega)⟩
        show RdY _ 0 3 1 VA vs2.length _
        rw [hvl]
        exact (RdY.of_own ho5).keep hk0 (by decide)
    . rcases List.mem_append.1 hz with hz | hz
      . exact HI.out.fr z hz hn b o hA
      . rw [show z=⟨i,VA,vs2.length,vc,vs2⟩ by simpa using hz] at hA
        have hA:VA=some ⟨b,o,none⟩:=hA
        subst hA
        have:=(ho5.lt b rfl).1
        have:=HW2.out
        exact .inr (by omega)
    . exact ((hI5.fq.alloc _).grown hg8 (fun g hg=>.inr (by have:=(hI5.own.lt g hg).1;omega))).set (.inr (by omega)) 2 _
    . exact (HK.out.keep (Kx.fq (B':=0) (HQ2.out.trans hq5 (SubF.refl _ _)) HI.out.st (Nat.zero_le _)) (by decide) (by decide)).keep hk0 (by decide) (by decide)
   have HFIN:Hid (∀ (vs2:List Int) (w5:World),InR k.fds vs2->vs2.length=fn):=hid fun vs2 _ h=>by rw [h.1];exact HLN.out.symm
   by_cases hp:knm=kn_p
   . have HFP:Hid (k.fds=kf_p/\fn=3):=hid (by
      have h1:=HON.out.2 hp
      exact ⟨h1,by rw [HLN.out,h1];rfl⟩)
     obtain rfl:fn=3:=HFP.out.2
     have t3:(knm.toList == kn_p.toList)=true:=by rw [hp];simp
     have t4:(knm.toList == [112,108,97,99,101])=true:=by rw [hp];decide +kernel
     clear hp
     go_upto_region 20 with fail
     refine vdPlace_any (wI:=w2) (base:=w2.heap.size) HST4.out.1 hB HST4.out.2.1 HST4.out.2.2.1 (by rw [<- HFP.out.1];exact HIN4.out) HWB.out.1 HST4.out.2.2.2 (Nat.le_refl _) ?_
     intros
     rename_i vs2 w5 H5
     have hE:=HEND.out vs2 w5 (by rw [HFP.out.1];exact H5.out.1) H5.out.2.1 H5.out.2.2.1 H5.out.2.2.2.1 H5.out.2.2.2.2.1
     have HE8:=hid hE.2
     have e0:=hE.1.1
     have e1:=hE.1.2.1
     have e2:=hE.1.2.2.1
     have HOW:=hid hE.1.2.2.2.1
     have hbw:base<=w5.heap.size:=hE.1.2.2.2.2
     clear hE HEND H5 HST4 HIN4 HK4 d0
     go_wp2_with
      (at_builtin
       go_must (refine wpList_append_one _ rfl (.tmp 95) (.tmp 97) _ rfl base 166 i1 (.agg #[.int i64 0,.slice none 0 0]) 2 32 Try.underlying38 hi1 hz10 hz11 hz12 rfl (by decide) (.slice CA q cc) q (cmCs l1) rfl (HOW.out.alloc _) w5.heap.size 1 166 #[.int i64 (i:Int),.slice VA 3 vc] rfl (Bk.new _ _ _) rfl ?c1 (q+1) rfl ?c2 ?c3 ?c4 ?_)
       case c1=>simp [Value.oneCell']
       case c2=>unfold maxLen;omega
       case c3=>omega
       case c4=>(simp;omega)
       intro g8 c8 w8 hown8 hg8 hat8
       have hE:=HE8.out g8 c8 w8 hown8 hg8
       have z0:=hE.1.1
       have z1:=hE.1.2
       have HF:=hE.2
       clear hE hown8 hg8 hat8)
     (try simp only [Exit.inBlock,Exit.then])
     first
      | exact HF
      | exact hAdd _ _ _ _ _ _ _ _ _ _ _ _ _ _ _ _ _ _ _ _ _ _ _ _ _ _ _ _ _ _ _ _ _ _ _ _ _ _ _ _ _ _ _ _ _ _ _ _ _ _ _ _ _ _ _ _ _ _ _ _ _ _ HF
   . have t3:(knm.toList == kn_p.toList)=false:=ba_tl_ne hp
     have t4:(knm.toList == [112,108,97,99,101])=false:=by (rw [show ([112,108,97,99,101]:List UInt8)=kn_p.toList by decide +kernel];exact t3)
     clear hp
     have hE:=HEND.out vs w4 HIN4.out HST4.out.1 HST4.out.2.1 HST4.out.2.2.1 HST4.out.2.2.2
     have HE8:=hid hE.2
     have e0:=hE.1.1
     have e1:=hE.1.2.1
     have e2:=hE.1.2.2.1
     have HOW:=hid hE.1.2.2.2.1
     have hbw:base<=w4.heap.size:=hE.1.2.2.2.2
     clear hE HEND HST4 HIN4 HK4
     go_wp2_with
      (at_builtin
       go_must (refine wpList_append_one _ rfl (.tmp 95) (.tmp 97) _ rfl base 166 i1 (.agg #[.int i64 0,.slice none 0 0]) 2 32 Try.underlying38 hi1 hz10 hz11 hz12 rfl (by decide) (.slice CA q cc) q (cmCs l1) rfl (HOW.out.alloc _) w4.heap.size 1 166 #[.int i64 (i:Int),.slice VA fn vc] rfl (Bk.new _ _ _) rfl ?c1 (q+1) rfl ?c2 ?c3 ?c4 ?_)
       case c1=>simp [Value.oneCell']
       case c2=>unfold maxLen;omega
       case c3=>omega
       case c4=>(simp;omega)
       intro g8 c8 w8 hown8 hg8 hat8
       have hE:=HE8.out g8 c8 w8 hown8 hg8
       have z0:=hE.1.1
       have z1:=hE.1.2
       have HF:=hE.2
       clear hE hown8 hg8 hat8)
     (try simp only [Exit.inBlock,Exit.then])
     first
      | exact HF
      | exact hAdd _ _ _ _ _ _ _ _ _ _ _ _ _ _ _ _ _ _ _ _ _ _ _ _ _ _ _ _ _ _ _ _ _ _ _ _ _ _ _ _ _ _ _ _ _ _ _ _ _ _ _ _ _ _ _ _ _ _ _ _ _ _ HF
noncomputable def vdKinds:Code:=(Try.f54.body.bind (blkN 2)).getD .skip
set_option maxHeartbeats 16000000 in
theorem vdKinds_any {x0 x1 x2 x3 x4 x6 x7 x9 Aa Ab Ac Ad Ae Af Ag Ah Ai Aj Ak Al Am Ao Ap Aq Ar Au Av Aw Ax Ay Az A7 A9 Be Bl Bu Bv Bw B0 B1 B2 B3 B7 B8 B9 Cg Ch Ci Cj Ck Cp Cq Cr Cs Cu Cw Cx Cy Cz C0 C1 C2 C3 C4 C5 C6 C7 C8 C9 Da Db Dc Dd De Dg Dh Di Dj Dk Dl Dm Dn Dp Dq Dr Ds Dt Du Dv Dw Dx Dy D0 D1 D3 D4 D5 D6 D7 D8 D9 Ee Ef Ei:Value} {Q:Exit->Act->World->Prop} {wI w0:World} {B base s hi kn kc:Nat} {kA:Option Addr} {ks:List Kd} {e g:Int}
 (hk:KsY w0 0 kA kn kc ks) (hone:∀ k∈ks,oneF k.nm k.fds=0) (hpl:∀ k∈ks,k.nm=kn_p->k.fds=kf_p) (hI:VkI w0 wI B base s hi e g none 0 0 [])
 (hB:B<=s) (hBb:B<=base) (hbI:wI.heap.size<=base) (hhi:base<=hi) (hb0:base<=w0.heap.size) (hn:kn<=16)
 (hN:∀ (y9 Hl Hm Ho I3 I4 I5 I6 I7 I8 I9 Ja Jb Jc Jd Je Jf Jg Jh Ji Jj Jk Jl Jm Jn Jo Jp Jq Jr Js Jt Ju Jv Jw Jx Jy Jz J1 J2 J3 J4 J5 J6 J7 J8 J9 Kk Kq Ks Kt Ku Kv Kw Ky K0 K1 K2 K3 K4:Value) (CA:Option Addr) (q cc:Nat) (l1:List Cm) (w':World),Hid (q<=kn/\VkI w' wI B base s hi e g CA q cc l1/\VCs holdK (ks.map Kd.p) (l1.map Cm.p)/\KsY w' 0 kA kn kc ks)->Q .normal ⟨#[x0,x1,x2,x3,x4,.pointer (some ⟨s,0,none⟩),x6,x7,.pointer (some ⟨hi,0,none⟩),y9,Hl,Hm,Ac,Ho,Ae,Af,Ag,Ah,Ai,Aj,Ak,Al,Am,Ao,Ap,Aq,Ar,Au,Av,Aw,Ax,Ay,Az,A7,A9,Be,Bl,Bu,Bv,Bw,B0,B1,B2,B3,.slice kA kn kc,.int i64 (kn:Int),I3,I4,I5,I6,I7,I8,I9,Ja,Jb,Jc,Jd,Je,Jf,Jg,Jh,Ji,Jj,Jk,Jl,Jm,Jn,Jo,Jp,Jq,Jr,Js,Jt,Ju,Jv,Jw,Jx,Jy,Jz,J1,J2,J3,J4,J5,J6,J7,J8,J9,Kk,Kq,Ks,Kt,Ku,Kv,Kw,Ky,K0,K1,K2,K3,K4,D5,D6,D7,D8,D9,Ee,Ef,Ei],[]⟩ w') :
 Code.wp Try.prog vdKinds Q ⟨#[x0,x1,x2,x3,x4,.pointer (some ⟨s,0,none⟩),x6,x7,.pointer (some ⟨hi,0,none⟩),x9,Aa,Ab,Ac,Ad,Ae,Af,Ag,Ah,Ai,Aj,Ak,Al,Am,Ao,Ap,Aq,Ar,Au,Av,Aw,Ax,Ay,Az,A7,A9,Be,Bl,Bu,Bv,Bw,B0,B1,B2,B3,.slice kA kn kc,.int i64 (kn:Int),.int i64 0,B7,B8,B9,Cg,Ch,Ci,Cj,Ck,Cp,Cq,Cr,Cs,Cu,Cw,Cx,Cy,Cz,C0,C1,C2,C3,C4,C5,C6,C7,C8,C9,Da,Db,Dc,Dd,De,Dg,Dh,Di,Dj,Dk,Dl,Dm,Dn,Dp,Dq,Dr,Ds,Dt,Du,Dv,Dw,Dx,Dy,D0,D1,D3,D4,D5,D6,D7,D8,D9,Ee,Ef,Ei],[]⟩ w0:=by
 conv=>arg 2;whnf
 have HK:=hid hk
 have HON:=hid hone
 have HPL:=hid hpl
 have HI:=hid hI
 have hcap:=hk.cap
 have hcap2:=hk.cap2
 have HLK:Hid (kn=ks.length):=hid hk.len
 clear hk hone hpl hI
 go_wp2_with fail
 go_loopw [46] (fun jv wx=>∃ (i q cc:Nat) (CA:Option Addr) (l1:List Cm),i<=kn/\q<=i/\jv=.int i64 i/\Hid (VkI wx wI B base s hi e g CA q cc l1/\CwI holdK (ks.map Kd.p) i (l1.map Cm.p)/\KsY wx 0 kA kn kc ks/\base<=wx.heap.size)) (fun jv _=>kn-(intOf jv).toNat)
 case atStart=>exact ⟨0,0,0,none,[],Nat.zero_le _,Nat.le_refl _,rfl,hid ⟨HI.out,CwI.zero,HK.out,hb0⟩⟩
 case round =>
  obtain ⟨i,q,cc,CA,l1,hile,hqi,rfl,HV⟩:=hrel
  by_cases hlt:i<kn
  . obtain ⟨k,hk⟩:∃ k,ks[i]?=some k:=⟨_,List.getElem?_eq_getElem (by have:=HLK.out;omega)⟩
    have hiz:(i:Int)<kn:=by omega
    have HKK:=hid hk
    have HO1:=hid (HON.out k (List.mem_of_getElem? hk))
    have HP1:=hid (HPL.out k (List.mem_of_getElem? hk))
    clear hk
    go_upto_if 47 with fail
    first
     | (go_step;refine vdKind_any HV.out.2.2.1 HKK.out HO1.out HP1.out HV.out.1 hB hBb hbI hhi (by omega) HV.out.2.2.2 (by omega) ?_ ?_)
     | (go_step;go_step;refine vdKind_any HV.out.2.2.1 HKK.out HO1.out HP1.out HV.out.1 hB hBb hbI hhi (by omega) HV.out.2.2.2 (by omega) ?_ ?_)
     | (go_step;go_step;go_step;refine vdKind_any HV.out.2.2.1 HKK.out HO1.out HP1.out HV.out.1 hB hBb hbI hhi (by omega) HV.out.2.2.2 (by omega) ?_ ?_)
     | (go_step;go_step;go_step;go_step;refine vdKind_any HV.out.2.2.1 HKK.out HO1.out HP1.out HV.out.1 hB hBb hbI hhi (by omega) HV.out.2.2.2 (by omega) ?_ ?_)
     | (go_step;go_step;go_step;go_step;go_step;refine vdKind_any HV.out.2.2.1 HKK.out HO1.out HP1.out HV.out.1 hB hBb hbI hhi (by omega) HV.out.2.2.2 (by omega) ?_ ?_)
    . intros
      rename_i w7 H7
      have HVN:Hid (VkI w7 wI B base s hi e g CA q cc l1/\CwI holdK (ks.map Kd.p) (i+1) (l1.map Cm.p)/\KsY w7 0 kA kn kc ks/\base<=w7.heap.size):=hid ⟨H7.out.1,HV.out.2.1.skip,HV.out.2.2.1.keep (Kx.fq (B':=0) H7.out.2 HV.out.1.st (Nat.zero_le _)) (by decide) (by decide),Nat.le_trans HV.out.2.2.2 H7.out.2.size⟩
      clear HV H7
      go_wp2_with fail
      go_roundw
      case rel=>exact ⟨i+1,q,cc,CA,l1,by omega,by omega,by go_num,HVN⟩
      case measure=>simp [intOf];omega
    . intros
      rename_i vs VA vc gA cA w7 H7
      have HVN:Hid (VkI w7 wI B base s hi e g (some ⟨gA,0,none⟩) (q+1) cA (l1++[(⟨i,VA,vs.length,vc,vs⟩:Cm)])/\CwI holdK (ks.map Kd.p) (i+1) ((l1++[(⟨i,VA,vs.length,vc,vs⟩:Cm)]).map Cm.p)/\KsY w7 0 kA kn kc ks/\base<=w7.heap.size):=hid ⟨H7.out.2.1,by
       rw [List.map_append]
       exact HV.out.2.1.keep (d:=k.p) (by rw [List.getElem?_map,HKK.out];rfl) H7.out.1,H7.out.2.2,by have h1:=H7.out.2.1.it.lt;omega⟩
      clear HV H7
      go_wp2_with fail
      go_roundw
      case rel=>exact ⟨i+1,q+1,cA,some ⟨gA,0,none⟩,l1++[(⟨i,VA,vs.length,vc,vs⟩:Cm)],by omega,by omega,by go_num,HVN⟩
      case measure=>simp [intOf];omega
  . obtain rfl:kn=i:=by omega
    have HR:Hid (q<=kn/\VkI wr wI B base s hi e g CA q cc l1/\VCs holdK (ks.map Kd.p) (l1.map Cm.p)/\KsY wr 0 kA kn kc ks):=hid ⟨hqi,HV.out.1,CwI.done HV.out.2.1,HV.out.2.2.1⟩
    clear HV
    go_wp2_with fail
    (try simp only [Exit.inBlock,Exit.then])
    first
     | exact HR
     | (apply hN;exact HR)
set_option maxHeartbeats 16000000 in
theorem kworld_any (A:Option Addr) (n c B:Nat) (zs:List Int) (w:World) {kA sA pA:Option Addr} {kn kc sn sc pn pc:Nat} {g0 g1 g2 g3 g4 g5:Int} {ks:List Kd} (hr:Rd w B 1 A n (zs.map (Value.int .i64))) (hn:n=zs.length) (hnc:n<=c) (hc:c<=9223372036854775807) (hz:∀ z∈zs,(Lit.int i64 z).wf=true) (hB:B<=w.heap.size)
 (hk:KsY w 0 kA kn kc ks) (hone:∀ k∈ks,oneF k.nm k.fds=0) (hpl:∀ k∈ks,k.nm=kn_p->k.fds=kf_p) (hkn:kn<=16) :
 Calls Try.prog 54 #[.agg #[.slice kA kn kc,.slice sA sn sc,.slice pA pn pc,.int i64 g0,.int i64 g1,.int i64 g2,.int i64 g3,.int i64 g4,.int i64 g5],.slice A n c] w fun e w'=>∃ y:Wd,e=.returned y.v/\Hid ((WdY w' 0 y/\VW holdK y.p)/\y.kA=kA/\y.kn=kn/\y.kc=kc/\y.ks=ks/\y.its.length<=5/\y.gens.length<=5)/\Below w.heap.size w w':=by
 obtain ⟨W0,hW0⟩:∃ W0,W0=(((w.alloc (.cells #[.slice kA kn kc,.slice sA sn sc,.slice pA pn pc,.int i64 g0,.int i64 g1,.int i64 g2,.int i64 g3,.int i64 g4,.int i64 g5] 110)).alloc (.cells #[.slice none 0 0,.slice none 0 0,.slice none 0 0] 52)).alloc (.cells #[.slice A n c] 189)).alloc (.cells #[.slice kA kn kc,.slice none 0 0,.slice none 0 0] 52):=⟨_,rfl⟩
 have hb0:Below w.heap.size w W0:=by rw [hW0];exact Below.al (Below.al (Below.al (Below.al (Below.refl _ _) _) _) _) _
 have hbG:Bk W0 w.heap.size 110 #[.slice kA kn kc,.slice sA sn sc,.slice pA pn pc,.int i64 g0,.int i64 g1,.int i64 g2,.int i64 g3,.int i64 g4,.int i64 g5]:=by rw [hW0];exact (((Bk.new _ _ _).alloc _).alloc _).alloc _
 have hbR:Bk W0 (w.heap.size+1) 52 #[.slice none 0 0,.slice none 0 0,.slice none 0 0]:=by rw [hW0];exact ((Bk.two _ _ _ _).alloc _).alloc _
 have hbS:Bk W0 (w.heap.size+2) 189 #[.slice A n c]:=by rw [hW0];exact (by have h:=Bk.new ((w.alloc (.cells #[.slice kA kn kc,.slice sA sn sc,.slice pA pn pc,.int i64 g0,.int i64 g1,.int i64 g2,.int i64 g3,.int i64 g4,.int i64 g5] 110)).alloc (.cells #[.slice none 0 0,.slice none 0 0,.slice none 0 0] 52)) 189 #[.slice A n c];simpa using h:Bk (((w.alloc (.cells #[.slice kA kn kc,.slice sA sn sc,.slice pA pn pc,.int i64 g0,.int i64 g1,.int i64 g2,.int i64 g3,.int i64 g4,.int i64 g5] 110)).alloc (.cells #[.slice none 0 0,.slice none 0 0,.slice none 0 0] 52)).alloc (.cells #[.slice A n c] 189)) (w.heap.size+2) 189 #[.slice A n c]).alloc _
 have hbO:Bk W0 (w.heap.size+2+1) 52 #[.slice kA kn kc,.slice none 0 0,.slice none 0 0]:=by rw [hW0];have h:=Bk.new (((w.alloc (.cells #[.slice kA kn kc,.slice sA sn sc,.slice pA pn pc,.int i64 g0,.int i64 g1,.int i64 g2,.int i64 g3,.int i64 g4,.int i64 g5] 110)).alloc (.cells #[.slice none 0 0,.slice none 0 0,.slice none 0 0] 52)).alloc (.cells #[.slice A n c] 189)) 52 #[.slice kA kn kc,.slice none 0 0,.slice none 0 0];simpa using h
 have hst:StrSt W0 B (w.heap.size+2):=⟨A,n,c,zs,hbS,hn,hnc,hc,hr.below (hb0.mono hB),hz⟩
 obtain ⟨s,hs⟩:∃ s,s=w.heap.size+2:=⟨_,rfl⟩
 obtain ⟨ho,hho⟩:∃ z,z=s+1:=⟨_,rfl⟩
 obtain ⟨r,hhr⟩:∃ s,s=w.heap.size+1:=⟨_,rfl⟩
 rw [<- hs] at hst
 rw [<- hs,<- hho] at hbO
 rw [<- hhr] at hbR
 have hBs:B<=s:=by omega
 have hsz0:W0.heap.size=w.heap.size+4:=by rw [hW0];simp
 have HNX:=hid next_any
 have HB0:=hid hb0
 have HBG:=hid hbG
 have HST:=hid hst
 have HKS:Hid (KsY W0 0 kA kn kc ks):=hid (hk.keep (F:=[]) (Kx.of_below (B:=0) hb0) (by simp) (by simp))
 have HI0:Hid (WI r ho W0.heap.size W0 kA kn kc ks none 0 0 [] none 0 0 []):=hid ⟨hbR,hbO,HKS.out,World.ownsRow_nil _ _ _ _,World.ownsRow_nil _ _ _ _,rfl,(fun x hx=>by cases hx),(fun x hx=>by cases hx),by omega⟩
 have HON:=hid hone
 have HPL:=hid hpl
 have HCP:=hid (And.intro hk.cap hk.cap2)
 have HLK:=hid hk.len
 have hrs:r<s:=by omega
 have hso:s<ho:=by omega
 have hoW:ho<W0.heap.size:=by omega
 have hwr:w.heap.size<r:=by omega
 have HEQ:=hid (And.intro hs (And.intro hho hhr))
 have HE3:Hid (w.heap.size+1+1+1=ho/\w.heap.size+2+1=ho/\w.heap.size+3=ho/\w.heap.size+1+1=s/\w.heap.size+2=s/\w.heap.size+1=r):=hid (by omega)
 have hwW:w.heap.size<W0.heap.size:=by omega
 clear hr hn hnc hc hz hb0 hbR hbS hbO hbG hst hk hone hpl HKS hs hho hhr
 go_enter Try.func54,Try.ntmps54
 go_upto_region 3 with fail
 rw [<- hW0]
 clear hW0
 (try rw [HE3.out.1])
 (try rw [HE3.out.2.1])
 (try rw [HE3.out.2.2.1])
 (try rw [HE3.out.2.2.2.1])
 (try rw [HE3.out.2.2.2.2.1])
 (try rw [HE3.out.2.2.2.2.2])
 go_wp2_with fail
 (with_reducible refine (HNX.out s B 6 _ HST.out hBs (by omega) (by omega)).mono ?_)
 rintro e w3 ⟨v,rfl,hv0,hv1,hst3,hg3⟩
 obtain ⟨N,rfl⟩:∃ N:Nat,v=N:=⟨v.toNat,by omega⟩
 have HQ3:Hid (Fq [s,ho] W0 w3):=hid (Fq.refl.grown hg3 fun g hg=>.inl (by injection hg with hg;simp [hg]))
 have hk23:Kx 0 [189] W0 w3:=Kx.fq (B':=0) (Fq.refl.grown hg3 fun g hg=>.inl (by injection hg with hg;simp [hg])) HST.out (Nat.zero_le _)
 have HI3:Hid (WI r ho W0.heap.size w3 kA kn kc ks none 0 0 [] none 0 0 []):=hid (HI0.out.kx hk23 (by decide) (by decide) (by decide) (by decide) (by decide) (by decide))
 have HS3:=hid hst3
 have hN12:N<6:=by omega
 clear hst3 hg3 hk23 HI0 hv0 hv1
 go_wp2_with fail
 go_loopw [22] (fun iv wr=>∃ (i q gc ic:Nat) (GA IA:Option Addr) (G:List Int) (its:List It),i<=N/\q<=i/\iv=.int i64 i/\Hid (WI r ho W0.heap.size wr kA kn kc ks GA i gc G IA q ic its/\WwI holdK (ks.map Kd.p) i G (its.map It.p))/\Hid (StrSt wr B s)/\Hid (Fq [s,ho] W0 wr)) (fun iv _=>N-(intOf iv).toNat)
 case atStart=>exact ⟨0,0,0,0,none,none,[],[],Nat.zero_le _,Nat.le_refl _,rfl,hid ⟨HI3.out,WwI.zero⟩,HS3,HQ3⟩
 case round =>
  clear HI3 HS3 HQ3
  obtain ⟨i,q,gc,ic,GA,IA,G,its,hi,hqi,rfl,HI,HSt,HQ⟩:=hrel
  by_cases hlt:i<N
  . have hiz:(i:Int)<N:=by omega
    have s1:wr.drew.cell? ⟨ho,1,none⟩=some (.slice GA i gc):=HI.out.1.bo.cell 1
    obtain ⟨i3,hi3,hz30,hz31,hz32⟩:=info_parts T.info3
    go_wp2_with fail
    refine wp_region_E (S:=fun wx=>wx.cell? ⟨ho,1,none⟩=some (.slice GA i gc)) (last:=7) (by kernel_rfl) ?_
    refine wpAnyE_val (i:=0) (v:=.pointer (some ⟨ho,1,none⟩)) (d:=some 25) rfl rfl (by kernel_rfl) (by kernel_rfl) (by kernel_rfl) (by kernel_rfl) (fun _ _ _ h=>h) (Or.inl ⟨by rfl,fun w _=>by go_simp⟩) s1 ?_
    (try simp only [sP])
    refine wpAnyE_val (i:=1) (v:=.slice GA i gc) (d:=some 26) rfl rfl (by kernel_rfl) (by kernel_rfl) (by kernel_rfl) (by kernel_rfl) (fun _ _ _ h=>h) (Or.inl ⟨by rfl,fun w hS=>by go_simp⟩) s1 ?_
    (try simp only [sP])
    refine wpAnyE_val (i:=2) (v:=.pointer (some ⟨s,0,none⟩)) (d:=some 27) rfl rfl (by kernel_rfl) (by kernel_rfl) (by kernel_rfl) (by kernel_rfl) (fun _ _ _ h=>h) (Or.inl ⟨by rfl,fun w _=>by go_simp⟩) s1 ?_
    (try simp only [sP])
    have hws:W0.heap.size<=wr.heap.size:=HQ.out.size
    have hsd:StrSt wr.drew B s:=HSt.out.below (Below.refl _ _).drew (HSt.out.lo hBs)
    refine wpAnyE_one (i:=3) rfl (by kernel_rfl) rfl ?_
    go_simp
    (with_reducible refine (HNX.out s B 2 _ hsd hBs (by omega) (by omega)).mono ?_)
    rintro e w4 ⟨v,rfl,hv0,hv1,hst4,hg4⟩
    have hk4:Kx 0 [189] wr w4:=Kx.fq (B':=0) ((Fq.refl (w:=wr)).drew.grown hg4 fun g hg=>.inl (by injection hg with hg;simp [hg])) HSt.out (Nat.zero_le _)
    have HI4:=hid (HI.out.1.kx hk4 (by decide) (by decide) (by decide) (by decide) (by decide) (by decide))
    have HQ4:Hid (Fq [s,ho] W0 w4):=hid (HQ.out.drew.grown hg4 fun g hg=>.inl (by injection hg with hg;simp [hg]))
    have HS4:=hid hst4
    have s4:w4.cell? ⟨ho,1,none⟩=some (.slice GA i gc):=HI4.out.bo.cell 1
    have hw4:W0.heap.size<=w4.heap.size:=HQ4.out.size
    clear hk4 hst4 hg4 hsd
    refine ⟨s4,?_⟩
    (try simp only [sP])
    refine wpAnyE_one (i:=4) rfl (by kernel_rfl) rfl ?_
    go_simp
    have s5:(w4.alloc (.cells #[.int i64 v] 3)).cell? ⟨ho,1,none⟩=some (.slice GA i gc):=(HI4.out.bo.alloc _).cell 1
    refine ⟨s5,?_⟩
    (try simp only [sP])
    refine wpAnyE_if (i:=5) rfl (by kernel_rfl) rfl ?_
    refine step_append_one rfl (.tmp 26) (.tmp 29) 30 rfl W0.heap.size 3 i3 (.int i64 0) 1 8 Try.underlying30 hi3 hz30 hz31 hz32 rfl (by decide) (.slice GA i gc) i (G.map (Value.int .i64)) rfl (HI4.out.gown.alloc _) w4.heap.size 1 3 #[.int i64 v] rfl (Bk.new w4 _ _) rfl ?c1 (i+1) rfl ?c2 ?c3 ?c4 ?_
    case c1=>simp [Value.oneCell']
    case c2=>unfold maxLen;omega
    case c3=>omega
    case c4=>(simp;omega)
    intro g9 c9 w9 hown9 hg9 hat9
    have hbo9:Bk w9 ho 52 #[.slice kA kn kc,.slice GA i gc,.slice IA q ic]:=(HI4.out.bo.alloc _).grown hg9 (fun e=>own_ne HI4.out.gown HI4.out.bo (by decide) e.symm)
    have s9:w9.cell? ⟨ho,1,none⟩=some (.slice GA i gc):=hbo9.cell 1
    have f9:=hbo9.frozen 1
    refine ⟨fun _=>s9,?_⟩
    (try simp only [sP])
    refine wpAnyE_val (i:=6) (v:=.pointer (some ⟨ho,1,none⟩)) (d:=some 31) rfl rfl (by kernel_rfl) (by kernel_rfl) (by kernel_rfl) (by kernel_rfl) (fun _ _ _ h=>h) (Or.inl ⟨by rfl,fun w _=>by go_simp⟩) s9 ?_
    (try simp only [sP])
    refine wpAnyE_one (i:=7) rfl (by kernel_rfl) rfl ?_
    go_simp
    refine wpAnyE_done (by kernel_rfl) ?_ _
    have hWG:=HI4.out.gen hown9 hg9 (by rcases hat9 with h | h;exact .inl h;exact .inr h)
    obtain ⟨w5,hw5⟩:∃ w5,w5=w9.setCell ⟨ho,1,none⟩ (.slice (some ⟨g9,0,none⟩) (i+1) c9):=⟨_,rfl⟩
    have hB0:B<=W0.heap.size:=by omega
    have hB1:B<=ho:=by omega
    have hkB:Kx B [3,52] w4 w5:=by rw [hw5];exact (((Kx.refl (B:=B)).alloc _).grown (HI4.out.gown.alloc _) hg9 hB0 (by simp)).set hbo9 hB1 (by simp) 1 _
    have HS5:Hid (StrSt w5 B s):=hid (HS4.out.kx hkB (Nat.le_refl _) (HS4.out.lo hBs) (by decide))
    have HQ5:Hid (Fq [s,ho] W0 w5):=hid (by rw [hw5];exact ((HQ4.out.alloc _).grown hg9 (fun g hg=>.inr (HI4.out.gown.lt g hg).1)).set (.inl (by simp)) 1 _)
    rw [<- hw5] at hWG ⊢
    have HI5:=hid hWG.1
    have HW5:Hid (WwI holdK (ks.map Kd.p) (i+1) (G++[v]) (its.map It.p)):=hid (HI.out.2.gen hv0 (by omega))
    have HWO:=hid HI.out.2
    clear hWG hkB hown9 hg9 hat9 hbo9 s9 f9 s4 s5 s1 hw5 HI4 HS4 HQ4 HI HSt HQ
    go_wp2_with fail
    (with_reducible refine (HNX.out s B 5 _ HS5.out hBs (by omega) (by omega)).mono ?_)
    rintro e w6 ⟨u,rfl,hu0,hu1,hst6,hg6⟩
    have hk6:Kx 0 [189] w5 w6:=Kx.fq (B':=0) ((Fq.refl (w:=w5)).grown hg6 fun g hg=>.inl (by injection hg with hg;simp [hg])) HS5.out (Nat.zero_le _)
    have HI6:=hid (HI5.out.kx hk6 (by decide) (by decide) (by decide) (by decide) (by decide) (by decide))
    have HQ6:Hid (Fq [s,ho] W0 w6):=hid (HQ5.out.grown hg6 fun g hg=>.inl (by injection hg with hg;simp [hg]))
    have HS6:=hid hst6
    clear hk6 hst6 hg6 HI5 HQ5 HS5
    by_cases hu3:u=4
    . have t3:(u == 4)=true:=by simp [hu3]
      clear hu3
      go_wp2_with fail
      go_roundw
      case rel=>first | exact ⟨i+1,q,c9,ic,some ⟨g9,0,none⟩,IA,G++[v],its,by omega,by omega,by go_num,hid ⟨HI6.out,HW5.out⟩,HS6,HQ6⟩ | ((repeat apply Exists.intro);(refine And.intro ?_ ?_);rotate_left;(focus (repeat' first | exact rfl | apply And.intro));exact ⟨i+1,q,c9,ic,some ⟨g9,0,none⟩,IA,G++[v],its,by omega,by omega,by go_num,hid ⟨HI6.out,HW5.out⟩,HS6,HQ6⟩)
      case measure=>simp [intOf];omega
    . have t3:(u == 4)=false:=by simp [hu3]
      have e1:w6.cell? ⟨ho,1,none⟩=some (.slice (some ⟨g9,0,none⟩) (i+1) c9):=HI6.out.bo.cell 1
      clear hu3
      have hgi:w6.cell? ⟨g9,i,none⟩=some (.int i64 v):=by
       obtain ⟨b,o,hA,_,hcell⟩:=(Rd.of_own HI6.out.gown).at1 (k:=i) (by omega) (u:=.int i64 v) (by
        rw [List.map_append,List.getElem?_append_right (by rw [List.length_map,HWO.out.len];omega),List.length_map,HWO.out.len];simp)
       injection hA with hA
       injection hA with h1 h2
       subst h1;subst h2
       rw [Nat.zero_add] at hcell
       exact hcell
      have hg9:=(HI6.out.gown.lt g9 rfl)
      have hi1z:(i:Int)<(i:Int)+1:=by omega
      have hi0z:(0:Int)<=i:=by omega
      have hBG6:Bk w6 w.heap.size 110 #[.slice kA kn kc,.slice sA sn sc,.slice pA pn pc,.int i64 g0,.int i64 g1,.int i64 g2,.int i64 g3,.int i64 g4,.int i64 g5]:=(HQ6.out.low _ HBG.out.lt (by simp;omega)).trans HBG.out
      obtain ⟨w7,hw7⟩:∃ z,z=w6.alloc (.cells #[.int i64 (i:Int),.int i64 v,.slice none 0 0] 147):=⟨_,rfl⟩
      obtain ⟨hi_,hhi⟩:∃ z,z=w6.heap.size:=⟨_,rfl⟩
      have HB7:Hid (Below w6.heap.size w6 w7):=hid (by rw [hw7];exact (Below.refl _ _).alloc (Nat.le_refl _) _)
      have HH7:Hid (Bk w7 hi_ 147 #[.int i64 (i:Int),.int i64 v,.slice none 0 0]):=hid (by rw [hw7,hhi];exact Bk.new _ _ _)
      have g1:(w6.alloc (.cells #[.int i64 (i:Int),.int i64 v,.slice none 0 0] 147)).cell? ⟨w.heap.size,0,none⟩=some (.slice kA kn kc):=(hBG6.alloc _).cell 0
      have HVK:Hid (VkI w7 w6 B w6.heap.size s hi_ i v none 0 0 []):=hid ⟨HS6.out.below HB7.out (HS6.out.lo hBs),HH7.out,World.ownsRow_nil _ _ _ _,rfl,(fun z hz=>by cases hz),(fun z hz=>by cases hz),Fq.of_below HB7.out⟩
      have HKS7:Hid (KsY w7 0 kA kn kc ks):=hid (HI6.out.ks.keep (F:=[]) (Kx.of_below (B:=0) HB7.out) (by simp) (by simp))
      have HBW:Hid (B<=w6.heap.size/\w6.heap.size<=w7.heap.size/\w6.heap.size<=hi_):=hid ⟨HS6.out.lo hBs,HB7.out.size,by omega⟩
      have HHE:=hid hhi
      go_upto_block 2 with fail
      rw [<- hw7,<- hhi]
      clear hw7 hhi g1 e1 hgi hBG6
      refine vdKinds_any HKS7.out HON.out HPL.out HVK.out hBs HBW.out.1 (Nat.le_refl _) HBW.out.2.2 HBW.out.2.1 hkn ?_
      intros
      rename_i CA q2 cc l w8 H8
      have HQ68:Hid (Fq [s] w6 w8):=hid H8.out.2.1.fq
      have hk8:Kx 0 [189] w6 w8:=Kx.fq (B':=0) HQ68.out HS6.out (Nat.zero_le _)
      have HI8:=hid (HI6.out.kx hk8 (by decide) (by decide) (by decide) (by decide) (by decide) (by decide))
      have HQ8:Hid (Fq [s,ho] W0 w8):=hid (HQ6.out.trans HQ68.out (fun k hk=>.inl (by rw [show k=s by simpa using hk];simp)))
      have HS8:Hid (StrSt w8 B s):=hid H8.out.2.1.st
      have hq2:q2<=kn:=H8.out.1
      have HOL:=hid H8.out.2.1.own
      have HIT8:Hid (ItY w8 0 (⟨i,v,CA,q2,cc,l⟩:It)):=hid ⟨⟨RdY.of_own HOL.out,H8.out.2.1.len,(own_cap2 HOL.out).1,(own_cap2 HOL.out).2,H8.out.2.1.cm⟩,wf_i64 (by show _<=((i:Nat):Int);omega) (by show ((i:Nat):Int)<=_;omega),wf_i64 (by show _<=v;omega) (by show v<=_;omega)⟩
      have HNO:Hid (NoB (Value.slice (some ⟨g9,0,none⟩) (i+1) c9).ownBlock l):=hid (NoB.of_fr H8.out.2.1.fr (fun b hb=>by
       have e:g9=b:=by simpa [Value.ownBlock] using hb
       subst e
       exact ⟨Nat.zero_le _,hg9.2⟩))
      have HVC:=hid H8.out.2.2.1
      have HHI8:=hid H8.out.2.1.it
      clear hk8 H8 HVK HKS7 HH7 HB7
      have e2:w8.cell? ⟨ho,2,none⟩=some (.slice IA q ic):=HI8.out.bo.cell 2
      have k0:w8.cell? ⟨hi_,0,none⟩=some (.int i64 (i:Int)):=HHI8.out.cell 0
      have k1:w8.cell? ⟨hi_,1,none⟩=some (.int i64 v):=HHI8.out.cell 1
      have k2:w8.cell? ⟨hi_,2,none⟩=some (.slice CA q2 cc):=HHI8.out.cell 2
      obtain ⟨iI,hiI,hzI0,hzI1,hzI2⟩:=info_parts T.infoIt
      have hw8:W0.heap.size<=w8.heap.size:=HQ8.out.size
      have hB0:B<=W0.heap.size:=by omega
      go_wp2_with
       (at_builtin
        go_must (refine wpList_append_one _ rfl (.tmp 102) (.tmp 104) _ rfl W0.heap.size 147 iI (.agg #[.int i64 0,.int i64 0,.slice none 0 0]) 3 40 Try.underlying50 hiI hzI0 hzI1 hzI2 rfl (by decide) (.slice IA q ic) q (itCs its) rfl (HI8.out.iown.alloc _) w8.heap.size 1 147 #[.int i64 (i:Int),.int i64 v,.slice CA q2 cc] rfl (Bk.new _ _ _) rfl ?c1 (q+1) rfl ?c2 ?c3 ?c4 ?_)
        case c1=>simp [Value.oneCell']
        case c2=>unfold maxLen;omega
        case c3=>omega
        case c4=>(simp;omega)
        intro gA cA wA hownA hgA hatA
        have hboA:Bk wA ho 52 #[.slice kA kn kc,.slice (some ⟨g9,0,none⟩) (i+1) c9,.slice IA q ic]:=(HI8.out.bo.alloc _).grown hgA (fun e=>own_ne HI8.out.iown HI8.out.bo (by decide) e.symm)
        have z0:wA.cell? ⟨ho,2,none⟩=some (.slice IA q ic):=hboA.cell 2
        have z1:=hboA.frozen 2
        have hWI:=HI8.out.item HIT8.out HNO.out hownA hgA
        have hkB:Kx B [147,52] w8 (wA.setCell ⟨ho,2,none⟩ (.slice (some ⟨gA,0,none⟩) (q+1) cA)):=(((Kx.refl (B:=B)).alloc _).grown (HI8.out.iown.alloc _) hgA hB0 (by simp)).set hboA (by omega) (by simp) 2 _
        have HSN:Hid (StrSt (wA.setCell ⟨ho,2,none⟩ (.slice (some ⟨gA,0,none⟩) (q+1) cA)) B s):=hid (HS8.out.kx hkB (Nat.le_refl _) (HS8.out.lo hBs) (by decide))
        have HQN:Hid (Fq [s,ho] W0 (wA.setCell ⟨ho,2,none⟩ (.slice (some ⟨gA,0,none⟩) (q+1) cA))):=hid (((HQ8.out.alloc _).grown hgA (fun g hg=>.inr (HI8.out.iown.lt g hg).1)).set (.inl (by simp)) 2 _)
        have HIN:Hid (WI r ho W0.heap.size (wA.setCell ⟨ho,2,none⟩ (.slice (some ⟨gA,0,none⟩) (q+1) cA)) kA kn kc ks (some ⟨g9,0,none⟩) (i+1) c9 (G++[v]) (some ⟨gA,0,none⟩) (q+1) cA (its++[(⟨i,v,CA,q2,cc,l⟩:It)])/\WwI holdK (ks.map Kd.p) (i+1) (G++[v]) ((its++[(⟨i,v,CA,q2,cc,l⟩:It)]).map It.p)):=hid ⟨hWI.1,by
         rw [List.map_append]
         exact HWO.out.item hv0 (by omega) HVC.out⟩
        clear hWI hkB hownA hgA hatA hboA)
      go_roundw
      case rel=>first | exact ⟨i+1,q+1,c9,cA,some ⟨g9,0,none⟩,some ⟨gA,0,none⟩,G++[v],its++[(⟨i,v,CA,q2,cc,l⟩:It)],by omega,by omega,by go_num,HIN,HSN,HQN⟩ | ((repeat apply Exists.intro);(refine And.intro ?_ ?_);rotate_left;(focus (repeat' first | exact rfl | apply And.intro));exact ⟨i+1,q+1,c9,cA,some ⟨g9,0,none⟩,some ⟨gA,0,none⟩,G++[v],its++[(⟨i,v,CA,q2,cc,l⟩:It)],by omega,by omega,by go_num,HIN,HSN,HQN⟩)
      case measure=>simp [intOf];omega
  . obtain rfl:N=i:=by omega
    have b0:wr.cell? ⟨ho,0,none⟩=some (.slice kA kn kc):=HI.out.1.bo.cell 0
    have b1:wr.cell? ⟨ho,1,none⟩=some (.slice GA N gc):=HI.out.1.bo.cell 1
    have b2:wr.cell? ⟨ho,2,none⟩=some (.slice IA q ic):=HI.out.1.bo.cell 2
    have n0:wr.cell? ⟨r,0,none⟩=some (.slice none 0 0):=HI.out.1.bR.cell 0
    have n1:wr.cell? ⟨r,1,none⟩=some (.slice none 0 0):=HI.out.1.bR.cell 1
    have n2:wr.cell? ⟨r,2,none⟩=some (.slice none 0 0):=HI.out.1.bR.cell 2
    have m0:=HI.out.1.bR.frozen 0
    have m1:=HI.out.1.bR.frozen 1
    have m2:=HI.out.1.bR.frozen 2
    go_wp2_with fail
    (try simp only [Exit.inBlock,Exit.then])
    have hkx:=Kx.set3 (B:=0) (F:=[52]) Kx.refl HI.out.1.bR (Nat.zero_le _) (by simp) 0 1 2 (.slice kA kn kc) (.slice GA N gc) (.slice IA q ic)
    have hvw:=HI.out.2.done (by omega)
    have hgw:∀ g∈G,(Lit.int i64 g).wf=true:=fun g hg=>by have:=HI.out.2.gens g hg;exact wf_i64 (by omega) (by omega)
    have hbel:Below w.heap.size w wr:=HB0.out.trans (HQ.out.below (fun k hk=>by (have hk:k=s\/k=ho:=(by simpa using hk));omega) HB0.out.size)
    have hwr2:w.heap.size<=r:=by omega
    refine bodyPost_ret (v:=.agg #[.slice kA kn kc,.slice GA N gc,.slice IA q ic]) ?_ rfl ⟨⟨kA,kn,kc,ks,GA,N,gc,G,IA,q,ic,its⟩,rfl,hid ⟨⟨⟨HI.out.1.ks.keep hkx (by decide) (by decide),(GsY.own HI.out.1.gown hgw).keep hkx (by decide),(IsY.of_own HI.out.1.iown HI.out.1.len HI.out.1.iok).keep hkx (by decide) (by decide) (by decide)⟩,hvw⟩,rfl,rfl,rfl,rfl,?_,?_⟩,?_⟩
    . rw [results_c1 rfl]
      go_simp
    . show its.length<=5
      have:=HI.out.1.len
      omega
    . show G.length<=5
      have:=HI.out.2.len
      omega
    . exact ((hbel.setCell (p:=⟨r,0,none⟩) hwr2 _).setCell (p:=⟨r,1,none⟩) hwr2 _).setCell (p:=⟨r,2,none⟩) hwr2 _
end Go.Proofs.Ytnidcmhfbkdioaa
