/-
  Lemmas for the walk, merged (Mt Mu). No condition but those in each statement.
-/
import Derived.Test.YtnidcmhfbkdioaaSw18
import Derived.Test.YtnidcmhfbkdioaaSw14
import Derived.Test.YtnidcmhfbkdioaaSw9
import Derived.Test.YtnidcmhfbkdioaaSw11
namespace Go.Proofs.Ytnidcmhfbkdioaa
open Go.RowKit
open Go.IntKind (i64)
open Go.Lib (hid)
set_option maxRecDepth 100000
theorem Kx.fq {w w':World} {B B' s:Nat} (h:Fq [s] w w') (hs:StrSt w B s) (hB:B'<=s):Kx B' [189] w w':=by
 obtain ⟨cs,hk⟩:=hs.bk
 refine ⟨h.size,fun b h1 h2=>h.low b h2 (by simp;omega),fun b t cs' h1 h2=>(h.low b h1.lt fun hb=>?_).trans h1⟩
 have e:b=s:=by simpa using hb
 subst e
 exact Bk.ne_ h1 hk (fun e=>h2 (by rw [e];simp)) rfl
theorem StrSt.kx {w w':World} {B B' s:Nat} {F:List TypeId} (h:StrSt w B s) (hq:Kx B' F w w') (hB:B<=B') (hw:B<=w.heap.size) (hF:(189:TypeId) ∉ F):StrSt w' B s:=by
 obtain ⟨A,n,c,zs,h1,h2,h3,h4,h5,h6⟩:=h
 exact ⟨A,n,c,zs,hq.bk h1 hF,h2,h3,h4,h5.keep fun b hb=>hq.low b (by omega) (by omega),h6⟩
theorem StrSt.lo {w:World} {B s:Nat} (h:StrSt w B s) (hB:B<=s):B<=w.heap.size:=by
 obtain ⟨cs,hk⟩:=h.bk
 have:=hk.lt
 omega
theorem wrap_small {x:Int} (h1 : -9223372036854775808<=x) (h2:x<=9223372036854775807):wrap64 x=x:=by unfold wrap64;omega
theorem wrap_small2 {x:Int} (h1 : -9223372036854775808<=x) (h2:x<=9223372036854775807):IntKind.i64.wrap x=x:=by rw [IntKind.wrap_i64];omega
theorem mk_range {fds:List Fd} {vs:List Int} {j bt:Nat} {lo v M:Int} {f:Fd} (hl:vs.length=j) (h:∀ t f,t<j->fds[t]?=some f->f.low<=vs.getD t 0/\vs.getD t 0<f.low+2^f.bits.toNat) (hf:fds[j]?=some f) (hb:f.bits=bt) (hlo:f.low=lo) (hM:M=(2:Int)^bt) (h0:0<=v) (h1:v<M) :
 ∀ t f,t<j+1->fds[t]?=some f->f.low<=(vs++[lo+v]).getD t 0/\(vs++[lo+v]).getD t 0<f.low+2^f.bits.toNat:=by
 intro t g ht hg
 by_cases htj:t<j
 . have:=h t g htj hg
   have e:(vs++[lo+v]).getD t 0=vs.getD t 0:=by simp only [List.getD];rw [List.getElem?_append_left (by omega)]
   rw [e];exact this
 . have htj:t=j:=by omega
   subst htj
   rw [hf] at hg
   injection hg with hg
   subst hg
   have e:(vs++[lo+v]).getD t 0=lo+v:=by rw [<- hl];simp [List.getD]
   rw [e,hlo,hb,Int.toNat_natCast,<- hM]
   constructor <;> omega
set_option maxHeartbeats 8000000 in
theorem mkcomps_any (s B:Nat) (A:Option Addr) (n c:Nat) (ks:List Kd) (w:World) (hst:StrSt w B s) (hB:B<=s) (hk:KsY w B A n c ks) (hone:∀ k∈ks,oneF k.nm k.fds=0) (hn:n<=16) :
 Calls Try.prog 102 #[.slice A n c,.pointer (some ⟨s,0,none⟩)] w fun e w'=>∃ (CA:Option Addr) (cc:Nat) (l:List Cm),e=.returned (.slice CA l.length cc)/\Hid (CsY w' 0 CA l.length cc l/\VCs holdK (ks.map Kd.p) (l.map Cm.p)/\Fr w.heap.size 0 l)/\StrSt w' B s/\Fq [s] w w':=by
 have HST:=hid hst
 have HNX:=hid next_any
 have HK:=hid hk
 have HON:=hid hone
 have hcap:=hk.cap
 have hcap2:=hk.cap2
 have hsl:s<w.heap.size:=by obtain ⟨cs,h⟩:=hst.bk;exact h.lt
 obtain ⟨i1,hi1,hz10,hz11,hz12⟩:=info_parts T.infoCm
 obtain ⟨i3,hi3,hz30,hz31,hz32⟩:=info_parts T.info3
 clear hst hk hone
 go_enter Try.func102,Try.ntmps102
 go_wp2_with fail
 go_loopw [5,13] (fun ov iv wr=>∃ (i q oc:Nat) (OA:Option Addr) (l1:List Cm),i<=n/\q<=i/\iv=.int i64 i/\ov=.slice OA q oc/\Hid (wr.ownsRow w.heap.size 166 2 (.slice OA q oc) q (cmCs l1)/\q=l1.length/\(∀ z∈l1,CmY wr 0 z)/\CwI holdK (ks.map Kd.p) i (l1.map Cm.p)/\Fr w.heap.size 0 l1)/\Hid (StrSt wr B s)/\Hid (Fq [s] w wr)) (fun _ iv _=>n-(intOf iv).toNat)
 case atStart=>exact ⟨0,0,0,none,[],Nat.zero_le _,Nat.le_refl _,rfl,rfl,hid ⟨World.ownsRow_nil _ _ _ _,rfl,(fun z hz=>by cases hz),CwI.zero,(fun z hz=>by cases hz)⟩,HST,hid Fq.refl⟩
 case round =>
  obtain ⟨i,q,oc,OA,l1,hi,hqi,rfl,rfl,HL,HS,HQ⟩:=hrel
  obtain ⟨wo,rfl⟩:∃ x,x=wr:=⟨_,rfl⟩
  by_cases hlt:i<n
  . have hiz:(i:Int)<n:=by omega
    obtain ⟨k,hk⟩:∃ k,ks[i]?=some k:=⟨_,List.getElem?_eq_getElem (by have:=HK.out.len;omega)⟩
    have hkx:=Kx.fq (B':=B) HQ.out HST.out hB
    have hky:=HK.out.keep hkx (by decide) (by decide)
    have hko:=hky.ok k (List.mem_of_getElem? hk)
    obtain ⟨b,o,rfl,hbb,q0,q1⟩:=hky.rd.rd.kd hlt hk
    have hwsz:w.heap.size<=wo.heap.size:=HQ.out.size
    obtain ⟨w1,hw1⟩:∃ w1,w1=wo.alloc (.cells #[.string k.nm,.slice k.A k.n k.c] 63):=⟨_,rfl⟩
    have HK1:Hid (Bk w1 wo.heap.size 63 #[.string k.nm,.slice k.A k.n k.c]):=hid (by rw [hw1];exact Bk.new _ _ _)
    have HB1:Hid (Below wo.heap.size wo w1):=hid (by rw [hw1];exact (Below.refl _ _).alloc (Nat.le_refl _) _)
    have HS1:Hid (StrSt w1 B s):=hid (HS.out.below HB1.out (HS.out.lo hB))
    have HKO:=hid hko
    have HKK:=hid hk
    have hkcap:=hko.cap
    have hkcap2:=hko.cap2
    clear hk hkx hky hko
    generalize hknm:k.nm=knm at *
    generalize hkA:k.A=kA at *
    generalize hkn:k.n=kn at *
    generalize hkc:k.c=kc at *
    have HKV:=hid (And.intro hknm (And.intro hkA (And.intro hkn hkc)))
    clear hknm hkA hkn hkc
    go_wp2_with fail
    rw [<- hw1]
    clear hw1 q0 q1
    (with_reducible refine (HNX.out s B 3 _ HS1.out hB (by omega) (by omega)).mono ?_)
    rintro e w2 ⟨v,rfl,hv0,hv1,hst2,hg2⟩
    have hxs:wo.heap.size≠s:=by omega
    have hk2:Bk w2 wo.heap.size 63 #[.string knm,.slice kA kn kc]:=HK1.out.grown hg2 (fun e=>by injection e with e;omega)
    have HQ2:Hid (Fq [s] wo w2):=hid ((Fq.of_below HB1.out).grown hg2 fun g hg=>.inl (by injection hg with hg;simp [hg]))
    have HS2:=hid hst2
    have HK2:=hid hk2
    clear hst2 hg2 hk2 HK1 HS1 HB1
    by_cases hv2:v=2
    . have t2:(v == 2)=true:=by simp [hv2]
      have hkx:=Kx.fq (B':=0) HQ2.out HS.out (Nat.zero_le _)
      have HLN:Hid (w2.ownsRow w.heap.size 166 2 (.slice OA q oc) q (cmCs l1)/\q=l1.length/\(∀ z∈l1,CmY w2 0 z)/\CwI holdK (ks.map Kd.p) (i+1) (l1.map Cm.p)/\Fr w.heap.size 0 l1):=hid ⟨hkx.own HL.out.1 (by decide),HL.out.2.1,fun z hz=>(HL.out.2.2.1 z hz).keep hkx (by decide),HL.out.2.2.2.1.skip,HL.out.2.2.2.2⟩
      have HQN:Hid (Fq [s] w w2):=hid (HQ.out.trans HQ2.out (SubF.refl _ _))
      clear hkx hv2
      go_wp2_with fail
      go_roundw
      case rel=>exact ⟨i+1,q,oc,OA,l1,by omega,by omega,by go_num,rfl,HLN,HS2,HQN⟩
      case measure=>simp [intOf];omega
    . have t2:(v == 2)=false:=by simp [hv2]
      clear hv2
      have c1:w2.cell? ⟨wo.heap.size,1,none⟩=some (.slice kA kn kc):=HK2.out.cell 1
      have c2:(w2.alloc (.cells #[.int i64 (i:Int),.slice none 0 0] 166)).cell? ⟨wo.heap.size,1,none⟩=some (.slice kA kn kc):=(HK2.out.alloc _).cell 1
      obtain ⟨w3,hw3⟩:∃ w3,w3=w2.alloc (.cells #[.int i64 (i:Int),.slice none 0 0] 166):=⟨_,rfl⟩
      have HB3:Hid (Below w2.heap.size w2 w3):=hid (by rw [hw3];exact (Below.refl _ _).alloc (Nat.le_refl _) _)
      have HC3:Hid (Bk w3 w2.heap.size 166 #[.int i64 (i:Int),.slice none 0 0]):=hid (by rw [hw3];exact Bk.new _ _ _)
      have HS3:Hid (StrSt w3 B s):=hid (HS2.out.below HB3.out (HS2.out.lo hB))
      have HQ3:Hid (Fq [s] wo w3):=hid (HQ2.out.trans (Fq.of_below HB3.out) (SubF.refl _ _))
      have hw2s:wo.heap.size<w2.heap.size:=HK2.out.lt
      have hkn8:kn<=8:=by
       have h1:=HON.out k (List.mem_of_getElem? HKK.out)
       have h2:=oneF_len h1
       have h3:=HKO.out.len
       rw [HKV.out.2.2.1] at h3
       omega
      go_wp2_with fail
      rw [<- hw3]
      clear hw3 c1 c2
      obtain ⟨hc,hhc⟩:∃ hc,hc=w2.heap.size:=⟨_,rfl⟩
      rw [<- hhc] at HC3 hw2s ⊢
      have HHC:=hid hhc
      clear hhc
      go_loopw [26] (fun jv wx=>∃ (j vc:Nat) (VA:Option Addr) (vs:List Int),j<=kn/\jv=.int i64 j/\Hid (Bk wx hc 166 #[.int i64 (i:Int),.slice VA j vc]/\wx.ownsRow w2.heap.size 3 1 (.slice VA j vc) j (vs.map (Value.int .i64))/\vs.length=j/\∀ t f,t<j->k.fds[t]?=some f->f.low<=vs.getD t 0/\vs.getD t 0<f.low+2^f.bits.toNat)/\Hid (StrSt wx B s)/\Hid (Fq [s] wo wx)) (fun jv _=>kn-(intOf jv).toNat)
      case atStart=>exact ⟨0,0,none,[],Nat.zero_le _,rfl,hid ⟨HC3.out,World.ownsRow_nil _ _ _ _,rfl,(fun t f ht=>by omega)⟩,HS3,HQ3⟩
      case round =>
       clear HC3 HS3 HQ3
       obtain ⟨j,vc,VA,vs,hj,rfl,HV,HSx,HQx⟩:=hrel
       by_cases hjl:j<kn
       . have hjz:(j:Int)<kn:=by omega
         have hkf:=Kx.fq (B':=B) HQx.out HS.out hB
         have hrd:=(HKO.out.rd.keep hkf (by decide)).rd
         rw [HKV.out.2.1,HKV.out.2.2.1] at hrd
         obtain ⟨f,hf⟩:∃ f,k.fds[j]?=some f:=⟨_,List.getElem?_eq_getElem (by have:=HKO.out.len;rw [HKV.out.2.2.1] at this;omega)⟩
         obtain ⟨fb,fo,rfl,hfb,e0,e1,e2⟩:=hrd.fd hjl hf
         have hfok:=field_ok (one_ok (HON.out k (List.mem_of_getElem? HKK.out)) (List.mem_of_getElem? hf))
         have HF:=hid hf
         clear hf hkf hrd
         generalize hfnm:f.nm=fnm at *
         obtain ⟨bt,hbt⟩:∃ bt:Nat,f.bits=bt:=⟨f.bits.toNat,by omega⟩
         generalize hlo:f.low=lo at *
         rw [hbt] at e1 hfok
         have p1:=pow2_one bt
         have p2:=pow2_32 bt (by omega)
         obtain ⟨M,hM⟩:∃ M,M=(2:Int)^bt:=⟨_,rfl⟩
         rw [<- hM] at p1 p2
         have hsh:wrap64 ((2:Int)^bt)=M:=by rw [<- hM];exact wrap_small (Int.le_trans (by decide) p1) (Int.le_trans p2 (by decide))
         have hsh2:IntKind.i64.wrap ((2:Int)^bt)=M:=by rw [<- hM];exact wrap_small2 (Int.le_trans (by decide) p1) (Int.le_trans p2 (by decide))
         have HM:=hid hM
         clear hM
         have HP:=hid (And.intro p1 p2)
         have HFV:=hid (And.intro hbt hlo)
         have hb32:bt<=32:=by omega
         have hb0:(0:Int)<=bt:=by omega
         have hlo1 : -4294967296<=lo:=hfok.2.2.1
         have hlo2:lo<=4294967296:=hfok.2.2.2
         clear hfok p1 p2 hbt hlo hfnm
         obtain ⟨w5,hw5⟩:∃ w5,w5=wr.alloc (.cells #[.string fnm,.int i64 bt,.int i64 lo] 66):=⟨_,rfl⟩
         have HB5:Hid (Below wr.heap.size wr w5):=hid (by rw [hw5];exact (Below.refl _ _).alloc (Nat.le_refl _) _)
         have hh5:Bk w5 wr.heap.size 66 #[.string fnm,.int i64 bt,.int i64 lo]:=by rw [hw5];exact Bk.new _ _ _
         have hcw:hc<wr.heap.size:=HV.out.1.lt
         have hs5:StrSt w5 B s:=HSx.out.below HB5.out (HSx.out.lo hB)
         have hv5:Bk w5 hc 166 #[.int i64 (i:Int),.slice VA j vc]:=HV.out.1.below HB5.out hcw
         have how5:w5.ownsRow w2.heap.size 3 1 (.slice VA j vc) j (vs.map (Value.int .i64)):=(Kx.of_below (B:=0) (F:=[]) HB5.out).own HV.out.2.1 (by simp)
         go_wp2_with fail
         rw [<- hw5]
         clear hw5 e0 e1 e2
         have hws:w.heap.size<=wo.heap.size:=HQ.out.size
         have hfs:wr.heap.size≠s:=by have:=HQx.out.size;omega
         have hcs:hc≠s:=by omega
         have hw5s:w.heap.size<=w5.heap.size:=by have:=HB5.out.size;have:=HQx.out.size;omega
         have d1:w5.cell? ⟨wr.heap.size,1,none⟩=some (.int i64 bt):=hh5.cell 1
         have d2:w5.cell? ⟨wr.heap.size,2,none⟩=some (.int i64 lo):=hh5.cell 2
         have d3:w5.cell? ⟨hc,1,none⟩=some (.slice VA j vc):=hv5.cell 1
         have HH5:=hid hh5
         have HV5:=hid hv5
         have HO5:=hid how5
         have HS5:=hid hs5
         have hw2w5:w2.heap.size<=w5.heap.size:=by have:=HO5.out;have:=HB5.out.size;have:=HQx.out.size;have:=HHC.out;omega
         clear hh5 hv5 how5 hs5
         go_region_law
          (first
           | (go_simp
              go_at_call 98
              (with_reducible refine (HNX.out s B M _ (HS5.out.below (w':=w5.drew) (Below.refl _ _).drew (HS5.out.lo hB)) hB HP.out.1 ?hM).mono ?_)
              case hM=>(have h:=HP.out.2;omega)
              rintro e w6 ⟨v6,rfl,hv60,hv61,hst6,hg6⟩
              have hh6:=HH5.out.drew.grown hg6 (fun e=>by injection e with e;omega)
              have hv6:=HV5.out.drew.grown hg6 (fun e=>by injection e with e;omega)
              have hwv:IntKind.i64.wrap (lo+v6)=lo+v6:=by (have h:=HP.out.2;exact wrap_small2 (by omega) (by omega))
              have g1:w6.cell? ⟨wr.heap.size,1,none⟩=some (.int i64 bt):=hh6.cell 1
              have g2:w6.cell? ⟨wr.heap.size,2,none⟩=some (.int i64 lo):=hh6.cell 2
              have g3:w6.cell? ⟨hc,1,none⟩=some (.slice VA j vc):=hv6.cell 1
              have g4:(w6.alloc (.cells #[.int i64 (lo+v6)] 3)).cell? ⟨hc,1,none⟩=some (.slice VA j vc):=(hv6.alloc _).cell 1
              have how6:w6.ownsRow w2.heap.size 3 1 (.slice VA j vc) j (vs.map (Value.int .i64)):=own_keepB HO5.out fun g hg=>hg6.block g (HO5.out.lt g hg).2 (fun e=>by injection e with e;have:=(HO5.out.lt g hg).1;have:=HHC.out;omega))
           | (refine step_append_one rfl (.tmp 31) (.tmp 40) 30 rfl w2.heap.size 3 i3 (.int i64 0) 1 8 Try.underlying30 hi3 hz30 hz31 hz32 rfl (by decide) (.slice VA j vc) j (vs.map (Value.int .i64)) rfl (World.ownsRow.alloc (w:=w6) how6 _) w6.heap.size 1 3 #[.int i64 (lo+v6)] rfl (Bk.new w6 _ _) rfl ?c1 (j+1) rfl ?c2 ?c3 ?c4 ?_
              case c1=>simp [Value.oneCell']
              case c2=>unfold maxLen;omega
              case c3=>omega
              case c4=>(have:=hg6.size;simp at this;simp;omega)
              intro g7 c7 w7 hown7 hg7 hat7
              have hv7:=(hv6.alloc (.cells #[.int i64 (lo+v6)] 3)).grown hg7 (fun e=>own_ne how6 hv6 (by decide) e.symm)
              have e3:w7.cell? ⟨hc,1,none⟩=some (.slice VA j vc):=hv7.cell 1
              have f3:w7.frozen? ⟨hc,1,none⟩=false:=hv7.frozen 1))
         all_goals
          have hkx:Kx B [3,166] w6 (w7.setCell ⟨hc,1,none⟩ (.slice (some ⟨g7,0,none⟩) (j+1) c7)):=(((Kx.refl (B:=B)).alloc _).grown (World.ownsRow.alloc (w:=w6) how6 _) hg7 (by have:=HHC.out;omega) (by simp)).set hv7 (by have:=HHC.out;omega) (by simp) 1 _
          have HVN:Hid (Bk (w7.setCell ⟨hc,1,none⟩ (.slice (some ⟨g7,0,none⟩) (j+1) c7)) hc 166 #[.int i64 (i:Int),.slice (some ⟨g7,0,none⟩) (j+1) c7]/\(w7.setCell ⟨hc,1,none⟩ (.slice (some ⟨g7,0,none⟩) (j+1) c7)).ownsRow w2.heap.size 3 1 (.slice (some ⟨g7,0,none⟩) (j+1) c7) (j+1) ((vs++[lo+v6]).map (Value.int .i64))/\(vs++[lo+v6]).length=j+1/\∀ t f,t<j+1->k.fds[t]?=some f->f.low<=(vs++[lo+v6]).getD t 0/\(vs++[lo+v6]).getD t 0<f.low+2^f.bits.toNat):=hid
           ⟨by simpa using hv7.set_ 1 (.slice (some ⟨g7,0,none⟩) (j+1) c7),by rw [List.map_append];exact own_far hown7 hv7 (by decide) 1 _,by rw [List.length_append,HV.out.2.2.1];rfl,mk_range HV.out.2.2.1 HV.out.2.2.2 HF.out HFV.out.1 HFV.out.2 HM.out hv60 hv61⟩
          have HSN:Hid (StrSt (w7.setCell ⟨hc,1,none⟩ (.slice (some ⟨g7,0,none⟩) (j+1) c7)) B s):=hid (hst6.kx hkx (Nat.le_refl _) (hst6.lo hB) (by decide))
          have HQN:Hid (Fq [s] wo (w7.setCell ⟨hc,1,none⟩ (.slice (some ⟨g7,0,none⟩) (j+1) c7))):=hid ((((((HQx.out.trans (Fq.of_below HB5.out) (SubF.refl _ _)).drew).grown hg6 (fun g hg=>.inl (by injection hg with hg;simp [hg]))).alloc _).grown hg7 (fun g hg=>.inr (by have:=(how6.lt g hg).1;have:=HHC.out;omega))).set (.inr (by have:=HHC.out;omega)) 1 _)
          clear hkx hown7 hg7 hat7 hv7 e3 f3 how6 g1 g2 g3 g4 hh6 hv6 hst6 hg6 hwv d1 d2 d3
          go_wp2_with fail
          go_roundw
          case rel=>exact ⟨j+1,c7,some ⟨g7,0,none⟩,vs++[lo+v6],by omega,by go_num,HVN,HSN,HQN⟩
          case measure=>simp [intOf];omega
       . obtain rfl:kn=j:=by omega
         have e0:wr.cell? ⟨hc,0,none⟩=some (.int i64 (i:Int)):=HV.out.1.cell 0
         have e1:wr.cell? ⟨hc,1,none⟩=some (.slice VA kn vc):=HV.out.1.cell 1
         have hkx:=Kx.fq (B':=0) HQx.out HS.out (Nat.zero_le _)
         have HOW:=hid (hkx.own HL.out.1 (by decide))
         have HZ:Hid (∀ z∈l1,CmY wr 0 z):=hid fun z hz=>(HL.out.2.2.1 z hz).keep hkx (by decide)
         have hwsz2:w.heap.size<=wr.heap.size:=by have:=HQx.out.size;omega
         clear hkx
         go_wp2_with
          (at_builtin
           go_must (refine wpList_append_one _ rfl (.tmp 44) (.tmp 46) _ rfl w.heap.size 166 i1 (.agg #[.int i64 0,.slice none 0 0]) 2 32 Try.underlying38 hi1 hz10 hz11 hz12 rfl (by decide) (.slice OA q oc) q (cmCs l1) rfl (HOW.out.alloc _) wr.heap.size 1 166 #[.int i64 (i:Int),.slice VA kn vc] rfl (Bk.new _ _ _) rfl ?c1 (q+1) rfl ?c2 ?c3 ?c4 ?_)
           case c1=>simp [Value.oneCell']
           case c2=>unfold maxLen;omega
           case c3=>omega
           case c4=>(simp;omega)
           intro g8 c8 w8 hown8 hg8 hat8)
         have hkx8:Kx 0 [166] wr w8:=((Kx.refl (B:=0)).alloc _).grown (HOW.out.alloc _) hg8 (Nat.zero_le _) (by simp)
         have hcp:=own_cap2 HV.out.2.1
         have hkl:kn=vs.length:=HV.out.2.2.1.symm
         have HLN:Hid (w8.ownsRow w.heap.size 166 2 (.slice (some ⟨g8,0,none⟩) (q+1) c8) (q+1) (cmCs (l1++[(⟨i,VA,kn,vc,vs⟩:Cm)]))/\q+1=(l1++[(⟨i,VA,kn,vc,vs⟩:Cm)]).length/\(∀ z∈l1++[(⟨i,VA,kn,vc,vs⟩:Cm)],CmY w8 0 z)/\CwI holdK (ks.map Kd.p) (i+1) ((l1++[(⟨i,VA,kn,vc,vs⟩:Cm)]).map Cm.p)/\Fr w.heap.size 0 (l1++[(⟨i,VA,kn,vc,vs⟩:Cm)])):=hid ⟨by
          rw [show cmCs (l1++[(⟨i,VA,kn,vc,vs⟩:Cm)])=cmCs l1++(#[Value.int i64 (i:Int),.slice VA kn vc]:Array Value).toList by simp [cmCs,Cm.cs]]
          exact hown8,by simp [HL.out.2.1],fun z hz=>by
          rcases List.mem_append.1 hz with hz | hz
          . exact (HZ.out z hz).keep hkx8 (by decide)
          . rw [show z=⟨i,VA,kn,vc,vs⟩ by simpa using hz]
            exact ⟨(RdY.of_own HV.out.2.1).keep hkx8 (by decide),hkl,hcp.1,hcp.2,wf_i64 (by show _<=((i:Nat):Int);omega) (by show ((i:Nat):Int)<=_;omega)⟩,by
          rw [List.map_append]
          refine HL.out.2.2.2.1.keep (d:=k.p) (by rw [List.getElem?_map,HKK.out];rfl) ?_
          have hlen:vs.length=k.fds.length:=by have:=HKO.out.len;rw [HKV.out.2.2.1] at this;rw [<- hkl];exact this
          exact hold_of (HON.out k (List.mem_of_getElem? HKK.out)) hlen fun t f hf=>HV.out.2.2.2 t f (by have:=(List.getElem?_eq_some_iff.1 hf).1;have h9:(k.p).2=k.fds:=rfl;rw [h9] at this;omega) hf,fun z hz hn b o hA=>by
          rcases List.mem_append.1 hz with hz | hz
          . exact HL.out.2.2.2.2 z hz hn b o hA
          . rw [show z=⟨i,VA,kn,vc,vs⟩ by simpa using hz] at hA
            have hA:VA=some ⟨b,o,none⟩:=hA
            subst hA
            have:=(HV.out.2.1.lt b rfl).1
            have:=HHC.out
            exact .inr (by omega)⟩
         have HSN:Hid (StrSt w8 B s):=hid (HSx.out.kx (((Kx.refl (B:=B)).alloc _).grown (F:=[166]) (HOW.out.alloc _) hg8 (by have:=HST.out.lo hB;omega) (by simp)) (Nat.le_refl _) (HSx.out.lo hB) (by decide))
         have HQN:Hid (Fq [s] w w8):=hid (((HQ.out.trans HQx.out (SubF.refl _ _)).alloc _).grown hg8 (fun g hg=>.inr (HOW.out.lt g hg).1))
         clear hkx8 hown8 hg8 hat8 e0 e1
         go_wp2_with fail
         go_roundw
         case rel=>first | exact ⟨i+1,q+1,c8,some ⟨g8,0,none⟩,l1++[(⟨i,VA,kn,vc,vs⟩:Cm)],by omega,by omega,by go_num,rfl,HLN,HSN,HQN⟩ | ((repeat apply Exists.intro);exact ⟨⟨i+1,q+1,c8,some ⟨g8,0,none⟩,l1++[(⟨i,VA,kn,vc,vs⟩:Cm)],by omega,by omega,by go_num,rfl,HLN,HSN,HQN⟩,rfl⟩)
         case measure=>simp [intOf];omega
  . obtain rfl:n=i:=by omega
    have hcp:=own_cap2 HL.out.1
    have hql:=HL.out.2.1
    go_wp2_with fail
    go_ret
    subst hql
    exact ⟨OA,oc,l1,rfl,hid ⟨⟨RdY.of_own HL.out.1,rfl,hcp.1,hcp.2,HL.out.2.2.1⟩,HL.out.2.2.2.1.done,HL.out.2.2.2.2⟩,HS.out,HQ.out⟩
structure WI (r ho base:Nat) (wr:World) (kA:Option Addr) (kn kc:Nat) (ks:List Kd) (GA:Option Addr) (n gc:Nat) (G:List Int) (IA:Option Addr) (q ic:Nat) (its:List It):Prop where
 bR:Bk wr r 52 #[.slice none 0 0,.slice none 0 0,.slice none 0 0]
 bo:Bk wr ho 52 #[.slice kA kn kc,.slice GA n gc,.slice IA q ic]
 ks:KsY wr 0 kA kn kc ks
 gown:wr.ownsRow base 3 1 (.slice GA n gc) n (G.map (Value.int .i64))
 iown:wr.ownsRow base 147 3 (.slice IA q ic) q (itCs its)
 len:q=its.length
 iok:∀ it∈its,ItY wr 0 it
 nob:∀ it∈its,NoB (Value.slice GA n gc).ownBlock it.cms
 hro:r<ho
section
variable {r ho base:Nat} {wr w':World} {kA:Option Addr} {kn kc:Nat} {ks:List Kd} {GA:Option Addr} {n gc:Nat} {G:List Int} {IA:Option Addr} {q ic:Nat} {its:List It}
theorem WI.kx {B:Nat} {F:List TypeId} (H:WI r ho base wr kA kn kc ks GA n gc G IA q ic its) (hq:Kx B F wr w') (h52:(52:TypeId) ∉ F) (h63:(63:TypeId) ∉ F) (h66:(66:TypeId) ∉ F) (h3:(3:TypeId) ∉ F) (h147:(147:TypeId) ∉ F) (h166:(166:TypeId) ∉ F):WI r ho base w' kA kn kc ks GA n gc G IA q ic its :=
 ⟨hq.bk H.bR h52,hq.bk H.bo h52,H.ks.keep (hq.mono (Nat.zero_le _) (fun _ h=>h)) h66 h63,hq.own H.gown h3,hq.own H.iown h147,H.len,fun it hit=>(H.iok it hit).keep (hq.mono (Nat.zero_le _) (fun _ h=>h)) h3 h166,H.nob,H.hro⟩
theorem WI.item (H:WI r ho base wr kA kn kc ks GA n gc G IA q ic its) {w8:World} {g8 c8:Nat} {it:It} {o:Obj} (hi:ItY wr 0 it) (hno:NoB (Value.slice GA n gc).ownBlock it.cms)
 (hown8:w8.ownsRow base 147 3 (.slice (some ⟨g8,0,none⟩) (q+1) c8) (q+1) (itCs its++[.int i64 it.e,.int i64 it.g,.slice it.A it.n it.c])) (hg8:(wr.alloc o).grownBy w8 (Value.slice IA q ic).ownBlock) :
 WI r ho base (w8.setCell ⟨ho,2,none⟩ (.slice (some ⟨g8,0,none⟩) (q+1) c8)) kA kn kc ks GA n gc G (some ⟨g8,0,none⟩) (q+1) c8 (its++[it])/\Kx 0 [147,52] wr (w8.setCell ⟨ho,2,none⟩ (.slice (some ⟨g8,0,none⟩) (q+1) c8)):=by
 have hq7:Kx 0 [147] wr w8:=((Kx.refl (B:=0)).alloc _).grown (H.iown.alloc _) hg8 (Nat.zero_le _) (by simp)
 have bo:=hq7.bk H.bo (by decide)
 have hset:Kx 0 [52] w8 (w8.setCell ⟨ho,2,none⟩ (.slice (some ⟨g8,0,none⟩) (q+1) c8)):=Kx.set Kx.refl bo (Nat.zero_le _) (by simp) 2 _
 have hh:=H.hro
 refine ⟨⟨(hq7.bk H.bR (by decide)).far (p:=⟨ho,2,none⟩) (by show r≠ho;omega) _,by simpa using bo.set_ 2 (.slice (some ⟨g8,0,none⟩) (q+1) c8),
  (H.ks.keep hq7 (by decide) (by decide)).keep hset (by decide) (by decide),hset.own (hq7.own H.gown (by decide)) (by decide),?_,by simp [H.len],fun x hx=>?_,fun x hx=>?_,H.hro⟩,(hq7.mono (Nat.le_refl _) (by simp)).trans (hset.mono (Nat.le_refl _) (by simp))⟩
 . rw [itCs_snoc];exact hset.own hown8 (by decide)
 . rcases List.mem_append.1 hx with hx | hx
   . exact ((H.iok x hx).keep hq7 (by decide) (by decide)).keep hset (by decide) (by decide)
   . rw [show x=it by simpa using hx];exact (hi.keep hq7 (by decide) (by decide)).keep hset (by decide) (by decide)
 . rcases List.mem_append.1 hx with hx | hx
   . exact H.nob x hx
   . rw [show x=it by simpa using hx];exact hno
theorem WI.gen (H:WI r ho base wr kA kn kc ks GA n gc G IA q ic its) {w9:World} {g9 c9:Nat} {gg:Int} {o:Obj}
 (hown9:w9.ownsRow base 3 1 (.slice (some ⟨g9,0,none⟩) (n+1) c9) (n+1) (G.map (Value.int .i64)++[.int i64 gg])) (hg9:(wr.alloc o).grownBy w9 (Value.slice GA n gc).ownBlock) (hat:(Value.slice GA n gc).ownBlock=some g9\/g9=(wr.alloc o).heap.size) :
 WI r ho base (w9.setCell ⟨ho,1,none⟩ (.slice (some ⟨g9,0,none⟩) (n+1) c9)) kA kn kc ks (some ⟨g9,0,none⟩) (n+1) c9 (G++[gg]) IA q ic its/\Kx 0 [3,52] wr (w9.setCell ⟨ho,1,none⟩ (.slice (some ⟨g9,0,none⟩) (n+1) c9)):=by
 have hal:Kx 0 [3] wr (wr.alloc o):=(Kx.refl (B:=0)).alloc _
 have hq7:Kx 0 [3] wr w9:=hal.grown (H.gown.alloc _) hg9 (Nat.zero_le _) (by simp)
 have bo:=hq7.bk H.bo (by decide)
 have hset:Kx 0 [52] w9 (w9.setCell ⟨ho,1,none⟩ (.slice (some ⟨g9,0,none⟩) (n+1) c9)):=Kx.set Kx.refl bo (Nat.zero_le _) (by simp) 1 _
 have hh:=H.hro
 have hal0:Kx 0 [] wr (wr.alloc o):=(Kx.refl (B:=0)).alloc _
 refine ⟨⟨(hq7.bk H.bR (by decide)).far (p:=⟨ho,1,none⟩) (by show r≠ho;omega) _,by simpa using bo.set_ 1 (.slice (some ⟨g9,0,none⟩) (n+1) c9),
  (H.ks.keep hq7 (by decide) (by decide)).keep hset (by decide) (by decide),?_,hset.own (hq7.own H.iown (by decide)) (by decide),H.len,fun x hx=>?_,fun x hx=>?_,H.hro⟩,(hq7.mono (Nat.le_refl _) (by simp)).trans (hset.mono (Nat.le_refl _) (by simp))⟩
 . rw [List.map_append];exact hset.own hown9 (by decide)
 . exact (((H.iok x hx).keep hal0 (by simp) (by simp)).grown3 (H.gown.alloc _) hg9 (Nat.zero_le _) (H.nob x hx)).keep hset (by decide) (by decide)
 . refine NoB.grown ((H.iok x hx).keep hal0 (by simp) (by simp)) (H.nob x hx) ?_
   rcases hat with h1 | h1
   . exact .inl h1.symm
   . exact .inr (by rw [h1];rfl)
end
end Go.Proofs.Ytnidcmhfbkdioaa
