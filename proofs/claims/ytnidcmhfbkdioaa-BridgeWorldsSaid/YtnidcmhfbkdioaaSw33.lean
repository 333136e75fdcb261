/-
  Lemmas for the walk, merged (Cm Cn Kr). No condition but those in each statement.
-/
import Derived.Test.YtnidcmhfbkdioaaSw32
import Derived.Test.YtnidcmhfbkdioaaSw17
import Derived.Test.YtnidcmhfbkdioaaSw15
namespace Go.Proofs.Ytnidcmhfbkdioaa
open Go.RowKit
open Go.IntKind (i64)
open Go.Lib (hid)
set_option maxRecDepth 100000
theorem T.info307:(Try.prog.info? 307).map (fun i=>(i.zero,i.size,i.bytes))=some (some (.agg #[.string ByteArray.empty,.slice none 0 0,.slice none 0 0,.slice none 0 0,.slice none 0 0,.slice none 0 0,.slice none 0 0]),7,160):=by kernel_rfl
set_option maxHeartbeats 8000000 in
theorem systems_any (A:Option Addr) (n c B:Nat) (zs:List Int) (w:World) {kA:Option Addr} {kn kc:Nat} {ks:List Kd} (hr:Rd w B 1 A n (zs.map (Value.int .i64))) (hn:n=zs.length) (hnc:n<=c) (hc:c<=9223372036854775807) (hz:∀ z∈zs,(Lit.int i64 z).wf=true) (hB:B<=w.heap.size)
 (hk:KsY w 0 kA kn kc ks) (hone:∀ k∈ks,oneF k.nm k.fds=0) (hfd:∀ k∈ks,1<=k.n) (hkn:kn<=16) (hk1:1<=kn) :
 Calls Try.prog 134 #[.slice kA kn kc,.slice A n c] w fun e w'=>∃ (SA:Option Addr) (sn sc:Nat),e=.returned (.slice SA sn sc)/\Below w.heap.size w w':=by
 obtain ⟨i0,hi0,hz0,hz1,hz2⟩:=info_parts T.info307
 obtain ⟨w0,hw0⟩:∃ z,z=w.alloc (.cells #[.slice A n c] 189):=⟨_,rfl⟩
 obtain ⟨s,hs⟩:∃ z,z=w.heap.size:=⟨_,rfl⟩
 have HB0:Hid (Below w.heap.size w w0):=hid (by rw [hw0];exact Below.al (Below.refl _ _) _)
 have HST:Hid (StrSt w0 B s):=hid ⟨A,n,c,zs,by rw [hw0,hs];exact Bk.new _ _ _,hn,hnc,hc,hr.below (HB0.out.mono hB),hz⟩
 have HK:Hid (KsY w0 0 kA kn kc ks):=hid (hk.keep (F:=[]) (Kx.of_below (B:=0) HB0.out) (by simp) (by simp))
 have HNX:=hid next_any
 have HON:=hid hone
 have HFD:=hid hfd
 have hBs:B<=s:=by omega
 have hws:w.heap.size<=s:=by omega
 have hsz0:w0.heap.size=s+1:=by rw [hw0,hs];simp
 clear hr hn hnc hc hz hk hone hfd
 go_enter Try.func134,Try.ntmps134
 go_upto_region 3 with fail
 rw [<- hw0,<- hs]
 clear hw0 hs
 go_wp2_with fail
 (with_reducible refine (HNX.out s B 6 _ HST.out hBs (by omega) (by omega)).mono ?_)
 rintro e w1 ⟨N,rfl,hN0,hN1,hst1,hg1⟩
 obtain ⟨N,rfl⟩:∃ M:Nat,N=M:=⟨N.toNat,by omega⟩
 have HS1:=hid hst1
 have HQ1:Hid (Fq [s] w0 w1):=hid (Fq.refl.grown hg1 fun g hg=>.inl (by injection hg with hg;simp [hg]))
 have hN6:N<6:=by omega
 clear hst1 hg1 hN0 hN1
 go_wp2_with fail
 go_loopw [6,13] (fun ov jv wx=>∃ (i oc:Nat) (OA:Option Addr) (os:List Value),i<=N/\jv=.int i64 i/\ov=.slice OA i oc/\Hid (wx.ownsRow w0.heap.size 307 7 (.slice OA i oc) i os)/\Hid (StrSt wx B s)/\Hid (Fq [s] w0 wx)) (fun _ jv _=>N-(intOf jv).toNat)
 case atStart=>exact ⟨0,0,none,[],Nat.zero_le _,rfl,rfl,hid (World.ownsRow_nil _ _ _ _),HS1,HQ1⟩
 case round =>
  clear HS1 HQ1
  obtain ⟨i,oc,OA,os,hi,rfl,rfl,HO,HSr,HQr⟩:=hrel
  by_cases hlt:i<N
  . have hiz:(i:Int)<N:=by omega
    have HKr:Hid (KsY wr 0 kA kn kc ks):=hid (HK.out.keep (Kx.fq (B':=0) HQr.out HST.out (Nat.zero_le _)) (by decide) (by decide))
    go_wp2_with fail
    (with_reducible refine (system_any HSr.out hBs HKr.out HON.out HFD.out hkn hk1 (by omega)).mono ?_)
    rintro e w2 ⟨nm,A1,A2,A3,A4,A5,A6,n1,c1,n2,c2,n3,c3,n4,c4,n5,c5,n6,c6,rfl,hst2,hq2⟩
    have HO2:Hid (w2.ownsRow w0.heap.size 307 7 (.slice OA i oc) i os):=hid ((Kx.fq (B':=0) hq2 HSr.out (Nat.zero_le _)).own HO.out (by decide))
    have HQ2:Hid (Fq [s] w0 w2):=hid (HQr.out.trans hq2 (SubF.refl _ _))
    have HS2:=hid hst2
    have hw2:w0.heap.size<=w2.heap.size:=HQ2.out.size
    clear hst2 hq2 HSr HKr HO HQr
    go_wp2_with
     (at_builtin
      go_must (refine wpList_append_one _ rfl (.tmp 16) (.tmp 21) _ rfl w0.heap.size 307 i0 (.agg #[.string ByteArray.empty,.slice none 0 0,.slice none 0 0,.slice none 0 0,.slice none 0 0,.slice none 0 0,.slice none 0 0]) 7 160 Try.underlying107 hi0 hz0 hz1 hz2 rfl (by decide) (.slice OA i oc) i os rfl (HO2.out.alloc _) w2.heap.size 1 307 #[.string nm,.slice A1 n1 c1,.slice A2 n2 c2,.slice A3 n3 c3,.slice A4 n4 c4,.slice A5 n5 c5,.slice A6 n6 c6] rfl (Bk.new _ _ _) rfl ?c1 (i+1) rfl ?c2 ?c3 ?c4 ?_)
      case c1=>simp [Value.oneCell']
      case c2=>unfold maxLen;omega
      case c3=>omega
      case c4=>(simp;omega)
      intro g8 c8 w8 hown8 hg8 hat8
      have HO8:=hid hown8
      have HQ8:Hid (Fq [s] w0 w8):=hid ((HQ2.out.alloc _).grown hg8 (fun g hg=>.inr (HO2.out.lt g hg).1))
      have HS8:Hid (StrSt w8 B s):=hid (HS2.out.kx (((Kx.refl (B:=B)).alloc _).grown (F:=[307]) (HO2.out.alloc _) hg8 (by omega) (by simp)) (Nat.le_refl _) (HS2.out.lo hBs) (by decide))
      clear hown8 hg8 hat8)
    go_roundw
    case rel=>first | exact ⟨i+1,c8,some ⟨g8,0,none⟩,_,by omega,by go_num,rfl,HO8,HS8,HQ8⟩ | ((repeat apply Exists.intro);(refine And.intro ?_ ?_);rotate_left;(focus (repeat' first | exact rfl | apply And.intro));exact ⟨i+1,c8,some ⟨g8,0,none⟩,_,by omega,by go_num,rfl,HO8,HS8,HQ8⟩)
    case measure=>simp [intOf];omega
  . obtain rfl:N=i:=by omega
    go_wp2_with fail
    go_ret
    exact ⟨_,_,_,rfl,HB0.out.trans (HQr.out.below (fun k hk=>by rw [show k=s by simpa using hk];exact hws) HB0.out.size)⟩
theorem kindsN_fd (n:Nat) (hn:n<8):∀ k∈kindsN n,1<=k.2.length:=by
 rcases (by omega:n=0\/n=1\/n=2\/n=3\/n=4\/n=5\/n=6\/n=7) with rfl | rfl | rfl | rfl | rfl | rfl | rfl | rfl <;> decide +kernel
structure GaI (w w0:World) (B s hr hg:Nat) (kA:Option Addr) (kn kc:Nat) (ks:List Kd) (cs:Array Value):Prop where
 st:StrSt w B s
 fq:Fq [s] w0 w
 br:Bk w hr 110 #[.slice none 0 0,.slice none 0 0,.slice none 0 0,.int i64 0,.int i64 0,.int i64 0,.int i64 0,.int i64 0,.int i64 0]
 bg:Bk w hg 110 cs
 ks:KsY w 0 kA kn kc ks
theorem GaI.next {w w' w0:World} {B s hr hg kn kc:Nat} {kA:Option Addr} {ks:List Kd} {cs:Array Value} (h:GaI w w0 B s hr hg kA kn kc ks cs) (hst:StrSt w' B s) (hq:Fq [s] w w'):GaI w' w0 B s hr hg kA kn kc ks cs:=by
 have hk:=Kx.fq (B':=0) hq h.st (Nat.zero_le _)
 exact ⟨hst,h.fq.trans hq (SubF.refl _ _),hk.bk h.br (by decide),hk.bk h.bg (by decide),h.ks.keep hk (by decide) (by decide)⟩
theorem GaI.nx {w w' w0:World} {B s hr hg kn kc:Nat} {kA:Option Addr} {ks:List Kd} {cs:Array Value} (h:GaI w w0 B s hr hg kA kn kc ks cs) (hst:StrSt w' B s) (hg6:w.grownBy w' (some s)):GaI w' w0 B s hr hg kA kn kc ks cs :=
 h.next hst (Fq.refl.grown hg6 fun g hg=>.inl (by injection hg with hg;simp [hg]))
theorem GaI.set_ {w w0:World} {B s hr hg kn kc:Nat} {kA:Option Addr} {ks:List Kd} {cs:Array Value} (h:GaI w w0 B s hr hg kA kn kc ks cs) (hB:B<=s) (hBg:B<=hg) (hrg:hr<hg) (hw:w0.heap.size<=hg) (i:Nat) (v:Value):GaI (w.setCell ⟨hg,i,none⟩ v) w0 B s hr hg kA kn kc ks (cs.setIfInBounds i v):=by
 have hk:Kx B [110] w (w.setCell ⟨hg,i,none⟩ v):=Kx.refl.set h.bg hBg (by simp) i v
 have hk0:=hk.mono (Nat.zero_le _) (fun _ h=>h)
 exact ⟨h.st.kx hk (Nat.le_refl _) (h.st.lo hB) (by decide),h.fq.set (.inr hw) i v,h.br.far (p:=⟨hg,i,none⟩) (by show hr≠hg;omega) v,h.bg.set_ i v,h.ks.keep hk0 (by decide) (by decide)⟩
set_option maxHeartbeats 16000000 in
theorem game_any (A:Option Addr) (n c B:Nat) (zs:List Int) (w:World) (hr_:Rd w B 1 A n (zs.map (Value.int .i64))) (hn:n=zs.length) (hnc:n<=c) (hc:c<=9223372036854775807) (hz:∀ z∈zs,(Lit.int i64 z).wf=true) (hB:B<=w.heap.size) :
 Calls Try.prog 55 #[.slice A n c] w fun e w'=>∃ (kA sA pA:Option Addr) (kn kc sn sc pn pc nk:Nat) (ks:List Kd) (pl seed gy stp fuel:Int),e=.returned (.agg #[.slice kA kn kc,.slice sA sn sc,.slice pA pn pc,.int i64 pl,.int i64 seed,.int i64 0,.int i64 gy,.int i64 stp,.int i64 fuel]) /\
  Hid (KsY w' 0 kA kn kc ks/\ks.map Kd.p=kindsN nk/\nk<8/\1<=pl/\pl<=3/\0<=seed/\seed<1000 /\ -655360<=gy/\gy<=0/\1<=stp/\stp<=65536/\0<=fuel/\fuel<60)/\Below w.heap.size w w':=by
 obtain ⟨w0,hw0⟩:∃ z,z=(w.alloc (.cells #[.slice none 0 0,.slice none 0 0,.slice none 0 0,.int i64 0,.int i64 0,.int i64 0,.int i64 0,.int i64 0,.int i64 0] 110)).alloc (.cells #[.slice A n c] 189):=⟨_,rfl⟩
 have HB0:Hid (Below w.heap.size w w0):=hid (by rw [hw0];exact Below.al (Below.al (Below.refl _ _) _) _)
 have HR0:Hid (Bk w0 w.heap.size 110 #[.slice none 0 0,.slice none 0 0,.slice none 0 0,.int i64 0,.int i64 0,.int i64 0,.int i64 0,.int i64 0,.int i64 0]):=hid (by rw [hw0];exact (Bk.new _ _ _).alloc _)
 have HST:Hid (StrSt w0 B (w.heap.size+1)):=hid ⟨A,n,c,zs,by rw [hw0];exact Bk.two _ _ _ _,hn,hnc,hc,hr_.below (HB0.out.mono hB),hz⟩
 obtain ⟨s,hs⟩:∃ z,z=w.heap.size+1:=⟨_,rfl⟩
 obtain ⟨hr,hhr⟩:∃ z,z=w.heap.size:=⟨_,rfl⟩
 have hsz0:w0.heap.size=s+1:=by rw [hw0,hs];simp
 rw [<- hs] at HST
 rw [<- hhr] at HR0
 have HNX:=hid next_any
 have hBs:B<=s:=by omega
 have hrs:hr<s:=by omega
 have hBw:B<=w0.heap.size:=by omega
 have HWR:Hid (w.heap.size<=hr):=hid (by omega)
 have HW0:=hid hw0
 have HEQ:=hid (And.intro hs hhr)
 clear hr_ hn hnc hc hz hw0 hs hhr
 go_enter Try.func55,Try.ntmps55
 go_upto_region 2 with fail
 rw [<- HW0.out,<- HEQ.out.1,<- HEQ.out.2]
 clear HW0
 go_wp2_with fail
 (with_reducible refine (HNX.out s B 8 _ HST.out hBs (by omega) (by omega)).mono ?_)
 rintro e w1 ⟨nk,rfl,hk0,hk1,hst1,hg1⟩
 obtain ⟨nk,rfl⟩:∃ M:Nat,nk=M:=⟨nk.toNat,by omega⟩
 have hnk:nk<8:=by omega
 have HS1:=hid hst1
 have HQ1:Hid (Fq [s] w0 w1):=hid (Fq.refl.grown hg1 fun g hg=>.inl (by injection hg with hg;simp [hg]))
 clear hst1 hg1 hk0 hk1
 go_wp2_with fail
 (with_reducible refine (kindsN_any nk hnk w1).mono ?_)
 rintro e w2 ⟨kA,kn,kc,ks,rfl,hks2,hksN,hb2⟩
 have HKN:=hid hksN
 have HKL:Hid (1<=kn/\kn<=16):=hid (by
  have h:=kindsN_len nk hnk
  rw [<- hksN,List.length_map,<- hks2.len] at h
  omega)
 have HK2:=hid hks2
 have HQ2:Hid (Fq [s] w0 w2):=hid (HQ1.out.trans (Fq.of_below hb2) (SubF.refl _ _))
 have HS2:Hid (StrSt w2 B s):=hid (HS1.out.below hb2 (HS1.out.lo hBs))
 clear hks2 hksN hb2 HS1 HQ1
 go_wp2_with fail
 (with_reducible refine (HNX.out s B 3 _ HS2.out hBs (by omega) (by omega)).mono ?_)
 rintro e w3 ⟨p0,rfl,hp0,hp1,hst3,hg3⟩
 have HS3:=hid hst3
 have HQ3:Hid (Fq [s] w2 w3):=hid (Fq.refl.grown hg3 fun g hg=>.inl (by injection hg with hg;simp [hg]))
 clear hst3 hg3
 have hpw:IntKind.i64.wrap (1+p0)=1+p0:=wrap_small2 (by omega) (by omega)
 go_wp2_with fail
 (with_reducible refine (HNX.out s B 1000 _ HS3.out hBs (by omega) (by omega)).mono ?_)
 rintro e w4 ⟨seed,rfl,hs0,hs1,hst4,hg4⟩
 have HS4:=hid hst4
 have HQ4:Hid (Fq [s] w2 w4):=hid (HQ3.out.grown hg4 fun g hg=>.inl (by injection hg with hg;simp [hg]))
 clear hst4 hg4 HQ3
 go_wp2_with fail
 (with_reducible refine (HNX.out s B 60 _ HS4.out hBs (by omega) (by omega)).mono ?_)
 rintro e w5 ⟨fuel,rfl,hf0,hf1,hst5,hg5⟩
 obtain ⟨pl,hpl⟩:∃ z,z=1+p0:=⟨_,rfl⟩
 obtain ⟨w6,hw6⟩:∃ z,z=w5.alloc (.cells #[.slice kA kn kc,.slice none 0 0,.slice none 0 0,.int i64 pl,.int i64 seed,.int i64 0,.int i64 0,.int i64 0,.int i64 fuel] 110):=⟨_,rfl⟩
 obtain ⟨hg,hhg⟩:∃ z,z=w5.heap.size:=⟨_,rfl⟩
 have hq5:Fq [s] w2 w5:=HQ4.out.grown hg5 fun g hg=>.inl (by injection hg with hg;simp [hg])
 have hq06:Fq [s] w0 w6:=by rw [hw6];exact (HQ2.out.trans hq5 (SubF.refl _ _)).alloc _
 have HI6:Hid (GaI w6 w0 B s hr hg kA kn kc ks #[.slice kA kn kc,.slice none 0 0,.slice none 0 0,.int i64 pl,.int i64 seed,.int i64 0,.int i64 0,.int i64 0,.int i64 fuel]):=hid ⟨by rw [hw6];exact hst5.below ((Below.refl _ _).alloc (Nat.le_refl _) _) (hst5.lo hBs),hq06,(Kx.fq (B':=0) hq06 HST.out (Nat.zero_le _)).bk HR0.out (by decide),by rw [hw6,hhg];exact Bk.new _ _ _,by
  have h1:=HK2.out.keep (Kx.fq (B':=0) hq5 HS2.out (Nat.zero_le _)) (by decide) (by decide)
  rw [hw6]
  exact h1.keep (F:=[]) ((Kx.refl (B:=0)).alloc _) (by simp) (by simp)⟩
 have HW5:Hid (w0.heap.size<=hg):=hid (by have h1:=HQ2.out.size;have h2:=hq5.size;omega)
 have hrg:hr<hg:=by have:=HW5.out;omega
 have hgw:=HW5.out
 have hBg:B<=hg:=by omega
 have HPL:Hid (1<=pl/\pl<=3):=hid (by omega)
 have HSF:Hid (0<=seed/\seed<1000/\0<=fuel/\fuel<60):=hid ⟨hs0,hs1,hf0,hf1⟩
 have HW6:=hid hw6
 have HEG:=hid (And.intro hpl hhg)
 clear hst5 hg5 hq5 hq06 HQ4 HS4 HS3 HS2 HQ2 HK2 hw6 hpl hhg
 go_upto_region 3 with fail
 (try rw [<- HEG.out.1])
 rw [<- HW6.out,<- HEG.out.2]
 clear HW6 hpw hs0 hs1 hf0 hf1 hp0 hp1 HEG
 have hos:hg≠s:=by
  obtain ⟨cs,h1⟩:=HI6.out.st.bk
  exact HI6.out.bg.ne_ h1 (by decide)
 obtain ⟨u6,hu6⟩:∃ z,z=w6.drew:=⟨_,rfl⟩
 have HJ6:Hid (GaI u6 w0 B s hr hg kA kn kc ks #[.slice kA kn kc,.slice none 0 0,.slice none 0 0,.int i64 pl,.int i64 seed,.int i64 0,.int i64 0,.int i64 0,.int i64 fuel]):=hid (by rw [hu6];exact HI6.out.next (HI6.out.st.below (Below.refl _ _).drew (HI6.out.st.lo hBs)) Fq.refl.drew)
 clear HI6
 refine wp_region_H (S:=fun wz=>wz.cell? ⟨hg,0,none⟩=some (.slice kA kn kc)) (by kernel_rfl) ?_
 rw [<- hu6]
 clear hu6
 refine wpH 0 (.pointer (some ⟨s,0,none⟩)) 20 (HJ6.out.bg.cell 0) ?_
 (try simp only [sP])
 refine wpH 5 (.pointer (some ⟨s,0,none⟩)) 25 (HJ6.out.bg.cell 0) ?_
 (try simp only [sP])
 refine wpAnyH_oneW (i:=1) rfl (by kernel_rfl) (by rfl) ?_
 go_simp
 go_at_call 98
 (with_reducible refine (HNX.out s B 11 _ HJ6.out.st hBs (by omega) (by omega)).mono ?_)
 rintro e u7 ⟨ga,rfl,ha0,ha1,hst7,hg7⟩
 have HJ7:Hid (GaI u7 w0 B s hr hg kA kn kc ks #[.slice kA kn kc,.slice none 0 0,.slice none 0 0,.int i64 pl,.int i64 seed,.int i64 0,.int i64 0,.int i64 0,.int i64 fuel]):=hid (HJ6.out.nx hst7 hg7)
 clear hst7 hg7 HJ6
 have hwa:IntKind.i64.wrap (-ga) = -ga:=wrap_small2 (by omega) (by omega)
 have hwb:IntKind.i64.wrap (-ga*65536) = -ga*65536:=wrap_small2 (by omega) (by omega)
 refine And.intro (HJ7.out.bg.cell 0) ?_
 (try simp only [sP])
 refine wpH 2 (.int i64 (-ga)) 22 (HJ7.out.bg.cell 0) ?_
 (try simp only [sP])
 refine wpH 3 (.int i64 (-ga*65536)) 23 (HJ7.out.bg.cell 0) ?_
 (try simp only [sP])
 refine wpH 4 (.agg #[.int i64 0,.int i64 (-ga*65536)]) 24 (HJ7.out.bg.cell 0) ?_
 (try simp only [sP])
 refine wpH 9 (.pointer (some ⟨hg,5,none⟩)) 29 (HJ7.out.bg.cell 0) ?_
 (try simp only [sP])
 refine wpAnyH_oneW (i:=6) rfl (by kernel_rfl) (by rfl) ?_
 go_simp
 go_at_call 98
 (with_reducible refine (HNX.out s B 40 _ HJ7.out.st hBs (by omega) (by omega)).mono ?_)
 rintro e u8 ⟨gb,rfl,hb0,hb1,hst8,hg8⟩
 have HJ8:Hid (GaI u8 w0 B s hr hg kA kn kc ks #[.slice kA kn kc,.slice none 0 0,.slice none 0 0,.int i64 pl,.int i64 seed,.int i64 0,.int i64 0,.int i64 0,.int i64 fuel]):=hid (HJ7.out.nx hst8 hg8)
 clear hst8 hg8 HJ7
 have hwc:IntKind.i64.wrap (20+gb)=20+gb:=wrap_small2 (by omega) (by omega)
 have hnz:¬ (20+gb=0):=by omega
 obtain ⟨stp,hstp⟩:∃ z,z=Int.tdiv 65536 (20+gb):=⟨_,rfl⟩
 have hstp1:1<=stp/\stp<=65536:=by
  rw [hstp,Int.tdiv_eq_ediv_of_nonneg (by omega)]
  constructor
  . exact (Int.le_ediv_iff_mul_le (by omega)).2 (by omega)
  . exact Int.ediv_le_self _ (by omega)
 have hwd:IntKind.i64.wrap (Int.tdiv 65536 (20+gb))=stp:=by rw [<- hstp];exact wrap_small2 (by omega) (by omega)
 have HSTP:=hid hstp1
 clear hstp hstp1
 refine And.intro (HJ8.out.bg.cell 0) ?_
 (try simp only [sP])
 refine wpH 7 (.int i64 (20+gb)) 27 (HJ8.out.bg.cell 0) ?_
 (try simp only [sP])
 refine wpH 8 (.int i64 stp) 28 (HJ8.out.bg.cell 0) ?_
 (try simp only [sP])
 have x5:u8.cell? ⟨hg,5,none⟩=some (.int i64 0):=HJ8.out.bg.cell 5
 have x6:u8.cell? ⟨hg,6,none⟩=some (.int i64 0):=HJ8.out.bg.cell 6
 have f5:=HJ8.out.bg.frozen 5
 have f6:=HJ8.out.bg.frozen 6
 refine wpAnyH_oneW (i:=10) rfl (by kernel_rfl) (by rfl) ?_
 go_simp
 refine And.intro (HJ8.out.bg.cell 0) ?_
 (try simp only [sP])
 obtain ⟨gy,hgy⟩:∃ z,z = -ga*65536:=⟨_,rfl⟩
 rw [<- hgy]
 have HGY:Hid (-655360<=gy/\gy<=0):=hid (by omega)
 obtain ⟨u9,hu9⟩:∃ z,z=(u8.setCell ⟨hg,5,none⟩ (.int i64 0)).setCell ⟨hg,6,none⟩ (.int i64 gy):=⟨_,rfl⟩
 have HJ9:Hid (GaI u9 w0 B s hr hg kA kn kc ks #[.slice kA kn kc,.slice none 0 0,.slice none 0 0,.int i64 pl,.int i64 seed,.int i64 0,.int i64 gy,.int i64 0,.int i64 fuel]):=hid (by
  rw [hu9]
  have h:=(HJ8.out.set_ hBs hBg hrg hgw 5 (.int i64 0)).set_ hBs hBg hrg hgw 6 (.int i64 gy)
  simpa using h)
 rw [<- hu9]
 clear hu9 hgy HJ8 x5 x6 f5 f6 hwa hwb ha0 ha1
 refine wpH 11 (.pointer (some ⟨hg,7,none⟩)) 30 (HJ9.out.bg.cell 0) ?_
 (try simp only [sP])
 have x7:u9.cell? ⟨hg,7,none⟩=some (.int i64 0):=HJ9.out.bg.cell 7
 have f7:=HJ9.out.bg.frozen 7
 refine wpAnyH_oneW (i:=12) rfl (by kernel_rfl) (by rfl) ?_
 go_simp
 refine And.intro (HJ9.out.bg.cell 0) ?_
 (try simp only [sP])
 refine wpAnyH_done (by kernel_rfl) ?_ _
 obtain ⟨uA,huA⟩:∃ z,z=u9.setCell ⟨hg,7,none⟩ (.int i64 stp):=⟨_,rfl⟩
 have HJA:Hid (GaI uA w0 B s hr hg kA kn kc ks #[.slice kA kn kc,.slice none 0 0,.slice none 0 0,.int i64 pl,.int i64 seed,.int i64 0,.int i64 gy,.int i64 stp,.int i64 fuel]):=hid (by
  rw [huA]
  have h:=HJ9.out.set_ hBs hBg hrg hgw 7 (.int i64 stp)
  simpa using h)
 rw [<- huA]
 clear huA HJ9 x7 f7 hwc hnz hwd hb0 hb1
 go_wp2_with fail
 (with_reducible refine (scripts_any uA).mono ?_)
 rintro e uB ⟨gs,ls,rfl,hls,hbs,hgs,hbB⟩
 have HJB:Hid (GaI uB w0 B s hr hg kA kn kc ks #[.slice kA kn kc,.slice none 0 0,.slice none 0 0,.int i64 pl,.int i64 seed,.int i64 0,.int i64 gy,.int i64 stp,.int i64 fuel]):=hid (HJA.out.next (HJA.out.st.below hbB (HJA.out.st.lo hBs)) (Fq.of_below hbB))
 have HBS:Hid (Bk uB gs 9 (ls.map Value.string).toArray/\ls.length=4):=hid ⟨hbs,hls⟩
 clear hls hbs hgs hbB HJA
 go_wp2_with fail
 (with_reducible refine (HNX.out s B 4 _ HJB.out.st hBs (by omega) (by omega)).mono ?_)
 rintro e uC ⟨N,rfl,hN0,hN1,hstC,hgC⟩
 obtain ⟨N,rfl⟩:∃ M:Nat,N=M:=⟨N.toNat,by omega⟩
 have HJC:Hid (GaI uC w0 B s hr hg kA kn kc ks #[.slice kA kn kc,.slice none 0 0,.slice none 0 0,.int i64 pl,.int i64 seed,.int i64 0,.int i64 gy,.int i64 stp,.int i64 fuel]):=hid (HJB.out.nx hstC hgC)
 have hgsn:gs≠s:=by
  obtain ⟨cs,h1⟩:=HJB.out.st.bk
  exact HBS.out.1.ne_ h1 (by decide)
 have HBC:Hid (Bk uC gs 9 (ls.map Value.string).toArray/\ls.length=4):=hid ⟨HBS.out.1.grown hgC (fun e=>by injection e with e;omega),HBS.out.2⟩
 have hN4:N<4:=by omega
 have hgsC:gs<uC.heap.size:=HBC.out.1.lt
 have HUC:Hid (w0.heap.size<=uC.heap.size):=hid HJC.out.fq.size
 clear hstC hgC HJB HBS hN0 hN1
 go_wp2_with fail
 go_loopw [34] (fun jv wx=>∃ (i pc:Nat) (pA:Option Addr) (ps:List Value),i<=N/\jv=.int i64 i/\Hid (GaI wx w0 B s hr hg kA kn kc ks #[.slice kA kn kc,.slice none 0 0,.slice pA i pc,.int i64 pl,.int i64 seed,.int i64 0,.int i64 gy,.int i64 stp,.int i64 fuel])/\Hid (wx.ownsRow uC.heap.size 9 1 (.slice pA i pc) i ps)/\Hid (Bk wx gs 9 (ls.map Value.string).toArray/\uC.heap.size<=wx.heap.size)) (fun jv _=>N-(intOf jv).toNat)
 case atStart=>exact ⟨0,0,none,[],Nat.zero_le _,rfl,HJC,hid (World.ownsRow_nil _ _ _ _),hid ⟨HBC.out.1,Nat.le_refl _⟩⟩
 case round =>
  obtain ⟨i,pc,pA,ps,hi,rfl,HJ,HO,HBG⟩:=hrel
  by_cases hlt:i<N
  . have hiz:(i:Int)<N:=by omega
    obtain ⟨i9,hi9,hz90,hz91,hz92⟩:=info_parts T.info9
    go_upto_region 7 with fail
    obtain ⟨v0,hv0⟩:∃ z,z=wr.drew:=⟨_,rfl⟩
    have HJ0:Hid (GaI v0 w0 B s hr hg kA kn kc ks #[.slice kA kn kc,.slice none 0 0,.slice pA i pc,.int i64 pl,.int i64 seed,.int i64 0,.int i64 gy,.int i64 stp,.int i64 fuel]):=hid (by rw [hv0];exact HJ.out.next (HJ.out.st.below (Below.refl _ _).drew (HJ.out.st.lo hBs)) Fq.refl.drew)
    have HO0:Hid (v0.ownsRow uC.heap.size 9 1 (.slice pA i pc) i ps):=hid (by rw [hv0];exact (Kx.refl (B:=0) (F:=[])).drew.own HO.out (by simp))
    have HG0:Hid (Bk v0 gs 9 (ls.map Value.string).toArray):=hid (by rw [hv0];exact HBG.out.1.drew)
    have HV0:Hid (uC.heap.size<=v0.heap.size):=hid (by rw [hv0];exact HBG.out.2)
    clear HJ HO HBG
    refine wp_region_noPanic ?_
    refine wp_region_L (late:=[12]) (S:=fun wz=>wz.cell? ⟨hg,2,none⟩=some (.slice pA i pc)) (by kernel_rfl) ?_
    rw [<- hv0]
    clear hv0
    refine wpL 0 (.pointer (some ⟨hg,2,none⟩)) 36 (HJ0.out.bg.cell 2) ?_
    (try simp only [sP])
    refine wpL 1 (.slice pA i pc) 37 (HJ0.out.bg.cell 2) ?_
    (try simp only [sP])
    refine wpL 2 (.slice (some ⟨gs,0,none⟩) 4 4) 38 (HJ0.out.bg.cell 2) ?_
    (try simp only [sP])
    refine wpL 3 (.pointer (some ⟨s,0,none⟩)) 39 (HJ0.out.bg.cell 2) ?_
    (try simp only [sP])
    refine wpL 4 (.slice (some ⟨gs,0,none⟩) 4 4) 40 (HJ0.out.bg.cell 2) ?_
    (try simp only [sP])
    refine wpL 5 (.int i64 4) 41 (HJ0.out.bg.cell 2) ?_
    (try simp only [sP])
    refine wpAnyL_one (i:=6) rfl (by kernel_rfl) (by rfl) ?_
    go_simp
    go_at_call 98
    (with_reducible refine (HNX.out s B 4 _ HJ0.out.st hBs (by omega) (by omega)).mono ?_)
    rintro e v1 ⟨q,rfl,hq0,hq1,hst1,hg1⟩
    obtain ⟨q,rfl⟩:∃ M:Nat,q=M:=⟨q.toNat,by omega⟩
    have HJ1:Hid (GaI v1 w0 B s hr hg kA kn kc ks #[.slice kA kn kc,.slice none 0 0,.slice pA i pc,.int i64 pl,.int i64 seed,.int i64 0,.int i64 gy,.int i64 stp,.int i64 fuel]):=hid (HJ0.out.nx hst1 hg1)
    have HO1:Hid (v1.ownsRow uC.heap.size 9 1 (.slice pA i pc) i ps):=hid ((Kx.fq (B':=0) (Fq.refl.grown hg1 fun g hg=>.inl (by injection hg with hg;simp [hg])) HJ0.out.st (Nat.zero_le _)).own HO0.out (by decide))
    have HG1:Hid (Bk v1 gs 9 (ls.map Value.string).toArray):=hid (HG0.out.grown hg1 (fun e=>by injection e with e;omega))
    have HV1:Hid (uC.heap.size<=v1.heap.size):=hid (Nat.le_trans HV0.out hg1.size)
    clear hst1 hg1 HJ0 HO0 HG0
    refine And.intro (HJ1.out.bg.cell 2) ?_
    (try simp only [sP])
    obtain ⟨tx,htx⟩:∃ tx,ls[q]?=some tx:=⟨_,List.getElem?_eq_getElem (by have:=HBC.out.2;omega)⟩
    have hcx:v1.cell? ⟨gs,q,none⟩=some (.string tx):=(HG1.out.cell q).trans (by simp [htx])
    have hq4:(q:Int)<4:=by omega
    have hq00:(0:Int)<=q:=by omega
    refine wpAnyL_one (i:=7) rfl (by kernel_rfl) (by rfl) ?_
    go_simp
    refine And.intro (HJ1.out.bg.cell 2) ?_
    (try simp only [sP])
    refine wpAnyL_one (i:=8) rfl (by kernel_rfl) (by rfl) ?_
    go_simp
    refine And.intro (HJ1.out.bg.cell 2) ?_
    (try simp only [sP])
    refine wpAnyL_one (i:=9) rfl (by kernel_rfl) (by rfl) ?_
    go_simp
    refine And.intro ((HJ1.out.bg.alloc _).cell 2) ?_
    (try simp only [sP])
    refine wpAnyL_one (i:=10) rfl (by kernel_rfl) (by rfl) ?_
    refine wp_append_one (.tmp 37) (.tmp 45) 108 rfl uC.heap.size 9 i9 (.string ByteArray.empty) 1 16 Try.underlying108 hi9 hz90 hz91 hz92 rfl (by decide) (.slice pA i pc) i ps rfl (HO1.out.alloc _) v1.heap.size 1 9 #[.string tx] rfl (Bk.new _ _ _) rfl (by simp [Value.oneCell']) (i+1) rfl (by unfold maxLen;omega) (by omega) (by have:=HV1.out;simp;omega) ?_
    intro g2 c2 v2 hown hgr hat
    have hnog:(Value.slice pA i pc).ownBlock≠some gs:=fun e=>by have:=(HO1.out.lt gs e).1;omega
    have HJ2:Hid (GaI v2 w0 B s hr hg kA kn kc ks #[.slice kA kn kc,.slice none 0 0,.slice pA i pc,.int i64 pl,.int i64 seed,.int i64 0,.int i64 gy,.int i64 stp,.int i64 fuel]):=hid (by
     have hk:Kx B [9] v1 v2:=((Kx.refl (B:=B)).alloc _).grown (HO1.out.alloc _) hgr (by have:=HUC.out;omega) (by simp)
     have hk0:=hk.mono (Nat.zero_le _) (fun _ h=>h)
     exact ⟨HJ1.out.st.kx hk (Nat.le_refl _) (HJ1.out.st.lo hBs) (by decide),(HJ1.out.fq.alloc _).grown hgr (fun g hg=>.inr (by have h1:=(HO1.out.lt g hg).1;have h2:=HUC.out;omega)),hk0.bk HJ1.out.br (by decide),hk0.bk HJ1.out.bg (by decide),HJ1.out.ks.keep hk0 (by decide) (by decide)⟩)
    have HG2:Hid (Bk v2 gs 9 (ls.map Value.string).toArray):=hid ((HG1.out.alloc _).grown hgr (fun e=>hnog e.symm))
    have HO2:=hid hown
    have HV2:Hid (uC.heap.size<=v2.heap.size):=hid (by have h1:=HV1.out;have h2:=hgr.size;simp at h2;omega)
    clear hown hgr hat HG1 HO1 HJ1 hcx
    refine And.intro (HJ2.out.bg.cell 2) ?_
    (try simp only [sP])
    refine wpL 11 (.pointer (some ⟨hg,2,none⟩)) 47 (HJ2.out.bg.cell 2) ?_
    (try simp only [sP])
    have x2:v2.cell? ⟨hg,2,none⟩=some (.slice pA i pc):=HJ2.out.bg.cell 2
    have f2:=HJ2.out.bg.frozen 2
    refine wpAnyL_late (i:=12) rfl (by kernel_rfl) (by rfl) (by kernel_rfl) ?_
    go_simp
    (try simp only [sP])
    refine wpAnyL_done (by kernel_rfl) ?_ _
    refine NoPanic.normal ?_
    obtain ⟨v3,hv3⟩:∃ z,z=v2.setCell ⟨hg,2,none⟩ (.slice (some ⟨g2,0,none⟩) (i+1) c2):=⟨_,rfl⟩
    have HJ3:Hid (GaI v3 w0 B s hr hg kA kn kc ks #[.slice kA kn kc,.slice none 0 0,.slice (some ⟨g2,0,none⟩) (i+1) c2,.int i64 pl,.int i64 seed,.int i64 0,.int i64 gy,.int i64 stp,.int i64 fuel]):=hid (by
     rw [hv3]
     have h:=HJ2.out.set_ hBs hBg hrg hgw 2 (.slice (some ⟨g2,0,none⟩) (i+1) c2)
     simpa using h)
    have HO3:Hid (v3.ownsRow uC.heap.size 9 1 (.slice (some ⟨g2,0,none⟩) (i+1) c2) (i+1) (ps++[.string tx])):=hid (by rw [hv3];exact own_far HO2.out HJ2.out.bg (by decide) 2 _)
    have HG3:Hid (Bk v3 gs 9 (ls.map Value.string).toArray/\uC.heap.size<=v3.heap.size):=hid (by rw [hv3];exact ⟨HG2.out.far (p:=⟨hg,2,none⟩) (HG2.out.ne_ HJ2.out.bg (by decide)) _,by simpa [World.setCell] using HV2.out⟩)
    rw [<- hv3]
    clear hv3 x2 f2 HJ2 HO2 HG2
    go_wp2_with fail
    go_roundw
    case rel=>first | exact ⟨i+1,c2,some ⟨g2,0,none⟩,_,by omega,by go_num,HJ3,HO3,HG3⟩ | ((repeat apply Exists.intro);(refine And.intro ?_ ?_);rotate_left;(focus (repeat' first | exact rfl | apply And.intro));exact ⟨i+1,c2,some ⟨g2,0,none⟩,_,by omega,by go_num,HJ3,HO3,HG3⟩)
    case measure=>simp [intOf];omega
  . obtain rfl:N=i:=by omega
    go_upto_region 9 with fail
    clear HO HBG HJC
    obtain ⟨LA,ln,lc,zl,hLb,hLn,hLc,hLc2,hLr,hLz⟩:=HJ.out.st
    have HL:=hid (And.intro hLb (And.intro hLn (And.intro hLc (And.intro hLc2 (And.intro hLr hLz)))))
    clear hLb hLn hLc hLc2 hLr hLz
    obtain ⟨v0,hv0⟩:∃ z,z=wr.drew:=⟨_,rfl⟩
    have HJ0:Hid (GaI v0 w0 B s hr hg kA kn kc ks #[.slice kA kn kc,.slice none 0 0,.slice pA N pc,.int i64 pl,.int i64 seed,.int i64 0,.int i64 gy,.int i64 stp,.int i64 fuel]):=hid (by rw [hv0];exact HJ.out.next (HJ.out.st.below (Below.refl _ _).drew (HJ.out.st.lo hBs)) Fq.refl.drew)
    have HL0:Hid (Bk v0 s 189 #[.slice LA ln lc]/\Rd v0 B 1 LA ln (zl.map (Value.int .i64))):=hid (by rw [hv0];exact ⟨HL.out.1.drew,HL.out.2.2.2.2.1.below (Below.refl _ _).drew⟩)
    clear HJ
    have HON:Hid ((∀ k∈ks,oneF k.nm k.fds=0)/\∀ k∈ks,1<=k.n):=hid ⟨fun k hk=>kindsN_one nk hnk k.p (by rw [<- HKN.out];exact List.mem_map_of_mem hk),fun k hk=>by rw [(HJ0.out.ks.ok k hk).len];exact kindsN_fd nk hnk k.p (by rw [<- HKN.out];exact List.mem_map_of_mem hk)⟩
    refine wp_region_L (late:=[8]) (S:=fun wz=>wz.cell? ⟨hg,0,none⟩=some (.slice kA kn kc)/\wz.cell? ⟨s,0,none⟩=some (.slice LA ln lc)) (by kernel_rfl) ?_
    rw [<- hv0]
    clear hv0
    refine wpL 0 (.pointer (some ⟨hg,0,none⟩)) 49 (⟨HJ0.out.bg.cell 0,HL0.out.1.cell 0⟩) ?_
    (try simp only [sP])
    refine wpL 1 (.slice kA kn kc) 50 (⟨HJ0.out.bg.cell 0,HL0.out.1.cell 0⟩) ?_
    (try simp only [sP])
    refine wpL 2 (.pointer (some ⟨s,0,none⟩)) 51 (⟨HJ0.out.bg.cell 0,HL0.out.1.cell 0⟩) ?_
    (try simp only [sP])
    refine wpL 3 (.pointer (some ⟨s,0,none⟩)) 52 (⟨HJ0.out.bg.cell 0,HL0.out.1.cell 0⟩) ?_
    (try simp only [sP])
    refine wpL 4 (.pointer (some ⟨s,0,none⟩)) 53 (⟨HJ0.out.bg.cell 0,HL0.out.1.cell 0⟩) ?_
    (try simp only [sP])
    refine wpL 5 (.slice LA ln lc) 54 (⟨HJ0.out.bg.cell 0,HL0.out.1.cell 0⟩) ?_
    (try simp only [sP])
    refine wpAnyL_one (i:=6) rfl (by kernel_rfl) (by rfl) ?_
    go_simp
    go_at_call 134
    (with_reducible refine (systems_any LA ln lc B zl v0 HL0.out.2 HL.out.2.1 HL.out.2.2.1 HL.out.2.2.2.1 HL.out.2.2.2.2.2 (HJ0.out.st.lo hBs) HJ0.out.ks HON.out.1 HON.out.2 HKL.out.2 HKL.out.1).mono ?_)
    rintro e v1 ⟨SA,sn,sc,rfl,hb1⟩
    have HJ1:Hid (GaI v1 w0 B s hr hg kA kn kc ks #[.slice kA kn kc,.slice none 0 0,.slice pA N pc,.int i64 pl,.int i64 seed,.int i64 0,.int i64 gy,.int i64 stp,.int i64 fuel]):=hid (HJ0.out.next (HJ0.out.st.below hb1 (HJ0.out.st.lo hBs)) (Fq.of_below hb1))
    have HL1:Hid (Bk v1 s 189 #[.slice LA ln lc]):=hid (HL0.out.1.below hb1 HL0.out.1.lt)
    clear hb1 HJ0 HL0 HL
    refine And.intro ⟨HJ1.out.bg.cell 0,HL1.out.cell 0⟩ ?_
    (try simp only [sP])
    refine wpL 7 (.pointer (some ⟨hg,1,none⟩)) 56 (⟨HJ1.out.bg.cell 0,HL1.out.cell 0⟩) ?_
    (try simp only [sP])
    have x1:v1.cell? ⟨hg,1,none⟩=some (.slice none 0 0):=HJ1.out.bg.cell 1
    have f1:=HJ1.out.bg.frozen 1
    refine wpAnyL_late (i:=8) rfl (by kernel_rfl) (by rfl) (by kernel_rfl) ?_
    go_simp
    (try simp only [sP])
    refine wpAnyL_done (by kernel_rfl) ?_ _
    obtain ⟨v2,hv2⟩:∃ z,z=v1.setCell ⟨hg,1,none⟩ (.slice SA sn sc):=⟨_,rfl⟩
    have HJ2:Hid (GaI v2 w0 B s hr hg kA kn kc ks #[.slice kA kn kc,.slice SA sn sc,.slice pA N pc,.int i64 pl,.int i64 seed,.int i64 0,.int i64 gy,.int i64 stp,.int i64 fuel]):=hid (by
     rw [hv2]
     have h:=HJ1.out.set_ hBs hBg hrg hgw 1 (.slice SA sn sc)
     simpa using h)
    rw [<- hv2]
    clear hv2 x1 f1 HJ1 HL1
    have c0:v2.cell? ⟨hg,0,none⟩=some (.slice kA kn kc):=HJ2.out.bg.cell 0
    have z0:v2.cell? ⟨hr,0,none⟩=some (.slice none 0 0):=HJ2.out.br.cell 0
    have y0:=HJ2.out.br.frozen 0
    have c1:v2.cell? ⟨hg,1,none⟩=some (.slice SA sn sc):=HJ2.out.bg.cell 1
    have z1:v2.cell? ⟨hr,1,none⟩=some (.slice none 0 0):=HJ2.out.br.cell 1
    have y1:=HJ2.out.br.frozen 1
    have c2:v2.cell? ⟨hg,2,none⟩=some (.slice pA N pc):=HJ2.out.bg.cell 2
    have z2:v2.cell? ⟨hr,2,none⟩=some (.slice none 0 0):=HJ2.out.br.cell 2
    have y2:=HJ2.out.br.frozen 2
    have c3:v2.cell? ⟨hg,3,none⟩=some (.int i64 pl):=HJ2.out.bg.cell 3
    have z3:v2.cell? ⟨hr,3,none⟩=some (.int i64 0):=HJ2.out.br.cell 3
    have y3:=HJ2.out.br.frozen 3
    have c4:v2.cell? ⟨hg,4,none⟩=some (.int i64 seed):=HJ2.out.bg.cell 4
    have z4:v2.cell? ⟨hr,4,none⟩=some (.int i64 0):=HJ2.out.br.cell 4
    have y4:=HJ2.out.br.frozen 4
    have c5:v2.cell? ⟨hg,5,none⟩=some (.int i64 0):=HJ2.out.bg.cell 5
    have z5:v2.cell? ⟨hr,5,none⟩=some (.int i64 0):=HJ2.out.br.cell 5
    have y5:=HJ2.out.br.frozen 5
    have c6:v2.cell? ⟨hg,6,none⟩=some (.int i64 gy):=HJ2.out.bg.cell 6
    have z6:v2.cell? ⟨hr,6,none⟩=some (.int i64 0):=HJ2.out.br.cell 6
    have y6:=HJ2.out.br.frozen 6
    have c7:v2.cell? ⟨hg,7,none⟩=some (.int i64 stp):=HJ2.out.bg.cell 7
    have z7:v2.cell? ⟨hr,7,none⟩=some (.int i64 0):=HJ2.out.br.cell 7
    have y7:=HJ2.out.br.frozen 7
    have c8:v2.cell? ⟨hg,8,none⟩=some (.int i64 fuel):=HJ2.out.bg.cell 8
    have z8:v2.cell? ⟨hr,8,none⟩=some (.int i64 0):=HJ2.out.br.cell 8
    have y8:=HJ2.out.br.frozen 8
    have HFIN:Hid (∀ V0 V1 V2 V3 V4 V5 V6 V7 V8,KsY (((((((((v2.setCell ⟨hr,0,none⟩ V0).setCell ⟨hr,1,none⟩ V1).setCell ⟨hr,2,none⟩ V2).setCell ⟨hr,3,none⟩ V3).setCell ⟨hr,4,none⟩ V4).setCell ⟨hr,5,none⟩ V5).setCell ⟨hr,6,none⟩ V6).setCell ⟨hr,7,none⟩ V7).setCell ⟨hr,8,none⟩ V8) 0 kA kn kc ks/\Below w.heap.size w (((((((((v2.setCell ⟨hr,0,none⟩ V0).setCell ⟨hr,1,none⟩ V1).setCell ⟨hr,2,none⟩ V2).setCell ⟨hr,3,none⟩ V3).setCell ⟨hr,4,none⟩ V4).setCell ⟨hr,5,none⟩ V5).setCell ⟨hr,6,none⟩ V6).setCell ⟨hr,7,none⟩ V7).setCell ⟨hr,8,none⟩ V8)):=hid fun V0 V1 V2 V3 V4 V5 V6 V7 V8=>by
     have hwr:=HWR.out
     have hk9:Kx 0 [110] v2 (((((((((v2.setCell ⟨hr,0,none⟩ V0).setCell ⟨hr,1,none⟩ V1).setCell ⟨hr,2,none⟩ V2).setCell ⟨hr,3,none⟩ V3).setCell ⟨hr,4,none⟩ V4).setCell ⟨hr,5,none⟩ V5).setCell ⟨hr,6,none⟩ V6).setCell ⟨hr,7,none⟩ V7).setCell ⟨hr,8,none⟩ V8):=(((((((((Kx.refl.set HJ2.out.br (Nat.zero_le _) (by simp) 0 V0).set (HJ2.out.br.set_ 0 V0) (Nat.zero_le _) (by simp) 1 V1).set ((HJ2.out.br.set_ 0 V0).set_ 1 V1) (Nat.zero_le _) (by simp) 2 V2).set (((HJ2.out.br.set_ 0 V0).set_ 1 V1).set_ 2 V2) (Nat.zero_le _) (by simp) 3 V3).set ((((HJ2.out.br.set_ 0 V0).set_ 1 V1).set_ 2 V2).set_ 3 V3) (Nat.zero_le _) (by simp) 4 V4).set (((((HJ2.out.br.set_ 0 V0).set_ 1 V1).set_ 2 V2).set_ 3 V3).set_ 4 V4) (Nat.zero_le _) (by simp) 5 V5).set ((((((HJ2.out.br.set_ 0 V0).set_ 1 V1).set_ 2 V2).set_ 3 V3).set_ 4 V4).set_ 5 V5) (Nat.zero_le _) (by simp) 6 V6).set (((((((HJ2.out.br.set_ 0 V0).set_ 1 V1).set_ 2 V2).set_ 3 V3).set_ 4 V4).set_ 5 V5).set_ 6 V6) (Nat.zero_le _) (by simp) 7 V7).set ((((((((HJ2.out.br.set_ 0 V0).set_ 1 V1).set_ 2 V2).set_ 3 V3).set_ 4 V4).set_ 5 V5).set_ 6 V6).set_ 7 V7) (Nat.zero_le _) (by simp) 8 V8)
     have hbel:Below w.heap.size w v2:=HB0.out.trans (HJ2.out.fq.below (fun k hk=>by rw [show k=s by simpa using hk];omega) HB0.out.size)
     exact ⟨HJ2.out.ks.keep hk9 (by decide) (by decide),(((((((((hbel.setCell (p:=⟨hr,0,none⟩) hwr V0).setCell (p:=⟨hr,1,none⟩) hwr V1).setCell (p:=⟨hr,2,none⟩) hwr V2).setCell (p:=⟨hr,3,none⟩) hwr V3).setCell (p:=⟨hr,4,none⟩) hwr V4).setCell (p:=⟨hr,5,none⟩) hwr V5).setCell (p:=⟨hr,6,none⟩) hwr V6).setCell (p:=⟨hr,7,none⟩) hwr V7).setCell (p:=⟨hr,8,none⟩) hwr V8)⟩
    clear HJ2
    go_wp2_with fail
    (try simp only [Exit.inBlock,Exit.then])
    refine bodyPost_ret (v:=.agg #[.slice kA kn kc,.slice SA sn sc,.slice pA N pc,.int i64 pl,.int i64 seed,.int i64 0,.int i64 gy,.int i64 stp,.int i64 fuel]) ?_ rfl ⟨kA,SA,pA,kn,kc,sn,sc,N,pc,nk,ks,pl,seed,gy,stp,fuel,rfl,hid ⟨(HFIN.out _ _ _ _ _ _ _ _ _).1,HKN.out,hnk,HPL.out.1,HPL.out.2,HSF.out.1,HSF.out.2.1,HGY.out.1,HGY.out.2,HSTP.out.1,HSTP.out.2,HSF.out.2.2.1,HSF.out.2.2.2⟩,(HFIN.out _ _ _ _ _ _ _ _ _).2⟩
    rw [results_c1 rfl]
    go_simp
theorem mapF_k4:mapF k4=((1,2,3),0):=by decide +kernel
set_option maxHeartbeats 800000 in
theorem bodies_say:BodiesSay:=by
 intro w
 have HK:=hid kinds4_any
 go_enter Try.func21,Try.ntmps21
 go_wp2_with fail
 refine (HK.out _).mono ?_
 rintro e w1 ⟨A,c,ks,rfl,hks,hp,hb⟩
 have hof:=of_says hks
 rw [hp,mapF_k4] at hof
 have HOF:=hid hof
 have HB:=hid hb
 clear hof hks hp hb
 go_wp2_with fail
 refine HOF.out.mono ?_
 rintro e w2 ⟨rfl,hb2⟩
 have HB2:=hid (HB.out.trans (hb2.mono HB.out.size))
 clear hb2
 dsimp only
 go_wp2_with fail
 go_ret
 exact ⟨rfl,HB2.out.alloc HB2.out.size _⟩
end Go.Proofs.Ytnidcmhfbkdioaa
