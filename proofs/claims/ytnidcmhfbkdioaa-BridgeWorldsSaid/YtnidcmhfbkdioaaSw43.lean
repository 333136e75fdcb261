/-
  Lemmas for the walk, merged (Bo Bn Bp). No condition but those in each statement.
-/
import Derived.Test.YtnidcmhfbkdioaaSw37
import Derived.Test.YtnidcmhfbkdioaaSw42
import Derived.Test.YtnidcmhfbkdioaaSw10
import Derived.Test.YtnidcmhfbkdioaaSw39
namespace Go.Proofs.Ytnidcmhfbkdioaa
open Go.RowKit
open Go.IntKind (i64)
open Go.Lib (hid)
set_option maxRecDepth 100000
noncomputable def soItem:Code:=(Try.f57.body.bind (blkN 1)).getD .skip
set_option maxHeartbeats 8000000 in
theorem soItem_any {x0 x1 x2 x3 x4 x5 x7 Aa Ab Ac Ad Ae Af Ag Ah Ai Aj Ak Al Am Ao Ap Aq Au Aw Ax Ay Az A7 A9 Be Bl Bu Bv Bw B0 B1 B2 B3 B4 B5 B6 B7 B8 B9 Cg Ch Ci Cj Ck Cp Cq Cr Cs Cu Cw Cx Cy Cz C0 C1 C2 C3 C4 C5 C6 C7 C8 C9 Da Db Dc Dd De Dg Dh Di Dj Dk Dl:Value} {Q:Exit->Act->World->Prop} {w0:World} {B base sA eA n c ec mA im ic k:Nat} {A E IA:Option Addr} {its:List It} {it:It} {m0 m1 m2 m3 m4:Int} {q:List (Bo × (Int × Int))}
 (hits:IsOk w0 B IA im ic its) (hk:its[k]?=some it) (hm:Bk w0 mA 141 #[.int i64 m0,.int i64 m1,.int i64 m2,.int i64 m3,.int i64 m4]) (hS:ScI w0 base sA A n c E ec 0 0 0 q) (he:Bk w0 eA 116 #[.slice E n ec]) (heo:base<=eA)
 (hv0:VaOk it.cms m0 3) (hv1:VaOk it.cms m1 4) (hv2:VaOk it.cms m2 5) (hneg:∀ k,k<0->cmAt it.cms k=none) (hszs:∀ cm∈it.cms,cm.n<=1048576) (hn256:n<=256) (_hB:B<=base) (hbase:base<=w0.heap.size)
 (hNo:∀ (Hm Hn Ho Ih Ii Ij Ik Il Im Io Ip Iq Ir Iu Iw Ix Iy Iz I2 I3 I4 I5 I6:Value) (w':World),Hid (bodyF m0 m1 m2 it.cms=none/\Below w0.heap.size w0 w')->Q .normal ⟨#[x0,x1,x2,x3,x4,x5,.pointer (some ⟨mA,0,none⟩),x7,.pointer (some ⟨sA,0,none⟩),.pointer (some ⟨eA,0,none⟩),Aa,Hm,Hn,Ho,Ae,Af,Ag,Ah,Ai,Aj,Ak,Al,Am,Ao,Ap,Aq,.slice IA im ic,Au,.int i64 (k:Int),Aw,Ih,Ii,Ij,Ik,Il,Im,Io,Ip,Iq,Ir,Iu,Iw,Ix,Iy,Iz,I2,I3,I4,I5,I6,Cg,Ch,Ci,Cj,Ck,Cp,Cq,Cr,Cs,Cu,Cw,Cx,Cy,Cz,C0,C1,C2,C3,C4,C5,C6,C7,C8,C9,Da,Db,Dc,Dd,De,Dg,Dh,Di,Dj,Dk,Dl],[]⟩ w')
 (hYes:∀ (Hm Hn Ho Ih Ii Ij Ik Il Im Io Ip Iq Ir Iu Iw Ix Iy Iz I2 I3 I4 I5 I6:Value) (gB cB gE cE:Nat) (b:Bo) (w':World),Hid (bodyF m0 m1 m2 it.cms=some b/\ScI w' base sA (some ⟨gB,0,none⟩) (n+1) cB (some ⟨gE,0,none⟩) cE 0 0 0 (q++[(b,(it.e,it.g))])/\Bk w' eA 116 #[.slice (some ⟨gE,0,none⟩) (n+1) cE]/\Kx 0 [124,128,115,116] w0 w'/\(∀ g cs,g≠sA->Bk w0 g 115 cs->Bk w' g 115 cs)/\Below base w0 w')->Q .normal ⟨#[x0,x1,x2,x3,x4,x5,.pointer (some ⟨mA,0,none⟩),x7,.pointer (some ⟨sA,0,none⟩),.pointer (some ⟨eA,0,none⟩),Aa,Hm,Hn,Ho,Ae,Af,Ag,Ah,Ai,Aj,Ak,Al,Am,Ao,Ap,Aq,.slice IA im ic,Au,.int i64 (k:Int),Aw,Ih,Ii,Ij,Ik,Il,Im,Io,Ip,Iq,Ir,Iu,Iw,Ix,Iy,Iz,I2,I3,I4,I5,I6,Cg,Ch,Ci,Cj,Ck,Cp,Cq,Cr,Cs,Cu,Cw,Cx,Cy,Cz,C0,C1,C2,C3,C4,C5,C6,C7,C8,C9,Da,Db,Dc,Dd,De,Dg,Dh,Di,Dj,Dk,Dl],[]⟩ w') :
 Code.wp Try.prog soItem Q ⟨#[x0,x1,x2,x3,x4,x5,.pointer (some ⟨mA,0,none⟩),x7,.pointer (some ⟨sA,0,none⟩),.pointer (some ⟨eA,0,none⟩),Aa,Ab,Ac,Ad,Ae,Af,Ag,Ah,Ai,Aj,Ak,Al,Am,Ao,Ap,Aq,.slice IA im ic,Au,.int i64 (k:Int),Aw,Ax,Ay,Az,A7,A9,Be,Bl,Bu,Bv,Bw,B0,B1,B2,B3,B4,B5,B6,B7,B8,B9,Cg,Ch,Ci,Cj,Ck,Cp,Cq,Cr,Cs,Cu,Cw,Cx,Cy,Cz,C0,C1,C2,C3,C4,C5,C6,C7,C8,C9,Da,Db,Dc,Dd,De,Dg,Dh,Di,Dj,Dk,Dl],[]⟩ w0:=by
 conv=>arg 2;whnf
 have hmem:=List.mem_of_getElem? hk
 have hkn:k<im:=by rw [hits.len];exact (List.getElem?_eq_some_iff.1 hk).1
 obtain ⟨bi,oi,hIA,hbi,q0,q1,q2⟩:=Rd.it hits.rd hkn hk
 subst hIA
 have hkz:(k:Int)<im:=by omega
 have hkz0:(0:Int)<=k:=by omega
 have hIC:=hits.cap
 have hIC2:=hits.cap2
 obtain ⟨R,hR⟩:∃ R,R=bodyF m0 m1 m2 it.cms:=⟨_,rfl⟩
 obtain ⟨ia,hia⟩:∃ z,z=w0.heap.size:=⟨_,rfl⟩
 obtain ⟨W1,hW1⟩:∃ z,z=w0.alloc (.cells #[.int i64 it.e,.int i64 it.g,.slice it.A it.n it.c] 147):=⟨_,rfl⟩
 have hb1:Below w0.heap.size w0 W1:=by rw [hW1];exact (Below.refl _ _).alloc (Nat.le_refl _) _
 have HIA:Hid (Bk W1 ia 147 #[.int i64 it.e,.int i64 it.g,.slice it.A it.n it.c]):=hid (by rw [hW1,hia];exact Bk.new _ _ _)
 have HBD:Hid (Calls Try.prog 136 #[.agg #[.int i64 m0,.int i64 m1,.int i64 m2,.int i64 m3,.int i64 m4],.agg #[.int i64 it.e,.int i64 it.g,.slice it.A it.n it.c]] W1 (BoP W1 R)):=hid (by
  rw [hR]
  exact rbody_any ((hits.ok it hmem).cs.below (hb1.mono hits.lo)) it.e it.g m0 m1 m2 m3 m4 hv0 hv1 hv2 hneg hszs)
 have HM1:Hid (Bk W1 mA 141 #[.int i64 m0,.int i64 m1,.int i64 m2,.int i64 m3,.int i64 m4]):=hid (hm.below hb1 hm.lt)
 have HS1:Hid (ScI W1 base sA A n c E ec 0 0 0 q):=hid (hS.keep (F:=[]) (Kx.of_below hb1) (by simp) (by simp) (by simp) (by simp))
 have HE1:Hid (Bk W1 eA 116 #[.slice E n ec]):=hid (he.below hb1 he.lt)
 have HEO:=hid heo
 have HB1:=hid hb1
 have HBS:Hid (base<=W1.heap.size/\w0.heap.size<=W1.heap.size):=hid ⟨Nat.le_trans hbase hb1.size,hb1.size⟩
 have HRR:=hid hR
 clear hits hk hm hS he heo hv0 hv1 hv2 hneg hszs hmem hb1 hbi hR
 go_upto_region 7 with fail
 rw [<- hW1,<- hia]
 clear q0 q1 q2 hW1 hia
 have a0:W1.cell? ⟨mA,0,none⟩=some (.int i64 m0):=HM1.out.cell 0
 have a1:W1.cell? ⟨mA,1,none⟩=some (.int i64 m1):=HM1.out.cell 1
 have a2:W1.cell? ⟨mA,2,none⟩=some (.int i64 m2):=HM1.out.cell 2
 have a3:W1.cell? ⟨mA,3,none⟩=some (.int i64 m3):=HM1.out.cell 3
 have a4:W1.cell? ⟨mA,4,none⟩=some (.int i64 m4):=HM1.out.cell 4
 have i0:W1.cell? ⟨ia,0,none⟩=some (.int i64 it.e):=HIA.out.cell 0
 have i1:W1.cell? ⟨ia,1,none⟩=some (.int i64 it.g):=HIA.out.cell 1
 have i2:W1.cell? ⟨ia,2,none⟩=some (.slice it.A it.n it.c):=HIA.out.cell 2
 go_wp2_with fail
 (with_reducible refine HBD.out.mono ?_)
 rintro e' w2 ⟨hb2,hr2⟩
 have HB2:=hid hb2
 clear a0 a1 a2 a3 a4 i0 i1 i2 HBD hb2
 rcases R with _ | b
 . dsimp only at hr2
   subst hr2
   unfold BoZ
   have HBX:Hid (Below w0.heap.size w0 w2):=hid (HB1.out.trans (HB2.out.mono HBS.out.2))
   have hlo:w0.heap.size<=w2.heap.size:=HBX.out.size
   have HR:Hid (bodyF m0 m1 m2 it.cms=none/\Below w0.heap.size w0 (w2.alloc (.cells #[.int i64 0,.int i64 0,.int i64 0,.int i64 0,.int i64 0,.int i64 0,.int i64 0,.int i64 0,.int i64 0,.int i64 0,.slice none 0 0,.bool false,.int i64 0] 124))):=hid ⟨HRR.out.symm,HBX.out.alloc hlo _⟩
   go_wp2_with fail
   (try simp only [Exit.inBlock,Exit.then])
   first
    | exact HR
    | exact hNo _ _ _ _ _ _ _ _ _ _ _ _ _ _ _ _ _ _ _ _ _ _ _ _ HR
 . dsimp only at hr2
   obtain ⟨g0,cc,rfl,hown⟩:=hr2
   unfold Bo.v
   obtain ⟨ba,hba⟩:∃ z,z=w2.heap.size:=⟨_,rfl⟩
   obtain ⟨W3,hW3⟩:∃ z,z=w2.alloc (.cells #[.int i64 b.px,.int i64 b.py,.int i64 b.vx,.int i64 b.vy,.int i64 b.ang,.int i64 b.spin,.int i64 b.mass,.int i64 b.inr,.int i64 b.bou,.int i64 b.rub,.slice (some ⟨g0,0,none⟩) 4 cc,.bool b.asl,.int i64 b.calm] 124):=⟨_,rfl⟩
   have HB3:Hid (Below W1.heap.size W1 W3):=hid (by rw [hW3];exact HB2.out.alloc HB2.out.size _)
   have HBA:Hid (Bk W3 ba 124 #[.int i64 b.px,.int i64 b.py,.int i64 b.vx,.int i64 b.vy,.int i64 b.ang,.int i64 b.spin,.int i64 b.mass,.int i64 b.inr,.int i64 b.bou,.int i64 b.rub,.slice (some ⟨g0,0,none⟩) 4 cc,.bool b.asl,.int i64 b.calm]):=hid (by rw [hW3,hba];exact Bk.new _ _ _)
   have HBY:Hid (BmY W3 base ⟨b,g0,cc⟩):=hid (by rw [hW3];exact own_monoB (hown.alloc _) HBS.out.1)
   have HLT:Hid (W1.heap.size<=ba):=hid (by rw [hba];exact HB2.out.size)
   have HB03:Hid (Below base w0 W3):=hid ((HB1.out.mono hbase).trans (HB3.out.mono HBS.out.1))
   have HIA3:=hid (HIA.out.below HB3.out HIA.out.lt)
   have HE3:=hid (HE1.out.below HB3.out HE1.out.lt)
   have HS3:Hid (ScI W3 base sA A n c E ec 0 0 0 q):=hid (HS1.out.keep (F:=[]) (Kx.of_below HB3.out) (by simp) (by simp) (by simp) (by simp))
   have HQ:Hid (n=q.length):=hid HS1.out.len
   have HNE:Hid ((Value.slice A n c).ownBlock≠some ba):=hid (by
    obtain ⟨l,hl,_⟩:=HS1.out.bm
    intro e
    have:=(hl.own.lt ba e).2
    have:=HLT.out
    omega)
   have HK03:Hid (Kx 0 [124,128,115,116] w0 W3):=hid ((Kx.of_below HB1.out).trans (Kx.of_below HB3.out))
   have HK3:Hid (∀ g cs,Bk w0 g 115 cs->Bk W3 g 115 cs):=hid fun g cs h=>(h.below HB1.out h.lt).below HB3.out (h.below HB1.out h.lt).lt
   go_upto_region 9 with fail
   rw [<- hW3,<- hba]
   have HSZ3:Hid (base<=W3.heap.size):=hid (Nat.le_trans hbase HB03.out.size)
   clear hW3 hba hown
   refine so9_any HS3.out HE3.out HEO.out HIA3.out HBA.out HBY.out (by rw [<- HQ.out];exact hn256) HSZ3.out HNE.out ?_
   intro z39 z40 z41 z42 z43 z44 z45 z46 z47 z48 z49 gB cB gE cE w5 H5
   have HF:Hid (bodyF m0 m1 m2 it.cms=some b/\ScI w5 base sA (some ⟨gB,0,none⟩) (n+1) cB (some ⟨gE,0,none⟩) cE 0 0 0 (q++[(b,(it.e,it.g))])/\Bk w5 eA 116 #[.slice (some ⟨gE,0,none⟩) (n+1) cE]/\Kx 0 [124,128,115,116] w0 w5/\(∀ g cs,g≠sA->Bk w0 g 115 cs->Bk w5 g 115 cs)/\Below base w0 w5):=hid ⟨HRR.out.symm,H5.out.1,H5.out.2.1,HK03.out.trans H5.out.2.2.1.kx,fun g cs hg h=>H5.out.2.2.2.2 g cs hg (HK3.out g cs h),HB03.out.trans H5.out.2.2.2.1⟩
   (try simp only [Exit.inBlock])
   first
    | exact HF
    | exact hYes _ _ _ _ _ _ _ _ _ _ _ _ _ _ _ _ _ _ _ _ _ _ _ _ _ _ _ b _ HF
theorem enCs_get (l:List (Int × Int)) (k j:Nat) (f:Int × Int) (h:l[k]?=some f) (hj:j<2):(enCs l)[k*2+j]?=([.int i64 f.1,.int i64 f.2]:List Value)[j]?:=by
 induction l generalizing k with
 | nil=>simp at h
 | cons a l ih =>
   have e:enCs (a::l)=[.int i64 a.1,.int i64 a.2]++enCs l:=by simp [enCs]
   rw [e]
   cases k with
   | zero =>
     have ea:a=f:=by simpa using h
     subst ea
     rw [List.getElem?_append_left (by simp;omega)]
     congr 1;omega
   | succ k =>
     rw [List.getElem?_append_right (by simp;omega)]
     rw [show (k+1)*2+j-([.int i64 a.1,.int i64 a.2]:List Value).length=k*2+j by simp;omega]
     exact ih k (by simpa using h)
theorem Rd.en {w:World} {B n:Nat} {A:Option Addr} {l:List (Int × Int)} {k:Nat} {f:Int × Int} (h:Rd w B 2 A n (enCs l)) (hk:k<n) (hf:l[k]?=some f) :
 ∃ b o,A=some ⟨b,o,none⟩/\b<B/\w.cell? ⟨b,o+k*2,none⟩=some (.int i64 f.1)/\w.cell? ⟨b,o+k*2+1,none⟩=some (.int i64 f.2):=by
 obtain ⟨b,o,e,hb,hc⟩:=h.2 (by omega)
 exact ⟨b,o,e,hb,hc (k*2) _ ((enCs_get l k 0 f hf (by omega)).trans rfl),by rw [Nat.add_assoc];exact hc (k*2+1) _ ((enCs_get l k 1 f hf (by omega)).trans rfl)⟩
def slotI (l:List (Int × Int)) (N:Int):Int:=idxF (fun e:Int × Int=>decide (e.1=N)) l
theorem clo139_any (xe xg:Int) (gb:Nat) (N:Int) (w:World) (hb:w.cell? ⟨gb,0,none⟩=some (.int i64 N)) (hgb:gb<w.heap.size) :
 Calls Try.prog 139 #[.agg #[.int i64 xe,.int i64 xg],.pointer (some ⟨gb,0,none⟩)] w fun e w'=>e=.returned (.bool (decide (xe=N)))/\Below w.heap.size w w':=by
 have hb1:(w.alloc (.cells #[.int i64 xe,.int i64 xg] 128)).cell? ⟨gb,0,none⟩=some (.int i64 N):=(((Below.refl w.heap.size w).alloc (Nat.le_refl _) _).cell (p:=⟨gb,0,none⟩) hgb).trans hb
 have HB:=hid ((Below.refl w.heap.size w).alloc (Nat.le_refl _) (.cells #[.int i64 xe,.int i64 xg] 128))
 obtain ⟨d,hd⟩:∃ d,d=decide (xe=N):=⟨_,rfl⟩
 have t0:(xe == N)=d:=by rw [hd];rw [Bool.eq_iff_iff];simp
 rw [<- hd]
 clear hb hd
 cases d
 all_goals
  go_enter Try.func139,Try.ntmps139
  go_wp2_with fail
  go_ret
  exact ⟨rfl,HB.out⟩
set_option maxHeartbeats 1600000 in
theorem idxEnt_any {w:World} {B n c:Nat} {A:Option Addr} {l:List (Int × Int)} (gb:Nat) (N:Int) (h:Rd w B 2 A n (enCs l)) (hlen:n=l.length) (hcap:n<=c) (hcap2:c<=9223372036854775807) (hB:B<=w.heap.size) (hb:w.cell? ⟨gb,0,none⟩=some (.int i64 N)) (hgb:gb<w.heap.size) :
 Calls Try.prog 138 #[.slice A n c,.func (.func 139) #[] #[.pointer (some ⟨gb,0,none⟩)]] w fun e w'=>e=.returned (.int i64 (slotI l N))/\Below w.heap.size w w':=by
 obtain ⟨R,hR⟩:∃ R,R=slotI l N:=⟨_,rfl⟩
 rw [<- hR]
 have HR:=hid hR
 have HK:Hid (Rd w B 2 A n (enCs l)/\n=l.length):=hid ⟨h,hlen⟩
 have HB:=hid hb
 clear h hR hb hlen
 go_enter Try.func138,Try.ntmps138
 go_wp2_with fail
 go_loopw [8] (fun i wr=>∃ k:Nat,k<=n/\i=.int i64 k/\Hid (∀ j x,j<k->l[j]?=some x->x.1≠N)/\Hid (Below w.heap.size w wr)) (fun i _=>n-(intOf i).toNat)
 case atStart=>exact ⟨0,Nat.zero_le _,rfl,hid (fun j x hj=>by omega),hid (Below.refl _ _)⟩
 case round =>
  obtain ⟨k,hk,rfl,HT,HW⟩:=hrel
  by_cases hlt:k<n
  . obtain ⟨x,hx⟩:∃ x,l[k]?=some x:=⟨_,List.getElem?_eq_getElem (by have:=HK.out.2;omega)⟩
    obtain ⟨b,o,rfl,hbb,q0,q1⟩:=(HK.out.1.below (HW.out.mono hB)).en hlt hx
    have hcl:=clo139_any x.1 x.2 gb N wr ((HW.out.cell (p:=⟨gb,0,none⟩) hgb).trans HB.out) (by have:=HW.out.size;omega)
    obtain ⟨d,hd⟩:∃ d,d=decide (x.1=N):=⟨_,rfl⟩
    rw [<- hd] at hcl
    have HCL:=hid hcl
    have HX:=hid hx
    have HD:=hid hd
    have hkn:(k:Int)<n:=by omega
    have hk0:(0:Int)<=k:=by omega
    clear hx hcl hd
    go_wp2_with fail
    (with_reducible refine HCL.out.mono ?_)
    rintro e w3 ⟨rfl,hb3⟩
    have HB3:=hid (HW.out.trans (hb3.mono HW.out.size))
    clear hb3
    cases d
    . go_wp2_with fail
      go_roundw
      case measure=>simp [intOf];omega
      case rel=>exact ⟨k+1,by omega,by go_num,hid (fun j y hj hy=>by
       rcases Nat.lt_or_ge j k with h | h
       . exact HT.out j y h hy
       . obtain rfl:j=k:=by omega
         rw [HX.out] at hy
         injection hy with hy
         rw [<- hy];exact of_decide_eq_false HD.out.symm),HB3⟩
    . go_wp2_with fail
      go_ret
      rw [HR.out]
      unfold slotI
      rw [idxF_hit HX.out HD.out.symm fun j y hj hy=>decide_eq_false (HT.out j y hj hy)]
      exact ⟨rfl,HB3.out⟩
  . obtain rfl:n=k:=by omega
    go_wp2_with fail
    go_ret
    rw [HR.out]
    unfold slotI
    rw [idxF_none fun j y hy=>decide_eq_false (HT.out j y (by have:=(List.getElem?_eq_some_iff.1 hy).1;have:=HK.out.2;omega) hy)]
    exact ⟨rfl,HW.out⟩
set_option maxHeartbeats 1600000 in
theorem slotI_any {w:World} {B n c eA:Nat} {A:Option Addr} {l:List (Int × Int)} (N:Int) (h:Rd w B 2 A n (enCs l)) (hlen:n=l.length) (hcap:n<=c) (hcap2:c<=9223372036854775807) (hB:B<=w.heap.size) (he:Bk w eA 116 #[.slice A n c]) :
 Calls Try.prog 137 #[.int i64 N,.pointer (some ⟨eA,0,none⟩)] w fun e w'=>e=.returned (.int i64 (slotI l N))/\Below w.heap.size w w':=by
 obtain ⟨R,hR⟩:∃ R,R=slotI l N:=⟨_,rfl⟩
 rw [<- hR]
 obtain ⟨gb,hgb⟩:∃ z,z=w.heap.size:=⟨_,rfl⟩
 obtain ⟨W1,hW1⟩:∃ z,z=w.alloc (.cells #[.int i64 N] 3):=⟨_,rfl⟩
 have hb1:Below w.heap.size w W1:=by rw [hW1];exact (Below.refl _ _).alloc (Nat.le_refl _) _
 have hk1:Bk W1 gb 3 #[.int i64 N]:=by rw [hW1,hgb];exact Bk.new _ _ _
 have hcl:=idxEnt_any (w:=W1) gb N (h.below (hb1.mono hB)) hlen hcap hcap2 (Nat.le_trans hB hb1.size) (hk1.cell 0) hk1.lt
 rw [<- hR] at hcl
 have HCL:=hid hcl
 have HE:=hid (he.below hb1 he.lt)
 have HB1:=hid hb1
 clear h hlen hcap hcap2 hB he hb1 hk1 hcl hR
 go_enter Try.func137,Try.ntmps137
 go_upto_region 1 with fail
 rw [<- hW1,<- hgb]
 clear hW1 hgb
 have a0:W1.cell? ⟨eA,0,none⟩=some (.slice A n c):=HE.out.cell 0
 go_wp2_with fail
 (with_reducible refine HCL.out.mono ?_)
 rintro e w2 ⟨rfl,hb2⟩
 have HB2:=hid (HB1.out.trans (hb2.mono HB1.out.size))
 clear hb2 HE HCL a0
 go_wp2_with fail
 go_ret
 exact ⟨rfl,HB2.out⟩
noncomputable def soCon:Code:=(Try.f57.body.bind (blkN 3)).getD .skip
def ctR1 (en:List (Int × Int)) (c:Ct):List Ct:=if slotI en c.a<0\/slotI en c.b<0 then [] else [{ c with a:=slotI en c.a,b:=slotI en c.b }]
set_option maxHeartbeats 8000000 in
theorem soCon_any {x0 x1 x2 x3 x4 x5 x6 x7 x9 Aa Ab Ac Ad Af Ag Ah Ai Aj Ak Al Am Ao Ap Aq Ar Au Av Aw Ax Ay Az A7 A9 Be Bl Bu Bv Bw B0 B1 B2 B3 B4 B5 B6 B7 B8 B9 Cg Ch Cj Cp Cq Cr Cs Cu Cw Cx Cy Cz C0 C1 C2 C3 C4 C5 C6 C7 C8 C9 Da Db Dc Dd De Dg Dh Di Dj Dk Dl:Value} {Q:Exit->Act->World->Prop} {w0:World} {B base sA eA n ec cn cc j kn kc:Nat} {cA kA E:Option Addr} {cl D:List Ct} {ct:Ct} {en:List (Int × Int)} {V0 V1 V2 V3:Value}
 (hrd:Rd w0 B 10 cA cn (ctCs cl)) (hcl:cn=cl.length) (_hcap:cn<=cc) (_hcap2:cc<=9223372036854775807) (hj:cl[j]?=some ct) (he:Bk w0 eA 116 #[.slice E n ec]) (hen:w0.ownsRow base 128 2 (.slice E n ec) n (enCs en)) (hel:n=en.length)
 (hS:Bk w0 sA 115 #[V0,.slice none 0 0,.slice kA kn kc,V1,V2,V3]) (hO:w0.ownsRow base 131 10 (.slice kA kn kc) kn (ctCs D)) (hkn:(kn+1)*80<=140737488355328) (hbase:base<=w0.heap.size) (hsA:base<=sA)
 (hN:∀ (Hr Hs Ht Jd Je Jf Jg Jh Ji Jj Jk Jl Jm Jn Jo Jp Jq Jr Js Jt Ju Jv Jw Jx Jy Jz J1 J2 J3:Value) (w':World),Hid ((∃ kA' kn' kc',Bk w' sA 115 #[V0,.slice none 0 0,.slice kA' kn' kc',V1,V2,V3]/\w'.ownsRow base 131 10 (.slice kA' kn' kc') kn' (ctCs (D++ctR1 en ct))/\kn'<=kn+1)/\Kz [131,115] w0 w'/\Below base w0 w'/\∀ g cs,g≠sA->Bk w0 g 115 cs->Bk w' g 115 cs)->Q .normal ⟨#[x0,x1,x2,x3,x4,x5,x6,x7,.pointer (some ⟨sA,0,none⟩),x9,Aa,Ab,Ac,Ad,.func (.func 137) #[] #[.pointer (some ⟨eA,0,none⟩)],Af,Hr,Hs,Ht,Aj,Ak,Al,Am,Ao,Ap,Aq,Ar,Au,Av,Aw,Ax,Ay,Az,A7,A9,Be,Bl,Bu,Bv,Bw,B0,B1,B2,B3,B4,B5,B6,B7,B8,B9,Cg,Ch,.slice cA cn cc,Cj,.int i64 (j:Int),Cp,Jd,Je,Jf,Jg,Jh,Ji,Jj,Jk,Jl,Jm,Jn,Jo,Jp,Jq,Jr,Js,Jt,Ju,Jv,Jw,Jx,Jy,Jz,J1,J2,J3,Dj,Dk,Dl],[]⟩ w') :
 Code.wp Try.prog soCon Q ⟨#[x0,x1,x2,x3,x4,x5,x6,x7,.pointer (some ⟨sA,0,none⟩),x9,Aa,Ab,Ac,Ad,.func (.func 137) #[] #[.pointer (some ⟨eA,0,none⟩)],Af,Ag,Ah,Ai,Aj,Ak,Al,Am,Ao,Ap,Aq,Ar,Au,Av,Aw,Ax,Ay,Az,A7,A9,Be,Bl,Bu,Bv,Bw,B0,B1,B2,B3,B4,B5,B6,B7,B8,B9,Cg,Ch,.slice cA cn cc,Cj,.int i64 (j:Int),Cp,Cq,Cr,Cs,Cu,Cw,Cx,Cy,Cz,C0,C1,C2,C3,C4,C5,C6,C7,C8,C9,Da,Db,Dc,Dd,De,Dg,Dh,Di,Dj,Dk,Dl],[]⟩ w0:=by
 conv=>arg 2;whnf
 obtain ⟨iC,hiC,hC0,hC1,hC2⟩:=info_parts T.info131
 have hjn:j<cn:=by rw [hcl];exact (List.getElem?_eq_some_iff.1 hj).1
 obtain ⟨bi,oi,hcA,hbi,q0,q1,q2,q3,q4,q5,q6,q7,q8,q9⟩:=Rd.ct hrd hjn hj
 subst hcA
 have hjz:(j:Int)<cn:=by omega
 have hjz0:(0:Int)<=j:=by omega
 obtain ⟨ca,hca⟩:∃ z,z=w0.heap.size:=⟨_,rfl⟩
 obtain ⟨W1,hW1⟩:∃ z,z=w0.alloc (.cells #[.int i64 ct.a,.int i64 ct.b,.int i64 ct.id,.int i64 ct.px,.int i64 ct.py,.int i64 ct.nx,.int i64 ct.ny,.int i64 ct.dp,.int i64 ct.ps,.int i64 ct.sl] 131):=⟨_,rfl⟩
 have hb1:Below w0.heap.size w0 W1:=by rw [hW1];exact (Below.refl _ _).alloc (Nat.le_refl _) _
 have HCA:Hid (Bk W1 ca 131 #[.int i64 ct.a,.int i64 ct.b,.int i64 ct.id,.int i64 ct.px,.int i64 ct.py,.int i64 ct.nx,.int i64 ct.ny,.int i64 ct.dp,.int i64 ct.ps,.int i64 ct.sl]):=hid (by rw [hW1,hca];exact Bk.new _ _ _)
 have HS1:Hid (Bk W1 sA 115 #[V0,.slice none 0 0,.slice kA kn kc,V1,V2,V3]):=hid (hS.below hb1 hS.lt)
 have HO1:Hid (W1.ownsRow base 131 10 (.slice kA kn kc) kn (ctCs D)):=hid ((Kx.of_below (B:=0) (F:=[]) hb1).own hO (by simp))
 have HNE:Hid ((Value.slice kA kn kc).ownBlock≠some ca):=hid (by
  intro e
  have:=(hO.lt ca e).2
  omega)
 have hen1:=(Kx.of_below (B:=0) (F:=[]) hb1).own hen (by simp)
 have he1:=he.below hb1 he.lt
 obtain ⟨hec,hec2⟩:=own_cap2 hen1
 obtain ⟨va,hva⟩:∃ z,z=slotI en ct.a:=⟨_,rfl⟩
 obtain ⟨vb,hvb⟩:∃ z,z=slotI en ct.b:=⟨_,rfl⟩
 have HSL:Hid (∀ v,Below W1.heap.size W1 v->∀ N,Calls Try.prog 137 #[.int i64 N,.pointer (some ⟨eA,0,none⟩)] v fun e w'=>e=.returned (.int i64 (slotI en N))/\Below v.heap.size v w'):=hid fun v hv N =>
  slotI_any N ((RdP.of_own hen1).rd.below hv) hel hec hec2 hv.size (he1.below hv he1.lt)
 have HV:Hid (va=slotI en ct.a/\vb=slotI en ct.b):=hid ⟨hva,hvb⟩
 have HB1:Hid (Kz [131,115] w0 W1/\Below base w0 W1/\∀ g cs,g≠sA->Bk w0 g 115 cs->Bk W1 g 115 cs):=hid ⟨Kz.of_below hb1,hb1.mono hbase,fun g cs _ h=>h.below hb1 h.lt⟩
 have HSZ:Hid (base<=W1.heap.size/\base<=ca):=hid ⟨Nat.le_trans hbase hb1.size,by rw [hca];exact hbase⟩
 clear hrd hcl hj hS hO hb1 hbi he hen hel hen1 he1 hec hec2 hva hvb
 go_upto_region 15 with fail
 rw [<- hW1,<- hca]
 clear q0 q1 q2 q3 q4 q5 q6 q7 q8 q9 hW1 hca
 obtain ⟨u0,hu0⟩:∃ z,z=W1.drew:=⟨_,rfl⟩
 have HBu0:Hid (Below W1.heap.size W1 u0):=hid (by rw [hu0];exact (Below.refl _ _).drew)
 have HS2:Hid (∀ wz,Below W1.heap.size W1 wz->wz.cell? ⟨ca,0,none⟩=some (.int i64 ct.a)/\wz.cell? ⟨ca,1,none⟩=some (.int i64 ct.b)):=hid fun wz h=>⟨(HCA.out.below h HCA.out.lt).cell 0,(HCA.out.below h HCA.out.lt).cell 1⟩
 refine wp_region_noPanic ?_
 refine wp_region_H (S:=fun wz=>wz.cell? ⟨ca,0,none⟩=some (.int i64 ct.a)/\wz.cell? ⟨ca,1,none⟩=some (.int i64 ct.b)) (by kernel_rfl) ?_
 rw [<- hu0]
 clear hu0
 refine wpH 0 (.func (.func 137) #[] #[.pointer (some ⟨eA,0,none⟩)]) 58 (HS2.out _ HBu0.out) ?_
 (try simp only [sP])
 refine wpH 1 (.pointer (some ⟨ca,0,none⟩)) 59 (HS2.out _ HBu0.out) ?_
 (try simp only [sP])
 refine wpH 2 (.int i64 ct.a) 60 (HS2.out _ HBu0.out) ?_
 (try simp only [sP])
 refine wpH 4 (.func (.func 137) #[] #[.pointer (some ⟨eA,0,none⟩)]) 62 (HS2.out _ HBu0.out) ?_
 (try simp only [sP])
 refine wpH 5 (.pointer (some ⟨ca,1,none⟩)) 63 (HS2.out _ HBu0.out) ?_
 (try simp only [sP])
 refine wpH 6 (.int i64 ct.b) 64 (HS2.out _ HBu0.out) ?_
 (try simp only [sP])
 refine wpAnyH_oneW (i:=3) rfl (by kernel_rfl) (by rfl) ?_
 go_simp
 go_at_call 137
 (with_reducible refine (HSL.out u0 HBu0.out ct.a).mono ?_)
 rintro e u1 ⟨rfl,hbu1⟩
 rw [<- HV.out.1]
 have HBu1:Hid (Below W1.heap.size W1 u1):=hid (HBu0.out.trans (hbu1.mono HBu0.out.size))
 clear hbu1
 refine And.intro (HS2.out _ HBu1.out) ?_
 (try simp only [sP])
 refine wpAnyH_oneW (i:=7) rfl (by kernel_rfl) (by rfl) ?_
 go_simp
 go_at_call 137
 (with_reducible refine (HSL.out u1 HBu1.out ct.b).mono ?_)
 rintro e u2 ⟨rfl,hbu2⟩
 rw [<- HV.out.2]
 have HBu2:Hid (Below W1.heap.size W1 u2):=hid (HBu1.out.trans (hbu2.mono HBu1.out.size))
 clear hbu2
 refine And.intro (HS2.out _ HBu2.out) ?_
 (try simp only [sP])
 refine wpH 8 (.int i64 va) 17 (HS2.out _ HBu2.out) ?_
 (try simp only [sP])
 refine wpH 9 (.int i64 vb) 18 (HS2.out _ HBu2.out) ?_
 (try simp only [sP])
 refine wpAnyH_done (by kernel_rfl) ?_ _
 refine NoPanic.normal ?_
 have HB12:Hid (Kz [131,115] W1 u2/\Below base W1 u2):=hid ⟨Kz.of_below HBu2.out,HBu2.out.mono HSZ.out.1⟩
 have HCA2:=hid (HCA.out.below HBu2.out HCA.out.lt)
 have HS12:Hid (Bk u2 sA 115 #[V0,.slice none 0 0,.slice kA kn kc,V1,V2,V3]):=hid (HS1.out.below HBu2.out HS1.out.lt)
 have HO12:Hid (u2.ownsRow base 131 10 (.slice kA kn kc) kn (ctCs D)):=hid ((Kx.of_below (B:=0) (F:=[]) HBu2.out).own HO1.out (by simp))
 have HB02:Hid (Kz [131,115] w0 u2/\Below base w0 u2/\∀ g cs,g≠sA->Bk w0 g 115 cs->Bk u2 g 115 cs):=hid ⟨HB1.out.1.trans HB12.out.1,HB1.out.2.1.trans HB12.out.2,fun g cs hg h=>(HB1.out.2.2 g cs hg h).below HBu2.out (HB1.out.2.2 g cs hg h).lt⟩
 have HSZ2:Hid (base<=u2.heap.size/\base<=ca):=hid ⟨Nat.le_trans HSZ.out.1 HBu2.out.size,HSZ.out.2⟩
 clear HSL HS2 HBu0 HBu1 HBu2 HB1 HCA HS1 HO1 HB12 HSZ
 by_cases hneg:va<0\/vb<0
 . have HR:Hid ((∃ kA' kn' kc',Bk u2 sA 115 #[V0,.slice none 0 0,.slice kA' kn' kc',V1,V2,V3]/\u2.ownsRow base 131 10 (.slice kA' kn' kc') kn' (ctCs (D++ctR1 en ct))/\kn'<=kn+1)/\Kz [131,115] w0 u2/\Below base w0 u2/\∀ g cs,g≠sA->Bk w0 g 115 cs->Bk u2 g 115 cs):=hid ⟨⟨kA,kn,kc,HS12.out,by
    have e:ctR1 en ct=[]:=by
     unfold ctR1
     rw [<- HV.out.1,<- HV.out.2]
     exact if_pos hneg
    rw [e,List.append_nil]
    exact HO12.out,by omega⟩,HB02.out⟩
   rcases Decidable.em (va<0) with h1 | h1
   . clear hneg
     go_wp2_with fail
     try (simp only [Exit.inBlock,Exit.then])
     all_goals
      first
      | exact HR
      | (apply hN;exact HR)
   . have h2:vb<0:=by omega
     clear hneg
     have h1':0<=va:=by omega
     go_wp2_with fail
     try (simp only [Exit.inBlock,Exit.then])
     all_goals
      first
      | exact HR
      | (apply hN;exact HR)
 . have h1:0<=va:=by omega
   have h2:0<=vb:=by omega
   have HNG:=hid hneg
   clear hneg
   have y0:=HCA2.out.frozen 0
   have y1:=HCA2.out.frozen 1
   obtain ⟨W2,hW2⟩:∃ z,z=(u2.setCell ⟨ca,0,none⟩ (.int i64 va)).setCell ⟨ca,1,none⟩ (.int i64 vb):=⟨_,rfl⟩
   have HC2:Hid (Bk W2 ca 131 #[.int i64 va,.int i64 vb,.int i64 ct.id,.int i64 ct.px,.int i64 ct.py,.int i64 ct.nx,.int i64 ct.ny,.int i64 ct.dp,.int i64 ct.ps,.int i64 ct.sl]):=hid (by rw [hW2];simpa using (HCA2.out.set_ 0 (.int i64 va)).set_ 1 (.int i64 vb))
   have HNS:Hid (ca≠sA):=hid (Bk.ne_ HCA2.out HS12.out (by decide))
   have HO2:Hid (W2.ownsRow base 131 10 (.slice kA kn kc) kn (ctCs D)):=hid (by rw [hW2];exact own_farB (own_farB HO12.out HNE.out) HNE.out)
   have HZ2:Hid (Kz [131,115] u2 W2):=hid (by rw [hW2];exact (Kz.refl.set HCA2.out (by simp) 0 _).set (HCA2.out.set_ 0 (.int i64 va)) (by simp) 1 _)
   have HX2:Hid (Kx 0 [131] u2 W2):=hid (by rw [hW2];exact ((Kx.refl (B:=0)).set HCA2.out (Nat.zero_le _) (by simp) 0 _).set (HCA2.out.set_ 0 (.int i64 va)) (Nat.zero_le _) (by simp) 1 _)
   have HS22:=hid (HX2.out.bk HS12.out (by decide))
   have HB2:Hid (Below base u2 W2):=hid (by rw [hW2];exact ((Below.refl _ _).setCell (p:=⟨ca,0,none⟩) HSZ2.out.2 _).setCell (p:=⟨ca,1,none⟩) HSZ2.out.2 _)
   have i0:u2.cell? ⟨ca,0,none⟩=some (.int i64 ct.a):=HCA2.out.cell 0
   have i1:u2.cell? ⟨ca,1,none⟩=some (.int i64 ct.b):=HCA2.out.cell 1
   have i2:u2.cell? ⟨ca,2,none⟩=some (.int i64 ct.id):=HCA2.out.cell 2
   have i3:u2.cell? ⟨ca,3,none⟩=some (.int i64 ct.px):=HCA2.out.cell 3
   have i4:u2.cell? ⟨ca,4,none⟩=some (.int i64 ct.py):=HCA2.out.cell 4
   have i5:u2.cell? ⟨ca,5,none⟩=some (.int i64 ct.nx):=HCA2.out.cell 5
   have i6:u2.cell? ⟨ca,6,none⟩=some (.int i64 ct.ny):=HCA2.out.cell 6
   have i7:u2.cell? ⟨ca,7,none⟩=some (.int i64 ct.dp):=HCA2.out.cell 7
   have i8:u2.cell? ⟨ca,8,none⟩=some (.int i64 ct.ps):=HCA2.out.cell 8
   have i9:u2.cell? ⟨ca,9,none⟩=some (.int i64 ct.sl):=HCA2.out.cell 9
   go_upto_region 18 with fail
   rw [<- hW2]
   clear hW2 i0 i1 i2 i3 i4 i5 i6 i7 i8 i9 y0 y1
   have j0:W2.cell? ⟨ca,0,none⟩=some (.int i64 va):=HC2.out.cell 0
   have j1:W2.cell? ⟨ca,1,none⟩=some (.int i64 vb):=HC2.out.cell 1
   have j2:W2.cell? ⟨ca,2,none⟩=some (.int i64 ct.id):=HC2.out.cell 2
   have j3:W2.cell? ⟨ca,3,none⟩=some (.int i64 ct.px):=HC2.out.cell 3
   have j4:W2.cell? ⟨ca,4,none⟩=some (.int i64 ct.py):=HC2.out.cell 4
   have j5:W2.cell? ⟨ca,5,none⟩=some (.int i64 ct.nx):=HC2.out.cell 5
   have j6:W2.cell? ⟨ca,6,none⟩=some (.int i64 ct.ny):=HC2.out.cell 6
   have j7:W2.cell? ⟨ca,7,none⟩=some (.int i64 ct.dp):=HC2.out.cell 7
   have j8:W2.cell? ⟨ca,8,none⟩=some (.int i64 ct.ps):=HC2.out.cell 8
   have j9:W2.cell? ⟨ca,9,none⟩=some (.int i64 ct.sl):=HC2.out.cell 9
   have s2:W2.cell? ⟨sA,2,none⟩=some (.slice kA kn kc):=HS22.out.cell 2
   go_wp2_with
    (at_builtin
     go_must (refine wpList_append_one _ rfl (.tmp 77) (.tmp 79) 76 rfl base 131 iC (.agg #[.int i64 0,.int i64 0,.int i64 0,.int i64 0,.int i64 0,.int i64 0,.int i64 0,.int i64 0,.int i64 0,.int i64 0]) 10 80 Try.underlying76 hiC hC0 hC1 hC2 rfl (by decide) (.slice kA kn kc) kn (ctCs D) rfl (HO2.out.alloc _) W2.heap.size 1 131 #[.int i64 va,.int i64 vb,.int i64 ct.id,.int i64 ct.px,.int i64 ct.py,.int i64 ct.nx,.int i64 ct.ny,.int i64 ct.dp,.int i64 ct.ps,.int i64 ct.sl] rfl (Bk.new W2 _ _) rfl ?c1 (kn+1) rfl ?c2 ?c3 ?c4 ?_)
     case c1=>simp [Value.oneCell']
     case c2=>unfold maxLen;omega
     case c3=>omega
     case c4=>(have h1:=HB2.out.size;have h2:=HSZ2.out.1;simp;omega)
     intro g8 c8 w8 hown8 hg8 hat8
     have HZ8:Hid (Kz [131] W2 w8):=hid ((Kz.refl.alloc _).grown (HO2.out.alloc _) hg8 (by simp))
     have HB8:Hid (Below base W2 w8):=hid (((Below.refl _ _).alloc (Nat.le_trans HSZ2.out.1 HB2.out.size) _).trans (grown_below (HO2.out.alloc _) hg8 (by have h1:=HB2.out.size;have h2:=HSZ2.out.1;simp;omega)))
     have HO8:Hid (w8.ownsRow base 131 10 (.slice (some ⟨g8,0,none⟩) (kn+1) c8) (kn+1) (ctCs (D++ctR1 en ct))):=hid (by
      have e:ctR1 en ct=[{ ct with a:=va,b:=vb }]:=by
       unfold ctR1
       rw [<- HV.out.1,<- HV.out.2]
       exact if_neg HNG.out
      rw [e,ctCs_app]
      exact hown8)
     have HK8:=hid (HZ8.out.kx.bk HS22.out (by decide))
     have s8:w8.cell? ⟨sA,2,none⟩=some (.slice kA kn kc):=HK8.out.cell 2
     have t8:w8.frozen? ⟨sA,2,none⟩=false:=HK8.out.frozen 2
     clear hown8 hg8 hat8 s2 j0 j1 j2 j3 j4 j5 j6 j7 j8 j9)
   (try simp only [Exit.inBlock,Exit.then])
   have HR:Hid ((∃ kA' kn' kc',Bk (w8.setCell ⟨sA,2,none⟩ (.slice (some ⟨g8,0,none⟩) (kn+1) c8)) sA 115 #[V0,.slice none 0 0,.slice kA' kn' kc',V1,V2,V3]/\(w8.setCell ⟨sA,2,none⟩ (.slice (some ⟨g8,0,none⟩) (kn+1) c8)).ownsRow base 131 10 (.slice kA' kn' kc') kn' (ctCs (D++ctR1 en ct))/\kn'<=kn+1)/\Kz [131,115] w0 (w8.setCell ⟨sA,2,none⟩ (.slice (some ⟨g8,0,none⟩) (kn+1) c8))/\Below base w0 (w8.setCell ⟨sA,2,none⟩ (.slice (some ⟨g8,0,none⟩) (kn+1) c8))/\∀ g cs,g≠sA->Bk w0 g 115 cs->Bk (w8.setCell ⟨sA,2,none⟩ (.slice (some ⟨g8,0,none⟩) (kn+1) c8)) g 115 cs):=hid (by
    refine ⟨⟨some ⟨g8,0,none⟩,kn+1,c8,by simpa using HK8.out.set_ 2 (.slice (some ⟨g8,0,none⟩) (kn+1) c8),?_,by omega⟩,?_,?_,?_⟩
    . exact ((Kx.refl (B:=0) (F:=[115])).set HK8.out (Nat.zero_le _) (by simp) 2 _).own HO8.out (by decide)
    . exact ((HB02.out.1.trans HZ2.out).trans (HZ8.out.mono (by simp))).set HK8.out (by simp) 2 _
    . exact ((HB02.out.2.1.trans HB2.out).trans HB8.out).setCell (p:=⟨sA,2,none⟩) hsA _
    . intro g cs hg h
      exact (HZ8.out.kx.bk (HX2.out.bk (HB02.out.2.2 g cs hg h) (by decide)) (by decide)).far (p:=⟨sA,2,none⟩) hg _)
   first
    | exact HR
    | (apply hN;exact HR)
end Go.Proofs.Ytnidcmhfbkdioaa
