/-
  Lemmas for the walk, merged (Gf Gh Gg). No condition but those in each statement.
-/
import Derived.Test.YtnidcmhfbkdioaaSw46
import Derived.Test.YtnidcmhfbkdioaaSw47
import Derived.Test.YtnidcmhfbkdioaaSw40
import Derived.Test.YtnidcmhfbkdioaaSw45
import Derived.Test.YtnidcmhfbkdioaaSw44
namespace Go.Proofs.Ytnidcmhfbkdioaa
open Go.RowKit
open Go.IntKind (i64)
open Go.Lib (hid)
set_option maxRecDepth 100000
noncomputable def mvCm:Code:=(Try.f71.body.bind (blkN 5)).getD .skip
set_option maxHeartbeats 16000000 in
theorem mvCm_any {x0 x1 x2 x4 x5 x6 x7 x8 x9 Aa Ab Ac Ad Ae Ag Ai Aj Ak Al Am Ao Ap Aq Ar Au Av Aw Ax Ay Az A7 A9 Be Bl Bu Bv Bw B0 B1 B2 B3 B4 B5 B6 B7 B8 B9 Cg Ch Ci Cj Ck Cp Cq Cr Cs Cu Cw Cx Cy Cz C0 C1 C2 C3 C4 C5 C6 C7 C8 C9 Da Db Dc Dd De Dg Dh Di Dj Dk Dl Dm Dn Dp Dq Dr Dt Dv Dw Dx Dy D0 D1 D3 D4 D5 D6 D7 D8 D9 Ee Ef Ei Ek El Em En Eo Es Et Eu Ev Ew Ex Ey Ez E0 E1 E2 E3 E4 E5 E6 E7 E8 E9 Fa Fb Ff Fg Fh Fi Fj Fk Fl Fm Fn Fp Fs Ft Fu Fv Fx Fy Fz F0:Value} {Q:Exit->Act->World->Prop} {w0:World} {B base wA mb ia g n c k kn kc vn N:Nat} {kA:Option Addr} {ks:List Kd} {I0 I1 W1 W2:Value} {upd:Cv->Cv} {l l1:List Cm} {x:Cm} {f:Int->Option Value}
 (hks:KsOk w0 B kA kn kc ks) (hB:B<=base) (hbase:base<=w0.heap.size) (hwA:Bk w0 wA 52 #[.slice kA kn kc,W1,W2]) (hia:Bk w0 ia 147 #[I0,I1,.slice (some ⟨g,0,none⟩) n c]) (hmp:MpV w0 mb N f) (hS:SeR w0 base (some ⟨g,0,none⟩) n c upd l l1 k) (hn:n=l.length) (hkn:k<n) (hx:l1[k]?=some x)
 (hf:(f x.k=none/\upd x.p=x.p)\/∃ (va:Nat) (vs:List Int) (K:Nat) (d:Kd),f x.k=some (.slice (some ⟨va,0,none⟩) vn vn)/\vn=vs.length/\vn<=4/\x.k=(K:Int)/\ks[K]?=some d/\Bk w0 va 3 (vs.map (Value.int .i64)).toArray/\upd x.p=(x.k,(fitF d.nm d.fds vs).1))
 (hN:∀ (Ht Hu Hv Hw Kw Ky K0 K1 K2 K3 K4 K5 K6 K7 K8 K9 La Lb Lc Ld Le Lf Lg Lh Li Lj Lk Ll Lm Ln Lo:Value) (l':List Cm) (w':World),Hid (SeR w' base (some ⟨g,0,none⟩) n c upd l l' (k+1)/\FqR (.slice (some ⟨g,0,none⟩) n c) base w0 w')->Q .normal ⟨#[x0,x1,x2,.pointer (some ⟨wA,0,none⟩),x4,x5,x6,x7,x8,x9,Aa,Ab,Ac,Ad,Ae,.map (some mb),Ag,.pointer (some ⟨ia,0,none⟩),Ht,Hu,Hv,Hw,Am,Ao,Ap,Aq,Ar,Au,Av,Aw,Ax,Ay,Az,A7,A9,Be,Bl,Bu,Bv,Bw,B0,B1,B2,B3,B4,B5,B6,B7,B8,B9,Cg,Ch,Ci,Cj,Ck,Cp,Cq,Cr,Cs,Cu,Cw,Cx,Cy,Cz,C0,C1,C2,C3,C4,C5,C6,C7,C8,C9,Da,Db,Dc,Dd,De,Dg,Dh,Di,Dj,Dk,Dl,Dm,Dn,Dp,Dq,Dr,.slice (some ⟨g,0,none⟩) n c,Dt,.int i64 (k:Int),Dv,Kw,Ky,K0,K1,K2,K3,K4,K5,K6,K7,K8,K9,La,Lb,Lc,Ld,Le,Lf,Lg,Lh,Li,Lj,Lk,Ll,Lm,Ln,Lo,Ez,E0,E1,E2,E3,E4,E5,E6,E7,E8,E9,Fa,Fb,Ff,Fg,Fh,Fi,Fj,Fk,Fl,Fm,Fn,Fp,Fs,Ft,Fu,Fv,Fx,Fy,Fz,F0],[]⟩ w') :
 Code.wp Try.prog mvCm Q ⟨#[x0,x1,x2,.pointer (some ⟨wA,0,none⟩),x4,x5,x6,x7,x8,x9,Aa,Ab,Ac,Ad,Ae,.map (some mb),Ag,.pointer (some ⟨ia,0,none⟩),Ai,Aj,Ak,Al,Am,Ao,Ap,Aq,Ar,Au,Av,Aw,Ax,Ay,Az,A7,A9,Be,Bl,Bu,Bv,Bw,B0,B1,B2,B3,B4,B5,B6,B7,B8,B9,Cg,Ch,Ci,Cj,Ck,Cp,Cq,Cr,Cs,Cu,Cw,Cx,Cy,Cz,C0,C1,C2,C3,C4,C5,C6,C7,C8,C9,Da,Db,Dc,Dd,De,Dg,Dh,Di,Dj,Dk,Dl,Dm,Dn,Dp,Dq,Dr,.slice (some ⟨g,0,none⟩) n c,Dt,.int i64 (k:Int),Dv,Dw,Dx,Dy,D0,D1,D3,D4,D5,D6,D7,D8,D9,Ee,Ef,Ei,Ek,El,Em,En,Eo,Es,Et,Eu,Ev,Ew,Ex,Ey,Ez,E0,E1,E2,E3,E4,E5,E6,E7,E8,E9,Fa,Fb,Ff,Fg,Fh,Fi,Fj,Fk,Fl,Fm,Fn,Fp,Fs,Ft,Fu,Fv,Fx,Fy,Fz,F0],[]⟩ w0:=by
 conv=>arg 2;whnf
 have hcap:=own_cap2 hS.own
 have hc1:n<=c:=hcap.1
 have hc2:c<=9223372036854775807:=hcap.2
 obtain ⟨gx,go,hgA,hgl,q0,q1⟩:=Rd.cm (Rd.of_own hS.own) hkn hx
 injection hgA with hgA
 injection hgA with hgA1 hgA2
 subst hgA1
 subst hgA2
 rw [Nat.zero_add] at q0 q1
 have hkz:(k:Int)<n:=by omega
 have hkz0:(0:Int)<=k:=by omega
 have HWF:Hid ((Lit.int i64 x.k).wf=true):=hid (hS.cm x (List.mem_of_getElem? hx)).wf
 have HX:Hid (l1[k]?=some x):=hid hx
 have HNN:Hid (n=l.length):=hid hn
 obtain ⟨xk,hxk⟩:∃ z,z=x.k:=⟨_,rfl⟩
 obtain ⟨ca,hca⟩:∃ z,z=w0.heap.size:=⟨_,rfl⟩
 obtain ⟨w1,hw1⟩:∃ z,z=w0.alloc (.cells #[.int i64 xk,.slice x.A x.n x.c] 166):=⟨_,rfl⟩
 have hb1:Below w0.heap.size w0 w1:=by rw [hw1];exact (Below.refl _ _).alloc (Nat.le_refl _) _
 have HB1:Hid (Below w0.heap.size w0 w1):=hid hb1
 have HCA:Hid (Bk w1 ca 166 #[.int i64 xk,.slice x.A x.n x.c]):=hid (by rw [hw1,hca];exact Bk.new _ _ _)
 have HIA:Hid (Bk w1 ia 147 #[I0,I1,.slice (some ⟨g,0,none⟩) n c]):=hid (hia.below hb1 hia.lt)
 have HWA:Hid (Bk w1 wA 52 #[.slice kA kn kc,W1,W2]):=hid (hwA.below hb1 hwA.lt)
 have HS1:Hid (SeR w1 base (some ⟨g,0,none⟩) n c upd l l1 k):=hid (hS.below hb1)
 have HKS:Hid (KsOk w1 B kA kn kc ks):=hid (hks.below (hb1.mono (Nat.le_trans hB hbase)))
 have HFQ1:Hid (FqR (.slice (some ⟨g,0,none⟩) n c) base w0 w1):=hid (FqR.of_below hb1 hbase)
 have HLO:Hid (B<=base/\base<=g/\g<ca/\base<=w0.heap.size):=hid ⟨hB,(hS.own.lt g rfl).1,by rw [hca];exact (hS.own.lt g rfl).2,hbase⟩
 have HLK:Hid (∀ wz,Below w1.heap.size w1 wz->(Instr.lookup 256 (.map (some mb)) (.int i64 xk) true).run Try.prog wz=.ok (.tuple #[(f xk).getD (.slice none 0 0),.bool (f xk).isSome]) wz):=hid fun wz hz=>by
  rw [hxk]
  exact (hmp.below hb1).look (t:=256) Try.underlying256 HWF.out wz (hz.block mb (hmp.below hb1).lt)
 have HXK:Hid (xk=x.k):=hid hxk
 have HF:=hid hf
 rw [<- hxk] at q0
 clear hks hB hbase hwA hia hmp hS hx hf hb1 hcap hgl hn hxk
 obtain ⟨xA,hxA⟩:∃ z,z=x.A:=⟨_,rfl⟩
 obtain ⟨xn,hxn⟩:∃ z,z=x.n:=⟨_,rfl⟩
 obtain ⟨xc,hxc⟩:∃ z,z=x.c:=⟨_,rfl⟩
 rw [<- hxA,<- hxn,<- hxc] at q1 hw1 HCA
 clear hxA hxn hxc
 go_upto_region 18 with fail
 rw [<- hw1,<- hca]
 clear hw1 hca q0 q1
 have c0:w1.cell? ⟨ca,0,none⟩=some (.int i64 xk):=HCA.out.cell 0
 have hlk:=HLK.out w1 (Below.refl _ _)
 rcases HF.out with ⟨hfn,hup⟩ | ⟨va,vs,K,d,hfs,hvn,hvn4,hKx,hd,hva,hup⟩
 . rw [HXK.out,hfn] at hlk
   rw [HXK.out] at c0
   simp only [Option.getD_none,Option.isSome_none] at hlk
   have HE:Hid (SeR w1 base (some ⟨g,0,none⟩) n c upd l l1 (k+1)/\FqR (.slice (some ⟨g,0,none⟩) n c) base w0 w1):=hid ⟨HS1.out.skip HX.out hup,HFQ1.out⟩
   clear hfn hup HF HLK
   go_wp2_with fail
   (try simp only [Exit.inBlock,Exit.then])
   first
    | exact HE
    | (apply hN;exact HE)
 . rw [HXK.out,hfs] at hlk
   rw [HXK.out] at c0
   rw [hKx] at c0 hlk
   simp only [Option.getD_some,Option.isSome_some] at hlk
   have hKn:K<kn:=by have h1:=(List.getElem?_eq_some_iff.1 hd).1;have h2:=HKS.out.len;omega
   have hKz:(K:Int)<kn:=by omega
   have hKz0:(0:Int)<=K:=by omega
   have hk1:kn<=kc:=HKS.out.cap
   have hk2:kc<=9223372036854775807:=HKS.out.cap2
   obtain ⟨kb,ko,rfl,hkb,k0,k1⟩:=HKS.out.rd.kd hKn hd
   have HKX:Hid (x.k=(K:Int)):=hid hKx
   have HKO:Hid (KdOk w1 B d/\B<=w1.heap.size):=hid ⟨HKS.out.ok d (List.mem_of_getElem? hd),HKS.out.lo⟩
   obtain ⟨fr,hfr⟩:∃ z,z=fitF d.nm d.fds vs:=⟨_,rfl⟩
   have HUP:Hid (upd x.p=(x.k,fr.1)):=hid (by rw [hfr];exact hup)
   have HVA:Hid (Bk w1 va 3 (vs.map (Value.int .i64)).toArray/\vn=vs.length):=hid ⟨hva.below HB1.out hva.lt,hvn⟩
   have HFT:Hid (∀ wz,Below w1.heap.size w1 wz->Calls Try.prog 156 #[.agg #[.string d.nm,.slice d.A d.n d.c],.slice (some ⟨va,0,none⟩) vn vn] wz (FitP wz fr)):=hid fun wz hz=>by
    have h1:=HKO.out.1
    have hle:B<=wz.heap.size:=Nat.le_trans HKO.out.2 hz.size
    have hv:=HVA.out.1.below hz HVA.out.1.lt
    rw [hfr]
    exact fit_any d.nm d.A d.n d.c d.fds (some ⟨va,0,none⟩) vn vn wz.heap.size vs wz ((h1.rd.below (hz.mono HKO.out.2)).more hle) h1.len h1.cap h1.cap2 (RdY.of_bk (B:=0) hv (by rw [HVA.out.2,List.length_map];simp) fun j u hu=>by simpa using hu).rd HVA.out.2 (Nat.le_refl _) (by omega) (Nat.le_refl _)
   have HNB:Hid (kb≠g/\ca≠g/\ia≠g/\wA≠g):=hid (by
    have h1:=HLO.out
    obtain ⟨cur,hrow⟩:∃ cur,Bk w1 g 166 cur:=by
     rcases HS1.out.own.2 with ⟨e1,_⟩ | ⟨g',cap,cur,e1,_,e3,_⟩
     . injection e1 with e1;cases e1
     . injection e1 with f1
       injection f1 with f1
       injection f1 with f1
       subst f1
       exact ⟨cur,e3⟩
    exact ⟨by omega,by omega,HIA.out.ne_ hrow (by decide),HWA.out.ne_ hrow (by decide)⟩)
   have HKL:Hid (kb<w1.heap.size):=hid (by have h1:=HKO.out.2;omega)
   generalize d.nm=dnm at *
   generalize d.A=dA at *
   generalize d.n=dn at *
   generalize d.c=dc at *
   clear hfs hup hd hva HF HLK hKx hfr hkb hvn
   go_upto_region 20 with fail
   obtain ⟨u0,hu0⟩:∃ z,z=w1.drew:=⟨_,rfl⟩
   have hbu:Below w1.heap.size w1 u0:=by rw [hu0];exact (Below.refl _ _).drew
   have HSu:Hid (SeR u0 base (some ⟨g,0,none⟩) n c upd l l1 k/\FqR (.slice (some ⟨g,0,none⟩) n c) base w0 u0):=hid ⟨HS1.out.below hbu,HFQ1.out.trans (FqR.of_below hbu (Nat.le_trans HLO.out.2.2.2 HB1.out.size))⟩
   have HSS:Hid (u0.cell? ⟨ia,2,none⟩=some (.slice (some ⟨g,0,none⟩) n c)/\u0.cell? ⟨wA,0,none⟩=some (.slice (some ⟨kb,ko,none⟩) kn kc)/\u0.cell? ⟨ca,0,none⟩=some (.int i64 (K:Int))/\u0.cell? ⟨kb,ko+K*2,none⟩=some (.string dnm)/\u0.cell? ⟨kb,ko+K*2+1,none⟩=some (.slice dA dn dc)):=hid (by rw [hu0];exact ⟨HIA.out.cell 2,HWA.out.cell 0,by rw [<- HKX.out,<- HXK.out];exact HCA.out.cell 0,k0,k1⟩)
   have HLT:Hid (ia<u0.heap.size/\wA<u0.heap.size/\ca<u0.heap.size/\kb<u0.heap.size/\base<=u0.heap.size):=hid (by rw [hu0];exact ⟨HIA.out.lt,HWA.out.lt,HCA.out.lt,HKL.out,Nat.le_trans HLO.out.2.2.2 HB1.out.size⟩)
   have HFU:Hid (Calls Try.prog 156 #[.agg #[.string dnm,.slice dA dn dc],.slice (some ⟨va,0,none⟩) vn vn] u0 (FitP u0 fr)):=hid (HFT.out u0 hbu)
   clear k0 k1 hbu HFT c0 hlk HS1 HFQ1
   (try refine wp_region_noPanic ?_)
   refine wp_region_H (S:=fun wz=>wz.cell? ⟨ia,2,none⟩=some (.slice (some ⟨g,0,none⟩) n c)/\wz.cell? ⟨wA,0,none⟩=some (.slice (some ⟨kb,ko,none⟩) kn kc)/\wz.cell? ⟨ca,0,none⟩=some (.int i64 (K:Int))/\wz.cell? ⟨kb,ko+K*2,none⟩=some (.string dnm)/\wz.cell? ⟨kb,ko+K*2+1,none⟩=some (.slice dA dn dc)) (by kernel_rfl) ?_
   rw [<- hu0]
   clear hu0
   refine wpH 0 (.pointer (some ⟨ia,2,none⟩)) 106 HSS.out ?_
   (try simp only [sP])
   refine wpH 1 (.slice (some ⟨g,0,none⟩) n c) 107 HSS.out ?_
   (try simp only [sP])
   refine wpH 2 (.int i64 (k:Int)) 108 HSS.out ?_
   (try simp only [sP])
   refine wpH 3 (.pointer (some ⟨wA,0,none⟩)) 109 HSS.out ?_
   (try simp only [sP])
   refine wpH 4 (.slice (some ⟨kb,ko,none⟩) kn kc) 110 HSS.out ?_
   (try simp only [sP])
   refine wpH 5 (.pointer (some ⟨ca,0,none⟩)) 111 HSS.out ?_
   (try simp only [sP])
   refine wpH 6 (.int i64 (K:Int)) 112 HSS.out ?_
   (try simp only [sP])
   refine wpH 7 (.pointer (some ⟨kb,ko+K*2,none⟩)) 113 HSS.out ?_
   (try simp only [sP])
   refine wpH 8 (.agg #[.string dnm,.slice dA dn dc]) 114 HSS.out ?_
   (try simp only [sP])
   refine wpH 9 (.slice (some ⟨va,0,none⟩) vn vn) 115 HSS.out ?_
   (try simp only [sP])
   refine wpAnyH_oneW (i:=10) rfl (by kernel_rfl) (by rfl) ?_
   go_simp
   go_at_call 156
   (with_reducible refine HFU.out.mono ?_)
   rintro e' u1 ⟨A',c',rfl,hown,hb1⟩
   have HT1:Hid (u1.cell? ⟨ia,2,none⟩=some (.slice (some ⟨g,0,none⟩) n c)/\u1.cell? ⟨wA,0,none⟩=some (.slice (some ⟨kb,ko,none⟩) kn kc)/\u1.cell? ⟨ca,0,none⟩=some (.int i64 (K:Int))/\u1.cell? ⟨kb,ko+K*2,none⟩=some (.string dnm)/\u1.cell? ⟨kb,ko+K*2+1,none⟩=some (.slice dA dn dc)):=hid ⟨(hb1.cell (p:=⟨ia,2,none⟩) HLT.out.1).trans HSS.out.1,(hb1.cell (p:=⟨wA,0,none⟩) HLT.out.2.1).trans HSS.out.2.1,(hb1.cell (p:=⟨ca,0,none⟩) HLT.out.2.2.1).trans HSS.out.2.2.1,(hb1.cell (p:=⟨kb,ko+K*2,none⟩) HLT.out.2.2.2.1).trans HSS.out.2.2.2.1,(hb1.cell (p:=⟨kb,ko+K*2+1,none⟩) HLT.out.2.2.2.1).trans HSS.out.2.2.2.2⟩
   obtain ⟨W3,hW3⟩:∃ z,z=u1.setCell ⟨g,k*2+1,none⟩ (.slice A' fr.1.length c'):=⟨_,rfl⟩
   have hSb:=HSu.out.1.below hb1
   have HE:Hid (SeR W3 base (some ⟨g,0,none⟩) n c upd l (l1.set k ⟨x.k,A',fr.1.length,c',fr.1⟩) (k+1)/\FqR (.slice (some ⟨g,0,none⟩) n c) base w0 W3):=hid (by
    rw [hW3]
    exact ⟨HSu.out.1.put (B:=0) (F:=[]) HX.out HNN.out HUP.out (Kx.of_below hb1) (by simp) (by simp) ⟨RdY.of_own hown,rfl,(own_cap2 hown).1,(own_cap2 hown).2,HWF.out⟩,(HSu.out.2.trans (FqR.of_below hb1 HLT.out.2.2.2.2)).trans (FqR.set hSb.own _)⟩)
   have HT2:Hid (W3.cell? ⟨ia,2,none⟩=some (.slice (some ⟨g,0,none⟩) n c)/\W3.cell? ⟨wA,0,none⟩=some (.slice (some ⟨kb,ko,none⟩) kn kc)/\W3.cell? ⟨ca,0,none⟩=some (.int i64 (K:Int))/\W3.cell? ⟨kb,ko+K*2,none⟩=some (.string dnm)/\W3.cell? ⟨kb,ko+K*2+1,none⟩=some (.slice dA dn dc)):=hid (by
    rw [hW3]
    exact ⟨(World.cell?_setCell_far _ _ _ _ (by exact Ne.symm HNB.out.2.2.1)).trans HT1.out.1,(World.cell?_setCell_far _ _ _ _ (by exact Ne.symm HNB.out.2.2.2)).trans HT1.out.2.1,(World.cell?_setCell_far _ _ _ _ (by exact Ne.symm HNB.out.2.1)).trans HT1.out.2.2.1,(World.cell?_setCell_far _ _ _ _ (by exact Ne.symm HNB.out.1)).trans HT1.out.2.2.2.1,(World.cell?_setCell_far _ _ _ _ (by exact Ne.symm HNB.out.1)).trans HT1.out.2.2.2.2⟩)
   obtain ⟨cur,hrow,hcs⟩:∃ cur,Bk u1 g 166 cur/\n*2<=cur.size:=by
    rcases hSb.own.2 with ⟨e1,_⟩ | ⟨g',cap,cur,e1,_,e3,e4,_,e6,_⟩
    . injection e1 with e1;cases e1
    . injection e1 with f1
      injection f1 with f1
      injection f1 with f1
      subst f1
      exact ⟨cur,e3,by rw [e6];omega⟩
   have o1:∃ u,u1.cell? ⟨g,k*2+1,none⟩=some u:=⟨_,(hrow.cell _).trans (Array.getElem?_eq_getElem (by omega))⟩
   have f1:=hrow.frozen (k*2+1)
   obtain ⟨uo,o1⟩:=o1
   clear hown hb1 hrow hcs hSb HFU HSS HSu
   refine And.intro HT1.out ?_
   (try simp only [sP])
   refine wpH 11 (.tuple #[.slice A' fr.1.length c',.int i64 fr.2]) 105 HT1.out ?_
   (try simp only [sP])
   refine wpH 12 (.slice A' fr.1.length c') 117 HT1.out ?_
   (try simp only [sP])
   refine wpH 13 (.int i64 fr.2) 118 HT1.out ?_
   (try simp only [sP])
   refine wpH 14 (.pointer (some ⟨g,k*2,none⟩)) 119 HT1.out ?_
   (try simp only [sP])
   refine wpH 15 (.pointer (some ⟨g,k*2+1,none⟩)) 120 HT1.out ?_
   (try simp only [sP])
   refine wpAnyH_oneW (i:=16) rfl (by kernel_rfl) (by rfl) ?_
   go_simp
   rw [<- hW3]
   clear hW3
   refine And.intro (by (obtain ⟨a0,a1,a2,a3,a4⟩:=HT1.out;obtain ⟨b0,b1,b2,b3,b4⟩:=HT2.out;and_intros <;> assumption)) ?_
   (try simp only [sP])
   refine wpAnyH_done (by kernel_rfl) ?_ _
   (try refine NoPanic.normal ?_)
   clear o1 f1 HT1 HT2
   (try simp only [Exit.inBlock])
   first
    | exact HE
    | (apply hN;exact HE)
    | (go_wp2_with fail;(try simp only [Exit.inBlock,Exit.then]);first | exact HE | (apply hN;exact HE))
noncomputable def mvCon:Code:=(Try.f71.body.bind (blkN 7)).getD .skip
set_option maxHeartbeats 16000000 in
theorem mvCon_any {x0 x1 x3 x4 x5 x6 x7 x8 x9 Aa Ab Ac Ad Ae Af Ag Ah Ai Aj Ak Al Ao Ap Aq Ar Au Av Aw Ax Ay Az A7 A9 Be Bl Bu Bv Bw B0 B1 B2 B3 B4 B5 B6 B7 B8 B9 Cg Ch Ci Cj Ck Cp Cq Cr Cs Cu Cw Cx Cy Cz C0 C1 C2 C3 C4 C5 C6 C7 C8 C9 Da Db Dc Dd De Dg Dh Di Dj Dk Dl Dm Dn Dp Dq Dr Ds Dt Du Dv Dw Dx Dy D0 D1 D3 D4 D5 D6 D7 D8 D9 Ee Ef Ei Ek El Em En Eo Es Et Eu Ev Ew Ex Ey Ez E0 E1 E2 E4 E6 E7 E8 E9 Fa Fb Ff Fg Fh Fi Fj Fk Fl Fm Fn Fp Fs Ft Fu Fv Fx Fy Fz F0:Value} {Q:Exit->Act->World->Prop} {w0:World} {B base j cn cc kn kc en ec:Nat} {eA cA kA:Option Addr} {el:List (Int × Int)} {cl D:List Ct} {ct:Ct}
 (hrd:Rd w0 B 10 cA cn (ctCs cl)) (hjn:j<cn) (_hcap:cn<=cc) (_hcap2:cc<=9223372036854775807) (hj:cl[j]?=some ct)
 (hel:Rd w0 B 2 eA en (enCs el)) (hen:en=el.length) (_hec:en<=ec) (_hec2:ec<=9223372036854775807)
 (hok:conOk el ct=true) (hO:w0.ownsRow base 131 10 (.slice kA kn kc) kn (ctCs D)) (hkn:(kn+1)*80<=140737488355328) (hbase:base<=w0.heap.size) (hB:B<=w0.heap.size)
 (hN:∀ (Hz Lx Ly Lz L0 L1 L2 L3 L4 L5 L6 L7 L8 L9 Mi Mm Mp Mr Ms Mv Mx:Value) (gc c':Nat) (w':World),Hid (conOk el ct=true/\w'.ownsRow base 131 10 (.slice (some ⟨gc,0,none⟩) (kn+1) c') (kn+1) (ctCs (D++[conN el ct]))/\Kx 0 [131] w0 w'/\Below base w0 w')->Q .normal ⟨#[x0,x1,.slice eA en ec,x3,x4,x5,x6,x7,x8,x9,Aa,Ab,Ac,Ad,Ae,Af,Ag,Ah,Ai,Aj,Ak,Al,.slice (some ⟨gc,0,none⟩) (kn+1) c',Ao,Hz,Aq,Ar,Au,Av,Aw,Ax,Ay,Az,A7,A9,Be,Bl,Bu,Bv,Bw,B0,B1,B2,B3,B4,B5,B6,B7,B8,B9,Cg,Ch,Ci,Cj,Ck,Cp,Cq,Cr,Cs,Cu,Cw,Cx,Cy,Cz,C0,C1,C2,C3,C4,C5,C6,C7,C8,C9,Da,Db,Dc,Dd,De,Dg,Dh,Di,Dj,Dk,Dl,Dm,Dn,Dp,Dq,Dr,Ds,Dt,Du,Dv,Dw,Dx,Dy,D0,D1,D3,D4,D5,D6,D7,D8,D9,Ee,Ef,Ei,Ek,El,Em,En,Eo,Es,Et,Eu,Ev,Ew,Ex,Ey,Ez,E0,E1,E2,.slice cA cn cc,E4,.int i64 (j:Int),E6,Lx,Ly,Lz,L0,L1,L2,L3,L4,L5,L6,L7,L8,L9,Mi,Mm,Mp,Mr,Ms,Mv,Mx,Fy,Fz,F0],[]⟩ w') :
 Code.wp Try.prog mvCon Q ⟨#[x0,x1,.slice eA en ec,x3,x4,x5,x6,x7,x8,x9,Aa,Ab,Ac,Ad,Ae,Af,Ag,Ah,Ai,Aj,Ak,Al,.slice kA kn kc,Ao,Ap,Aq,Ar,Au,Av,Aw,Ax,Ay,Az,A7,A9,Be,Bl,Bu,Bv,Bw,B0,B1,B2,B3,B4,B5,B6,B7,B8,B9,Cg,Ch,Ci,Cj,Ck,Cp,Cq,Cr,Cs,Cu,Cw,Cx,Cy,Cz,C0,C1,C2,C3,C4,C5,C6,C7,C8,C9,Da,Db,Dc,Dd,De,Dg,Dh,Di,Dj,Dk,Dl,Dm,Dn,Dp,Dq,Dr,Ds,Dt,Du,Dv,Dw,Dx,Dy,D0,D1,D3,D4,D5,D6,D7,D8,D9,Ee,Ef,Ei,Ek,El,Em,En,Eo,Es,Et,Eu,Ev,Ew,Ex,Ey,Ez,E0,E1,E2,.slice cA cn cc,E4,.int i64 (j:Int),E6,E7,E8,E9,Fa,Fb,Ff,Fg,Fh,Fi,Fj,Fk,Fl,Fm,Fn,Fp,Fs,Ft,Fu,Fv,Fx,Fy,Fz,F0],[]⟩ w0:=by
 conv=>arg 2;whnf
 obtain ⟨iC,hiC,hC0,hC1,hC2⟩:=info_parts T.info131
 obtain ⟨bi,oi,hcA,hbi,q0,q1,q2,q3,q4,q5,q6,q7,q8,q9⟩:=Rd.ct hrd hjn hj
 subst hcA
 have hjz:(j:Int)<cn:=by omega
 have hjz0:(0:Int)<=j:=by omega
 obtain ⟨ca,hca⟩:∃ z,z=w0.heap.size:=⟨_,rfl⟩
 obtain ⟨W1,hW1⟩:∃ z,z=w0.alloc (.cells #[.int i64 ct.a,.int i64 ct.b,.int i64 ct.id,.int i64 ct.px,.int i64 ct.py,.int i64 ct.nx,.int i64 ct.ny,.int i64 ct.dp,.int i64 ct.ps,.int i64 ct.sl] 131):=⟨_,rfl⟩
 have hb1:Below w0.heap.size w0 W1:=by rw [hW1];exact (Below.refl _ _).alloc (Nat.le_refl _) _
 have HCA:Hid (Bk W1 ca 131 #[.int i64 ct.a,.int i64 ct.b,.int i64 ct.id,.int i64 ct.px,.int i64 ct.py,.int i64 ct.nx,.int i64 ct.ny,.int i64 ct.dp,.int i64 ct.ps,.int i64 ct.sl]):=hid (by rw [hW1,hca];exact Bk.new _ _ _)
 have HO1:Hid (W1.ownsRow base 131 10 (.slice kA kn kc) kn (ctCs D)):=hid ((Kx.of_below (B:=0) (F:=[]) hb1).own hO (by simp))
 have HNE:Hid ((Value.slice kA kn kc).ownBlock≠some ca):=hid (by
  intro e
  have:=(hO.lt ca e).2
  omega)
 have HEL:Hid (Rd W1 B 2 eA en (enCs el)/\en=el.length/\B<=ca):=hid ⟨hel.below (hb1.mono hB),hen,by rw [hca];exact hB⟩
 have HB1:Hid (Kx 0 [131] w0 W1/\Below base w0 W1):=hid ⟨Kx.of_below hb1,hb1.mono hbase⟩
 have HSZ:Hid (base<=W1.heap.size/\base<=ca):=hid ⟨Nat.le_trans hbase hb1.size,by rw [hca];exact hbase⟩
 have HKN:=hid hkn
 have HBC:Hid (B<=ca):=hid (by rw [hca];exact hB)
 have hok2:0<=ct.a/\ct.a<en/\0<=ct.b/\ct.b<en:=by
  unfold conOk at hok
  simp only [Bool.and_eq_true,decide_eq_true_eq] at hok
  omega
 obtain ⟨h1,h2,h3,h4⟩:=hok2
 clear hrd hj hO hb1 hbi hel hen hB hok
 go_upto_region 28 with fail
 rw [<- hW1,<- hca]
 clear q0 q1 q2 q3 q4 q5 q6 q7 q8 q9 hW1 hca
 have i0:W1.cell? ⟨ca,0,none⟩=some (.int i64 ct.a):=HCA.out.cell 0
 have i1:W1.cell? ⟨ca,1,none⟩=some (.int i64 ct.b):=HCA.out.cell 1
 obtain ⟨na,hna⟩:∃ n:Nat,ct.a=n:=⟨ct.a.toNat,by omega⟩
 obtain ⟨nb,hnb⟩:∃ n:Nat,ct.b=n:=⟨ct.b.toNat,by omega⟩
 have hal:na<en:=by omega
 have hbl:nb<en:=by omega
 obtain ⟨e1,he1⟩:∃ e,el[na]?=some e:=⟨_,List.getElem?_eq_getElem (by rw [<- HEL.out.2.1];exact hal)⟩
 obtain ⟨e2,he2⟩:∃ e,el[nb]?=some e:=⟨_,List.getElem?_eq_getElem (by rw [<- HEL.out.2.1];exact hbl)⟩
 obtain ⟨eb,eo,heA,heb,p0,p1⟩:=Rd.enW HEL.out.1 hal he1
 obtain ⟨eb',eo',heA',heb',p0',p1'⟩:=Rd.enW HEL.out.1 hbl he2
 have heq:eb'=eb/\eo'=eo:=by
  rw [heA] at heA'
  injection heA' with h
  injection h with h h'
  exact ⟨h.symm,h'.symm⟩
 obtain ⟨rfl,rfl⟩:=heq
 subst heA
 have HOK:Hid (conOk el ct=true/\conN el ct={ ct with a:=e1.1,b:=e2.1 }):=hid (by
  have hl:=HEL.out.2.1
  constructor
  . unfold conOk
    simp only [Bool.and_eq_true,decide_eq_true_eq]
    omega
  . unfold conN
    rw [hna,hnb,Int.toNat_natCast,Int.toNat_natCast,List.getD_eq_getElem?_getD,List.getD_eq_getElem?_getD,he1,he2]
    rfl)
 have hnaz:(na:Int)<en:=by omega
 have hnaz0:(0:Int)<=na:=by omega
 have hnbz:(nb:Int)<en:=by omega
 have hnbz0:(0:Int)<=nb:=by omega
 have HP:Hid (W1.cell? ⟨eb',eo'+na*2,none⟩=some (.int i64 e1.1)/\W1.cell? ⟨eb',eo'+nb*2,none⟩=some (.int i64 e2.1)):=hid ⟨p0,p0'⟩
 have HCE:Hid (ca≠eb'):=hid (by have h1:=HBC.out;omega)
 clear p0 p1 p0' p1' he1 he2 heA' heb heb'
 clear h1 h2 h3 h4
 obtain ⟨u0,hu0⟩:∃ z,z=W1.drew:=⟨_,rfl⟩
 have HCU:Hid (Bk u0 ca 131 #[.int i64 ct.a,.int i64 ct.b,.int i64 ct.id,.int i64 ct.px,.int i64 ct.py,.int i64 ct.nx,.int i64 ct.ny,.int i64 ct.dp,.int i64 ct.ps,.int i64 ct.sl]):=hid (by rw [hu0];exact HCA.out)
 have HTT:Hid (u0.cell? ⟨eb',eo'+na*2,none⟩=some (.int i64 e1.1)/\u0.cell? ⟨eb',eo'+nb*2,none⟩=some (.int i64 e2.1)):=hid (by rw [hu0];exact HP.out)
 have HSS:Hid (u0.cell? ⟨ca,0,none⟩=some (.int i64 (na:Int))/\u0.cell? ⟨ca,1,none⟩=some (.int i64 (nb:Int))):=hid ⟨by rw [<- hna];exact HCU.out.cell 0,by rw [<- hnb];exact HCU.out.cell 1⟩
 have:=fun (_:NLate [13,15] (Array.replicate 16 false))=>HSS.out
 obtain ⟨W2,hW2⟩:∃ z,z=(u0.setCell ⟨ca,0,none⟩ (.int i64 e1.1)).setCell ⟨ca,1,none⟩ (.int i64 e2.1):=⟨_,rfl⟩
 have HC2:Hid (Bk W2 ca 131 #[.int i64 e1.1,.int i64 e2.1,.int i64 ct.id,.int i64 ct.px,.int i64 ct.py,.int i64 ct.nx,.int i64 ct.ny,.int i64 ct.dp,.int i64 ct.ps,.int i64 ct.sl]):=hid (by rw [hW2];simpa using (HCU.out.set_ 0 (.int i64 e1.1)).set_ 1 (.int i64 e2.1))
 have HO2:Hid (W2.ownsRow base 131 10 (.slice kA kn kc) kn (ctCs D)):=hid (by rw [hW2,hu0];exact own_farB (own_farB ((Kx.refl (B:=0) (F:=[])).drew.own HO1.out (by simp)) HNE.out) HNE.out)
 have HB2:Hid (Kx 0 [131] w0 W2/\Below base w0 W2/\base<=W2.heap.size):=hid (by
  have hk:Kx 0 [131] w0 W2:=by rw [hW2,hu0];exact ((HB1.out.1.drew).set (hu0▸HCU.out) (Nat.zero_le _) (by simp) 0 _).set ((hu0▸HCU.out:Bk W1.drew ca 131 #[.int i64 ct.a,.int i64 ct.b,.int i64 ct.id,.int i64 ct.px,.int i64 ct.py,.int i64 ct.nx,.int i64 ct.ny,.int i64 ct.dp,.int i64 ct.ps,.int i64 ct.sl]).set_ 0 (.int i64 e1.1)) (Nat.zero_le _) (by simp) 1 _
  refine ⟨hk,?_,?_⟩
  . rw [hW2,hu0]
    exact ((HB1.out.2.drew).setCell (p:=⟨ca,0,none⟩) HSZ.out.2 _).setCell (p:=⟨ca,1,none⟩) HSZ.out.2 _
  . rw [hW2,hu0]
    have h1:=HSZ.out.1
    simpa using h1)
 have HT1:Hid ((u0.setCell ⟨ca,0,none⟩ (.int i64 e1.1)).cell? ⟨eb',eo'+na*2,none⟩=some (.int i64 e1.1)/\(u0.setCell ⟨ca,0,none⟩ (.int i64 e1.1)).cell? ⟨eb',eo'+nb*2,none⟩=some (.int i64 e2.1)):=hid ⟨(World.cell?_setCell_far _ _ _ _ (by exact HCE.out)).trans HTT.out.1,(World.cell?_setCell_far _ _ _ _ (by exact HCE.out)).trans HTT.out.2⟩
 have HT2:Hid (W2.cell? ⟨eb',eo'+na*2,none⟩=some (.int i64 e1.1)/\W2.cell? ⟨eb',eo'+nb*2,none⟩=some (.int i64 e2.1)):=hid (by rw [hW2];exact ⟨(World.cell?_setCell_far _ _ _ _ (by exact HCE.out)).trans HT1.out.1,(World.cell?_setCell_far _ _ _ _ (by exact HCE.out)).trans HT1.out.2⟩)
 (try refine wp_region_noPanic ?_)
 refine wp_region_M (S:=fun wz=>wz.cell? ⟨ca,0,none⟩=some (.int i64 (na:Int))/\wz.cell? ⟨ca,1,none⟩=some (.int i64 (nb:Int))) (T:=fun wz=>wz.cell? ⟨eb',eo'+na*2,none⟩=some (.int i64 e1.1)/\wz.cell? ⟨eb',eo'+nb*2,none⟩=some (.int i64 e2.1)) (late:=[13,15]) (by kernel_rfl) ?_
 rw [<- hu0]
 clear hu0 i0 i1 hna hnb
 refine wpAnyM_val (i:=0) (v:=.slice (some ⟨eb',eo',none⟩) en ec) (d:=some 131) rfl rfl (by kernel_rfl) (by kernel_rfl) (by kernel_rfl) (by kernel_rfl) (fun _ _ _ h=>h) (Or.inl ⟨by rfl,fun w hS=>by (obtain ⟨h0,h1⟩:=hS;go_simp)⟩) (fun _=>HSS.out) HTT.out ?_
 (try simp only [sP])
 refine wpAnyM_val (i:=1) (v:=.pointer (some ⟨ca,0,none⟩)) (d:=some 132) rfl rfl (by kernel_rfl) (by kernel_rfl) (by kernel_rfl) (by kernel_rfl) (fun _ _ _ h=>h) (Or.inl ⟨by rfl,fun w hS=>by (obtain ⟨h0,h1⟩:=hS;go_simp)⟩) (fun _=>HSS.out) HTT.out ?_
 (try simp only [sP])
 refine wpAnyM_valS (i:=2) (v:=.int i64 (na:Int)) (d:=some 133) rfl rfl (by kernel_rfl) (by kernel_rfl) (by kernel_rfl) (by kernel_rfl) (by kernel_rfl) (fun _ _ _ h=>h) (Or.inl ⟨by rfl,fun w hS=>by (obtain ⟨h0,h1⟩:=hS;go_simp)⟩) HSS.out HTT.out ?_
 (try simp only [sP])
 refine wpAnyM_val (i:=3) (v:=.pointer (some ⟨eb',eo'+na*2,none⟩)) (d:=some 134) rfl rfl (by kernel_rfl) (by kernel_rfl) (by kernel_rfl) (by kernel_rfl) (fun _ _ _ h=>h) (Or.inl ⟨by rfl,fun w hS=>by (obtain ⟨h0,h1⟩:=hS;go_simp)⟩) (fun _=>HSS.out) HTT.out ?_
 (try simp only [sP])
 refine wpAnyM_val (i:=4) (v:=.pointer (some ⟨eb',eo'+na*2,none⟩)) (d:=some 135) rfl rfl (by kernel_rfl) (by kernel_rfl) (by kernel_rfl) (by kernel_rfl) (fun _ _ _ h=>h) (Or.inl ⟨by rfl,fun w hS=>by (obtain ⟨h0,h1⟩:=hS;go_simp)⟩) (fun _=>HSS.out) HTT.out ?_
 (try simp only [sP])
 refine wpAnyM_val (i:=5) (v:=.int i64 e1.1) (d:=some 136) rfl rfl (by kernel_rfl) (by kernel_rfl) (by kernel_rfl) (by kernel_rfl) (fun _ _ _ h=>h) (Or.inl ⟨by rfl,fun w hS=>by (obtain ⟨h0,h1⟩:=hS;go_simp)⟩) (fun _=>HSS.out) HTT.out ?_
 (try simp only [sP])
 refine wpAnyM_val (i:=6) (v:=.slice (some ⟨eb',eo',none⟩) en ec) (d:=some 137) rfl rfl (by kernel_rfl) (by kernel_rfl) (by kernel_rfl) (by kernel_rfl) (fun _ _ _ h=>h) (Or.inl ⟨by rfl,fun w hS=>by (obtain ⟨h0,h1⟩:=hS;go_simp)⟩) (fun _=>HSS.out) HTT.out ?_
 (try simp only [sP])
 refine wpAnyM_val (i:=7) (v:=.pointer (some ⟨ca,1,none⟩)) (d:=some 138) rfl rfl (by kernel_rfl) (by kernel_rfl) (by kernel_rfl) (by kernel_rfl) (fun _ _ _ h=>h) (Or.inl ⟨by rfl,fun w hS=>by (obtain ⟨h0,h1⟩:=hS;go_simp)⟩) (fun _=>HSS.out) HTT.out ?_
 (try simp only [sP])
 refine wpAnyM_valS (i:=8) (v:=.int i64 (nb:Int)) (d:=some 139) rfl rfl (by kernel_rfl) (by kernel_rfl) (by kernel_rfl) (by kernel_rfl) (by kernel_rfl) (fun _ _ _ h=>h) (Or.inl ⟨by rfl,fun w hS=>by (obtain ⟨h0,h1⟩:=hS;go_simp)⟩) HSS.out HTT.out ?_
 (try simp only [sP])
 refine wpAnyM_val (i:=9) (v:=.pointer (some ⟨eb',eo'+nb*2,none⟩)) (d:=some 140) rfl rfl (by kernel_rfl) (by kernel_rfl) (by kernel_rfl) (by kernel_rfl) (fun _ _ _ h=>h) (Or.inl ⟨by rfl,fun w hS=>by (obtain ⟨h0,h1⟩:=hS;go_simp)⟩) (fun _=>HSS.out) HTT.out ?_
 (try simp only [sP])
 refine wpAnyM_val (i:=10) (v:=.pointer (some ⟨eb',eo'+nb*2,none⟩)) (d:=some 141) rfl rfl (by kernel_rfl) (by kernel_rfl) (by kernel_rfl) (by kernel_rfl) (fun _ _ _ h=>h) (Or.inl ⟨by rfl,fun w hS=>by (obtain ⟨h0,h1⟩:=hS;go_simp)⟩) (fun _=>HSS.out) HTT.out ?_
 (try simp only [sP])
 refine wpAnyM_val (i:=11) (v:=.int i64 e2.1) (d:=some 142) rfl rfl (by kernel_rfl) (by kernel_rfl) (by kernel_rfl) (by kernel_rfl) (fun _ _ _ h=>h) (Or.inl ⟨by rfl,fun w hS=>by (obtain ⟨h0,h1⟩:=hS;go_simp)⟩) (fun _=>HSS.out) HTT.out ?_
 (try simp only [sP])
 refine wpAnyM_val (i:=12) (v:=.pointer (some ⟨ca,0,none⟩)) (d:=some 143) rfl rfl (by kernel_rfl) (by kernel_rfl) (by kernel_rfl) (by kernel_rfl) (fun _ _ _ h=>h) (Or.inl ⟨by rfl,fun w hS=>by (obtain ⟨h0,h1⟩:=hS;go_simp)⟩) (fun _=>HSS.out) HTT.out ?_
 (try simp only [sP])
 have x0:u0.cell? ⟨ca,0,none⟩=some (.int i64 (na:Int)):=HSS.out.1
 have x1:u0.frozen? ⟨ca,0,none⟩=false:=HCU.out.frozen 0
 refine wpAnyM_late (i:=13) rfl (by kernel_rfl) (by rfl) (by kernel_rfl) (by simp) ?_
 go_simp
 clear x0 x1
 first
  | refine And.intro HT1.out ?_
  | refine And.intro HTT.out ?_
 (try simp only [sP])
 refine wpAnyM_val (i:=14) (v:=.pointer (some ⟨ca,1,none⟩)) (d:=some 144) rfl rfl (by kernel_rfl) (by kernel_rfl) (by kernel_rfl) (by kernel_rfl) (fun _ _ _ h=>h) (Or.inl ⟨by rfl,fun w hS=>by (obtain ⟨h0,h1⟩:=hS;go_simp)⟩) (fun h=>absurd (h 13 (by simp)) (by simp)) HT1.out ?_
 (try simp only [sP])
 have x0:(u0.setCell ⟨ca,0,none⟩ (.int i64 e1.1)).cell? ⟨ca,1,none⟩=some (.int i64 (nb:Int)):=(World.cell?_setCell_other _ _ _ _ (by intro e;injection e with _ e;omega)).trans HSS.out.2
 have x1:(u0.setCell ⟨ca,0,none⟩ (.int i64 e1.1)).frozen? ⟨ca,1,none⟩=false:=(HCU.out.set_ 0 (.int i64 e1.1)).frozen 1
 refine wpAnyM_late (i:=15) rfl (by kernel_rfl) (by rfl) (by kernel_rfl) (by simp) ?_
 go_simp
 clear x0 x1
 rw [<- hW2]
 clear hW2
 first
  | refine And.intro HT2.out ?_
  | refine And.intro HT1.out ?_
 (try simp only [sP])
 refine wpAnyM_done (by kernel_rfl) ?_ _
 (try refine NoPanic.normal ?_)
 clear HCU HSS HTT HT1 HT2 HP HCA HO1 HEL
 have j0:W2.cell? ⟨ca,0,none⟩=some (.int i64 e1.1):=HC2.out.cell 0
 have j1:W2.cell? ⟨ca,1,none⟩=some (.int i64 e2.1):=HC2.out.cell 1
 have j2:W2.cell? ⟨ca,2,none⟩=some (.int i64 ct.id):=HC2.out.cell 2
 have j3:W2.cell? ⟨ca,3,none⟩=some (.int i64 ct.px):=HC2.out.cell 3
 have j4:W2.cell? ⟨ca,4,none⟩=some (.int i64 ct.py):=HC2.out.cell 4
 have j5:W2.cell? ⟨ca,5,none⟩=some (.int i64 ct.nx):=HC2.out.cell 5
 have j6:W2.cell? ⟨ca,6,none⟩=some (.int i64 ct.ny):=HC2.out.cell 6
 have j7:W2.cell? ⟨ca,7,none⟩=some (.int i64 ct.dp):=HC2.out.cell 7
 have j8:W2.cell? ⟨ca,8,none⟩=some (.int i64 ct.ps):=HC2.out.cell 8
 have j9:W2.cell? ⟨ca,9,none⟩=some (.int i64 ct.sl):=HC2.out.cell 9
 go_wp2_with
  (at_builtin
   go_must (refine wpList_append_one _ rfl (.tmp 145) (.tmp 147) 76 rfl base 131 iC (.agg #[.int i64 0,.int i64 0,.int i64 0,.int i64 0,.int i64 0,.int i64 0,.int i64 0,.int i64 0,.int i64 0,.int i64 0]) 10 80 Try.underlying76 hiC hC0 hC1 hC2 rfl (by decide) (.slice kA kn kc) kn (ctCs D) rfl (HO2.out.alloc _) W2.heap.size 1 131 #[.int i64 e1.1,.int i64 e2.1,.int i64 ct.id,.int i64 ct.px,.int i64 ct.py,.int i64 ct.nx,.int i64 ct.ny,.int i64 ct.dp,.int i64 ct.ps,.int i64 ct.sl] rfl (Bk.new W2 _ _) rfl ?c1 (kn+1) rfl ?c2 ?c3 ?c4 ?_)
   case c1=>simp [Value.oneCell']
   case c2=>unfold maxLen;have h:=HKN.out;omega
   case c3=>have h:=HKN.out;omega
   case c4=>(have h1:=HB2.out.2.2;simp;omega)
   intro g8 c8 w8 hown8 hg8 hat8
   have HF:Hid (conOk el ct=true/\w8.ownsRow base 131 10 (.slice (some ⟨g8,0,none⟩) (kn+1) c8) (kn+1) (ctCs (D++[conN el ct]))/\Kx 0 [131] w0 w8/\Below base w0 w8):=hid (by
    refine ⟨HOK.out.1,?_,?_,?_⟩
    . rw [HOK.out.2,ctCs_app]
      exact hown8
    . exact HB2.out.1.trans ((Kz.refl.alloc _).grown (HO2.out.alloc _) hg8 (by simp)).kx
    . exact HB2.out.2.1.trans (((Below.refl _ _).alloc HB2.out.2.2 _).trans (grown_below (HO2.out.alloc _) hg8 (by have h1:=HB2.out.2.2;simp;omega))))
   clear hown8 hg8 hat8 j0 j1 j2 j3 j4 j5 j6 j7 j8 j9)
 (try simp only [Exit.inBlock,Exit.then])
 first
  | exact HF
  | (apply hN;exact HF)
def upC (m0 m1:Int) (d0 d1:ByteArray × List Fd) (b:By) (c:Cv):Cv:=updC m1 (moF d1 b) (updC m0 (plF d0 b) c)
theorem bwUp_eq {m0 m1:Int} {d0 d1:ByteArray × List Fd} {b:By} (x:Iv):bwUp m0 m1 d0 d1 b x=(x.1,x.2.map (upC m0 m1 d0 d1 b)):=by
 unfold bwUp updI
 rw [List.map_map]
 rfl
theorem KeepL.mv {m0 m1:Int} {d0 d1:ByteArray × List Fd} (l:List Iv) (r:(Int × Int) × By):KeepL m0 m1 l (mvOne m0 m1 d0 d1 l r):=by
 refine ⟨by simp [mvOne],fun i x y h1 h2=>?_⟩
 unfold mvOne at h2
 rw [List.getElem?_map,h1] at h2
 simp only [Option.map_some] at h2
 injection h2 with h2
 rw [<- h2]
 split
 . exact KeepC.up x
 . exact KeepC.refl x
theorem KeepL.mvF {m0 m1:Int} {d0 d1:ByteArray × List Fd} (rs:List ((Int × Int) × By)):∀ l:List Iv,KeepL m0 m1 l (mvF m0 m1 d0 d1 l rs):=by
 induction rs with
 | nil=>intro l;exact KeepL.refl l
 | cons r rs ih=>intro l;exact (KeepL.mv l r).trans (ih _)
theorem mvF_take {m0 m1:Int} {d0 d1:ByteArray × List Fd} {l:List Iv} {rs:List ((Int × Int) × By)} {i:Nat} {r:(Int × Int) × By} (h:rs[i]?=some r):mvF m0 m1 d0 d1 l (rs.take (i+1))=mvOne m0 m1 d0 d1 (mvF m0 m1 d0 d1 l (rs.take i)) r:=by
 unfold mvF
 rw [List.take_add_one,h,List.foldl_append]
 rfl
def NNk (l:List Iv):Prop:=∀ x∈l,∀ c∈x.2,0<=c.1
theorem NNk.keep {m0 m1:Int} {l l':List Iv} (h:NNk l) (hk:KeepL m0 m1 l l'):NNk l':=fun y hy c hc=>by
 obtain ⟨i,hi⟩:=List.getElem?_of_mem hy
 have hil:i<l.length:=by rw [<- hk.1];exact (List.getElem?_eq_some_iff.1 hi).1
 have hx:=hk.2 i _ y (List.getElem?_eq_getElem hil) hi
 have h1:c.1∈y.2.map Prod.fst:=List.mem_map_of_mem hc
 rw [hx.kinds] at h1
 obtain ⟨a,ha,he⟩:=List.mem_map.1 h1
 rw [<- he]
 exact h _ (List.getElem_mem hil) a ha
theorem part_at {α β:Type} {l:List α} {f g:α->β} {L:List β} {k:Nat} {y:α} (hL:L=(l.take k).map f++(l.drop k).map g) (hy:l[k]?=some y):L[k]?=some (g y):=by
 have hk:k<l.length:=(List.getElem?_eq_some_iff.1 hy).1
 rw [hL,List.getElem?_append_right (by simp;omega)]
 simp only [List.length_map,List.length_take,List.getElem?_map,List.getElem?_drop]
 rw [show k+(k-min k l.length)=k by omega,hy]
 rfl
theorem MvF.fqr {w w':World} {mb va vb n:Nat} {m0 m1 p0 p1 p2 q0 q1 q2 q3:Int} {v:Value} {base:Nat} {xs:List Value} (h:MvF w mb va vb m0 m1 p0 p1 p2 q0 q1 q2 q3) (ho:w.ownsRow base 166 2 v n xs) (hq:FqR v base w w'):MvF w' mb va vb m0 m1 p0 p1 p2 q0 q1 q2 q3:=by
 obtain ⟨f,h1,h2,h3,h4⟩:=h.ex
 refine ⟨f,h1.kept (hq.low mb h1.lt fun e=>?_),hq.kx.bk h2 (by decide),hq.kx.bk h3 (by decide),h4⟩
 rcases ho.2 with ⟨e1,_⟩ | ⟨g,cap,cur,e1,_,e3,_⟩
 . rw [e1] at e;cases e
 . rw [e1] at e
   have e':mb=g:=by injection e
   exact h1.ne_bk (show Bk w g 166 cur from e3) e'
theorem MvF.says {w:World} {mb va vb:Nat} {m0 m1:Int} {d0 d1:ByteArray × List Fd} {b:By} {ks:List Kd} (h:MvF w mb va vb m0 m1 b.px b.py b.ang b.vx b.vy b.spin (calmV b)) (hne:m0=m1->m0<0)
 (hd0:0<=m0->∃ (K:Nat) (z:Kd),m0=K/\ks[K]?=some z/\z.p=d0) (hd1:0<=m1->∃ (K:Nat) (z:Kd),m1=K/\ks[K]?=some z/\z.p=d1) (x:Cm) (hx:0<=x.k) :
 ∃ f,MpV w mb 2 f/\∃ vn,((f x.k=none/\upC m0 m1 d0 d1 b x.p=x.p)\/∃ (va:Nat) (vs:List Int) (K:Nat) (d:Kd),f x.k=some (.slice (some ⟨va,0,none⟩) vn vn)/\vn=vs.length/\vn<=4/\x.k=(K:Int)/\ks[K]?=some d/\Bk w va 3 (vs.map (Value.int .i64)).toArray/\upC m0 m1 d0 d1 b x.p=(x.k,(fitF d.nm d.fds vs).1)):=by
 obtain ⟨f,h1,h2,h3,h4,h5⟩:=h.ex
 refine ⟨f,h1,?_⟩
 have hxp:x.p.1=x.k:=rfl
 by_cases e1:x.k=m1
 . have hm:m0≠m1:=fun e=>by have:=hne e;omega
   obtain ⟨K,z,k1,k2,k3⟩:=hd1 (by omega)
   refine ⟨4,.inr ⟨vb,[b.vx,b.vy,b.spin,calmV b],K,z,by rw [e1];exact (h4 hm).2,rfl,by omega,by omega,k2,h3,?_⟩⟩
   unfold upC updC
   rw [if_neg (show ¬ x.p.1=m0 by rw [hxp,e1];exact fun e=>hm e.symm),if_pos (show x.p.1=m1 from e1)]
   rw [e1]
   unfold moF
   rw [<- k3]
   rfl
 . by_cases e0:x.k=m0
   . have hm:m0≠m1:=fun e=>e1 (by rw [e0,e])
     obtain ⟨K,z,k1,k2,k3⟩:=hd0 (by omega)
     refine ⟨3,.inr ⟨va,[b.px,b.py,b.ang],K,z,by rw [e0];exact (h4 hm).1,rfl,by omega,by omega,k2,h2,?_⟩⟩
     unfold upC updC
     rw [if_pos (show x.p.1=m0 from e0),if_neg (show ¬ ((m0,plF d0 b):Cv).1=m1 from hm)]
     rw [e0]
     unfold plF
     rw [<- k3]
     rfl
   . refine ⟨0,.inl ⟨h5 _ e0 e1,?_⟩⟩
     unfold upC updC
     rw [if_neg (show ¬ x.p.1=m0 from e0),if_neg (show ¬ x.p.1=m1 from e1)]
structure MvK (w:World) (base:Nat) (y:Wd) (wA sA aA oA rA:Nat) (WV SV AV:Array Value):Prop where
 o:OutR w base y
 wb:Bk w wA 52 WV
 s:Bk w sA 115 SV
 a:Bk w aA 141 AV
 ob:Bk w oA 52 #[.slice y.kA y.kn y.kc,.slice y.gA y.gn y.gc,.slice y.iA y.im y.ic]
 r:Bk w rA 52 #[.slice none 0 0,.slice none 0 0,.slice none 0 0]
section
variable {w w':World} {base:Nat} {y:Wd} {wA sA aA oA rA:Nat} {WV SV AV:Array Value}
theorem MvK.below (h:MvK w base y wA sA aA oA rA WV SV AV) (hb:Below w.heap.size w w'):MvK w' base y wA sA aA oA rA WV SV AV :=
 ⟨h.o.below hb,h.wb.below hb h.wb.lt,h.s.below hb h.s.lt,h.a.below hb h.a.lt,h.ob.below hb h.ob.lt,h.r.below hb h.r.lt⟩
theorem MvK.put {its':List It} (h:MvK w base y wA sA aA oA rA WV SV AV) (hO:OutR w' base { y with its:=its' }) (hk:Kx 0 [166] w w'):MvK w' base { y with its:=its' } wA sA aA oA rA WV SV AV :=
 ⟨hO,hk.bk h.wb (by decide),hk.bk h.s (by decide),hk.bk h.a (by decide),hk.bk h.ob (by decide),hk.bk h.r (by decide)⟩
end
end Go.Proofs.Ytnidcmhfbkdioaa
