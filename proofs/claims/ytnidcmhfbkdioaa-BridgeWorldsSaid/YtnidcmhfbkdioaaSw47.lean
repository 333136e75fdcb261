/-
  A body's place and motion, by kinds, in a map (tourref4.Moved). Conditions: what is read can be read.
-/
import Derived.Test.YtnidcmhfbkdioaaSw46
import Derived.Test.YtnidcmhfbkdioaaSw37
namespace Go.Proofs.Ytnidcmhfbkdioaa
open Go.RowKit
open Go.IntKind (i64)
open Go.Lib (hid)
set_option maxRecDepth 100000
theorem MpV.below {w w':World} {b n:Nat} {f:Int->Option Value} (h:MpV w b n f) (hb:Below w.heap.size w w'):MpV w' b n f:=h.kept (hb.block b h.lt)
theorem MpV.ne_bk {w:World} {b n g:Nat} {t:TypeId} {cs:Array Value} {f:Int->Option Value} (h:MpV w b n f) (hg:Bk w g t cs):b≠g:=fun e=>by
 obtain ⟨es,clock,h1⟩:=h.obj
 have h2:w.heap[g]?=some (.cells cs t (0,0)):=hg
 rw [<- e,h1] at h2
 injection h2 with h2
 cases h2
structure MvF (w:World) (mb va vb:Nat) (m0 m1 p0 p1 p2 q0 q1 q2 q3:Int):Prop where
 ex:∃ f:Int->Option Value,MpV w mb 2 f/\Bk w va 3 #[.int i64 p0,.int i64 p1,.int i64 p2]/\Bk w vb 3 #[.int i64 q0,.int i64 q1,.int i64 q2,.int i64 q3]/\(m0≠m1->f m0=some (.slice (some ⟨va,0,none⟩) 3 3)/\f m1=some (.slice (some ⟨vb,0,none⟩) 4 4))/\∀ j,j≠m0->j≠m1->f j=none
theorem MvF.below {w w':World} {mb va vb:Nat} {m0 m1 p0 p1 p2 q0 q1 q2 q3:Int} (h:MvF w mb va vb m0 m1 p0 p1 p2 q0 q1 q2 q3) (hb:Below w.heap.size w w'):MvF w' mb va vb m0 m1 p0 p1 p2 q0 q1 q2 q3:=by
 obtain ⟨f,h1,h2,h3,h4⟩:=h.ex
 exact ⟨f,h1.below hb,h2.below hb h2.lt,h3.below hb h3.lt,h4⟩
theorem gdB {x y:World} {o:Obj} (h:y=x.alloc o):Below x.heap.size x y:=by rw [h];exact (Below.refl _ _).alloc (Nat.le_refl _) _
theorem gdT {w0 x y:World} (h:Below w0.heap.size w0 x) (k:Below x.heap.size x y):Below w0.heap.size w0 y:=h.trans (k.mono h.size)
theorem gdL {x y:World} {g:Nat} {t:TypeId} {cs:Array Value} (h:Bk x g t cs) (hb:Below x.heap.size x y):Bk y g t cs:=h.below hb h.lt
theorem gdN {x y:World} {g:Nat} {t:TypeId} {cs:Array Value} (h:y=x.alloc (.cells cs t)) (hg:g=x.heap.size):Bk y g t cs:=by rw [h,hg];exact Bk.new _ _ _
theorem gdG {w0 x y:World} {b:Nat} (h:Below w0.heap.size w0 x) (hg:x.grownBy y (some b)) (hb:w0.heap.size<=b):Below w0.heap.size w0 y:=h.grown hg h.size (fun q hq=>by injection hq with hq;rw [<- hq];exact hb)
theorem gdK {x y:World} {b n g:Nat} {t:TypeId} {cs:Array Value} {f:Int->Option Value} (h:Bk x g t cs) (hm:MpV x b n f) (hg:x.grownBy y (some b)):Bk y g t cs:=h.grown hg (fun e=>hm.ne_bk h (by injection e with e;exact e.symm))
theorem gdF1 {w:World} {mb va vb:Nat} {m0 m1 p0 p1 p2 q0 q1 q2 q3:Int} (h:MpV w mb 2 fun j=>if j=m1 then some (.slice (some ⟨vb,0,none⟩) 4 4) else if j=m0 then some (.slice (some ⟨va,0,none⟩) 3 3) else none) (ha:Bk w va 3 #[.int i64 p0,.int i64 p1,.int i64 p2]) (hb:Bk w vb 3 #[.int i64 q0,.int i64 q1,.int i64 q2,.int i64 q3]):MvF w mb va vb m0 m1 p0 p1 p2 q0 q1 q2 q3:=⟨_,h,ha,hb,(fun hne=>⟨by simp [hne],by simp⟩),(fun j h0 h1=>by simp [h0,h1])⟩
theorem gdF2 {w:World} {mb va vb:Nat} {m0 m1 p0 p1 p2 q0 q1 q2 q3:Int} (h:MpV w mb 2 fun j=>if j=m0 then some (.slice (some ⟨va,0,none⟩) 3 3) else if j=m1 then some (.slice (some ⟨vb,0,none⟩) 4 4) else none) (ha:Bk w va 3 #[.int i64 p0,.int i64 p1,.int i64 p2]) (hb:Bk w vb 3 #[.int i64 q0,.int i64 q1,.int i64 q2,.int i64 q3]):MvF w mb va vb m0 m1 p0 p1 p2 q0 q1 q2 q3:=⟨_,h,ha,hb,(fun hne=>⟨by simp,by simp [Ne.symm hne]⟩),(fun j h0 h1=>by simp [h0,h1])⟩
noncomputable def mvMap:Code:=(Try.f71.body.bind (rgnN 10)).getD .skip
set_option maxHeartbeats 16000000 in
theorem mvMap_any {x0 x1 x2 x3 x4 x5 x6 x7 x9 Aa Ab Ac Af Ag Ah Ai Aj Ak Al Am Ao Ap Aq Ar Au Av Aw Ax Ay Az A7 A9 Be Bl Bu Bv Bw B0 B1 B2 B3 B4 B5 B6 B7 B8 B9 Cg Ch Ci Cj Ck Cp Cq Cr Cs Cu Cw Cx Cy Cz C0 C1 C2 C3 C4 C5 C6 C7 C8 C9 Da Db Dc Dd De Dg Dh Di Dj Dk Dl Dm Dn Dp Dq Dr Ds Dt Du Dv Dw Dx Dy D0 D1 D3 D4 D5 D6 D7 D8 D9 Ee Ef Ei Ek El Em En Eo Es Et Eu Ev Ew Ex Ey Ez E0 E1 E2 E3 E4 E5 E6 E7 E8 E9 Fa Fb Ff Fg Fh Fi Fj Fk Fl Fm Fn Fp Fs Ft Fu Fv Fx Fy Fz F0:Value} {Q:Exit->Act->World->Prop} {w0:World} {aA ba:Nat} {m0 m1 p0 p1 p2 q0 q1 q2 q3:Int}
 (hw0:(Lit.int i64 m0).wf=true) (hw1:(Lit.int i64 m1).wf=true) (hS:w0.cell? ⟨aA,0,none⟩=some (.int i64 m0)/\w0.cell? ⟨aA,1,none⟩=some (.int i64 m1)/\w0.cell? ⟨ba,0,none⟩=some (.int i64 p0)/\w0.cell? ⟨ba,1,none⟩=some (.int i64 p1)/\w0.cell? ⟨ba,2,none⟩=some (.int i64 q0)/\w0.cell? ⟨ba,3,none⟩=some (.int i64 q1)/\w0.cell? ⟨ba,4,none⟩=some (.int i64 p2)/\w0.cell? ⟨ba,5,none⟩=some (.int i64 q2))
 (hN:∀ (Ja Jb Jc Jd Je Jf Jg Jh Ji Jj Jk Jl Jm Jn Jo Jp Jq Jr Js Jt Ju Jv Jw Jx Jy:Value) (mb va vb:Nat) (w':World),Hid (MvF w' mb va vb m0 m1 p0 p1 p2 q0 q1 q2 q3/\Below w0.heap.size w0 w')->Q .normal ⟨#[x0,x1,x2,x3,x4,x5,x6,x7,.pointer (some ⟨aA,0,none⟩),x9,Aa,Ab,Ac,.pointer (some ⟨ba,0,none⟩),.int i64 q3,.map (some mb),Ag,Ah,Ai,Aj,Ak,Al,Am,Ao,Ap,Aq,Ar,Au,Av,Aw,Ax,Ay,Az,A7,A9,Be,Bl,Bu,Bv,Bw,B0,B1,B2,B3,B4,B5,B6,B7,B8,B9,Cg,Ch,Ci,Ja,Jb,Jc,Jd,Je,Jf,Jg,Jh,Ji,Jj,Jk,Jl,Jm,Jn,Jo,Jp,Jq,Jr,Js,Jt,Ju,Jv,Jw,Jx,Jy,De,Dg,Dh,Di,Dj,Dk,Dl,Dm,Dn,Dp,Dq,Dr,Ds,Dt,Du,Dv,Dw,Dx,Dy,D0,D1,D3,D4,D5,D6,D7,D8,D9,Ee,Ef,Ei,Ek,El,Em,En,Eo,Es,Et,Eu,Ev,Ew,Ex,Ey,Ez,E0,E1,E2,E3,E4,E5,E6,E7,E8,E9,Fa,Fb,Ff,Fg,Fh,Fi,Fj,Fk,Fl,Fm,Fn,Fp,Fs,Ft,Fu,Fv,Fx,Fy,Fz,F0],[]⟩ w') :
 Code.wp Try.prog mvMap Q ⟨#[x0,x1,x2,x3,x4,x5,x6,x7,.pointer (some ⟨aA,0,none⟩),x9,Aa,Ab,Ac,.pointer (some ⟨ba,0,none⟩),.int i64 q3,Af,Ag,Ah,Ai,Aj,Ak,Al,Am,Ao,Ap,Aq,Ar,Au,Av,Aw,Ax,Ay,Az,A7,A9,Be,Bl,Bu,Bv,Bw,B0,B1,B2,B3,B4,B5,B6,B7,B8,B9,Cg,Ch,Ci,Cj,Ck,Cp,Cq,Cr,Cs,Cu,Cw,Cx,Cy,Cz,C0,C1,C2,C3,C4,C5,C6,C7,C8,C9,Da,Db,Dc,Dd,De,Dg,Dh,Di,Dj,Dk,Dl,Dm,Dn,Dp,Dq,Dr,Ds,Dt,Du,Dv,Dw,Dx,Dy,D0,D1,D3,D4,D5,D6,D7,D8,D9,Ee,Ef,Ei,Ek,El,Em,En,Eo,Es,Et,Eu,Ev,Ew,Ex,Ey,Ez,E0,E1,E2,E3,E4,E5,E6,E7,E8,E9,Fa,Fb,Ff,Fg,Fh,Fi,Fj,Fk,Fl,Fm,Fn,Fp,Fs,Ft,Fu,Fv,Fx,Fy,Fz,F0],[]⟩ w0:=by
 conv=>arg 2;whnf
 obtain ⟨u0,hu0⟩:∃ z,z=w0.drew:=⟨_,rfl⟩
 have HRu0:Hid (Below w0.heap.size w0 u0):=hid (by rw [hu0];exact (Below.refl _ _).drew)
 have HS2:Hid (∀ wz,Below w0.heap.size w0 wz->wz.cell? ⟨aA,0,none⟩=some (.int i64 m0)/\wz.cell? ⟨aA,1,none⟩=some (.int i64 m1)/\wz.cell? ⟨ba,0,none⟩=some (.int i64 p0)/\wz.cell? ⟨ba,1,none⟩=some (.int i64 p1)/\wz.cell? ⟨ba,2,none⟩=some (.int i64 q0)/\wz.cell? ⟨ba,3,none⟩=some (.int i64 q1)/\wz.cell? ⟨ba,4,none⟩=some (.int i64 p2)/\wz.cell? ⟨ba,5,none⟩=some (.int i64 q2)):=hid fun wz hb=>by
  have hw:∀ p u,w0.cell? p=some u->wz.cell? p=some u:=fun p u h=>(hb.cell (World.block_lt_of_cell? _ _ h)).trans h
  obtain ⟨h0,h1,h2,h3,h4,h5,h6,h7⟩:=hS
  exact ⟨hw _ _ h0,hw _ _ h1,hw _ _ h2,hw _ _ h3,hw _ _ h4,hw _ _ h5,hw _ _ h6,hw _ _ h7⟩
 have hmm:=@run_makeMap Try.prog
 clear hS
 refine wp_region_noPanic ?_
 refine wp_region_H (S:=fun wz=>wz.cell? ⟨aA,0,none⟩=some (.int i64 m0)/\wz.cell? ⟨aA,1,none⟩=some (.int i64 m1)/\wz.cell? ⟨ba,0,none⟩=some (.int i64 p0)/\wz.cell? ⟨ba,1,none⟩=some (.int i64 p1)/\wz.cell? ⟨ba,2,none⟩=some (.int i64 q0)/\wz.cell? ⟨ba,3,none⟩=some (.int i64 q1)/\wz.cell? ⟨ba,4,none⟩=some (.int i64 p2)/\wz.cell? ⟨ba,5,none⟩=some (.int i64 q2)) (by kernel_rfl) ?_
 rw [<- hu0]
 clear hu0
 refine wpH 1 (.pointer (some ⟨aA,0,none⟩)) 54 (HS2.out _ HRu0.out) ?_
 (try simp only [sP])
 refine wpH 2 (.int i64 m0) 55 (HS2.out _ HRu0.out) ?_
 (try simp only [sP])
 refine wpH 3 (.pointer (some ⟨ba,0,none⟩)) 56 (HS2.out _ HRu0.out) ?_
 (try simp only [sP])
 refine wpH 4 (.pointer (some ⟨ba,0,none⟩)) 57 (HS2.out _ HRu0.out) ?_
 (try simp only [sP])
 refine wpH 5 (.int i64 p0) 58 (HS2.out _ HRu0.out) ?_
 (try simp only [sP])
 refine wpH 6 (.pointer (some ⟨ba,0,none⟩)) 59 (HS2.out _ HRu0.out) ?_
 (try simp only [sP])
 refine wpH 7 (.pointer (some ⟨ba,1,none⟩)) 60 (HS2.out _ HRu0.out) ?_
 (try simp only [sP])
 refine wpH 8 (.int i64 p1) 61 (HS2.out _ HRu0.out) ?_
 (try simp only [sP])
 refine wpH 9 (.pointer (some ⟨ba,4,none⟩)) 62 (HS2.out _ HRu0.out) ?_
 (try simp only [sP])
 refine wpH 10 (.int i64 p2) 63 (HS2.out _ HRu0.out) ?_
 (try simp only [sP])
 refine wpH 13 (.pointer (some ⟨aA,1,none⟩)) 65 (HS2.out _ HRu0.out) ?_
 (try simp only [sP])
 refine wpH 14 (.int i64 m1) 66 (HS2.out _ HRu0.out) ?_
 (try simp only [sP])
 refine wpH 15 (.pointer (some ⟨ba,2,none⟩)) 67 (HS2.out _ HRu0.out) ?_
 (try simp only [sP])
 refine wpH 16 (.pointer (some ⟨ba,2,none⟩)) 68 (HS2.out _ HRu0.out) ?_
 (try simp only [sP])
 refine wpH 17 (.int i64 q0) 69 (HS2.out _ HRu0.out) ?_
 (try simp only [sP])
 refine wpH 18 (.pointer (some ⟨ba,2,none⟩)) 70 (HS2.out _ HRu0.out) ?_
 (try simp only [sP])
 refine wpH 19 (.pointer (some ⟨ba,3,none⟩)) 71 (HS2.out _ HRu0.out) ?_
 (try simp only [sP])
 refine wpH 20 (.int i64 q1) 72 (HS2.out _ HRu0.out) ?_
 (try simp only [sP])
 refine wpH 21 (.pointer (some ⟨ba,5,none⟩)) 73 (HS2.out _ HRu0.out) ?_
 (try simp only [sP])
 refine wpH 22 (.int i64 q2) 74 (HS2.out _ HRu0.out) ?_
 (try simp only [sP])
 refine wpH 23 (.int i64 q3) 75 (HS2.out _ HRu0.out) ?_
 (try simp only [sP])
 refine wpAnyH_three (i:=0) (j:=11) (k:=24) rfl rfl rfl (by kernel_rfl) (by rfl) (by rfl) (by rfl) ?_ ?_ ?_
 . go_simp
   obtain ⟨mb,hmb⟩:∃ z,z=u0.heap.size:=⟨_,rfl⟩
   obtain ⟨v1,hv1⟩:∃ z,z=u0.alloc (.map #[] 0):=⟨_,rfl⟩
   have hbv1:=gdB hv1
   have HRv1:=hid (gdT HRu0.out hbv1)
   have HMv1:Hid (MpV v1 mb 0 fun _=>none):=hid (by rw [hv1,hmb];exact MpV.made _)
   have HMB:Hid (w0.heap.size<=mb):=hid (by rw [hmb];exact HRu0.out.size)
   rw [<- hv1,<- hmb]
   clear hv1 hmb hbv1
   refine And.intro (HS2.out _ HRv1.out) ?_
   (try simp only [sP])
   refine wpAnyH_two (i:=11) (j:=24) rfl rfl (by kernel_rfl) (by rfl) (by rfl) ?_ ?_
   . go_simp
     obtain ⟨va,hva⟩:∃ z,z=v1.heap.size:=⟨_,rfl⟩
     obtain ⟨v2,hv2⟩:∃ z,z=v1.alloc (.cells #[.int i64 p0,.int i64 p1,.int i64 p2] 3):=⟨_,rfl⟩
     have hbv2:=gdB hv2
     have HRv2:=hid (gdT HRv1.out hbv2)
     have HMv2:=hid (HMv1.out.below hbv2)
     have HAv2:=hid (gdN hv2 hva)
     rw [<- hv2,<- hva]
     clear hv2 hva hbv2
     refine And.intro (HS2.out _ HRv2.out) ?_
     (try simp only [sP])
     refine wpAnyH_two (i:=12) (j:=24) rfl rfl (by kernel_rfl) (by rfl) (by rfl) ?_ ?_
     . obtain ⟨v3,hrun,hmp,hgr⟩:=HMv2.out.put (t:=256) Try.underlying256 (by unfold maxLen;omega) (v:=.slice (some ⟨va,0,none⟩) 3 3) hw0
       go_simp
       have HRv3:=hid (gdG HRv2.out hgr HMB.out)
       have HAv3:=hid (gdK HAv2.out HMv2.out hgr)
       have HMv3:=hid hmp
       clear hrun hmp hgr
       refine And.intro (HS2.out _ HRv3.out) ?_
       (try simp only [sP])
       refine wpAnyH_oneW (i:=24) rfl (by kernel_rfl) (by rfl) ?_
       go_simp
       obtain ⟨vb,hvb⟩:∃ z,z=v3.heap.size:=⟨_,rfl⟩
       obtain ⟨v4,hv4⟩:∃ z,z=v3.alloc (.cells #[.int i64 q0,.int i64 q1,.int i64 q2,.int i64 q3] 3):=⟨_,rfl⟩
       have hbv4:=gdB hv4
       have HRv4:=hid (gdT HRv3.out hbv4)
       have HMv4:=hid (HMv3.out.below hbv4)
       have HAv4:=hid (gdL HAv3.out hbv4)
       have HBv4:=hid (gdN hv4 hvb)
       rw [<- hv4,<- hvb]
       clear hv4 hvb hbv4
       refine And.intro (HS2.out _ HRv4.out) ?_
       (try simp only [sP])
       refine wpAnyH_oneW (i:=25) rfl (by kernel_rfl) (by rfl) ?_
       obtain ⟨v5,hrun,hmp,hgr⟩:=HMv4.out.put (t:=256) Try.underlying256 (by unfold maxLen;omega) (v:=.slice (some ⟨vb,0,none⟩) 4 4) hw1
       go_simp
       have HRv5:=hid (gdG HRv4.out hgr HMB.out)
       have HAv5:=hid (gdK HAv4.out HMv4.out hgr)
       have HBv5:=hid (gdK HBv4.out HMv4.out hgr)
       have HMv5:=hid hmp
       clear hrun hmp hgr
       refine And.intro (HS2.out _ HRv5.out) ?_
       (try simp only [sP])
       refine wpH 26 (.map (some mb)) 77 (HS2.out _ HRv5.out) ?_
       (try simp only [sP])
       refine wpH 27 (.map (some mb)) 15 (HS2.out _ HRv5.out) ?_
       (try simp only [sP])
       refine wpAnyH_done (by kernel_rfl) ?_ _
       (try refine NoPanic.normal ?_)
       have HF:=hid (And.intro (gdF1 HMv5.out HAv5.out HBv5.out) HRv5.out)
       first
        | exact HF
        | (apply hN;exact HF)
     . go_simp
       obtain ⟨vb,hvb⟩:∃ z,z=v2.heap.size:=⟨_,rfl⟩
       obtain ⟨v3,hv3⟩:∃ z,z=v2.alloc (.cells #[.int i64 q0,.int i64 q1,.int i64 q2,.int i64 q3] 3):=⟨_,rfl⟩
       have hbv3:=gdB hv3
       have HRv3:=hid (gdT HRv2.out hbv3)
       have HMv3:=hid (HMv2.out.below hbv3)
       have HAv3:=hid (gdL HAv2.out hbv3)
       have HBv3:=hid (gdN hv3 hvb)
       rw [<- hv3,<- hvb]
       clear hv3 hvb hbv3
       refine And.intro (HS2.out _ HRv3.out) ?_
       (try simp only [sP])
       refine wpAnyH_two (i:=12) (j:=25) rfl rfl (by kernel_rfl) (by rfl) (by rfl) ?_ ?_
       . obtain ⟨v4,hrun,hmp,hgr⟩:=HMv3.out.put (t:=256) Try.underlying256 (by unfold maxLen;omega) (v:=.slice (some ⟨va,0,none⟩) 3 3) hw0
         go_simp
         have HRv4:=hid (gdG HRv3.out hgr HMB.out)
         have HAv4:=hid (gdK HAv3.out HMv3.out hgr)
         have HBv4:=hid (gdK HBv3.out HMv3.out hgr)
         have HMv4:=hid hmp
         clear hrun hmp hgr
         refine And.intro (HS2.out _ HRv4.out) ?_
         (try simp only [sP])
         refine wpAnyH_oneW (i:=25) rfl (by kernel_rfl) (by rfl) ?_
         obtain ⟨v5,hrun,hmp,hgr⟩:=HMv4.out.put (t:=256) Try.underlying256 (by unfold maxLen;omega) (v:=.slice (some ⟨vb,0,none⟩) 4 4) hw1
         go_simp
         have HRv5:=hid (gdG HRv4.out hgr HMB.out)
         have HAv5:=hid (gdK HAv4.out HMv4.out hgr)
         have HBv5:=hid (gdK HBv4.out HMv4.out hgr)
         have HMv5:=hid hmp
         clear hrun hmp hgr
         refine And.intro (HS2.out _ HRv5.out) ?_
         (try simp only [sP])
         refine wpH 26 (.map (some mb)) 77 (HS2.out _ HRv5.out) ?_
         (try simp only [sP])
         refine wpH 27 (.map (some mb)) 15 (HS2.out _ HRv5.out) ?_
         (try simp only [sP])
         refine wpAnyH_done (by kernel_rfl) ?_ _
         (try refine NoPanic.normal ?_)
         have HF:=hid (And.intro (gdF1 HMv5.out HAv5.out HBv5.out) HRv5.out)
         first
          | exact HF
          | (apply hN;exact HF)
       . obtain ⟨v4,hrun,hmp,hgr⟩:=HMv3.out.put (t:=256) Try.underlying256 (by unfold maxLen;omega) (v:=.slice (some ⟨vb,0,none⟩) 4 4) hw1
         go_simp
         have HRv4:=hid (gdG HRv3.out hgr HMB.out)
         have HAv4:=hid (gdK HAv3.out HMv3.out hgr)
         have HBv4:=hid (gdK HBv3.out HMv3.out hgr)
         have HMv4:=hid hmp
         clear hrun hmp hgr
         refine And.intro (HS2.out _ HRv4.out) ?_
         (try simp only [sP])
         refine wpAnyH_oneW (i:=12) rfl (by kernel_rfl) (by rfl) ?_
         obtain ⟨v5,hrun,hmp,hgr⟩:=HMv4.out.put (t:=256) Try.underlying256 (by unfold maxLen;omega) (v:=.slice (some ⟨va,0,none⟩) 3 3) hw0
         go_simp
         have HRv5:=hid (gdG HRv4.out hgr HMB.out)
         have HAv5:=hid (gdK HAv4.out HMv4.out hgr)
         have HBv5:=hid (gdK HBv4.out HMv4.out hgr)
         have HMv5:=hid hmp
         clear hrun hmp hgr
         refine And.intro (HS2.out _ HRv5.out) ?_
         (try simp only [sP])
         refine wpH 26 (.map (some mb)) 77 (HS2.out _ HRv5.out) ?_
         (try simp only [sP])
         refine wpH 27 (.map (some mb)) 15 (HS2.out _ HRv5.out) ?_
         (try simp only [sP])
         refine wpAnyH_done (by kernel_rfl) ?_ _
         (try refine NoPanic.normal ?_)
         have HF:=hid (And.intro (gdF2 HMv5.out HAv5.out HBv5.out) HRv5.out)
         first
          | exact HF
          | (apply hN;exact HF)
   . go_simp
     obtain ⟨vb,hvb⟩:∃ z,z=v1.heap.size:=⟨_,rfl⟩
     obtain ⟨v2,hv2⟩:∃ z,z=v1.alloc (.cells #[.int i64 q0,.int i64 q1,.int i64 q2,.int i64 q3] 3):=⟨_,rfl⟩
     have hbv2:=gdB hv2
     have HRv2:=hid (gdT HRv1.out hbv2)
     have HMv2:=hid (HMv1.out.below hbv2)
     have HBv2:=hid (gdN hv2 hvb)
     rw [<- hv2,<- hvb]
     clear hv2 hvb hbv2
     refine And.intro (HS2.out _ HRv2.out) ?_
     (try simp only [sP])
     refine wpAnyH_two (i:=11) (j:=25) rfl rfl (by kernel_rfl) (by rfl) (by rfl) ?_ ?_
     . go_simp
       obtain ⟨va,hva⟩:∃ z,z=v2.heap.size:=⟨_,rfl⟩
       obtain ⟨v3,hv3⟩:∃ z,z=v2.alloc (.cells #[.int i64 p0,.int i64 p1,.int i64 p2] 3):=⟨_,rfl⟩
       have hbv3:=gdB hv3
       have HRv3:=hid (gdT HRv2.out hbv3)
       have HMv3:=hid (HMv2.out.below hbv3)
       have HBv3:=hid (gdL HBv2.out hbv3)
       have HAv3:=hid (gdN hv3 hva)
       rw [<- hv3,<- hva]
       clear hv3 hva hbv3
       refine And.intro (HS2.out _ HRv3.out) ?_
       (try simp only [sP])
       refine wpAnyH_two (i:=12) (j:=25) rfl rfl (by kernel_rfl) (by rfl) (by rfl) ?_ ?_
       . obtain ⟨v4,hrun,hmp,hgr⟩:=HMv3.out.put (t:=256) Try.underlying256 (by unfold maxLen;omega) (v:=.slice (some ⟨va,0,none⟩) 3 3) hw0
         go_simp
         have HRv4:=hid (gdG HRv3.out hgr HMB.out)
         have HAv4:=hid (gdK HAv3.out HMv3.out hgr)
         have HBv4:=hid (gdK HBv3.out HMv3.out hgr)
         have HMv4:=hid hmp
         clear hrun hmp hgr
         refine And.intro (HS2.out _ HRv4.out) ?_
         (try simp only [sP])
         refine wpAnyH_oneW (i:=25) rfl (by kernel_rfl) (by rfl) ?_
         obtain ⟨v5,hrun,hmp,hgr⟩:=HMv4.out.put (t:=256) Try.underlying256 (by unfold maxLen;omega) (v:=.slice (some ⟨vb,0,none⟩) 4 4) hw1
         go_simp
         have HRv5:=hid (gdG HRv4.out hgr HMB.out)
         have HAv5:=hid (gdK HAv4.out HMv4.out hgr)
         have HBv5:=hid (gdK HBv4.out HMv4.out hgr)
         have HMv5:=hid hmp
         clear hrun hmp hgr
         refine And.intro (HS2.out _ HRv5.out) ?_
         (try simp only [sP])
         refine wpH 26 (.map (some mb)) 77 (HS2.out _ HRv5.out) ?_
         (try simp only [sP])
         refine wpH 27 (.map (some mb)) 15 (HS2.out _ HRv5.out) ?_
         (try simp only [sP])
         refine wpAnyH_done (by kernel_rfl) ?_ _
         (try refine NoPanic.normal ?_)
         have HF:=hid (And.intro (gdF1 HMv5.out HAv5.out HBv5.out) HRv5.out)
         first
          | exact HF
          | (apply hN;exact HF)
       . obtain ⟨v4,hrun,hmp,hgr⟩:=HMv3.out.put (t:=256) Try.underlying256 (by unfold maxLen;omega) (v:=.slice (some ⟨vb,0,none⟩) 4 4) hw1
         go_simp
         have HRv4:=hid (gdG HRv3.out hgr HMB.out)
         have HAv4:=hid (gdK HAv3.out HMv3.out hgr)
         have HBv4:=hid (gdK HBv3.out HMv3.out hgr)
         have HMv4:=hid hmp
         clear hrun hmp hgr
         refine And.intro (HS2.out _ HRv4.out) ?_
         (try simp only [sP])
         refine wpAnyH_oneW (i:=12) rfl (by kernel_rfl) (by rfl) ?_
         obtain ⟨v5,hrun,hmp,hgr⟩:=HMv4.out.put (t:=256) Try.underlying256 (by unfold maxLen;omega) (v:=.slice (some ⟨va,0,none⟩) 3 3) hw0
         go_simp
         have HRv5:=hid (gdG HRv4.out hgr HMB.out)
         have HAv5:=hid (gdK HAv4.out HMv4.out hgr)
         have HBv5:=hid (gdK HBv4.out HMv4.out hgr)
         have HMv5:=hid hmp
         clear hrun hmp hgr
         refine And.intro (HS2.out _ HRv5.out) ?_
         (try simp only [sP])
         refine wpH 26 (.map (some mb)) 77 (HS2.out _ HRv5.out) ?_
         (try simp only [sP])
         refine wpH 27 (.map (some mb)) 15 (HS2.out _ HRv5.out) ?_
         (try simp only [sP])
         refine wpAnyH_done (by kernel_rfl) ?_ _
         (try refine NoPanic.normal ?_)
         have HF:=hid (And.intro (gdF2 HMv5.out HAv5.out HBv5.out) HRv5.out)
         first
          | exact HF
          | (apply hN;exact HF)
     . obtain ⟨v3,hrun,hmp,hgr⟩:=HMv2.out.put (t:=256) Try.underlying256 (by unfold maxLen;omega) (v:=.slice (some ⟨vb,0,none⟩) 4 4) hw1
       go_simp
       have HRv3:=hid (gdG HRv2.out hgr HMB.out)
       have HBv3:=hid (gdK HBv2.out HMv2.out hgr)
       have HMv3:=hid hmp
       clear hrun hmp hgr
       refine And.intro (HS2.out _ HRv3.out) ?_
       (try simp only [sP])
       refine wpAnyH_oneW (i:=11) rfl (by kernel_rfl) (by rfl) ?_
       go_simp
       obtain ⟨va,hva⟩:∃ z,z=v3.heap.size:=⟨_,rfl⟩
       obtain ⟨v4,hv4⟩:∃ z,z=v3.alloc (.cells #[.int i64 p0,.int i64 p1,.int i64 p2] 3):=⟨_,rfl⟩
       have hbv4:=gdB hv4
       have HRv4:=hid (gdT HRv3.out hbv4)
       have HMv4:=hid (HMv3.out.below hbv4)
       have HBv4:=hid (gdL HBv3.out hbv4)
       have HAv4:=hid (gdN hv4 hva)
       rw [<- hv4,<- hva]
       clear hv4 hva hbv4
       refine And.intro (HS2.out _ HRv4.out) ?_
       (try simp only [sP])
       refine wpAnyH_oneW (i:=12) rfl (by kernel_rfl) (by rfl) ?_
       obtain ⟨v5,hrun,hmp,hgr⟩:=HMv4.out.put (t:=256) Try.underlying256 (by unfold maxLen;omega) (v:=.slice (some ⟨va,0,none⟩) 3 3) hw0
       go_simp
       have HRv5:=hid (gdG HRv4.out hgr HMB.out)
       have HAv5:=hid (gdK HAv4.out HMv4.out hgr)
       have HBv5:=hid (gdK HBv4.out HMv4.out hgr)
       have HMv5:=hid hmp
       clear hrun hmp hgr
       refine And.intro (HS2.out _ HRv5.out) ?_
       (try simp only [sP])
       refine wpH 26 (.map (some mb)) 77 (HS2.out _ HRv5.out) ?_
       (try simp only [sP])
       refine wpH 27 (.map (some mb)) 15 (HS2.out _ HRv5.out) ?_
       (try simp only [sP])
       refine wpAnyH_done (by kernel_rfl) ?_ _
       (try refine NoPanic.normal ?_)
       have HF:=hid (And.intro (gdF2 HMv5.out HAv5.out HBv5.out) HRv5.out)
       first
        | exact HF
        | (apply hN;exact HF)
 . go_simp
   obtain ⟨va,hva⟩:∃ z,z=u0.heap.size:=⟨_,rfl⟩
   obtain ⟨v1,hv1⟩:∃ z,z=u0.alloc (.cells #[.int i64 p0,.int i64 p1,.int i64 p2] 3):=⟨_,rfl⟩
   have hbv1:=gdB hv1
   have HRv1:=hid (gdT HRu0.out hbv1)
   have HAv1:=hid (gdN hv1 hva)
   rw [<- hv1,<- hva]
   clear hv1 hva hbv1
   refine And.intro (HS2.out _ HRv1.out) ?_
   (try simp only [sP])
   refine wpAnyH_two (i:=0) (j:=24) rfl rfl (by kernel_rfl) (by rfl) (by rfl) ?_ ?_
   . go_simp
     obtain ⟨mb,hmb⟩:∃ z,z=v1.heap.size:=⟨_,rfl⟩
     obtain ⟨v2,hv2⟩:∃ z,z=v1.alloc (.map #[] 0):=⟨_,rfl⟩
     have hbv2:=gdB hv2
     have HRv2:=hid (gdT HRv1.out hbv2)
     have HAv2:=hid (gdL HAv1.out hbv2)
     have HMv2:Hid (MpV v2 mb 0 fun _=>none):=hid (by rw [hv2,hmb];exact MpV.made _)
     have HMB:Hid (w0.heap.size<=mb):=hid (by rw [hmb];exact HRv1.out.size)
     rw [<- hv2,<- hmb]
     clear hv2 hmb hbv2
     refine And.intro (HS2.out _ HRv2.out) ?_
     (try simp only [sP])
     refine wpAnyH_two (i:=12) (j:=24) rfl rfl (by kernel_rfl) (by rfl) (by rfl) ?_ ?_
     . obtain ⟨v3,hrun,hmp,hgr⟩:=HMv2.out.put (t:=256) Try.underlying256 (by unfold maxLen;omega) (v:=.slice (some ⟨va,0,none⟩) 3 3) hw0
       go_simp
       have HRv3:=hid (gdG HRv2.out hgr HMB.out)
       have HAv3:=hid (gdK HAv2.out HMv2.out hgr)
       have HMv3:=hid hmp
       clear hrun hmp hgr
       refine And.intro (HS2.out _ HRv3.out) ?_
       (try simp only [sP])
       refine wpAnyH_oneW (i:=24) rfl (by kernel_rfl) (by rfl) ?_
       go_simp
       obtain ⟨vb,hvb⟩:∃ z,z=v3.heap.size:=⟨_,rfl⟩
       obtain ⟨v4,hv4⟩:∃ z,z=v3.alloc (.cells #[.int i64 q0,.int i64 q1,.int i64 q2,.int i64 q3] 3):=⟨_,rfl⟩
       have hbv4:=gdB hv4
       have HRv4:=hid (gdT HRv3.out hbv4)
       have HMv4:=hid (HMv3.out.below hbv4)
       have HAv4:=hid (gdL HAv3.out hbv4)
       have HBv4:=hid (gdN hv4 hvb)
       rw [<- hv4,<- hvb]
       clear hv4 hvb hbv4
       refine And.intro (HS2.out _ HRv4.out) ?_
       (try simp only [sP])
       refine wpAnyH_oneW (i:=25) rfl (by kernel_rfl) (by rfl) ?_
       obtain ⟨v5,hrun,hmp,hgr⟩:=HMv4.out.put (t:=256) Try.underlying256 (by unfold maxLen;omega) (v:=.slice (some ⟨vb,0,none⟩) 4 4) hw1
       go_simp
       have HRv5:=hid (gdG HRv4.out hgr HMB.out)
       have HAv5:=hid (gdK HAv4.out HMv4.out hgr)
       have HBv5:=hid (gdK HBv4.out HMv4.out hgr)
       have HMv5:=hid hmp
       clear hrun hmp hgr
       refine And.intro (HS2.out _ HRv5.out) ?_
       (try simp only [sP])
       refine wpH 26 (.map (some mb)) 77 (HS2.out _ HRv5.out) ?_
       (try simp only [sP])
       refine wpH 27 (.map (some mb)) 15 (HS2.out _ HRv5.out) ?_
       (try simp only [sP])
       refine wpAnyH_done (by kernel_rfl) ?_ _
       (try refine NoPanic.normal ?_)
       have HF:=hid (And.intro (gdF1 HMv5.out HAv5.out HBv5.out) HRv5.out)
       first
        | exact HF
        | (apply hN;exact HF)
     . go_simp
       obtain ⟨vb,hvb⟩:∃ z,z=v2.heap.size:=⟨_,rfl⟩
       obtain ⟨v3,hv3⟩:∃ z,z=v2.alloc (.cells #[.int i64 q0,.int i64 q1,.int i64 q2,.int i64 q3] 3):=⟨_,rfl⟩
       have hbv3:=gdB hv3
       have HRv3:=hid (gdT HRv2.out hbv3)
       have HMv3:=hid (HMv2.out.below hbv3)
       have HAv3:=hid (gdL HAv2.out hbv3)
       have HBv3:=hid (gdN hv3 hvb)
       rw [<- hv3,<- hvb]
       clear hv3 hvb hbv3
       refine And.intro (HS2.out _ HRv3.out) ?_
       (try simp only [sP])
       refine wpAnyH_two (i:=12) (j:=25) rfl rfl (by kernel_rfl) (by rfl) (by rfl) ?_ ?_
       . obtain ⟨v4,hrun,hmp,hgr⟩:=HMv3.out.put (t:=256) Try.underlying256 (by unfold maxLen;omega) (v:=.slice (some ⟨va,0,none⟩) 3 3) hw0
         go_simp
         have HRv4:=hid (gdG HRv3.out hgr HMB.out)
         have HAv4:=hid (gdK HAv3.out HMv3.out hgr)
         have HBv4:=hid (gdK HBv3.out HMv3.out hgr)
         have HMv4:=hid hmp
         clear hrun hmp hgr
         refine And.intro (HS2.out _ HRv4.out) ?_
         (try simp only [sP])
         refine wpAnyH_oneW (i:=25) rfl (by kernel_rfl) (by rfl) ?_
         obtain ⟨v5,hrun,hmp,hgr⟩:=HMv4.out.put (t:=256) Try.underlying256 (by unfold maxLen;omega) (v:=.slice (some ⟨vb,0,none⟩) 4 4) hw1
         go_simp
         have HRv5:=hid (gdG HRv4.out hgr HMB.out)
         have HAv5:=hid (gdK HAv4.out HMv4.out hgr)
         have HBv5:=hid (gdK HBv4.out HMv4.out hgr)
         have HMv5:=hid hmp
         clear hrun hmp hgr
         refine And.intro (HS2.out _ HRv5.out) ?_
         (try simp only [sP])
         refine wpH 26 (.map (some mb)) 77 (HS2.out _ HRv5.out) ?_
         (try simp only [sP])
         refine wpH 27 (.map (some mb)) 15 (HS2.out _ HRv5.out) ?_
         (try simp only [sP])
         refine wpAnyH_done (by kernel_rfl) ?_ _
         (try refine NoPanic.normal ?_)
         have HF:=hid (And.intro (gdF1 HMv5.out HAv5.out HBv5.out) HRv5.out)
         first
          | exact HF
          | (apply hN;exact HF)
       . obtain ⟨v4,hrun,hmp,hgr⟩:=HMv3.out.put (t:=256) Try.underlying256 (by unfold maxLen;omega) (v:=.slice (some ⟨vb,0,none⟩) 4 4) hw1
         go_simp
         have HRv4:=hid (gdG HRv3.out hgr HMB.out)
         have HAv4:=hid (gdK HAv3.out HMv3.out hgr)
         have HBv4:=hid (gdK HBv3.out HMv3.out hgr)
         have HMv4:=hid hmp
         clear hrun hmp hgr
         refine And.intro (HS2.out _ HRv4.out) ?_
         (try simp only [sP])
         refine wpAnyH_oneW (i:=12) rfl (by kernel_rfl) (by rfl) ?_
         obtain ⟨v5,hrun,hmp,hgr⟩:=HMv4.out.put (t:=256) Try.underlying256 (by unfold maxLen;omega) (v:=.slice (some ⟨va,0,none⟩) 3 3) hw0
         go_simp
         have HRv5:=hid (gdG HRv4.out hgr HMB.out)
         have HAv5:=hid (gdK HAv4.out HMv4.out hgr)
         have HBv5:=hid (gdK HBv4.out HMv4.out hgr)
         have HMv5:=hid hmp
         clear hrun hmp hgr
         refine And.intro (HS2.out _ HRv5.out) ?_
         (try simp only [sP])
         refine wpH 26 (.map (some mb)) 77 (HS2.out _ HRv5.out) ?_
         (try simp only [sP])
         refine wpH 27 (.map (some mb)) 15 (HS2.out _ HRv5.out) ?_
         (try simp only [sP])
         refine wpAnyH_done (by kernel_rfl) ?_ _
         (try refine NoPanic.normal ?_)
         have HF:=hid (And.intro (gdF2 HMv5.out HAv5.out HBv5.out) HRv5.out)
         first
          | exact HF
          | (apply hN;exact HF)
   . go_simp
     obtain ⟨vb,hvb⟩:∃ z,z=v1.heap.size:=⟨_,rfl⟩
     obtain ⟨v2,hv2⟩:∃ z,z=v1.alloc (.cells #[.int i64 q0,.int i64 q1,.int i64 q2,.int i64 q3] 3):=⟨_,rfl⟩
     have hbv2:=gdB hv2
     have HRv2:=hid (gdT HRv1.out hbv2)
     have HAv2:=hid (gdL HAv1.out hbv2)
     have HBv2:=hid (gdN hv2 hvb)
     rw [<- hv2,<- hvb]
     clear hv2 hvb hbv2
     refine And.intro (HS2.out _ HRv2.out) ?_
     (try simp only [sP])
     refine wpAnyH_oneW (i:=0) rfl (by kernel_rfl) (by rfl) ?_
     go_simp
     obtain ⟨mb,hmb⟩:∃ z,z=v2.heap.size:=⟨_,rfl⟩
     obtain ⟨v3,hv3⟩:∃ z,z=v2.alloc (.map #[] 0):=⟨_,rfl⟩
     have hbv3:=gdB hv3
     have HRv3:=hid (gdT HRv2.out hbv3)
     have HAv3:=hid (gdL HAv2.out hbv3)
     have HBv3:=hid (gdL HBv2.out hbv3)
     have HMv3:Hid (MpV v3 mb 0 fun _=>none):=hid (by rw [hv3,hmb];exact MpV.made _)
     have HMB:Hid (w0.heap.size<=mb):=hid (by rw [hmb];exact HRv2.out.size)
     rw [<- hv3,<- hmb]
     clear hv3 hmb hbv3
     refine And.intro (HS2.out _ HRv3.out) ?_
     (try simp only [sP])
     refine wpAnyH_two (i:=12) (j:=25) rfl rfl (by kernel_rfl) (by rfl) (by rfl) ?_ ?_
     . obtain ⟨v4,hrun,hmp,hgr⟩:=HMv3.out.put (t:=256) Try.underlying256 (by unfold maxLen;omega) (v:=.slice (some ⟨va,0,none⟩) 3 3) hw0
       go_simp
       have HRv4:=hid (gdG HRv3.out hgr HMB.out)
       have HAv4:=hid (gdK HAv3.out HMv3.out hgr)
       have HBv4:=hid (gdK HBv3.out HMv3.out hgr)
       have HMv4:=hid hmp
       clear hrun hmp hgr
       refine And.intro (HS2.out _ HRv4.out) ?_
       (try simp only [sP])
       refine wpAnyH_oneW (i:=25) rfl (by kernel_rfl) (by rfl) ?_
       obtain ⟨v5,hrun,hmp,hgr⟩:=HMv4.out.put (t:=256) Try.underlying256 (by unfold maxLen;omega) (v:=.slice (some ⟨vb,0,none⟩) 4 4) hw1
       go_simp
       have HRv5:=hid (gdG HRv4.out hgr HMB.out)
       have HAv5:=hid (gdK HAv4.out HMv4.out hgr)
       have HBv5:=hid (gdK HBv4.out HMv4.out hgr)
       have HMv5:=hid hmp
       clear hrun hmp hgr
       refine And.intro (HS2.out _ HRv5.out) ?_
       (try simp only [sP])
       refine wpH 26 (.map (some mb)) 77 (HS2.out _ HRv5.out) ?_
       (try simp only [sP])
       refine wpH 27 (.map (some mb)) 15 (HS2.out _ HRv5.out) ?_
       (try simp only [sP])
       refine wpAnyH_done (by kernel_rfl) ?_ _
       (try refine NoPanic.normal ?_)
       have HF:=hid (And.intro (gdF1 HMv5.out HAv5.out HBv5.out) HRv5.out)
       first
        | exact HF
        | (apply hN;exact HF)
     . obtain ⟨v4,hrun,hmp,hgr⟩:=HMv3.out.put (t:=256) Try.underlying256 (by unfold maxLen;omega) (v:=.slice (some ⟨vb,0,none⟩) 4 4) hw1
       go_simp
       have HRv4:=hid (gdG HRv3.out hgr HMB.out)
       have HAv4:=hid (gdK HAv3.out HMv3.out hgr)
       have HBv4:=hid (gdK HBv3.out HMv3.out hgr)
       have HMv4:=hid hmp
       clear hrun hmp hgr
       refine And.intro (HS2.out _ HRv4.out) ?_
       (try simp only [sP])
       refine wpAnyH_oneW (i:=12) rfl (by kernel_rfl) (by rfl) ?_
       obtain ⟨v5,hrun,hmp,hgr⟩:=HMv4.out.put (t:=256) Try.underlying256 (by unfold maxLen;omega) (v:=.slice (some ⟨va,0,none⟩) 3 3) hw0
       go_simp
       have HRv5:=hid (gdG HRv4.out hgr HMB.out)
       have HAv5:=hid (gdK HAv4.out HMv4.out hgr)
       have HBv5:=hid (gdK HBv4.out HMv4.out hgr)
       have HMv5:=hid hmp
       clear hrun hmp hgr
       refine And.intro (HS2.out _ HRv5.out) ?_
       (try simp only [sP])
       refine wpH 26 (.map (some mb)) 77 (HS2.out _ HRv5.out) ?_
       (try simp only [sP])
       refine wpH 27 (.map (some mb)) 15 (HS2.out _ HRv5.out) ?_
       (try simp only [sP])
       refine wpAnyH_done (by kernel_rfl) ?_ _
       (try refine NoPanic.normal ?_)
       have HF:=hid (And.intro (gdF2 HMv5.out HAv5.out HBv5.out) HRv5.out)
       first
        | exact HF
        | (apply hN;exact HF)
 . go_simp
   obtain ⟨vb,hvb⟩:∃ z,z=u0.heap.size:=⟨_,rfl⟩
   obtain ⟨v1,hv1⟩:∃ z,z=u0.alloc (.cells #[.int i64 q0,.int i64 q1,.int i64 q2,.int i64 q3] 3):=⟨_,rfl⟩
   have hbv1:=gdB hv1
   have HRv1:=hid (gdT HRu0.out hbv1)
   have HBv1:=hid (gdN hv1 hvb)
   rw [<- hv1,<- hvb]
   clear hv1 hvb hbv1
   refine And.intro (HS2.out _ HRv1.out) ?_
   (try simp only [sP])
   refine wpAnyH_two (i:=0) (j:=11) rfl rfl (by kernel_rfl) (by rfl) (by rfl) ?_ ?_
   . go_simp
     obtain ⟨mb,hmb⟩:∃ z,z=v1.heap.size:=⟨_,rfl⟩
     obtain ⟨v2,hv2⟩:∃ z,z=v1.alloc (.map #[] 0):=⟨_,rfl⟩
     have hbv2:=gdB hv2
     have HRv2:=hid (gdT HRv1.out hbv2)
     have HBv2:=hid (gdL HBv1.out hbv2)
     have HMv2:Hid (MpV v2 mb 0 fun _=>none):=hid (by rw [hv2,hmb];exact MpV.made _)
     have HMB:Hid (w0.heap.size<=mb):=hid (by rw [hmb];exact HRv1.out.size)
     rw [<- hv2,<- hmb]
     clear hv2 hmb hbv2
     refine And.intro (HS2.out _ HRv2.out) ?_
     (try simp only [sP])
     refine wpAnyH_two (i:=11) (j:=25) rfl rfl (by kernel_rfl) (by rfl) (by rfl) ?_ ?_
     . go_simp
       obtain ⟨va,hva⟩:∃ z,z=v2.heap.size:=⟨_,rfl⟩
       obtain ⟨v3,hv3⟩:∃ z,z=v2.alloc (.cells #[.int i64 p0,.int i64 p1,.int i64 p2] 3):=⟨_,rfl⟩
       have hbv3:=gdB hv3
       have HRv3:=hid (gdT HRv2.out hbv3)
       have HMv3:=hid (HMv2.out.below hbv3)
       have HBv3:=hid (gdL HBv2.out hbv3)
       have HAv3:=hid (gdN hv3 hva)
       rw [<- hv3,<- hva]
       clear hv3 hva hbv3
       refine And.intro (HS2.out _ HRv3.out) ?_
       (try simp only [sP])
       refine wpAnyH_two (i:=12) (j:=25) rfl rfl (by kernel_rfl) (by rfl) (by rfl) ?_ ?_
       . obtain ⟨v4,hrun,hmp,hgr⟩:=HMv3.out.put (t:=256) Try.underlying256 (by unfold maxLen;omega) (v:=.slice (some ⟨va,0,none⟩) 3 3) hw0
         go_simp
         have HRv4:=hid (gdG HRv3.out hgr HMB.out)
         have HAv4:=hid (gdK HAv3.out HMv3.out hgr)
         have HBv4:=hid (gdK HBv3.out HMv3.out hgr)
         have HMv4:=hid hmp
         clear hrun hmp hgr
         refine And.intro (HS2.out _ HRv4.out) ?_
         (try simp only [sP])
         refine wpAnyH_oneW (i:=25) rfl (by kernel_rfl) (by rfl) ?_
         obtain ⟨v5,hrun,hmp,hgr⟩:=HMv4.out.put (t:=256) Try.underlying256 (by unfold maxLen;omega) (v:=.slice (some ⟨vb,0,none⟩) 4 4) hw1
         go_simp
         have HRv5:=hid (gdG HRv4.out hgr HMB.out)
         have HAv5:=hid (gdK HAv4.out HMv4.out hgr)
         have HBv5:=hid (gdK HBv4.out HMv4.out hgr)
         have HMv5:=hid hmp
         clear hrun hmp hgr
         refine And.intro (HS2.out _ HRv5.out) ?_
         (try simp only [sP])
         refine wpH 26 (.map (some mb)) 77 (HS2.out _ HRv5.out) ?_
         (try simp only [sP])
         refine wpH 27 (.map (some mb)) 15 (HS2.out _ HRv5.out) ?_
         (try simp only [sP])
         refine wpAnyH_done (by kernel_rfl) ?_ _
         (try refine NoPanic.normal ?_)
         have HF:=hid (And.intro (gdF1 HMv5.out HAv5.out HBv5.out) HRv5.out)
         first
          | exact HF
          | (apply hN;exact HF)
       . obtain ⟨v4,hrun,hmp,hgr⟩:=HMv3.out.put (t:=256) Try.underlying256 (by unfold maxLen;omega) (v:=.slice (some ⟨vb,0,none⟩) 4 4) hw1
         go_simp
         have HRv4:=hid (gdG HRv3.out hgr HMB.out)
         have HAv4:=hid (gdK HAv3.out HMv3.out hgr)
         have HBv4:=hid (gdK HBv3.out HMv3.out hgr)
         have HMv4:=hid hmp
         clear hrun hmp hgr
         refine And.intro (HS2.out _ HRv4.out) ?_
         (try simp only [sP])
         refine wpAnyH_oneW (i:=12) rfl (by kernel_rfl) (by rfl) ?_
         obtain ⟨v5,hrun,hmp,hgr⟩:=HMv4.out.put (t:=256) Try.underlying256 (by unfold maxLen;omega) (v:=.slice (some ⟨va,0,none⟩) 3 3) hw0
         go_simp
         have HRv5:=hid (gdG HRv4.out hgr HMB.out)
         have HAv5:=hid (gdK HAv4.out HMv4.out hgr)
         have HBv5:=hid (gdK HBv4.out HMv4.out hgr)
         have HMv5:=hid hmp
         clear hrun hmp hgr
         refine And.intro (HS2.out _ HRv5.out) ?_
         (try simp only [sP])
         refine wpH 26 (.map (some mb)) 77 (HS2.out _ HRv5.out) ?_
         (try simp only [sP])
         refine wpH 27 (.map (some mb)) 15 (HS2.out _ HRv5.out) ?_
         (try simp only [sP])
         refine wpAnyH_done (by kernel_rfl) ?_ _
         (try refine NoPanic.normal ?_)
         have HF:=hid (And.intro (gdF2 HMv5.out HAv5.out HBv5.out) HRv5.out)
         first
          | exact HF
          | (apply hN;exact HF)
     . obtain ⟨v3,hrun,hmp,hgr⟩:=HMv2.out.put (t:=256) Try.underlying256 (by unfold maxLen;omega) (v:=.slice (some ⟨vb,0,none⟩) 4 4) hw1
       go_simp
       have HRv3:=hid (gdG HRv2.out hgr HMB.out)
       have HBv3:=hid (gdK HBv2.out HMv2.out hgr)
       have HMv3:=hid hmp
       clear hrun hmp hgr
       refine And.intro (HS2.out _ HRv3.out) ?_
       (try simp only [sP])
       refine wpAnyH_oneW (i:=11) rfl (by kernel_rfl) (by rfl) ?_
       go_simp
       obtain ⟨va,hva⟩:∃ z,z=v3.heap.size:=⟨_,rfl⟩
       obtain ⟨v4,hv4⟩:∃ z,z=v3.alloc (.cells #[.int i64 p0,.int i64 p1,.int i64 p2] 3):=⟨_,rfl⟩
       have hbv4:=gdB hv4
       have HRv4:=hid (gdT HRv3.out hbv4)
       have HMv4:=hid (HMv3.out.below hbv4)
       have HBv4:=hid (gdL HBv3.out hbv4)
       have HAv4:=hid (gdN hv4 hva)
       rw [<- hv4,<- hva]
       clear hv4 hva hbv4
       refine And.intro (HS2.out _ HRv4.out) ?_
       (try simp only [sP])
       refine wpAnyH_oneW (i:=12) rfl (by kernel_rfl) (by rfl) ?_
       obtain ⟨v5,hrun,hmp,hgr⟩:=HMv4.out.put (t:=256) Try.underlying256 (by unfold maxLen;omega) (v:=.slice (some ⟨va,0,none⟩) 3 3) hw0
       go_simp
       have HRv5:=hid (gdG HRv4.out hgr HMB.out)
       have HAv5:=hid (gdK HAv4.out HMv4.out hgr)
       have HBv5:=hid (gdK HBv4.out HMv4.out hgr)
       have HMv5:=hid hmp
       clear hrun hmp hgr
       refine And.intro (HS2.out _ HRv5.out) ?_
       (try simp only [sP])
       refine wpH 26 (.map (some mb)) 77 (HS2.out _ HRv5.out) ?_
       (try simp only [sP])
       refine wpH 27 (.map (some mb)) 15 (HS2.out _ HRv5.out) ?_
       (try simp only [sP])
       refine wpAnyH_done (by kernel_rfl) ?_ _
       (try refine NoPanic.normal ?_)
       have HF:=hid (And.intro (gdF2 HMv5.out HAv5.out HBv5.out) HRv5.out)
       first
        | exact HF
        | (apply hN;exact HF)
   . go_simp
     obtain ⟨va,hva⟩:∃ z,z=v1.heap.size:=⟨_,rfl⟩
     obtain ⟨v2,hv2⟩:∃ z,z=v1.alloc (.cells #[.int i64 p0,.int i64 p1,.int i64 p2] 3):=⟨_,rfl⟩
     have hbv2:=gdB hv2
     have HRv2:=hid (gdT HRv1.out hbv2)
     have HBv2:=hid (gdL HBv1.out hbv2)
     have HAv2:=hid (gdN hv2 hva)
     rw [<- hv2,<- hva]
     clear hv2 hva hbv2
     refine And.intro (HS2.out _ HRv2.out) ?_
     (try simp only [sP])
     refine wpAnyH_oneW (i:=0) rfl (by kernel_rfl) (by rfl) ?_
     go_simp
     obtain ⟨mb,hmb⟩:∃ z,z=v2.heap.size:=⟨_,rfl⟩
     obtain ⟨v3,hv3⟩:∃ z,z=v2.alloc (.map #[] 0):=⟨_,rfl⟩
     have hbv3:=gdB hv3
     have HRv3:=hid (gdT HRv2.out hbv3)
     have HAv3:=hid (gdL HAv2.out hbv3)
     have HBv3:=hid (gdL HBv2.out hbv3)
     have HMv3:Hid (MpV v3 mb 0 fun _=>none):=hid (by rw [hv3,hmb];exact MpV.made _)
     have HMB:Hid (w0.heap.size<=mb):=hid (by rw [hmb];exact HRv2.out.size)
     rw [<- hv3,<- hmb]
     clear hv3 hmb hbv3
     refine And.intro (HS2.out _ HRv3.out) ?_
     (try simp only [sP])
     refine wpAnyH_two (i:=12) (j:=25) rfl rfl (by kernel_rfl) (by rfl) (by rfl) ?_ ?_
     . obtain ⟨v4,hrun,hmp,hgr⟩:=HMv3.out.put (t:=256) Try.underlying256 (by unfold maxLen;omega) (v:=.slice (some ⟨va,0,none⟩) 3 3) hw0
       go_simp
       have HRv4:=hid (gdG HRv3.out hgr HMB.out)
       have HAv4:=hid (gdK HAv3.out HMv3.out hgr)
       have HBv4:=hid (gdK HBv3.out HMv3.out hgr)
       have HMv4:=hid hmp
       clear hrun hmp hgr
       refine And.intro (HS2.out _ HRv4.out) ?_
       (try simp only [sP])
       refine wpAnyH_oneW (i:=25) rfl (by kernel_rfl) (by rfl) ?_
       obtain ⟨v5,hrun,hmp,hgr⟩:=HMv4.out.put (t:=256) Try.underlying256 (by unfold maxLen;omega) (v:=.slice (some ⟨vb,0,none⟩) 4 4) hw1
       go_simp
       have HRv5:=hid (gdG HRv4.out hgr HMB.out)
       have HAv5:=hid (gdK HAv4.out HMv4.out hgr)
       have HBv5:=hid (gdK HBv4.out HMv4.out hgr)
       have HMv5:=hid hmp
       clear hrun hmp hgr
       refine And.intro (HS2.out _ HRv5.out) ?_
       (try simp only [sP])
       refine wpH 26 (.map (some mb)) 77 (HS2.out _ HRv5.out) ?_
       (try simp only [sP])
       refine wpH 27 (.map (some mb)) 15 (HS2.out _ HRv5.out) ?_
       (try simp only [sP])
       refine wpAnyH_done (by kernel_rfl) ?_ _
       (try refine NoPanic.normal ?_)
       have HF:=hid (And.intro (gdF1 HMv5.out HAv5.out HBv5.out) HRv5.out)
       first
        | exact HF
        | (apply hN;exact HF)
     . obtain ⟨v4,hrun,hmp,hgr⟩:=HMv3.out.put (t:=256) Try.underlying256 (by unfold maxLen;omega) (v:=.slice (some ⟨vb,0,none⟩) 4 4) hw1
       go_simp
       have HRv4:=hid (gdG HRv3.out hgr HMB.out)
       have HAv4:=hid (gdK HAv3.out HMv3.out hgr)
       have HBv4:=hid (gdK HBv3.out HMv3.out hgr)
       have HMv4:=hid hmp
       clear hrun hmp hgr
       refine And.intro (HS2.out _ HRv4.out) ?_
       (try simp only [sP])
       refine wpAnyH_oneW (i:=12) rfl (by kernel_rfl) (by rfl) ?_
       obtain ⟨v5,hrun,hmp,hgr⟩:=HMv4.out.put (t:=256) Try.underlying256 (by unfold maxLen;omega) (v:=.slice (some ⟨va,0,none⟩) 3 3) hw0
       go_simp
       have HRv5:=hid (gdG HRv4.out hgr HMB.out)
       have HAv5:=hid (gdK HAv4.out HMv4.out hgr)
       have HBv5:=hid (gdK HBv4.out HMv4.out hgr)
       have HMv5:=hid hmp
       clear hrun hmp hgr
       refine And.intro (HS2.out _ HRv5.out) ?_
       (try simp only [sP])
       refine wpH 26 (.map (some mb)) 77 (HS2.out _ HRv5.out) ?_
       (try simp only [sP])
       refine wpH 27 (.map (some mb)) 15 (HS2.out _ HRv5.out) ?_
       (try simp only [sP])
       refine wpAnyH_done (by kernel_rfl) ?_ _
       (try refine NoPanic.normal ?_)
       have HF:=hid (And.intro (gdF2 HMv5.out HAv5.out HBv5.out) HRv5.out)
       first
        | exact HF
        | (apply hN;exact HF)
end Go.Proofs.Ytnidcmhfbkdioaa
