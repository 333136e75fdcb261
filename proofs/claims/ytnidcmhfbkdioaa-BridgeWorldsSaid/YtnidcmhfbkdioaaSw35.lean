/-
  The second half of tourref4.BodyOf. Conditions: what is read can be read; values that are not great.
-/
import Derived.Test.YtnidcmhfbkdioaaSw34
namespace Go.Proofs.Ytnidcmhfbkdioaa
open Go.RowKit
open Go.IntKind (i64)
open Go.Lib (hid)
set_option maxRecDepth 100000
def findT (n:Nat):Code->Option Code
 | .seq (.seq (.region i o d) x) b=>if i=n then some (.seq (.seq (.region i o d) x) b) else match findT n x with
   | some c=>some c
   | none=>findT n b
 | .seq a b=>match findT n a with
   | some c=>some c
   | none=>findT n b
 | .block _ c=>findT n c
 | .loop c=>findT n c
 | .scope c=>findT n c
 | .cond _ a b=>match findT n a with
   | some c=>some c
   | none=>findT n b
 | _=>none
noncomputable def rbTail:Code:=(Try.f136.body.bind (findT 15)).getD .skip
theorem tdiv2_neg (v:Int) (h:v<=0):v.tdiv 2<=0:=by
 obtain ⟨n,rfl⟩:∃ n:Nat,v = -(n:Int):=⟨(-v).toNat,by omega⟩
 rw [Int.neg_tdiv,Int.tdiv_eq_ediv_of_nonneg (by omega)];omega
theorem set13_kx {w:World} {g:Nat} {cs:Array Value} {v0 v1 v2 v3 v4 v5 v6 v7 v8 v9 v10 v11 v12:Value} (h:Bk w g 124 cs):Kx 0 [124] w (set13 w g v0 v1 v2 v3 v4 v5 v6 v7 v8 v9 v10 v11 v12) :=
 ⟨by simp [set13],fun b hb=>absurd hb (Nat.not_lt_zero _),fun b t cs' hk ht=>set13_ne hk (by
  rintro rfl
  have e:w.heap[b]?=some (.cells cs 124 (0,0)):=h
  have e2:w.heap[b]?=some (.cells cs' t (0,0)):=hk
  rw [e] at e2
  injection e2 with e2
  injection e2 with _ e3 _
  exact ht (by rw [<- e3];simp))⟩
set_option maxHeartbeats 8000000 in
theorem rbTail_any {x0 x1 x2 x3 x5 x6 x9 Ad Ae Af Ag Ah Ai Aj Ak Al Am Ao Ap Aq Ar Au Av Aw Ax Ay Az A7 A9 Be Bl Bu Bv Bw B0 B1 B2 B3 B4 B5 B6 B7 B8 B9 Cg Ch Ci Cj Ck Cp Cq Cr Cs Cu Cw Cx Cy Cz C0 C1 C2 C3 C4 C5 C6 C7 C8 C9 Da Db Dc Dd De Dg Dh Di Dj Dk Dl Dm Dn Dp Dq Dr Ds Dt Du Dv Dw Dx Dy D0 D1 D3 D4 D5 D6 D7 D8 D9 Ee Ef Ei Ek El Em En Eo Es Et Eu Ev Ew Ex Ey Ez E0 E1 E2 E3 E4 E5 E6 E7 E8 E9 Fa Fb Ff Fg Fh Fi Fj Fk Fl Fm Fn Fp Fs Ft Fu Fv Fx Fy Fz F0 F1 F2 F3 F4 F5 F6 F7 F8 F9 Ga Gd Gi Gp Gr Gs Gt Gu Gv Gw Gx Gy Gz G0 G1 G2 G3 G4 G5 G6 VV:Value} {Q:Exit->Act->World->Prop} {W0 w9:World} {r0 bs os sc hb gc cc:Nat} {wd hd px py ang bou rub s2:Int} {p s:List Int} {vm:Option (List Int)} {b:Bo}
 (hB:Below W0.heap.size W0 w9) (hlb:W0.heap.size<=hb) (hk:Bk w9 hb 124 #[.int i64 px,.int i64 py,.int i64 0,.int i64 0,.int i64 ang,.int i64 0,.int i64 0,.int i64 0,.int i64 bou,.int i64 rub,.slice (some ⟨gc,0,none⟩) 4 cc,.bool false,.int i64 0]) (HR0:Hid (∀ wz,Below W0.heap.size W0 wz->Bk wz r0 124 BoZ)) (HSS:Hid (∀ wz,Below W0.heap.size W0 wz->wz.cell? ⟨bs,os+2,none⟩=some (.int i64 s2))) (_hsc:5<=sc) (_hsc2:sc<=9223372036854775807)
 (hb0:bo0 p s=⟨px,py,0,0,ang,0,0,0,bou,rub,false,0,wd,hd⟩) (hs2:s2=atI s 2) (hwd:wd=wiF (atI s 0) 4096 1048576) (hhd:hd=wiF (atI s 1) 4096 1048576) (hv:match vm with
  | none=>VV=.slice none 0 0/\b=bo0 p s
  | some v=>(∃ bv ov vc,VV=.slice (some ⟨bv,ov,none⟩) 4 vc/\4<=vc/\vc<=9223372036854775807/\∀ wz,Below W0.heap.size W0 wz->∀ j,j<4->wz.cell? ⟨bv,ov+j,none⟩=some (.int i64 (atI v j)))/\(-8589934592<=atI v 3/\atI v 3<=8589934592)/\b=if atI s 2<1 then bo0 p s else bo1 p s v)
 (hR:∀ (K1 K2 K3 K4 K5 K6 K7 K8 K9 La Lb Lc Ld Le Lf Lg Lh Li Lj Lk Ll Lm Ln Lo Lp Lq Lr Ls Lt Lu Lv Lw Lx Ly Lz L0 L1 L2 L3 L4 L5 L6 L7 L8 L9 Mi Mm Mp Mr Ms Mv Mx My M0 M3 M4 M5 M6 M7 M8 M9 Na Nb Nc Nd Nf Ng Nh Ni Nj Nk Nl Nm Nn Np Nq Nr Ns Nt Nu Nv Nw Nx Ny:Value) (wz:World),Hid (Below W0.heap.size W0 wz/\Kx 0 [124] w9 wz)->Q .ret ⟨#[x0,x1,x2,x3,.pointer (some ⟨r0,0,none⟩),.bool true,x6,.slice (some ⟨bs,os,none⟩) 5 sc,VV,x9,.int i64 wd,.int i64 hd,.pointer (some ⟨hb,0,none⟩),Ad,Ae,Af,Ag,Ah,Ai,Aj,Ak,Al,Am,Ao,Ap,Aq,Ar,Au,Av,Aw,Ax,Ay,Az,A7,A9,Be,Bl,Bu,Bv,Bw,B0,B1,B2,B3,B4,B5,B6,B7,B8,B9,Cg,Ch,Ci,Cj,Ck,Cp,Cq,Cr,Cs,Cu,Cw,Cx,Cy,Cz,C0,C1,C2,C3,C4,C5,C6,C7,C8,C9,Da,Db,Dc,Dd,De,Dg,Dh,Di,Dj,Dk,Dl,Dm,Dn,Dp,Dq,Dr,Ds,Dt,Du,Dv,Dw,Dx,Dy,K1,K2,K3,K4,K5,K6,K7,K8,K9,La,Lb,Lc,Ld,Le,Lf,Lg,Lh,Li,Lj,Lk,Ll,Lm,Ln,Lo,Lp,Lq,Lr,Ls,Lt,Lu,Lv,Lw,Lx,Ly,Lz,L0,L1,L2,L3,L4,L5,L6,L7,L8,L9,Mi,Mm,Mp,Mr,Ms,Mv,Mx,My,M0,M3,M4,M5,M6,M7,M8,M9,Na,Nb,Nc,Nd,Nf,Ng,Nh,Ni,Nj,Nk,Nl,Nm,Nn,Np,Nq,Nr,Ns,Nt,Nu,Nv,Nw,Nx,Ny],[]⟩ (set13 wz r0 (.int i64 b.px) (.int i64 b.py) (.int i64 b.vx) (.int i64 b.vy) (.int i64 b.ang) (.int i64 b.spin) (.int i64 b.mass) (.int i64 b.inr) (.int i64 b.bou) (.int i64 b.rub) (.slice (some ⟨gc,0,none⟩) 4 cc) (.bool b.asl) (.int i64 b.calm))) :
 Code.wp Try.prog rbTail Q ⟨#[x0,x1,x2,x3,.pointer (some ⟨r0,0,none⟩),x5,x6,.slice (some ⟨bs,os,none⟩) 5 sc,VV,x9,.int i64 wd,.int i64 hd,.pointer (some ⟨hb,0,none⟩),Ad,Ae,Af,Ag,Ah,Ai,Aj,Ak,Al,Am,Ao,Ap,Aq,Ar,Au,Av,Aw,Ax,Ay,Az,A7,A9,Be,Bl,Bu,Bv,Bw,B0,B1,B2,B3,B4,B5,B6,B7,B8,B9,Cg,Ch,Ci,Cj,Ck,Cp,Cq,Cr,Cs,Cu,Cw,Cx,Cy,Cz,C0,C1,C2,C3,C4,C5,C6,C7,C8,C9,Da,Db,Dc,Dd,De,Dg,Dh,Di,Dj,Dk,Dl,Dm,Dn,Dp,Dq,Dr,Ds,Dt,Du,Dv,Dw,Dx,Dy,D0,D1,D3,D4,D5,D6,D7,D8,D9,Ee,Ef,Ei,Ek,El,Em,En,Eo,Es,Et,Eu,Ev,Ew,Ex,Ey,Ez,E0,E1,E2,E3,E4,E5,E6,E7,E8,E9,Fa,Fb,Ff,Fg,Fh,Fi,Fj,Fk,Fl,Fm,Fn,Fp,Fs,Ft,Fu,Fv,Fx,Fy,Fz,F0,F1,F2,F3,F4,F5,F6,F7,F8,F9,Ga,Gd,Gi,Gp,Gr,Gs,Gt,Gu,Gv,Gw,Gx,Gy,Gz,G0,G1,G2,G3,G4,G5,G6],[]⟩ w9:=by
 conv=>arg 2;whnf
 have hwd1:=wiF_in (n:=atI s 0) (lo:=4096) (hi:=1048576) (by decide)
 have hhd1:=wiF_in (n:=atI s 1) (lo:=4096) (hi:=1048576) (by decide)
 rw [<- hwd] at hwd1
 rw [<- hhd] at hhd1
 have HB9:=hid hB
 have HK9:=hid hk
 have HB0:=hid hb0
 have HX:Hid (Below W0.heap.size W0 w9/\Kx 0 [124] w9 w9/\Bk w9 hb 124 #[.int i64 px,.int i64 py,.int i64 0,.int i64 0,.int i64 ang,.int i64 0,.int i64 0,.int i64 0,.int i64 bou,.int i64 rub,.slice (some ⟨gc,0,none⟩) 4 cc,.bool false,.int i64 0]):=hid ⟨hB,Kx.refl,hk⟩
 have HWD:=hid (And.intro hwd hhd)
 have cs2:w9.cell? ⟨bs,os+2,none⟩=some (.int i64 s2):=HSS.out w9 hB
 have hnil:=fun wx=>Lib.run_eql_slice_nil (P:=Try.prog) wx 30 3 none 0 0 0 0 Try.underlying30
 clear hB hk hb0 hwd hhd
 cases vm with
 | none =>
   obtain ⟨hVV,hbe⟩:=hv
   rw [HB0.out] at hbe
   subst hVV hbe
   have kh:=HX.out.2.2
   have kz:=HR0.out w9 HX.out.1
   have k0:w9.cell? ⟨hb,0,none⟩=some (.int i64 px):=kh.cell 0
   have k1:w9.cell? ⟨hb,1,none⟩=some (.int i64 py):=kh.cell 1
   have k2:w9.cell? ⟨hb,2,none⟩=some (.int i64 0):=kh.cell 2
   have k3:w9.cell? ⟨hb,3,none⟩=some (.int i64 0):=kh.cell 3
   have k4:w9.cell? ⟨hb,4,none⟩=some (.int i64 ang):=kh.cell 4
   have k5:w9.cell? ⟨hb,5,none⟩=some (.int i64 0):=kh.cell 5
   have k6:w9.cell? ⟨hb,6,none⟩=some (.int i64 0):=kh.cell 6
   have k7:w9.cell? ⟨hb,7,none⟩=some (.int i64 0):=kh.cell 7
   have k8:w9.cell? ⟨hb,8,none⟩=some (.int i64 bou):=kh.cell 8
   have k9:w9.cell? ⟨hb,9,none⟩=some (.int i64 rub):=kh.cell 9
   have k10:w9.cell? ⟨hb,10,none⟩=some (.slice (some ⟨gc,0,none⟩) 4 cc):=kh.cell 10
   have k11:w9.cell? ⟨hb,11,none⟩=some (.bool false):=kh.cell 11
   have k12:w9.cell? ⟨hb,12,none⟩=some (.int i64 0):=kh.cell 12
   have q0:w9.cell? ⟨r0,0,none⟩=some (.int i64 0):=kz.cell 0
   have f0:w9.frozen? ⟨r0,0,none⟩=false:=kz.frozen 0
   have q1:w9.cell? ⟨r0,1,none⟩=some (.int i64 0):=kz.cell 1
   have f1:w9.frozen? ⟨r0,1,none⟩=false:=kz.frozen 1
   have q2:w9.cell? ⟨r0,2,none⟩=some (.int i64 0):=kz.cell 2
   have f2:w9.frozen? ⟨r0,2,none⟩=false:=kz.frozen 2
   have q3:w9.cell? ⟨r0,3,none⟩=some (.int i64 0):=kz.cell 3
   have f3:w9.frozen? ⟨r0,3,none⟩=false:=kz.frozen 3
   have q4:w9.cell? ⟨r0,4,none⟩=some (.int i64 0):=kz.cell 4
   have f4:w9.frozen? ⟨r0,4,none⟩=false:=kz.frozen 4
   have q5:w9.cell? ⟨r0,5,none⟩=some (.int i64 0):=kz.cell 5
   have f5:w9.frozen? ⟨r0,5,none⟩=false:=kz.frozen 5
   have q6:w9.cell? ⟨r0,6,none⟩=some (.int i64 0):=kz.cell 6
   have f6:w9.frozen? ⟨r0,6,none⟩=false:=kz.frozen 6
   have q7:w9.cell? ⟨r0,7,none⟩=some (.int i64 0):=kz.cell 7
   have f7:w9.frozen? ⟨r0,7,none⟩=false:=kz.frozen 7
   have q8:w9.cell? ⟨r0,8,none⟩=some (.int i64 0):=kz.cell 8
   have f8:w9.frozen? ⟨r0,8,none⟩=false:=kz.frozen 8
   have q9:w9.cell? ⟨r0,9,none⟩=some (.int i64 0):=kz.cell 9
   have f9:w9.frozen? ⟨r0,9,none⟩=false:=kz.frozen 9
   have q10:w9.cell? ⟨r0,10,none⟩=some (.slice none 0 0):=kz.cell 10
   have f10:w9.frozen? ⟨r0,10,none⟩=false:=kz.frozen 10
   have q11:w9.cell? ⟨r0,11,none⟩=some (.bool false):=kz.cell 11
   have f11:w9.frozen? ⟨r0,11,none⟩=false:=kz.frozen 11
   have q12:w9.cell? ⟨r0,12,none⟩=some (.int i64 0):=kz.cell 12
   have f12:w9.frozen? ⟨r0,12,none⟩=false:=kz.frozen 12
   clear kh kz
   have HF:Hid (Below W0.heap.size W0 w9/\Kx 0 [124] w9 w9):=hid ⟨HX.out.1,HX.out.2.1⟩
   go_wp2_with fail
   first
    | done
    | exact HF
    | exact hR _ _ _ _ _ _ _ _ _ _ _ _ _ _ _ _ _ _ _ _ _ _ _ _ _ _ _ _ _ _ _ _ _ _ _ _ _ _ _ _ _ _ _ _ _ _ _ _ _ _ _ _ _ _ _ _ _ _ _ _ _ _ _ _ _ _ _ _ _ _ _ _ _ _ _ _ _ _ _ _ _ _ _ _ _ HF
 | some v =>
   obtain ⟨⟨bv,ov,vc,hVV,hvc,hvc2,hvat⟩,hv3r,hbe⟩:=hv
   subst hVV
   have hnv:=fun wx=>Lib.run_eql_slice_nil (P:=Try.prog) wx 30 3 (some ⟨bv,ov,none⟩) 4 vc 0 0 Try.underlying30
   obtain ⟨v0,hv0⟩:∃ z,z=atI v 0:=⟨_,rfl⟩
   obtain ⟨v1,hv1⟩:∃ z,z=atI v 1:=⟨_,rfl⟩
   obtain ⟨v2,hv2⟩:∃ z,z=atI v 2:=⟨_,rfl⟩
   obtain ⟨v3,hv3⟩:∃ z,z=atI v 3:=⟨_,rfl⟩
   have HS3:Hid (∀ wz,Below W0.heap.size W0 wz->wz.cell? ⟨bv,ov,none⟩=some (.int i64 v0)/\wz.cell? ⟨bv,ov+1,none⟩=some (.int i64 v1)/\wz.cell? ⟨bv,ov+2,none⟩=some (.int i64 v2)/\wz.cell? ⟨bv,ov+3,none⟩=some (.int i64 v3)):=hid fun wz hz=>by
    rw [hv0,hv1,hv2,hv3]
    exact ⟨hvat wz hz 0 (by omega),hvat wz hz 1 (by omega),hvat wz hz 2 (by omega),hvat wz hz 3 (by omega)⟩
   rw [<- hv3] at hv3r
   rw [<- hs2] at hbe
   have HLV:=hid (And.intro hv0 (And.intro hv1 (And.intro hv2 hv3)))
   have HS2:=hid hs2
   clear hvat hv0 hv1 hv2 hv3 hs2
   by_cases hs1':s2<1
   . rw [if_pos hs1',HB0.out] at hbe
     have hs0':s2<=0:=by omega
     subst hbe
     clear HS3 hv3r
     have kh:=HX.out.2.2
     have kz:=HR0.out w9 HX.out.1
     have k0:w9.cell? ⟨hb,0,none⟩=some (.int i64 px):=kh.cell 0
     have k1:w9.cell? ⟨hb,1,none⟩=some (.int i64 py):=kh.cell 1
     have k2:w9.cell? ⟨hb,2,none⟩=some (.int i64 0):=kh.cell 2
     have k3:w9.cell? ⟨hb,3,none⟩=some (.int i64 0):=kh.cell 3
     have k4:w9.cell? ⟨hb,4,none⟩=some (.int i64 ang):=kh.cell 4
     have k5:w9.cell? ⟨hb,5,none⟩=some (.int i64 0):=kh.cell 5
     have k6:w9.cell? ⟨hb,6,none⟩=some (.int i64 0):=kh.cell 6
     have k7:w9.cell? ⟨hb,7,none⟩=some (.int i64 0):=kh.cell 7
     have k8:w9.cell? ⟨hb,8,none⟩=some (.int i64 bou):=kh.cell 8
     have k9:w9.cell? ⟨hb,9,none⟩=some (.int i64 rub):=kh.cell 9
     have k10:w9.cell? ⟨hb,10,none⟩=some (.slice (some ⟨gc,0,none⟩) 4 cc):=kh.cell 10
     have k11:w9.cell? ⟨hb,11,none⟩=some (.bool false):=kh.cell 11
     have k12:w9.cell? ⟨hb,12,none⟩=some (.int i64 0):=kh.cell 12
     have q0:w9.cell? ⟨r0,0,none⟩=some (.int i64 0):=kz.cell 0
     have f0:w9.frozen? ⟨r0,0,none⟩=false:=kz.frozen 0
     have q1:w9.cell? ⟨r0,1,none⟩=some (.int i64 0):=kz.cell 1
     have f1:w9.frozen? ⟨r0,1,none⟩=false:=kz.frozen 1
     have q2:w9.cell? ⟨r0,2,none⟩=some (.int i64 0):=kz.cell 2
     have f2:w9.frozen? ⟨r0,2,none⟩=false:=kz.frozen 2
     have q3:w9.cell? ⟨r0,3,none⟩=some (.int i64 0):=kz.cell 3
     have f3:w9.frozen? ⟨r0,3,none⟩=false:=kz.frozen 3
     have q4:w9.cell? ⟨r0,4,none⟩=some (.int i64 0):=kz.cell 4
     have f4:w9.frozen? ⟨r0,4,none⟩=false:=kz.frozen 4
     have q5:w9.cell? ⟨r0,5,none⟩=some (.int i64 0):=kz.cell 5
     have f5:w9.frozen? ⟨r0,5,none⟩=false:=kz.frozen 5
     have q6:w9.cell? ⟨r0,6,none⟩=some (.int i64 0):=kz.cell 6
     have f6:w9.frozen? ⟨r0,6,none⟩=false:=kz.frozen 6
     have q7:w9.cell? ⟨r0,7,none⟩=some (.int i64 0):=kz.cell 7
     have f7:w9.frozen? ⟨r0,7,none⟩=false:=kz.frozen 7
     have q8:w9.cell? ⟨r0,8,none⟩=some (.int i64 0):=kz.cell 8
     have f8:w9.frozen? ⟨r0,8,none⟩=false:=kz.frozen 8
     have q9:w9.cell? ⟨r0,9,none⟩=some (.int i64 0):=kz.cell 9
     have f9:w9.frozen? ⟨r0,9,none⟩=false:=kz.frozen 9
     have q10:w9.cell? ⟨r0,10,none⟩=some (.slice none 0 0):=kz.cell 10
     have f10:w9.frozen? ⟨r0,10,none⟩=false:=kz.frozen 10
     have q11:w9.cell? ⟨r0,11,none⟩=some (.bool false):=kz.cell 11
     have f11:w9.frozen? ⟨r0,11,none⟩=false:=kz.frozen 11
     have q12:w9.cell? ⟨r0,12,none⟩=some (.int i64 0):=kz.cell 12
     have f12:w9.frozen? ⟨r0,12,none⟩=false:=kz.frozen 12
     clear kh kz
     have HF:Hid (Below W0.heap.size W0 w9/\Kx 0 [124] w9 w9):=hid ⟨HX.out.1,HX.out.2.1⟩
     go_wp2_with fail
     first
      | done
      | exact HF
      | exact hR _ _ _ _ _ _ _ _ _ _ _ _ _ _ _ _ _ _ _ _ _ _ _ _ _ _ _ _ _ _ _ _ _ _ _ _ _ _ _ _ _ _ _ _ _ _ _ _ _ _ _ _ _ _ _ _ _ _ _ _ _ _ _ _ _ _ _ _ _ _ _ _ _ _ _ _ _ _ _ _ _ _ _ _ _ HF
   . rw [if_neg hs1'] at hbe
     have hs0':¬ s2<=0:=by omega
     obtain ⟨vx,hvx⟩:∃ z,z=wiF v0 (-268435456) 268435456:=⟨_,rfl⟩
     obtain ⟨vy,hvy⟩:∃ z,z=wiF v1 (-268435456) 268435456:=⟨_,rfl⟩
     obtain ⟨spin,hspin⟩:∃ z,z=wiF v2 (-16777216) 16777216:=⟨_,rfl⟩
     obtain ⟨mass,hmass⟩:∃ z,z=wiF s2 4096 65536000:=⟨_,rfl⟩
     obtain ⟨calm,hcalm⟩:∃ z,z=wiF (v3.tdiv 2) 0 1000:=⟨_,rfl⟩
     have HV0:Hid (∀ wz:World,Calls Try.prog 155 #[.int i64 v0,.int i64 (-268435456),.int i64 268435456] wz fun e w'=>e=.returned (.int i64 vx)/\wz=w'):=hid fun wz=>by rw [hvx];exact rnear_any _ _ _ wz
     have HV1:Hid (∀ wz:World,Calls Try.prog 155 #[.int i64 v1,.int i64 (-268435456),.int i64 268435456] wz fun e w'=>e=.returned (.int i64 vy)/\wz=w'):=hid fun wz=>by rw [hvy];exact rnear_any _ _ _ wz
     have HSP:Hid (∀ wz,Calls Try.prog 155 #[.int i64 v2,.int i64 (-16777216),.int i64 16777216] wz fun e w'=>e=.returned (.int i64 spin)/\wz=w'):=hid fun wz=>by rw [hspin];exact rnear_any _ _ _ wz
     have HMS:Hid (∀ wz,Calls Try.prog 155 #[.int i64 s2,.int i64 4096,.int i64 65536000] wz fun e w'=>e=.returned (.int i64 mass)/\wz=w'):=hid fun wz=>by rw [hmass];exact rnear_any _ _ _ wz
     have HCM:Hid (∀ wz,Calls Try.prog 155 #[.int i64 (v3.tdiv 2),.int i64 0,.int i64 1000] wz fun e w'=>e=.returned (.int i64 calm)/\wz=w'):=hid fun wz=>by rw [hcalm];exact rnear_any _ _ _ wz
     have hms:=wiF_in (n:=s2) (lo:=4096) (hi:=65536000) (by decide)
     rw [<- hmass] at hms
     obtain ⟨wn,hwn⟩:∃ z:Nat,wd=z:=⟨wd.toNat,by omega⟩
     obtain ⟨hn,hhn⟩:∃ z:Nat,hd=z:=⟨hd.toNat,by omega⟩
     obtain ⟨mn,hmn⟩:∃ z:Nat,mass=z:=⟨mass.toNat,by omega⟩
     obtain ⟨qa,hqa⟩:∃ z,z=mdF wn wn 65536:=⟨_,rfl⟩
     obtain ⟨qb,hqb⟩:∃ z,z=mdF hn hn 65536:=⟨_,rfl⟩
     have HM1:Hid (∀ wz,Calls Try.prog 201 #[.int i64 (wn:Int),.int i64 (wn:Int)] wz fun e w'=>e=.returned (.int i64 (qa:Nat))/\∃ m,wz.drewN m=w'):=hid fun wz=>by rw [hqa];exact fmul_any wn wn (by omega) (by omega) (sq_le (by omega) (by omega)) wz
     have HM2:Hid (∀ wz,Calls Try.prog 201 #[.int i64 (hn:Int),.int i64 (hn:Int)] wz fun e w'=>e=.returned (.int i64 (qb:Nat))/\∃ m,wz.drewN m=w'):=hid fun wz=>by rw [hqb];exact fmul_any hn hn (by omega) (by omega) (sq_le (by omega) (by omega)) wz
     have hq1:=md_sq (a:=wn) (by omega)
     have hq2:=md_sq (a:=hn) (by omega)
     rw [<- hqa] at hq1
     rw [<- hqb] at hq2
     obtain ⟨qs,hqs⟩:∃ z,z=qa+qb:=⟨_,rfl⟩
     have HM3:Hid (∀ wz,Calls Try.prog 202 #[.int i64 (qa:Nat),.int i64 (qb:Nat)] wz fun e w'=>e=.returned (.int i64 (qs:Nat))/\wz=w'):=hid fun wz=>by rw [hqs];exact fadd_any _ _ (by omega) (by omega) wz
     have hq3:=md_mul (a:=mn) (b:=qs) (by omega) (by omega)
     obtain ⟨qm,hqm⟩:∃ z,z=mdF mn qs 65536:=⟨_,rfl⟩
     have HM4:Hid (∀ wz,Calls Try.prog 201 #[.int i64 (mn:Int),.int i64 (qs:Nat)] wz fun e w'=>e=.returned (.int i64 (qm:Nat))/\∃ m,wz.drewN m=w'):=hid fun wz=>by rw [hqm];exact fmul_any _ _ (by omega) (by omega) hq3.1 wz
     obtain ⟨inn,hinn⟩:∃ z,z=inrF mn wn hn:=⟨_,rfl⟩
     have hinn2:inn=mdF qm 65536 196608:=by rw [hinn,hqm,hqs,hqa,hqb];rfl
     have HM5:Hid (∀ wz,Calls Try.prog 200 #[.int i64 (qm:Nat),.int i64 196608] wz fun e w'=>e=.returned (.tuple #[.int i64 (inn:Nat),.int i64 0])/\∃ m,wz.drewN m=w'):=hid fun wz=>by rw [hinn2];exact fdiv_any _ (by rw [hqm];exact hq3.2) wz
     clear hq1 hq2 hq3 hqs hqm hinn2 hqa hqb
     obtain ⟨inr,hinr⟩:∃ z:Int,z=max (inn:Int) 1:=⟨_,rfl⟩
     obtain ⟨asl,hasl⟩:∃ z,z=decide (0<v3/\v3.tmod 2=1/\vx=0/\vy=0/\spin=0):=⟨_,rfl⟩
     have hbe2:b=⟨px,py,vx,vy,ang,spin,mass,inr,bou,rub,asl,calm,wd,hd⟩:=by
      rw [hbe]
      unfold bo1
      rw [HB0.out,<- HWD.out.1,<- HWD.out.2,<- HS2.out,<- HLV.out.1,<- HLV.out.2.1,<- HLV.out.2.2.1,<- HLV.out.2.2.2,<- hvx,<- hvy,<- hspin,<- hmass,<- hcalm,hasl,hinr,hinn,hmn,hwn,hhn]
      rfl
     subst hbe2
     have HASL:=hid (And.intro hasl (And.intro hinr hcalm))
     have HWN:=hid (And.intro hwn (And.intro hhn hmn))
     clear hbe hwn hhn hmn hvx hvy hspin hmass hcalm hinn hasl hinr HB0 HS2 HWD HX
     go_upto_region 17 with fail
     have HBv:Hid (Below W0.heap.size W0 w9.drew):=hid HB9.out.drew
     have sV:=HS3.out w9.drew HBv.out
     have hkv:Bk w9.drew hb 124 #[.int i64 px,.int i64 py,.int i64 0,.int i64 0,.int i64 ang,.int i64 0,.int i64 0,.int i64 0,.int i64 bou,.int i64 rub,.slice (some ⟨gc,0,none⟩) 4 cc,.bool false,.int i64 0]:=HK9.out.drew
     have HKv:Hid (Kx 0 [124] w9 w9.drew):=hid Kx.refl.drew
     clear cs2
     refine wp_region_noPanic ?_
     refine wp_region_H (S:=fun wz=>wz.cell? ⟨bv,ov,none⟩=some (.int i64 v0)/\wz.cell? ⟨bv,ov+1,none⟩=some (.int i64 v1)/\wz.cell? ⟨bv,ov+2,none⟩=some (.int i64 v2)/\wz.cell? ⟨bv,ov+3,none⟩=some (.int i64 v3)) (by kernel_rfl) ?_
     generalize hwv:w9.drew=wv at *
     clear hwv
     have HBa:Hid (Below W0.heap.size W0 (wv.setCell ⟨hb,2,none⟩ (.int i64 vx))):=hid (HBv.out.setCell (p:=⟨hb,2,none⟩) hlb _)
     have HBb:Hid (Below W0.heap.size W0 ((wv.setCell ⟨hb,2,none⟩ (.int i64 vx)).setCell ⟨hb,3,none⟩ (.int i64 vy))):=hid (HBa.out.setCell (p:=⟨hb,3,none⟩) hlb _)
     have k2:wv.cell? ⟨hb,2,none⟩=some (.int i64 0):=hkv.cell 2
     have f2:wv.frozen? ⟨hb,2,none⟩=false:=hkv.frozen 2
     have k3:wv.cell? ⟨hb,3,none⟩=some (.int i64 0):=hkv.cell 3
     have f3:wv.frozen? ⟨hb,3,none⟩=false:=hkv.frozen 3
     refine wpH 0 (.slice (some ⟨bv,ov,none⟩) 4 vc) 106 sV ?_
     (try simp only [sP])
     refine wpH 1 (.pointer (some ⟨bv,ov,none⟩)) 107 sV ?_
     (try simp only [sP])
     refine wpH 2 (.int i64 v0) 108 sV ?_
     (try simp only [sP])
     refine wpH 4 (.slice (some ⟨bv,ov,none⟩) 4 vc) 110 sV ?_
     (try simp only [sP])
     refine wpH 5 (.pointer (some ⟨bv,ov+1,none⟩)) 111 sV ?_
     (try simp only [sP])
     refine wpH 6 (.int i64 v1) 112 sV ?_
     (try simp only [sP])
     refine wpAnyH_oneW (i:=3) rfl (by kernel_rfl) (by rfl) ?_
     go_simp
     go_at_call 155
     (with_reducible refine (HV0.out _).mono ?_)
     rintro e u ⟨rfl,rfl⟩
     refine And.intro sV ?_
     (try simp only [sP])
     refine wpH 8 (.pointer (some ⟨hb,2,none⟩)) 114 sV ?_
     (try simp only [sP])
     refine wpH 9 (.pointer (some ⟨hb,2,none⟩)) 115 sV ?_
     (try simp only [sP])
     refine wpAnyH_oneW (i:=7) rfl (by kernel_rfl) (by rfl) ?_
     go_simp
     go_at_call 155
     (with_reducible refine (HV1.out _).mono ?_)
     rintro e u ⟨rfl,rfl⟩
     refine And.intro sV ?_
     (try simp only [sP])
     refine wpAnyH_oneW (i:=10) rfl (by kernel_rfl) (by rfl) ?_
     go_simp
     refine And.intro (by first | exact HS3.out _ HBa.out | exact ⟨(HS3.out _ HBa.out).1,(HS3.out _ HBa.out).2.1,(HS3.out _ HBa.out).2.2.1⟩) ?_
     (try simp only [sP])
     refine wpH 11 (.pointer (some ⟨hb,2,none⟩)) 116 (HS3.out _ HBa.out) ?_
     (try simp only [sP])
     refine wpH 12 (.pointer (some ⟨hb,3,none⟩)) 117 (HS3.out _ HBa.out) ?_
     (try simp only [sP])
     refine wpAnyH_oneW (i:=13) rfl (by kernel_rfl) (by rfl) ?_
     go_simp
     refine And.intro (by first | exact HS3.out _ HBb.out | exact ⟨(HS3.out _ HBb.out).1,(HS3.out _ HBb.out).2.1,(HS3.out _ HBb.out).2.2.1⟩) ?_
     (try simp only [sP])
     refine wpAnyH_done (by kernel_rfl) ?_ _
     refine NoPanic.normal ?_
     obtain ⟨w15,hw15⟩:∃ z,z=(wv.setCell ⟨hb,2,none⟩ (.int i64 vx)).setCell ⟨hb,3,none⟩ (.int i64 vy):=⟨_,rfl⟩
     have HD15:Hid (Below W0.heap.size W0 w15/\Kx 0 [124] w9 w15/\Bk w15 hb 124 #[.int i64 px,.int i64 py,.int i64 vx,.int i64 vy,.int i64 ang,.int i64 0,.int i64 0,.int i64 0,.int i64 bou,.int i64 rub,.slice (some ⟨gc,0,none⟩) 4 cc,.bool false,.int i64 0]):=hid (by
      rw [hw15]
      have h1:=hkv.set_ 2 (.int i64 vx)
      exact ⟨HBb.out,(HKv.out.set hkv (Nat.zero_le _) (by simp) 2 _).set h1 (Nat.zero_le _) (by simp) 3 _,by simpa using h1.set_ 3 (.int i64 vy)⟩)
     rw [<- hw15]
     have cv2:w15.cell? ⟨bv,ov+2,none⟩=some (.int i64 v2):=(HS3.out w15 HD15.out.1).2.2.1
     have k5:w15.cell? ⟨hb,5,none⟩=some (.int i64 0):=HD15.out.2.2.cell 5
     have f5:w15.frozen? ⟨hb,5,none⟩=false:=HD15.out.2.2.frozen 5
     clear hw15 HBa HBb HBv HKv hkv sV k2 f2 k3 f3 HV0 HV1 HB9 HK9
     go_wp2_with fail
     (with_reducible refine (HSP.out w15).mono ?_)
     rintro e u ⟨rfl,rfl⟩
     go_upto_region 19 with fail
     obtain ⟨w16,hw16⟩:∃ z,z=w15.setCell ⟨hb,5,none⟩ (.int i64 spin):=⟨_,rfl⟩
     have HD16:Hid (Below W0.heap.size W0 w16/\Kx 0 [124] w9 w16/\Bk w16 hb 124 #[.int i64 px,.int i64 py,.int i64 vx,.int i64 vy,.int i64 ang,.int i64 spin,.int i64 0,.int i64 0,.int i64 bou,.int i64 rub,.slice (some ⟨gc,0,none⟩) 4 cc,.bool false,.int i64 0]):=hid (by
      rw [hw16]
      exact ⟨HD15.out.1.setCell (p:=⟨hb,5,none⟩) hlb _,HD15.out.2.1.set HD15.out.2.2 (Nat.zero_le _) (by simp) 5 _,by simpa using HD15.out.2.2.set_ 5 (.int i64 spin)⟩)
     rw [<- hw16]
     have cs2:w16.cell? ⟨bs,os+2,none⟩=some (.int i64 s2):=HSS.out w16 HD16.out.1
     have k6:w16.cell? ⟨hb,6,none⟩=some (.int i64 0):=HD16.out.2.2.cell 6
     have f6:w16.frozen? ⟨hb,6,none⟩=false:=HD16.out.2.2.frozen 6
     clear hw16 HD15 cv2 k5 f5 HSP
     go_wp2_with fail
     (with_reducible refine (HMS.out w16).mono ?_)
     rintro e u ⟨rfl,rfl⟩
     go_upto_region 20 with fail
     obtain ⟨w17,hw17⟩:∃ z,z=w16.setCell ⟨hb,6,none⟩ (.int i64 mass):=⟨_,rfl⟩
     have HD17:Hid (Below W0.heap.size W0 w17/\Kx 0 [124] w9 w17/\Bk w17 hb 124 #[.int i64 px,.int i64 py,.int i64 vx,.int i64 vy,.int i64 ang,.int i64 spin,.int i64 mass,.int i64 0,.int i64 bou,.int i64 rub,.slice (some ⟨gc,0,none⟩) 4 cc,.bool false,.int i64 0]):=hid (by
      rw [hw17]
      exact ⟨HD16.out.1.setCell (p:=⟨hb,6,none⟩) hlb _,HD16.out.2.1.set HD16.out.2.2 (Nat.zero_le _) (by simp) 6 _,by simpa using HD16.out.2.2.set_ 6 (.int i64 mass)⟩)
     rw [<- hw17]
     clear hw17 HD16 cs2 k6 f6 HMS
     have sM:w17.drew.cell? ⟨hb,6,none⟩=some (.int i64 (mn:Nat)):=by rw [<- HWN.out.2.2];exact HD17.out.2.2.cell 6
     rw [HWN.out.1,HWN.out.2.1]
     go_cut [142] from 128 to 141 (fun s142 wx=>s142=.pointer (some ⟨hb,7,none⟩)/\Hid (Below W0.heap.size W0 wx/\Kx 0 [124] w9 wx/\Bk wx hb 124 #[.int i64 px,.int i64 py,.int i64 vx,.int i64 vy,.int i64 ang,.int i64 spin,.int i64 mass,.int i64 (inn:Nat),.int i64 bou,.int i64 rub,.slice (some ⟨gc,0,none⟩) 4 cc,.bool false,.int i64 0]))
     case first =>
      refine wp_region_noPanic ?_
      refine wp_region_H (S:=fun wz=>wz.cell? ⟨hb,6,none⟩=some (.int i64 (mn:Nat))) (by kernel_rfl) ?_
      refine wpH 0 (.pointer (some ⟨hb,6,none⟩)) 129 sM ?_
      (try simp only [sP])
      refine wpH 1 (.int i64 (mn:Nat)) 130 sM ?_
      (try simp only [sP])
      refine wpH 2 (.int i64 (wn:Nat)) 131 sM ?_
      (try simp only [sP])
      refine wpH 3 (.int i64 (wn:Nat)) 132 sM ?_
      (try simp only [sP])
      refine wpH 5 (.int i64 (hn:Nat)) 134 sM ?_
      (try simp only [sP])
      refine wpH 6 (.int i64 (hn:Nat)) 135 sM ?_
      (try simp only [sP])
      refine wpAnyH_oneW (i:=4) rfl (by kernel_rfl) (by rfl) ?_
      go_simp
      go_at_call 201
      (with_reducible refine (HM1.out _).mono ?_)
      rintro e u ⟨rfl,m1,rfl⟩
      refine And.intro sM ?_
      (try simp only [sP])
      refine wpAnyH_oneW (i:=7) rfl (by kernel_rfl) (by rfl) ?_
      go_simp
      go_at_call 201
      (with_reducible refine (HM2.out _).mono ?_)
      rintro e u ⟨rfl,m2,rfl⟩
      refine And.intro sM ?_
      (try simp only [sP])
      refine wpAnyH_oneW (i:=8) rfl (by kernel_rfl) (by rfl) ?_
      go_simp
      go_at_call 202
      (with_reducible refine (HM3.out _).mono ?_)
      rintro e u ⟨rfl,rfl⟩
      refine And.intro sM ?_
      (try simp only [sP])
      refine wpAnyH_oneW (i:=9) rfl (by kernel_rfl) (by rfl) ?_
      go_simp
      go_at_call 201
      (with_reducible refine (HM4.out _).mono ?_)
      rintro e u ⟨rfl,m4,rfl⟩
      refine And.intro sM ?_
      (try simp only [sP])
      refine wpAnyH_oneW (i:=10) rfl (by kernel_rfl) (by rfl) ?_
      go_simp
      go_at_call 200
      (with_reducible refine (HM5.out _).mono ?_)
      rintro e u ⟨rfl,m5,rfl⟩
      refine And.intro sM ?_
      (try simp only [sP])
      refine wpH 11 (.tuple #[.int i64 (inn:Nat),.int i64 0]) 128 sM ?_
      (try simp only [sP])
      refine wpH 12 (.int i64 (inn:Nat)) 140 sM ?_
      (try simp only [sP])
      refine wpH 13 (.int i64 0) 141 sM ?_
      (try simp only [sP])
      refine wpH 14 (.pointer (some ⟨hb,7,none⟩)) 142 sM ?_
      (try simp only [sP])
      have HDq:Hid (∀ z,Bk (w17.drewN z) hb 124 #[.int i64 px,.int i64 py,.int i64 vx,.int i64 vy,.int i64 ang,.int i64 spin,.int i64 mass,.int i64 0,.int i64 bou,.int i64 rub,.slice (some ⟨gc,0,none⟩) 4 cc,.bool false,.int i64 0]):=hid fun z=>HD17.out.2.2.drewN z
      have k7:w17.cell? ⟨hb,7,none⟩=some (.int i64 0):=HD17.out.2.2.cell 7
      have f7:w17.frozen? ⟨hb,7,none⟩=false:=HD17.out.2.2.frozen 7
      have k7':∀ z z',((w17.drewN z).drewN z').cell? ⟨hb,7,none⟩=some (.int i64 0):=fun z z'=>((HDq.out z).drewN z').cell 7
      have f7':∀ z z',((w17.drewN z).drewN z').frozen? ⟨hb,7,none⟩=false:=fun z z'=>((HDq.out z).drewN z').frozen 7
      refine wpAnyH_oneW (i:=15) rfl (by kernel_rfl) (by rfl) ?_
      go_simp
      refine And.intro sM ?_
      (try simp only [sP])
      refine wpAnyH_done (by kernel_rfl) ?_ _
      refine NoPanic.normal ?_
      go_wp2_with fail
      go_meet
      case rel =>
       first
        | exact ⟨rfl,hid ⟨(below_dn HD17.out.1 _).setCell (p:=⟨hb,7,none⟩) hlb _,(HD17.out.2.1.drewN _).set (HDq.out _) (Nat.zero_le _) (by simp) 7 _,by simpa using (HDq.out _).set_ 7 (.int i64 (inn:Nat))⟩⟩
        | exact ⟨rfl,hid ⟨(below_dn (below_dn HD17.out.1 _) _).setCell (p:=⟨hb,7,none⟩) hlb _,(HD17.out.2.1.drewN _ |>.drewN _).set ((HDq.out _).drewN _) (Nat.zero_le _) (by simp) 7 _,by simpa using ((HDq.out _).drewN _).set_ 7 (.int i64 (inn:Nat))⟩⟩
     case rest =>
      obtain ⟨rfl,HD⟩:=hcut
      obtain ⟨w18,rfl⟩:∃ q,q=wc:=⟨_,rfl⟩
      rw [<- HWN.out.1,<- HWN.out.2.1]
      have HD18:=HD
      have k7:w18.cell? ⟨hb,7,none⟩=some (.int i64 (inn:Nat)):=HD18.out.2.2.cell 7
      have f7:w18.frozen? ⟨hb,7,none⟩=false:=HD18.out.2.2.frozen 7
      clear HD sM HD17 HM1 HM2 HM3 HM4 HM5
      go_upto_if 145 with fail
      go_cut [12] from 146 to 146 (fun s12 wx=>s12=.pointer (some ⟨hb,0,none⟩)/\Hid (Below W0.heap.size W0 wx/\Kx 0 [124] w9 wx/\Bk wx hb 124 #[.int i64 px,.int i64 py,.int i64 vx,.int i64 vy,.int i64 ang,.int i64 spin,.int i64 mass,.int i64 inr,.int i64 bou,.int i64 rub,.slice (some ⟨gc,0,none⟩) 4 cc,.bool false,.int i64 0]))
      case first =>
       by_cases hi:(inn:Int)<1
       . have e:inr=1:=by have h9:=HASL.out.2.1;rw [Int.max_def] at h9;split at h9 <;> omega
         go_wp2_with fail
         go_meet
         case rel =>
          rw [e]
          exact ⟨rfl,hid ⟨HD18.out.1.setCell (p:=⟨hb,7,none⟩) hlb _,HD18.out.2.1.set HD18.out.2.2 (Nat.zero_le _) (by simp) 7 _,by simpa using HD18.out.2.2.set_ 7 (.int i64 1)⟩⟩
       . have e:inr=inn:=by have h9:=HASL.out.2.1;rw [Int.max_def] at h9;split at h9 <;> omega
         go_wp2_with fail
         go_meet
         case rel =>
          rw [e]
          exact ⟨rfl,HD18⟩
      case rest =>
       obtain ⟨rfl,HD⟩:=hcut
       obtain ⟨w19,rfl⟩:∃ q,q=wc:=⟨_,rfl⟩
       have HD19:=HD
       have cv3:w19.cell? ⟨bv,ov+3,none⟩=some (.int i64 v3):=(HS3.out w19 HD19.out.1).2.2.2
       clear HD HD18 k7 f7
       by_cases hv3:0<v3
       . have k12:w19.cell? ⟨hb,12,none⟩=some (.int i64 0):=HD19.out.2.2.cell 12
         have f12:w19.frozen? ⟨hb,12,none⟩=false:=HD19.out.2.2.frozen 12
         have hw2:IntKind.i64.wrap (v3.tdiv 2)=v3.tdiv 2:=by have h9:=tdiv2_rng v3 8589934592 hv3r;rw [IntKind.wrap_i64];omega
         have htd:v3.tdiv 2=v3 / 2:=Int.tdiv_eq_ediv_of_nonneg (by omega)
         have hte:v3.tmod 2=v3 % 2:=Int.tmod_eq_emod_of_nonneg (by omega)
         have HCM2:Hid (∀ wz,Calls Try.prog 155 #[.int i64 (v3 / 2),.int i64 0,.int i64 1000] wz fun e w'=>e=.returned (.int i64 calm)/\wz=w'):=hid (by have h9:=HCM.out;rw [htd] at h9;exact h9)
         have HA:Hid (asl=(decide (v3 % 2=1)&&(decide (vx=0)&&(decide (vy=0)&&decide (spin=0))))):=hid (by rw [HASL.out.1,Bool.eq_iff_iff];simp [hv3,hte])
         clear htd hte
         go_wp2_with fail
         first
          | (with_reducible refine (HCM.out w19).mono ?_)
          | (with_reducible refine (HCM2.out w19).mono ?_)
         rintro e u ⟨rfl,rfl⟩
         go_upto_region 25 with fail
         obtain ⟨w20,hw20⟩:∃ z,z=w19.setCell ⟨hb,12,none⟩ (.int i64 calm):=⟨_,rfl⟩
         have HD20:Hid (Below W0.heap.size W0 w20/\Kx 0 [124] w9 w20/\Bk w20 hb 124 #[.int i64 px,.int i64 py,.int i64 vx,.int i64 vy,.int i64 ang,.int i64 spin,.int i64 mass,.int i64 inr,.int i64 bou,.int i64 rub,.slice (some ⟨gc,0,none⟩) 4 cc,.bool false,.int i64 calm]):=hid (by
          rw [hw20]
          exact ⟨HD19.out.1.setCell (p:=⟨hb,12,none⟩) hlb _,HD19.out.2.1.set HD19.out.2.2 (Nat.zero_le _) (by simp) 12 _,by simpa using HD19.out.2.2.set_ 12 (.int i64 calm)⟩)
         rw [<- hw20]
         clear hw20 cv3 k12 f12 hw2 HD19 HCM HCM2
         have cv3:w20.cell? ⟨bv,ov+3,none⟩=some (.int i64 v3):=(HS3.out w20 HD20.out.1).2.2.2
         have k2:w20.cell? ⟨hb,2,none⟩=some (.int i64 vx):=HD20.out.2.2.cell 2
         have k3:w20.cell? ⟨hb,3,none⟩=some (.int i64 vy):=HD20.out.2.2.cell 3
         have k5:w20.cell? ⟨hb,5,none⟩=some (.int i64 spin):=HD20.out.2.2.cell 5
         have k11:w20.cell? ⟨hb,11,none⟩=some (.bool false):=HD20.out.2.2.cell 11
         have f11:w20.frozen? ⟨hb,11,none⟩=false:=HD20.out.2.2.frozen 11
         go_cut [179] from 157 to 178 (fun s179 wx=>s179=.pointer (some ⟨hb,11,none⟩)/\Hid (Below W0.heap.size W0 wx/\Kx 0 [124] w9 wx/\Bk wx hb 124 #[.int i64 px,.int i64 py,.int i64 vx,.int i64 vy,.int i64 ang,.int i64 spin,.int i64 mass,.int i64 inr,.int i64 bou,.int i64 rub,.slice (some ⟨gc,0,none⟩) 4 cc,.bool asl,.int i64 calm]))
         case first =>
          by_cases h2:v3 % 2=1
          . by_cases h3:vx=0
            . by_cases h4:vy=0
              . by_cases h5:spin=0
                . have t3:(vx == 0)=true:=by simp [h3]
                  have t4:(vy == 0)=true:=by simp [h4]
                  have t5:(spin == 0)=true:=by simp [h5]
                  have e:asl=true:=by rw [HA.out,decide_eq_true h2,decide_eq_true h3,decide_eq_true h4,decide_eq_true h5];rfl
                  clear HA
                  subst e
                  go_wp2_with fail
                  go_meet
                  case rel=>exact ⟨rfl,hid ⟨HD20.out.1.setCell (p:=⟨hb,11,none⟩) hlb _,HD20.out.2.1.set HD20.out.2.2 (Nat.zero_le _) (by simp) 11 _,by simpa using HD20.out.2.2.set_ 11 (.bool true)⟩⟩
                . have t3:(vx == 0)=true:=by simp [h3]
                  have t4:(vy == 0)=true:=by simp [h4]
                  have t5:(spin == 0)=false:=by simp [h5]
                  have e:asl=false:=by rw [HA.out,decide_eq_true h2,decide_eq_true h3,decide_eq_true h4,decide_eq_false h5];rfl
                  clear HA
                  subst e
                  go_wp2_with fail
                  go_meet
                  case rel=>exact ⟨rfl,hid ⟨HD20.out.1.setCell (p:=⟨hb,11,none⟩) hlb _,HD20.out.2.1.set HD20.out.2.2 (Nat.zero_le _) (by simp) 11 _,by simpa using HD20.out.2.2.set_ 11 (.bool false)⟩⟩
              . have t3:(vx == 0)=true:=by simp [h3]
                have t4:(vy == 0)=false:=by simp [h4]
                have e:asl=false:=by rw [HA.out,decide_eq_true h2,decide_eq_true h3,decide_eq_false h4];rfl
                clear HA
                subst e
                go_wp2_with fail
                go_meet
                case rel=>exact ⟨rfl,hid ⟨HD20.out.1.setCell (p:=⟨hb,11,none⟩) hlb _,HD20.out.2.1.set HD20.out.2.2 (Nat.zero_le _) (by simp) 11 _,by simpa using HD20.out.2.2.set_ 11 (.bool false)⟩⟩
            . have t3:(vx == 0)=false:=by simp [h3]
              have e:asl=false:=by rw [HA.out,decide_eq_true h2,decide_eq_false h3];rfl
              clear HA
              subst e
              go_wp2_with fail
              go_meet
              case rel=>exact ⟨rfl,hid ⟨HD20.out.1.setCell (p:=⟨hb,11,none⟩) hlb _,HD20.out.2.1.set HD20.out.2.2 (Nat.zero_le _) (by simp) 11 _,by simpa using HD20.out.2.2.set_ 11 (.bool false)⟩⟩
          . have e:asl=false:=by rw [HA.out,decide_eq_false h2];rfl
            clear HA
            subst e
            go_wp2_with fail
            go_meet
            case rel=>exact ⟨rfl,hid ⟨HD20.out.1.setCell (p:=⟨hb,11,none⟩) hlb _,HD20.out.2.1.set HD20.out.2.2 (Nat.zero_le _) (by simp) 11 _,by simpa using HD20.out.2.2.set_ 11 (.bool false)⟩⟩
         case rest =>
          obtain ⟨rfl,HD⟩:=hcut
          obtain ⟨w21,rfl⟩:∃ q,q=wc:=⟨_,rfl⟩
          have HX:=HD
          clear HD HD20 cv3 k2 k3 k5 k11 f11
          have kh:=HX.out.2.2
          have kz:=HR0.out w21 HX.out.1
          have k0:w21.cell? ⟨hb,0,none⟩=some (.int i64 px):=kh.cell 0
          have k1:w21.cell? ⟨hb,1,none⟩=some (.int i64 py):=kh.cell 1
          have k2:w21.cell? ⟨hb,2,none⟩=some (.int i64 vx):=kh.cell 2
          have k3:w21.cell? ⟨hb,3,none⟩=some (.int i64 vy):=kh.cell 3
          have k4:w21.cell? ⟨hb,4,none⟩=some (.int i64 ang):=kh.cell 4
          have k5:w21.cell? ⟨hb,5,none⟩=some (.int i64 spin):=kh.cell 5
          have k6:w21.cell? ⟨hb,6,none⟩=some (.int i64 mass):=kh.cell 6
          have k7:w21.cell? ⟨hb,7,none⟩=some (.int i64 inr):=kh.cell 7
          have k8:w21.cell? ⟨hb,8,none⟩=some (.int i64 bou):=kh.cell 8
          have k9:w21.cell? ⟨hb,9,none⟩=some (.int i64 rub):=kh.cell 9
          have k10:w21.cell? ⟨hb,10,none⟩=some (.slice (some ⟨gc,0,none⟩) 4 cc):=kh.cell 10
          have k11:w21.cell? ⟨hb,11,none⟩=some (.bool asl):=kh.cell 11
          have k12:w21.cell? ⟨hb,12,none⟩=some (.int i64 calm):=kh.cell 12
          have q0:w21.cell? ⟨r0,0,none⟩=some (.int i64 0):=kz.cell 0
          have f0:w21.frozen? ⟨r0,0,none⟩=false:=kz.frozen 0
          have q1:w21.cell? ⟨r0,1,none⟩=some (.int i64 0):=kz.cell 1
          have f1:w21.frozen? ⟨r0,1,none⟩=false:=kz.frozen 1
          have q2:w21.cell? ⟨r0,2,none⟩=some (.int i64 0):=kz.cell 2
          have f2:w21.frozen? ⟨r0,2,none⟩=false:=kz.frozen 2
          have q3:w21.cell? ⟨r0,3,none⟩=some (.int i64 0):=kz.cell 3
          have f3:w21.frozen? ⟨r0,3,none⟩=false:=kz.frozen 3
          have q4:w21.cell? ⟨r0,4,none⟩=some (.int i64 0):=kz.cell 4
          have f4:w21.frozen? ⟨r0,4,none⟩=false:=kz.frozen 4
          have q5:w21.cell? ⟨r0,5,none⟩=some (.int i64 0):=kz.cell 5
          have f5:w21.frozen? ⟨r0,5,none⟩=false:=kz.frozen 5
          have q6:w21.cell? ⟨r0,6,none⟩=some (.int i64 0):=kz.cell 6
          have f6:w21.frozen? ⟨r0,6,none⟩=false:=kz.frozen 6
          have q7:w21.cell? ⟨r0,7,none⟩=some (.int i64 0):=kz.cell 7
          have f7:w21.frozen? ⟨r0,7,none⟩=false:=kz.frozen 7
          have q8:w21.cell? ⟨r0,8,none⟩=some (.int i64 0):=kz.cell 8
          have f8:w21.frozen? ⟨r0,8,none⟩=false:=kz.frozen 8
          have q9:w21.cell? ⟨r0,9,none⟩=some (.int i64 0):=kz.cell 9
          have f9:w21.frozen? ⟨r0,9,none⟩=false:=kz.frozen 9
          have q10:w21.cell? ⟨r0,10,none⟩=some (.slice none 0 0):=kz.cell 10
          have f10:w21.frozen? ⟨r0,10,none⟩=false:=kz.frozen 10
          have q11:w21.cell? ⟨r0,11,none⟩=some (.bool false):=kz.cell 11
          have f11:w21.frozen? ⟨r0,11,none⟩=false:=kz.frozen 11
          have q12:w21.cell? ⟨r0,12,none⟩=some (.int i64 0):=kz.cell 12
          have f12:w21.frozen? ⟨r0,12,none⟩=false:=kz.frozen 12
          clear kh kz
          have HF:Hid (Below W0.heap.size W0 w21/\Kx 0 [124] w9 w21):=hid ⟨HX.out.1,HX.out.2.1⟩
          go_wp2_with fail
          first
           | done
           | exact HF
           | exact hR _ _ _ _ _ _ _ _ _ _ _ _ _ _ _ _ _ _ _ _ _ _ _ _ _ _ _ _ _ _ _ _ _ _ _ _ _ _ _ _ _ _ _ _ _ _ _ _ _ _ _ _ _ _ _ _ _ _ _ _ _ _ _ _ _ _ _ _ _ _ _ _ _ _ _ _ _ _ _ _ _ _ _ _ _ HF
       . have e:asl=false:=by rw [HASL.out.1];simp [hv3]
         have e2:calm=0:=by
          rw [HASL.out.2.2]
          have h9:=tdiv2_neg v3 (by omega)
          unfold wiF
          split
          . rfl
          . (split <;> first | rfl | omega)
         have HX:Hid (Below W0.heap.size W0 w19/\Kx 0 [124] w9 w19/\Bk w19 hb 124 #[.int i64 px,.int i64 py,.int i64 vx,.int i64 vy,.int i64 ang,.int i64 spin,.int i64 mass,.int i64 inr,.int i64 bou,.int i64 rub,.slice (some ⟨gc,0,none⟩) 4 cc,.bool asl,.int i64 calm]):=hid (by rw [e,e2];exact HD19.out)
         clear e e2 HD19
         have kh:=HX.out.2.2
         have kz:=HR0.out w19 HX.out.1
         have k0:w19.cell? ⟨hb,0,none⟩=some (.int i64 px):=kh.cell 0
         have k1:w19.cell? ⟨hb,1,none⟩=some (.int i64 py):=kh.cell 1
         have k2:w19.cell? ⟨hb,2,none⟩=some (.int i64 vx):=kh.cell 2
         have k3:w19.cell? ⟨hb,3,none⟩=some (.int i64 vy):=kh.cell 3
         have k4:w19.cell? ⟨hb,4,none⟩=some (.int i64 ang):=kh.cell 4
         have k5:w19.cell? ⟨hb,5,none⟩=some (.int i64 spin):=kh.cell 5
         have k6:w19.cell? ⟨hb,6,none⟩=some (.int i64 mass):=kh.cell 6
         have k7:w19.cell? ⟨hb,7,none⟩=some (.int i64 inr):=kh.cell 7
         have k8:w19.cell? ⟨hb,8,none⟩=some (.int i64 bou):=kh.cell 8
         have k9:w19.cell? ⟨hb,9,none⟩=some (.int i64 rub):=kh.cell 9
         have k10:w19.cell? ⟨hb,10,none⟩=some (.slice (some ⟨gc,0,none⟩) 4 cc):=kh.cell 10
         have k11:w19.cell? ⟨hb,11,none⟩=some (.bool asl):=kh.cell 11
         have k12:w19.cell? ⟨hb,12,none⟩=some (.int i64 calm):=kh.cell 12
         have q0:w19.cell? ⟨r0,0,none⟩=some (.int i64 0):=kz.cell 0
         have f0:w19.frozen? ⟨r0,0,none⟩=false:=kz.frozen 0
         have q1:w19.cell? ⟨r0,1,none⟩=some (.int i64 0):=kz.cell 1
         have f1:w19.frozen? ⟨r0,1,none⟩=false:=kz.frozen 1
         have q2:w19.cell? ⟨r0,2,none⟩=some (.int i64 0):=kz.cell 2
         have f2:w19.frozen? ⟨r0,2,none⟩=false:=kz.frozen 2
         have q3:w19.cell? ⟨r0,3,none⟩=some (.int i64 0):=kz.cell 3
         have f3:w19.frozen? ⟨r0,3,none⟩=false:=kz.frozen 3
         have q4:w19.cell? ⟨r0,4,none⟩=some (.int i64 0):=kz.cell 4
         have f4:w19.frozen? ⟨r0,4,none⟩=false:=kz.frozen 4
         have q5:w19.cell? ⟨r0,5,none⟩=some (.int i64 0):=kz.cell 5
         have f5:w19.frozen? ⟨r0,5,none⟩=false:=kz.frozen 5
         have q6:w19.cell? ⟨r0,6,none⟩=some (.int i64 0):=kz.cell 6
         have f6:w19.frozen? ⟨r0,6,none⟩=false:=kz.frozen 6
         have q7:w19.cell? ⟨r0,7,none⟩=some (.int i64 0):=kz.cell 7
         have f7:w19.frozen? ⟨r0,7,none⟩=false:=kz.frozen 7
         have q8:w19.cell? ⟨r0,8,none⟩=some (.int i64 0):=kz.cell 8
         have f8:w19.frozen? ⟨r0,8,none⟩=false:=kz.frozen 8
         have q9:w19.cell? ⟨r0,9,none⟩=some (.int i64 0):=kz.cell 9
         have f9:w19.frozen? ⟨r0,9,none⟩=false:=kz.frozen 9
         have q10:w19.cell? ⟨r0,10,none⟩=some (.slice none 0 0):=kz.cell 10
         have f10:w19.frozen? ⟨r0,10,none⟩=false:=kz.frozen 10
         have q11:w19.cell? ⟨r0,11,none⟩=some (.bool false):=kz.cell 11
         have f11:w19.frozen? ⟨r0,11,none⟩=false:=kz.frozen 11
         have q12:w19.cell? ⟨r0,12,none⟩=some (.int i64 0):=kz.cell 12
         have f12:w19.frozen? ⟨r0,12,none⟩=false:=kz.frozen 12
         clear kh kz
         have HF:Hid (Below W0.heap.size W0 w19/\Kx 0 [124] w9 w19):=hid ⟨HX.out.1,HX.out.2.1⟩
         go_wp2_with fail
         first
          | done
          | exact HF
          | exact hR _ _ _ _ _ _ _ _ _ _ _ _ _ _ _ _ _ _ _ _ _ _ _ _ _ _ _ _ _ _ _ _ _ _ _ _ _ _ _ _ _ _ _ _ _ _ _ _ _ _ _ _ _ _ _ _ _ _ _ _ _ _ _ _ _ _ _ _ _ _ _ _ _ _ _ _ _ _ _ _ _ _ _ _ _ HF
end Go.Proofs.Ytnidcmhfbkdioaa
