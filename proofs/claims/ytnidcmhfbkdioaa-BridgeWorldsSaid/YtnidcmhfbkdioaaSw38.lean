/-
  Writing one body back: its place, its motion. Conditions: what is read can be read; rows of components apart.
-/
import Derived.Test.YtnidcmhfbkdioaaSw37
import Derived.Test.YtnidcmhfbkdioaaSw12
namespace Go.Proofs.Ytnidcmhfbkdioaa
open Go.RowKit
open Go.IntKind (i64)
open Go.Lib (hid)
set_option maxRecDepth 100000
noncomputable def bw20:Code:=(Try.f66.body.bind (rgnN 20)).getD .skip
set_option maxHeartbeats 8000000 in
theorem bw20_any {x0 x1 x2 x3 x4 x5 x6 x7 x8 x9 Ab Ad Ae Ah Ai Aj Ak Al Am Ao Ap Aq Ar Au Av Aw Ax Ay Az A7 A9 Be Bl Bu Bv Bw B0 B1 B2 B3 B4 B5 B6 B7 B8 B9 Cg Ch Ci Cj Ck Cp Cq Cr Cs Cu Cw Cx Cy Cz C0 C1 C2 C3 C4 C5 C6 C7 C8 C9 Da Db Dc Dd De Dg Dh Di Dj Dk Dl Dm Dn Dp Dq Dr Ds Dt Du Dv Dw Dx Dy D0 D1 D3 D4 D5 D6 D7 D8 D9 Ee Ef Ei Ek El Em En Eo Es Et Eu Ev Ew Ex Ey Ez E0 E1 E2 E3 E4 E5 E6 E7 E8 E9 Fa Fb Ff Fg Fh Fi Fj Fk Fl Fm Fn Fp Fs Ft Fu Fv Fx Fy Fz F0 F1 F2 F3 F4 F5 F6 F7 F8 F9 Ga Gd Gi Gp Gr Gs Gt Gu Gv Gw Gx Gy Gz:Value} {Q:Exit->Act->World->Prop} {w0:World} {base mA oA ba k n g ib io im ic kn kc gn gc:Nat} {kA gA:Option Addr} {ks:List Kd} {d:ByteArray × List Fd} {gens:List Int} {its:List It} {x:It} {e q m p0 p1 p2:Int}
 (hO:OutS w0 base ⟨kA,kn,kc,ks,gA,gn,gc,gens,some ⟨ib,io,none⟩,im,ic,its⟩) (hx:its[k]?=some x) (hA:x.A=some ⟨g,0,none⟩) (hn:x.n=n) (_he:x.e=e) (_hq:x.g=q) (hn2:n<=1000) (hd:0<=m->∃ (K:Nat) (z:Kd),m=K/\ks[K]?=some z/\z.p=d) (hnn:∀ c∈x.cms,0<=c.k)
 (hS:w0.cell? ⟨oA,0,none⟩=some (.slice kA kn kc)/\w0.cell? ⟨oA,2,none⟩=some (.slice (some ⟨ib,io,none⟩) im ic)/\w0.cell? ⟨ib,io+k*3,none⟩=some (.int i64 e)/\w0.cell? ⟨ib,io+k*3+1,none⟩=some (.int i64 q)/\w0.cell? ⟨ib,io+k*3+2,none⟩=some (.slice (some ⟨g,0,none⟩) n n)/\w0.cell? ⟨mA,0,none⟩=some (.int i64 m)/\w0.cell? ⟨ba,0,none⟩=some (.int i64 p0)/\w0.cell? ⟨ba,1,none⟩=some (.int i64 p1)/\w0.cell? ⟨ba,4,none⟩=some (.int i64 p2))
 (hbase:base<=w0.heap.size)
 (hN:∀ (J5 J6 J7 J8 J9 Kk Kq Ks Kt Ku Kv Kw Ky K0 K1 K2 K3 K4 K5:Value) (l':List Cm) (w':World),Hid (OutS w' base ⟨kA,kn,kc,ks,gA,gn,gc,gens,some ⟨ib,io,none⟩,im,ic,its.set k { x with cms:=l' }⟩/\(its.set k { x with cms:=l' }).map It.p=(its.map It.p).set k (updI m (fitF d.1 d.2 [p0,p1,p2]).1 x.p)/\Kx 0 [166] w0 w'/\Below base w0 w')->Q .normal ⟨#[x0,x1,x2,x3,x4,x5,x6,x7,x8,x9,.pointer (some ⟨mA,0,none⟩),Ab,.pointer (some ⟨oA,0,none⟩),Ad,Ae,.int i64 (k:Int),.pointer (some ⟨ba,0,none⟩),Ah,Ai,Aj,Ak,Al,Am,Ao,Ap,Aq,Ar,Au,Av,Aw,Ax,Ay,Az,A7,A9,Be,Bl,Bu,Bv,Bw,B0,B1,B2,B3,B4,B5,B6,B7,B8,B9,Cg,Ch,Ci,Cj,Ck,Cp,Cq,Cr,Cs,Cu,Cw,Cx,Cy,Cz,C0,C1,C2,C3,C4,C5,C6,C7,C8,C9,Da,Db,Dc,Dd,De,Dg,Dh,Di,Dj,J5,J6,J7,J8,J9,Kk,Kq,Ks,Kt,Ku,Kv,Kw,Ky,K0,K1,K2,K3,K4,K5,D6,D7,D8,D9,Ee,Ef,Ei,Ek,El,Em,En,Eo,Es,Et,Eu,Ev,Ew,Ex,Ey,Ez,E0,E1,E2,E3,E4,E5,E6,E7,E8,E9,Fa,Fb,Ff,Fg,Fh,Fi,Fj,Fk,Fl,Fm,Fn,Fp,Fs,Ft,Fu,Fv,Fx,Fy,Fz,F0,F1,F2,F3,F4,F5,F6,F7,F8,F9,Ga,Gd,Gi,Gp,Gr,Gs,Gt,Gu,Gv,Gw,Gx,Gy,Gz],[]⟩ w') :
 Code.wp Try.prog bw20 Q ⟨#[x0,x1,x2,x3,x4,x5,x6,x7,x8,x9,.pointer (some ⟨mA,0,none⟩),Ab,.pointer (some ⟨oA,0,none⟩),Ad,Ae,.int i64 (k:Int),.pointer (some ⟨ba,0,none⟩),Ah,Ai,Aj,Ak,Al,Am,Ao,Ap,Aq,Ar,Au,Av,Aw,Ax,Ay,Az,A7,A9,Be,Bl,Bu,Bv,Bw,B0,B1,B2,B3,B4,B5,B6,B7,B8,B9,Cg,Ch,Ci,Cj,Ck,Cp,Cq,Cr,Cs,Cu,Cw,Cx,Cy,Cz,C0,C1,C2,C3,C4,C5,C6,C7,C8,C9,Da,Db,Dc,Dd,De,Dg,Dh,Di,Dj,Dk,Dl,Dm,Dn,Dp,Dq,Dr,Ds,Dt,Du,Dv,Dw,Dx,Dy,D0,D1,D3,D4,D5,D6,D7,D8,D9,Ee,Ef,Ei,Ek,El,Em,En,Eo,Es,Et,Eu,Ev,Ew,Ex,Ey,Ez,E0,E1,E2,E3,E4,E5,E6,E7,E8,E9,Fa,Fb,Ff,Fg,Fh,Fi,Fj,Fk,Fl,Fm,Fn,Fp,Fs,Ft,Fu,Fv,Fx,Fy,Fz,F0,F1,F2,F3,F4,F5,F6,F7,F8,F9,Ga,Gd,Gi,Gp,Gr,Gs,Gt,Gu,Gv,Gw,Gx,Gy,Gz],[]⟩ w0:=by
 conv=>arg 2;whnf
 have hkim:k<im:=by have h1:=(List.getElem?_eq_some_iff.1 hx).1;have h2:=hO.wd.its.len;dsimp only at h2;omega
 have hkz:(k:Int)<im:=by omega
 have hkz0:(0:Int)<=k:=by omega
 have hIC:im<=ic:=hO.wd.its.cap
 have hIC2:ic<=9223372036854775807:=hO.wd.its.cap2
 obtain ⟨u0,hu0⟩:∃ z,z=w0.drew:=⟨_,rfl⟩
 have hb0:Below w0.heap.size w0 u0:=by rw [hu0];exact (Below.refl _ _).drew
 obtain ⟨W,hW⟩:∃ z,z=(u0.alloc (.cells #[.int i64 p0,.int i64 p1,.int i64 p2] 3)):=⟨_,rfl⟩
 obtain ⟨va,hva⟩:∃ z,z=u0.heap.size:=⟨_,rfl⟩
 have hbW:Below w0.heap.size w0 W:=by rw [hW];exact hb0.alloc hb0.size _
 have HOW:Hid (OutS W base ⟨kA,kn,kc,ks,gA,gn,gc,gens,some ⟨ib,io,none⟩,im,ic,its⟩):=hid (hO.keep (F:=[]) (Kx.of_below hbW) (by simp) (by simp) (by simp) (by simp) (by simp))
 have HBW:Hid (Kx 0 [166] w0 W/\Below base w0 W):=hid ⟨Kx.of_below hbW,hbW.mono hbase⟩
 have HXX:Hid (its[k]?=some x/\x.A=some ⟨g,0,none⟩):=hid ⟨hx,hA⟩
 have HSET:Hid (Calls Try.prog 153 #[.slice kA kn kc,.agg #[.int i64 e,.int i64 q,.slice (some ⟨g,0,none⟩) n n],.int i64 m,.slice (some ⟨va,0,none⟩) 3 3] W fun en w'=>en=.returned (.tuple #[])/\∃ l',Hid (SeI w' g m (fitF d.1 d.2 [p0,p1,p2]).1 x.cms l' x.cms.length/\Fq [g] W w')):=hid (by
  have hmem:=List.mem_of_getElem? hx
  obtain ⟨g0,f1,f2,f3,f4⟩:=HOW.out.sp.row x hmem
  obtain rfl:g0=g:=by rw [hA] at f1;injection f1 with f1;injection f1 with f1;exact f1.symm
  have hcs:=(HOW.out.wd.its.ok x hmem).cs
  have hbk:Bk W va 3 #[.int i64 p0,.int i64 p1,.int i64 p2]:=by rw [hW,hva];exact Bk.new _ _ _
  exact set_any (vs:=[p0,p1,p2]) HOW.out.wd.ks (by rw [<- hn];exact hcs.len) hn2 f4 hcs.ok (RdY.of_bk hbk rfl fun j u hu=>by simpa using hu) rfl (Nat.le_refl _) (by decide) fun c hc hk=>(by
   obtain ⟨K,z,e1,e2,e3⟩:=hd (by rw [<- hk];exact hnn c hc)
   exact ⟨K,z,e1,e2,by rw [<- e3];rfl⟩))
 have HSS:Hid (u0.cell? ⟨oA,0,none⟩=some (.slice kA kn kc)/\u0.cell? ⟨oA,2,none⟩=some (.slice (some ⟨ib,io,none⟩) im ic)/\u0.cell? ⟨ib,io+k*3,none⟩=some (.int i64 e)/\u0.cell? ⟨ib,io+k*3+1,none⟩=some (.int i64 q)/\u0.cell? ⟨ib,io+k*3+2,none⟩=some (.slice (some ⟨g,0,none⟩) n n)/\u0.cell? ⟨mA,0,none⟩=some (.int i64 m)/\u0.cell? ⟨ba,0,none⟩=some (.int i64 p0)/\u0.cell? ⟨ba,1,none⟩=some (.int i64 p1)/\u0.cell? ⟨ba,4,none⟩=some (.int i64 p2)):=hid (by rw [hu0];exact hS)
 have HSW:Hid (W.cell? ⟨oA,0,none⟩=some (.slice kA kn kc)/\W.cell? ⟨oA,2,none⟩=some (.slice (some ⟨ib,io,none⟩) im ic)/\W.cell? ⟨ib,io+k*3,none⟩=some (.int i64 e)/\W.cell? ⟨ib,io+k*3+1,none⟩=some (.int i64 q)/\W.cell? ⟨ib,io+k*3+2,none⟩=some (.slice (some ⟨g,0,none⟩) n n)/\W.cell? ⟨mA,0,none⟩=some (.int i64 m)/\W.cell? ⟨ba,0,none⟩=some (.int i64 p0)/\W.cell? ⟨ba,1,none⟩=some (.int i64 p1)/\W.cell? ⟨ba,4,none⟩=some (.int i64 p2)):=hid (by
  have hw:∀ p u,u0.cell? p=some u->W.cell? p=some u:=fun p u h=>by rw [hW];exact (((Below.refl u0.heap.size u0).alloc (Nat.le_refl _) _).cell (World.block_lt_of_cell? _ _ h)).trans h
  obtain ⟨h0,h1,h2,h3,h4,h5,h6,h7,h8⟩:=HSS.out
  exact ⟨hw _ _ h0,hw _ _ h1,hw _ _ h2,hw _ _ h3,hw _ _ h4,hw _ _ h5,hw _ _ h6,hw _ _ h7,hw _ _ h8⟩)
 clear hO hx hA hn _he _hq hd hnn hS hb0 hbW hbase
 refine wp_region_noPanic ?_
 refine wp_region_L (S:=fun wz=>wz.cell? ⟨oA,0,none⟩=some (.slice kA kn kc)/\wz.cell? ⟨oA,2,none⟩=some (.slice (some ⟨ib,io,none⟩) im ic)/\wz.cell? ⟨ib,io+k*3,none⟩=some (.int i64 e)/\wz.cell? ⟨ib,io+k*3+1,none⟩=some (.int i64 q)/\wz.cell? ⟨ib,io+k*3+2,none⟩=some (.slice (some ⟨g,0,none⟩) n n)/\wz.cell? ⟨mA,0,none⟩=some (.int i64 m)/\wz.cell? ⟨ba,0,none⟩=some (.int i64 p0)/\wz.cell? ⟨ba,1,none⟩=some (.int i64 p1)/\wz.cell? ⟨ba,4,none⟩=some (.int i64 p2)) (late:=[18]) (by kernel_rfl) ?_
 rw [<- hu0]
 clear hu0
 refine wpL 0 (.pointer (some ⟨oA,0,none⟩)) 83 HSS.out ?_
 (try simp only [sP])
 refine wpL 1 (.slice kA kn kc) 84 HSS.out ?_
 (try simp only [sP])
 refine wpL 2 (.pointer (some ⟨oA,2,none⟩)) 85 HSS.out ?_
 (try simp only [sP])
 refine wpL 3 (.slice (some ⟨ib,io,none⟩) im ic) 86 HSS.out ?_
 (try simp only [sP])
 refine wpL 4 (.int i64 (k:Int)) 87 HSS.out ?_
 (try simp only [sP])
 refine wpL 5 (.pointer (some ⟨ib,io+k*3,none⟩)) 88 HSS.out ?_
 (try simp only [sP])
 refine wpL 6 (.agg #[.int i64 e,.int i64 q,.slice (some ⟨g,0,none⟩) n n]) 89 HSS.out ?_
 (try simp only [sP])
 refine wpL 7 (.pointer (some ⟨mA,0,none⟩)) 90 HSS.out ?_
 (try simp only [sP])
 refine wpL 8 (.int i64 m) 91 HSS.out ?_
 (try simp only [sP])
 refine wpL 9 (.pointer (some ⟨ba,0,none⟩)) 92 HSS.out ?_
 (try simp only [sP])
 refine wpL 10 (.pointer (some ⟨ba,0,none⟩)) 93 HSS.out ?_
 (try simp only [sP])
 refine wpL 11 (.int i64 p0) 94 HSS.out ?_
 (try simp only [sP])
 refine wpL 12 (.pointer (some ⟨ba,0,none⟩)) 95 HSS.out ?_
 (try simp only [sP])
 refine wpL 13 (.pointer (some ⟨ba,1,none⟩)) 96 HSS.out ?_
 (try simp only [sP])
 refine wpL 14 (.int i64 p1) 97 HSS.out ?_
 (try simp only [sP])
 refine wpL 15 (.pointer (some ⟨ba,4,none⟩)) 98 HSS.out ?_
 (try simp only [sP])
 refine wpL 16 (.int i64 p2) 99 HSS.out ?_
 (try simp only [sP])
 refine wpAnyL_one (i:=17) rfl (by kernel_rfl) (by rfl) ?_
 go_simp
 rw [<- hW,<- hva]
 clear hW hva
 refine And.intro HSW.out ?_
 (try simp only [sP])
 refine wpAnyL_late (i:=18) rfl (by kernel_rfl) (by rfl) (by kernel_rfl) ?_
 go_simp
 go_at_call 153
 (with_reducible refine HSET.out.mono ?_)
 rintro e' w' ⟨rfl,l',HL⟩
 have HFIN:Hid (OutS w' base ⟨kA,kn,kc,ks,gA,gn,gc,gens,some ⟨ib,io,none⟩,im,ic,its.set k { x with cms:=l' }⟩/\(its.set k { x with cms:=l' }).map It.p=(its.map It.p).set k (updI m (fitF d.1 d.2 [p0,p1,p2]).1 x.p)/\Kx 0 [166] w0 w'/\Below base w0 w'):=hid (by
  obtain ⟨h1,h2,h3,h4⟩:=HOW.out.set_ HXX.out.1 HXX.out.2 HL.out.1 HL.out.2
  exact ⟨h1,h2,HBW.out.1.trans h3,HBW.out.2.trans (h4.mono (Nat.le_refl _))⟩)
 clear HL HOW HBW HXX HSET HSS HSW
 (try simp only)
 refine wpAnyL_done (by kernel_rfl) ?_ _
 (try refine NoPanic.normal ?_)
 first
  | exact HFIN
  | (apply hN;exact HFIN)
noncomputable def bw21:Code:=(Try.f66.body.bind (rgnN 21)).getD .skip
set_option maxHeartbeats 8000000 in
theorem bw21_any {x0 x1 x2 x3 x4 x5 x6 x7 x8 x9 Ab Ad Ae Ai Aj Ak Al Am Ao Ap Aq Ar Au Av Aw Ax Ay Az A7 A9 Be Bl Bu Bv Bw B0 B1 B2 B3 B4 B5 B6 B7 B8 B9 Cg Ch Ci Cj Ck Cp Cq Cr Cs Cu Cw Cx Cy Cz C0 C1 C2 C3 C4 C5 C6 C7 C8 C9 Da Db Dc Dd De Dg Dh Di Dj Dk Dl Dm Dn Dp Dq Dr Ds Dt Du Dv Dw Dx Dy D0 D1 D3 D4 D5 D6 D7 D8 D9 Ee Ef Ei Ek El Em En Eo Es Et Eu Ev Ew Ex Ey Ez E0 E1 E2 E3 E4 E5 E6 E7 E8 E9 Fa Fb Ff Fg Fh Fi Fj Fk Fl Fm Fn Fp Fs Ft Fu Fv Fx Fy Fz F0 F1 F2 F3 F4 F5 F6 F7 F8 F9 Ga Gd Gi Gp Gr Gs Gt Gu Gv Gw Gx Gy Gz:Value} {Q:Exit->Act->World->Prop} {w0:World} {base mA oA ba k n g ib io im ic kn kc gn gc:Nat} {kA gA:Option Addr} {ks:List Kd} {d:ByteArray × List Fd} {gens:List Int} {its:List It} {x:It} {e q m p0 p1 p2 p3:Int}
 (hO:OutS w0 base ⟨kA,kn,kc,ks,gA,gn,gc,gens,some ⟨ib,io,none⟩,im,ic,its⟩) (hx:its[k]?=some x) (hA:x.A=some ⟨g,0,none⟩) (hn:x.n=n) (_he:x.e=e) (_hq:x.g=q) (hn2:n<=1000) (hd:0<=m->∃ (K:Nat) (z:Kd),m=K/\ks[K]?=some z/\z.p=d) (hnn:∀ c∈x.cms,0<=c.k)
 (hS:w0.cell? ⟨oA,0,none⟩=some (.slice kA kn kc)/\w0.cell? ⟨oA,2,none⟩=some (.slice (some ⟨ib,io,none⟩) im ic)/\w0.cell? ⟨ib,io+k*3,none⟩=some (.int i64 e)/\w0.cell? ⟨ib,io+k*3+1,none⟩=some (.int i64 q)/\w0.cell? ⟨ib,io+k*3+2,none⟩=some (.slice (some ⟨g,0,none⟩) n n)/\w0.cell? ⟨mA,1,none⟩=some (.int i64 m)/\w0.cell? ⟨ba,2,none⟩=some (.int i64 p0)/\w0.cell? ⟨ba,3,none⟩=some (.int i64 p1)/\w0.cell? ⟨ba,5,none⟩=some (.int i64 p2))
 (hbase:base<=w0.heap.size)
 (hN:∀ (K6 K7 K8 K9 La Lb Lc Ld Le Lf Lg Lh Li Lj Lk Ll Lm Ln Lo Lp:Value) (l':List Cm) (w':World),Hid (OutS w' base ⟨kA,kn,kc,ks,gA,gn,gc,gens,some ⟨ib,io,none⟩,im,ic,its.set k { x with cms:=l' }⟩/\(its.set k { x with cms:=l' }).map It.p=(its.map It.p).set k (updI m (fitF d.1 d.2 [p0,p1,p2,p3]).1 x.p)/\Kx 0 [166] w0 w'/\Below base w0 w')->Q .normal ⟨#[x0,x1,x2,x3,x4,x5,x6,x7,x8,x9,.pointer (some ⟨mA,0,none⟩),Ab,.pointer (some ⟨oA,0,none⟩),Ad,Ae,.int i64 (k:Int),.pointer (some ⟨ba,0,none⟩),.int i64 p3,Ai,Aj,Ak,Al,Am,Ao,Ap,Aq,Ar,Au,Av,Aw,Ax,Ay,Az,A7,A9,Be,Bl,Bu,Bv,Bw,B0,B1,B2,B3,B4,B5,B6,B7,B8,B9,Cg,Ch,Ci,Cj,Ck,Cp,Cq,Cr,Cs,Cu,Cw,Cx,Cy,Cz,C0,C1,C2,C3,C4,C5,C6,C7,C8,C9,Da,Db,Dc,Dd,De,Dg,Dh,Di,Dj,Dk,Dl,Dm,Dn,Dp,Dq,Dr,Ds,Dt,Du,Dv,Dw,Dx,Dy,D0,D1,D3,D4,D5,K6,K7,K8,K9,La,Lb,Lc,Ld,Le,Lf,Lg,Lh,Li,Lj,Lk,Ll,Lm,Ln,Lo,Lp,E0,E1,E2,E3,E4,E5,E6,E7,E8,E9,Fa,Fb,Ff,Fg,Fh,Fi,Fj,Fk,Fl,Fm,Fn,Fp,Fs,Ft,Fu,Fv,Fx,Fy,Fz,F0,F1,F2,F3,F4,F5,F6,F7,F8,F9,Ga,Gd,Gi,Gp,Gr,Gs,Gt,Gu,Gv,Gw,Gx,Gy,Gz],[]⟩ w') :
 Code.wp Try.prog bw21 Q ⟨#[x0,x1,x2,x3,x4,x5,x6,x7,x8,x9,.pointer (some ⟨mA,0,none⟩),Ab,.pointer (some ⟨oA,0,none⟩),Ad,Ae,.int i64 (k:Int),.pointer (some ⟨ba,0,none⟩),.int i64 p3,Ai,Aj,Ak,Al,Am,Ao,Ap,Aq,Ar,Au,Av,Aw,Ax,Ay,Az,A7,A9,Be,Bl,Bu,Bv,Bw,B0,B1,B2,B3,B4,B5,B6,B7,B8,B9,Cg,Ch,Ci,Cj,Ck,Cp,Cq,Cr,Cs,Cu,Cw,Cx,Cy,Cz,C0,C1,C2,C3,C4,C5,C6,C7,C8,C9,Da,Db,Dc,Dd,De,Dg,Dh,Di,Dj,Dk,Dl,Dm,Dn,Dp,Dq,Dr,Ds,Dt,Du,Dv,Dw,Dx,Dy,D0,D1,D3,D4,D5,D6,D7,D8,D9,Ee,Ef,Ei,Ek,El,Em,En,Eo,Es,Et,Eu,Ev,Ew,Ex,Ey,Ez,E0,E1,E2,E3,E4,E5,E6,E7,E8,E9,Fa,Fb,Ff,Fg,Fh,Fi,Fj,Fk,Fl,Fm,Fn,Fp,Fs,Ft,Fu,Fv,Fx,Fy,Fz,F0,F1,F2,F3,F4,F5,F6,F7,F8,F9,Ga,Gd,Gi,Gp,Gr,Gs,Gt,Gu,Gv,Gw,Gx,Gy,Gz],[]⟩ w0:=by
 conv=>arg 2;whnf
 have hkim:k<im:=by have h1:=(List.getElem?_eq_some_iff.1 hx).1;have h2:=hO.wd.its.len;dsimp only at h2;omega
 have hkz:(k:Int)<im:=by omega
 have hkz0:(0:Int)<=k:=by omega
 have hIC:im<=ic:=hO.wd.its.cap
 have hIC2:ic<=9223372036854775807:=hO.wd.its.cap2
 obtain ⟨u0,hu0⟩:∃ z,z=w0.drew:=⟨_,rfl⟩
 have hb0:Below w0.heap.size w0 u0:=by rw [hu0];exact (Below.refl _ _).drew
 obtain ⟨W,hW⟩:∃ z,z=(u0.alloc (.cells #[.int i64 p0,.int i64 p1,.int i64 p2,.int i64 p3] 3)):=⟨_,rfl⟩
 obtain ⟨va,hva⟩:∃ z,z=u0.heap.size:=⟨_,rfl⟩
 have hbW:Below w0.heap.size w0 W:=by rw [hW];exact hb0.alloc hb0.size _
 have HOW:Hid (OutS W base ⟨kA,kn,kc,ks,gA,gn,gc,gens,some ⟨ib,io,none⟩,im,ic,its⟩):=hid (hO.keep (F:=[]) (Kx.of_below hbW) (by simp) (by simp) (by simp) (by simp) (by simp))
 have HBW:Hid (Kx 0 [166] w0 W/\Below base w0 W):=hid ⟨Kx.of_below hbW,hbW.mono hbase⟩
 have HXX:Hid (its[k]?=some x/\x.A=some ⟨g,0,none⟩):=hid ⟨hx,hA⟩
 have HSET:Hid (Calls Try.prog 153 #[.slice kA kn kc,.agg #[.int i64 e,.int i64 q,.slice (some ⟨g,0,none⟩) n n],.int i64 m,.slice (some ⟨va,0,none⟩) 4 4] W fun en w'=>en=.returned (.tuple #[])/\∃ l',Hid (SeI w' g m (fitF d.1 d.2 [p0,p1,p2,p3]).1 x.cms l' x.cms.length/\Fq [g] W w')):=hid (by
  have hmem:=List.mem_of_getElem? hx
  obtain ⟨g0,f1,f2,f3,f4⟩:=HOW.out.sp.row x hmem
  obtain rfl:g0=g:=by rw [hA] at f1;injection f1 with f1;injection f1 with f1;exact f1.symm
  have hcs:=(HOW.out.wd.its.ok x hmem).cs
  have hbk:Bk W va 3 #[.int i64 p0,.int i64 p1,.int i64 p2,.int i64 p3]:=by rw [hW,hva];exact Bk.new _ _ _
  exact set_any (vs:=[p0,p1,p2,p3]) HOW.out.wd.ks (by rw [<- hn];exact hcs.len) hn2 f4 hcs.ok (RdY.of_bk hbk rfl fun j u hu=>by simpa using hu) rfl (Nat.le_refl _) (by decide) fun c hc hk=>(by
   obtain ⟨K,z,e1,e2,e3⟩:=hd (by rw [<- hk];exact hnn c hc)
   exact ⟨K,z,e1,e2,by rw [<- e3];rfl⟩))
 have HSS:Hid (u0.cell? ⟨oA,0,none⟩=some (.slice kA kn kc)/\u0.cell? ⟨oA,2,none⟩=some (.slice (some ⟨ib,io,none⟩) im ic)/\u0.cell? ⟨ib,io+k*3,none⟩=some (.int i64 e)/\u0.cell? ⟨ib,io+k*3+1,none⟩=some (.int i64 q)/\u0.cell? ⟨ib,io+k*3+2,none⟩=some (.slice (some ⟨g,0,none⟩) n n)/\u0.cell? ⟨mA,1,none⟩=some (.int i64 m)/\u0.cell? ⟨ba,2,none⟩=some (.int i64 p0)/\u0.cell? ⟨ba,3,none⟩=some (.int i64 p1)/\u0.cell? ⟨ba,5,none⟩=some (.int i64 p2)):=hid (by rw [hu0];exact hS)
 have HSW:Hid (W.cell? ⟨oA,0,none⟩=some (.slice kA kn kc)/\W.cell? ⟨oA,2,none⟩=some (.slice (some ⟨ib,io,none⟩) im ic)/\W.cell? ⟨ib,io+k*3,none⟩=some (.int i64 e)/\W.cell? ⟨ib,io+k*3+1,none⟩=some (.int i64 q)/\W.cell? ⟨ib,io+k*3+2,none⟩=some (.slice (some ⟨g,0,none⟩) n n)/\W.cell? ⟨mA,1,none⟩=some (.int i64 m)/\W.cell? ⟨ba,2,none⟩=some (.int i64 p0)/\W.cell? ⟨ba,3,none⟩=some (.int i64 p1)/\W.cell? ⟨ba,5,none⟩=some (.int i64 p2)):=hid (by
  have hw:∀ p u,u0.cell? p=some u->W.cell? p=some u:=fun p u h=>by rw [hW];exact (((Below.refl u0.heap.size u0).alloc (Nat.le_refl _) _).cell (World.block_lt_of_cell? _ _ h)).trans h
  obtain ⟨h0,h1,h2,h3,h4,h5,h6,h7,h8⟩:=HSS.out
  exact ⟨hw _ _ h0,hw _ _ h1,hw _ _ h2,hw _ _ h3,hw _ _ h4,hw _ _ h5,hw _ _ h6,hw _ _ h7,hw _ _ h8⟩)
 clear hO hx hA hn _he _hq hd hnn hS hb0 hbW hbase
 refine wp_region_noPanic ?_
 refine wp_region_L (S:=fun wz=>wz.cell? ⟨oA,0,none⟩=some (.slice kA kn kc)/\wz.cell? ⟨oA,2,none⟩=some (.slice (some ⟨ib,io,none⟩) im ic)/\wz.cell? ⟨ib,io+k*3,none⟩=some (.int i64 e)/\wz.cell? ⟨ib,io+k*3+1,none⟩=some (.int i64 q)/\wz.cell? ⟨ib,io+k*3+2,none⟩=some (.slice (some ⟨g,0,none⟩) n n)/\wz.cell? ⟨mA,1,none⟩=some (.int i64 m)/\wz.cell? ⟨ba,2,none⟩=some (.int i64 p0)/\wz.cell? ⟨ba,3,none⟩=some (.int i64 p1)/\wz.cell? ⟨ba,5,none⟩=some (.int i64 p2)) (late:=[19]) (by kernel_rfl) ?_
 rw [<- hu0]
 clear hu0
 refine wpL 0 (.pointer (some ⟨oA,0,none⟩)) 102 HSS.out ?_
 (try simp only [sP])
 refine wpL 1 (.slice kA kn kc) 103 HSS.out ?_
 (try simp only [sP])
 refine wpL 2 (.pointer (some ⟨oA,2,none⟩)) 104 HSS.out ?_
 (try simp only [sP])
 refine wpL 3 (.slice (some ⟨ib,io,none⟩) im ic) 105 HSS.out ?_
 (try simp only [sP])
 refine wpL 4 (.int i64 (k:Int)) 106 HSS.out ?_
 (try simp only [sP])
 refine wpL 5 (.pointer (some ⟨ib,io+k*3,none⟩)) 107 HSS.out ?_
 (try simp only [sP])
 refine wpL 6 (.agg #[.int i64 e,.int i64 q,.slice (some ⟨g,0,none⟩) n n]) 108 HSS.out ?_
 (try simp only [sP])
 refine wpL 7 (.pointer (some ⟨mA,1,none⟩)) 109 HSS.out ?_
 (try simp only [sP])
 refine wpL 8 (.int i64 m) 110 HSS.out ?_
 (try simp only [sP])
 refine wpL 9 (.pointer (some ⟨ba,2,none⟩)) 111 HSS.out ?_
 (try simp only [sP])
 refine wpL 10 (.pointer (some ⟨ba,2,none⟩)) 112 HSS.out ?_
 (try simp only [sP])
 refine wpL 11 (.int i64 p0) 113 HSS.out ?_
 (try simp only [sP])
 refine wpL 12 (.pointer (some ⟨ba,2,none⟩)) 114 HSS.out ?_
 (try simp only [sP])
 refine wpL 13 (.pointer (some ⟨ba,3,none⟩)) 115 HSS.out ?_
 (try simp only [sP])
 refine wpL 14 (.int i64 p1) 116 HSS.out ?_
 (try simp only [sP])
 refine wpL 15 (.pointer (some ⟨ba,5,none⟩)) 117 HSS.out ?_
 (try simp only [sP])
 refine wpL 16 (.int i64 p2) 118 HSS.out ?_
 (try simp only [sP])
 refine wpL 17 (.int i64 p3) 119 HSS.out ?_
 (try simp only [sP])
 refine wpAnyL_one (i:=18) rfl (by kernel_rfl) (by rfl) ?_
 go_simp
 rw [<- hW,<- hva]
 clear hW hva
 refine And.intro HSW.out ?_
 (try simp only [sP])
 refine wpAnyL_late (i:=19) rfl (by kernel_rfl) (by rfl) (by kernel_rfl) ?_
 go_simp
 go_at_call 153
 (with_reducible refine HSET.out.mono ?_)
 rintro e' w' ⟨rfl,l',HL⟩
 have HFIN:Hid (OutS w' base ⟨kA,kn,kc,ks,gA,gn,gc,gens,some ⟨ib,io,none⟩,im,ic,its.set k { x with cms:=l' }⟩/\(its.set k { x with cms:=l' }).map It.p=(its.map It.p).set k (updI m (fitF d.1 d.2 [p0,p1,p2,p3]).1 x.p)/\Kx 0 [166] w0 w'/\Below base w0 w'):=hid (by
  obtain ⟨h1,h2,h3,h4⟩:=HOW.out.set_ HXX.out.1 HXX.out.2 HL.out.1 HL.out.2
  exact ⟨h1,h2,HBW.out.1.trans h3,HBW.out.2.trans (h4.mono (Nat.le_refl _))⟩)
 clear HL HOW HBW HXX HSET HSS HSW
 (try simp only)
 refine wpAnyL_done (by kernel_rfl) ?_ _
 (try refine NoPanic.normal ?_)
 first
  | exact HFIN
  | (apply hN;exact HFIN)
end Go.Proofs.Ytnidcmhfbkdioaa
