/-
  The drawn region of tourref4.SceneOf: one body more, and its entity. Conditions: none of the code.
-/
import Derived.Test.YtnidcmhfbkdioaaSw37
import Derived.Test.YtnidcmhfbkdioaaSw11
namespace Go.Proofs.Ytnidcmhfbkdioaa
open Go.RowKit
open Go.IntKind (i64)
open Go.Lib (hid)
set_option maxRecDepth 100000
noncomputable def soR9:Code:=(Try.f57.body.bind (rgnN 9)).getD .skip
theorem so9_fin {w0 w:World} {base sA eA n c ec gB cB gE cE g0 cc:Nat} {A E:Option Addr} {e g:Int} {q:List (Bo × (Int × Int))} {l:List Bm} {b:Bo}
 (h0:Bk w eA 116 #[.slice E n ec]) (h1:Bk w sA 115 #[.slice A n c,.slice none 0 0,.slice none 0 0,.int i64 0,.int i64 0,.int i64 0]) (h2:w.ownsRow base 124 13 (.slice (some ⟨gB,0,none⟩) (n+1) cB) (n+1) (bmCs l++#[.int i64 b.px,.int i64 b.py,.int i64 b.vx,.int i64 b.vy,.int i64 b.ang,.int i64 b.spin,.int i64 b.mass,.int i64 b.inr,.int i64 b.bou,.int i64 b.rub,.slice (some ⟨g0,0,none⟩) 4 cc,.bool b.asl,.int i64 b.calm].toList)) (h3:w.ownsRow base 128 2 (.slice (some ⟨gE,0,none⟩) (n+1) cE) (n+1) (enCs (q.map Prod.snd)++#[.int i64 e,.int i64 g].toList)) (h4:Kz [124,128] w0 w) (h5:Below base w0 w) (hL:ScL w0 base l q b e g g0 cc n) (hlo:base<=sA) (heo:base<=eA) :
 ScI ((w.setCell ⟨sA,0,none⟩ (.slice (some ⟨gB,0,none⟩) (n+1) cB)).setCell ⟨eA,0,none⟩ (.slice (some ⟨gE,0,none⟩) (n+1) cE)) base sA (some ⟨gB,0,none⟩) (n+1) cB (some ⟨gE,0,none⟩) cE 0 0 0 (q++[(b,(e,g))])/\Bk ((w.setCell ⟨sA,0,none⟩ (.slice (some ⟨gB,0,none⟩) (n+1) cB)).setCell ⟨eA,0,none⟩ (.slice (some ⟨gE,0,none⟩) (n+1) cE)) eA 116 #[.slice (some ⟨gE,0,none⟩) (n+1) cE]/\Kz [124,128,115,116] w0 ((w.setCell ⟨sA,0,none⟩ (.slice (some ⟨gB,0,none⟩) (n+1) cB)).setCell ⟨eA,0,none⟩ (.slice (some ⟨gE,0,none⟩) (n+1) cE))/\Below base w0 ((w.setCell ⟨sA,0,none⟩ (.slice (some ⟨gB,0,none⟩) (n+1) cB)).setCell ⟨eA,0,none⟩ (.slice (some ⟨gE,0,none⟩) (n+1) cE))/\∀ g cs,g≠sA->Bk w0 g 115 cs->Bk ((w.setCell ⟨sA,0,none⟩ (.slice (some ⟨gB,0,none⟩) (n+1) cB)).setCell ⟨eA,0,none⟩ (.slice (some ⟨gE,0,none⟩) (n+1) cE)) g 115 cs:=by
 obtain ⟨p1,p2,p3,p4⟩:=sc18_fin (gE:=gE) (cE:=cE) h1 h2 h3 h4 h5 hL hlo
 have hx:=h0.far (p:=⟨sA,0,none⟩) (h0.ne_ h1 (by decide)) (.slice (some ⟨gB,0,none⟩) (n+1) cB)
 have hz:Kz [116] (w.setCell ⟨sA,0,none⟩ (.slice (some ⟨gB,0,none⟩) (n+1) cB)) ((w.setCell ⟨sA,0,none⟩ (.slice (some ⟨gB,0,none⟩) (n+1) cB)).setCell ⟨eA,0,none⟩ (.slice (some ⟨gE,0,none⟩) (n+1) cE)):=Kz.refl.set hx (by simp) 0 _
 exact ⟨p1.keep hz.kx (by decide) (by decide) (by decide) (by decide),by simpa using hx.set_ 0 (.slice (some ⟨gE,0,none⟩) (n+1) cE),(p2.mono (by simp)).trans (hz.mono (by simp)),p3.setCell (p:=⟨eA,0,none⟩) heo _,fun g cs hg hb=>hz.kx.bk (p4 g cs hg hb) (by decide)⟩
set_option maxHeartbeats 8000000 in
theorem so9_any {x0 x1 x2 x3 x4 x5 x6 x7 Aa Ad Ae Af Ag Ah Ai Aj Ak Al Am Ao Ap Aq Ar Au Av Aw Ax Ay Az A7 A9 Be Bl Bu Bv Bw B0 B1 B2 B3 B4 B5 B6 B7 B8 B9 Cg Ch Ci Cj Ck Cp Cq Cr Cs Cu Cw Cx Cy Cz C0 C1 C2 C3 C4 C5 C6 C7 C8 C9 Da Db Dc Dd De Dg Dh Di Dj Dk Dl:Value} {Q:Exit->Act->World->Prop} {w0:World} {base sA eA n c ec ia ba ic iN g0 cc:Nat} {A E iA:Option Addr} {e g:Int} {q:List (Bo × (Int × Int))} {b:Bo}
 (hS:ScI w0 base sA A n c E ec 0 0 0 q) (he:Bk w0 eA 116 #[.slice E n ec]) (heo:base<=eA) (hi:Bk w0 ia 147 #[.int i64 e,.int i64 g,.slice iA iN ic]) (hb:Bk w0 ba 124 #[.int i64 b.px,.int i64 b.py,.int i64 b.vx,.int i64 b.vy,.int i64 b.ang,.int i64 b.spin,.int i64 b.mass,.int i64 b.inr,.int i64 b.bou,.int i64 b.rub,.slice (some ⟨g0,0,none⟩) 4 cc,.bool b.asl,.int i64 b.calm]) (hY:BmY w0 base ⟨b,g0,cc⟩) (hq:q.length<=256) (hbase:base<=w0.heap.size) (hne:(Value.slice A n c).ownBlock≠some ba)
 (hN:∀ (Ir Iu Iw Ix Iy Iz I2 I3 I4 I5 I6:Value) (gB cB gE cE:Nat) (w':World),Hid (ScI w' base sA (some ⟨gB,0,none⟩) (n+1) cB (some ⟨gE,0,none⟩) cE 0 0 0 (q++[(b,(e,g))])/\Bk w' eA 116 #[.slice (some ⟨gE,0,none⟩) (n+1) cE]/\Kz [124,128,115,116] w0 w'/\Below base w0 w'/\∀ g cs,g≠sA->Bk w0 g 115 cs->Bk w' g 115 cs)->Q .normal ⟨#[x0,x1,x2,x3,x4,x5,x6,x7,.pointer (some ⟨sA,0,none⟩),.pointer (some ⟨eA,0,none⟩),Aa,.pointer (some ⟨ia,0,none⟩),.pointer (some ⟨ba,0,none⟩),Ad,Ae,Af,Ag,Ah,Ai,Aj,Ak,Al,Am,Ao,Ap,Aq,Ar,Au,Av,Aw,Ax,Ay,Az,A7,A9,Be,Bl,Bu,Bv,Ir,Iu,Iw,Ix,Iy,Iz,I2,I3,I4,I5,I6,Cg,Ch,Ci,Cj,Ck,Cp,Cq,Cr,Cs,Cu,Cw,Cx,Cy,Cz,C0,C1,C2,C3,C4,C5,C6,C7,C8,C9,Da,Db,Dc,Dd,De,Dg,Dh,Di,Dj,Dk,Dl],[]⟩ w') :
 Code.wp Try.prog soR9 Q ⟨#[x0,x1,x2,x3,x4,x5,x6,x7,.pointer (some ⟨sA,0,none⟩),.pointer (some ⟨eA,0,none⟩),Aa,.pointer (some ⟨ia,0,none⟩),.pointer (some ⟨ba,0,none⟩),Ad,Ae,Af,Ag,Ah,Ai,Aj,Ak,Al,Am,Ao,Ap,Aq,Ar,Au,Av,Aw,Ax,Ay,Az,A7,A9,Be,Bl,Bu,Bv,Bw,B0,B1,B2,B3,B4,B5,B6,B7,B8,B9,Cg,Ch,Ci,Cj,Ck,Cp,Cq,Cr,Cs,Cu,Cw,Cx,Cy,Cz,C0,C1,C2,C3,C4,C5,C6,C7,C8,C9,Da,Db,Dc,Dd,De,Dg,Dh,Di,Dj,Dk,Dl],[]⟩ w0:=by
 conv=>arg 2;whnf
 obtain ⟨iB,hiB,hB0,hB1,hB2⟩:=info_parts T.info124
 obtain ⟨iE,hiE,hE0,hE1,hE2⟩:=info_parts T.info128
 obtain ⟨l,hl,hlq⟩:=hS.bm
 have HL:Hid (ScL w0 base l q b e g g0 cc n):=hid ⟨hl.len,hl.ok,hlq,hS.len,hY⟩
 have hn256:n<=256:=by rw [hS.len];exact hq
 have HLO:Hid (base<=sA):=hid hS.lo
 have HEO:=hid heo
 obtain ⟨u0,hu0⟩:∃ z,z=w0.drew:=⟨_,rfl⟩
 have HRu0:Hid (Bk u0 eA 116 #[.slice E n ec]/\Bk u0 sA 115 #[.slice A n c,.slice none 0 0,.slice none 0 0,.int i64 0,.int i64 0,.int i64 0]/\Bk u0 ba 124 #[.int i64 b.px,.int i64 b.py,.int i64 b.vx,.int i64 b.vy,.int i64 b.ang,.int i64 b.spin,.int i64 b.mass,.int i64 b.inr,.int i64 b.bou,.int i64 b.rub,.slice (some ⟨g0,0,none⟩) 4 cc,.bool b.asl,.int i64 b.calm]/\Bk u0 ia 147 #[.int i64 e,.int i64 g,.slice iA iN ic]/\Kz [124,128] w0 u0/\Below base w0 u0):=hid (by rw [hu0];exact ⟨he.drew,hS.s.drew,hb.drew,hi.drew,Kz.refl.drew,(Below.refl _ _).drew⟩)
 have HBu0:Hid (u0.ownsRow base 124 13 (.slice A n c) n (bmCs l)):=hid (by rw [hu0];exact (Kx.refl (B:=0) (F:=[])).drew.own hl.own (by simp))
 have HEu0:Hid (u0.ownsRow base 128 2 (.slice E n ec) n (enCs (q.map Prod.snd))):=hid (by rw [hu0];exact (Kx.refl (B:=0) (F:=[])).drew.own hS.en (by simp))
 have HS2:Hid (∀ wz,(Bk wz eA 116 #[.slice E n ec]/\Bk wz sA 115 #[.slice A n c,.slice none 0 0,.slice none 0 0,.int i64 0,.int i64 0,.int i64 0]/\Bk wz ba 124 #[.int i64 b.px,.int i64 b.py,.int i64 b.vx,.int i64 b.vy,.int i64 b.ang,.int i64 b.spin,.int i64 b.mass,.int i64 b.inr,.int i64 b.bou,.int i64 b.rub,.slice (some ⟨g0,0,none⟩) 4 cc,.bool b.asl,.int i64 b.calm]/\Bk wz ia 147 #[.int i64 e,.int i64 g,.slice iA iN ic]/\Kz [124,128] w0 wz/\Below base w0 wz)->wz.cell? ⟨ba,0,none⟩=some (.int i64 b.px)/\wz.cell? ⟨ba,1,none⟩=some (.int i64 b.py)/\wz.cell? ⟨ba,2,none⟩=some (.int i64 b.vx)/\wz.cell? ⟨ba,3,none⟩=some (.int i64 b.vy)/\wz.cell? ⟨ba,4,none⟩=some (.int i64 b.ang)/\wz.cell? ⟨ba,5,none⟩=some (.int i64 b.spin)/\wz.cell? ⟨ba,6,none⟩=some (.int i64 b.mass)/\wz.cell? ⟨ba,7,none⟩=some (.int i64 b.inr)/\wz.cell? ⟨ba,8,none⟩=some (.int i64 b.bou)/\wz.cell? ⟨ba,9,none⟩=some (.int i64 b.rub)/\wz.cell? ⟨ba,10,none⟩=some (.slice (some ⟨g0,0,none⟩) 4 cc)/\wz.cell? ⟨ba,11,none⟩=some (.bool b.asl)/\wz.cell? ⟨ba,12,none⟩=some (.int i64 b.calm)/\wz.cell? ⟨ia,0,none⟩=some (.int i64 e)/\wz.cell? ⟨ia,1,none⟩=some (.int i64 g)/\wz.cell? ⟨sA,0,none⟩=some (.slice A n c)/\wz.cell? ⟨eA,0,none⟩=some (.slice E n ec)):=hid fun wz h=>⟨h.2.2.1.cell 0,h.2.2.1.cell 1,h.2.2.1.cell 2,h.2.2.1.cell 3,h.2.2.1.cell 4,h.2.2.1.cell 5,h.2.2.1.cell 6,h.2.2.1.cell 7,h.2.2.1.cell 8,h.2.2.1.cell 9,h.2.2.1.cell 10,h.2.2.1.cell 11,h.2.2.1.cell 12,h.2.2.2.1.cell 0,h.2.2.2.1.cell 1,h.2.1.cell 0,h.1.cell 0⟩
 clear hS hi hb hY hl hlq hq he heo
 refine wp_region_noPanic ?_
 refine wp_region_L (S:=fun wz=>wz.cell? ⟨ba,0,none⟩=some (.int i64 b.px)/\wz.cell? ⟨ba,1,none⟩=some (.int i64 b.py)/\wz.cell? ⟨ba,2,none⟩=some (.int i64 b.vx)/\wz.cell? ⟨ba,3,none⟩=some (.int i64 b.vy)/\wz.cell? ⟨ba,4,none⟩=some (.int i64 b.ang)/\wz.cell? ⟨ba,5,none⟩=some (.int i64 b.spin)/\wz.cell? ⟨ba,6,none⟩=some (.int i64 b.mass)/\wz.cell? ⟨ba,7,none⟩=some (.int i64 b.inr)/\wz.cell? ⟨ba,8,none⟩=some (.int i64 b.bou)/\wz.cell? ⟨ba,9,none⟩=some (.int i64 b.rub)/\wz.cell? ⟨ba,10,none⟩=some (.slice (some ⟨g0,0,none⟩) 4 cc)/\wz.cell? ⟨ba,11,none⟩=some (.bool b.asl)/\wz.cell? ⟨ba,12,none⟩=some (.int i64 b.calm)/\wz.cell? ⟨ia,0,none⟩=some (.int i64 e)/\wz.cell? ⟨ia,1,none⟩=some (.int i64 g)/\wz.cell? ⟨sA,0,none⟩=some (.slice A n c)/\wz.cell? ⟨eA,0,none⟩=some (.slice E n ec)) (late:=[11,12]) (by kernel_rfl) ?_
 rw [<- hu0]
 clear hu0
 refine wpL 0 (.pointer (some ⟨sA,0,none⟩)) 39 (HS2.out _ HRu0.out) ?_
 (try simp only [sP])
 refine wpL 1 (.slice A n c) 40 (HS2.out _ HRu0.out) ?_
 (try simp only [sP])
 refine wpL 2 (.agg #[.int i64 b.px,.int i64 b.py,.int i64 b.vx,.int i64 b.vy,.int i64 b.ang,.int i64 b.spin,.int i64 b.mass,.int i64 b.inr,.int i64 b.bou,.int i64 b.rub,.slice (some ⟨g0,0,none⟩) 4 cc,.bool b.asl,.int i64 b.calm]) 41 (HS2.out _ HRu0.out) ?_
 (try simp only [sP])
 refine wpL 5 (.slice E n ec) 44 (HS2.out _ HRu0.out) ?_
 (try simp only [sP])
 refine wpL 6 (.pointer (some ⟨ia,0,none⟩)) 45 (HS2.out _ HRu0.out) ?_
 (try simp only [sP])
 refine wpL 7 (.agg #[.int i64 e,.int i64 g]) 46 (HS2.out _ HRu0.out) ?_
 (try simp only [sP])
 refine wpAnyL_two (i:=3) (j:=8) rfl rfl (by kernel_rfl) (by rfl) (by rfl) ?_ ?_
 . go_simp
   obtain ⟨nb,hnb⟩:∃ z,z=u0.heap.size:=⟨_,rfl⟩
   obtain ⟨v0,hv0⟩:∃ z,z=u0.alloc (.cells #[.int i64 b.px,.int i64 b.py,.int i64 b.vx,.int i64 b.vy,.int i64 b.ang,.int i64 b.spin,.int i64 b.mass,.int i64 b.inr,.int i64 b.bou,.int i64 b.rub,.slice (some ⟨g0,0,none⟩) 4 cc,.bool b.asl,.int i64 b.calm] 124):=⟨_,rfl⟩
   have HRv0:Hid (Bk v0 eA 116 #[.slice E n ec]/\Bk v0 sA 115 #[.slice A n c,.slice none 0 0,.slice none 0 0,.int i64 0,.int i64 0,.int i64 0]/\Bk v0 ba 124 #[.int i64 b.px,.int i64 b.py,.int i64 b.vx,.int i64 b.vy,.int i64 b.ang,.int i64 b.spin,.int i64 b.mass,.int i64 b.inr,.int i64 b.bou,.int i64 b.rub,.slice (some ⟨g0,0,none⟩) 4 cc,.bool b.asl,.int i64 b.calm]/\Bk v0 ia 147 #[.int i64 e,.int i64 g,.slice iA iN ic]/\Kz [124,128] w0 v0/\Below base w0 v0):=hid (by rw [hv0];obtain ⟨r0,r1,r2,r3,r4,r5⟩:=HRu0.out;exact ⟨r0.alloc _,r1.alloc _,r2.alloc _,r3.alloc _,r4.alloc _,r5.alloc (Nat.le_trans hbase r5.size) _⟩)
   have HBv0:Hid (v0.ownsRow base 124 13 (.slice A n c) n (bmCs l)):=hid (by rw [hv0];exact HBu0.out.alloc _)
   have HEv0:Hid (v0.ownsRow base 128 2 (.slice E n ec) n (enCs (q.map Prod.snd))):=hid (by rw [hv0];exact HEu0.out.alloc _)
   have Hnbv0:Hid (Bk v0 nb 124 #[.int i64 b.px,.int i64 b.py,.int i64 b.vx,.int i64 b.vy,.int i64 b.ang,.int i64 b.spin,.int i64 b.mass,.int i64 b.inr,.int i64 b.bou,.int i64 b.rub,.slice (some ⟨g0,0,none⟩) 4 cc,.bool b.asl,.int i64 b.calm]):=hid (by rw [hv0,hnb];exact Bk.new _ _ _)
   rw [<- hv0,<- hnb]
   clear hv0 hnb
   refine And.intro (HS2.out _ HRv0.out) ?_
   (try simp only [sP])
   refine wpAnyL_two (i:=4) (j:=8) rfl rfl (by kernel_rfl) (by rfl) (by rfl) ?_ ?_
   . refine wp_append_one (.tmp 40) (.tmp 42) 112 rfl base 124 iB (.agg #[.int i64 0,.int i64 0,.int i64 0,.int i64 0,.int i64 0,.int i64 0,.int i64 0,.int i64 0,.int i64 0,.int i64 0,.slice none 0 0,.bool false,.int i64 0]) 13 120 Try.underlying112 hiB hB0 hB1 hB2 rfl (by decide) (.slice A n c) n (bmCs l) rfl HBv0.out nb 1 124 #[.int i64 b.px,.int i64 b.py,.int i64 b.vx,.int i64 b.vy,.int i64 b.ang,.int i64 b.spin,.int i64 b.mass,.int i64 b.inr,.int i64 b.bou,.int i64 b.rub,.slice (some ⟨g0,0,none⟩) 4 cc,.bool b.asl,.int i64 b.calm] rfl Hnbv0.out rfl (by simp [Value.oneCell']) (n+1) rfl (by unfold maxLen;omega) (by omega) (Nat.le_trans hbase HRv0.out.2.2.2.2.2.size) ?_
     intro gB cB v1 hown hgr hat
     have HRv1:Hid (Bk v1 eA 116 #[.slice E n ec]/\Bk v1 sA 115 #[.slice A n c,.slice none 0 0,.slice none 0 0,.int i64 0,.int i64 0,.int i64 0]/\Bk v1 ba 124 #[.int i64 b.px,.int i64 b.py,.int i64 b.vx,.int i64 b.vy,.int i64 b.ang,.int i64 b.spin,.int i64 b.mass,.int i64 b.inr,.int i64 b.bou,.int i64 b.rub,.slice (some ⟨g0,0,none⟩) 4 cc,.bool b.asl,.int i64 b.calm]/\Bk v1 ia 147 #[.int i64 e,.int i64 g,.slice iA iN ic]/\Kz [124,128] w0 v1/\Below base w0 v1):=hid (by obtain ⟨r0,r1,r2,r3,r4,r5⟩:=HRv0.out;exact ⟨r0.grown hgr (fun e=>own_ne HBv0.out r0 (by decide) e.symm),r1.grown hgr (fun e=>own_ne HBv0.out r1 (by decide) e.symm),r2.grown hgr (fun e=>hne e.symm),r3.grown hgr (fun e=>own_ne HBv0.out r3 (by decide) e.symm),r4.grown HBv0.out hgr (by simp),r5.trans (grown_below HBv0.out hgr (Nat.le_trans hbase r5.size))⟩)
     have HBv1:Hid (v1.ownsRow base 124 13 (.slice (some ⟨gB,0,none⟩) (n+1) cB) (n+1) (bmCs l++#[.int i64 b.px,.int i64 b.py,.int i64 b.vx,.int i64 b.vy,.int i64 b.ang,.int i64 b.spin,.int i64 b.mass,.int i64 b.inr,.int i64 b.bou,.int i64 b.rub,.slice (some ⟨g0,0,none⟩) 4 cc,.bool b.asl,.int i64 b.calm].toList)):=hid hown
     have HEv1:Hid (v1.ownsRow base 128 2 (.slice E n ec) n (enCs (q.map Prod.snd))):=hid (((Kx.refl (B:=0) (F:=[124])).grown HBv0.out hgr (Nat.zero_le _) (by simp)).own HEv0.out (by decide))
     clear hown hgr hat
     refine And.intro (HS2.out _ HRv1.out) ?_
     (try simp only [sP])
     refine wpL 10 (.pointer (some ⟨sA,0,none⟩)) 49 (HS2.out _ HRv1.out) ?_
     (try simp only [sP])
     refine wpAnyL_one (i:=8) rfl (by kernel_rfl) (by rfl) ?_
     go_simp
     obtain ⟨ne,hne⟩:∃ z,z=v1.heap.size:=⟨_,rfl⟩
     obtain ⟨v2,hv2⟩:∃ z,z=v1.alloc (.cells #[.int i64 e,.int i64 g] 128):=⟨_,rfl⟩
     have HRv2:Hid (Bk v2 eA 116 #[.slice E n ec]/\Bk v2 sA 115 #[.slice A n c,.slice none 0 0,.slice none 0 0,.int i64 0,.int i64 0,.int i64 0]/\Bk v2 ba 124 #[.int i64 b.px,.int i64 b.py,.int i64 b.vx,.int i64 b.vy,.int i64 b.ang,.int i64 b.spin,.int i64 b.mass,.int i64 b.inr,.int i64 b.bou,.int i64 b.rub,.slice (some ⟨g0,0,none⟩) 4 cc,.bool b.asl,.int i64 b.calm]/\Bk v2 ia 147 #[.int i64 e,.int i64 g,.slice iA iN ic]/\Kz [124,128] w0 v2/\Below base w0 v2):=hid (by rw [hv2];obtain ⟨r0,r1,r2,r3,r4,r5⟩:=HRv1.out;exact ⟨r0.alloc _,r1.alloc _,r2.alloc _,r3.alloc _,r4.alloc _,r5.alloc (Nat.le_trans hbase r5.size) _⟩)
     have HBv2:Hid (v2.ownsRow base 124 13 (.slice (some ⟨gB,0,none⟩) (n+1) cB) (n+1) (bmCs l++#[.int i64 b.px,.int i64 b.py,.int i64 b.vx,.int i64 b.vy,.int i64 b.ang,.int i64 b.spin,.int i64 b.mass,.int i64 b.inr,.int i64 b.bou,.int i64 b.rub,.slice (some ⟨g0,0,none⟩) 4 cc,.bool b.asl,.int i64 b.calm].toList)):=hid (by rw [hv2];exact HBv1.out.alloc _)
     have HEv2:Hid (v2.ownsRow base 128 2 (.slice E n ec) n (enCs (q.map Prod.snd))):=hid (by rw [hv2];exact HEv1.out.alloc _)
     have Hnev2:Hid (Bk v2 ne 128 #[.int i64 e,.int i64 g]):=hid (by rw [hv2,hne];exact Bk.new _ _ _)
     rw [<- hv2,<- hne]
     clear hv2 hne
     refine And.intro (HS2.out _ HRv2.out) ?_
     (try simp only [sP])
     refine wpAnyL_one (i:=9) rfl (by kernel_rfl) (by rfl) ?_
     refine wp_append_one (.tmp 44) (.tmp 47) 116 rfl base 128 iE (.agg #[.int i64 0,.int i64 0]) 2 16 Try.underlying116 hiE hE0 hE1 hE2 rfl (by decide) (.slice E n ec) n (enCs (q.map Prod.snd)) rfl HEv2.out ne 1 128 #[.int i64 e,.int i64 g] rfl Hnev2.out rfl (by simp [Value.oneCell']) (n+1) rfl (by unfold maxLen;omega) (by omega) (Nat.le_trans hbase HRv2.out.2.2.2.2.2.size) ?_
     intro gE cE v3 hown hgr hat
     have HRv3:Hid (Bk v3 eA 116 #[.slice E n ec]/\Bk v3 sA 115 #[.slice A n c,.slice none 0 0,.slice none 0 0,.int i64 0,.int i64 0,.int i64 0]/\Bk v3 ba 124 #[.int i64 b.px,.int i64 b.py,.int i64 b.vx,.int i64 b.vy,.int i64 b.ang,.int i64 b.spin,.int i64 b.mass,.int i64 b.inr,.int i64 b.bou,.int i64 b.rub,.slice (some ⟨g0,0,none⟩) 4 cc,.bool b.asl,.int i64 b.calm]/\Bk v3 ia 147 #[.int i64 e,.int i64 g,.slice iA iN ic]/\Kz [124,128] w0 v3/\Below base w0 v3):=hid (by obtain ⟨r0,r1,r2,r3,r4,r5⟩:=HRv2.out;exact ⟨r0.grown hgr (fun e=>own_ne HEv2.out r0 (by decide) e.symm),r1.grown hgr (fun e=>own_ne HEv2.out r1 (by decide) e.symm),r2.grown hgr (fun e=>own_ne HEv2.out r2 (by decide) e.symm),r3.grown hgr (fun e=>own_ne HEv2.out r3 (by decide) e.symm),r4.grown HEv2.out hgr (by simp),r5.trans (grown_below HEv2.out hgr (Nat.le_trans hbase r5.size))⟩)
     have HEv3:Hid (v3.ownsRow base 128 2 (.slice (some ⟨gE,0,none⟩) (n+1) cE) (n+1) (enCs (q.map Prod.snd)++#[.int i64 e,.int i64 g].toList)):=hid hown
     have HBv3:Hid (v3.ownsRow base 124 13 (.slice (some ⟨gB,0,none⟩) (n+1) cB) (n+1) (bmCs l++#[.int i64 b.px,.int i64 b.py,.int i64 b.vx,.int i64 b.vy,.int i64 b.ang,.int i64 b.spin,.int i64 b.mass,.int i64 b.inr,.int i64 b.bou,.int i64 b.rub,.slice (some ⟨g0,0,none⟩) 4 cc,.bool b.asl,.int i64 b.calm].toList)):=hid (((Kx.refl (B:=0) (F:=[128])).grown HEv2.out hgr (Nat.zero_le _) (by simp)).own HBv2.out (by decide))
     clear hown hgr hat
     refine And.intro (HS2.out _ HRv3.out) ?_
     (try simp only [sP])
     have q0:v3.cell? ⟨sA,0,none⟩=some (.slice A n c):=HRv3.out.2.1.cell 0
     have f0:v3.frozen? ⟨sA,0,none⟩=false:=HRv3.out.2.1.frozen 0
     refine wpAnyL_late (i:=11) rfl (by kernel_rfl) (by rfl) (by kernel_rfl) ?_
     go_simp
     (try simp only [sP])
     have HX:Hid (Bk (v3.setCell ⟨sA,0,none⟩ (.slice (some ⟨gB,0,none⟩) (n+1) cB)) eA 116 #[.slice E n ec]):=hid (HRv3.out.1.far (p:=⟨sA,0,none⟩) (HRv3.out.1.ne_ HRv3.out.2.1 (by decide)) _)
     have e0:v3.cell? ⟨eA,0,none⟩=some (.slice E n ec):=HRv3.out.1.cell 0
     have e1:v3.frozen? ⟨eA,0,none⟩=false:=HRv3.out.1.frozen 0
     have e2:(v3.setCell ⟨sA,0,none⟩ (.slice (some ⟨gB,0,none⟩) (n+1) cB)).cell? ⟨eA,0,none⟩=some (.slice E n ec):=HX.out.cell 0
     have e3:(v3.setCell ⟨sA,0,none⟩ (.slice (some ⟨gB,0,none⟩) (n+1) cB)).frozen? ⟨eA,0,none⟩=false:=HX.out.frozen 0
     refine wpAnyL_late (i:=12) rfl (by kernel_rfl) (by rfl) (by kernel_rfl) ?_
     go_simp
     (try simp only [sP])
     clear e0 e1 e2 e3 q0 f0 HX
     refine wpAnyL_done (by kernel_rfl) ?_ _
     refine NoPanic.normal ?_
     have HF:=hid (so9_fin HRv3.out.1 HRv3.out.2.1 HBv3.out HEv3.out HRv3.out.2.2.2.2.1 HRv3.out.2.2.2.2.2 HL.out HLO.out HEO.out)
     (apply hN;exact HF)
   . go_simp
     obtain ⟨ne,hne⟩:∃ z,z=v0.heap.size:=⟨_,rfl⟩
     obtain ⟨v1,hv1⟩:∃ z,z=v0.alloc (.cells #[.int i64 e,.int i64 g] 128):=⟨_,rfl⟩
     have HRv1:Hid (Bk v1 eA 116 #[.slice E n ec]/\Bk v1 sA 115 #[.slice A n c,.slice none 0 0,.slice none 0 0,.int i64 0,.int i64 0,.int i64 0]/\Bk v1 ba 124 #[.int i64 b.px,.int i64 b.py,.int i64 b.vx,.int i64 b.vy,.int i64 b.ang,.int i64 b.spin,.int i64 b.mass,.int i64 b.inr,.int i64 b.bou,.int i64 b.rub,.slice (some ⟨g0,0,none⟩) 4 cc,.bool b.asl,.int i64 b.calm]/\Bk v1 ia 147 #[.int i64 e,.int i64 g,.slice iA iN ic]/\Kz [124,128] w0 v1/\Below base w0 v1):=hid (by rw [hv1];obtain ⟨r0,r1,r2,r3,r4,r5⟩:=HRv0.out;exact ⟨r0.alloc _,r1.alloc _,r2.alloc _,r3.alloc _,r4.alloc _,r5.alloc (Nat.le_trans hbase r5.size) _⟩)
     have HBv1:Hid (v1.ownsRow base 124 13 (.slice A n c) n (bmCs l)):=hid (by rw [hv1];exact HBv0.out.alloc _)
     have HEv1:Hid (v1.ownsRow base 128 2 (.slice E n ec) n (enCs (q.map Prod.snd))):=hid (by rw [hv1];exact HEv0.out.alloc _)
     have Hnev1:Hid (Bk v1 ne 128 #[.int i64 e,.int i64 g]):=hid (by rw [hv1,hne];exact Bk.new _ _ _)
     have Hnbv1:Hid (Bk v1 nb 124 #[.int i64 b.px,.int i64 b.py,.int i64 b.vx,.int i64 b.vy,.int i64 b.ang,.int i64 b.spin,.int i64 b.mass,.int i64 b.inr,.int i64 b.bou,.int i64 b.rub,.slice (some ⟨g0,0,none⟩) 4 cc,.bool b.asl,.int i64 b.calm]):=hid (by rw [hv1];exact Hnbv0.out.alloc _)
     rw [<- hv1,<- hne]
     clear hv1 hne
     refine And.intro (HS2.out _ HRv1.out) ?_
     (try simp only [sP])
     refine wpAnyL_one (i:=4) rfl (by kernel_rfl) (by rfl) ?_
     refine wp_append_one (.tmp 40) (.tmp 42) 112 rfl base 124 iB (.agg #[.int i64 0,.int i64 0,.int i64 0,.int i64 0,.int i64 0,.int i64 0,.int i64 0,.int i64 0,.int i64 0,.int i64 0,.slice none 0 0,.bool false,.int i64 0]) 13 120 Try.underlying112 hiB hB0 hB1 hB2 rfl (by decide) (.slice A n c) n (bmCs l) rfl HBv1.out nb 1 124 #[.int i64 b.px,.int i64 b.py,.int i64 b.vx,.int i64 b.vy,.int i64 b.ang,.int i64 b.spin,.int i64 b.mass,.int i64 b.inr,.int i64 b.bou,.int i64 b.rub,.slice (some ⟨g0,0,none⟩) 4 cc,.bool b.asl,.int i64 b.calm] rfl Hnbv1.out rfl (by simp [Value.oneCell']) (n+1) rfl (by unfold maxLen;omega) (by omega) (Nat.le_trans hbase HRv1.out.2.2.2.2.2.size) ?_
     intro gB cB v2 hown hgr hat
     have HRv2:Hid (Bk v2 eA 116 #[.slice E n ec]/\Bk v2 sA 115 #[.slice A n c,.slice none 0 0,.slice none 0 0,.int i64 0,.int i64 0,.int i64 0]/\Bk v2 ba 124 #[.int i64 b.px,.int i64 b.py,.int i64 b.vx,.int i64 b.vy,.int i64 b.ang,.int i64 b.spin,.int i64 b.mass,.int i64 b.inr,.int i64 b.bou,.int i64 b.rub,.slice (some ⟨g0,0,none⟩) 4 cc,.bool b.asl,.int i64 b.calm]/\Bk v2 ia 147 #[.int i64 e,.int i64 g,.slice iA iN ic]/\Kz [124,128] w0 v2/\Below base w0 v2):=hid (by obtain ⟨r0,r1,r2,r3,r4,r5⟩:=HRv1.out;exact ⟨r0.grown hgr (fun e=>own_ne HBv1.out r0 (by decide) e.symm),r1.grown hgr (fun e=>own_ne HBv1.out r1 (by decide) e.symm),r2.grown hgr (fun e=>hne e.symm),r3.grown hgr (fun e=>own_ne HBv1.out r3 (by decide) e.symm),r4.grown HBv1.out hgr (by simp),r5.trans (grown_below HBv1.out hgr (Nat.le_trans hbase r5.size))⟩)
     have HBv2:Hid (v2.ownsRow base 124 13 (.slice (some ⟨gB,0,none⟩) (n+1) cB) (n+1) (bmCs l++#[.int i64 b.px,.int i64 b.py,.int i64 b.vx,.int i64 b.vy,.int i64 b.ang,.int i64 b.spin,.int i64 b.mass,.int i64 b.inr,.int i64 b.bou,.int i64 b.rub,.slice (some ⟨g0,0,none⟩) 4 cc,.bool b.asl,.int i64 b.calm].toList)):=hid hown
     have HEv2:Hid (v2.ownsRow base 128 2 (.slice E n ec) n (enCs (q.map Prod.snd))):=hid (((Kx.refl (B:=0) (F:=[124])).grown HBv1.out hgr (Nat.zero_le _) (by simp)).own HEv1.out (by decide))
     have Hnev2:Hid (Bk v2 ne 128 #[.int i64 e,.int i64 g]):=hid (Hnev1.out.grown hgr (fun e=>own_ne HBv1.out Hnev1.out (by decide) e.symm))
     clear hown hgr hat
     refine And.intro (HS2.out _ HRv2.out) ?_
     (try simp only [sP])
     refine wpL 10 (.pointer (some ⟨sA,0,none⟩)) 49 (HS2.out _ HRv2.out) ?_
     (try simp only [sP])
     refine wpAnyL_one (i:=9) rfl (by kernel_rfl) (by rfl) ?_
     refine wp_append_one (.tmp 44) (.tmp 47) 116 rfl base 128 iE (.agg #[.int i64 0,.int i64 0]) 2 16 Try.underlying116 hiE hE0 hE1 hE2 rfl (by decide) (.slice E n ec) n (enCs (q.map Prod.snd)) rfl HEv2.out ne 1 128 #[.int i64 e,.int i64 g] rfl Hnev2.out rfl (by simp [Value.oneCell']) (n+1) rfl (by unfold maxLen;omega) (by omega) (Nat.le_trans hbase HRv2.out.2.2.2.2.2.size) ?_
     intro gE cE v3 hown hgr hat
     have HRv3:Hid (Bk v3 eA 116 #[.slice E n ec]/\Bk v3 sA 115 #[.slice A n c,.slice none 0 0,.slice none 0 0,.int i64 0,.int i64 0,.int i64 0]/\Bk v3 ba 124 #[.int i64 b.px,.int i64 b.py,.int i64 b.vx,.int i64 b.vy,.int i64 b.ang,.int i64 b.spin,.int i64 b.mass,.int i64 b.inr,.int i64 b.bou,.int i64 b.rub,.slice (some ⟨g0,0,none⟩) 4 cc,.bool b.asl,.int i64 b.calm]/\Bk v3 ia 147 #[.int i64 e,.int i64 g,.slice iA iN ic]/\Kz [124,128] w0 v3/\Below base w0 v3):=hid (by obtain ⟨r0,r1,r2,r3,r4,r5⟩:=HRv2.out;exact ⟨r0.grown hgr (fun e=>own_ne HEv2.out r0 (by decide) e.symm),r1.grown hgr (fun e=>own_ne HEv2.out r1 (by decide) e.symm),r2.grown hgr (fun e=>own_ne HEv2.out r2 (by decide) e.symm),r3.grown hgr (fun e=>own_ne HEv2.out r3 (by decide) e.symm),r4.grown HEv2.out hgr (by simp),r5.trans (grown_below HEv2.out hgr (Nat.le_trans hbase r5.size))⟩)
     have HEv3:Hid (v3.ownsRow base 128 2 (.slice (some ⟨gE,0,none⟩) (n+1) cE) (n+1) (enCs (q.map Prod.snd)++#[.int i64 e,.int i64 g].toList)):=hid hown
     have HBv3:Hid (v3.ownsRow base 124 13 (.slice (some ⟨gB,0,none⟩) (n+1) cB) (n+1) (bmCs l++#[.int i64 b.px,.int i64 b.py,.int i64 b.vx,.int i64 b.vy,.int i64 b.ang,.int i64 b.spin,.int i64 b.mass,.int i64 b.inr,.int i64 b.bou,.int i64 b.rub,.slice (some ⟨g0,0,none⟩) 4 cc,.bool b.asl,.int i64 b.calm].toList)):=hid (((Kx.refl (B:=0) (F:=[128])).grown HEv2.out hgr (Nat.zero_le _) (by simp)).own HBv2.out (by decide))
     clear hown hgr hat
     refine And.intro (HS2.out _ HRv3.out) ?_
     (try simp only [sP])
     have q0:v3.cell? ⟨sA,0,none⟩=some (.slice A n c):=HRv3.out.2.1.cell 0
     have f0:v3.frozen? ⟨sA,0,none⟩=false:=HRv3.out.2.1.frozen 0
     refine wpAnyL_late (i:=11) rfl (by kernel_rfl) (by rfl) (by kernel_rfl) ?_
     go_simp
     (try simp only [sP])
     have HX:Hid (Bk (v3.setCell ⟨sA,0,none⟩ (.slice (some ⟨gB,0,none⟩) (n+1) cB)) eA 116 #[.slice E n ec]):=hid (HRv3.out.1.far (p:=⟨sA,0,none⟩) (HRv3.out.1.ne_ HRv3.out.2.1 (by decide)) _)
     have e0:v3.cell? ⟨eA,0,none⟩=some (.slice E n ec):=HRv3.out.1.cell 0
     have e1:v3.frozen? ⟨eA,0,none⟩=false:=HRv3.out.1.frozen 0
     have e2:(v3.setCell ⟨sA,0,none⟩ (.slice (some ⟨gB,0,none⟩) (n+1) cB)).cell? ⟨eA,0,none⟩=some (.slice E n ec):=HX.out.cell 0
     have e3:(v3.setCell ⟨sA,0,none⟩ (.slice (some ⟨gB,0,none⟩) (n+1) cB)).frozen? ⟨eA,0,none⟩=false:=HX.out.frozen 0
     refine wpAnyL_late (i:=12) rfl (by kernel_rfl) (by rfl) (by kernel_rfl) ?_
     go_simp
     (try simp only [sP])
     clear e0 e1 e2 e3 q0 f0 HX
     refine wpAnyL_done (by kernel_rfl) ?_ _
     refine NoPanic.normal ?_
     have HF:=hid (so9_fin HRv3.out.1 HRv3.out.2.1 HBv3.out HEv3.out HRv3.out.2.2.2.2.1 HRv3.out.2.2.2.2.2 HL.out HLO.out HEO.out)
     (apply hN;exact HF)
 . go_simp
   obtain ⟨ne,hne⟩:∃ z,z=u0.heap.size:=⟨_,rfl⟩
   obtain ⟨v0,hv0⟩:∃ z,z=u0.alloc (.cells #[.int i64 e,.int i64 g] 128):=⟨_,rfl⟩
   have HRv0:Hid (Bk v0 eA 116 #[.slice E n ec]/\Bk v0 sA 115 #[.slice A n c,.slice none 0 0,.slice none 0 0,.int i64 0,.int i64 0,.int i64 0]/\Bk v0 ba 124 #[.int i64 b.px,.int i64 b.py,.int i64 b.vx,.int i64 b.vy,.int i64 b.ang,.int i64 b.spin,.int i64 b.mass,.int i64 b.inr,.int i64 b.bou,.int i64 b.rub,.slice (some ⟨g0,0,none⟩) 4 cc,.bool b.asl,.int i64 b.calm]/\Bk v0 ia 147 #[.int i64 e,.int i64 g,.slice iA iN ic]/\Kz [124,128] w0 v0/\Below base w0 v0):=hid (by rw [hv0];obtain ⟨r0,r1,r2,r3,r4,r5⟩:=HRu0.out;exact ⟨r0.alloc _,r1.alloc _,r2.alloc _,r3.alloc _,r4.alloc _,r5.alloc (Nat.le_trans hbase r5.size) _⟩)
   have HBv0:Hid (v0.ownsRow base 124 13 (.slice A n c) n (bmCs l)):=hid (by rw [hv0];exact HBu0.out.alloc _)
   have HEv0:Hid (v0.ownsRow base 128 2 (.slice E n ec) n (enCs (q.map Prod.snd))):=hid (by rw [hv0];exact HEu0.out.alloc _)
   have Hnev0:Hid (Bk v0 ne 128 #[.int i64 e,.int i64 g]):=hid (by rw [hv0,hne];exact Bk.new _ _ _)
   rw [<- hv0,<- hne]
   clear hv0 hne
   refine And.intro (HS2.out _ HRv0.out) ?_
   (try simp only [sP])
   refine wpAnyL_one (i:=3) rfl (by kernel_rfl) (by rfl) ?_
   go_simp
   obtain ⟨nb,hnb⟩:∃ z,z=v0.heap.size:=⟨_,rfl⟩
   obtain ⟨v1,hv1⟩:∃ z,z=v0.alloc (.cells #[.int i64 b.px,.int i64 b.py,.int i64 b.vx,.int i64 b.vy,.int i64 b.ang,.int i64 b.spin,.int i64 b.mass,.int i64 b.inr,.int i64 b.bou,.int i64 b.rub,.slice (some ⟨g0,0,none⟩) 4 cc,.bool b.asl,.int i64 b.calm] 124):=⟨_,rfl⟩
   have HRv1:Hid (Bk v1 eA 116 #[.slice E n ec]/\Bk v1 sA 115 #[.slice A n c,.slice none 0 0,.slice none 0 0,.int i64 0,.int i64 0,.int i64 0]/\Bk v1 ba 124 #[.int i64 b.px,.int i64 b.py,.int i64 b.vx,.int i64 b.vy,.int i64 b.ang,.int i64 b.spin,.int i64 b.mass,.int i64 b.inr,.int i64 b.bou,.int i64 b.rub,.slice (some ⟨g0,0,none⟩) 4 cc,.bool b.asl,.int i64 b.calm]/\Bk v1 ia 147 #[.int i64 e,.int i64 g,.slice iA iN ic]/\Kz [124,128] w0 v1/\Below base w0 v1):=hid (by rw [hv1];obtain ⟨r0,r1,r2,r3,r4,r5⟩:=HRv0.out;exact ⟨r0.alloc _,r1.alloc _,r2.alloc _,r3.alloc _,r4.alloc _,r5.alloc (Nat.le_trans hbase r5.size) _⟩)
   have HBv1:Hid (v1.ownsRow base 124 13 (.slice A n c) n (bmCs l)):=hid (by rw [hv1];exact HBv0.out.alloc _)
   have HEv1:Hid (v1.ownsRow base 128 2 (.slice E n ec) n (enCs (q.map Prod.snd))):=hid (by rw [hv1];exact HEv0.out.alloc _)
   have Hnbv1:Hid (Bk v1 nb 124 #[.int i64 b.px,.int i64 b.py,.int i64 b.vx,.int i64 b.vy,.int i64 b.ang,.int i64 b.spin,.int i64 b.mass,.int i64 b.inr,.int i64 b.bou,.int i64 b.rub,.slice (some ⟨g0,0,none⟩) 4 cc,.bool b.asl,.int i64 b.calm]):=hid (by rw [hv1,hnb];exact Bk.new _ _ _)
   have Hnev1:Hid (Bk v1 ne 128 #[.int i64 e,.int i64 g]):=hid (by rw [hv1];exact Hnev0.out.alloc _)
   rw [<- hv1,<- hnb]
   clear hv1 hnb
   refine And.intro (HS2.out _ HRv1.out) ?_
   (try simp only [sP])
   refine wpAnyL_one (i:=4) rfl (by kernel_rfl) (by rfl) ?_
   refine wp_append_one (.tmp 40) (.tmp 42) 112 rfl base 124 iB (.agg #[.int i64 0,.int i64 0,.int i64 0,.int i64 0,.int i64 0,.int i64 0,.int i64 0,.int i64 0,.int i64 0,.int i64 0,.slice none 0 0,.bool false,.int i64 0]) 13 120 Try.underlying112 hiB hB0 hB1 hB2 rfl (by decide) (.slice A n c) n (bmCs l) rfl HBv1.out nb 1 124 #[.int i64 b.px,.int i64 b.py,.int i64 b.vx,.int i64 b.vy,.int i64 b.ang,.int i64 b.spin,.int i64 b.mass,.int i64 b.inr,.int i64 b.bou,.int i64 b.rub,.slice (some ⟨g0,0,none⟩) 4 cc,.bool b.asl,.int i64 b.calm] rfl Hnbv1.out rfl (by simp [Value.oneCell']) (n+1) rfl (by unfold maxLen;omega) (by omega) (Nat.le_trans hbase HRv1.out.2.2.2.2.2.size) ?_
   intro gB cB v2 hown hgr hat
   have HRv2:Hid (Bk v2 eA 116 #[.slice E n ec]/\Bk v2 sA 115 #[.slice A n c,.slice none 0 0,.slice none 0 0,.int i64 0,.int i64 0,.int i64 0]/\Bk v2 ba 124 #[.int i64 b.px,.int i64 b.py,.int i64 b.vx,.int i64 b.vy,.int i64 b.ang,.int i64 b.spin,.int i64 b.mass,.int i64 b.inr,.int i64 b.bou,.int i64 b.rub,.slice (some ⟨g0,0,none⟩) 4 cc,.bool b.asl,.int i64 b.calm]/\Bk v2 ia 147 #[.int i64 e,.int i64 g,.slice iA iN ic]/\Kz [124,128] w0 v2/\Below base w0 v2):=hid (by obtain ⟨r0,r1,r2,r3,r4,r5⟩:=HRv1.out;exact ⟨r0.grown hgr (fun e=>own_ne HBv1.out r0 (by decide) e.symm),r1.grown hgr (fun e=>own_ne HBv1.out r1 (by decide) e.symm),r2.grown hgr (fun e=>hne e.symm),r3.grown hgr (fun e=>own_ne HBv1.out r3 (by decide) e.symm),r4.grown HBv1.out hgr (by simp),r5.trans (grown_below HBv1.out hgr (Nat.le_trans hbase r5.size))⟩)
   have HBv2:Hid (v2.ownsRow base 124 13 (.slice (some ⟨gB,0,none⟩) (n+1) cB) (n+1) (bmCs l++#[.int i64 b.px,.int i64 b.py,.int i64 b.vx,.int i64 b.vy,.int i64 b.ang,.int i64 b.spin,.int i64 b.mass,.int i64 b.inr,.int i64 b.bou,.int i64 b.rub,.slice (some ⟨g0,0,none⟩) 4 cc,.bool b.asl,.int i64 b.calm].toList)):=hid hown
   have HEv2:Hid (v2.ownsRow base 128 2 (.slice E n ec) n (enCs (q.map Prod.snd))):=hid (((Kx.refl (B:=0) (F:=[124])).grown HBv1.out hgr (Nat.zero_le _) (by simp)).own HEv1.out (by decide))
   have Hnev2:Hid (Bk v2 ne 128 #[.int i64 e,.int i64 g]):=hid (Hnev1.out.grown hgr (fun e=>own_ne HBv1.out Hnev1.out (by decide) e.symm))
   clear hown hgr hat
   refine And.intro (HS2.out _ HRv2.out) ?_
   (try simp only [sP])
   refine wpL 10 (.pointer (some ⟨sA,0,none⟩)) 49 (HS2.out _ HRv2.out) ?_
   (try simp only [sP])
   refine wpAnyL_one (i:=9) rfl (by kernel_rfl) (by rfl) ?_
   refine wp_append_one (.tmp 44) (.tmp 47) 116 rfl base 128 iE (.agg #[.int i64 0,.int i64 0]) 2 16 Try.underlying116 hiE hE0 hE1 hE2 rfl (by decide) (.slice E n ec) n (enCs (q.map Prod.snd)) rfl HEv2.out ne 1 128 #[.int i64 e,.int i64 g] rfl Hnev2.out rfl (by simp [Value.oneCell']) (n+1) rfl (by unfold maxLen;omega) (by omega) (Nat.le_trans hbase HRv2.out.2.2.2.2.2.size) ?_
   intro gE cE v3 hown hgr hat
   have HRv3:Hid (Bk v3 eA 116 #[.slice E n ec]/\Bk v3 sA 115 #[.slice A n c,.slice none 0 0,.slice none 0 0,.int i64 0,.int i64 0,.int i64 0]/\Bk v3 ba 124 #[.int i64 b.px,.int i64 b.py,.int i64 b.vx,.int i64 b.vy,.int i64 b.ang,.int i64 b.spin,.int i64 b.mass,.int i64 b.inr,.int i64 b.bou,.int i64 b.rub,.slice (some ⟨g0,0,none⟩) 4 cc,.bool b.asl,.int i64 b.calm]/\Bk v3 ia 147 #[.int i64 e,.int i64 g,.slice iA iN ic]/\Kz [124,128] w0 v3/\Below base w0 v3):=hid (by obtain ⟨r0,r1,r2,r3,r4,r5⟩:=HRv2.out;exact ⟨r0.grown hgr (fun e=>own_ne HEv2.out r0 (by decide) e.symm),r1.grown hgr (fun e=>own_ne HEv2.out r1 (by decide) e.symm),r2.grown hgr (fun e=>own_ne HEv2.out r2 (by decide) e.symm),r3.grown hgr (fun e=>own_ne HEv2.out r3 (by decide) e.symm),r4.grown HEv2.out hgr (by simp),r5.trans (grown_below HEv2.out hgr (Nat.le_trans hbase r5.size))⟩)
   have HEv3:Hid (v3.ownsRow base 128 2 (.slice (some ⟨gE,0,none⟩) (n+1) cE) (n+1) (enCs (q.map Prod.snd)++#[.int i64 e,.int i64 g].toList)):=hid hown
   have HBv3:Hid (v3.ownsRow base 124 13 (.slice (some ⟨gB,0,none⟩) (n+1) cB) (n+1) (bmCs l++#[.int i64 b.px,.int i64 b.py,.int i64 b.vx,.int i64 b.vy,.int i64 b.ang,.int i64 b.spin,.int i64 b.mass,.int i64 b.inr,.int i64 b.bou,.int i64 b.rub,.slice (some ⟨g0,0,none⟩) 4 cc,.bool b.asl,.int i64 b.calm].toList)):=hid (((Kx.refl (B:=0) (F:=[128])).grown HEv2.out hgr (Nat.zero_le _) (by simp)).own HBv2.out (by decide))
   clear hown hgr hat
   refine And.intro (HS2.out _ HRv3.out) ?_
   (try simp only [sP])
   have q0:v3.cell? ⟨sA,0,none⟩=some (.slice A n c):=HRv3.out.2.1.cell 0
   have f0:v3.frozen? ⟨sA,0,none⟩=false:=HRv3.out.2.1.frozen 0
   refine wpAnyL_late (i:=11) rfl (by kernel_rfl) (by rfl) (by kernel_rfl) ?_
   go_simp
   (try simp only [sP])
   have HX:Hid (Bk (v3.setCell ⟨sA,0,none⟩ (.slice (some ⟨gB,0,none⟩) (n+1) cB)) eA 116 #[.slice E n ec]):=hid (HRv3.out.1.far (p:=⟨sA,0,none⟩) (HRv3.out.1.ne_ HRv3.out.2.1 (by decide)) _)
   have e0:v3.cell? ⟨eA,0,none⟩=some (.slice E n ec):=HRv3.out.1.cell 0
   have e1:v3.frozen? ⟨eA,0,none⟩=false:=HRv3.out.1.frozen 0
   have e2:(v3.setCell ⟨sA,0,none⟩ (.slice (some ⟨gB,0,none⟩) (n+1) cB)).cell? ⟨eA,0,none⟩=some (.slice E n ec):=HX.out.cell 0
   have e3:(v3.setCell ⟨sA,0,none⟩ (.slice (some ⟨gB,0,none⟩) (n+1) cB)).frozen? ⟨eA,0,none⟩=false:=HX.out.frozen 0
   refine wpAnyL_late (i:=12) rfl (by kernel_rfl) (by rfl) (by kernel_rfl) ?_
   go_simp
   (try simp only [sP])
   clear e0 e1 e2 e3 q0 f0 HX
   refine wpAnyL_done (by kernel_rfl) ?_ _
   refine NoPanic.normal ?_
   have HF:=hid (so9_fin HRv3.out.1 HRv3.out.2.1 HBv3.out HEv3.out HRv3.out.2.2.2.2.1 HRv3.out.2.2.2.2.2 HL.out HLO.out HEO.out)
   (apply hN;exact HF)
end Go.Proofs.Ytnidcmhfbkdioaa
