/-
  Lemmas for the walk, merged (Wg Mc Kj). No condition but those in each statement.
-/
import Derived.StillTailTactics
import Derived.Test.YtnidcmhfbkdioaaSw6
import Derived.Test.YtnidcmhfbkdioaaSw12
import Derived.Test.YtnidcmhfbkdioaaSw5
namespace Go.Proofs.Ytnidcmhfbkdioaa
open Go.RowKit
open Go.IntKind (i64)
open Go.Lib (hid)
set_option maxRecDepth 100000
set_option maxHeartbeats 3200000 in
theorem held_any {w:World} {B kn kc n c:Nat} {kA A:Option Addr} {ks:List Kd} {l:List Cm} (hk:KsOk w B kA kn kc ks) (hc:CsOk w B A n c l) :
 Calls Try.prog 107 #[.slice kA kn kc,.slice A n c] w fun e w'=>e=.returned (.bool (heldF (ks.map Kd.p) (-1) (l.map Cm.p)))/\Below w.heap.size w w':=by
 obtain ⟨R,hR⟩:∃ R,R=heldF (ks.map Kd.p) (-1) (l.map Cm.p):=⟨_,rfl⟩
 rw [<- hR]
 have hcap:=hk.cap
 have hcap2:=hk.cap2
 have hcc:=hc.cap
 have hcc2:=hc.cap2
 have HK:=hid hk
 have HC:=hid hc
 have HR:Hid (R=heldF (ks.map Kd.p) (-1) ((l.drop 0).map Cm.p)):=hid (by rw [List.drop_zero];exact hR)
 clear hk hc hR
 go_enter Try.func107,Try.ntmps107
 go_wp2_with fail
 go_loopw [5,10] (fun lv iv wr=>∃ (i:Nat) (lst:Int),i<=n/\iv=.int i64 i/\lv=.int i64 lst /\ -1<=lst/\Hid (R=heldF (ks.map Kd.p) lst ((l.drop i).map Cm.p))/\Hid (Below w.heap.size w wr)) (fun _ iv _=>n-(intOf iv).toNat)
 case atStart=>exact ⟨0,-1,Nat.zero_le _,rfl,rfl,by omega,HR,hid (Below.refl _ _)⟩
 case round =>
  clear HR
  obtain ⟨i,lst,hi,rfl,rfl,hl1,HR,HW⟩:=hrel
  by_cases hlt:i<n
  . obtain ⟨x,hx⟩:∃ x,l[i]?=some x:=⟨_,List.getElem?_eq_getElem (by have:=HC.out.len;omega)⟩
    have hB:=HC.out.lo
    have hrr:=HR.out
    rw [List.drop_eq_getElem_cons (by have:=HC.out.len;omega),(List.getElem?_eq_some_iff.1 hx).2,List.map_cons] at hrr
    have hrr2:R=(heldOne (ks.map Kd.p) lst x.p&&heldF (ks.map Kd.p) x.k ((l.drop (i+1)).map Cm.p)):=hrr
    have hcw:=HC.out.below (HW.out.mono hB)
    have hkw:=HK.out.below (HW.out.mono hB)
    have hxo:=hcw.ok x (List.mem_of_getElem? hx)
    have hxr:=bounds_i64 hxo.wf
    obtain ⟨b,o,rfl,hbb,q0,q1⟩:=hcw.rd.cm hlt hx
    have hiz:(i:Int)<n:=by omega
    obtain ⟨xk,hxk⟩:∃ xk,xk=x.k:=⟨_,rfl⟩
    obtain ⟨xA,hxA⟩:∃ xA,xA=x.A:=⟨_,rfl⟩
    obtain ⟨xn,hxn⟩:∃ xn,xn=x.n:=⟨_,rfl⟩
    obtain ⟨xc,hxc⟩:∃ xc,xc=x.c:=⟨_,rfl⟩
    rw [<- hxk] at q0 hxr hrr2
    rw [<- hxA,<- hxn,<- hxc] at q1
    have HXK:=hid hxk
    have HXO:=hid hxo
    have HRR:=hid hrr2
    have HX3:=hid (And.intro hxA (And.intro hxn hxc))
    have HKW:=hid hkw
    clear hx hrr hrr2 hcw hxo hxk hxA hxn hxc hkw HR
    have hb1:=(Below.refl wr.heap.size wr).alloc (Nat.le_refl _) (.cells #[.int i64 xk,.slice xA xn xc] 166)
    have hh1:=Bk.new wr 166 #[.int i64 xk,.slice xA xn xc]
    have HB1:=hid hb1
    have HH1:=hid hh1
    clear hb1 hh1
    have HB1w:=hid (HW.out.trans (HB1.out.mono HW.out.size))
    have hl1':=hcap2
    by_cases h1:xk<=lst
    . have hRf:R=false:=by
       rw [HRR.out];unfold heldOne Cm.p
       rw [<- HXK.out,decide_eq_false (show ¬ lst<xk by omega)];rfl
      subst hRf
      go_wp2_with fail
      generalize wr.alloc (.cells #[.int i64 xk,.slice xA xn xc] 166)=W1 at *
      generalize wr.heap.size=hh at *
      have c0:W1.cell? ⟨hh,0,none⟩=some (.int i64 xk):=HH1.out.cell 0
      have c1:W1.cell? ⟨hh,1,none⟩=some (.slice xA xn xc):=HH1.out.cell 1
      go_quiet (fail)
      have HWn:=hid (below_dn HB1w.out nq)
      go_wp2_with fail
      go_ret
      exact ⟨rfl,HWn.out⟩
    . obtain ⟨K,rfl⟩:∃ K:Nat,xk=K:=⟨xk.toNat,by omega⟩
      by_cases h2:kn<=K
      . have hRf:R=false:=by
         rw [HRR.out];unfold heldOne Cm.p
         rw [<- HXK.out,Int.toNat_natCast,List.getElem?_eq_none (by rw [List.length_map,<- HK.out.len];exact h2)]
         simp
        subst hRf
        have h2z:(kn:Int)<=K:=by omega
        have t0:decide ((K:Int)<=lst)=false:=decide_eq_false h1
        have t1:decide ((kn:Int)<=K)=true:=decide_eq_true h2z
        go_wp2_with fail
        generalize wr.alloc (.cells #[.int i64 (K:Int),.slice xA xn xc] 166)=W1 at *
        generalize wr.heap.size=hh at *
        have c0:W1.cell? ⟨hh,0,none⟩=some (.int i64 K):=HH1.out.cell 0
        have c1:W1.cell? ⟨hh,1,none⟩=some (.slice xA xn xc):=HH1.out.cell 1
        go_quiet (fail)
        have HWn:=hid (below_dn HB1w.out nq)
        go_wp2_with fail
        go_ret
        exact ⟨rfl,HWn.out⟩
      . have h2z:(K:Int)<kn:=by omega
        have t0:decide ((K:Int)<=lst)=false:=decide_eq_false h1
        have t1:decide ((kn:Int)<=K)=false:=decide_eq_false (by omega)
        have t1':decide (kn<=K)=false:=decide_eq_false h2
        obtain ⟨kd,hkd⟩:∃ kd,ks[K]?=some kd:=⟨_,List.getElem?_eq_getElem (by have:=HK.out.len;omega)⟩
        have hko:=HKW.out.ok kd (List.mem_of_getElem? hkd)
        obtain ⟨kb,ko,rfl,hkb,k0,k1⟩:=HKW.out.rd.kd (by omega) hkd
        have hHo:heldOne (ks.map Kd.p) lst x.p=holdsF kd.nm kd.fds x.vals:=by
         unfold heldOne Cm.p
         rw [<- HXK.out,decide_eq_true (show lst<(K:Int) by omega),Int.toNat_natCast,List.getElem?_map,hkd]
         rfl
        have hrr:=HRR.out
        rw [hHo] at hrr
        have hw1:=HB1.out
        have hBw:B<=wr.heap.size:=Nat.le_trans hB HW.out.size
        have hB1B:Below B wr (wr.alloc (.cells #[.int i64 (K:Int),.slice xA xn xc] 166)):=(hw1.mono hBw)
        have hho:=fun wx (hbx:Below (wr.heap.size+1) (wr.alloc (.cells #[.int i64 (K:Int),.slice xA xn xc] 166)) wx) =>
         holds_any kd.nm kd.A kd.n kd.c kd.fds xA xn xc B x.vals wx (hko.rd.below (hB1B.trans (hbx.mono (by omega)))) hko.len hko.cap hko.cap2
         (by have h:=HXO.out.rd.below (hB1B.trans (hbx.mono (by omega)));rw [<- HX3.out.1,<- HX3.out.2.1] at h;exact h) (by rw [HX3.out.2.1];exact HXO.out.len) (by rw [HX3.out.2.1,HX3.out.2.2];exact HXO.out.cap) (by rw [HX3.out.2.2];exact HXO.out.cap2) (by have:=hbx.size;simp at this;omega)
        have k0':=(hB1B.cell (p:=⟨kb,ko+K*2,none⟩) hkb).trans k0
        have k1':=(hB1B.cell (p:=⟨kb,ko+K*2+1,none⟩) hkb).trans k1
        obtain ⟨hv,hhv⟩:∃ hv,hv=holdsF kd.nm kd.fds x.vals:=⟨_,rfl⟩
        rw [<- hhv] at hho hrr
        have HHO:=hid hho
        have HRX:=hid hrr
        generalize kd.nm=dn at *
        generalize kd.A=dA at *
        generalize kd.n=dm at *
        generalize kd.c=dc at *
        clear hho hrr hhv hkd hko hHo k0 k1 hw1 HRR
        go_wp2_with fail
        have hszz:(wr.alloc (.cells #[.int i64 (K:Int),.slice xA xn xc] 166)).heap.size=wr.heap.size+1:=by simp
        have HSZ:=hid hszz
        clear hszz
        generalize (wr.alloc (.cells #[.int i64 (K:Int),.slice xA xn xc] 166))=W1 at *
        generalize wr.heap.size=hh at *
        have c0:W1.cell? ⟨hh,0,none⟩=some (.int i64 K):=HH1.out.cell 0
        have c1:W1.cell? ⟨hh,1,none⟩=some (.slice xA xn xc):=HH1.out.cell 1
        have HRT:Hid (R=(hv&&heldF (ks.map Kd.p) K ((l.drop (i+1)).map Cm.p))):=HRX
        clear HRX h2 HW HB1 HXO HX3 HKW
        go_still_tail 19,(by kernel_rfl)
        change wpList _ _ _ _ _ W1.drew
        have HB2:Hid (Below (hh+1) W1 W1.drew):=hid (Below.refl _ _).drew
        have HHD:Hid (Bk W1.drew hh 166 #[.int i64 (K:Int),.slice xA xn xc]):=hid HH1.out.drew
        have HBD:Hid (Below w.heap.size w W1.drew):=hid HB1w.out.drew
        have HHO2:=hid (HHO.out _ HB2.out)
        clear HHO HB2 c0 c1 k0' k1' HSZ HH1 HB1w hB1B
        generalize W1.drew=W2 at *
        go_wp2_with fail
        (with_reducible refine HHO2.out.mono ?_)
        rintro e w3 ⟨rfl,hb3⟩
        have hh3:=HHD.out.below hb3 HHD.out.lt
        have e0:w3.cell? ⟨hh,0,none⟩=some (.int i64 K):=hh3.cell 0
        have HB3:=hid (HBD.out.trans (hb3.mono HBD.out.size))
        clear hb3 hh3
        cases hv
        . have hRf:R=false:=by rw [HRT.out];rfl
          subst hRf
          go_wp2_with fail
          go_ret
          exact ⟨rfl,HB3.out⟩
        . have HRN:Hid (R=heldF (ks.map Kd.p) K ((l.drop (i+1)).map Cm.p)):=hid (by rw [HRT.out];rfl)
          go_wp2_with fail
          go_roundw
          case measure=>simp [intOf];omega
          case rel=>exact ⟨i+1,K,by omega,by go_num,rfl,by omega,HRN,HB3⟩
  . obtain rfl:i=n:=by omega
    have hR2:=HR.out
    rw [List.drop_of_length_le (by rw [<- HC.out.len];omega)] at hR2
    have hR3:R=true:=hR2
    subst hR3
    go_wp2_with fail
    go_ret
    exact ⟨rfl,HW.out⟩
theorem wcheckF_ks {w:Wv Kp2} (h:checkF w.ks≠0):wcheckF w=checkF w.ks:=by unfold wcheckF;rw [if_pos h]
theorem wcheckF_big {w:Wv Kp2} (h:checkF w.ks=0) (h2:256<w.gens.length\/w.gens.length<w.its.length):wcheckF w=2:=by unfold wcheckF;rw [if_neg (by omega),if_pos h2]
theorem wcheckF_gen {w:Wv Kp2} (h:checkF w.ks=0) (h2:¬ (256<w.gens.length\/w.gens.length<w.its.length)) {g:Int} (hg:g∈w.gens) (hb:genOk g=false):wcheckF w=3:=by
 unfold wcheckF;rw [if_neg (by omega),if_neg h2,if_neg]
 intro e
 rw [List.all_eq_true.1 e g hg] at hb;cases hb
theorem wcheckF_its {w:Wv Kp2} (h:checkF w.ks=0) (h2:¬ (256<w.gens.length\/w.gens.length<w.its.length)) (hg:∀ g∈w.gens,genOk g=true):wcheckF w=if itChk w.ks w.gens (-1) w.its=true then 0 else 3:=by
 unfold wcheckF;rw [if_neg (by omega),if_neg h2,if_pos (List.all_eq_true.2 hg)]
set_option maxHeartbeats 3200000 in
theorem wcheck_any {w:World} {B:Nat} {x:Wd} (h:WdOk w B x):Calls Try.prog 32 #[x.v] w fun e w'=>e=.returned (.int i64 (wcheckF x.p))/\Below w.heap.size w w':=by
 obtain ⟨R,hR⟩:∃ R,R=wcheckF x.p:=⟨_,rfl⟩
 rw [<- hR]
 obtain ⟨kA,kn,kc,ks,gA,gn,gc,gens,iA,im,ic,its⟩:=x
 obtain ⟨hk,hg,hi⟩:=h
 dsimp only at hk hg hi
 show Calls Try.prog 32 #[.agg #[.slice kA kn kc,.slice gA gn gc,.slice iA im ic]] w _
 have hgc:=hg.cap
 have hgc2:=hg.cap2
 have hic:=hi.cap
 have hic2:=hi.cap2
 have hb1:=(Below.refl w.heap.size w).alloc (Nat.le_refl _) (.cells #[.slice kA kn kc,.slice gA gn gc,.slice iA im ic] 52)
 have hk1:=Bk.new w 52 #[.slice kA kn kc,.slice gA gn gc,.slice iA im ic]
 have h1:=hk.below (hb1.mono hk.lo)
 have hck:=check_any kA kn kc B ks _ h1.rd h1.len h1.cap h1.cap2 h1.ok h1.lo
 obtain ⟨cv,hcv⟩:∃ cv,cv=checkF (ks.map Kd.p):=⟨_,rfl⟩
 rw [<- hcv] at hck
 have HCV:=hid hcv
 have HR:=hid hR
 have HK:=hid hk
 have HG:=hid hg
 have HI:=hid hi
 have HB1:=hid hb1
 have HK1:=hid hk1
 have HCK:=hid hck
 clear hR hk hg hi hb1 hk1 h1 hck hcv
 go_enter Try.func32,Try.ntmps32
 go_wp2_with fail
 (with_reducible refine HCK.out.mono ?_)
 rintro e w2 ⟨rfl,hb2⟩
 have hk2:=HK1.out.below hb2 HK1.out.lt
 have HB2:=hid (HB1.out.trans (hb2.mono HB1.out.size))
 have c0:w2.cell? ⟨w.heap.size,0,none⟩=some (.slice kA kn kc):=hk2.cell 0
 have c1:w2.cell? ⟨w.heap.size,1,none⟩=some (.slice gA gn gc):=hk2.cell 1
 have c2:w2.cell? ⟨w.heap.size,2,none⟩=some (.slice iA im ic):=hk2.cell 2
 have HK2:=hid hk2
 clear hk2 hb2 HB1 HK1 HCK
 have hB:=HK.out.lo
 by_cases hc0:cv=0
 . subst hc0
   by_cases hg256:256<gn
   . have hz:(256:Int)<gn:=by omega
     have hRR:R=2:=by
      rw [HR.out]
      exact wcheckF_big HCV.out.symm (.inl (by show 256<gens.length;have:=HG.out.len;omega))
     subst hRR
     go_wp2_with fail
     go_ret
     exact ⟨rfl,HB2.out⟩
   . have hz:¬ (256:Int)<gn:=by omega
     by_cases hgi:gn<im
     . have hz2:(gn:Int)<im:=by omega
       have hRR:R=2:=by
        rw [HR.out]
        exact wcheckF_big HCV.out.symm (.inr (by show gens.length<(its.map It.p).length;have:=HG.out.len;have:=HI.out.len;rw [List.length_map];omega))
       subst hRR
       go_wp2_with fail
       go_ret
       exact ⟨rfl,HB2.out⟩
     . have hz2:¬ (gn:Int)<im:=by omega
       have HNB:Hid (¬ (256<gens.length\/gens.length<(its.map It.p).length)):=hid (by have:=HG.out.len;have:=HI.out.len;rw [List.length_map];omega)
       go_wp2_with fail
       go_loopw [31] (fun iv wr=>∃ k:Nat,k<=gn/\iv=.int i64 k/\Hid (∀ g∈gens.take k,genOk g=true)/\w2=wr) (fun iv _=>gn-(intOf iv).toNat)
       case atStart=>exact ⟨0,Nat.zero_le _,rfl,hid (fun g hg=>by simp at hg),rfl⟩
       case round =>
        obtain ⟨k,hk,rfl,HA,rfl⟩:=hrel
        by_cases hlt:k<gn
        . obtain ⟨g,hg⟩:∃ g,gens[k]?=some g:=⟨_,List.getElem?_eq_getElem (by have:=HG.out.len;omega)⟩
          obtain ⟨b,o,rfl,hbb,q0⟩:=((HG.out.rd).below (HB2.out.mono HG.out.lo)).at1 hlt (u:=.int i64 g) (by rw [List.getElem?_map,hg];rfl)
          have HGK:=hid hg
          have hkz:(k:Int)<gn:=by omega
          clear hg
          by_cases h0:g<0
          . have hRR:R=3:=by
             rw [HR.out]
             exact wcheckF_gen HCV.out.symm HNB.out (List.mem_of_getElem? HGK.out) (by unfold genOk;rw [decide_eq_false (show ¬ 0<=g by omega)];rfl)
            subst hRR
            go_wp2_with fail
            go_ret
            exact ⟨rfl,HB2.out⟩
          . by_cases hM:1073741824<g
            . have hRR:R=3:=by
               rw [HR.out]
               exact wcheckF_gen HCV.out.symm HNB.out (List.mem_of_getElem? HGK.out) (by unfold genOk;rw [decide_eq_false (show ¬ g<=1073741824 by omega)];simp)
              subst hRR
              go_wp2_with fail
              go_ret
              exact ⟨rfl,HB2.out⟩
            . go_wp2_with fail
              go_roundw
              case measure=>simp [intOf];omega
              case rel=>exact ⟨k+1,by omega,by go_num,hid (fun y hy=>by
               rw [List.take_add_one,HGK.out] at hy
               rcases List.mem_append.1 hy with hy | hy
               . exact HA.out y hy
               . have e:y=g:=by simpa using hy
                 rw [e];unfold genOk;rw [decide_eq_true (show 0<=g by omega),decide_eq_true (show g<=1073741824 by omega)];rfl),trivial⟩
        . obtain rfl:gn=k:=by omega
          have HRI:Hid (R=if itChk (ks.map Kd.p) gens (-1) ((its.drop 0).map It.p)=true then 0 else 3):=hid (by
           have hA:=HA.out
           rw [List.take_of_length_le (by rw [<- HG.out.len];omega)] at hA
           rw [HR.out,List.drop_zero]
           exact wcheckF_its HCV.out.symm HNB.out hA)
          clear HA HR
          go_wp2_with fail
          go_loopw [6,45] (fun lv iv wr=>∃ (i:Nat) (lst:Int),i<=im/\iv=.int i64 i/\lv=.int i64 lst /\ -1<=lst/\Hid (R=if itChk (ks.map Kd.p) gens lst ((its.drop i).map It.p)=true then 0 else 3)/\Hid (Below w2.heap.size w2 wr)) (fun _ iv _=>im-(intOf iv).toNat)
          case atStart=>exact ⟨0,-1,Nat.zero_le _,rfl,rfl,by omega,HRI,hid (Below.refl _ _)⟩
          case round =>
           clear HRI c0 c1 c2
           obtain ⟨i,lst,hi,rfl,rfl,hl1,HRI,HW⟩:=hrel
           by_cases hil:i<im
           . obtain ⟨x,hx⟩:∃ x,its[i]?=some x:=⟨_,List.getElem?_eq_getElem (by have:=HI.out.len;omega)⟩
             have hrr:=HRI.out
             rw [List.drop_eq_getElem_cons (by have:=HI.out.len;omega),(List.getElem?_eq_some_iff.1 hx).2,List.map_cons] at hrr
             have hrr2:R=if (itOne (ks.map Kd.p) gens lst x.p&&itChk (ks.map Kd.p) gens x.e ((its.drop (i+1)).map It.p))=true then 0 else 3:=hrr
             have hbw:Below B w wr:=(HB2.out.mono hB).trans (HW.out.mono (Nat.le_trans hB HB2.out.size))
             obtain ⟨b,o,rfl,hbb,q0,q1,q2⟩:=(HI.out.below hbw).rd.it hil hx
             have hxo:=(HI.out.below hbw).ok x (List.mem_of_getElem? hx)
             have hxr:=bounds_i64 hxo.wf1
             have hiz:(i:Int)<im:=by omega
             obtain ⟨xe,hxe⟩:∃ v,v=x.e:=⟨_,rfl⟩
             obtain ⟨xg,hxg⟩:∃ v,v=x.g:=⟨_,rfl⟩
             obtain ⟨xA,hxA⟩:∃ v,v=x.A:=⟨_,rfl⟩
             obtain ⟨xn,hxn⟩:∃ v,v=x.n:=⟨_,rfl⟩
             obtain ⟨xc,hxc⟩:∃ v,v=x.c:=⟨_,rfl⟩
             rw [<- hxe] at q0 hxr hrr2
             rw [<- hxg] at q1
             rw [<- hxA,<- hxn,<- hxc] at q2
             have hcso:=hxo.cs
             rw [<- hxA,<- hxn,<- hxc] at hcso
             have HP:Hid (x.p=((xe,xg),x.cms.map Cm.p)):=hid (by rw [hxe,hxg];rfl)
             have HCS:=hid hcso
             have HRR:=hid hrr2
             have HKW:=hid (HK.out.below hbw)
             have HGW:=hid (HG.out.below hbw)
             have hb1:=(Below.refl wr.heap.size wr).alloc (Nat.le_refl _) (.cells #[.int i64 xe,.int i64 xg,.slice xA xn xc] 147)
             have hh1:=Bk.new wr 147 #[.int i64 xe,.int i64 xg,.slice xA xn xc]
             have hkd:Bk (wr.alloc (.cells #[.int i64 xe,.int i64 xg,.slice xA xn xc] 147)) w.heap.size 52 #[.slice kA kn kc,.slice gA gn gc,.slice (some ⟨b,o,none⟩) im ic]:=(HK2.out.below HW.out HK2.out.lt).alloc _
             have HB1w:=hid (HB2.out.trans ((HW.out.trans (hb1.mono HW.out.size)).mono HB2.out.size))
             have HBB:=hid (hb1.mono (Nat.le_trans hB hbw.size))
             have HW1:=hid (HW.out.trans (hb1.mono HW.out.size))
             have HH1:=hid hh1
             have HKD:=hid hkd
             have hBr:=hbw.size
             clear hx hrr hrr2 hxo hcso hxe hxg hxA hxn hxc hb1 hh1 hkd hbw HRI
             by_cases hA:xe<=lst
             . have hRf:R=3:=by
                rw [HRR.out,HP.out];unfold itOne
                rw [decide_eq_false (show ¬ lst<xe by omega),Bool.false_and,Bool.false_and];rfl
               subst hRf
               have t0:decide (xe<=lst)=true:=decide_eq_true hA
               go_wp2_with fail
               generalize wr.alloc (.cells #[.int i64 xe,.int i64 xg,.slice xA xn xc] 147)=W1 at *
               generalize wr.heap.size=hh at *
               have e0:W1.cell? ⟨hh,0,none⟩=some (.int i64 xe):=HH1.out.cell 0
               go_quiet (fail)
               have HWn:=hid (below_dn HB1w.out nq)
               go_wp2_with fail
               go_ret
               exact ⟨rfl,HWn.out⟩
             . obtain ⟨N,rfl⟩:∃ N:Nat,xe=N:=⟨xe.toNat,by omega⟩
               have t0:decide ((N:Int)<=lst)=false:=decide_eq_false hA
               by_cases hBn:gn<=N
               . have hRf:R=3:=by
                  rw [HRR.out,HP.out];unfold itOne
                  rw [Int.toNat_natCast,List.getElem?_eq_none (by rw [<- HG.out.len];exact hBn)]
                  simp
                 subst hRf
                 have t1:decide ((gn:Int)<=N)=true:=decide_eq_true (by omega)
                 have t1':decide (gn<=N)=true:=decide_eq_true hBn
                 go_wp2_with fail
                 generalize wr.alloc (.cells #[.int i64 (N:Int),.int i64 xg,.slice xA xn xc] 147)=W1 at *
                 generalize wr.heap.size=hh at *
                 have e0:W1.cell? ⟨hh,0,none⟩=some (.int i64 N):=HH1.out.cell 0
                 have e1:W1.cell? ⟨w.heap.size,1,none⟩=some (.slice gA gn gc):=HKD.out.cell 1
                 go_quiet (fail)
                 have HWn:=hid (below_dn HB1w.out nq)
                 go_wp2_with fail
                 go_ret
                 exact ⟨rfl,HWn.out⟩
               . have t1:decide ((gn:Int)<=N)=false:=decide_eq_false (by omega)
                 have t1':decide (gn<=N)=false:=decide_eq_false hBn
                 have hNz:(N:Int)<gn:=by omega
                 obtain ⟨g,hg⟩:∃ g,gens[N]?=some g:=⟨_,List.getElem?_eq_getElem (by have:=HG.out.len;omega)⟩
                 obtain ⟨gb,go,rfl,hgb,g0⟩:=HGW.out.rd.at1 (k:=N) (by omega) (u:=.int i64 g) (by rw [List.getElem?_map,hg];rfl)
                 have g1:=(HBB.out.cell (p:=⟨gb,go+N,none⟩) hgb).trans g0
                 have hone:itOne (ks.map Kd.p) gens lst x.p=(decide (g=xg)&&(decide (xg≠1073741824)&&heldF (ks.map Kd.p) (-1) (x.cms.map Cm.p))):=by
                  rw [HP.out];unfold itOne
                  rw [decide_eq_true (show lst<(N:Int) by omega),Int.toNat_natCast,hg,Bool.true_and]
                  simp
                 have HON:=hid hone
                 clear hone g0 hg
                 by_cases hC:g=xg
                 . subst hC
                   have t2:(g != g)=false:=by simp
                   by_cases hD:g=1073741824
                   . have hRf:R=3:=by
                      rw [HRR.out,HON.out]
                      simp [hD]
                     subst hRf
                     have t3:(g == 1073741824)=true:=by simp [hD]
                     clear hD
                     go_wp2_with fail
                     generalize wr.alloc (.cells #[.int i64 (N:Int),.int i64 g,.slice xA xn xc] 147)=W1 at *
                     generalize wr.heap.size=hh at *
                     have e0:W1.cell? ⟨hh,0,none⟩=some (.int i64 N):=HH1.out.cell 0
                     have e2:W1.cell? ⟨hh,1,none⟩=some (.int i64 g):=HH1.out.cell 1
                     have e1:W1.cell? ⟨w.heap.size,1,none⟩=some (.slice (some ⟨gb,go,none⟩) gn gc):=HKD.out.cell 1
                     go_quiet (fail)
                     have HWn:=hid (below_dn HB1w.out nq)
                     go_wp2_with fail
                     go_ret
                     exact ⟨rfl,HWn.out⟩
                   . have t3:(g == 1073741824)=false:=by simp [hD]
                     obtain ⟨hv,hhv⟩:∃ hv,hv=heldF (ks.map Kd.p) (-1) (x.cms.map Cm.p):=⟨_,rfl⟩
                     have HRX:Hid (R=if (hv&&itChk (ks.map Kd.p) gens N ((its.drop (i+1)).map It.p))=true then 0 else 3):=hid (by
                      rw [HRR.out,HON.out,<- hhv,decide_eq_true rfl,decide_eq_true hD,Bool.true_and,Bool.true_and])
                     have hho:=fun wx (hbx:Below B wr wx)=>held_any (HKW.out.below hbx) (HCS.out.below hbx)
                     rw [<- hhv] at hho
                     have HHO:=hid hho
                     clear hho hhv hD HRR HON HP HCS HGW HKW
                     go_wp2_with fail
                     generalize wr.alloc (.cells #[.int i64 (N:Int),.int i64 g,.slice xA xn xc] 147)=W1 at *
                     generalize wr.heap.size=hh at *
                     have e0:W1.cell? ⟨hh,0,none⟩=some (.int i64 N):=HH1.out.cell 0
                     have e2:W1.cell? ⟨hh,1,none⟩=some (.int i64 g):=HH1.out.cell 1
                     have e3:W1.cell? ⟨hh,2,none⟩=some (.slice xA xn xc):=HH1.out.cell 2
                     have e4:W1.cell? ⟨w.heap.size,0,none⟩=some (.slice kA kn kc):=HKD.out.cell 0
                     have e1:W1.cell? ⟨w.heap.size,1,none⟩=some (.slice (some ⟨gb,go,none⟩) gn gc):=HKD.out.cell 1
                     go_still_tail 38,(by kernel_rfl)
                     change wpList _ _ _ _ _ W1.drew
                     have HHD:Hid (Bk W1.drew hh 147 #[.int i64 (N:Int),.int i64 g,.slice xA xn xc]):=hid HH1.out.drew
                     have HBD:Hid (Below w.heap.size w W1.drew):=hid HB1w.out.drew
                     have HHO2:=hid (HHO.out _ HBB.out.drew)
                     have HBW2:Hid (Below w2.heap.size w2 W1.drew):=hid HW1.out.drew
                     clear HHO e0 e1 e2 e3 e4 g1 HH1 HB1w HBB HKD
                     generalize W1.drew=W2 at *
                     go_wp2_with fail
                     (with_reducible refine HHO2.out.mono ?_)
                     rintro e w3 ⟨rfl,hb3⟩
                     have hh3:=HHD.out.below hb3 HHD.out.lt
                     have e0:w3.cell? ⟨hh,0,none⟩=some (.int i64 N):=hh3.cell 0
                     have HB3:=hid (HBD.out.trans (hb3.mono HBD.out.size))
                     have HB3w:=hid (HBW2.out.trans (hb3.mono HBW2.out.size))
                     clear hb3 hh3
                     cases hv
                     . have hRf:R=3:=by rw [HRX.out];rfl
                       subst hRf
                       go_wp2_with fail
                       go_ret
                       exact ⟨rfl,HB3.out⟩
                     . have HRN:Hid (R=if itChk (ks.map Kd.p) gens N ((its.drop (i+1)).map It.p)=true then 0 else 3):=hid (by rw [HRX.out];rfl)
                       go_wp2_with fail
                       go_roundw
                       case measure=>simp [intOf];omega
                       case rel=>exact ⟨i+1,N,by omega,by go_num,rfl,by omega,HRN,HB3w⟩
                 . have hRf:R=3:=by
                    rw [HRR.out,HON.out,decide_eq_false hC];rfl
                   subst hRf
                   have t2:(xg != g)=true:=by simp;omega
                   go_wp2_with fail
                   generalize wr.alloc (.cells #[.int i64 (N:Int),.int i64 xg,.slice xA xn xc] 147)=W1 at *
                   generalize wr.heap.size=hh at *
                   have e0:W1.cell? ⟨hh,0,none⟩=some (.int i64 N):=HH1.out.cell 0
                   have e2:W1.cell? ⟨hh,1,none⟩=some (.int i64 xg):=HH1.out.cell 1
                   have e1:W1.cell? ⟨w.heap.size,1,none⟩=some (.slice (some ⟨gb,go,none⟩) gn gc):=HKD.out.cell 1
                   go_quiet (fail)
                   have HWn:=hid (below_dn HB1w.out nq)
                   go_wp2_with fail
                   go_ret
                   exact ⟨rfl,HWn.out⟩
           . obtain rfl:i=im:=by omega
             have hR2:=HRI.out
             rw [List.drop_of_length_le (by rw [<- HI.out.len];omega)] at hR2
             have hR3:R=0:=by rw [hR2];rfl
             subst hR3
             have HWf:=hid (HB2.out.trans (HW.out.mono HB2.out.size))
             go_wp2_with fail
             go_ret
             exact ⟨rfl,HWf.out⟩
 . have hRR:R=cv:=by rw [HR.out,wcheckF_ks (show checkF (ks.map Kd.p)≠0 from fun e=>hc0 (by rw [HCV.out];exact e)),HCV.out];rfl
   subst hRR
   have hcb:(R != 0)=true:=by simp [hc0]
   go_wp2_with fail
   go_ret
   exact ⟨rfl,HB2.out⟩
def namedF (ks:List (ByteArray × List Fd)) (nm:ByteArray) (ns:List ByteArray):Int × Bool :=
 if findF (ks.map (·.1)) nm<0 then (-1,true) else
 match ks[(findF (ks.map (·.1)) nm).toNat]? with
 | some k=>(findF (ks.map (·.1)) nm,decide (k.2.map Fd.nm=ns))
 | none=>(-1,true)
theorem T.info9:(Try.prog.info? 9).map (fun i=>(i.zero,i.size,i.bytes))=some (some (.string ByteArray.empty),1,16):=by kernel_rfl
theorem Bk.new2 (w:World) (o:Obj) (t:TypeId) (cs:Array Value):Bk ((w.alloc o).alloc (.cells cs t)) (w.heap.size+1) t cs:=by simpa using Bk.new (w.alloc o) t cs
theorem below_drewN {B:Nat} {w w':World} (h:Below B w w') (q:Nat):Below B w (w'.drewN q):=by
 cases h
 constructor <;> assumption
theorem strV_append (a b:List ByteArray):strV (a++b)=strV a++strV b:=by simp [strV]
set_option maxHeartbeats 1600000 in
theorem named_any (A SA:Option Addr) (n c m sc B:Nat) (ks:List Kd) (nm:ByteArray) (ns:List ByteArray) (w:World) (hr:Rd w B 2 A n (kdCs ks)) (hn:n=ks.length) (hc:n<=c) (hc2:c<=9223372036854775807) (hks:∀ k∈ks,KdOk w B k) (hsm:∀ k∈ks,k.n<=1048576)
 (hs:Rd w B 1 SA m (strV ns)) (hm:m=ns.length) (hB:B<=w.heap.size) :
 Calls Try.prog 154 #[.slice A n c,.string nm,.slice SA m sc] w fun e w'=>e=.returned (.tuple #[.int i64 (namedF (ks.map Kd.p) nm ns).1,.bool (namedF (ks.map Kd.p) nm ns).2])/\Below w.heap.size w w':=by
 obtain ⟨i0,hi0,hz0,hz1,hz2⟩:=info_parts T.info9
 obtain ⟨R,hR⟩:∃ R,R=namedF (ks.map Kd.p) nm ns:=⟨_,rfl⟩
 rw [<- hR]
 have HR:=hid hR
 have HN:=hid hn
 have HM:=hid hm
 have HRD:=hid hr
 have HSD:=hid hs
 have HKS:=hid hks
 have HSM:=hid hsm
 have HBB:=hid hB
 clear hr hn hR hks hs hm hsm
 clear hB
 go_enter Try.func154,Try.ntmps154
 go_wp2_with fail
 go_loopg [15] n (fun g v wr=>∃ k:Nat,k<=n/\g=n-k/\v=.int i64 k/\Hid (∀ i,i<k->∀ x,(ks.map Kd.nm)[i]?=some x->x≠nm)/\Hid (Below w.heap.size w wr))
 case atStart=>exact ⟨0,Nat.zero_le _,rfl,rfl,hid (fun i hi=>by omega),hid (Below.refl _ _)⟩
 case round =>
  obtain ⟨k,hk,rfl,rfl,HNE,HW⟩:=hrel
  by_cases hkn:k<n
  . obtain ⟨f,hf⟩:∃ f,ks[k]?=some f:=⟨_,List.getElem?_eq_getElem (by have:=HN.out;omega)⟩
    have hrw:Rd wr B 2 A n (kdCs ks):=HRD.out.below (HW.out.mono HBB.out)
    obtain ⟨b,o,hA,hbB,c0,c1⟩:=hrw.kd hkn hf
    subst hA
    have HF:Hid ((ks.map Kd.nm)[k]?=some f.nm):=hid (by rw [List.getElem?_map,hf];rfl)
    have HFP:Hid ((ks.map Kd.p)[k]?=some (f.nm,f.fds)):=hid (by rw [List.getElem?_map,hf];rfl)
    have HFO:=hid (HKS.out f (List.mem_of_getElem? hf))
    have hfs:=HSM.out f (List.mem_of_getElem? hf)
    have HFR:=hid HFO.out.rd
    have HFL:=hid HFO.out.len
    have hkz:(k:Int)<n:=by omega
    have hkz0:(0:Int)<=k:=by omega
    clear hrw hf HFO
    generalize f.nm=fn at *
    generalize f.A=fA at *
    generalize f.n=fl at *
    generalize f.c=fc at *
    by_cases hgf:fn=nm
    . subst hgf
      have HRK:Hid (R=((k:Int),decide (f.fds.map Fd.nm=ns))):=hid (by
       rw [HR.out,namedF,kdp_nm,findF_hit HF.out HNE.out,if_neg (by omega),Int.toNat_natCast,HFP.out])
      clear HNE
      have hk1:=(HW.out.alloc HW.out.size (.cells #[.string fn,.slice fA fl fc] 63))
      have HK1:=hid hk1
      clear hk1
      go_wp2_with fail
      go_loopw [10,27] (fun out v wi=>∃ (j:Nat) (A2:Option Addr) (c2:Nat),j<=fl/\v=.int i64 j/\out=.slice A2 j c2/\wi.ownsRow w.heap.size 9 1 (.slice A2 j c2) j (strV ((f.fds.map Fd.nm).take j))/\Below w.heap.size w wi) (fun _ v _=>fl-(intOf v).toNat)
      case atStart=>exact ⟨0,none,0,Nat.zero_le _,rfl,rfl,World.ownsRow_nil _ _ _ _,HK1.out⟩
      case round =>
       obtain ⟨j,A2,c2,hj,rfl,rfl,hown,hb⟩:=hrel
       clear c0 c1
       have hsz:=hb.size
       by_cases hjl:j<fl
       . obtain ⟨fd,hfd⟩:∃ fd,f.fds[j]?=some fd:=⟨_,List.getElem?_eq_getElem (by have:=HFL.out;omega)⟩
         have hfw:Rd wr B 3 fA fl (fdCs f.fds):=HFR.out.below (hb.mono HBB.out)
         obtain ⟨b2,o2,hA2,hbB2,d0,d1,d2⟩:=hfw.fd hjl hfd
         subst hA2
         have HS:Hid ((f.fds.map Fd.nm).take (j+1)=(f.fds.map Fd.nm).take j++[fd.nm]):=hid (by rw [List.take_add_one,List.getElem?_map,hfd];rfl)
         have hjz:(j:Int)<fl:=by omega
         have hjz0:(0:Int)<=j:=by omega
         clear hfw hfd
         generalize fd.nm=gn at *
         generalize fd.bits=gb at *
         generalize fd.low=gl at *
         go_wp2_with
          (at_builtin
           go_must (refine wpList_append_one _ rfl (.tmp 31) (.tmp 34) _ rfl w.heap.size 9 i0 (.string ByteArray.empty) 1 16 Try.underlying108 hi0 hz0 hz1 hz2 rfl (by decide) (.slice A2 j c2) j _ rfl ((hown.alloc _).alloc _) _ 1 9 #[.string gn] rfl (Bk.new2 _ _ _ _) rfl ?c1 (j+1) rfl ?c2 ?c3 ?c4 ?_)
           case c1=>simp [Value.oneCell']
           case c2=>unfold maxLen;omega
           case c3=>omega
           case c4=>simp;omega
           intro g5 cc5 w5 hown5 hg5 hat5)
         go_roundw
         case measure=>simp [intOf];omega
         case rel =>
          refine ⟨j+1,_,cc5,by omega,by go_num,rfl,?_,((hb.alloc hsz _).alloc (by simp;omega) _).grown hg5 (by simp;omega) (fun q hq=>(hown.lt q hq).1)⟩
          rw [HS.out,strV_append]
          exact hown5
       . obtain rfl:j=fl:=by omega
         have hfull:(f.fds.map Fd.nm).take j=f.fds.map Fd.nm:=List.take_of_length_le (by rw [List.length_map,<- HFL.out];exact Nat.le_refl _)
         rw [hfull] at hown
         have heq:=equalSS_any A2 SA j c2 m sc wr.heap.size (f.fds.map Fd.nm) ns wr (by rw [List.length_map,<- HFL.out]) HM.out (by omega) (Rd.of_own hown) ((HSD.out.below (hb.mono HBB.out)).more (Nat.le_trans HBB.out hsz))
         have HEQ:=hid heq
         have HBI:=hid hb
         clear heq hfull hb hown
         go_wp2_with fail
         refine HEQ.out.mono ?_
         rintro e w6 ⟨rfl,q,rfl⟩
         go_wp2_with fail
         go_ret2
         rw [HRK.out]
         exact ⟨rfl,below_drewN HBI.out q⟩
    . have hgb:(fn == nm)=false:=ba_beq_ne hgf
      have hgl:(fn.toList == nm.toList)=false:=ba_tl_ne hgf
      have hgb':(nm == fn)=false:=ba_beq_ne fun e=>hgf e.symm
      have hgl':(nm.toList == fn.toList)=false:=ba_tl_ne fun e=>hgf e.symm
      go_wp2_with fail
      go_roundg (n-(k+1))
      case measure=>omega
      case rel=>exact ⟨k+1,by omega,rfl,by go_num,hid fun i hi x hx=>by
       rcases Nat.lt_or_ge i k with h | h
       . exact HNE.out i h x hx
       . obtain rfl:i=k:=by omega
         rw [HF.out] at hx
         injection hx with hx
         rw [<- hx];exact hgf,hid (HW.out.alloc HW.out.size _)⟩
  . obtain rfl:k=n:=by omega
    go_wp2_with fail
    go_ret2
    have hno:findF (ks.map Kd.nm) nm = -1:=findF_none fun i hi x hx=>HNE.out i (by rw [List.length_map,<- HN.out] at hi;exact hi) x hx
    rw [HR.out,namedF,kdp_nm,hno,if_pos (by decide)]
    exact ⟨rfl,HW.out⟩
end Go.Proofs.Ytnidcmhfbkdioaa
