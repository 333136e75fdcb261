/-
  Lemmas for the walk, merged (Ce Cf). No condition but those in each statement.
-/
import Derived.Lib.SliceRun
import Derived.Test.YtnidcmhfbkdioaaSw24
import Derived.Test.YtnidcmhfbkdioaaSw11
namespace Go.Proofs.Ytnidcmhfbkdioaa
open Go.RowKit
open Go.IntKind (i64)
open Go.Lib (hid)
set_option maxRecDepth 100000
theorem grown_cellsC (w:World) (g o:Nat) (vs:List Value):w.grownBy (w.setCells g o vs) (some g):=by
 induction vs generalizing w o with
 | nil=>exact ⟨rfl,rfl,rfl,Nat.le_refl _,fun _ _ _=>rfl⟩
 | cons v r ih =>
   have h:=ih (w.setCell ⟨g,o,none⟩ v) (o+1)
   have h0:w.grownBy (w.setCell ⟨g,o,none⟩ v) (some g):=Gb.set_ ⟨rfl,rfl,rfl,Nat.le_refl _,fun _ _ _=>rfl⟩ o v
   exact ⟨h.os.trans h0.os,h.tape.trans h0.tape,h.output.trans h0.output,Nat.le_trans h0.size h.size,fun k hk hne=>(h.block k (Nat.lt_of_lt_of_le hk h0.size) hne).trans (h0.block k hk hne)⟩
theorem clo236_any (x:Int) (w:World):Calls Try.prog 236 #[.int i64 x] w fun e w'=>e=.returned (.bool (decide (x=0)))/\w'=w:=by
 obtain ⟨d,hd⟩:∃ d,d=decide (x=0):=⟨_,rfl⟩
 have t0:(x == 0)=d:=by rw [hd];rw [Bool.eq_iff_iff];simp
 rw [<- hd]
 clear hd
 cases d
 all_goals
  go_enter Try.func236,Try.ntmps236
  go_wp2_with fail
  go_ret
  exact ⟨rfl,rfl⟩
set_option maxHeartbeats 1600000 in
theorem idx248_any {w:World} {B n c:Nat} {A:Option Addr} {xs:List Int} (h:Rd w B 1 A n (xs.map (Value.int .i64))) (hlen:n=xs.length) (hcap:n<=c) (hcap2:c<=9223372036854775807) :
 Calls Try.prog 248 #[.slice A n c,.func (.func 236) #[] #[]] w fun e w'=>(∃ r:Int,e=.returned (.int i64 r)/\(r = -1\/∃ k:Nat,r=k/\k<n))/\w'=w:=by
 have HK:Hid (Rd w B 1 A n (xs.map (Value.int .i64))/\n=xs.length):=hid ⟨h,hlen⟩
 have HC:=hid clo236_any
 clear h hlen
 go_enter Try.func248,Try.ntmps248
 go_wp2_with fail
 go_loopw [8] (fun i wr=>∃ k:Nat,k<=n/\i=.int i64 k/\wr=w) (fun i _=>n-(intOf i).toNat)
 case atStart=>exact ⟨0,Nat.zero_le _,rfl,rfl⟩
 case round =>
  obtain ⟨k,hk,rfl,rfl⟩:=hrel
  by_cases hlt:k<n
  . have hkz:(k:Int)<n:=by omega
    obtain ⟨x,hx⟩:∃ x,xs[k]?=some x:=⟨_,List.getElem?_eq_getElem (by have:=HK.out.2;omega)⟩
    obtain ⟨b,o,rfl,hb,hc⟩:=HK.out.1.at1 hlt (u:=.int i64 x) (by rw [List.getElem?_map,hx];rfl)
    by_cases hx0:x=0
    . subst hx0
      go_wp2_with fail
      (with_reducible refine (HC.out 0 _).mono ?_)
      rintro e w1 ⟨rfl,rfl⟩
      go_wp2_with fail
      go_ret
      exact ⟨⟨_,rfl,.inr ⟨k,rfl,hlt⟩⟩,rfl⟩
    . have t0:decide (x=0)=false:=by simp [hx0]
      clear hx0
      go_wp2_with fail
      (with_reducible refine (HC.out x _).mono ?_)
      rintro e w1 ⟨rfl,rfl⟩
      rw [t0]
      go_wp2_with fail
      go_roundw
      case rel=>first | exact ⟨k+1,by omega,by go_num,rfl⟩ | exact ⟨k+1,by omega,by go_num,trivial⟩
      case measure=>simp [intOf];omega
  . obtain rfl:n=k:=by omega
    go_wp2_with fail
    go_ret
    exact ⟨⟨_,rfl,.inl rfl⟩,rfl⟩
set_option maxHeartbeats 4000000 in
theorem del235_any {w:World} {base n c:Nat} {A:Option Addr} {xs:List Int} (h:w.ownsRow base 3 1 (.slice A n c) n (xs.map (Value.int .i64))) :
 Calls Try.prog 235 #[.slice A n c,.func (.func 236) #[] #[]] w fun e w'=>(∃ m:Nat,e=.returned (.slice A m c)/\m<=n)/\∃ F:List Nat,(∀ k∈F,(Value.slice A n c).ownBlock=some k)/\Fq F w w':=by
 have hcp:=own_cap2 h
 have hcap:=hcp.1
 have hcap2:=hcp.2
 have hlen:n=xs.length:=by have:=h.1;simpa using this.symm
 have HI:=hid (idx248_any (Rd.of_own h) hlen hcap hcap2)
 have HO:=hid h
 have HC:=hid clo236_any
 have HL:=hid hlen
 clear hcp h hlen
 go_enter Try.func235,Try.ntmps235
 go_wp2_with fail
 (with_reducible refine HI.out.mono ?_)
 rintro e w1 ⟨⟨r,rfl,hr⟩,rfl⟩
 rcases hr with rfl | ⟨i0,rfl,hi0⟩
 . go_wp2_with fail
   go_ret
   exact ⟨⟨n,rfl,Nat.le_refl _⟩,[],(fun k hk=>by cases hk),Fq.refl⟩
 . obtain ⟨g,rfl⟩:∃ g,A=some ⟨g,0,none⟩:=by
    obtain ⟨g,cap,hvv,_,_⟩:=HO.out.form (by omega)
    injection hvv with h1
    exact ⟨g,h1⟩
   have hm1:((i0:Int) == -1)=false:=by simp <;> omega
   have hiz:(i0:Int)<n:=by omega
   have hwr:wrap64 ((i0:Int)+1)=(i0:Int)+1:=wrap_small (by omega) (by omega)
   clear HI
   go_wp2_with fail
   go_loopw [5,6] (fun iv jv wr=>∃ (i j:Nat) (ys:List Int),i<j/\j<=n/\iv=.int i64 i/\jv=.int i64 j/\Hid (wr.ownsRow base 3 1 (.slice (some ⟨g,0,none⟩) n c) n (ys.map (Value.int .i64))/\n=ys.length)/\Hid (Fq [g] w1 wr)) (fun _ jv _=>n-(intOf jv).toNat)
   case atStart=>exact ⟨i0,i0+1,xs,by omega,by omega,rfl,by go_num,hid ⟨HO.out,HL.out⟩,hid Fq.refl⟩
   case round =>
    obtain ⟨i,j,ys,hij,hj,rfl,rfl,HY,HQ⟩:=hrel
    by_cases hlt:j<n
    . have hjz:(j:Int)<n:=by omega
      have hiz2:(i:Int)<n:=by omega
      obtain ⟨y,hy⟩:∃ y,ys[j]?=some y:=⟨_,List.getElem?_eq_getElem (by have:=HY.out.2;omega)⟩
      obtain ⟨b,o,hA,hb,hc⟩:=(Rd.of_own HY.out.1).at1 hlt (u:=.int i64 y) (by rw [List.getElem?_map,hy];rfl)
      injection hA with hA
      injection hA with h1 h2
      subst h1;subst h2
      rw [Nat.zero_add] at hc
      clear hy hb
      by_cases hy0:y=0
      . have t0:decide (y=0)=true:=by simp [hy0]
        clear hy0
        go_wp2_with fail
        (with_reducible refine (HC.out y _).mono ?_)
        rintro e w2 ⟨rfl,rfl⟩
        rw [t0]
        go_wp2_with fail
        go_roundw
        case rel=>exact ⟨i,j+1,ys,by omega,by omega,rfl,by go_num,HY,HQ⟩
        case measure=>simp [intOf];omega
      . have t0:decide (y=0)=false:=by simp [hy0]
        clear hy0
        obtain ⟨⟨q,hq⟩,hf⟩:=own_cellB HY.out.1 (j:=i) (by omega)
        have HS:Hid ((wr.setCell ⟨g,i,none⟩ (.int i64 y)).ownsRow base 3 1 (.slice (some ⟨g,0,none⟩) n c) n ((ys.set i y).map (Value.int .i64))/\n=(ys.set i y).length):=hid ⟨by rw [List.map_set];exact own_setB HY.out.1 (by omega) _,by rw [List.length_set];exact HY.out.2⟩
        have HQ2:Hid (Fq [g] w1 (wr.setCell ⟨g,i,none⟩ (.int i64 y))):=hid (HQ.out.set (.inl (by simp)) i _)
        go_wp2_with fail
        (with_reducible refine (HC.out y _).mono ?_)
        rintro e w2 ⟨rfl,rfl⟩
        rw [t0]
        go_wp2_with fail
        go_roundw
        case rel=>exact ⟨i+1,j+1,ys.set i y,by omega,by omega,by go_num,by go_num,HS,HQ2⟩
        case measure=>simp [intOf];omega
    . obtain rfl:n=j:=by omega
      have hin:(i:Int)<=n:=by omega
      have hic:(i:Int)<=c:=by omega
      have hcl:∀ ty,(Builtin.clear_ #[30] ty #[.slice (some ⟨g,i,none⟩) (n-i) (c-i)]).run Try.prog wr=.ok (.tuple #[]) (wr.setCells g i (List.replicate (n-i) (.int i64 0))):=fun ty=>Lib.run_clear_slice wr 30 3 ty _ Try.underlying30 (by intro w;kernel_rfl) (by rfl) (by rfl) g i _ _ (by omega) (fun t ht=>by obtain ⟨⟨u,hu⟩,_⟩:=own_cellB HY.out.1 (j:=i+t) (by omega);rw [hu];rfl) (fun t ht=>(own_cellB HY.out.1 (j:=i+t) (by omega)).2)
      have HF:Hid (Fq [g] w1 (wr.setCells g i (List.replicate (n-i) (.int i64 0)))):=hid (HQ.out.grown (grown_cellsC wr g i _) (fun k hk=>.inl (by injection hk with hk;simp [hk])))
      go_wp2_with fail
      go_ret
      exact ⟨⟨i,rfl,by omega⟩,[g],(fun k hk=>by rw [show k=g by simpa using hk];rfl),HF.out⟩
structure ArgI (w:World) (B s hp hs hk:Nat) (SA:Option Addr) (sn sc:Nat) (xs:List Int) (kA:Option Addr) (kn kc:Nat) (ks:List Kd):Prop where
 st:StrSt w B s
 bp:Bk w hp 187 #[.pointer (some ⟨s,0,none⟩)]
 bs:Bk w hs 30 #[.slice SA sn sc]
 bk:Bk w hk 22 #[.slice kA kn kc]
 rd:RdY w 0 3 1 SA sn (xs.map (Value.int .i64))
 cap:sn<=sc
 cap2:sc<=9223372036854775807
 pos:0<sn
 few:sn<=1000
 inn:∀ x∈xs,0<=x/\x<kn
 kd:KsY w 0 kA kn kc ks
 fd:∀ k∈ks,1<=k.n/\k.n<=8
section
variable {w w':World} {B s hp hs hk sn sc kn kc:Nat} {SA kA:Option Addr} {xs:List Int} {ks:List Kd}
theorem ArgI.fq (h:ArgI w B s hp hs hk SA sn sc xs kA kn kc ks) (hst:StrSt w' B s) (hq:Fq [s] w w'):ArgI w' B s hp hs hk SA sn sc xs kA kn kc ks:=by
 have hx:=Kx.fq (B':=0) hq h.st (Nat.zero_le _)
 exact ⟨hst,hx.bk h.bp (by decide),hx.bk h.bs (by decide),hx.bk h.bk (by decide),h.rd.keep hx (by decide),h.cap,h.cap2,h.pos,h.few,h.inn,h.kd.keep hx (by decide) (by decide),h.fd⟩
end
theorem arg_end {w w1 w2:World} {B s r:Nat} (hst:StrSt w2 B s) (_hB:B<=s) (hr:Bk w2 r 341 #[.bool false,.int i64 0,.int i64 0,.int i64 0]) (h2:Fq [s] w1 w2) (h1:Fq [s] w w1) (hrw:w.heap.size<=r) (hBw:B<=w.heap.size) (V0 V1 V2 V3:Value) :
 StrSt ((((w2.setCell ⟨r,0,none⟩ V0).setCell ⟨r,1,none⟩ V1).setCell ⟨r,2,none⟩ V2).setCell ⟨r,3,none⟩ V3) B s/\Fq [s] w ((((w2.setCell ⟨r,0,none⟩ V0).setCell ⟨r,1,none⟩ V1).setCell ⟨r,2,none⟩ V2).setCell ⟨r,3,none⟩ V3):=by
 have hk:Kx 0 [341] w2 ((((w2.setCell ⟨r,0,none⟩ V0).setCell ⟨r,1,none⟩ V1).setCell ⟨r,2,none⟩ V2).setCell ⟨r,3,none⟩ V3):=(((Kx.refl.set hr (Nat.zero_le _) (by simp) 0 V0).set (hr.set_ 0 V0) (Nat.zero_le _) (by simp) 1 V1).set ((hr.set_ 0 V0).set_ 1 V1) (Nat.zero_le _) (by simp) 2 V2).set (((hr.set_ 0 V0).set_ 1 V1).set_ 2 V2) (Nat.zero_le _) (by simp) 3 V3
 have hq:=h1.trans h2 (SubF.refl _ _)
 refine ⟨?_,(((hq.set (.inr hrw) 0 V0).set (.inr hrw) 1 V1).set (.inr hrw) 2 V2).set (.inr hrw) 3 V3⟩
 obtain ⟨A,n,c,zs,a1,a2,a3,a4,a5,a6⟩:=hst
 have hqx:∀ b,b<B->b≠r->((((w2.setCell ⟨r,0,none⟩ V0).setCell ⟨r,1,none⟩ V1).setCell ⟨r,2,none⟩ V2).setCell ⟨r,3,none⟩ V3).heap[b]?=w2.heap[b]?:=fun b _ hb=>by
  exact (((Below.heap_setCell _ _ _ _ hb).trans (Below.heap_setCell _ _ _ _ hb)).trans (Below.heap_setCell _ _ _ _ hb)).trans (Below.heap_setCell _ _ _ _ hb)
 refine ⟨A,n,c,zs,hk.bk a1 (by decide),a2,a3,a4,a5.keep fun b hb=>?_,a6⟩
 exact hqx b hb (by omega)
set_option maxHeartbeats 8000000 in
theorem arg237_any {w:World} {B s hp hs hkb sn sc kn kc:Nat} {SA kA:Option Addr} {xs:List Int} {ks:List Kd} (h:ArgI w B s hp hs hkb SA sn sc xs kA kn kc ks) (hB:B<=s) :
 Calls Try.prog 237 #[.pointer (some ⟨hp,0,none⟩),.pointer (some ⟨hs,0,none⟩),.pointer (some ⟨hkb,0,none⟩)] w fun e w'=>∃ (b:Bool) (x y z:Int),e=.returned (.agg #[.bool b,.int i64 x,.int i64 y,.int i64 z])/\StrSt w' B s/\Fq [s] w w':=by
 obtain ⟨W0,hW0⟩:∃ z,z=w.alloc (.cells #[.bool false,.int i64 0,.int i64 0,.int i64 0] 341):=⟨_,rfl⟩
 obtain ⟨r,hr⟩:∃ z,z=w.heap.size:=⟨_,rfl⟩
 have HQ0:Hid (Fq [s] w W0):=hid (by rw [hW0];exact Fq.of_below ((Below.refl _ _).alloc (Nat.le_refl _) _))
 have HB0:Hid (Below w.heap.size w W0):=hid (by rw [hW0];exact (Below.refl _ _).alloc (Nat.le_refl _) _)
 have HI0:Hid (ArgI W0 B s hp hs hkb SA sn sc xs kA kn kc ks):=hid (h.fq (h.st.below HB0.out (h.st.lo hB)) HQ0.out)
 have HR0:Hid (Bk W0 r 341 #[.bool false,.int i64 0,.int i64 0,.int i64 0]):=hid (by rw [hW0,hr];exact Bk.new _ _ _)
 have HNX:=hid next_any
 have hrs:r≠s:=by
  obtain ⟨cs,h1⟩:=h.st.bk
  have:=h1.lt
  omega
 have HRW:Hid (w.heap.size<=r):=hid (by omega)
 have HBW:Hid (B<=w.heap.size):=hid (h.st.lo hB)
 have hpos:=h.pos
 have hfew:=h.few
 have hcap:=h.cap
 have hcap2:=h.cap2
 have hkcap:=h.kd.cap
 have hkcap2:=h.kd.cap2
 clear h
 have b0:W0.cell? ⟨hp,0,none⟩=some (.pointer (some ⟨s,0,none⟩)):=HI0.out.bp.cell 0
 go_enter Try.func237,Try.ntmps237
 go_upto_region 1 with fail
 rw [<- hW0,<- hr]
 clear hW0 hr
 go_wp2_with fail
 (with_reducible refine (HNX.out s B 2 _ HI0.out.st hB (by omega) (by omega)).mono ?_)
 rintro e w1 ⟨v,rfl,hv0,hv1,hst1,hg1⟩
 have HR1:Hid (Bk w1 r 341 #[.bool false,.int i64 0,.int i64 0,.int i64 0]):=hid (HR0.out.grown hg1 (fun e=>by injection e with e;omega))
 have HQ1:Hid (Fq [s] W0 w1):=hid (Fq.refl.grown hg1 fun g hg=>.inl (by injection hg with hg;simp [hg]))
 have HI1:Hid (ArgI w1 B s hp hs hkb SA sn sc xs kA kn kc ks):=hid (HI0.out.fq hst1 HQ1.out)
 have HQw1:Hid (Fq [s] w w1):=hid (HQ0.out.trans HQ1.out (SubF.refl _ _))
 clear hst1 hg1 HR0 HI0 HQ0 HQ1 b0
 have b1:w1.cell? ⟨hp,0,none⟩=some (.pointer (some ⟨s,0,none⟩)):=HI1.out.bp.cell 0
 by_cases hvz:v=0
 . have t0:(v == 0)=true:=by simp [hvz]
   clear hvz
   go_wp2_with fail
   (with_reducible refine (HNX.out s B 20 _ HI1.out.st hB (by omega) (by omega)).mono ?_)
   rintro e w2 ⟨u,rfl,hu0,hu1,hst2,hg2⟩
   have hR2:Bk w2 r 341 #[.bool false,.int i64 0,.int i64 0,.int i64 0]:=HR1.out.grown hg2 (fun e=>by injection e with e;omega)
   have HQ2:Hid (Fq [s] w1 w2):=hid (Fq.refl.grown hg2 fun g hg=>.inl (by injection hg with hg;simp [hg]))
   have HS2:=hid hst2
   clear hst2 hg2 HR1
   have z0:w2.cell? ⟨r,0,none⟩=some (.bool false):=hR2.cell 0
   have z1:w2.cell? ⟨r,1,none⟩=some (.int i64 0):=hR2.cell 1
   have z2:w2.cell? ⟨r,2,none⟩=some (.int i64 0):=hR2.cell 2
   have z3:w2.cell? ⟨r,3,none⟩=some (.int i64 0):=hR2.cell 3
   have y0:=hR2.frozen 0
   have y1:=hR2.frozen 1
   have y2:=hR2.frozen 2
   have y3:=hR2.frozen 3
   have HK:Hid (∀ V0 V1 V2 V3,StrSt ((((w2.setCell ⟨r,0,none⟩ V0).setCell ⟨r,1,none⟩ V1).setCell ⟨r,2,none⟩ V2).setCell ⟨r,3,none⟩ V3) B s/\Fq [s] w ((((w2.setCell ⟨r,0,none⟩ V0).setCell ⟨r,1,none⟩ V1).setCell ⟨r,2,none⟩ V2).setCell ⟨r,3,none⟩ V3)):=hid fun V0 V1 V2 V3=>arg_end HS2.out hB hR2 HQ2.out HQw1.out HRW.out HBW.out V0 V1 V2 V3
   clear hR2
   go_wp2_with fail
   (try simp only [Exit.inBlock,Exit.then])
   refine bodyPost_ret (v:=.agg #[.bool false,.int i64 (u-6),.int i64 0,.int i64 0]) ?_ rfl ⟨false,_,0,0,rfl,(HK.out _ _ _ _).1,(HK.out _ _ _ _).2⟩
   rw [results_c1 rfl]
   go_simp
 . have t0:(v == 0)=false:=by simp [hvz]
   clear hvz
   go_upto_region 3 with fail
   clear b1 hv0 hv1
   obtain ⟨u1,hu1⟩:∃ z,z=w1.drew:=⟨_,rfl⟩
   have HC1:Hid (ArgI u1 B s hp hs hkb SA sn sc xs kA kn kc ks):=hid (by rw [hu1];exact HI1.out.fq (HI1.out.st.below (Below.refl _ _).drew (HI1.out.st.lo hB)) (Fq.refl.drew))
   have HRu:Hid (Bk u1 r 341 #[.bool false,.int i64 0,.int i64 0,.int i64 0]):=hid (by rw [hu1];exact HR1.out.drew)
   have HQu:Hid (Fq [s] w u1):=hid (by rw [hu1];exact HQw1.out.drew)
   clear HI1 HR1 HQw1
   refine wp_region_H (S:=fun wz=>wz.cell? ⟨hp,0,none⟩=some (.pointer (some ⟨s,0,none⟩))/\wz.cell? ⟨hs,0,none⟩=some (.slice SA sn sc)) (by kernel_rfl) ?_
   rw [<- hu1]
   clear hu1
   have HS:Hid (∀ wz,ArgI wz B s hp hs hkb SA sn sc xs kA kn kc ks->wz.cell? ⟨hp,0,none⟩=some (.pointer (some ⟨s,0,none⟩))/\wz.cell? ⟨hs,0,none⟩=some (.slice SA sn sc)):=hid fun wz h=>⟨h.bp.cell 0,h.bs.cell 0⟩
   refine wpH 0 (.slice SA sn sc) 12 (HS.out _ HC1.out) ?_
   (try simp only [sP])
   refine wpH 1 (.pointer (some ⟨s,0,none⟩)) 13 (HS.out _ HC1.out) ?_
   (try simp only [sP])
   refine wpH 2 (.slice SA sn sc) 14 (HS.out _ HC1.out) ?_
   (try simp only [sP])
   refine wpH 3 (.int i64 (sn:Int)) 15 (HS.out _ HC1.out) ?_
   (try simp only [sP])
   refine wpAnyH_oneW (i:=4) rfl (by kernel_rfl) (by rfl) ?_
   go_simp
   go_at_call 98
   (with_reducible refine (HNX.out s B sn _ HC1.out.st hB (by omega) (by omega)).mono ?_)
   rintro e u2 ⟨p,rfl,hp0,hp1,hst2,hg2⟩
   obtain ⟨p,rfl⟩:∃ N:Nat,p=N:=⟨p.toNat,by omega⟩
   have HQ2:Hid (Fq [s] u1 u2):=hid (Fq.refl.grown hg2 fun g hg=>.inl (by injection hg with hg;simp [hg]))
   have HC2:Hid (ArgI u2 B s hp hs hkb SA sn sc xs kA kn kc ks):=hid (HC1.out.fq hst2 HQ2.out)
   have HRu2:Hid (Bk u2 r 341 #[.bool false,.int i64 0,.int i64 0,.int i64 0]):=hid (HRu.out.grown hg2 (fun e=>by injection e with e;omega))
   have HQu2:Hid (Fq [s] w u2):=hid (HQu.out.trans HQ2.out (SubF.refl _ _))
   clear hst2 hg2
   refine And.intro (HS.out _ HC2.out) ?_
   (try simp only [sP])
   have hpn:p<sn:=by omega
   obtain ⟨x,hx⟩:∃ x,xs[p]?=some x:=⟨_,List.getElem?_eq_getElem (by have:=HC2.out.rd.1;simp at this;omega)⟩
   obtain ⟨sb,so,rfl,hsb,hsc⟩:=HC2.out.rd.rd.at1 hpn (u:=.int i64 x) (by rw [List.getElem?_map,hx];rfl)
   have hxin:=HC2.out.inn x (List.mem_of_getElem? hx)
   obtain ⟨x,rfl⟩:∃ N:Nat,x=N:=⟨x.toNat,by omega⟩
   have hsc2:u2.cell? ⟨sb,so+p,none⟩=some (.int i64 x):=hsc
   clear hx hsb hsc
   refine wpAnyH_oneW (i:=5) rfl (by kernel_rfl) (by rfl) ?_
   go_simp
   refine And.intro (HS.out _ HC2.out) ?_
   (try simp only [sP])
   refine wpAnyH_oneW (i:=6) rfl (by kernel_rfl) (by rfl) ?_
   go_simp
   refine And.intro (HS.out _ HC2.out) ?_
   (try simp only [sP])
   refine wpAnyH_oneW (i:=7) rfl (by kernel_rfl) (by rfl) ?_
   go_simp
   refine And.intro (HS.out _ HC2.out) ?_
   (try simp only [sP])
   refine wpAnyH_done (by kernel_rfl) ?_ _
   clear HS HC1 HRu HQu HQ2 hsc2
   obtain ⟨k,hk⟩:∃ k,ks[x]?=some k:=⟨_,List.getElem?_eq_getElem (by have:=HC2.out.kd.len;omega)⟩
   have hxk:x<kn:=by omega
   obtain ⟨kb,ko,rfl,hkbl,q0,q1⟩:=HC2.out.kd.rd.rd.kd hxk hk
   have hkf:=HC2.out.fd k (List.mem_of_getElem? hk)
   have hkko:=HC2.out.kd.ok k (List.mem_of_getElem? hk)
   have hkc1:=hkko.cap
   have hkc2:=hkko.cap2
   have HKV:Hid (∀ wz,ArgI wz B s hp hs hkb (some ⟨sb,so,none⟩) sn sc xs (some ⟨kb,ko,none⟩) kn kc ks->wz.cell? ⟨hp,0,none⟩=some (.pointer (some ⟨s,0,none⟩))/\wz.cell? ⟨hkb,0,none⟩=some (.slice (some ⟨kb,ko,none⟩) kn kc)/\wz.cell? ⟨kb,ko+x*2+1,none⟩=some (.slice k.A k.n k.c)):=hid fun wz h=>by
    obtain ⟨b',o',hA,_,_,q1'⟩:=h.kd.rd.rd.kd hxk hk
    injection hA with hA
    injection hA with h1 h2
    subst h1;subst h2
    exact ⟨h.bp.cell 0,h.bk.cell 0,q1'⟩
   clear hk hkko hkbl q0 q1
   generalize k.A=fA at *
   generalize k.n=fn at *
   generalize k.c=fc at *
   go_upto_region 4 with fail
   obtain ⟨u3,hu3⟩:∃ z,z=u2.drew:=⟨_,rfl⟩
   have HC3:Hid (ArgI u3 B s hp hs hkb (some ⟨sb,so,none⟩) sn sc xs (some ⟨kb,ko,none⟩) kn kc ks):=hid (by rw [hu3];exact HC2.out.fq (HC2.out.st.below (Below.refl _ _).drew (HC2.out.st.lo hB)) (Fq.refl.drew))
   have HRu3:Hid (Bk u3 r 341 #[.bool false,.int i64 0,.int i64 0,.int i64 0]):=hid (by rw [hu3];exact HRu2.out.drew)
   have HQu3:Hid (Fq [s] w u3):=hid (by rw [hu3];exact HQu2.out.drew)
   clear HC2 HRu2 HQu2
   refine wp_region_L (late:=[11]) (S:=fun wz=>wz.cell? ⟨hp,0,none⟩=some (.pointer (some ⟨s,0,none⟩))/\wz.cell? ⟨hkb,0,none⟩=some (.slice (some ⟨kb,ko,none⟩) kn kc)/\wz.cell? ⟨kb,ko+x*2+1,none⟩=some (.slice fA fn fc)) (by kernel_rfl) ?_
   rw [<- hu3]
   clear hu3
   refine wpL 0 (.int i64 (x:Int)) 19 (HKV.out _ HC3.out) ?_
   (try simp only [sP])
   refine wpL 1 (.pointer (some ⟨s,0,none⟩)) 20 (HKV.out _ HC3.out) ?_
   (try simp only [sP])
   refine wpL 2 (.slice (some ⟨kb,ko,none⟩) kn kc) 21 (HKV.out _ HC3.out) ?_
   (try simp only [sP])
   refine wpL 3 (.int i64 (x:Int)) 22 (HKV.out _ HC3.out) ?_
   (try simp only [sP])
   refine wpL 4 (.pointer (some ⟨kb,ko+x*2,none⟩)) 23 (HKV.out _ HC3.out) ?_
   (try simp only [sP])
   refine wpL 5 (.pointer (some ⟨kb,ko+x*2+1,none⟩)) 24 (HKV.out _ HC3.out) ?_
   (try simp only [sP])
   refine wpL 6 (.slice fA fn fc) 25 (HKV.out _ HC3.out) ?_
   (try simp only [sP])
   refine wpL 7 (.int i64 (fn:Int)) 26 (HKV.out _ HC3.out) ?_
   (try simp only [sP])
   refine wpAnyL_one (i:=8) rfl (by kernel_rfl) (by rfl) ?_
   go_simp
   go_at_call 98
   (with_reducible refine (HNX.out s B fn _ HC3.out.st hB (by omega) (by omega)).mono ?_)
   rintro e u4 ⟨y,rfl,hy0,hy1,hst4,hg4⟩
   have HQ4:Hid (Fq [s] u3 u4):=hid (Fq.refl.grown hg4 fun g hg=>.inl (by injection hg with hg;simp [hg]))
   have HC4:Hid (ArgI u4 B s hp hs hkb (some ⟨sb,so,none⟩) sn sc xs (some ⟨kb,ko,none⟩) kn kc ks):=hid (HC3.out.fq hst4 HQ4.out)
   have hR4:Bk u4 r 341 #[.bool false,.int i64 0,.int i64 0,.int i64 0]:=HRu3.out.grown hg4 (fun e=>by injection e with e;omega)
   have HQu4:Hid (Fq [s] w u4):=hid (HQu3.out.trans HQ4.out (SubF.refl _ _))
   clear hst4 hg4
   refine And.intro (HKV.out _ HC4.out) ?_
   (try simp only [sP])
   refine wpL 9 (.agg #[.int i64 (x:Int),.int i64 y]) 28 (HKV.out _ HC4.out) ?_
   (try simp only [sP])
   refine wpL 10 (.agg #[.bool true,.int i64 0,.int i64 (x:Int),.int i64 y]) 29 (HKV.out _ HC4.out) ?_
   (try simp only [sP])
   have z0:u4.cell? ⟨r,0,none⟩=some (.bool false):=hR4.cell 0
   have z1:u4.cell? ⟨r,1,none⟩=some (.int i64 0):=hR4.cell 1
   have z2:u4.cell? ⟨r,2,none⟩=some (.int i64 0):=hR4.cell 2
   have z3:u4.cell? ⟨r,3,none⟩=some (.int i64 0):=hR4.cell 3
   have y0:=hR4.frozen 0
   have y1:=hR4.frozen 1
   have y2:=hR4.frozen 2
   have y3:=hR4.frozen 3
   have HK:Hid (∀ V0 V1 V2 V3,StrSt ((((u4.setCell ⟨r,0,none⟩ V0).setCell ⟨r,1,none⟩ V1).setCell ⟨r,2,none⟩ V2).setCell ⟨r,3,none⟩ V3) B s/\Fq [s] w ((((u4.setCell ⟨r,0,none⟩ V0).setCell ⟨r,1,none⟩ V1).setCell ⟨r,2,none⟩ V2).setCell ⟨r,3,none⟩ V3)):=hid fun V0 V1 V2 V3=>arg_end HC4.out.st hB hR4 (Fq.refl) HQu4.out HRW.out HBW.out V0 V1 V2 V3
   clear hR4
   refine wpAnyL_late (i:=11) rfl (by kernel_rfl) (by rfl) (by kernel_rfl) ?_
   go_simp
   (try simp only [sP])
   refine wpAnyL_done (by kernel_rfl) ?_ _
   go_wp2_with fail
   (try simp only [Exit.inBlock,Exit.then])
   refine bodyPost_ret (v:=.agg #[.bool true,.int i64 0,.int i64 x,.int i64 y]) ?_ rfl ⟨true,_,_,_,rfl,(HK.out _ _ _ _).1,(HK.out _ _ _ _).2⟩
   rw [results_c1 rfl]
   go_simp
end Go.Proofs.Ytnidcmhfbkdioaa
