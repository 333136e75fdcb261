/-
  Lemmas for the walk, merged (Gj Bc). No condition but those in each statement.
-/
import Derived.Test.YtnidcmhfbkdioaaSw14
import Derived.Test.YtnidcmhfbkdioaaSw12
import Derived.Test.YtnidcmhfbkdioaaSw11
namespace Go.Proofs.Ytnidcmhfbkdioaa
open Go.RowKit
open Go.IntKind (i64)
open Go.Lib (hid)
set_option maxRecDepth 100000
set_option maxHeartbeats 1600000 in
theorem namedL_any (A SA:Option Addr) (n c m sc B:Nat) (ks:List Kd) (nm:ByteArray) (ns:List ByteArray) (w:World) (hr:Rd w B 2 A n (kdCs ks)) (hn:n=ks.length) (hc:n<=c) (hc2:c<=9223372036854775807) (hks:∀ k∈ks,KdOk w B k) (hsm:∀ k∈ks,k.n<=4398046510976)
 (hs:Rd w B 1 SA m (strV ns)) (hm:m=ns.length) (hB:B<=w.heap.size) :
 Calls Try.prog 154 #[.slice A n c,.string nm,.slice SA m sc] w fun e w'=>e=.returned (.tuple #[.int i64 (namedF (ks.map Kd.p) nm ns).1,.bool (namedF (ks.map Kd.p) nm ns).2])/\Below w.heap.size w w':=by
 obtain ⟨i0,hi0,hz0,hz1,hz2⟩:=info_parts T.info9
 obtain ⟨R,hR⟩:∃ R,R=namedF (ks.map Kd.p) nm ns:=⟨_,rfl⟩
 rw [<- hR]
 have HR:=hid hR
 have HN:=hid hn
 have HM:=hid hm
 have HRD:=hid hr
 have HSD:=hid hs
 have HKS:=hid hks
 have HSM:=hid hsm
 have HBB:=hid hB
 clear hr hn hR hks hs hm hsm
 clear hB
 go_enter Try.func154,Try.ntmps154
 go_wp2_with fail
 go_loopg [15] n (fun g v wr=>∃ k:Nat,k<=n/\g=n-k/\v=.int i64 k/\Hid (∀ i,i<k->∀ x,(ks.map Kd.nm)[i]?=some x->x≠nm)/\Hid (Below w.heap.size w wr))
 case atStart=>exact ⟨0,Nat.zero_le _,rfl,rfl,hid (fun i hi=>by omega),hid (Below.refl _ _)⟩
 case round =>
  obtain ⟨k,hk,rfl,rfl,HNE,HW⟩:=hrel
  by_cases hkn:k<n
  . obtain ⟨f,hf⟩:∃ f,ks[k]?=some f:=⟨_,List.getElem?_eq_getElem (by have:=HN.out;omega)⟩
    have hrw:Rd wr B 2 A n (kdCs ks):=HRD.out.below (HW.out.mono HBB.out)
    obtain ⟨b,o,hA,hbB,c0,c1⟩:=hrw.kd hkn hf
    subst hA
    have HF:Hid ((ks.map Kd.nm)[k]?=some f.nm):=hid (by rw [List.getElem?_map,hf];rfl)
    have HFP:Hid ((ks.map Kd.p)[k]?=some (f.nm,f.fds)):=hid (by rw [List.getElem?_map,hf];rfl)
    have HFO:=hid (HKS.out f (List.mem_of_getElem? hf))
    have hfs:=HSM.out f (List.mem_of_getElem? hf)
    have HFR:=hid HFO.out.rd
    have HFL:=hid HFO.out.len
    have hkz:(k:Int)<n:=by omega
    have hkz0:(0:Int)<=k:=by omega
    clear hrw hf HFO
    generalize f.nm=fn at *
    generalize f.A=fA at *
    generalize f.n=fl at *
    generalize f.c=fc at *
    by_cases hgf:fn=nm
    . subst hgf
      have HRK:Hid (R=((k:Int),decide (f.fds.map Fd.nm=ns))):=hid (by
       rw [HR.out,namedF,kdp_nm,findF_hit HF.out HNE.out,if_neg (by omega),Int.toNat_natCast,HFP.out])
      clear HNE
      have hk1:=(HW.out.alloc HW.out.size (.cells #[.string fn,.slice fA fl fc] 63))
      have HK1:=hid hk1
      clear hk1
      go_wp2_with fail
      go_loopw [10,27] (fun out v wi=>∃ (j:Nat) (A2:Option Addr) (c2:Nat),j<=fl/\v=.int i64 j/\out=.slice A2 j c2/\wi.ownsRow w.heap.size 9 1 (.slice A2 j c2) j (strV ((f.fds.map Fd.nm).take j))/\Below w.heap.size w wi) (fun _ v _=>fl-(intOf v).toNat)
      case atStart=>exact ⟨0,none,0,Nat.zero_le _,rfl,rfl,World.ownsRow_nil _ _ _ _,HK1.out⟩
      case round =>
       obtain ⟨j,A2,c2,hj,rfl,rfl,hown,hb⟩:=hrel
       clear c0 c1
       have hsz:=hb.size
       by_cases hjl:j<fl
       . obtain ⟨fd,hfd⟩:∃ fd,f.fds[j]?=some fd:=⟨_,List.getElem?_eq_getElem (by have:=HFL.out;omega)⟩
         have hfw:Rd wr B 3 fA fl (fdCs f.fds):=HFR.out.below (hb.mono HBB.out)
         obtain ⟨b2,o2,hA2,hbB2,d0,d1,d2⟩:=hfw.fd hjl hfd
         subst hA2
         have HS:Hid ((f.fds.map Fd.nm).take (j+1)=(f.fds.map Fd.nm).take j++[fd.nm]):=hid (by rw [List.take_add_one,List.getElem?_map,hfd];rfl)
         have hjz:(j:Int)<fl:=by omega
         have hjz0:(0:Int)<=j:=by omega
         clear hfw hfd
         generalize fd.nm=gn at *
         generalize fd.bits=gb at *
         generalize fd.low=gl at *
         go_wp2_with
          (at_builtin
           go_must (refine wpList_append_one _ rfl (.tmp 31) (.tmp 34) _ rfl w.heap.size 9 i0 (.string ByteArray.empty) 1 16 Try.underlying108 hi0 hz0 hz1 hz2 rfl (by decide) (.slice A2 j c2) j _ rfl ((hown.alloc _).alloc _) _ 1 9 #[.string gn] rfl (Bk.new2 _ _ _ _) rfl ?c1 (j+1) rfl ?c2 ?c3 ?c4 ?_)
           case c1=>simp [Value.oneCell']
           case c2=>unfold maxLen;omega
           case c3=>omega
           case c4=>simp;omega
           intro g5 cc5 w5 hown5 hg5 hat5)
         go_roundw
         case measure=>simp [intOf];omega
         case rel =>
          refine ⟨j+1,_,cc5,by omega,by go_num,rfl,?_,((hb.alloc hsz _).alloc (by simp;omega) _).grown hg5 (by simp;omega) (fun q hq=>(hown.lt q hq).1)⟩
          rw [HS.out,strV_append]
          exact hown5
       . obtain rfl:j=fl:=by omega
         have hfull:(f.fds.map Fd.nm).take j=f.fds.map Fd.nm:=List.take_of_length_le (by rw [List.length_map,<- HFL.out];exact Nat.le_refl _)
         rw [hfull] at hown
         have heq:=equalSS_any A2 SA j c2 m sc wr.heap.size (f.fds.map Fd.nm) ns wr (by rw [List.length_map,<- HFL.out]) HM.out (by omega) (Rd.of_own hown) ((HSD.out.below (hb.mono HBB.out)).more (Nat.le_trans HBB.out hsz))
         have HEQ:=hid heq
         have HBI:=hid hb
         clear heq hfull hb hown
         go_wp2_with fail
         refine HEQ.out.mono ?_
         rintro e w6 ⟨rfl,q,rfl⟩
         go_wp2_with fail
         go_ret2
         rw [HRK.out]
         exact ⟨rfl,below_drewN HBI.out q⟩
    . have hgb:(fn == nm)=false:=ba_beq_ne hgf
      have hgl:(fn.toList == nm.toList)=false:=ba_tl_ne hgf
      have hgb':(nm == fn)=false:=ba_beq_ne fun e=>hgf e.symm
      have hgl':(nm.toList == fn.toList)=false:=ba_tl_ne fun e=>hgf e.symm
      go_wp2_with fail
      go_roundg (n-(k+1))
      case measure=>omega
      case rel=>exact ⟨k+1,by omega,rfl,by go_num,hid fun i hi x hx=>by
       rcases Nat.lt_or_ge i k with h | h
       . exact HNE.out i h x hx
       . obtain rfl:i=k:=by omega
         rw [HF.out] at hx
         injection hx with hx
         rw [<- hx];exact hgf,hid (HW.out.alloc HW.out.size _)⟩
  . obtain rfl:k=n:=by omega
    go_wp2_with fail
    go_ret2
    have hno:findF (ks.map Kd.nm) nm = -1:=findF_none fun i hi x hx=>HNE.out i (by rw [List.length_map,<- HN.out] at hi;exact hi) x hx
    rw [HR.out,namedF,kdp_nm,hno,if_pos (by decide)]
    exact ⟨rfl,HW.out⟩
theorem namedL_lit {w:World} {B n c:Nat} {A:Option Addr} {ks:List Kd} (h:KsOk w B A n c ks) (hsm:∀ k∈ks,k.n<=4398046510976) (nm:ByteArray) (ns:List ByteArray) :
 Calls Try.prog 154 #[.slice A n c,.string nm,.slice (some ⟨w.heap.size,0,none⟩) ns.length ns.length] (w.alloc (.cells (strV ns).toArray 9)) (NamedP w (namedF (ks.map Kd.p) nm ns)):=by
 have hb:=(Below.refl w.heap.size w).alloc (Nat.le_refl _) (.cells (strV ns).toArray 9)
 have h2:=(h.below (hb.mono h.lo)).more (B':=w.heap.size+1) (by have:=h.lo;omega) (by simp)
 have hl:=Rd.lit w (strV ns) 9
 rw [show (strV ns).length=ns.length by simp [strV]] at hl
 exact (namedL_any A (some ⟨w.heap.size,0,none⟩) n c ns.length ns.length (w.heap.size+1) ks nm ns _ h2.rd h2.len h2.cap h2.cap2 h2.ok hsm hl rfl h2.lo).mono fun e w' hh=>⟨hh.1,hb.trans (hh.2.mono (by simp))⟩
set_option maxHeartbeats 1600000 in
theorem specialL_any {w:World} {B n c:Nat} {A:Option Addr} {ks:List Kd} (h:KsOk w B A n c ks) (hsm:∀ k∈ks,k.n<=4398046510976):Calls Try.prog 67 #[.slice A n c] w (SpecP w (ks.map Kd.p)):=by
 obtain ⟨w0,hw0⟩:∃ w0,w0=(w.alloc (.cells #[.int i64 0,.int i64 0,.int i64 0,.int i64 0,.int i64 0] 141)).alloc (.cells #[.bool false,.bool false,.bool false,.bool false,.bool false] 142):=⟨_,rfl⟩
 have HS0:Hid (SpSt w w0 B A n c ks #[.int i64 0,.int i64 0,.int i64 0,.int i64 0,.int i64 0] #[.bool false,.bool false,.bool false,.bool false,.bool false]):=hid (by rw [hw0];exact SpSt.start h _ _)
 have HSM:=hid hsm
 clear hsm
 unfold SpecP spX spY
 generalize hr0:spec (ks.map Kd.p) sp0=r0
 obtain ⟨a0,b0⟩:=r0
 generalize hr1:spec (ks.map Kd.p) sp1=r1
 obtain ⟨a1,b1⟩:=r1
 generalize hr2:spec (ks.map Kd.p) sp2=r2
 obtain ⟨a2,b2⟩:=r2
 generalize hr3:spec (ks.map Kd.p) sp3=r3
 obtain ⟨a3,b3⟩:=r3
 generalize hr4:spec (ks.map Kd.p) sp4=r4
 obtain ⟨a4,b4⟩:=r4
 go_enter Try.func67,Try.ntmps67
 have hf:Calls Try.prog 154 #[.slice A n c,.string ⟨#[112,108,97,99,101]⟩,.slice (some ⟨(w0).heap.size,0,none⟩) 3 3] ((w0).alloc (.cells #[.string ⟨#[120]⟩,.string ⟨#[121]⟩,.string ⟨#[97,110,103]⟩] 9)) (NamedP (w0) (a0,b0)):=by
  have h9:=namedL_lit HS0.out.ks HSM.out sp0.1 sp0.2
  rw [show namedF (ks.map Kd.p) sp0.1 sp0.2=(a0,b0) from hr0] at h9
  exact h9
 have HW0:=hid hw0
 have HF0:=hid hf
 clear hf hr0
 clear hw0
 go_wp2_with fail
 rw [<- HW0.out]
 rw [show w.heap.size+1+1=w0.heap.size from by rw [HW0.out];simp]
 refine HF0.out.mono ?_
 rintro e v0 ⟨rfl,hbv⟩
 have HV0:=hid (HS0.out.next hbv)
 clear hbv HS0 HF0
 have m0:v0.cell? ⟨w.heap.size,0,none⟩=some (.int i64 0):=HV0.out.bx.cell 0
 have mf0:=HV0.out.bx.frozen 0
 have my0:(v0.setCell ⟨w.heap.size,0,none⟩ (.int i64 a0)).cell? ⟨w.heap.size+1,0,none⟩=some (.bool false):=(HV0.out.ly.far (by show w.heap.size+1≠w.heap.size;omega) _).cell 0
 have myf0:(v0.setCell ⟨w.heap.size,0,none⟩ (.int i64 a0)).frozen? ⟨w.heap.size+1,0,none⟩=false:=(HV0.out.ly.far (by show w.heap.size+1≠w.heap.size;omega) _).frozen 0
 have HS1:Hid (SpSt w ((v0.setCell ⟨w.heap.size,0,none⟩ (.int i64 a0)).setCell ⟨w.heap.size+1,0,none⟩ (.bool b0)) B A n c ks #[.int i64 a0,.int i64 0,.int i64 0,.int i64 0,.int i64 0] #[.bool b0,.bool false,.bool false,.bool false,.bool false]):=hid (HV0.out.put 0 (.int i64 a0) (.bool b0))
 have hf:Calls Try.prog 154 #[.slice A n c,.string ⟨#[109,111,116,105,111,110]⟩,.slice (some ⟨((v0.setCell ⟨w.heap.size,0,none⟩ (.int i64 a0)).setCell ⟨w.heap.size+1,0,none⟩ (.bool b0)).heap.size,0,none⟩) 4 4] (((v0.setCell ⟨w.heap.size,0,none⟩ (.int i64 a0)).setCell ⟨w.heap.size+1,0,none⟩ (.bool b0)).alloc (.cells #[.string ⟨#[118,120]⟩,.string ⟨#[118,121]⟩,.string ⟨#[115,112,105,110]⟩,.string ⟨#[99,97,108,109]⟩] 9)) (NamedP ((v0.setCell ⟨w.heap.size,0,none⟩ (.int i64 a0)).setCell ⟨w.heap.size+1,0,none⟩ (.bool b0)) (a1,b1)):=by
  have h9:=namedL_lit HS1.out.ks HSM.out sp1.1 sp1.2
  rw [show namedF (ks.map Kd.p) sp1.1 sp1.2=(a1,b1) from hr1] at h9
  exact h9
 rw [show ((v0.setCell ⟨w.heap.size,0,none⟩ (.int i64 a0)).setCell ⟨w.heap.size+1,0,none⟩ (.bool b0)).heap.size=v0.heap.size from by simp [World.setCell]] at hf
 have HF1:=hid hf
 clear hf hr1
 go_wp2_with fail
 refine HF1.out.mono ?_
 rintro e v1 ⟨rfl,hbv⟩
 have HV1:=hid (HS1.out.next hbv)
 clear hbv HS1 HF1
 have m1:v1.cell? ⟨w.heap.size,1,none⟩=some (.int i64 0):=HV1.out.bx.cell 1
 have mf1:=HV1.out.bx.frozen 1
 have my1:(v1.setCell ⟨w.heap.size,1,none⟩ (.int i64 a1)).cell? ⟨w.heap.size+1,1,none⟩=some (.bool false):=(HV1.out.ly.far (by show w.heap.size+1≠w.heap.size;omega) _).cell 1
 have myf1:(v1.setCell ⟨w.heap.size,1,none⟩ (.int i64 a1)).frozen? ⟨w.heap.size+1,1,none⟩=false:=(HV1.out.ly.far (by show w.heap.size+1≠w.heap.size;omega) _).frozen 1
 have HS2:Hid (SpSt w ((v1.setCell ⟨w.heap.size,1,none⟩ (.int i64 a1)).setCell ⟨w.heap.size+1,1,none⟩ (.bool b1)) B A n c ks #[.int i64 a0,.int i64 a1,.int i64 0,.int i64 0,.int i64 0] #[.bool b0,.bool b1,.bool false,.bool false,.bool false]):=hid (HV1.out.put 1 (.int i64 a1) (.bool b1))
 have hf:Calls Try.prog 154 #[.slice A n c,.string ⟨#[115,104,97,112,101]⟩,.slice (some ⟨((v1.setCell ⟨w.heap.size,1,none⟩ (.int i64 a1)).setCell ⟨w.heap.size+1,1,none⟩ (.bool b1)).heap.size,0,none⟩) 5 5] (((v1.setCell ⟨w.heap.size,1,none⟩ (.int i64 a1)).setCell ⟨w.heap.size+1,1,none⟩ (.bool b1)).alloc (.cells #[.string ⟨#[119]⟩,.string ⟨#[104]⟩,.string ⟨#[109,97,115,115]⟩,.string ⟨#[98,111,117,110,99,101]⟩,.string ⟨#[114,117,98]⟩] 9)) (NamedP ((v1.setCell ⟨w.heap.size,1,none⟩ (.int i64 a1)).setCell ⟨w.heap.size+1,1,none⟩ (.bool b1)) (a2,b2)):=by
  have h9:=namedL_lit HS2.out.ks HSM.out sp2.1 sp2.2
  rw [show namedF (ks.map Kd.p) sp2.1 sp2.2=(a2,b2) from hr2] at h9
  exact h9
 rw [show ((v1.setCell ⟨w.heap.size,1,none⟩ (.int i64 a1)).setCell ⟨w.heap.size+1,1,none⟩ (.bool b1)).heap.size=v1.heap.size from by simp [World.setCell]] at hf
 have HF2:=hid hf
 clear hf hr2
 go_wp2_with fail
 refine HF2.out.mono ?_
 rintro e v2 ⟨rfl,hbv⟩
 have HV2:=hid (HS2.out.next hbv)
 clear hbv HS2 HF2
 have m2:v2.cell? ⟨w.heap.size,2,none⟩=some (.int i64 0):=HV2.out.bx.cell 2
 have mf2:=HV2.out.bx.frozen 2
 have my2:(v2.setCell ⟨w.heap.size,2,none⟩ (.int i64 a2)).cell? ⟨w.heap.size+1,2,none⟩=some (.bool false):=(HV2.out.ly.far (by show w.heap.size+1≠w.heap.size;omega) _).cell 2
 have myf2:(v2.setCell ⟨w.heap.size,2,none⟩ (.int i64 a2)).frozen? ⟨w.heap.size+1,2,none⟩=false:=(HV2.out.ly.far (by show w.heap.size+1≠w.heap.size;omega) _).frozen 2
 have HS3:Hid (SpSt w ((v2.setCell ⟨w.heap.size,2,none⟩ (.int i64 a2)).setCell ⟨w.heap.size+1,2,none⟩ (.bool b2)) B A n c ks #[.int i64 a0,.int i64 a1,.int i64 a2,.int i64 0,.int i64 0] #[.bool b0,.bool b1,.bool b2,.bool false,.bool false]):=hid (HV2.out.put 2 (.int i64 a2) (.bool b2))
 have hf:Calls Try.prog 154 #[.slice A n c,.string ⟨#[105,110,112,117,116]⟩,.slice (some ⟨((v2.setCell ⟨w.heap.size,2,none⟩ (.int i64 a2)).setCell ⟨w.heap.size+1,2,none⟩ (.bool b2)).heap.size,0,none⟩) 4 4] (((v2.setCell ⟨w.heap.size,2,none⟩ (.int i64 a2)).setCell ⟨w.heap.size+1,2,none⟩ (.bool b2)).alloc (.cells #[.string ⟨#[112,108,97,121,101,114]⟩,.string ⟨#[107,101,121,115]⟩,.string ⟨#[120]⟩,.string ⟨#[121]⟩] 9)) (NamedP ((v2.setCell ⟨w.heap.size,2,none⟩ (.int i64 a2)).setCell ⟨w.heap.size+1,2,none⟩ (.bool b2)) (a3,b3)):=by
  have h9:=namedL_lit HS3.out.ks HSM.out sp3.1 sp3.2
  rw [show namedF (ks.map Kd.p) sp3.1 sp3.2=(a3,b3) from hr3] at h9
  exact h9
 rw [show ((v2.setCell ⟨w.heap.size,2,none⟩ (.int i64 a2)).setCell ⟨w.heap.size+1,2,none⟩ (.bool b2)).heap.size=v2.heap.size from by simp [World.setCell]] at hf
 have HF3:=hid hf
 clear hf hr3
 go_wp2_with fail
 refine HF3.out.mono ?_
 rintro e v3 ⟨rfl,hbv⟩
 have HV3:=hid (HS3.out.next hbv)
 clear hbv HS3 HF3
 have m3:v3.cell? ⟨w.heap.size,3,none⟩=some (.int i64 0):=HV3.out.bx.cell 3
 have mf3:=HV3.out.bx.frozen 3
 have my3:(v3.setCell ⟨w.heap.size,3,none⟩ (.int i64 a3)).cell? ⟨w.heap.size+1,3,none⟩=some (.bool false):=(HV3.out.ly.far (by show w.heap.size+1≠w.heap.size;omega) _).cell 3
 have myf3:(v3.setCell ⟨w.heap.size,3,none⟩ (.int i64 a3)).frozen? ⟨w.heap.size+1,3,none⟩=false:=(HV3.out.ly.far (by show w.heap.size+1≠w.heap.size;omega) _).frozen 3
 have HS4:Hid (SpSt w ((v3.setCell ⟨w.heap.size,3,none⟩ (.int i64 a3)).setCell ⟨w.heap.size+1,3,none⟩ (.bool b3)) B A n c ks #[.int i64 a0,.int i64 a1,.int i64 a2,.int i64 a3,.int i64 0] #[.bool b0,.bool b1,.bool b2,.bool b3,.bool false]):=hid (HV3.out.put 3 (.int i64 a3) (.bool b3))
 have hf:Calls Try.prog 154 #[.slice A n c,.string ⟨#[109,105,110,100]⟩,.slice (some ⟨((v3.setCell ⟨w.heap.size,3,none⟩ (.int i64 a3)).setCell ⟨w.heap.size+1,3,none⟩ (.bool b3)).heap.size,0,none⟩) 1 1] (((v3.setCell ⟨w.heap.size,3,none⟩ (.int i64 a3)).setCell ⟨w.heap.size+1,3,none⟩ (.bool b3)).alloc (.cells #[.string ⟨#[112,114,111,103]⟩] 9)) (NamedP ((v3.setCell ⟨w.heap.size,3,none⟩ (.int i64 a3)).setCell ⟨w.heap.size+1,3,none⟩ (.bool b3)) (a4,b4)):=by
  have h9:=namedL_lit HS4.out.ks HSM.out sp4.1 sp4.2
  rw [show namedF (ks.map Kd.p) sp4.1 sp4.2=(a4,b4) from hr4] at h9
  exact h9
 rw [show ((v3.setCell ⟨w.heap.size,3,none⟩ (.int i64 a3)).setCell ⟨w.heap.size+1,3,none⟩ (.bool b3)).heap.size=v3.heap.size from by simp [World.setCell]] at hf
 have HF4:=hid hf
 clear hf hr4
 go_wp2_with fail
 refine HF4.out.mono ?_
 rintro e v4 ⟨rfl,hbv⟩
 have HV4:=hid (HS4.out.next hbv)
 clear hbv HS4 HF4
 have m4:v4.cell? ⟨w.heap.size,4,none⟩=some (.int i64 0):=HV4.out.bx.cell 4
 have mf4:=HV4.out.bx.frozen 4
 have my4:(v4.setCell ⟨w.heap.size,4,none⟩ (.int i64 a4)).cell? ⟨w.heap.size+1,4,none⟩=some (.bool false):=(HV4.out.ly.far (by show w.heap.size+1≠w.heap.size;omega) _).cell 4
 have myf4:(v4.setCell ⟨w.heap.size,4,none⟩ (.int i64 a4)).frozen? ⟨w.heap.size+1,4,none⟩=false:=(HV4.out.ly.far (by show w.heap.size+1≠w.heap.size;omega) _).frozen 4
 have HS5:Hid (SpSt w ((v4.setCell ⟨w.heap.size,4,none⟩ (.int i64 a4)).setCell ⟨w.heap.size+1,4,none⟩ (.bool b4)) B A n c ks #[.int i64 a0,.int i64 a1,.int i64 a2,.int i64 a3,.int i64 a4] #[.bool b0,.bool b1,.bool b2,.bool b3,.bool b4]):=hid (HV4.out.put 4 (.int i64 a4) (.bool b4))
 clear HV0 HV1 HV2 HV3 HV4 m0 m1 m2 m3 mf0 mf1 mf2 mf3 my0 my1 my2 my3 myf0 myf1 myf2 myf3
 go_wp2_with fail
 clear m4 mf4 my4 myf4
 have HZ:Hid (w.heap.size≠w.heap.size+1):=hid (by omega)
 generalize hv5:(v4.setCell ⟨w.heap.size,4,none⟩ (.int i64 a4)).setCell ⟨w.heap.size+1,4,none⟩ (.bool b4)=v5 at *
 clear hv5
 have q0:v5.cell? ⟨w.heap.size,0,none⟩=some (.int i64 a0):=HS5.out.bx.cell 0
 have p0:v5.cell? ⟨w.heap.size+1,0,none⟩=some (.bool b0):=HS5.out.ly.cell 0
 have g0:v5.frozen? ⟨w.heap.size,0,none⟩=false:=HS5.out.bx.frozen 0
 have h0:v5.frozen? ⟨w.heap.size+1,0,none⟩=false:=HS5.out.ly.frozen 0
 have q1:v5.cell? ⟨w.heap.size,1,none⟩=some (.int i64 a1):=HS5.out.bx.cell 1
 have p1:v5.cell? ⟨w.heap.size+1,1,none⟩=some (.bool b1):=HS5.out.ly.cell 1
 have g1:v5.frozen? ⟨w.heap.size,1,none⟩=false:=HS5.out.bx.frozen 1
 have h1:v5.frozen? ⟨w.heap.size+1,1,none⟩=false:=HS5.out.ly.frozen 1
 have q2:v5.cell? ⟨w.heap.size,2,none⟩=some (.int i64 a2):=HS5.out.bx.cell 2
 have p2:v5.cell? ⟨w.heap.size+1,2,none⟩=some (.bool b2):=HS5.out.ly.cell 2
 have g2:v5.frozen? ⟨w.heap.size,2,none⟩=false:=HS5.out.bx.frozen 2
 have h2:v5.frozen? ⟨w.heap.size+1,2,none⟩=false:=HS5.out.ly.frozen 2
 have q3:v5.cell? ⟨w.heap.size,3,none⟩=some (.int i64 a3):=HS5.out.bx.cell 3
 have p3:v5.cell? ⟨w.heap.size+1,3,none⟩=some (.bool b3):=HS5.out.ly.cell 3
 have g3:v5.frozen? ⟨w.heap.size,3,none⟩=false:=HS5.out.bx.frozen 3
 have h3:v5.frozen? ⟨w.heap.size+1,3,none⟩=false:=HS5.out.ly.frozen 3
 have q4:v5.cell? ⟨w.heap.size,4,none⟩=some (.int i64 a4):=HS5.out.bx.cell 4
 have p4:v5.cell? ⟨w.heap.size+1,4,none⟩=some (.bool b4):=HS5.out.ly.cell 4
 have g4:v5.frozen? ⟨w.heap.size,4,none⟩=false:=HS5.out.bx.frozen 4
 have h4:v5.frozen? ⟨w.heap.size+1,4,none⟩=false:=HS5.out.ly.frozen 4
 have hne:w.heap.size+1≠w.heap.size:=by omega
 have hne':w.heap.size≠w.heap.size+1:=by omega
 go_region
 all_goals (try go_wp2)
 (try simp only [Exit.inBlock,Exit.then])
 refine bodyPost_ret (v:=.tuple #[.agg #[.int i64 a0,.int i64 a1,.int i64 a2,.int i64 a3,.int i64 a4],.agg #[.bool b0,.bool b1,.bool b2,.bool b3,.bool b4]]) ?_ rfl ⟨rfl,?_⟩
 . rw [results_cell_cell rfl]
   go_simp
 . repeat' (first | with_reducible exact HS5.out.bl | (with_reducible refine Below.setCell ?_ ?_ _;rotate_left;(first | exact Nat.le_refl _ | exact Nat.le_succ _)) | (with_reducible refine Below.drew ?_))
section
variable {P:Program} {ops:Array Oper} {Q:Exit->Act->World->Prop} {md:Region.Mode} {S:World->Prop}
theorem wpAnyH_two {i j:Nat} {oi oj:Oper} {fuel:Nat} {listed:Array Bool} {a:Act} {w:World} (hi:ops[i]?=some oi) (hj:ops[j]?=some oj) (hr:Region.ready md ops listed=[i,j]) (hg:Region.wanted oi (yielded ops a.tmps)=true) (hg':Region.wanted oj (yielded ops a.tmps)=true)
 (h1:oi.wp P a w (fun a' w'=>S w'/\wpAnyH P md ops Q S fuel (listed.setIfInBounds i true) a' w') Q) (h2:oj.wp P a w (fun a' w'=>S w'/\wpAnyH P md ops Q S fuel (listed.setIfInBounds j true) a' w') Q):wpAnyH P md ops Q S (fuel+1) listed a w :=
 wpAnyH_all hr (by simp) fun k hk=>by
  rcases (by simpa using hk:k=i\/k=j) with e | e
  . subst e
    unfold wpOp
    simp only [hi,hg,if_true]
    exact .inl h1
  . subst e
    unfold wpOp
    simp only [hj,hg',if_true]
    exact .inl h2
end
structure Bo where
 px:Int
 py:Int
 vx:Int
 vy:Int
 ang:Int
 spin:Int
 mass:Int
 inr:Int
 bou:Int
 rub:Int
 asl:Bool
 calm:Int
 w:Int
 h:Int
def crn (b:Bo):List Int:=[-b.w,-b.h,b.w,-b.h,b.w,b.h,-b.w,b.h]
def atI (l:List Int) (k:Nat):Int:=l.getD k 0
def inrF (m w h:Nat):Nat:=mdF (mdF m (mdF w w 65536+mdF h h 65536) 65536) 65536 196608
def bo0 (p s:List Int):Bo:=⟨wiF (atI p 0) (-58982400) 58982400,wiF (atI p 1) (-58982400) 58982400,0,0,atI p 2 % 65536,0,0,0,wiF (atI s 3) 0 65536,wiF (atI s 4) 0 65536,false,0,wiF (atI s 0) 4096 1048576,wiF (atI s 1) 4096 1048576⟩
def bo1 (p s v:List Int):Bo :=
 { bo0 p s with
   vx:=wiF (atI v 0) (-268435456) 268435456
   vy:=wiF (atI v 1) (-268435456) 268435456
   spin:=wiF (atI v 2) (-16777216) 16777216
   mass:=wiF (atI s 2) 4096 65536000
   inr:=max ((inrF (wiF (atI s 2) 4096 65536000).toNat (wiF (atI s 0) 4096 1048576).toNat (wiF (atI s 1) 4096 1048576).toNat:Nat):Int) 1
   calm:=wiF ((atI v 3).tdiv 2) 0 1000
   asl:=decide (0<atI v 3/\(atI v 3).tmod 2=1/\wiF (atI v 0) (-268435456) 268435456=0/\wiF (atI v 1) (-268435456) 268435456=0/\wiF (atI v 2) (-16777216) 16777216=0) }
def bodyF (m0 m1 m2:Int) (l:List Cm):Option Bo :=
 match cmAt l m0,cmAt l m2 with
 | some p,some s=>match cmAt l m1 with
   | some v=>if atI s.vals 2<1 then some (bo0 p.vals s.vals) else some (bo1 p.vals s.vals v.vals)
   | none=>some (bo0 p.vals s.vals)
 | _,_=>none
def Bo.v (b:Bo) (g c:Nat):Array Value:=#[.int i64 b.px,.int i64 b.py,.int i64 b.vx,.int i64 b.vy,.int i64 b.ang,.int i64 b.spin,.int i64 b.mass,.int i64 b.inr,.int i64 b.bou,.int i64 b.rub,.slice (some ⟨g,0,none⟩) 4 c,.bool b.asl,.int i64 b.calm]
def BoZ:Array Value:=#[.int i64 0,.int i64 0,.int i64 0,.int i64 0,.int i64 0,.int i64 0,.int i64 0,.int i64 0,.int i64 0,.int i64 0,.slice none 0 0,.bool false,.int i64 0]
def BoP (w:World) (r:Option Bo) (e:Ending) (w':World):Prop :=
 Below w.heap.size w w'/\match r with
 | none=>e=.returned (.tuple #[.agg BoZ,.bool false])
 | some b=>∃ g c,e=.returned (.tuple #[.agg (b.v g c),.bool true])/\w'.ownsRow w.heap.size 105 2 (.slice (some ⟨g,0,none⟩) 4 c) 4 ((crn b).map (Value.int .i64))
theorem Bk.twoB (w:World) (o:Obj) (t:TypeId) (cs:Array Value):Bk ((w.alloc o).alloc (.cells cs t)) (w.heap.size+1) t cs:=by simpa using Bk.new (w.alloc o) t cs
structure VaOk (l:List Cm) (k:Int) (n:Nat):Prop where
 len:∀ cm,cmAt l k=some cm->cm.vals.length=n
 rng:∀ cm,cmAt l k=some cm->∀ v∈cm.vals,-8589934592<=v/\v<=8589934592
def set13 (w:World) (g:Nat) (v0 v1 v2 v3 v4 v5 v6 v7 v8 v9 v10 v11 v12:Value):World :=
 ((((((((((((w.setCell ⟨g,0,none⟩ v0).setCell ⟨g,1,none⟩ v1).setCell ⟨g,2,none⟩ v2).setCell ⟨g,3,none⟩ v3).setCell ⟨g,4,none⟩ v4).setCell ⟨g,5,none⟩ v5).setCell ⟨g,6,none⟩ v6).setCell ⟨g,7,none⟩ v7).setCell ⟨g,8,none⟩ v8).setCell ⟨g,9,none⟩ v9).setCell ⟨g,10,none⟩ v10).setCell ⟨g,11,none⟩ v11).setCell ⟨g,12,none⟩ v12
theorem atI_mem {l:List Int} {k:Nat} (h:k<l.length):atI l k∈l:=by
 unfold atI
 rw [List.getD_eq_getElem?_getD,List.getElem?_eq_getElem h]
 exact List.getElem_mem h
theorem tmod_rng (p:Int) : -65536<p.tmod 65536/\p.tmod 65536<65536:=by
 have h:=Int.tmod_lt_of_pos p (show (0:Int)<65536 by decide)
 have h2:=Int.lt_tmod_of_pos p (show (0:Int)<65536 by decide)
 exact ⟨h2,h⟩
theorem sq_le {a b:Nat} (ha:a<=1048576) (hb:b<=1048576):a*b<=9007199254740992:=Nat.le_trans (Nat.mul_le_mul ha hb) (by decide)
theorem md_sq {a:Nat} (ha:a<=1048576):mdF a a 65536<=16777217:=by
 have h:=mdF_le a a 65536
 have h2:=Nat.mul_le_mul ha ha
 omega
theorem md_mul {a b:Nat} (ha:a<=65536000) (hb:b<=33554434):a*b<=9007199254740992/\mdF a b 65536<=137438953472:=by
 have h:=mdF_le a b 65536
 have h2:=Nat.mul_le_mul ha hb
 constructor <;> omega
theorem tdiv2_rng (v N:Int) (h : -N<=v/\v<=N) : -N<=v.tdiv 2/\v.tdiv 2<=N:=by
 rcases Int.le_total 0 v with h0 | h0
 . rw [Int.tdiv_eq_ediv_of_nonneg h0];omega
 . obtain ⟨n,rfl⟩:∃ n:Nat,v = -(n:Int):=⟨(-v).toNat,by omega⟩
   rw [Int.neg_tdiv,Int.tdiv_eq_ediv_of_nonneg (by omega)];omega
theorem set13_below {w0 w:World} {base g:Nat} {v0 v1 v2 v3 v4 v5 v6 v7 v8 v9 v10 v11 v12:Value} (h:Below base w0 w) (hg:base<=g):Below base w0 (set13 w g v0 v1 v2 v3 v4 v5 v6 v7 v8 v9 v10 v11 v12):=by
 unfold set13
 (repeat' first | with_reducible exact h | with_reducible refine Below.setCell ?_ hg _)
theorem set13_bk {w:World} {g:Nat} {t:TypeId} {c0 c1 c2 c3 c4 c5 c6 c7 c8 c9 c10 c11 c12 v0 v1 v2 v3 v4 v5 v6 v7 v8 v9 v10 v11 v12:Value} (h:Bk w g t #[c0,c1,c2,c3,c4,c5,c6,c7,c8,c9,c10,c11,c12]):Bk (set13 w g v0 v1 v2 v3 v4 v5 v6 v7 v8 v9 v10 v11 v12) g t #[v0,v1,v2,v3,v4,v5,v6,v7,v8,v9,v10,v11,v12]:=by
 unfold set13
 have hk:=(((((((((((((h.set_ 0 v0).set_ 1 v1).set_ 2 v2).set_ 3 v3).set_ 4 v4).set_ 5 v5).set_ 6 v6).set_ 7 v7).set_ 8 v8).set_ 9 v9).set_ 10 v10).set_ 11 v11).set_ 12 v12)
 simpa using hk
theorem set13_ne {w:World} {g g':Nat} {t:TypeId} {cs:Array Value} {v0 v1 v2 v3 v4 v5 v6 v7 v8 v9 v10 v11 v12:Value} (h:Bk w g' t cs) (hne:g'≠g):Bk (set13 w g v0 v1 v2 v3 v4 v5 v6 v7 v8 v9 v10 v11 v12) g' t cs:=by
 unfold set13
 exact ((((((((((((h.far (p:=⟨g,0,none⟩) hne v0).far (p:=⟨g,1,none⟩) hne v1).far (p:=⟨g,2,none⟩) hne v2).far (p:=⟨g,3,none⟩) hne v3).far (p:=⟨g,4,none⟩) hne v4).far (p:=⟨g,5,none⟩) hne v5).far (p:=⟨g,6,none⟩) hne v6).far (p:=⟨g,7,none⟩) hne v7).far (p:=⟨g,8,none⟩) hne v8).far (p:=⟨g,9,none⟩) hne v9).far (p:=⟨g,10,none⟩) hne v10).far (p:=⟨g,11,none⟩) hne v11).far (p:=⟨g,12,none⟩) hne v12
end Go.Proofs.Ytnidcmhfbkdioaa
