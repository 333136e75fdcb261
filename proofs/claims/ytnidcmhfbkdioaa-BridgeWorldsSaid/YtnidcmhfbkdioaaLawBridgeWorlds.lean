/-
  PROVED: bridge.World returns the world and the contacts of the reference, or the specified error, for all worlds, scenes and entities. No condition.
-/
import Derived.Test.YtnidcmhfbkdioaaLawBridgeWorldsF
import Derived.Test.YtnidcmhfbkdioaaSw52
namespace Go.Proofs.Ytnidcmhfbkdioaa.bridgeWorlds
open Go.ChangeShapes Go.WideShapes Go.ChangeAt Go.RowKit
set_option maxRecDepth 100000
theorem lifted (os:Os) (started:os.Started) (H:Type) (enc:TypeId × Value->H) :
 ReturnsInHanded {} Try.checked os 13 .any (Rows.bridgeWorldsSpec.pre6 enc Try.prog Try.f13 Rows.bridgeWorldsRow.domain false) (Rows.bridgeWorldsSpec.post enc Try.prog Try.f13 false true false false):=by
 refine returnsInHanded_of_change_sized (C:=Try.checked) own started (by kernel_rfl) Try.func13
  (ChangeSpec.witness6 (enc:=enc) (C:=Try.checked) false ⟨#[],#[.agg #[.slice none 0 0,.slice none 0 0,.slice none 0 0],.slice none 0 0,.slice none 0 0,.agg #[.slice none 0 0,.slice none 0 0,.slice none 0 0,.int .i64 0,.int .i64 0,.int .i64 0],.slice none 0 0],[]⟩ 8 (by kernel_rfl) (by kernel_rfl) (by kernel_rfl) (by kernel_rfl)) ?_
 intro W base args ds gs before hval0 hW hcnd hsz0 _
 have hsz:(DataW.weightsEach Try.prog (Try.f13.params.toList++Rows.bridgeWorldsSpec.plain.varTypes Try.prog) (ds++gs)).all (· <= reachBytes)=true:=hsz0
 clear hsz0
 have hval:∀ (j:Nat) t v,Try.f13.params[j]?=some t->args[j]?=some v->Value.okWide Try.prog W .any base t v:=hval0
 have hW':=hW
 obtain ⟨p,q,hA0,hV,rfl,hfz,hnd⟩:=hW
 have hA:DataW.TrodAll enc Try.prog W 0 (fun _=>true) true Try.f13.params.toList args.toList ds p:=hA0
 rw [Try.params13] at hA hval hsz
 obtain ⟨v0,vs0,d0,ds0,p0,q0,hargs,rfl,rfl,h0,r0⟩:=trodAll_cons hA
 obtain ⟨v1,vs1,d1,ds1,p1,q1,rfl,rfl,rfl,h1,r1⟩:=trodAll_cons r0
 obtain ⟨v2,vs2,d2,ds2,p2,q2,rfl,rfl,rfl,h2,r2⟩:=trodAll_cons r1
 obtain ⟨v3,vs3,d3,ds3,p3,q3,rfl,rfl,rfl,h3,r3⟩:=trodAll_cons r2
 obtain ⟨v4,vs4,d4,ds4,p4,q4,rfl,rfl,rfl,h4,r4⟩:=trodAll_cons r3
 obtain ⟨rfl,rfl,rfl⟩:=trodAll_nil r4
 obtain rfl:args=#[v0,v1,v2,v3,v4]:=by cases args;simp_all
 obtain ⟨rfl,rfl⟩:=trodVars_none hV
 obtain ⟨x0,rfl,_⟩:=okWide_struct Try.underlying52 (hval 0 52 v0 rfl rfl)
 have k0:=h0
 have lt0:∀ x∈p0,x.block<W.heap.size:=by obtain ⟨m,hm⟩:=k0;exact DataW.trod_lt m _ _ _ hm
 obtain ⟨y0,e0,w0,z0⟩:∃ y:Wd,x0=#[.slice y.kA y.kn y.kc,.slice y.gA y.gn y.gc,.slice y.iA y.im y.ic]/\WdOk W W.heap.size y/\∀ k∈y.ks,k.n*32<=140737488351232:=by
  obtain ⟨fuel,hf⟩:=h0
  obtain ⟨y,h1,h2,h3⟩:=open_wdz (j:=0) hsz rfl rfl hf
  exact ⟨y,by rw [<- Array.toList_inj];exact h1,h2,h3⟩
 subst e0
 obtain ⟨a1,len1,cap1,rfl⟩:=okWide_slice Try.underlying30 (hval 1 30 v1 rfl rfl)
 have k1:=h1
 have lt1:∀ x∈p1,x.block<W.heap.size:=by obtain ⟨m,hm⟩:=k1;exact DataW.trod_lt m _ _ _ hm
 obtain ⟨l1,n1,c1,m1,w1,g1⟩:∃ l:List Int,len1=l.length/\len1<=cap1/\cap1<=9223372036854775807/\Rd W W.heap.size 1 a1 len1 (l.map (Value.int .i64))/\∀ i∈l,(Lit.int .i64 i).wf=true:=by
  obtain ⟨fuel,hf⟩:=h1
  exact open_is Try.underlying30 (by kernel_rfl) Try.underlying3 hf
 obtain ⟨a2,len2,cap2,rfl⟩:=okWide_slice Try.underlying30 (hval 2 30 v2 rfl rfl)
 have k2:=h2
 have lt2:∀ x∈p2,x.block<W.heap.size:=by obtain ⟨m,hm⟩:=k2;exact DataW.trod_lt m _ _ _ hm
 obtain ⟨l2,n2,c2,m2,w2,g2⟩:∃ l:List Int,len2=l.length/\len2<=cap2/\cap2<=9223372036854775807/\Rd W W.heap.size 1 a2 len2 (l.map (Value.int .i64))/\∀ i∈l,(Lit.int .i64 i).wf=true:=by
  obtain ⟨fuel,hf⟩:=h2
  exact open_is Try.underlying30 (by kernel_rfl) Try.underlying3 hf
 obtain ⟨x3,rfl,_⟩:=okWide_struct Try.underlying115 (hval 3 115 v3 rfl rfl)
 have k3:=h3
 have lt3:∀ x∈p3,x.block<W.heap.size:=by obtain ⟨m,hm⟩:=k3;exact DataW.trod_lt m _ _ _ hm
 obtain ⟨bA,jA,cA,bn,bc,jn,jc,cn,cc,gx,gy,st,bl,cl,e3,w3⟩:∃ (bA jA cA:Option Addr) (bn bc jn jc cn cc:Nat) (gx gy st:Int) (bl:List By) (cl:List Ct),x3=#[.slice bA bn bc,.slice jA jn jc,.slice cA cn cc,.int .i64 gx,.int .i64 gy,.int .i64 st]/\SceW W bA bn bc bl cA cn cc cl:=by
  obtain ⟨fuel,hf⟩:=h3
  obtain ⟨bA,jA,cA,bn,bc,jn,jc,cn,cc,gx,gy,st,bl,cl,h1,h2⟩:=open_scene (j:=3) hsz rfl rfl hf
  exact ⟨bA,jA,cA,bn,bc,jn,jc,cn,cc,gx,gy,st,bl,cl,by rw [<- Array.toList_inj];exact h1,h2⟩
 subst e3
 obtain ⟨a4,len4,cap4,rfl⟩:=okWide_slice Try.underlying116 (hval 4 116 v4 rfl rfl)
 have k4:=h4
 have lt4:∀ x∈p4,x.block<W.heap.size:=by obtain ⟨m,hm⟩:=k4;exact DataW.trod_lt m _ _ _ hm
 obtain ⟨l4,n4,c4,m4,w4⟩:∃ l:List (Int × Int),len4=l.length/\len4<=cap4/\cap4<=9223372036854775807/\Rd W W.heap.size 2 a4 len4 (enCs l):=by
  obtain ⟨fuel,hf⟩:=h4
  exact open_ens hf
 clear hA0
 refine (bridgeWorlds_any w0 z0 w1 n1 c1 m1 g1 w2 n2 c2 m2 g2 w3 n4 c4 m4 w4).mono fun e W' ⟨he,bel⟩=>?_
 subst he
 exact ⟨_,rfl,_,_,_,[],_,[],hW',trodAll_mk1 (shut_bool Try.underlying4 _),(trodAll_cons_mk (Below.trod laidOut (by kernel_rfl) (of_decide_eq_true (by kernel_rfl)) k0 bel lt0) (trodAll_cons_mk (Below.trod laidOut (by kernel_rfl) (of_decide_eq_true (by kernel_rfl)) k1 bel lt1) (trodAll_cons_mk (Below.trod laidOut (by kernel_rfl) (of_decide_eq_true (by kernel_rfl)) k2 bel lt2) (trodAll_cons_mk (Below.trod laidOut (by kernel_rfl) (of_decide_eq_true (by kernel_rfl)) k3 bel lt3) (trodAll_cons_mk (Below.trod laidOut (by kernel_rfl) (of_decide_eq_true (by kernel_rfl)) k4 bel lt4) trodAll_mk0))))),rfl,bel.frame _,fun h=>by cases h⟩
theorem over:Rows.bridgeWorldsRow.holds Try.pinned (OpenSpec.ofChange Rows.bridgeWorldsSpec) :=
 OpenClaim.holds_of_wide 13 Try.f13 rfl rfl rfl rfl rfl rfl rfl ⟨rfl,rfl,rfl,rfl,rfl⟩ rfl rfl rfl rfl rfl (by kernel_rfl) Try.func13 factB
  (of_decide_eq_true (by kernel_rfl)) (by unfold Func.isWrapper;first | (rw [if_pos (by decide +kernel)];kernel_rfl) | (rw [if_neg (by decide +kernel)];exact ⟨rfl,rfl⟩))
  (fun os started H enc _=>lifted os started H enc)
theorem proved:Rows.BridgeWorldsSaid:=over
end Go.Proofs.Ytnidcmhfbkdioaa.bridgeWorlds
