/-
  Lemmas for the walk, merged (Fc Fe). No condition but those in each statement.
-/
import Derived.Test.YtnidcmhfbkdioaaSw37
import Derived.Test.YtnidcmhfbkdioaaSw23
namespace Go.Proofs.Ytnidcmhfbkdioaa
open Go.ChangeShapes Go.WideShapes Go.ChangeAt Go.RowKit Go.Deep
set_option maxRecDepth 100000
instance:Inhabited Ct:=⟨⟨0,0,0,0,0,0,0,0,0,0⟩⟩
section
variable {H:Type} {enc:TypeId × Value->H} {w:World} {base:Nat} {spare:Nat->Bool} {held:Bool}
theorem open_vec {fuel:Nat} {cs:List Value} {x:DataW H × List MemPlace} (h:DataW.trod enc Try.prog w base spare held fuel 105 cs=some x) :
 ∃ a b:Int,cs=[.int .i64 a,.int .i64 b]:=by
 obtain ⟨u0,u1,n3,_,hl,k0,k1⟩:=trod_struct2 Try.underlying105 h
 have c2:Try.prog.cellsOf 3=1:=by kernel_rfl
 have c3:Try.prog.cellsOf 105=2:=by kernel_rfl
 rw [c3] at hl
 match cs,hl with
 | [v0,v1],_ =>
   dsimp only at k0 k1
   rw [c2] at k0 k1
   simp only [List.drop_succ_cons,List.drop_zero,List.take_succ_cons,List.take_zero] at k0 k1
   obtain ⟨z1,h1,_,_⟩:=DataW.trod_int Try.underlying3 k0
   obtain ⟨z2,h2,_,_⟩:=DataW.trod_int Try.underlying3 k1
   simp at h1 h2
   exact ⟨z1,z2,by rw [h1,h2]⟩
theorem open_cts {fuel:Nat} {A:Option Addr} {n c:Nat} {x:DataW H × List MemPlace} (h:DataW.trod enc Try.prog w base spare held fuel 76 [.slice A n c]=some x) :
 ∃ l:List Ct,n=l.length/\n<=c/\c<=9223372036854775807/\Rd w w.heap.size 10 A n (ctCs l)/\∀ k∈l,(Lit.int .i64 k.a).wf=true/\(Lit.int .i64 k.b).wf=true:=by
 have hsz:Try.prog.cellsOf 131=10:=by kernel_rfl
 obtain ⟨hm,V,hr,hV⟩:=open_cells Try.underlying76 hsz (by omega) h
 have hcap:=open_cap Try.underlying76 h
 have key:∀ i,i<n->∃ z:Ct,(List.range 10).map (V i)=Ct.cs z/\(Lit.int .i64 z.a).wf=true/\(Lit.int .i64 z.b).wf=true:=by
  intro i hi
  obtain ⟨m,y,hy⟩:=hV i hi
  obtain ⟨xs,n',_,_,hl,hlen,hf⟩:=DataW.trod_struct Try.underlying131 hy
  have c1:Try.prog.cellsOf 105=2:=by kernel_rfl
  have c2:Try.prog.cellsOf 3=1:=by kernel_rfl
  have e10:(List.range 10).map (V i)=[V i 0,V i 1,V i 2,V i 3,V i 4,V i 5,V i 6,V i 7,V i 8,V i 9]:=rfl
  have g0:DataW.trod enc Try.prog w base spare held n' 3 ((((List.range 10).map (V i)).drop 0).take (Try.prog.cellsOf 3))=xs[0]?:=hf 0 _ rfl
  have g1:DataW.trod enc Try.prog w base spare held n' 3 ((((List.range 10).map (V i)).drop 1).take (Try.prog.cellsOf 3))=xs[1]?:=hf 1 _ rfl
  have g2:DataW.trod enc Try.prog w base spare held n' 3 ((((List.range 10).map (V i)).drop 2).take (Try.prog.cellsOf 3))=xs[2]?:=hf 2 _ rfl
  have g3:DataW.trod enc Try.prog w base spare held n' 105 ((((List.range 10).map (V i)).drop 3).take (Try.prog.cellsOf 105))=xs[3]?:=hf 3 _ rfl
  have g4:DataW.trod enc Try.prog w base spare held n' 105 ((((List.range 10).map (V i)).drop 5).take (Try.prog.cellsOf 105))=xs[4]?:=hf 4 _ rfl
  have g5:DataW.trod enc Try.prog w base spare held n' 3 ((((List.range 10).map (V i)).drop 7).take (Try.prog.cellsOf 3))=xs[5]?:=hf 5 _ rfl
  have g6:DataW.trod enc Try.prog w base spare held n' 3 ((((List.range 10).map (V i)).drop 8).take (Try.prog.cellsOf 3))=xs[6]?:=hf 6 _ rfl
  have g7:DataW.trod enc Try.prog w base spare held n' 3 ((((List.range 10).map (V i)).drop 9).take (Try.prog.cellsOf 3))=xs[7]?:=hf 7 _ rfl
  match xs,hlen with
  | [y0,y1,y2,y3,y4,y5,y6,y7],_ =>
    rw [e10,c2] at g0 g1 g2 g5 g6 g7
    rw [e10,c1] at g3 g4
    simp only [List.drop_succ_cons,List.drop_zero,List.take_succ_cons,List.take_zero,List.getElem?_cons_zero,List.getElem?_cons_succ] at g0 g1 g2 g3 g4 g5 g6 g7
    obtain ⟨z0,h0,_,w0⟩:=DataW.trod_int Try.underlying3 g0
    obtain ⟨z1,h1,_,w1⟩:=DataW.trod_int Try.underlying3 g1
    obtain ⟨z2,h2,_,_⟩:=DataW.trod_int Try.underlying3 g2
    obtain ⟨p0,p1,h3⟩:=open_vec g3
    obtain ⟨p2,p3,h4⟩:=open_vec g4
    obtain ⟨z5,h5,_,_⟩:=DataW.trod_int Try.underlying3 g5
    obtain ⟨z6,h6,_,_⟩:=DataW.trod_int Try.underlying3 g6
    obtain ⟨z7,h7,_,_⟩:=DataW.trod_int Try.underlying3 g7
    simp at h0 h1 h2 h3 h4 h5 h6 h7
    exact ⟨⟨z0,z1,z2,p0,p1,p2,p3,z5,z6,z7⟩,by rw [e10,h0,h1,h2,h3.1,h3.2,h4.1,h4.2,h5,h6,h7];rfl,w0,w1⟩
 obtain ⟨Z,hZ⟩:=choose_lt (α:=Ct) (n:=n) (p:=fun i z=>(List.range 10).map (V i)=Ct.cs z/\(Lit.int .i64 z.a).wf=true/\(Lit.int .i64 z.b).wf=true) key
 refine ⟨(List.range n).map Z,by simp,hcap.1,hcap.2,?_,?_⟩
 . have e:((List.range n).flatMap fun i=>(List.range 10).map (V i))=ctCs ((List.range n).map Z):=by
    unfold ctCs
    rw [List.flatMap_map]
    exact flatMap_congr_range fun i hi=>(hZ i hi).1
   rw [<- e];exact hr
 . intro k hk
   simp only [List.mem_map,List.mem_range] at hk
   obtain ⟨j,hj,rfl⟩:=hk
   exact (hZ j hj).2
end
instance:Inhabited By:=⟨⟨0,0,0,0,0,0,0,0,0,0,none,0,0,false,0⟩⟩
theorem sized_agg {H:Type} {P:Program} {ts:List TypeId} {ds:List (DataW H)} (h:(DataW.weightsEach P ts ds).all (· <= reachBytes)=true) {j:Nat} {t:TypeId} {fs:Array Field} {parts:List (DataW H)} (ht:ts[j]?=some t) (hd:ds[j]?=some (.agg parts)) (hu:P.underlying t=some (.struct fs)) :
 (DataW.weightsEach P (fs.toList.map (·.type)) parts).all (· <= reachBytes)=true:=by
 refine List.all_eq_true.2 fun x hx=>?_
 exact List.all_eq_true.1 h x (DataW.weights_mem_each ht hd x (by simpa [DataW.weights,hu] using hx))
section
variable {H:Type} {enc:TypeId × Value->H} {w:World} {base:Nat} {spare:Nat->Bool} {held:Bool}
theorem open_ens {fuel:Nat} {A:Option Addr} {n c:Nat} {x:DataW H × List MemPlace} (h:DataW.trod enc Try.prog w base spare held fuel 116 [.slice A n c]=some x) :
 ∃ l:List (Int × Int),n=l.length/\n<=c/\c<=9223372036854775807/\Rd w w.heap.size 2 A n (enCs l):=by
 have hsz:Try.prog.cellsOf 128=2:=by kernel_rfl
 obtain ⟨hm,V,hr,hV⟩:=open_cells Try.underlying116 hsz (by omega) h
 have hcap:=open_cap Try.underlying116 h
 have key:∀ i,i<n->∃ z:Int × Int,(List.range 2).map (V i)=[.int .i64 z.1,.int .i64 z.2]:=by
  intro i hi
  obtain ⟨m,y,hy⟩:=hV i hi
  obtain ⟨u0,u1,n3,_,hl,k0,k1⟩:=trod_struct2 Try.underlying128 hy
  have c2:Try.prog.cellsOf 3=1:=by kernel_rfl
  have e2:(List.range 2).map (V i)=[V i 0,V i 1]:=rfl
  rw [e2] at k0 k1
  dsimp only at k0 k1
  rw [c2] at k0 k1
  simp only [List.drop_succ_cons,List.drop_zero,List.take_succ_cons,List.take_zero] at k0 k1
  obtain ⟨z1,h1,_,_⟩:=DataW.trod_int Try.underlying3 k0
  obtain ⟨z2,h2,_,_⟩:=DataW.trod_int Try.underlying3 k1
  simp at h1 h2
  exact ⟨(z1,z2),by rw [e2,h1,h2]⟩
 obtain ⟨Z,hZ⟩:=choose_lt (α:=Int × Int) (n:=n) (p:=fun i z=>(List.range 2).map (V i)=[.int .i64 z.1,.int .i64 z.2]) key
 refine ⟨(List.range n).map Z,by simp,hcap.1,hcap.2,?_⟩
 have e:((List.range n).flatMap fun i=>(List.range 2).map (V i))=enCs ((List.range n).map Z):=by
  unfold enCs
  rw [List.flatMap_map]
  exact flatMap_congr_range fun i hi=>hZ i hi
 rw [<- e];exact hr
theorem open_bys {fuel:Nat} {A:Option Addr} {n c:Nat} {x:DataW H × List MemPlace} (h:DataW.trod enc Try.prog w base spare held fuel 112 [.slice A n c]=some x) :
 ∃ l:List By,n=l.length/\n<=c/\c<=9223372036854775807/\Rd w w.heap.size 13 A n (byCs l):=by
 have hsz:Try.prog.cellsOf 124=13:=by kernel_rfl
 obtain ⟨hm,V,hr,hV⟩:=open_cells Try.underlying112 hsz (by omega) h
 have hcap:=open_cap Try.underlying112 h
 have key:∀ i,i<n->∃ z:By,(List.range 13).map (V i)=By.cs z:=by
  intro i hi
  obtain ⟨m,y,hy⟩:=hV i hi
  obtain ⟨xs,n',_,_,hl,hlen,hf⟩:=DataW.trod_struct Try.underlying124 hy
  have c1:Try.prog.cellsOf 105=2:=by kernel_rfl
  have c2:Try.prog.cellsOf 3=1:=by kernel_rfl
  have c3:Try.prog.cellsOf 122=1:=by kernel_rfl
  have c4:Try.prog.cellsOf 4=1:=by kernel_rfl
  have e13:(List.range 13).map (V i)=[V i 0,V i 1,V i 2,V i 3,V i 4,V i 5,V i 6,V i 7,V i 8,V i 9,V i 10,V i 11,V i 12]:=rfl
  have g0:DataW.trod enc Try.prog w base spare held n' 105 ((((List.range 13).map (V i)).drop 0).take (Try.prog.cellsOf 105))=xs[0]?:=hf 0 _ rfl
  have g1:DataW.trod enc Try.prog w base spare held n' 105 ((((List.range 13).map (V i)).drop 2).take (Try.prog.cellsOf 105))=xs[1]?:=hf 1 _ rfl
  have g2:DataW.trod enc Try.prog w base spare held n' 3 ((((List.range 13).map (V i)).drop 4).take (Try.prog.cellsOf 3))=xs[2]?:=hf 2 _ rfl
  have g3:DataW.trod enc Try.prog w base spare held n' 3 ((((List.range 13).map (V i)).drop 5).take (Try.prog.cellsOf 3))=xs[3]?:=hf 3 _ rfl
  have g4:DataW.trod enc Try.prog w base spare held n' 3 ((((List.range 13).map (V i)).drop 6).take (Try.prog.cellsOf 3))=xs[4]?:=hf 4 _ rfl
  have g5:DataW.trod enc Try.prog w base spare held n' 3 ((((List.range 13).map (V i)).drop 7).take (Try.prog.cellsOf 3))=xs[5]?:=hf 5 _ rfl
  have g6:DataW.trod enc Try.prog w base spare held n' 3 ((((List.range 13).map (V i)).drop 8).take (Try.prog.cellsOf 3))=xs[6]?:=hf 6 _ rfl
  have g7:DataW.trod enc Try.prog w base spare held n' 3 ((((List.range 13).map (V i)).drop 9).take (Try.prog.cellsOf 3))=xs[7]?:=hf 7 _ rfl
  have g8:DataW.trod enc Try.prog w base spare held n' 122 ((((List.range 13).map (V i)).drop 10).take (Try.prog.cellsOf 122))=xs[8]?:=hf 8 _ rfl
  have g9:DataW.trod enc Try.prog w base spare held n' 4 ((((List.range 13).map (V i)).drop 11).take (Try.prog.cellsOf 4))=xs[9]?:=hf 9 _ rfl
  have g10:DataW.trod enc Try.prog w base spare held n' 3 ((((List.range 13).map (V i)).drop 12).take (Try.prog.cellsOf 3))=xs[10]?:=hf 10 _ rfl
  match xs,hlen with
  | [y0,y1,y2,y3,y4,y5,y6,y7,y8,y9,Hl],_ =>
    rw [e13,c1] at g0 g1
    rw [e13,c2] at g2 g3 g4 g5 g6 g7 g10
    rw [e13,c3] at g8
    rw [e13,c4] at g9
    simp only [List.drop_succ_cons,List.drop_zero,List.take_succ_cons,List.take_zero,List.getElem?_cons_zero,List.getElem?_cons_succ] at g0 g1 g2 g3 g4 g5 g6 g7 g8 g9 g10
    obtain ⟨p0,p1,h0⟩:=open_vec g0
    obtain ⟨p2,p3,h1⟩:=open_vec g1
    obtain ⟨z2,h2,_,_⟩:=DataW.trod_int Try.underlying3 g2
    obtain ⟨z3,h3,_,_⟩:=DataW.trod_int Try.underlying3 g3
    obtain ⟨z4,h4,_,_⟩:=DataW.trod_int Try.underlying3 g4
    obtain ⟨z5,h5,_,_⟩:=DataW.trod_int Try.underlying3 g5
    obtain ⟨z6,h6,_,_⟩:=DataW.trod_int Try.underlying3 g6
    obtain ⟨z7,h7,_,_⟩:=DataW.trod_int Try.underlying3 g7
    obtain ⟨cA,cn,cc,h8⟩:=slice_shape Try.underlying122 g8
    obtain ⟨z9,h9,_⟩:=DataW.trod_bool Try.underlying4 g9
    obtain ⟨z10,h10,_,_⟩:=DataW.trod_int Try.underlying3 g10
    simp at h0 h1 h2 h3 h4 h5 h6 h7 h8 h9 h10
    exact ⟨⟨p0,p1,p2,p3,z2,z3,z4,z5,z6,z7,cA,cn,cc,z9,z10⟩,by rw [e13,h0.1,h0.2,h1.1,h1.2,h2,h3,h4,h5,h6,h7,h8,h9,h10];rfl⟩
 obtain ⟨Z,hZ⟩:=choose_lt (α:=By) (n:=n) (p:=fun i z=>(List.range 13).map (V i)=By.cs z) key
 refine ⟨(List.range n).map Z,by simp,hcap.1,hcap.2,?_⟩
 have e:((List.range n).flatMap fun i=>(List.range 13).map (V i))=byCs ((List.range n).map Z):=by
  unfold byCs
  rw [List.flatMap_map]
  exact flatMap_congr_range fun i hi=>hZ i hi
 rw [<- e];exact hr
structure SceW (w:World) (bA:Option Addr) (bn bc:Nat) (bl:List By) (cA:Option Addr) (cn cc:Nat) (cl:List Ct):Prop where
 hbl:bn=bl.length
 hbc:bn<=bc
 hbc2:bc<=9223372036854775807
 hbr:Rd w w.heap.size 13 bA bn (byCs bl)
 hbz:bn*120<=140737488351232
 hcl:cn=cl.length
 hcc:cn<=cc
 hcc2:cc<=9223372036854775807
 hcr:Rd w w.heap.size 10 cA cn (ctCs cl)
 hcz:cn*80<=140737488351232
 hcw:∀ k∈cl,(Lit.int .i64 k.a).wf=true/\(Lit.int .i64 k.b).wf=true
theorem open_scene {ts:List TypeId} {ds:List (DataW H)} {j:Nat} {fuel:Nat} {cs:List Value} {d:DataW H} {p:List MemPlace} (hz:(DataW.weightsEach Try.prog ts ds).all (· <= reachBytes)=true) (ht:ts[j]?=some 115) (hd:ds[j]?=some d)
 (h:DataW.trod enc Try.prog w base spare held fuel 115 cs=some (d,p)) :
 ∃ (bA jA cA:Option Addr) (bn bc jn jc cn cc:Nat) (gx gy st:Int) (bl:List By) (cl:List Ct),cs=[.slice bA bn bc,.slice jA jn jc,.slice cA cn cc,.int .i64 gx,.int .i64 gy,.int .i64 st]/\SceW w bA bn bc bl cA cn cc cl:=by
 obtain ⟨xs,n',_,hx,hl,hlen,hf⟩:=DataW.trod_struct Try.underlying115 h
 have c0:Try.prog.cellsOf 115=6:=by kernel_rfl
 have c1:Try.prog.cellsOf 112=1:=by kernel_rfl
 have c2:Try.prog.cellsOf 113=1:=by kernel_rfl
 have c3:Try.prog.cellsOf 76=1:=by kernel_rfl
 have c4:Try.prog.cellsOf 105=2:=by kernel_rfl
 have c5:Try.prog.cellsOf 3=1:=by kernel_rfl
 rw [c0] at hl
 have g0:DataW.trod enc Try.prog w base spare held n' 112 ((cs.drop 0).take (Try.prog.cellsOf 112))=xs[0]?:=hf 0 _ rfl
 have g1:DataW.trod enc Try.prog w base spare held n' 113 ((cs.drop 1).take (Try.prog.cellsOf 113))=xs[1]?:=hf 1 _ rfl
 have g2:DataW.trod enc Try.prog w base spare held n' 76 ((cs.drop 2).take (Try.prog.cellsOf 76))=xs[2]?:=hf 2 _ rfl
 have g3:DataW.trod enc Try.prog w base spare held n' 105 ((cs.drop 3).take (Try.prog.cellsOf 105))=xs[3]?:=hf 3 _ rfl
 have g4:DataW.trod enc Try.prog w base spare held n' 3 ((cs.drop 5).take (Try.prog.cellsOf 3))=xs[4]?:=hf 4 _ rfl
 match xs,hlen with
 | [y0,y1,y2,y3,y4],_ =>
   injection hx with hx _
   simp only [List.map_cons,List.map_nil] at hx
   have hzz:=sized_agg hz ht (by rw [hd,hx]) Try.underlying115
   match cs,hl with
   | [a0,a1,a2,a3,a4,a5],_ =>
     rw [c1] at g0
     rw [c2] at g1
     rw [c3] at g2
     rw [c4] at g3
     rw [c5] at g4
     simp only [List.drop_succ_cons,List.drop_zero,List.take_succ_cons,List.take_zero,List.getElem?_cons_zero,List.getElem?_cons_succ] at g0 g1 g2 g3 g4
     obtain ⟨bA,bn,bc,h0⟩:=slice_shape Try.underlying112 g0
     obtain ⟨jA,jn,jc,h1⟩:=slice_shape Try.underlying113 g1
     obtain ⟨cA,cn,cc,h2⟩:=slice_shape Try.underlying76 g2
     obtain ⟨gx,gy,h3⟩:=open_vec g3
     obtain ⟨st,h4,_,_⟩:=DataW.trod_int Try.underlying3 g4
     simp at h0 h1 h2 h3 h4
     subst h0
     subst h1
     subst h2
     obtain ⟨rfl,rfl⟩:=h3
     subst h4
     obtain ⟨bl,b1,b2,b3,b4⟩:=open_bys g0
     obtain ⟨cl,d1,d2,d3,d4,d5⟩:=open_cts g2
     have r0:bn*120<=140737488351232:=reach_len (j:=0) (t:=112) (e:=124) hzz rfl rfl Try.underlying112 (by kernel_rfl) g0
     have r2:cn*80<=140737488351232:=reach_len (j:=2) (t:=76) (e:=131) hzz rfl rfl Try.underlying76 (by kernel_rfl) g2
     exact ⟨bA,jA,cA,bn,bc,jn,jc,cn,cc,gx,gy,st,bl,cl,rfl,⟨b1,b2,b3,b4,r0,d1,d2,d3,d4,r2,d5⟩⟩
end
theorem weightsAll_mem {H:Type} {P:Program} {e:TypeId}:∀ {l:List (DataW H)} {d:DataW H},d∈l->∀ n∈d.weights P e,n∈DataW.weightsAll P e l
 | d'::r,d,hd,n,hn=>by
   simp only [DataW.weightsAll,List.mem_append]
   rcases List.mem_cons.1 hd with rfl | h
   . exact Or.inl hn
   . exact Or.inr (weightsAll_mem h n hn)
section
variable {H:Type} {enc:TypeId × Value->H} {w:World} {base:Nat} {spare:Nat->Bool} {held:Bool}
theorem kds_reach {ts:List TypeId} {ds:List (DataW H)} {j fuel n c:Nat} {A:Option Addr} {l:List Kd} {d:DataW H} {p:List MemPlace} (hl:KsOk w w.heap.size A n c l) (hz:(DataW.weightsEach Try.prog ts ds).all (· <= reachBytes)=true) (ht:ts[j]?=some 22) (hd:ds[j]?=some d)
 (h:DataW.trod enc Try.prog w base spare held fuel 22 [.slice A n c]=some (d,p)):∀ k∈l,k.n*32<=140737488351232:=by
 intro k hk
 obtain ⟨i,hi⟩:=List.getElem?_of_mem hk
 have hin:i<n:=by have h1:=(List.getElem?_eq_some_iff.1 hi).1;have h2:=hl.len;omega
 obtain ⟨b,o,hA,hb,c0,c1⟩:=hl.rd.kd hin hi
 have hsz2:Try.prog.cellsOf 63=2:=by kernel_rfl
 have hsz3:Try.prog.cellsOf 61=1:=by kernel_rfl
 have hb66:Try.prog.bytesOf 66=32:=by kernel_rfl
 rcases open_slice Try.underlying22 h with ⟨hcs,_⟩ | ⟨a,len,cap,m,q,D,Pl,hcs,_,hle,hm,hmm,hx,hr⟩
 . simp at hcs;omega
 . simp at hcs
   obtain ⟨hAa,rfl,rfl⟩:=hcs
   injection hx with hx _
   have hnm:n<=m:=by rw [hmm];split <;> omega
   obtain ⟨cs',hc,htr⟩:=hr i (by omega)
   rw [hsz2] at hc
   obtain ⟨_,hcl,hat⟩:=World.cells?_some hc
   rw [hA] at hAa
   injection hAa with hAa
   subst hAa
   have h1:=hat 1 (by omega)
   rw [add_add,Addr.add_lit] at h1
   have hcx:cs'[1]?=some (Value.slice k.A k.n k.c):=by
    rw [<- h1,<- c1]
    congr 2
   obtain ⟨y0,y1,n3,hD,_,_,g1⟩:=trod_struct2 Try.underlying63 htr
   dsimp only at g1
   rw [hsz3] at g1
   have hg:(cs'.drop 1).take 1=[Value.slice k.A k.n k.c]:=by
    match cs',hcl with
    | [u0,u1],_ =>
      simp at hcx
      simp [hcx]
   rw [hg] at g1
   have hDi:D i=.agg [y0.1,y1.1]:=congrArg Prod.fst hD
   have hmem:D i∈(List.range n).map D:=List.mem_map.2 ⟨i,List.mem_range.2 hin,rfl⟩
   have hall:∀ x∈y1.1.weights Try.prog 61,x<=reachBytes:=fun x hx1=>by
    have h2:x∈(D i).weights Try.prog 63:=by
     rw [hDi]
     simp only [DataW.weights,Try.underlying63,DataW.weightsEach,List.map_cons,List.map_nil,List.mem_append]
     exact Or.inr (Or.inl hx1)
    have h3:=List.all_eq_true.1 hz x (DataW.weights_mem_each ht (by rw [hd,hx]) x (by
     simp only [DataW.weights,Try.underlying22,List.mem_cons,List.mem_append]
     exact Or.inr (Or.inl (weightsAll_mem hmem x h2))))
    simpa using h3
   rcases open_slice Try.underlying61 g1 with ⟨hcs,_⟩ | ⟨a2,len2,cap2,m2,q2,D2,Pl2,hcs,_,hle2,hm2,hmm2,hx2,_⟩
   . simp at hcs;omega
   . simp at hcs
     have hy:y1.1=_:=congrArg Prod.fst hx2
     have h4:=hall ((((List.range len2).map D2).length+_)*Try.prog.bytesOf 66) (by
      rw [hy]
      simp only [DataW.weights,Try.underlying61,List.mem_cons]
      exact Or.inl rfl)
     rw [hb66,List.length_map,List.length_range,<- hcs.2.1] at h4
     exact Nat.le_trans (Nat.mul_le_mul_right _ (Nat.le_add_right _ _)) h4
theorem open_wdz {ts:List TypeId} {ds:List (DataW H)} {j:Nat} {fuel:Nat} {cs:List Value} {d:DataW H} {p:List MemPlace} (hz:(DataW.weightsEach Try.prog ts ds).all (· <= reachBytes)=true) (ht:ts[j]?=some 52) (hd:ds[j]?=some d)
 (h:DataW.trod enc Try.prog w base spare held fuel 52 cs=some (d,p)) :
 ∃ y:Wd,cs=[.slice y.kA y.kn y.kc,.slice y.gA y.gn y.gc,.slice y.iA y.im y.ic]/\WdOk w w.heap.size y/\∀ k∈y.ks,k.n*32<=140737488351232:=by
 obtain ⟨y,hy,hok⟩:=open_wd h
 refine ⟨y,hy,hok,?_⟩
 subst hy
 obtain ⟨y0,y1,y2,n,hx,_,g0,_,_⟩:=trod_struct3 Try.underlying52 h
 have c0:Try.prog.cellsOf 22=1:=by kernel_rfl
 dsimp only at g0
 rw [c0] at g0
 simp only [List.drop_zero,List.take_succ_cons,List.take_zero] at g0
 injection hx with hx _
 have hzz:=sized_agg hz ht (by rw [hd,hx]) Try.underlying52
 exact kds_reach (j:=0) hok.ks hzz rfl rfl g0
end
end Go.Proofs.Ytnidcmhfbkdioaa
