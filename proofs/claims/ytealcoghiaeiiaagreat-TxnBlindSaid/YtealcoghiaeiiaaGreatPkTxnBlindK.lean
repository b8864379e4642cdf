/- Texts by which the law's calls are walked (part 11): rules, printed conditions, contracts; no condition. -/
import Derived.TacticsIn
import Derived.TacticsInMore
import Derived.Deep.LoopGhost
import Derived.Sort.QuietThIn
import Derived.RangeFuncCalls
import Derived.RangeFuncNested
import Derived.RangeFuncLeaves
import Derived.WalkKit
import Derived.StillTail
import Derived.Test.YtealcoghiaeiiaaGreatProg
import Derived.KernelRfl
import Derived.Deep.WholeRow
import Derived.Laws.StructEq
import Derived.MapFrom
import Derived.Laws.CopyRow
import Derived.Maps.RangeRun
import Derived.Sort.Walk0
import Derived.RangeFuncBound
import Derived.Deep.Slices
import Derived.SizedLaws
import Derived.ChangeArms
import Derived.OpenShut
import Derived.ShutString
import Derived.ProofKit
import Derived.ChangeOld
import Derived.ChangeSame
import Derived.Test.YtealcoghiaeiiaaGreatPkTxnBlindJ
open Go.Proofs.Tryz renaming prog → zA
open Go.IntKind renaming wrap → zB
open Go.Value renaming pointer → zC, int → zV, string → zY, bool → Qq
open Go.Instr renaming loadAt → zD, storeAt → zK, indexAt → zF, fieldAt → zO, alloc → zk, build → QC, buildSlice → zc
open Nat renaming le_refl → zU, le_trans → ze, lt_of_lt_of_le → xf
open List renaming length_append → zy
set_option linter.unusedVariables false
namespace Go.Proofs.YtealcoghiaeiiaaGreat.VG
open Go.VB Go.Proofs Go.RowKit Go.WideShapes
set_option maxRecDepth 100000 in
theorem zPP {H:Type} {enc:TypeId × Value->H} {W:World}:∀ m cs x,DataW.trod enc zA W 0 (λ_=>true) true m ZU cs=some x->∃ y:Pai,cs=zL.cells y:=λm cs x h=>by
 obtain ⟨xs,n,_,_,hl,hlen,hf⟩:=DataW.trod_struct Tryz.underlying66 h
 have hc:cs.length=2:=hl.trans (by kernel_rfl)
 have h0:=hf 0 _ rfl;have h1:=hf 1 _ rfl
 have g:∀ i,i<2->∃ y,xs[i]?=some y:=λi hi=>⟨xs[i]'(by rw [hlen];exact hi),by simp⟩
 obtain ⟨y0,e0⟩:=g 0 (by omega);obtain ⟨y1,e1⟩:=g 1 (by omega)
 rw [e0] at h0;rw [e1] at h1
 obtain ⟨s0,z0,_⟩:=DataW.trod_string Tryz.underlying9 h0
 obtain ⟨s1,z1,_⟩:=DataW.trod_string Tryz.underlying9 h1
 have k0:=zIa z0 (by kernel_rfl);have k1:=zIa z1 (by kernel_rfl)
 refine ⟨⟨s0,s1⟩,?_⟩
 match cs,hc with
 |[a,b],_=>
  simp at k0 k1
  subst k0;subst k1
  rfl
end Go.Proofs.YtealcoghiaeiiaaGreat.VG
set_option linter.unusedVariables false
namespace Go.VB
open Go.RowKit Go.ChangeShapes Go.WideShapes
theorem zPg {H α:Type} {enc:TypeId × Value->H} {P:Program} {W:World} {t e n B fuel:Nat} {c:α->List Value} {cs:List Value} {d:DataW H} {ps:List MemPlace}
  (hw:∀ x∈d.weights P t,x<=reachBytes) (hu:P.underlying t=some (.slice e)) (hn:P.cellsOf e=n) (hB:P.bytesOf e=B) (hB1:1<=B)
  (hel:∀ m cs x,DataW.trod enc P W 0 (λ_=>true) true m e cs=some x->∃ y:α,cs=c y)
  (hf:DataW.trod enc P W 0 (λ_=>true) true fuel t cs=some (d,ps)):∃ (s:Sl) (l:List α),cs=[Sl.v s]/\Rd c n W s l/\l.length*B<=140737488351232:=by
 rcases Go.Deep.open_slice hu hf with ⟨rfl,_⟩|⟨x,len,cap,m,q,D,Pl,rfl,_,hl,hm,hmm,hx,hall⟩
 ·exact ⟨Sl.none,[],rfl,Rd.nil c n W,by simp⟩
 ·simp at hmm;subst hmm
  obtain ⟨hx,_⟩:=Prod.mk.inj hx
  subst hx
  have z:=hw ((((List.range len).map D).length+((List.range (m - len)).map λj=>D (len+j)).length)*P.bytesOf e) (by simp [DataW.weights,hu])
  rw [hB] at z
  simp [reachBytes] at z
  obtain ⟨L,hL,hp⟩:=choose_lt' (α:=α) (n:=len) (p:=λi y=>At W (x.add (i*n)) (c y)) λi hi=>by
   obtain ⟨cs',h1,h2⟩:=hall i (by omega)
   obtain ⟨y,rfl⟩:=hel _ _ _ h2
   rw [hn] at h1
   exact ⟨y,At.of_cells? h1⟩
  have z2:len*B<=140737488351232:=by
   have:len*B<=(len+(m - len))*B:=Nat.mul_le_mul_right _ (by omega)
   exact ze this z
  have z3:len<=len*B:=Nat.le_mul_of_pos_right _ hB1
  exact ⟨⟨some x,len,m⟩,L,rfl,⟨hL,hl,by simpa [maxLen] using hm,by show len<=_;omega,λh=>by simp at h,λi y hi=>⟨x,rfl,hp i y hi⟩⟩,by rw [hL];exact z2⟩
theorem zHQ {H:Type} {P:Program} {e:TypeId} {x:Nat} {d:DataW H}:∀ {l:List (DataW H)},d∈l->x∈d.weights P e->x∈DataW.weightsAll P e l
 |[],h,_=>by cases h
 |a::l,h,hx=>by
  unfold DataW.weightsAll
  rcases List.mem_cons.1 h with e1|e1
  ·subst e1;exact List.mem_append_left _ hx
  ·exact List.mem_append_right _ (zHQ e1 hx)
theorem zOa {H α:Type} {enc:TypeId × Value->H} {P:Program} {W:World} {t e e2 n B B2:Nat} {c:α->List Value} {a:Option Addr} {len cap:Nat} {d:DataW H} {ps:List MemPlace} {ts:List TypeId} {ds:List (DataW H)} {j:Nat}
  (hsz:(DataW.weightsEach P ts ds).all (·<=reachBytes)=true) (ht:ts[j]?=some t) (hd:ds[j]?=some d) (hu:P.underlying t=some (.slice e)) (hn:P.cellsOf e=1) (hB:P.bytesOf e=B) (hB1:1<=B)
  (hu2:P.underlying e=some (.slice e2)) (hn2:P.cellsOf e2=n) (hB2:P.bytesOf e2=B2) (hB21:1<=B2)
  (hel:∀ m cs x,DataW.trod enc P W 0 (λ_=>true) true m e2 cs=some x->∃ y:α,cs=c y)
  (h:DataW.Trod enc P W 0 (λ_=>true) true t (.slice a len cap) d ps):∃ ss:List Sl,Rd (λx:Sl=>[Sl.v x]) 1 W ⟨a,len,cap⟩ ss/\∀ x∈ss,∃ l:List α,Rd c n W x l:=by
 obtain ⟨fuel,hf⟩:=h
 rcases Go.Deep.open_slice hu hf with ⟨hcs,_⟩|⟨x,l,c',m,q,D,Pl,hcs,_,hl,hm,hmm,hx,hall⟩
 ·simp [Value.cells] at hcs
  obtain ⟨rfl,rfl,rfl⟩:=hcs
  exact ⟨[],Rd.nil _ 1 W,by simp⟩
 ·simp [Value.cells] at hcs
  obtain ⟨rfl,rfl,rfl⟩:=hcs
  simp at hmm;subst hmm
  obtain ⟨hx,_⟩:=Prod.mk.inj hx
  subst hx
  have z:=sized_slice hsz ht hd hu
  rw [hB] at z
  simp at z
  have hwi:∀ i,i<len->∀ y∈(D i).weights P e,y<=reachBytes:=λi hi y hy=>by
   have:=List.all_eq_true.1 hsz y (DataW.weights_mem_each ht hd y (by
    unfold DataW.weights
    rw [hu]
    exact List.mem_cons_of_mem _ (List.mem_append_left _ (zHQ (List.mem_map.2 ⟨i,List.mem_range.2 hi,rfl⟩) hy))))
   simpa using this
  obtain ⟨L,hL,hp⟩:=choose_lt' (α:=Sl) (n:=len) (p:=λi y=>At W (x.add (i*1)) [Sl.v y]/\∃ l:List α,Rd c n W y l) λi hi=>by
   obtain ⟨cs',h1,h2⟩:=hall i (by omega)
   obtain ⟨s,l,rfl,hR,_⟩:=zPg (hwi i hi) hu2 hn2 hB2 hB21 hel h2
   rw [hn] at h1
   exact ⟨s,At.of_cells? h1,l,hR⟩
  have z2:len*B<=140737488351232:=by
   have:len*B<=(len+(m - len))*B:=Nat.mul_le_mul_right _ (by omega)
   exact ze this z
  have z3:len<=len*B:=Nat.le_mul_of_pos_right _ hB1
  refine ⟨L,⟨hL,hl,by simpa [maxLen] using hm,by show len<=_;omega,λh=>by simp at h,λi y hi=>⟨x,rfl,(hp i y hi).1⟩⟩,λy hy=>?_⟩
  obtain ⟨i,hi⟩:=List.getElem?_of_mem hy
  exact (hp i y hi).2
theorem zOV {H:Type} {enc:TypeId × Value->H} {P:Program} {W:World} {e:TypeId} (he:P.underlying e=some (.int .i64)):∀ m cs x,DataW.trod enc P W 0 (λ_=>true) true m e cs=some x->∃ y:Int,cs=[zV .i64 y]:=λm cs x h=>by
 obtain ⟨s,rfl,_⟩:=DataW.trod_int he h
 exact ⟨s,rfl⟩
end Go.VB
namespace Go.Proofs.YtealcoghiaeiiaaGreat.VG
open Go.VB Go.Proofs Go.RowKit Go.WideShapes
set_option maxRecDepth 100000 in
theorem zOg {H:Type} {enc:TypeId × Value->H} {W:World}:∀ m cs x,DataW.trod enc zA W 0 (λ_=>true) true m Za cs=some x->∃ y:Wri,cs=zI.cells y:=λm cs x h=>by
 obtain ⟨xs,n,_,_,hl,hlen,hf⟩:=DataW.trod_struct Tryz.underlying34 h
 have hc:cs.length=3:=hl.trans (by kernel_rfl)
 have h0:=hf 0 _ rfl;have h1:=hf 1 _ rfl;have h2:=hf 2 _ rfl
 have g:∀ i,i<3->∃ y,xs[i]?=some y:=λi hi=>⟨xs[i]'(by rw [hlen];exact hi),by simp⟩
 obtain ⟨y0,e0⟩:=g 0 (by omega);obtain ⟨y1,e1⟩:=g 1 (by omega);obtain ⟨y2,e2⟩:=g 2 (by omega)
 rw [e0] at h0;rw [e1] at h1;rw [e2] at h2
 obtain ⟨s0,z0,_⟩:=DataW.trod_string Tryz.underlying9 h0
 obtain ⟨s1,z1,_⟩:=DataW.trod_string Tryz.underlying9 h1
 obtain ⟨s2,z2,_⟩:=DataW.trod_bool Tryz.underlying4 h2
 have k0:=zIa z0 (by kernel_rfl);have k1:=zIa z1 (by kernel_rfl);have k2:=zIa z2 (by kernel_rfl)
 refine ⟨⟨s0,s1,s2⟩,?_⟩
 match cs,hc with
 |[a,b,c],_=>
  simp at k0 k1 k2
  subst k0;subst k1;subst k2
  rfl
end Go.Proofs.YtealcoghiaeiiaaGreat.VG
