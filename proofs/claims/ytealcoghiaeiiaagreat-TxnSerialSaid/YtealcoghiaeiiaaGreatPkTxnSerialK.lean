/- Texts by which the law's calls are walked (part 11): rules, printed conditions, contracts; no condition. -/
import Derived.TacticsIn
import Derived.TacticsInMore
import Derived.Deep.LoopGhost
import Derived.Sort.QuietThIn
import Derived.RangeFuncCalls
import Derived.RangeFuncNested
import Derived.RangeFuncLeaves
import Derived.WalkKit
import Derived.StillTail
import Derived.Test.YtealcoghiaeiiaaGreatProg
import Derived.KernelRfl
import Derived.Deep.WholeRow
import Derived.Laws.StructEq
import Derived.MapFrom
import Derived.Laws.CopyRow
import Derived.Maps.RangeRun
import Derived.Sort.Walk0
import Derived.RangeFuncBound
import Derived.Deep.Slices
import Derived.SizedLaws
import Derived.ChangeArms
import Derived.OpenShut
import Derived.ShutString
import Derived.ProofKit
import Derived.ChangeOld
import Derived.ChangeSame
import Derived.Test.YtealcoghiaeiiaaGreatPkTxnSerialJ
open Go.Proofs.Tryz renaming prog → zA
open Go.IntKind renaming wrap → zC
open Go.Value renaming pointer → zB, int → zV, string → zZ, bool → xv
open Go.Instr renaming loadAt → zD, storeAt → zK, indexAt → zF, fieldAt → zN, alloc → zf, build → yr, buildSlice → ze
open Nat renaming le_refl → zU, le_trans → zn, lt_of_lt_of_le → yF
open List renaming length_append → zg
set_option linter.unusedVariables false
namespace Go.Proofs.YtealcoghiaeiiaaGreat.VG
open Go.VB Go.Proofs Go.RowKit Go.WideShapes
set_option maxRecDepth 100000 in
theorem zRa {H:Type} {enc:TypeId × Value->H} {W:World}:∀ m cs x,DataW.trod enc zA W 0 (λ_=>true) true m Zl cs=some x->∃ y:za,cs=za.cells y:=λm cs x h=>by
 obtain ⟨xs,n,_,_,hl,hlen,hf⟩:=DataW.trod_struct Tryz.underlying49 h
 have hc:cs.length=5:=hl.trans (by kernel_rfl)
 have h0:=hf 0 _ rfl;have h1:=hf 1 _ rfl;have h2:=hf 2 _ rfl;have h3:=hf 3 _ rfl;have h4:=hf 4 _ rfl
 have g:∀ i,i<5->∃ y,xs[i]?=some y:=λi hi=>⟨xs[i]'(by rw [hlen];exact hi),by simp⟩
 obtain ⟨y0,e0⟩:=g 0 (by omega);obtain ⟨y1,e1⟩:=g 1 (by omega);obtain ⟨y2,e2⟩:=g 2 (by omega);obtain ⟨y3,e3⟩:=g 3 (by omega);obtain ⟨y4,e4⟩:=g 4 (by omega)
 rw [e0] at h0;rw [e1] at h1;rw [e2] at h2;rw [e3] at h3;rw [e4] at h4
 obtain ⟨s0,z0,_⟩:=DataW.trod_int Tryz.underlying47 h0
 obtain ⟨s1,z1,_⟩:=DataW.trod_int Tryz.underlying3 h1
 obtain ⟨s2,z2,_⟩:=DataW.trod_string Tryz.underlying9 h2
 obtain ⟨s3,z3,_⟩:=DataW.trod_string Tryz.underlying9 h3
 obtain ⟨s4,z4,_⟩:=DataW.trod_string Tryz.underlying9 h4
 have k0:=zH8 z0 (by kernel_rfl);have k1:=zH8 z1 (by kernel_rfl);have k2:=zH8 z2 (by kernel_rfl);have k3:=zH8 z3 (by kernel_rfl);have k4:=zH8 z4 (by kernel_rfl)
 refine ⟨⟨s0,s1,s2,s3,s4⟩,?_⟩
 match cs,hc with
 |[a,b,c,d,e],_=>
  simp at k0 k1 k2 k3 k4
  subst k0;subst k1;subst k2;subst k3;subst k4
  rfl
set_option maxRecDepth 100000 in
theorem zRk {H:Type} {enc:TypeId × Value->H} {W:World}:∀ m cs x,DataW.trod enc zA W 0 (λ_=>true) true m zAG cs=some x->∃ y:Pai,cs=zM.cells y:=λm cs x h=>by
 obtain ⟨xs,n,_,_,hl,hlen,hf⟩:=DataW.trod_struct Tryz.underlying66 h
 have hc:cs.length=2:=hl.trans (by kernel_rfl)
 have h0:=hf 0 _ rfl;have h1:=hf 1 _ rfl
 have g:∀ i,i<2->∃ y,xs[i]?=some y:=λi hi=>⟨xs[i]'(by rw [hlen];exact hi),by simp⟩
 obtain ⟨y0,e0⟩:=g 0 (by omega);obtain ⟨y1,e1⟩:=g 1 (by omega)
 rw [e0] at h0;rw [e1] at h1
 obtain ⟨s0,z0,_⟩:=DataW.trod_string Tryz.underlying9 h0
 obtain ⟨s1,z1,_⟩:=DataW.trod_string Tryz.underlying9 h1
 have k0:=zH8 z0 (by kernel_rfl);have k1:=zH8 z1 (by kernel_rfl)
 refine ⟨⟨s0,s1⟩,?_⟩
 match cs,hc with
 |[a,b],_=>
  simp at k0 k1
  subst k0;subst k1
  rfl
end Go.Proofs.YtealcoghiaeiiaaGreat.VG
