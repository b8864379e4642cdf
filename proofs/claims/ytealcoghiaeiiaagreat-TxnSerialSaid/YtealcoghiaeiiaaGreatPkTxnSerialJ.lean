/- Texts by which the law's calls are walked (part 10): rules, printed conditions, contracts; no condition. -/
import Derived.TacticsIn
import Derived.TacticsInMore
import Derived.Deep.LoopGhost
import Derived.Sort.QuietThIn
import Derived.RangeFuncCalls
import Derived.RangeFuncNested
import Derived.RangeFuncLeaves
import Derived.WalkKit
import Derived.StillTail
import Derived.Test.YtealcoghiaeiiaaGreatProg
import Derived.KernelRfl
import Derived.Deep.WholeRow
import Derived.Laws.StructEq
import Derived.MapFrom
import Derived.Laws.CopyRow
import Derived.Maps.RangeRun
import Derived.Sort.Walk0
import Derived.RangeFuncBound
import Derived.Deep.Slices
import Derived.SizedLaws
import Derived.ChangeArms
import Derived.OpenShut
import Derived.ShutString
import Derived.ProofKit
import Derived.ChangeOld
import Derived.Test.YtealcoghiaeiiaaGreatPkTxnSerialI
open Go.Proofs.Tryz renaming prog → zA
open Go.IntKind renaming wrap → zC
open Go.Value renaming pointer → zB, int → zV, string → zZ, bool → xv
open Go.Instr renaming loadAt → zD, storeAt → zK, indexAt → zF, fieldAt → zN, alloc → zf, build → yr, buildSlice → ze
open Nat renaming le_refl → zU, le_trans → zn, lt_of_lt_of_le → yF
open List renaming length_append → zg
set_option linter.unusedVariables false
namespace Go.VB
open Go.RowKit Go.ChangeShapes Go.WideShapes
theorem At.of_cells? {w:World} {base:Nat} {a:Addr} {n:Nat} {cs:List Value} (h:w.cells? base a n=some cs):At w a cs:=λj v hj=>by
 obtain ⟨_,h1,h2⟩:=World.cells?_some h
 rw [h2 j (by have:=(List.getElem?_eq_some_iff.1 hj).1;omega)];exact hj
theorem choose_lt' {α:Type} {p:Nat->α->Prop}:∀ {n:Nat},(∀ i,i<n->∃ x,p i x)->∃ l:List α,l.length=n/\∀ i x,l[i]?=some x->p i x
 |0,_=>⟨[],rfl,λi x h=>by simp at h⟩
 |n+1,h=>by
  obtain ⟨l,hl,hp⟩:=choose_lt' (n:=n) λi hi=>h i (by omega)
  obtain ⟨y,hy⟩:=h n (by omega)
  refine ⟨l++[y],by simp [hl],λi x hi=>?_⟩
  rcases Nat.lt_or_ge i n with h1|h1
  ·rw [List.getElem?_append_left (by omega)] at hi;exact hp i x hi
  ·have:i=n:=by have:=(List.getElem?_eq_some_iff.1 hi).1;simp at this;omega
   subst this
   rw [List.getElem?_append_right (by omega),hl] at hi
   simp at hi;subst hi;exact hy
theorem zOd {H α:Type} {enc:TypeId × Value->H} {P:Program} {W:World} {t e n B:Nat} {c:α->List Value} {a:Option Addr} {len cap:Nat} {d:DataW H} {ps:List MemPlace} {ts:List TypeId} {ds:List (DataW H)} {j:Nat}
  (hsz:(DataW.weightsEach P ts ds).all (·<=reachBytes)=true) (ht:ts[j]?=some t) (hd:ds[j]?=some d) (hu:P.underlying t=some (.slice e)) (hn:P.cellsOf e=n) (hB:P.bytesOf e=B) (hB1:1<=B)
  (hel:∀ m cs x,DataW.trod enc P W 0 (λ_=>true) true m e cs=some x->∃ y:α,cs=c y)
  (h:DataW.Trod enc P W 0 (λ_=>true) true t (.slice a len cap) d ps):∃ l:List α,Rd c n W ⟨a,len,cap⟩ l/\l.length*B<=140737488351232:=by
 obtain ⟨fuel,hf⟩:=h
 rcases Go.Deep.open_slice hu hf with ⟨hcs,_⟩|⟨x,l,c',m,q,D,Pl,hcs,_,hl,hm,hmm,hx,hall⟩
 ·simp [Value.cells] at hcs
  obtain ⟨rfl,rfl,rfl⟩:=hcs
  exact ⟨[],Rd.nil c n W,by simp⟩
 ·simp [Value.cells] at hcs
  obtain ⟨rfl,rfl,rfl⟩:=hcs
  simp at hmm;subst hmm
  obtain ⟨hx,_⟩:=Prod.mk.inj hx
  subst hx
  have z:=sized_slice hsz ht hd hu
  rw [hB] at z
  simp at z
  obtain ⟨L,hL,hp⟩:=choose_lt' (α:=α) (n:=len) (p:=λi y=>At W (x.add (i*n)) (c y)) λi hi=>by
   obtain ⟨cs',h1,h2⟩:=hall i (by omega)
   obtain ⟨y,rfl⟩:=hel _ _ _ h2
   rw [hn] at h1
   exact ⟨y,At.of_cells? h1⟩
  have z2:len*B<=140737488351232:=by
   have:len*B<=(len+(m - len))*B:=Nat.mul_le_mul_right _ (by omega)
   exact zn this z
  have z3:len<=len*B:=Nat.le_mul_of_pos_right _ hB1
  refine ⟨L,⟨hL,hl,by simpa [maxLen] using hm,by show len<=_;omega,λh=>by simp at h,λi y hi=>⟨x,rfl,hp i y hi⟩⟩,by rw [hL];exact z2⟩
theorem zH8 {cs:List Value} {k n:Nat} {v:Value} (h:(cs.drop k).take n=[v]) (hn:n=1):cs[k]?=some v:=by
 subst hn
 have:((cs.drop k).take 1)[0]?=some v:=by rw [h];rfl
 simpa using this
end Go.VB
