/- Texts by which the law's calls are walked (part 4): rules, printed conditions, contracts; no condition. -/
import Derived.TacticsIn
import Derived.TacticsInMore
import Derived.Deep.LoopGhost
import Derived.Sort.QuietThIn
import Derived.RangeFuncCalls
import Derived.RangeFuncNested
import Derived.RangeFuncLeaves
import Derived.WalkKit
import Derived.StillTail
import Derived.Test.YtjlfegnhomgjhaaDoorProg
import Derived.KernelRfl
import Derived.Deep.WholeRow
import Derived.Laws.StructEq
import Derived.MapFrom
import Derived.Maps.RangeRun
import Derived.Laws.CopyRow
import Derived.Sort.Walk0
import Derived.Laws.BytesArg
import Derived.Deep.Slices
import Derived.SizedLaws
import Derived.ChangeArms
import Derived.OpenShut
import Derived.ShutString
import Derived.ProofKit
import Derived.ChangeOld
import Derived.Test.YtjlfegnhomgjhaaDoorPkTopCarriedC
open Go.Proofs.Tryd renaming prog → zA
open Go.IntKind renaming wrap → zF
open Go.Value renaming pointer → zC, int → zH, bool → yO
open Go.Instr renaming loadAt → zG, storeAt → zK, indexAt → zN, fieldAt → zJ, alloc → z6, build → yI, buildSlice → zd
open Nat renaming le_refl → zP
set_option linter.unusedVariables false
namespace Go.VB
open Go.RowKit Go.ChangeShapes Go.WideShapes
theorem At.of_cells? {w:World} {base:Nat} {a:Addr} {n:Nat} {cs:List Value} (h:w.cells? base a n=some cs):At w a cs:=λj v hj=>by
 obtain ⟨_,h1,h2⟩:=World.cells?_some h
 rw [h2 j (by have:=(List.getElem?_eq_some_iff.1 hj).1;omega)];exact hj
theorem choose_lt' {α:Type} {p:Nat->α->Prop}:∀ {n:Nat},(∀ i,i<n->∃ x,p i x)->∃ l:List α,l.length=n/\∀ i x,l[i]?=some x->p i x
 |0,_=>⟨[],rfl,λi x h=>by simp at h⟩
 |n+1,h=>by
  obtain ⟨l,hl,hp⟩:=choose_lt' (n:=n) λi hi=>h i (by omega)
  obtain ⟨y,hy⟩:=h n (by omega)
  refine ⟨l++[y],by simp [hl],λi x hi=>?_⟩
  rcases Nat.lt_or_ge i n with h1|h1
  ·rw [List.getElem?_append_left (by omega)] at hi;exact hp i x hi
  ·have:i=n:=by have:=(List.getElem?_eq_some_iff.1 hi).1;simp at this;omega
   subst this
   rw [List.getElem?_append_right (by omega),hl] at hi
   simp at hi;subst hi;exact hy
theorem zA7 {H α:Type} {enc:TypeId × Value->H} {P:Program} {W:World} {t e n B:Nat} {c:α->List Value} {a:Option Addr} {len cap:Nat} {d:DataW H} {ps:List MemPlace} {ts:List TypeId} {ds:List (DataW H)} {j:Nat}
  (hsz:(DataW.weightsEach P ts ds).all (·<=reachBytes)=true) (ht:ts[j]?=some t) (hd:ds[j]?=some d) (hu:P.underlying t=some (.slice e)) (hn:P.cellsOf e=n) (hB:P.bytesOf e=B) (hB1:1<=B)
  (hel:∀ m cs x,DataW.trod enc P W 0 (λ_=>true) true m e cs=some x->∃ y:α,cs=c y)
  (h:DataW.Trod enc P W 0 (λ_=>true) true t (.slice a len cap) d ps):∃ l:List α,Rd c n W ⟨a,len,cap⟩ l/\l.length*B<=140737488351232:=by
 obtain ⟨fuel,hf⟩:=h
 rcases Go.Deep.open_slice hu hf with ⟨hcs,_⟩|⟨x,l,c',m,q,D,Pl,hcs,_,hl,hm,hmm,hx,hall⟩
 ·simp [Value.cells] at hcs
  obtain ⟨rfl,rfl,rfl⟩:=hcs
  exact ⟨[],Rd.nil c n W,by simp⟩
 ·simp [Value.cells] at hcs
  obtain ⟨rfl,rfl,rfl⟩:=hcs
  simp at hmm;subst hmm
  obtain ⟨hx,_⟩:=Prod.mk.inj hx
  subst hx
  have z:=sized_slice hsz ht hd hu
  rw [hB] at z
  simp at z
  obtain ⟨L,hL,hp⟩:=choose_lt' (α:=α) (n:=len) (p:=λi y=>At W (x.add (i*n)) (c y)) λi hi=>by
   obtain ⟨cs',h1,h2⟩:=hall i (by omega)
   obtain ⟨y,rfl⟩:=hel _ _ _ h2
   rw [hn] at h1
   exact ⟨y,At.of_cells? h1⟩
  have z2:len*B<=140737488351232:=by
   have:len*B<=(len+(m - len))*B:=Nat.mul_le_mul_right _ (by omega)
   exact Nat.le_trans this z
  have z3:len<=len*B:=Nat.le_mul_of_pos_right _ hB1
  refine ⟨L,⟨hL,hl,by simpa [maxLen] using hm,by show len<=_;omega,λh=>by simp at h,λi y hi=>⟨x,rfl,hp i y hi⟩⟩,by rw [hL];exact z2⟩
end Go.VB
set_option linter.unusedVariables false
namespace Go.VB
open Go.RowKit Go.WideShapes
theorem zAq {H:Type} {enc:TypeId × Value->H} {P:Program} {W:World} {e:TypeId} (he:P.underlying e=some (.int .u8)):∀ m cs x,DataW.trod enc P W 0 (λ_=>true) true m e cs=some x->∃ y:Int,cs=[zH .u8 y]:=λm cs x h=>by
 obtain ⟨s,rfl,_⟩:=DataW.trod_int he h
 exact ⟨s,rfl⟩
end Go.VB
