/- Texts by which the law's calls are walked (part 1): rules, printed conditions, contracts; no condition. -/
import Derived.TacticsIn
import Derived.TacticsInMore
import Derived.Deep.LoopGhost
import Derived.Sort.QuietThIn
import Derived.RangeFuncCalls
import Derived.RangeFuncNested
import Derived.RangeFuncLeaves
import Derived.WalkKit
import Derived.StillTail
import Derived.Test.YtealcoghiaeiiaaGreatProg
import Derived.KernelRfl
open Go.Proofs.Tryz renaming prog → zA
open Go.IntKind renaming wrap → zC
open Go.Value renaming pointer → zB, int → zV, string → zZ, bool → xv
open Go.Instr renaming loadAt → zD, storeAt → zK, indexAt → zF, fieldAt → zN, alloc → zf, build → yr, buildSlice → ze
open Nat renaming le_refl → zU, le_trans → zn, lt_of_lt_of_le → yF
open List renaming length_append → zg
set_option linter.unusedVariables false
set_option linter.unusedSimpArgs false
namespace Go.VB
abbrev Env:=List (Nat × Value)
def lk:Env->Nat->Option Value
 |[],_=>none
 |(k,v)::r,t=>bif Nat.beq k t then some v else lk r t
def ev (E:Env):Operand->Option Value
 |.tmp t=>lk E t
 |.const v=>some v
 |.global g=>some (.pointer (some ⟨g,0,none⟩))
 |.func f=>some (.func (.func f) #[] #[])
def zOl (E:Env):Env->Prop
 |[]=>True
 |(k,v)::r=>lk E k=some v/\zOl E r
structure Sat (ds:List Deferred) (N:Nat) (E:Env) (a:Act):Prop where
 size:a.tmps.size=N
 vals:∀ t v,lk E t=some v->a.tmps.getD t undef=v
 defs:a.defers=ds
theorem zML {m n:Nat} (h:¬ m=n):Nat.beq m n=false:=by
 cases hb:Nat.beq m n
 ·rfl
 ·exact absurd (Nat.eq_of_beq_eq_true hb) h
theorem zSH {m n:Nat} (h:Nat.beq m n=false):¬ m=n:=by
 rintro rfl;simp at h
theorem Sat.ev {ds:List Deferred} {N:Nat} {E:Env} {a:Act} (h:Sat ds N E a) {x:Operand} {v:Value} (hx:ev E x=some v):a.eval x=v:=by
 cases x with
 |tmp t=>exact h.vals t v hx
 |const c=>exact Option.some.inj hx
 |global g=>exact Option.some.inj hx
 |func f=>exact Option.some.inj hx
theorem Sat.put {ds:List Deferred} {N:Nat} {E:Env} {a:Act} (h:Sat ds N E a) {d:Nat} (hd:Nat.blt d N=true) (v:Value):Sat ds N ((d,v)::E) (a.put (some d) v):=by
 have hd':d<N:=by simpa [Nat.blt_eq] using hd
 refine ⟨by simp [Act.put,h.size],λt u hu=>?_,h.defs⟩
 by_cases e:d=t
 ·subst e
  have:u=v:=by
   have h1:(bif Nat.beq d d then some v else lk E d)=some u:=hu
   rw [show Nat.beq d d=true from by simp] at h1
   exact (Option.some.inj h1).symm
  subst this
  simp [Act.put,Array.getD_eq_getD_getElem?,Array.getElem?_setIfInBounds,h.size,hd']
 ·have h1:(bif Nat.beq d t then some v else lk E t)=some u:=hu
  rw [show Nat.beq d t=false from zML e] at h1
  have:=h.vals t u h1
  simpa [Act.put,Array.getD_eq_getD_getElem?,Array.getElem?_setIfInBounds,e] using this
theorem zNY {E:Env}:∀ {E':Env},zOl E E'->∀ t v,lk E' t=some v->lk E t=some v
 |[],_,_,_,h=>by cases h
 |(k,u)::r,hA,t,v,h=>by
  by_cases e:k=t
  ·subst e
   have h1:(bif Nat.beq k k then some u else lk r k)=some v:=h
   rw [show Nat.beq k k=true from by simp] at h1
   rw [← Option.some.inj h1];exact hA.1
  ·have h1:(bif Nat.beq k t then some u else lk r t)=some v:=h
   rw [show Nat.beq k t=false from zML e] at h1
   exact zNY hA.2 t v h1
theorem Sat.weak {ds:List Deferred} {N:Nat} {E E':Env} {a:Act} (h:Sat ds N E a) (hA:zOl E E'):Sat ds N E' a:=⟨h.size,λt v hv=>h.vals t v (zNY hA t v hv),h.defs⟩
theorem Sat.k {ds:List Deferred} {N:Nat} {E E':Env} {a:Act} (h:Sat ds N E a) (hA:zOl E E':=by (repeat (refine ⟨rfl,?_⟩));exact trivial):Sat ds N E' a:=h.weak hA
theorem Sat.getq {ds:List Deferred} {N:Nat} {E:Env} {a:Act} (h:Sat ds N E a) {t:Nat} {v:Value} (hv:lk E t=some v):a.tmps[t]?.getD undef=v:=by
 have:=h.vals t v hv
 simpa [Array.getD_eq_getD_getElem?] using this
theorem Sat.enter {N:Nat} {E:Env} (args:Array Value) (hN:args.size<=N) (hE:∀ t v,lk E t=some v->args[t]?=some v):
  Sat [] N E {tmps:=args++Array.replicate (N - args.size) undef,defers:=[]}:=by
 refine ⟨by simp;omega,λt v hv=>?_,rfl⟩
 have h:=hE t v hv
 have hlt:t<args.size:=by
  rw [Array.getElem?_eq_some_iff] at h;exact h.1
 simp [Array.getD_eq_getD_getElem?,Array.getElem?_append,hlt]
 exact (Array.getElem?_eq_some_iff.1 h).2
abbrev FW (ro:Option Nat):Fence:={Fence.wide with round:=ro}
abbrev Cl (P:Program) (f:FuncId) (args:Array Value) (w:World) (R:Ending->World->Prop):Prop:=CallsIn (FW none) 0 P f args w R
theorem Cl.calls {P:Program} {f:FuncId} {args:Array Value} {w:World} {R:Ending->World->Prop} (h:Cl P f args w R):Calls P f args w R:=callsIn_wide.1 h
def opE {τ:Type} (P:Program) (enc:τ->Value) (s:Sem Value) (w:World) (k:τ->World->Prop):Prop:=∃ x w',s.run P w=.ok (enc x) w'/\k x w'
def opU (P:Program) (s:Sem Unit) (w:World) (k:World->Prop):Prop:=∃ w',s.run P w=.ok () w'/\k w'
section
variable {ro:Option Nat} {P:Program} {ops:Array Oper} {Q:Exit->Act->World->Prop} {ds:List Deferred} {N:Nat} {E:Env} {a:Act} {w:World} {rest:List Oper} {o:Oper}
abbrev WL (ro:Option Nat) (P:Program) (ops:Array Oper) (Q:Exit->Act->World->Prop) (l:List Oper) (a:Act) (w:World):Prop:=wpListIn (FW ro) 0 P ops Q l a w
abbrev WC (ro:Option Nat) (P:Program) (c:Code) (Q:Exit->Act->World->Prop) (a:Act) (w:World):Prop:=Code.wpIn (FW ro) 0 P c Q a w
theorem zOJ (hg:o.guard=none) (hnd:∀ c,o.op≠.defer c) {v:Value} {w':World} (hr:(execOp a.eval o).run P w=.ok (.value v) w')
  (h:WL ro P ops Q rest (a.put o.dst v) w'):WL ro P ops Q (o::rest) a w:=by
 unfold WL wpListIn
 rw [if_pos (by simp [Region.wanted,hg])]
 refine ⟨λ_ _=>trivial,?_⟩
 rw [Oper.semAt_eq _ _ _ hnd,hr]
 exact h
theorem zRK (hg:o.guard=none) (hnd:∀ c,o.op≠.defer c) {w':World} (hr:(execOp a.eval o).run P w=.ok .skip w')
  (h:WL ro P ops Q rest (a.put o.dst undef) w'):WL ro P ops Q (o::rest) a w:=by
 unfold WL wpListIn
 rw [if_pos (by simp [Region.wanted,hg])]
 refine ⟨λ_ _=>trivial,?_⟩
 rw [Oper.semAt_eq _ _ _ hnd,hr]
 exact h
theorem zOa (hg:o.guard=none) (hnd:∀ c,o.op≠.defer c) {f:FuncId} {args:Array Value} {w':World} (hr:(execOp a.eval o).run P w=.ok (.enter f args) w')
  {R:Ending->World->Prop} (hc:Cl P f args w' R)
  (h:∀ e w'',R e w''->∃ v,e=.returned v/\WL ro P ops Q rest (a.put o.dst v) w''):WL ro P ops Q (o::rest) a w:=by
 unfold WL wpListIn
 rw [if_pos (by simp [Region.wanted,hg])]
 refine ⟨λ_ _=>trivial,?_⟩
 rw [Oper.semAt_eq _ _ _ hnd,hr,Oper.uponIn_enter]
 refine ⟨λh=>by simp [FW,Fence.wide] at h,?_⟩
 have hc':CallsIn (FW ro) 0 P f args w' R:=hc
 refine CallsIn.mono hc' λe w'' hR=>?_
 obtain ⟨v,rfl,hv⟩:=h e w'' hR
 exact hv
theorem Sat.val (hE:Sat ds N E a) {τ:Type} {enc:τ->Value} {s:Sem Value} {k:τ->World->Prop} {op:Op} {ty:TypeId} {pos:String} {aft:Array Edge} {d:Nat}
  (he:execOp a.eval ⟨some d,op,ty,pos,aft,none⟩=s >>= λv=>pure (.value v)) (hnd:∀ c,op≠.defer c) (hN:Nat.blt d N=true) (H:opE P enc s w k)
  (next:∀ x w' a',k x w'->Sat ds N ((d,enc x)::E) a'->WL ro P ops Q rest a' w'):WL ro P ops Q (⟨some d,op,ty,pos,aft,none⟩::rest) a w:=by
 obtain ⟨x,w',hr,hk⟩:=H
 exact zOJ rfl hnd (v:=enc x) (w':=w') (by rw [he];simp [hr]) (next x w' _ hk (hE.put hN _))
theorem Sat.unit (hE:Sat ds N E a) {s:Sem Unit} {k:World->Prop} {op:Op} {ty:TypeId} {pos:String} {aft:Array Edge}
  (he:execOp a.eval ⟨none,op,ty,pos,aft,none⟩=s >>= λ_=>pure .skip) (hnd:∀ c,op≠.defer c) (H:opU P s w k)
  (next:∀ w' a',k w'->Sat ds N E a'->WL ro P ops Q rest a' w'):WL ro P ops Q (⟨none,op,ty,pos,aft,none⟩::rest) a w:=by
 obtain ⟨w',hr,hk⟩:=H
 exact zRK rfl hnd (w':=w') (by rw [he];simp [hr]) (next w' _ hk hE)
theorem Sat.pure (hE:Sat ds N E a) {op:Op} {ty:TypeId} {pos:String} {aft:Array Edge} {d:Nat} {v:Value}
  (he:(execOp a.eval ⟨some d,op,ty,pos,aft,none⟩).run P w=.ok (.value v) w) (hnd:∀ c,op≠.defer c) (hN:Nat.blt d N=true)
  (next:∀ a',Sat ds N ((d,v)::E) a'->WL ro P ops Q rest a' w):WL ro P ops Q (⟨some d,op,ty,pos,aft,none⟩::rest) a w:=
 zOJ rfl hnd he (next _ (hE.put hN _))
end
def evL (E:Env):List Operand->Option (List Value)
 |[]=>some []
 |x::r=>match VB.ev E x,evL E r with
  |some v,some l=>some (v::l)
  |_,_=>none
theorem Sat.evL {ds:List Deferred} {N:Nat} {E:Env} {a:Act} (h:Sat ds N E a):∀ {xs:List Operand} {vs:List Value},VB.evL E xs=some vs->xs.map a.eval=vs
 |[],vs,hx=>by simp [VB.evL] at hx;simp [hx]
 |x::r,vs,hx=>by
  unfold VB.evL at hx
  cases h1:VB.ev E x with
  |none=>rw [h1] at hx;cases hx
  |some v=>
   cases h2:VB.evL E r with
   |none=>rw [h1,h2] at hx;cases hx
   |some l=>
    rw [h1,h2] at hx
    obtain rfl:=Option.some.inj hx
    simp [h.ev h1,h.evL h2]
theorem Sat.evA {ds:List Deferred} {N:Nat} {E:Env} {a:Act} (h:Sat ds N E a) {xs:List Operand} {vs:List Value} (hx:VB.evL E xs=some vs):xs.toArray.map a.eval=vs.toArray:=by
 rw [← h.evL hx];simp
structure Sl where
 a:Option Addr
 len:Nat
 cap:Nat
abbrev Sl.v (s:Sl):Value:=.slice s.a s.len s.cap
abbrev Sl.none:Sl:=⟨Option.none,0,0⟩
def Qg:Value->Prop
 |.pointer none|.nilIface|.nilFunc=>False
 |.func (.method _) _ _=>False
 |_=>True
def sLt (x y:ByteArray):Bool:=Op.bytesLess x.toList y.toList
theorem zGF (x y:ByteArray):(x.toList==y.toList)=decide (x=y):=by
 by_cases h:x=y
 ·subst h;simp
 ·have:x.toList≠y.toList:=by
   intro e
   apply h
   have h1:=ByteArray.toList_eq (bs:=x)
   have h2:=ByteArray.toList_eq (bs:=y)
   rw [h1,h2] at e
   cases x;cases y
   simp at e
   simp [e]
  simp [h,this]
section
variable {ds:List Deferred} {N:Nat} {E:Env} {a:Act} {d:Option Tmp} {ty:TypeId} {pos:String} {aft:Array Edge}
abbrev pv (s:Sem Value):Sem Next:=s >>= λv=>Pure.pure (.value v)
abbrev pn (v:Value):Sem Next:=Pure.pure (.value v)
abbrev pu (s:Sem Unit):Sem Next:=s >>= λ_=>Pure.pure .skip
theorem zR (hE:Sat ds N E a) {x v} (hx:ev E x=some v):execOp a.eval ⟨d,.move x,ty,pos,aft,none⟩=pn v:=by rw [← hE.ev hx];rfl
theorem ZI (hE:Sat ds N E a) {x v} (hx:ev E x=some v):execOp a.eval ⟨d,.assign x,ty,pos,aft,none⟩=pn v:=by rw [← hE.ev hx];rfl
theorem zx (hE:Sat ds N E a) {c x y v} (hc:ev E c=some (.bool true)) (hx:ev E x=some v):execOp a.eval ⟨d,.pick c x y,ty,pos,aft,none⟩=pn v:=by
 rw [← hE.ev hx];simp [execOp,hE.ev hc,asBool]
theorem zy (hE:Sat ds N E a) {c x y v} (hc:ev E c=some (.bool false)) (hx:ev E y=some v):execOp a.eval ⟨d,.pick c x y,ty,pos,aft,none⟩=pn v:=by
 rw [← hE.ev hx];simp [execOp,hE.ev hc,asBool]
theorem xY {e:TypeId}:execOp a.eval ⟨d,.alloc e,ty,pos,aft,none⟩=pv (zf e true (.tuple #[])):=rfl
theorem zBc (hE:Sat ds N E a) {e x v} (hx:ev E x=some v):execOp a.eval ⟨d,.box e x,ty,pos,aft,none⟩=pv (Instr.box e v):=by rw [← hE.ev hx];rfl
theorem zO (hE:Sat ds N E a) {t x v} (hx:ev E x=some v):execOp a.eval ⟨d,.load t x,ty,pos,aft,none⟩=pv (zD t v):=by rw [← hE.ev hx];rfl
theorem zT (hE:Sat ds N E a) {t x y v u} (hx:ev E x=some v) (hy:ev E y=some u):execOp a.eval ⟨d,.store t x y,ty,pos,aft,none⟩=pu (zK t v u):=by rw [← hE.ev hx,← hE.ev hy];rfl
theorem zj (hE:Sat ds N E a) {x v} (hx:ev E x=some v) (h:Qg v):execOp a.eval ⟨d,.nilCheck x,ty,pos,aft,none⟩=pn v:=by
 have e:=hE.ev hx
 unfold execOp
 simp only [e]
 unfold Qg at h
 split<;>first|(exfalso;exact h)|(simp_all;done)|rfl|skip
theorem zKb {t:TypeId}:execOp a.eval ⟨d,.makeMap t none,ty,pos,aft,none⟩=pv (Instr.makeMap t none):=rfl
theorem zR0 (hE:Sat ds N E a) {t x y v u} (hx:ev E x=some v) (hy:ev E y=some u):execOp a.eval ⟨d,.makeSlice t x y,ty,pos,aft,none⟩=pv (Instr.makeSlice t v u):=by rw [← hE.ev hx,← hE.ev hy];rfl
theorem zP (hE:Sat ds N E a) {s x f v} (hx:ev E x=some v):execOp a.eval ⟨d,.fieldAddr s x f,ty,pos,aft,none⟩=pv (zN s v f):=by rw [← hE.ev hx];rfl
theorem zTq (hE:Sat ds N E a) {s x f v} (hx:ev E x=some v):execOp a.eval ⟨d,.field s x f,ty,pos,aft,none⟩=pv (Instr.field s v f):=by rw [← hE.ev hx];rfl
theorem zH (hE:Sat ds N E a) {t x y v u} (hx:ev E x=some v) (hy:ev E y=some u):execOp a.eval ⟨d,.indexAddr t x y,ty,pos,aft,none⟩=pv (zF t v u):=by rw [← hE.ev hx,← hE.ev hy];rfl
theorem zRY (hE:Sat ds N E a) {t x y v u} (hx:ev E x=some v) (hy:ev E y=some u):execOp a.eval ⟨d,.index t x y,ty,pos,aft,none⟩=pv (Instr.index t v u):=by rw [← hE.ev hx,← hE.ev hy];rfl
theorem zId (hE:Sat ds N E a) {t x y ok v u} (hx:ev E x=some v) (hy:ev E y=some u):execOp a.eval ⟨d,.lookup t x y ok,ty,pos,aft,none⟩=pv (Instr.lookup t v u ok):=by rw [← hE.ev hx,← hE.ev hy];rfl
theorem zIl (hE:Sat ds N E a) {t m k x vm vk vx} (hm:ev E m=some vm) (hk:ev E k=some vk) (hx:ev E x=some vx):execOp a.eval ⟨d,.mapUpdate t m k x,ty,pos,aft,none⟩=pu (Instr.mapUpdate t vm vk vx):=by rw [← hE.ev hm,← hE.ev hk,← hE.ev hx];rfl
theorem zTp (hE:Sat ds N E a) {t m k x vm vk vx} (hm:ev E m=some vm) (hk:ev E k=some vk) (hx:ev E x=some vx):execOp a.eval ⟨d,.insert t m k x,ty,pos,aft,none⟩=pu (Instr.mapUpdate t vm vk vx):=by rw [← hE.ev hm,← hE.ev hk,← hE.ev hx];rfl
theorem zSF (hE:Sat ds N E a) {t x y v u} (hx:ev E x=some v) (hy:ev E y=some u):execOp a.eval ⟨d,.mapEntry t x y,ty,pos,aft,none⟩=pv (Instr.mapEntry t v u):=by rw [← hE.ev hx,← hE.ev hy];rfl
theorem zRf (hE:Sat ds N E a) {t m k x vm vk vx} (hm:ev E m=some vm) (hk:ev E k=some vk) (hx:ev E x=some vx):execOp a.eval ⟨d,.entryStore t m k x,ty,pos,aft,none⟩=pu (Instr.entryStore t vm vk vx):=by rw [← hE.ev hm,← hE.ev hk,← hE.ev hx];rfl
theorem zK5 (hE:Sat ds N E a) {t x v} (hx:ev E x=some v):execOp a.eval ⟨d,.range t x,ty,pos,aft,none⟩=pv (Instr.range t v):=by rw [← hE.ev hx];rfl
theorem zMa (hE:Sat ds N E a) {x s v} (hx:ev E x=some v):execOp a.eval ⟨d,.next x s,ty,pos,aft,none⟩=pv (Instr.next v s ty):=by rw [← hE.ev hx];rfl
theorem zK0 (hE:Sat ds N E a) {x v} (hx:ev E x=some v):execOp a.eval ⟨d,.entry x,ty,pos,aft,none⟩=pv (Instr.entry v):=by rw [← hE.ev hx];rfl
theorem zBw (hE:Sat ds N E a) {s t x v} (hx:ev E x=some v):execOp a.eval ⟨d,.convert s t x,ty,pos,aft,none⟩=pv (Go.convert s t v):=by rw [← hE.ev hx];rfl
theorem zc (hE:Sat ds N E a) {x i v} {vs:List Value} (hx:ev E x=some (.tuple vs.toArray)) (hi:vs[i]?=some v):execOp a.eval ⟨d,.extract x i,ty,pos,aft,none⟩=pn v:=by
 show (Instr.extract (a.eval x) i >>= λv=>Pure.pure (Next.value v))=_
 rw [hE.ev hx]
 simp [Instr.extract,hi]
def evO (E:Env):Option Operand->Option (Option Value)
 |none=>some none
 |some x=>match VB.ev E x with
  |some v=>some (some v)
  |none=>none
theorem Sat.evO (hE:Sat ds N E a) {x:Option Operand} {v:Option Value} (h:VB.evO E x=some v):x.map a.eval=v:=by
 cases x with
 |none=>simpa [VB.evO] using h
 |some x=>
  unfold VB.evO at h
  cases h1:VB.ev E x with
  |none=>simp [h1] at h
  |some u=>simp [h1] at h;simp [hE.ev h1,h]
theorem zJ8 (hE:Sat ds N E a) {t x lo hi mx v l h m} (hx:ev E x=some v) (hl:evO E lo=some l) (hh:evO E hi=some h) (hm:evO E mx=some m):
  execOp a.eval ⟨d,.slice t x lo hi mx,ty,pos,aft,none⟩=pv (Instr.sliceAt t v l h m):=by rw [← hE.ev hx,← hE.evO hl,← hE.evO hh,← hE.evO hm];rfl
def evP (E:Env):List (Nat × Operand)->Option (List (Nat × Value))
 |[]=>some []
 |(i,x)::r=>match VB.ev E x,evP E r with
  |some v,some l=>some ((i,v)::l)
  |_,_=>none
theorem Sat.evP (h:Sat ds N E a):∀ {xs:List (Nat × Operand)} {vs:List (Nat × Value)},VB.evP E xs=some vs->xs.map (λ(i,x)=>(i,a.eval x))=vs
 |[],vs,hx=>by simp [VB.evP] at hx;simp [hx]
 |(i,x)::r,vs,hx=>by
  unfold VB.evP at hx
  cases h1:VB.ev E x with
  |none=>rw [h1] at hx;cases hx
  |some v=>
   cases h2:VB.evP E r with
   |none=>rw [h1,h2] at hx;cases hx
   |some l=>
    rw [h1,h2] at hx
    obtain rfl:=Option.some.inj hx
    simp [h.ev h1]
    exact h.evP h2
theorem Z5 (hE:Sat ds N E a) {t} {xs:List (Nat × Operand)} {vs} (h:evP E xs=some vs):execOp a.eval ⟨d,.build t xs.toArray,ty,pos,aft,none⟩=pv (yr t vs.toArray):=by
 show (yr t (xs.toArray.map λ(i,x)=>(i,a.eval x)) >>= λv=>Pure.pure (Next.value v))=_
 rw [show xs.toArray.map (λ(i,x)=>(i,a.eval x))=vs.toArray from by rw [← hE.evP h];simp]
theorem yj (hE:Sat ds N E a) {t n} {xs:List (Nat × Operand)} {vs} (h:evP E xs=some vs):execOp a.eval ⟨d,.buildSlice t n xs.toArray,ty,pos,aft,none⟩=pv (ze t n vs.toArray):=by
 show (ze t n (xs.toArray.map λ(i,x)=>(i,a.eval x)) >>= λv=>Pure.pure (Next.value v))=_
 rw [show xs.toArray.map (λ(i,x)=>(i,a.eval x))=vs.toArray from by rw [← hE.evP h];simp]
theorem zGK (hE:Sat ds N E a) {fn} {xs ys:List Operand} {us vs} (h1:evL E xs=some us) (h2:evL E ys=some vs):execOp a.eval ⟨d,.makeFunc fn xs.toArray ys.toArray,ty,pos,aft,none⟩=pn (.func fn us.toArray vs.toArray):=by
 show (Instr.makeFunc fn (xs.toArray.map a.eval) (ys.toArray.map a.eval) >>= λv=>Pure.pure (Next.value v))=_
 rw [hE.evA h1,hE.evA h2];rfl
theorem zCz (hE:Sat ds N E a) {op t x y t2 v u} (hx:ev E x=some v) (hy:ev E y=some u):execOp a.eval ⟨d,.binOp op t x y t2,ty,pos,aft,none⟩=pv (do eqGuard op t x y v u;binOp op t v u):=by rw [← hE.ev hx,← hE.ev hy];rfl
theorem zEb {op t x y k m k' n}:eqGuard op t x y (.int k m) (.int k' n)=Pure.pure ():=by unfold eqGuard;split<;>rfl
theorem zHk {op t x y m n}:eqGuard op t x y (.string m) (.string n)=Pure.pure ():=by unfold eqGuard;split<;>rfl
theorem zQc {op t x y v u} (h:(!(op matches .eql|.neq))=true):eqGuard op t x y v u=Pure.pure ():=by cases op<;>first|rfl|(simp at h)
section
variable (hE:Sat ds N E a) {t t2:TypeId} {x y:Operand} {k:IntKind} {m n:Int} (hx:ev E x=some (.int k m)) (hy:ev E y=some (.int k n))
include hE hx hy
theorem zr:execOp a.eval ⟨d,.binOp .add t x y t2,ty,pos,aft,none⟩=pn (.int k (k.wrap (m+n))):=by rw [zCz hE hx hy,zEb];simp [binOp,Op.intArith]
theorem zv:execOp a.eval ⟨d,.binOp .sub t x y t2,ty,pos,aft,none⟩=pn (.int k (k.wrap (m - n))):=by rw [zCz hE hx hy,zEb];simp [binOp,Op.intArith]
theorem zF8:execOp a.eval ⟨d,.binOp .mul t x y t2,ty,pos,aft,none⟩=pn (.int k (k.wrap (m*n))):=by rw [zCz hE hx hy,zEb];simp [binOp,Op.intArith]
theorem Zb:execOp a.eval ⟨d,.binOp .eql t x y t2,ty,pos,aft,none⟩=pn (.bool (decide (m=n))):=by rw [zCz hE hx hy,zEb];simp [binOp,Op.intCmp];rfl
theorem zFc:execOp a.eval ⟨d,.binOp .neq t x y t2,ty,pos,aft,none⟩=pn (.bool (decide (m≠n))):=by
 rw [zCz hE hx hy,zEb,show decide (m≠n)=!decide (m=n) from by simp];simp only [binOp,ne_eq,not_true_eq_false,if_false,Op.intCmp];rfl
theorem yR:execOp a.eval ⟨d,.binOp .lss t x y t2,ty,pos,aft,none⟩=pn (.bool (decide (m<n))):=by rw [zCz hE hx hy,zEb];simp [binOp,Op.intCmp]
theorem zCw:execOp a.eval ⟨d,.binOp .leq t x y t2,ty,pos,aft,none⟩=pn (.bool (decide (m<=n))):=by rw [zCz hE hx hy,zEb];simp [binOp,Op.intCmp]
theorem zBx:execOp a.eval ⟨d,.binOp .gtr t x y t2,ty,pos,aft,none⟩=pn (.bool (decide (n<m))):=by rw [zCz hE hx hy,zEb];simp [binOp,Op.intCmp]
theorem Zm:execOp a.eval ⟨d,.binOp .geq t x y t2,ty,pos,aft,none⟩=pn (.bool (decide (n<=m))):=by rw [zCz hE hx hy,zEb];simp [binOp,Op.intCmp]
end
section
variable (hE:Sat ds N E a) {t t2:TypeId} {x y:Operand} {p q:ByteArray} (hx:ev E x=some (.string p)) (hy:ev E y=some (.string q))
include hE hx hy
theorem zLJ:execOp a.eval ⟨d,.binOp .eql t x y t2,ty,pos,aft,none⟩=pn (.bool (decide (p=q))):=by rw [zCz hE hx hy,zHk];simp only [binOp,Op.stringOp,zGF];rfl
theorem zNJ:execOp a.eval ⟨d,.binOp .neq t x y t2,ty,pos,aft,none⟩=pn (.bool (decide (p≠q))):=by
 rw [zCz hE hx hy,zHk,show decide (p≠q)=!decide (p=q) from by simp];simp only [binOp,Op.stringOp,zGF];rfl
theorem zOZ:execOp a.eval ⟨d,.binOp .lss t x y t2,ty,pos,aft,none⟩=pn (.bool (sLt p q)):=by rw [zCz hE hx hy,zHk];simp only [binOp,Op.stringOp,zGF];rfl
theorem zS7:execOp a.eval ⟨d,.binOp .gtr t x y t2,ty,pos,aft,none⟩=pn (.bool (!(sLt p q||decide (p=q)))):=by rw [zCz hE hx hy,zHk];simp only [binOp,Op.stringOp,zGF];rfl
theorem zNN:execOp a.eval ⟨d,.binOp .geq t x y t2,ty,pos,aft,none⟩=pn (.bool (!sLt p q)):=by rw [zCz hE hx hy,zHk];simp only [binOp,Op.stringOp,zGF];rfl
end
theorem zAJ (hE:Sat ds N E a) {t x b} (hx:ev E x=some (.bool b)):execOp a.eval ⟨d,.unOp .not t x,ty,pos,aft,none⟩=pn (.bool (!b)):=by
 show (Op.unary .not (a.eval x) >>= λv=>Pure.pure (Next.value v))=_
 rw [hE.ev hx];rfl
theorem zA6 (hE:Sat ds N E a) {xs:List Operand} {vs ts} (h:evL E xs=some vs):execOp a.eval ⟨d,.call {callee:=.builtin .append,args:=xs.toArray,argTypes:=ts},ty,pos,aft,none⟩=pv (Builtin.append_ ts ty vs.toArray):=by
 rw [← hE.evA h];rfl
theorem zTv (hE:Sat ds N E a) {xs:List Operand} {vs ts} (h:evL E xs=some vs):execOp a.eval ⟨d,.call {callee:=.builtin .copy,args:=xs.toArray,argTypes:=ts},ty,pos,aft,none⟩=pv (Builtin.copy_ ts ty vs.toArray):=by
 rw [← hE.evA h];rfl
theorem zRO (hE:Sat ds N E a) {xs:List Operand} {vs ts} (h:evL E xs=some vs):execOp a.eval ⟨d,.call {callee:=.builtin .clear,args:=xs.toArray,argTypes:=ts},ty,pos,aft,none⟩=pv (Builtin.clear_ ts ty vs.toArray):=by
 rw [← hE.evA h];rfl
theorem zM3 (hE:Sat ds N E a) {xs:List Operand} {vs ts} (h:evL E xs=some vs):execOp a.eval ⟨d,.call {callee:=.builtin .delete,args:=xs.toArray,argTypes:=ts},ty,pos,aft,none⟩=pv (Builtin.delete_ ts ty vs.toArray):=by
 rw [← hE.evA h];rfl
theorem zNM (hE:Sat ds N E a) {xs:List Operand} {vs ts} (h:evL E xs=some vs):execOp a.eval ⟨d,.call {callee:=.builtin .len,args:=xs.toArray,argTypes:=ts},ty,pos,aft,none⟩=pv (Builtin.len_ ts ty vs.toArray):=by
 rw [← hE.evA h];rfl
theorem zTw (hE:Sat ds N E a) {xs:List Operand} {vs ts} (h:evL E xs=some vs):execOp a.eval ⟨d,.call {callee:=.builtin .cap,args:=xs.toArray,argTypes:=ts},ty,pos,aft,none⟩=pv (Builtin.cap_ ts ty vs.toArray):=by
 rw [← hE.evA h];rfl
theorem zTW (hE:Sat ds N E a) {xs:List Operand} {vs ts} (h:evL E xs=some vs):execOp a.eval ⟨d,.call {callee:=.builtin .min,args:=xs.toArray,argTypes:=ts},ty,pos,aft,none⟩=pv (Builtin.min_ ts ty vs.toArray):=by
 rw [← hE.evA h];rfl
def Ent (P:Program) (f:FuncId):Prop:=∀ args w,(callFunc f args).run P w=.ok (.enter f args) w
theorem Ent.of {P : Program} {f : FuncId} {fn : Func} (h : P.funcs[f]? = some fn) (h1 : (fn.name == "runtime.NumGoroutine") = false) (h2 : fn.body.isNone = false) : Ent P f := by
 intro args w
 have h3 : fn.name ≠ "runtime.NumGoroutine" := by simpa using h1
 have h4:fn.body≠none:=by intro e;rw [e] at h2;cases h2
 simp [callFunc,Sem.run,h,h3,h4]
theorem zMI (hE:Sat ds N E a) {P:Program} {w:World} {x:Operand} {xs:List Operand} {vs ts f} {us cs:Array Value} (he:Ent P f) (hx:ev E x=some (.func (.func f) us cs)) (h:evL E xs=some vs):
  (execOp a.eval ⟨d,.call {callee:=.value x,args:=xs.toArray,argTypes:=ts},ty,pos,aft,none⟩).run P w=.ok (.enter f ((us++vs.toArray)++cs)) w:=by
 rw [← hE.evA h,← he]
 have e:=hE.ev hx
 simp [execOp,resolve,Deferred.ofValue,e,invoke]
end
def zKx {α β:Type} (ea:α->Value) (eb:β->Value):Option (α × β)->Value
 |none=>.tuple [.bool false].toArray
 |some (k,v)=>.tuple [.bool true,ea k,eb v].toArray
section
variable {ds:List Deferred} {N:Nat} {E:Env} {a:Act} {d:Option Tmp} {ty:TypeId} {pos:String} {aft:Array Edge}
theorem ZS (hE:Sat ds N E a) {op t x y t2 v u} (hx:ev E x=some v) (hy:ev E y=some u) (h:(!(op matches .eql|.neq))=true:=by rfl):execOp a.eval ⟨d,.binOp op t x y t2,ty,pos,aft,none⟩=pv (binOp op t v u):=by
 rw [zCz hE hx hy,zQc h];rfl
theorem zb (hE:Sat ds N E a) {P:Program} {w:World} {f:FuncId} {x:Operand} {xs:List Operand} {vs ts} (he:Ent P f) (hx:ev E x=some (.func (.func f) #[] #[])) (h:evL E xs=some vs):
  (execOp a.eval ⟨d,.call {callee:=.value x,args:=xs.toArray,argTypes:=ts},ty,pos,aft,none⟩).run P w=.ok (.enter f vs.toArray) w:=by
 rw [zMI hE he hx h];simp
theorem ZU (hE:Sat ds N E a) {P:Program} {w:World} {x:Operand} {s:Sl} {t e:TypeId} {ts:Array TypeId} (hu:P.underlying t=some (.slice e)) (hx:ev E x=some s.v) (ht:ts[0]?=some t:=by rfl):
  (execOp a.eval ⟨d,.call {callee:=.builtin .len,args:=[x].toArray,argTypes:=ts},ty,pos,aft,none⟩).run P w=.ok (.value (.int .i64 (s.len:Int))) w:=by
 rw [zNM hE (vs:=[s.v]) (by simp [evL,hx])]
 simp [Builtin.len_,ht,run_underlying hu,Sem.run,goInt]
theorem zH4 (hE:Sat ds N E a) {P:Program} {w:World} {x:Operand} {s:ByteArray} {t:TypeId} {ts:Array TypeId} (hu:P.underlying t=some .string) (hx:ev E x=some (.string s)) (ht:ts[0]?=some t:=by rfl):
  (execOp a.eval ⟨d,.call {callee:=.builtin .len,args:=[x].toArray,argTypes:=ts},ty,pos,aft,none⟩).run P w=.ok (.value (.int .i64 (s.size:Int))) w:=by
 rw [zNM hE (vs:=[.string s]) (by simp [evL,hx])]
 simp [Builtin.len_,ht,run_underlying hu,Sem.run,goInt]
theorem zQC (hE:Sat ds N E a) {x y:Operand} {k m n ts} (hx:ev E x=some (.int k m)) (hy:ev E y=some (.int k n)):
  execOp a.eval ⟨d,.call {callee:=.builtin .min,args:=[x,y].toArray,argTypes:=ts},ty,pos,aft,none⟩=pn (.int k (if n<m then n else m)):=by
 rw [zTW hE (vs:=[.int k m,.int k n]) (by simp [evL,hx,hy])]
 simp [Builtin.min_,Builtin.min2]
end
theorem Sat.b {ds:List Deferred} {N:Nat} {E:Env} {a:Act} (hE:Sat ds N E a) {t:Nat} {c b:Bool} (hl:lk E t=some (.bool c)) (hc:c=b):Sat ds N ((t,.bool b)::E) a:=by
 subst hc
 refine ⟨hE.size,λt' v hv=>?_,hE.defs⟩
 by_cases e:t=t'
 ·subst e
  have h1:(bif Nat.beq t t then some (xv c) else lk E t)=some v:=hv
  rw [show Nat.beq t t=true from by simp] at h1
  obtain rfl:=Option.some.inj h1
  exact hE.vals t _ hl
 ·have h1:(bif Nat.beq t t' then some (xv c) else lk E t')=some v:=hv
  rw [show Nat.beq t t'=false from zML e] at h1
  exact hE.vals t' v h1
section
variable {ro:Option Nat} {P:Program} {ops:Array Oper} {Q:Exit->Act->World->Prop} {ds:List Deferred} {N:Nat} {E:Env} {a:Act} {w:World} {rest:List Oper}
theorem Sat.p (hE:Sat ds N E a) {op:Op} {ty:TypeId} {pos:String} {aft:Array Edge} {d:Nat} {v:Value}
  (he:execOp a.eval ⟨some d,op,ty,pos,aft,none⟩=pn v) (next:∀ a',Sat ds N ((d,v)::E) a'->WL ro P ops Q rest a' w)
  (hN:Nat.blt d N=true:=by rfl) (hnd:∀ c,op≠.defer c:=by intro c h;cases h):WL ro P ops Q (⟨some d,op,ty,pos,aft,none⟩::rest) a w:=
 hE.pure (by rw [he];rfl) hnd hN next
theorem Sat.o (hE:Sat ds N E a) {τ:Type} {enc:τ->Value} {s:Sem Value} {k:τ->World->Prop} {op:Op} {ty:TypeId} {pos:String} {aft:Array Edge} {d:Nat}
  (he:execOp a.eval ⟨some d,op,ty,pos,aft,none⟩=pv s) (H:opE P enc s w k)
  (next:∀ x w' a',k x w'->Sat ds N ((d,enc x)::E) a'->WL ro P ops Q rest a' w')
  (hN:Nat.blt d N=true:=by rfl) (hnd:∀ c,op≠.defer c:=by intro c h;cases h):WL ro P ops Q (⟨some d,op,ty,pos,aft,none⟩::rest) a w:=
 hE.val he hnd hN H next
theorem Sat.purR (hE:Sat ds N E a) {op:Op} {ty:TypeId} {pos:String} {aft:Array Edge} {d:Nat} {v:Value}
  (he:∀ w,(execOp a.eval ⟨some d,op,ty,pos,aft,none⟩).run P w=.ok (.value v) w) (next:∀ a',Sat ds N ((d,v)::E) a'->WL ro P ops Q rest a' w)
  (hN:Nat.blt d N=true:=by rfl) (hnd:∀ c,op≠.defer c:=by intro c h;cases h):WL ro P ops Q (⟨some d,op,ty,pos,aft,none⟩::rest) a w:=
 hE.pure (he w) hnd hN next
theorem Sat.op0 (hE:Sat ds N E a) {τ:Type} {enc:τ->Value} {s:Sem Value} {k:τ->World->Prop} {op:Op} {ty:TypeId} {pos:String} {aft:Array Edge}
  (he:execOp a.eval ⟨none,op,ty,pos,aft,none⟩=pv s) (H:opE P enc s w k)
  (next:∀ x w' a',k x w'->Sat ds N E a'->WL ro P ops Q rest a' w')
  (hnd:∀ c,op≠.defer c:=by intro c h;cases h):WL ro P ops Q (⟨none,op,ty,pos,aft,none⟩::rest) a w:=by
 obtain ⟨x,w',hr,hk⟩:=H
 exact zOJ rfl hnd (v:=enc x) (w':=w') (by rw [he];simp [hr]) (next x w' _ hk hE)
theorem Sat.h (hE:Sat ds N E a) {s:Sem Unit} {k:World->Prop} {op:Op} {ty:TypeId} {pos:String} {aft:Array Edge}
  (he:execOp a.eval ⟨none,op,ty,pos,aft,none⟩=pu s) (H:opU P s w k)
  (next:∀ w' a',k w'->Sat ds N E a'->WL ro P ops Q rest a' w')
  (hnd:∀ c,op≠.defer c:=by intro c h;cases h):WL ro P ops Q (⟨none,op,ty,pos,aft,none⟩::rest) a w:=
 hE.unit he hnd H next
theorem Sat.c (hE:Sat ds N E a) {f:FuncId} {args:Array Value} {R:Ending->World->Prop} {op:Op} {ty:TypeId} {pos:String} {aft:Array Edge} {d:Nat}
  (he:(execOp a.eval ⟨some d,op,ty,pos,aft,none⟩).run P w=.ok (.enter f args) w) (H:Cl P f args w R)
  (next:∀ e w',R e w'->∃ v,e=.returned v/\∀ a',Sat ds N ((d,v)::E) a'->WL ro P ops Q rest a' w')
  (hN:Nat.blt d N=true:=by rfl) (hnd:∀ c,op≠.defer c:=by intro c h;cases h):WL ro P ops Q (⟨some d,op,ty,pos,aft,none⟩::rest) a w:=
 zOa rfl hnd he H λe w' hR=>by
  obtain ⟨v,rfl,hv⟩:=next e w' hR
  exact ⟨v,rfl,hv _ (hE.put hN v)⟩
theorem zHz (hE:Sat ds N E a) {j d:Nat} {b:Bool} (hj:(ops[j]?).bind (·.dst)=some d) (hb:lk E d=some (.bool b)):yielded ops a.tmps j=some b:=by
 unfold yielded
 have h1:=hE.vals d _ hb
 simp only [hj]
 have:d<a.tmps.size∨¬ d<a.tmps.size:=Nat.lt_or_ge d _ |>.imp id (by omega)
 rcases this with h|h
 ·simp [Array.getD_eq_getD_getElem?,h] at h1
  simp [h,h1]
 ·simp [Array.getD_eq_getD_getElem?,h,undef] at h1
theorem Sat.n (hE:Sat ds N E a) {dst:Option Tmp} {op:Op} {ty:TypeId} {pos:String} {aft:Array Edge} {j d:Nat} {b:Bool}
  (hj:(ops[j]?).bind (·.dst)=some d) (hb:lk E d=some (.bool b)) (h:WL ro P ops Q (⟨dst,op,ty,pos,aft,none⟩::rest) a w):WL ro P ops Q (⟨dst,op,ty,pos,aft,some (j,b)⟩::rest) a w:=by
 unfold WL wpListIn at*
 rw [if_pos (by simp [Region.wanted])] at h
 rw [if_pos (by simp [Region.wanted,zHz hE hj hb])]
 exact h
theorem Sat.f (hE:Sat ds N E a) {d0:Nat} {op:Op} {ty:TypeId} {pos:String} {aft:Array Edge} {j d:Nat} {b b':Bool}
  (hj:(ops[j]?).bind (·.dst)=some d) (hb:lk E d=some (.bool b')) (hne:b'≠b) (h:∀ a',Sat ds N ((d0,undef)::E) a'->WL ro P ops Q rest a' w) (hN:Nat.blt d0 N=true:=by rfl):
  WL ro P ops Q (⟨some d0,op,ty,pos,aft,some (j,b)⟩::rest) a w:=by
 unfold WL wpListIn
 rw [if_neg (by simp [Region.wanted,zHz hE hj hb,hne])]
 exact ⟨λ_ _=>trivial,h _ (hE.put hN _)⟩
theorem Sat.z (hE:Sat ds N E a) {dst:Option Tmp} {op:Op} {ty:TypeId} {pos:String} {aft:Array Edge} {j d:Nat} {b:Bool} (h:WL ro P ops Q (⟨dst,op,ty,pos,aft,none⟩::rest) a w) (hj:(ops[j]?).bind (·.dst)=some d:=by rfl) (hb:lk E d=some (.bool b):=by rfl):WL ro P ops Q (⟨dst,op,ty,pos,aft,some (j,b)⟩::rest) a w:=hE.n hj hb h
theorem Sat.d (hE:Sat ds N E a) {d0:Nat} {op:Op} {ty:TypeId} {pos:String} {aft:Array Edge} {j d:Nat} {b b':Bool} (h:∀ a',Sat ds N ((d0,undef)::E) a'->WL ro P ops Q rest a' w) (hj:(ops[j]?).bind (·.dst)=some d:=by rfl) (hb:lk E d=some (.bool b'):=by rfl) (hne:b'≠b:=by decide) (hN:Nat.blt d0 N=true:=by rfl):WL ro P ops Q (⟨some d0,op,ty,pos,aft,some (j,b)⟩::rest) a w:=hE.f hj hb hne h hN
theorem WL.join {σ:Type} (EJ:σ->Env) (V:σ->World->Prop) (k:Nat) {l0:List Oper} (hy:∀ s w a,V s w->Sat ds N (EJ s) a->WL ro P ops Q (l0.drop k) a w)
  (hx:(∀ s w a,V s w->Sat ds N (EJ s) a->WL ro P ops Q (l0.drop k) a w)->WL ro P ops Q l0 a w):WL ro P ops Q l0 a w:=hx hy
theorem z8 {σ:Type} {x y:Code} (EJ:σ->Env) (V:σ->World->Prop) (hy:∀ s w a,V s w->Sat ds N (EJ s) a->WC ro P y Q a w)
  (hx:(∀ s w a,V s w->Sat ds N (EJ s) a->WC ro P y Q a w)->WC ro P x (Exit.then (WC ro P y Q) Q) a w):WC ro P (.seq x y) Q a w:=wpIn_seq (hx hy)
theorem zI {x y:Code} (h:WC ro P x (Exit.then (WC ro P y Q) Q) a w):WC ro P (.seq x y) Q a w:=wpIn_seq h
theorem zE {id:Nat} {l:List Oper} (h:WL ro P l.toArray Q l a w):WC ro P (.region id l.toArray false) Q a w:=wpIn_region_lit h
theorem zL (h:Q .normal a w):WL ro P ops Q [] a w:=h
theorem zd (hE:Sat ds N E a) {c:Operand} {x y:Code} {p:Prop} [Decidable p] (hc:ev E c=some (.bool (decide p))) (ht:p->WC ro P x Q a w) (hf:¬ p->WC ro P y Q a w):WC ro P (.cond c x y) Q a w:=
 wpIn_cond_split (hE.ev hc) (λh=>ht (of_decide_eq_true h)) (λh=>hf (of_decide_eq_false h))
theorem zk (hE:Sat ds N E a) {c:Operand} {x y:Code} {b:Bool} (hc:ev E c=some (.bool b)) (ht:b=true->WC ro P x Q a w) (hf:b=false->WC ro P y Q a w):WC ro P (.cond c x y) Q a w:=
 wpIn_cond_split (hE.ev hc) ht hf
theorem zX {id:Nat} {c:Code} (h:WC ro P c (Exit.inBlock id Q) a w):WC ro P (.block id c) Q a w:=wpIn_block h
theorem zY (h:Q .normal a w):WC ro P .skip Q a w:=wpIn_skip h
theorem z7 {id:Nat} (h:Q (.exit id) a w):WC ro P (.exit id) Q a w:=wpIn_exit h
theorem zl (h:Q .ret a w):WC ro P .ret Q a w:=wpIn_ret h
theorem yE {σ:Type} (EL:σ->Env) {c:Code} (I:σ->World->Prop) (μ:σ->World->Nat) (s0:σ) (h0:I s0 w) (hE:Sat ds N (EL s0) a)
  (hb:∀ s w a,I s w->Sat ds N (EL s) a->WC ro P c (Exit.then (λa' w'=>∃ s',Sat ds N (EL s') a'/\I s' w'/\μ s' w'<μ s w) Q) a w):WC ro P (.loop c) Q a w:=by
 refine wpIn_loop (λa w=>∃ n,∃ s,Sat ds N (EL s) a/\I s w/\μ s w=n) (λa w=>leastOf λn=>∃ s,Sat ds N (EL s) a/\I s w/\μ s w=n) ⟨_,s0,hE,h0,rfl⟩ ?_
 intro a w hI
 obtain ⟨⟨s,hs,hi,hm⟩,hleast⟩:=leastOf_spec hI
 refine wpIn_mono (hb s w a hi hs) ?_
 intro e a' w' hq
 cases e with
 |normal=>
  obtain ⟨s',h1,h2,h3⟩:=hq
  refine ⟨⟨_,s',h1,h2,rfl⟩,Nat.lt_of_le_of_lt ((leastOf_spec ⟨_,s',h1,h2,rfl⟩).2 _ ⟨s',h1,h2,rfl⟩) ?_⟩
  rw [← hm];exact h3
 |exit id=>exact hq
 |goto l=>exact hq
 |ret=>exact hq
 |panic c=>exact hq
 |outgrown=>exact hq
end
section
variable {Q:Exit->Act->World->Prop} {K:Act->World->Prop} {a:Act} {w:World} {id id':Nat}
theorem tn (h:K a w):Exit.then K Q .normal a w:=h
theorem te (h:Q (.exit id) a w):Exit.then K Q (.exit id) a w:=h
theorem tr (h:Q .ret a w):Exit.then K Q .ret a w:=h
theorem bn (h:Q .normal a w):Exit.inBlock id Q .normal a w:=h
theorem br (h:Q .ret a w):Exit.inBlock id Q .ret a w:=h
theorem be (h:Q .normal a w):Exit.inBlock id Q (.exit id) a w:=by simp only [Exit.inBlock,if_true];exact h
theorem bo (h:Q (.exit id') a w) (hne:Nat.beq id' id=false:=by rfl):Exit.inBlock id Q (.exit id') a w:=by
 have:id'≠id:=zSH hne
 simp only [Exit.inBlock,this,if_false];exact h
end
def zipE:Nat->List Value->Env
 |_,[]=>[]
 |i,v::r=>(i,v)::zipE (i+1) r
theorem zKz:∀ (l:List Value) (i t:Nat) (v:Value),lk (zipE i l) t=some v->i<=t/\l[t - i]?=some v
 |[],_,_,_,h=>by cases h
 |u::r,i,t,v,h=>by
  by_cases e:i=t
  ·subst e
   have h1:(bif Nat.beq i i then some u else lk (zipE (i+1) r) i)=some v:=h
   rw [show Nat.beq i i=true from by simp] at h1
   exact ⟨zU _,by simpa using h1⟩
  ·have h1:(bif Nat.beq i t then some u else lk (zipE (i+1) r) t)=some v:=h
   rw [show Nat.beq i t=false from zML e] at h1
   obtain ⟨h2,h3⟩:=zKz r (i+1) t v h1
   refine ⟨by omega,?_⟩
   rw [show t - i=(t - (i+1))+1 from by omega]
   simpa using h3
theorem zp {P:Program} {f:FuncId} {fn:Func} {c:Code} {args:List Value} {w:World} {R:Ending->World->Prop} (N:Nat) (E:Env)
  (hf:P.funcs[f]?=some fn) (hb:fn.body=some c) (hN:fn.ntmps=N) (hle:Nat.ble args.length N=true)
  (hz:zipE 0 args=E)
  (h:∀ a,Sat [] N E a->WC none P c (bodyPost P fn R) a w):Cl P f args.toArray w R:=by
 subst hN
 exact callsIn_of_wp hf hb trivial (h _ (Sat.enter args.toArray (by simpa using hle) (by intro t v hv;rw [← hz] at hv;simpa using (zKz args 0 t v hv).2))) rfl
theorem zw {P:Program} {fn:Func} {R:Ending->World->Prop} {N:Nat} {E:Env} {a:Act} {w:World} (hE:Sat [] N E a) {t:Nat} {v:Value} (hr:fn.results=#[.tmp t]) (hv:lk E t=some v) (h:R (.returned v) w):
  bodyPost P fn R .ret a w:=⟨hE.defs,v,by simp only [results,hr];simp [hE.getq hv],h⟩
theorem zE1 {P:Program} {fn:Func} {R:Ending->World->Prop} {N:Nat} {E:Env} {a:Act} {w:World} (hE:Sat [] N E a) (hr:fn.results=#[]) (h:R (.returned (.tuple #[])) w):
  bodyPost P fn R .ret a w:=⟨hE.defs,_,by simp [results,hr],h⟩
theorem ZK {P:Program} {fn:Func} {R:Ending->World->Prop} {N:Nat} {E:Env} {a:Act} {w:World} (hE:Sat [] N E a) {t t':Nat} {v v':Value} (hr:fn.results=#[.tmp t,.tmp t']) (hv:lk E t=some v) (hv':lk E t'=some v') (h:R (.returned (.tuple #[v,v'])) w):
  bodyPost P fn R .ret a w:=⟨hE.defs,_,by simp only [results,hr];simp [hE.getq hv,hE.getq hv'],h⟩
theorem zJt {P:Program} {fn:Func} {R:Ending->World->Prop} {N:Nat} {E:Env} {a:Act} {w:World} (hE:Sat [] N E a) {t t' t'':Nat} {v v' v'':Value} (hr:fn.results=#[.tmp t,.tmp t',.tmp t'']) (hv:lk E t=some v) (hv':lk E t'=some v') (hv'':lk E t''=some v'') (h:R (.returned (.tuple #[v,v',v''])) w):
  bodyPost P fn R .ret a w:=⟨hE.defs,_,by simp only [results,hr];simp [hE.getq hv,hE.getq hv',hE.getq hv''],h⟩
theorem zBg {P:Program} {fn:Func} {R:Ending->World->Prop} {N:Nat} {E:Env} {a:Act} {w:World} (hE:Sat [] N E a) (hr:fn.results=#[]) (h:R (.returned (.tuple #[])) w):
  bodyPost P fn R .normal a w:=⟨hE.defs,_,by simp [results,hr],h⟩
section
variable {ro:Option Nat} {P:Program} {ops:Array Oper} {Q:Exit->Act->World->Prop} {ds:List Deferred} {N:Nat} {E:Env} {a:Act} {w:World} {rest:List Oper}
theorem zLX (hE:Sat ds N E a) {j d:Nat} (hj:(ops[j]?).bind (·.dst)=some d) (hb:lk E d=some undef):yielded ops a.tmps j=none:=by
 unfold yielded
 have h1:=hE.vals d _ hb
 simp only [hj]
 rcases Nat.lt_or_ge d a.tmps.size with h|h
 ·simp [Array.getD_eq_getD_getElem?,h] at h1
  simp [h,h1,undef]
 ·have:a.tmps[d]?=none:=Array.getElem?_eq_none h
  simp [this]
theorem Sat.offU (hE:Sat ds N E a) {d0:Nat} {op:Op} {ty:TypeId} {pos:String} {aft:Array Edge} {j d:Nat} {b:Bool}
  (hj:(ops[j]?).bind (·.dst)=some d) (hb:lk E d=some undef) (h:∀ a',Sat ds N ((d0,undef)::E) a'->WL ro P ops Q rest a' w) (hN:Nat.blt d0 N=true:=by rfl):
  WL ro P ops Q (⟨some d0,op,ty,pos,aft,some (j,b)⟩::rest) a w:=by
 unfold WL wpListIn
 rw [if_neg (by simp [Region.wanted,zLX hE hj hb])]
 exact ⟨λ_ _=>trivial,h _ (hE.put hN _)⟩
end
abbrev Bel (w w':World):Prop:=Go.RowKit.Below w.heap.size w w'
theorem Bel.refl (w:World):Bel w w:=Go.RowKit.Below.refl _ _
def yM (w:World) (k:World->Prop):Prop:=∀ w',Bel w w'->k w'
def opB {τ:Type} (P:Program) (enc:τ->Value) (s:Sem Value) (w:World) (k:τ->Prop):Prop:=∃ x,(∀ w',Bel w w'->s.run P w'=.ok (enc x) w')/\k x
section
variable {P:Program} {ops:Array Oper} {ds:List Deferred} {N:Nat} {E:Env} {a:Act} {w:World} {rest:List Oper} {K:Act->Prop}
abbrev WQ (P:Program) (ops:Array Oper) (w:World) (K:Act->Prop) (l:List Oper) (a:Act):Prop:=wpQuietIn (FW none) 0 P ops (Bel w) K l a
theorem QU {Q:Exit->Act->World->Prop} {id:Nat} {l:List Oper} (hm:P.follows .mixedOrders=true) (hB:Region.lexB .any l.toArray=true)
  (h:WQ P l.toArray w (λa'=>∀ w',Bel w w'->Q .normal a' w') l a):WC none P (.region id l.toArray true) Q a w:=
 wpIn_region_quiet (C:=Bel w) rfl hm hB ⟨rfl,rfl,rfl,zU _,λ_ _=>rfl⟩ (by simpa using h)
theorem zIf (o:Oper) (a:Act):o.askedIn (FW none) P a (Bel w):=λ_ _ _ _=>trivial
theorem zP4 {o:Oper} (hg:o.guard=none) {v:Value} (hr:∀ w',Bel w w'->(execOp a.eval o).run P w'=.ok (.value v) w') (h:WQ P ops w K rest (a.put o.dst v)):WQ P ops w K (o::rest) a:=by
 unfold WQ wpQuietIn
 refine ⟨zIf o a,?_⟩
 rw [if_pos (by simp [Region.wanted,hg])]
 exact ⟨v,λw' hw=>by unfold Oper.quietAtIn;rw [hr w' hw];exact ⟨rfl,rfl⟩,h⟩
theorem zQe {o:Oper} (hg:o.guard=none) {f:FuncId} {args:Array Value} {v:Value} (hr:∀ w',(execOp a.eval o).run P w'=.ok (.enter f args) w')
  (hc:∀ w',Bel w w'->Cl P f args w' λe w''=>e=.returned v/\Bel w' w'') (h:WQ P ops w K rest (a.put o.dst v)):WQ P ops w K (o::rest) a:=by
 unfold WQ wpQuietIn
 refine ⟨zIf o a,?_⟩
 rw [if_pos (by simp [Region.wanted,hg])]
 refine ⟨v,λw' hw=>?_,h⟩
 unfold Oper.quietAtIn
 rw [hr w']
 refine ⟨rfl,λh=>by simp [FW,Fence.wide] at h,?_⟩
 have hc':CallsIn (FW none) 0 P f args w' (λe w''=>e=.returned v/\Bel w' w''):=hc w' hw
 refine CallsIn.mono hc' λe w'' ⟨he,hb⟩=>⟨he,?_⟩
 exact hw.trans ⟨hb.os,hb.tape,hb.output,hb.size,λk hk=>hb.block k (yF hk hw.size)⟩
theorem Sat.r (hE:Sat ds N E a) {op:Op} {ty:TypeId} {pos:String} {aft:Array Edge} {d:Nat} {v:Value}
  (he:execOp a.eval ⟨some d,op,ty,pos,aft,none⟩=pn v) (next:∀ a',Sat ds N ((d,v)::E) a'->WQ P ops w K rest a')
  (hN:Nat.blt d N=true:=by rfl):WQ P ops w K (⟨some d,op,ty,pos,aft,none⟩::rest) a:=
 zP4 rfl (λw' _=>by rw [he];rfl) (next _ (hE.put hN v))
theorem Sat.qpurR (hE:Sat ds N E a) {op:Op} {ty:TypeId} {pos:String} {aft:Array Edge} {d:Nat} {v:Value}
  (he:∀ w,(execOp a.eval ⟨some d,op,ty,pos,aft,none⟩).run P w=.ok (.value v) w) (next:∀ a',Sat ds N ((d,v)::E) a'->WQ P ops w K rest a')
  (hN:Nat.blt d N=true:=by rfl):WQ P ops w K (⟨some d,op,ty,pos,aft,none⟩::rest) a:=
 zP4 rfl (λw' _=>he w') (next _ (hE.put hN v))
theorem Sat.A (hE:Sat ds N E a) {τ:Type} {enc:τ->Value} {s:Sem Value} {k:τ->Prop} {op:Op} {ty:TypeId} {pos:String} {aft:Array Edge} {d:Nat}
  (he:execOp a.eval ⟨some d,op,ty,pos,aft,none⟩=pv s) (H:opB P enc s w k)
  (next:∀ x a',k x->Sat ds N ((d,enc x)::E) a'->WQ P ops w K rest a') (hN:Nat.blt d N=true:=by rfl):WQ P ops w K (⟨some d,op,ty,pos,aft,none⟩::rest) a:=by
 obtain ⟨x,hr,hk⟩:=H
 exact zP4 rfl (v:=enc x) (λw' hw=>by rw [he];simp [hr w' hw]) (next x _ hk (hE.put hN _))
theorem Sat.qcall (hE:Sat ds N E a) {f:FuncId} {args:Array Value} {v:Value} {op:Op} {ty:TypeId} {pos:String} {aft:Array Edge} {d:Nat}
  (he:∀ w',(execOp a.eval ⟨some d,op,ty,pos,aft,none⟩).run P w'=.ok (.enter f args) w') (hc:∀ w',Bel w w'->Cl P f args w' λe w''=>e=.returned v/\Bel w' w'')
  (next:∀ a',Sat ds N ((d,v)::E) a'->WQ P ops w K rest a') (hN:Nat.blt d N=true:=by rfl):WQ P ops w K (⟨some d,op,ty,pos,aft,none⟩::rest) a:=
 zQe rfl he hc (next _ (hE.put hN v))
theorem Sat.u (hE:Sat ds N E a) {dst:Option Tmp} {op:Op} {ty:TypeId} {pos:String} {aft:Array Edge} {j d:Nat} {b:Bool}
  (hj:(ops[j]?).bind (·.dst)=some d) (hb:lk E d=some (.bool b)) (h:WQ P ops w K (⟨dst,op,ty,pos,aft,none⟩::rest) a):WQ P ops w K (⟨dst,op,ty,pos,aft,some (j,b)⟩::rest) a:=by
 unfold WQ wpQuietIn at*
 refine ⟨zIf _ a,?_⟩
 rw [if_pos (by simp [Region.wanted,zHz hE hj hb])]
 have:=h.2
 rw [if_pos (by simp [Region.wanted])] at this
 exact this
theorem Sat.v (hE:Sat ds N E a) {d0:Nat} {op:Op} {ty:TypeId} {pos:String} {aft:Array Edge} {j d:Nat} {b b':Bool}
  (hj:(ops[j]?).bind (·.dst)=some d) (hb:lk E d=some (.bool b')) (hne:b'≠b) (h:∀ a',Sat ds N ((d0,undef)::E) a'->WQ P ops w K rest a') (hN:Nat.blt d0 N=true:=by rfl):
  WQ P ops w K (⟨some d0,op,ty,pos,aft,some (j,b)⟩::rest) a:=by
 unfold WQ wpQuietIn
 refine ⟨zIf _ a,?_⟩
 rw [if_neg (by simp [Region.wanted,zHz hE hj hb,hne])]
 exact h _ (hE.put hN _)
theorem Sat.e (hE:Sat ds N E a) {dst:Option Tmp} {op:Op} {ty:TypeId} {pos:String} {aft:Array Edge} {j d:Nat} {b:Bool} (h:WQ P ops w K (⟨dst,op,ty,pos,aft,none⟩::rest) a) (hj:(ops[j]?).bind (·.dst)=some d:=by rfl) (hb:lk E d=some (.bool b):=by rfl):WQ P ops w K (⟨dst,op,ty,pos,aft,some (j,b)⟩::rest) a:=hE.u hj hb h
theorem Sat.g (hE:Sat ds N E a) {d0:Nat} {op:Op} {ty:TypeId} {pos:String} {aft:Array Edge} {j d:Nat} {b b':Bool} (h:∀ a',Sat ds N ((d0,undef)::E) a'->WQ P ops w K rest a') (hj:(ops[j]?).bind (·.dst)=some d:=by rfl) (hb:lk E d=some (.bool b'):=by rfl) (hne:b'≠b:=by decide) (hN:Nat.blt d0 N=true:=by rfl):WQ P ops w K (⟨some d0,op,ty,pos,aft,some (j,b)⟩::rest) a:=hE.v hj hb hne h hN
theorem Sat.qoffU (hE:Sat ds N E a) {d0:Nat} {op:Op} {ty:TypeId} {pos:String} {aft:Array Edge} {j d:Nat} {b:Bool}
  (hj:(ops[j]?).bind (·.dst)=some d) (hb:lk E d=some undef) (h:∀ a',Sat ds N ((d0,undef)::E) a'->WQ P ops w K rest a') (hN:Nat.blt d0 N=true:=by rfl):
  WQ P ops w K (⟨some d0,op,ty,pos,aft,some (j,b)⟩::rest) a:=by
 unfold WQ wpQuietIn
 refine ⟨zIf _ a,?_⟩
 rw [if_neg (by simp [Region.wanted,zLX hE hj hb])]
 exact h _ (hE.put hN _)
theorem Qb (h:K a):WQ P ops w K [] a:=h
theorem WQ.join {σ:Type} (EJ:σ->Env) (V:σ->Prop) (k:Nat) {l0:List Oper} (hy:∀ s a,V s->Sat ds N (EJ s) a->WQ P ops w K (l0.drop k) a)
  (hx:(∀ s a,V s->Sat ds N (EJ s) a->WQ P ops w K (l0.drop k) a)->WQ P ops w K l0 a):WQ P ops w K l0 a:=hx hy
end
def zIg:Op->Bool
 |.move _|.assign _|.load ..|.store ..|.alloc _|.box ..|.build ..|.buildSlice ..|.mapEntry ..|.entryStore ..|.mapUpdate ..|.insert ..|.lookup ..|.extract ..|.binOp ..|.unOp ..
 |.fieldAddr ..|.indexAddr ..|.index ..|.field ..|.slice ..|.convert ..|.makeFunc ..|.makeSlice ..|.makeMap ..=>true
 |.call {callee:=.builtin .append,..}|.call {callee:=.builtin .copy,..}|.call {callee:=.builtin .len,..}|.call {callee:=.builtin .clear,..}|.call {callee:=.builtin .delete,..}=>true
 |_=>false
theorem zNm {P:Program} {s:Sem Value} {w w':World} {l f ts as_ bd}:(pv s).run P w≠.ok (.round l f ts as_ bd) w':=by
 intro h
 simp only [pv,Sem.run_bind] at h
 cases hs:s.run P w<;>rw [hs] at h<;>simp [Result.andThen,Sem.run] at h
theorem zPx {P:Program} {s:Sem Unit} {w w':World} {l f ts as_ bd}:(pu s).run P w≠.ok (.round l f ts as_ bd) w':=by
 intro h
 simp only [pu,Sem.run_bind] at h
 cases hs:s.run P w<;>rw [hs] at h<;>simp [Result.andThen,Sem.run] at h
theorem zOL {P:Program} {ρ:Operand->Value} {w w':World} {l f ts as_ bd} {d:Option Tmp} {c:Call} {ty:TypeId} {pos:String} {aft:Array Edge} {g:Option (Nat × Bool)} (h:zIg (.call c)=true):
  (execOp ρ ⟨d,.call c,ty,pos,aft,g⟩).run P w≠.ok (.round l f ts as_ bd) w':=by
 obtain ⟨cl,as_,ts_⟩:=c
 cases cl with
 |value x=>exact absurd h (by simp [zIg])
 |invoke x m=>exact absurd h (by simp [zIg])
 |builtin b=>cases b<;>first|(exact zNm)|(exact absurd h (by simp [zIg]))
theorem zNS {P:Program} {o:Oper} {ρ:Operand->Value} {w w':World} {l f ts as_ bd} (h:zIg o.op=true):(execOp ρ o).run P w≠.ok (.round l f ts as_ bd) w':=by
 obtain ⟨d,op,ty,pos,aft,g⟩:=o
 cases op<;>first|(exact zNm)|(exact zPx)|(intro hh;simp [execOp,Sem.run] at hh;done)|(rename_i c;exact zOL h)|(exact absurd h (by simp [zIg]))
section
variable {P:Program} {ops:Array Oper} {ds:List Deferred} {N:Nat} {E:Env} {a:Act} {w:World} {rest:List Oper} {K:Act->Prop} {Q:Exit->Act->World->Prop}
theorem zH5:∀ (l:List Oper) (a:Act) (w:World),l.all (λo=>zIg o.op)=true->WL none P ops Q l a w->wpList P ops Q l a w
 |[],_,_,_,h=>h
 |o::l,a,w,hp,h=>by
  simp only [List.all_cons,Bool.and_eq_true] at hp
  unfold WL wpListIn at h
  unfold wpList
  split
  ·rename_i hw
   rw [if_pos hw] at h
   refine .inl ?_
   have h2:=h.2
   unfold Oper.wp
   rw [Oper.semAt_none] at h2
   have hr:=λl f ts as_ bd w'=>zNS (P:=P) (o:=o) (ρ:=a.eval) (w:=w) (w':=w') (l:=l) (f:=f) (ts:=ts) (as_:=as_) (bd:=bd) hp.1
   cases hx:(execOp a.eval o).run P w with
   |halt hh w'=>rw [hx] at h2;cases hh<;>first|exact h2|exact h2.elim
   |ok nx w'=>
    rw [hx] at h2
    cases nx with
    |value v=>exact zH5 l _ _ hp.2 h2
    |skip=>exact zH5 l _ _ hp.2 h2
    |defer d=>exact zH5 l _ _ hp.2 h2
    |enter f args=>
     have h3:=callsIn_wide.1 h2.2
     refine Calls.mono h3 λe w'' hh=>?_
     cases e with
     |returned v=>exact zH5 l _ _ hp.2 hh
     |panicked c=>exact hh
     |outgrown=>exact hh
    |row r args=>
     have h3:=h2.2
     intro c cs
     obtain ⟨v,w'',h4,h5⟩:=h3 c cs (room_wide _)
     exact ⟨v,w'',zH5 l _ _ hp.2 h4,stepsIn_wide.1 h5⟩
    |round l f ts as_ bd=>exact absurd hx (hr l f ts as_ bd w')
    |_=>exact h2.elim
  ·rename_i hw
   rw [if_neg hw] at h
   exact zH5 l _ _ hp.2 h.2
abbrev WS (P:Program) (ops:Array Oper) (w:World) (K:Act->Prop) (l:List Oper) (a:Act):Prop:=wpStill P ops w K l a
theorem Bel.draw (w:World):Bel w {w with drawn:=w.drawn+1}:=⟨rfl,rfl,rfl,zU _,λ_ _=>rfl⟩
theorem zTu {id:Nat} {l:List Oper} (n:Nat) (hm:P.follows .mixedOrders=true) (hB:Region.lexTailB .any l.toArray n=true) (hp:(l.drop n).all (λo=>zIg o.op)=true)
  (h:WS P l.toArray {w with drawn:=w.drawn+1} (λa'=>WL none P l.toArray Q (l.drop n) a' {w with drawn:=w.drawn+1}) (l.take n) a):WC none P (.region id l.toArray true) Q a w:=by
 refine wpIn_wide.2 (wp_region_still_tail n hm hB ?_)
 have:∀ (l':List Oper) (a:Act),WS P l.toArray {w with drawn:=w.drawn+1} (λa'=>WL none P l.toArray Q (l.drop n) a' {w with drawn:=w.drawn+1}) l' a->
   wpStill P l.toArray {w with drawn:=w.drawn+1} (λa'=>wpList P l.toArray Q (l.drop n) a' {w with drawn:=w.drawn+1}) l' a:=by
  intro l'
  induction l' with
  |nil=>exact λa h=>zH5 _ _ _ hp h
  |cons o l' ih=>
   intro a h
   unfold WS wpStill at h
   unfold wpStill
   split
   ·rename_i hw
    rw [if_pos hw] at h
    unfold Oper.still at*
    cases hx:(execOp a.eval o).run P {w with drawn:=w.drawn+1} with
    |halt hh w'=>rw [hx] at h;exact h.elim
    |ok nx w'=>
     rw [hx] at h
     cases nx with
     |value v=>exact ⟨h.1,ih _ h.2⟩
     |skip=>exact ⟨h.1,ih _ h.2⟩
     |enter f args=>obtain ⟨h1,v,h2,h3⟩:=h;exact ⟨h1,v,h2,ih _ h3⟩
     |_=>exact h.elim
   ·rename_i hw
    rw [if_neg hw] at h
    exact ih _ h
 exact this _ _ h
theorem WS.join {σ:Type} (EJ:σ->Env) (V:σ->Prop) (k:Nat) {l0:List Oper} (hy:∀ s a,V s->Sat ds N (EJ s) a->WS P ops w K (l0.drop k) a)
  (hx:(∀ s a,V s->Sat ds N (EJ s) a->WS P ops w K (l0.drop k) a)->WS P ops w K l0 a):WS P ops w K l0 a:=hx hy
end
def opP {τ:Type} (P:Program) (enc:τ->Value) (s:Sem Value) (k:τ->Prop):Prop:=∃ x,(∀ w,s.run P w=.ok (enc x) w)/\k x
def zI8:Op->Bool
 |.call _|.go _|.defer _=>false
 |_=>true
section
variable {P:Program} {ops:Array Oper} {ds:List Deferred} {N:Nat} {E:Env} {a:Act} {w:World} {Q:Exit->Act->World->Prop} {fuel:Nat} {listed l2:Array Bool}
abbrev WA (P:Program) (ops:Array Oper) (Q:Exit->Act->World->Prop) (fuel:Nat) (listed:Array Bool) (a:Act) (w:World):Prop:=wpAnyIn (FW none) 0 P .any ops Q fuel listed a w
theorem zSx {id:Nat} {l:List Oper} (n:Nat) (l2:Array Bool) (hm:P.follows .mixedOrders=true) (h:∀ w',Bel w w'->WA P l.toArray Q n l2 a w') (hn:l.toArray.size=n:=by rfl) (hl:Array.replicate n false=l2:=by rfl):
  WC none P (.region id l.toArray true) Q a w:=by
 subst hn;subst hl
 exact wpIn_region_any hm (h _ (Bel.draw w))
def zHV (Q:Exit->Act->World->Prop):Prop:=∀ c a w d v,Q (.panic c) (a.put (some d) v) w->Q (.panic c) a w
theorem zNt {o:Oper} (h:zI8 o.op=true) (ρ:Operand->Value) (w:World):o.about P w ρ=none:=by
 unfold Oper.about
 obtain ⟨d,op,ty,pos,aft,g⟩:=o
 cases op<;>first|rfl|(exact absurd h (by simp [zI8]))
theorem WA.take {i d:Nat} {o:Oper} {v:Value} (hd:o.dst=some d) (hq:zHV Q) (hs:Region.noSelect ops=true) (hi:ops[i]?=some o) (hf:Region.free .any ops listed i=true) (hr:(Region.ready .any ops listed).contains i=true)
  (hl:listed.setIfInBounds i true=l2) (hy:YieldsFenced P ops o v a) (h:WA P ops Q fuel l2 (a.put o.dst v) w):WA P ops Q (fuel+1) listed a w:=by
 subst hl
 exact wpAnyIn_take rfl hi hs hf hr (λc a w=>by rw [hd];exact hq c a w d v) hy h
theorem WA.one {i:Nat} {o:Oper} (hi:ops[i]?=some o) (hr:Region.ready .any ops listed=[i]) (hl:listed.setIfInBounds i true=l2)
  (h:∀ (K:Act->World->Prop),(∀ a w,WA P ops Q fuel l2 a w->K a w)->if Region.wanted o (yielded ops a.tmps)=true then Oper.wpIn (FW none) 0 P o a w K Q else K (a.put o.dst undef) w):WA P ops Q (fuel+1) listed a w:=by
 subst hl
 refine wpAnyIn_ready hr (by simp) (AllReadyIn.cons hi (λK hK=>?_) AllReadyIn.nil)
 have:=h K hK
 split
 ·rename_i hw;rw [if_pos hw] at this;exact this
 ·rename_i hw;rw [if_neg hw] at this;exact ⟨λ_ _=>trivial,this⟩
theorem WA.two {i j:Nat} {o o':Oper} {l3:Array Bool} (hi:ops[i]?=some o) (hj:ops[j]?=some o') (hr:Region.ready .any ops listed=[i,j]) (hl:listed.setIfInBounds i true=l2) (hl':listed.setIfInBounds j true=l3)
  (h:∀ (K:Act->World->Prop),(∀ a w,WA P ops Q fuel l2 a w->K a w)->if Region.wanted o (yielded ops a.tmps)=true then Oper.wpIn (FW none) 0 P o a w K Q else K (a.put o.dst undef) w)
  (h':∀ (K:Act->World->Prop),(∀ a w,WA P ops Q fuel l3 a w->K a w)->if Region.wanted o' (yielded ops a.tmps)=true then Oper.wpIn (FW none) 0 P o' a w K Q else K (a.put o'.dst undef) w):WA P ops Q (fuel+1) listed a w:=by
 subst hl;subst hl'
 refine wpAnyIn_ready hr (by simp) (AllReadyIn.cons hi (λK hK=>?_) (AllReadyIn.cons hj (λK hK=>?_) AllReadyIn.nil))
 ·have:=h K hK
  split
  ·rename_i hw;rw [if_pos hw] at this;exact this
  ·rename_i hw;rw [if_neg hw] at this;exact ⟨λ_ _=>trivial,this⟩
 ·have:=h' K hK
  split
  ·rename_i hw;rw [if_pos hw] at this;exact this
  ·rename_i hw;rw [if_neg hw] at this;exact ⟨λ_ _=>trivial,this⟩
theorem WA.nil (hr:Region.ready .any ops listed=[]) (h:Q .normal a w):WA P ops Q fuel listed a w:=wpAnyIn_done hr h fuel
abbrev WO (P:Program) (ops:Array Oper) (Q:Exit->Act->World->Prop) (o:Oper) (K:Act->World->Prop) (a:Act) (w:World):Prop:=
 if Region.wanted o (yielded ops a.tmps)=true then Oper.wpIn (FW none) 0 P o a w K Q else K (a.put o.dst undef) w
theorem zSK {o:Oper} {K:Act->World->Prop} (hg:o.guard=none) (hnd:∀ c,o.op≠.defer c) {v:Value} {w':World} (hr:(execOp a.eval o).run P w=.ok (.value v) w') (h:K (a.put o.dst v) w'):WO P ops Q o K a w:=by
 unfold WO
 rw [if_pos (by simp [Region.wanted,hg])]
 refine ⟨λ_ _=>trivial,?_⟩
 rw [Oper.semAt_eq _ _ _ hnd,hr]
 exact h
theorem zRD {o:Oper} {K:Act->World->Prop} (hg:o.guard=none) (hnd:∀ c,o.op≠.defer c) {w':World} (hr:(execOp a.eval o).run P w=.ok .skip w') (h:K (a.put o.dst undef) w'):WO P ops Q o K a w:=by
 unfold WO
 rw [if_pos (by simp [Region.wanted,hg])]
 refine ⟨λ_ _=>trivial,?_⟩
 rw [Oper.semAt_eq _ _ _ hnd,hr]
 exact h
theorem Sat.i (hE:Sat ds N E a) {K:Act->World->Prop} {τ:Type} {enc:τ->Value} {s:Sem Value} {k:τ->World->Prop} {op:Op} {ty:TypeId} {pos:String} {aft:Array Edge} {d:Nat}
  (he:execOp a.eval ⟨some d,op,ty,pos,aft,none⟩=pv s) (H:opE P enc s w k) (next:∀ x w' a',k x w'->Sat ds N ((d,enc x)::E) a'->K a' w')
  (hN:Nat.blt d N=true:=by rfl) (hnd:∀ c,op≠.defer c:=by intro c h;cases h):WO P ops Q ⟨some d,op,ty,pos,aft,none⟩ K a w:=by
 obtain ⟨x,w',hr,hk⟩:=H
 exact zSK rfl hnd (v:=enc x) (w':=w') (by rw [he];simp [hr]) (next x w' _ hk (hE.put hN _))
theorem Sat.wopu (hE:Sat ds N E a) {K:Act->World->Prop} {s:Sem Unit} {k:World->Prop} {op:Op} {ty:TypeId} {pos:String} {aft:Array Edge}
  (he:execOp a.eval ⟨none,op,ty,pos,aft,none⟩=pu s) (H:opU P s w k) (next:∀ w' a',k w'->Sat ds N E a'->K a' w')
  (hnd:∀ c,op≠.defer c:=by intro c h;cases h):WO P ops Q ⟨none,op,ty,pos,aft,none⟩ K a w:=by
 obtain ⟨w',hr,hk⟩:=H
 exact zRD rfl hnd (w':=w') (by rw [he];simp [hr]) (next w' _ hk hE)
theorem Sat.wcall (hE:Sat ds N E a) {K:Act->World->Prop} {f:FuncId} {args:Array Value} {R:Ending->World->Prop} {op:Op} {ty:TypeId} {pos:String} {aft:Array Edge} {d:Nat}
  (he:(execOp a.eval ⟨some d,op,ty,pos,aft,none⟩).run P w=.ok (.enter f args) w) (H:Cl P f args w R)
  (next:∀ e w',R e w'->∃ v,e=.returned v/\∀ a',Sat ds N ((d,v)::E) a'->K a' w')
  (hN:Nat.blt d N=true:=by rfl) (hnd:∀ c,op≠.defer c:=by intro c h;cases h):WO P ops Q ⟨some d,op,ty,pos,aft,none⟩ K a w:=by
 unfold WO
 rw [if_pos (by simp [Region.wanted])]
 refine ⟨λ_ _=>trivial,?_⟩
 rw [Oper.semAt_eq _ _ _ hnd,he,Oper.uponIn_enter]
 refine ⟨λh=>by simp [FW,Fence.wide] at h,?_⟩
 have hc':CallsIn (FW none) 0 P f args w R:=H
 refine CallsIn.mono hc' λe w'' hR=>?_
 obtain ⟨v,rfl,hv⟩:=next e w'' hR
 exact hv _ (hE.put hN v)
theorem Sat.apur (hE:Sat ds N E a) {i:Nat} {op:Op} {ty:TypeId} {pos:String} {aft:Array Edge} {d:Nat} {v:Value} (hq:zHV Q) (hs:Region.noSelect ops=true) (hi:ops[i]?=some ⟨some d,op,ty,pos,aft,none⟩)
  (hf:Region.free .any ops listed i=true) (hr:(Region.ready .any ops listed).contains i=true) (hl:listed.setIfInBounds i true=l2)
  (he:∀ w,(execOp a.eval ⟨some d,op,ty,pos,aft,none⟩).run P w=.ok (.value v) w) (next:∀ a',Sat ds N ((d,v)::E) a'->WA P ops Q fuel l2 a' w)
  (hN:Nat.blt d N=true:=by rfl) (hc:zI8 op=true:=by rfl):WA P ops Q (fuel+1) listed a w:=
 WA.take rfl hq hs hi hf hr hl ⟨.inl ⟨by simp [Region.wanted],he⟩,λw=>zNt hc _ w⟩ (next _ (hE.put hN v))
theorem Sat.aop (hE:Sat ds N E a) {i:Nat} {τ:Type} {enc:τ->Value} {s:Sem Value} {k:τ->Prop} {op:Op} {ty:TypeId} {pos:String} {aft:Array Edge} {d:Nat} (hq:zHV Q) (hs:Region.noSelect ops=true) (hi:ops[i]?=some ⟨some d,op,ty,pos,aft,none⟩)
  (hf:Region.free .any ops listed i=true) (hr:(Region.ready .any ops listed).contains i=true) (hl:listed.setIfInBounds i true=l2)
  (he:execOp a.eval ⟨some d,op,ty,pos,aft,none⟩=pv s) (H:opP P enc s k) (next:∀ x a',k x->Sat ds N ((d,enc x)::E) a'->WA P ops Q fuel l2 a' w)
  (hN:Nat.blt d N=true:=by rfl) (hc:zI8 op=true:=by rfl):WA P ops Q (fuel+1) listed a w:=by
 obtain ⟨x,hx,hk⟩:=H
 exact WA.take rfl hq hs hi hf hr hl ⟨.inl ⟨by simp [Region.wanted],λw=>by rw [he];simp [hx w]⟩,λw=>zNt hc _ w⟩ (next x _ hk (hE.put hN _))
theorem xu {s:Sem Next} {v:Value} (h:s=pn v) (w:World):s.run P w=.ok (.value v) w:=by rw [h];rfl
end
def zG6 (P:Program) (v:Value) (args:List Value) (w:World) (R:Ending->World->Prop):Prop:=
 (∃ (f:FuncId) (us lb:List Value),v=.func (.func f) us.toArray lb.toArray/\Ent P f/\Cl P f (us++args++lb).toArray w R)∨
 (∃ l,v=.func (.yield l) #[] #[]/\YieldAt (FW none) 0 P l args.toArray w R)
section
variable {ro:Option Nat} {P:Program} {ops:Array Oper} {Q:Exit->Act->World->Prop} {ds:List Deferred} {N:Nat} {E:Env} {a:Act} {w:World} {rest:List Oper}
theorem zPw {o:Oper} (hg:o.guard=none) (hnd:∀ c,o.op≠.defer c) {l:Nat} {f:FuncId} {tmps:Array Value} {asg body:Code} (hr:(execOp a.eval o).run P w=.ok (.round l f tmps asg body) w)
  {R:Ending->World->Prop} (hc:RoundIn (FW none) 0 P l f tmps asg body w R)
  (h:∀ e w'',R e w''->∃ v,e=.returned v/\WL ro P ops Q rest (a.put o.dst v) w''):WL ro P ops Q (o::rest) a w:=by
 unfold WL wpListIn
 rw [if_pos (by simp [Region.wanted,hg])]
 refine ⟨λ_ _=>trivial,?_⟩
 rw [Oper.semAt_eq _ _ _ hnd,hr,Oper.uponIn_round]
 refine ⟨λh=>by simp [FW,Fence.wide] at h,?_⟩
 have hc':RoundIn (FW ro) 0 P l f tmps asg body w R:=hc
 refine RoundIn.mono hc' λe w'' hR=>?_
 obtain ⟨v,rfl,hv⟩:=h e w'' hR
 exact hv
theorem zOo (hE:Sat ds N E a) {P:Program} {w:World} {x:Operand} {xs:List Operand} {vs ts} {l:Nat} {f:FuncId} {tmps:Array Value} {asg body:Code} {d:Option Tmp} {ty:TypeId} {pos:String} {aft:Array Edge}
  (hx:ev E x=some (.func (.yield l) #[] #[])) (h:evL E xs=some vs) (hy:(Instr.yield l vs.toArray).run P w=.ok (.round l f tmps asg body) w):
  (execOp a.eval ⟨d,.call {callee:=.value x,args:=xs.toArray,argTypes:=ts},ty,pos,aft,none⟩).run P w=.ok (.round l f tmps asg body) w:=by
 rw [← hE.evA h] at hy
 have e:=hE.ev hx
 simpa [execOp,resolve,Deferred.ofValue,e,invoke] using hy
theorem Sat.callV (hE:Sat ds N E a) {x:Operand} {xs:List Operand} {v:Value} {vs:List Value} {ts} {R:Ending->World->Prop} {ty:TypeId} {pos:String} {aft:Array Edge} {d:Nat}
  (hx:Go.VB.ev E x=some v) (hxs:Go.VB.evL E xs=some vs) (H:zG6 P v vs w R)
  (next:∀ e w',R e w'->∃ v,e=.returned v/\∀ a',Sat ds N ((d,v)::E) a'->WL ro P ops Q rest a' w')
  (hN:Nat.blt d N=true:=by rfl):WL ro P ops Q (⟨some d,.call {callee:=.value x,args:=xs.toArray,argTypes:=ts},ty,pos,aft,none⟩::rest) a w:=by
 rcases H with ⟨f,us,lb,rfl,he,hc⟩|⟨l,rfl,fn,tmps,asg,body,hy,hR⟩
 ·exact zOa rfl (by intro c h;cases h) (by have:=zMI hE (w:=w) (ts:=ts) (d:=some d) (ty:=ty) (pos:=pos) (aft:=aft) he hx hxs;simpa using this) hc λe w' hR=>by
   obtain ⟨v,rfl,hv⟩:=next e w' hR
   exact ⟨v,rfl,hv _ (hE.put hN v)⟩
 ·exact zPw rfl (by intro c h;cases h) (zOo hE hx hxs hy) hR λe w' hR=>by
   obtain ⟨v,rfl,hv⟩:=next e w' hR
   exact ⟨v,rfl,hv _ (hE.put hN v)⟩
end
theorem zQB (ro:Option Nat) (k:Nat):(FW ro).room k:=λd h=>by simp [FW,Fence.wide] at h
theorem zKL {ro:Option Nat} {n m:Nat} {P:Program} {c:Code} {Q:Exit->Act->World->Prop} {a:Act} {w:World} (h:c.wpIn (FW ro) n P Q a w):c.wpIn (FW ro) m P Q a w:=
 λb k cs h1 h2 _=>h b k cs h1 h2 (zQB ro _)
abbrev mark (D:Nat):Deferred:={target:=.collected D,args:=#[]}
def zKQ {α:Type} (P:Program) (v:Value) (encs:α->List Value) (Kp:World->World->Prop) (S Sp:List α->Prop) (Num:Nat) (w:World):Prop:=
 ∃ (gf:FuncId) (lb:List Value),v=.func (.func gf) #[] lb.toArray/\Ent P gf/\SeqStopsK (FW none) 0 P gf lb.toArray (λx=>(encs x).toArray) Kp S Sp Num w
structure zGR {α:Type} (P:Program) (v:Value) (encs:α->List Value) (Kp:World->World->Prop) (S Sp:List α->Prop) (Num:Nat) (I Ir:List α->World->Prop) (w:World):Prop where
 seq:zKQ P v encs Kp S Sp Num w
 kt:∀ A B C:World,Kp A B->Kp B C->Kp A C
 kb:∀ (W:World) (l:Nat) (o o':Obj),w.heap.size<=l->W.heap[l]?=some o->o.isCells=false->o.isWalk=false->Kp W (W.putObj l o')
 ka:∀ pre (W:World) (o:Obj),I pre W->Kp W (W.alloc o)
 own:OwnFrom w.heap.size I
 ownr:OwnFrom w.heap.size Ir
 lo:∀ pre W,I pre W->w.heap.size<=W.heap.size
 start:I [] w
def zNs (j:Option Code) (goes leave:World->Prop):Exit->Act->World->Prop
 |.normal,_,W=>goes W
 |.ret,_,W=>j=some .ret/\leave W
 |.exit id,_,W=>j=some (.exit id)/\leave W
 |_,_,_=>False
section
variable {P:Program} {Q:Exit->Act->World->Prop} {N:Nat} {E:Env} {a:Act} {w:World}
theorem zQz {τ:Type} (enc:τ->Value) (cells:τ->List Value) (j:Option Code) {g:Operand} {p s:Nat} {t:TypeId} {v:Value} {body:Code} {id:Nat} {ty ty':TypeId} {pos pos':String} {aft aft':Array Edge}
  {Kp:World->World->Prop} {S Sp:List τ->Prop} {Num:Nat} {I Ir:List τ->World->Prop}
  (hE:Sat [] N E a) (hg:ev E g=some v) (hR:zGR P v (λx:τ=>[enc x]) Kp S Sp Num I Ir w)
  (hnew:∀ x W (k:Option Addr->World->Prop),k (some ⟨W.heap.size,0,none⟩) (W.alloc (.cells (cells x).toArray t))->opE P zB (zf t true (.tuple #[])) W (λp W=>opU P (zK t (.pointer p) (enc x)) W (k p)))
  (hp:Nat.blt p N=true) (hs:Nat.blt s N=true) (hsp:Nat.beq s p=false)
  (hbody:∀ (l:Nat) (pre:List τ) (x:τ) (Bx:Nat) (W:World) (a:Act),w.heap.size<=Bx->W.heap[Bx]?=some (.cells (cells x).toArray t)->I pre W->pre.length<Num->
   Sat [] N ((s,.pointer (some ⟨Bx,0,none⟩))::(p,enc x)::E) a->
   WC (some l) P body (zNs j (λW'=>KeepsFrom w.heap.size W W'/\Kp W W'/\I (pre++[x]) W') (λW'=>KeepsFrom w.heap.size W W'/\Ir (pre++[x]) W')) a W)
  (hdone:∀ (D:Nat) (xs:List τ) (W:World) (a:Act),w.heap.size<=D->S xs->I xs W->W.heap[D]?=some (.deferred (some []))->Sat [mark D] N E a->Q .normal a W)
  (hstop:∀ (D:Nat) (c:Code) (pre:List τ) (W:World) (a:Act),j=some c->w.heap.size<=D->Sp pre->Ir pre W->W.heap[D]?=some (.deferred (some []))->Sat [mark D] N E a->WC none P c Q a W):
  WC none P (.rangeFunc g #[p] (.region id [⟨some s,.alloc t,ty,pos,aft,none⟩,⟨none,.store t (.tmp s) (.tmp p),ty',pos',aft',none⟩].toArray false) body) Q a w:=by
 obtain ⟨gf,lb,rfl,he,hseq⟩:=hR.seq
 have hd:a.defers=[]:=hE.defs
 have hmk:∀ D,Sat [mark D] N E {a with defers:={target:=.collected D,args:=#[]}::a.defers}:=λD=>⟨hE.size,hE.vals,by simp [hd]⟩
 refine zKL (n:=1) (wpIn_rangeFunc_ownH (F:=FW none) (n:=1) rfl (zU 1) (gf:=gf) (lb:=lb.toArray) (hE.ev hg) trivial he hseq (λh1 h2=>hR.kt _ _ _ h1 h2) hR.kb (Go.RowKit.Below.refl _ _) (λ_=>rfl)
  I (λc pre W=>j=some c/\Ir pre W) hR.own (λc s A B row hs hg' hr=>⟨hs.1,hR.ownr s A B row hs.2 hg' hr⟩) hR.start
  (λx a' W=>∃ Bx,w.heap.size<=Bx/\W.heap[Bx]?=some (.cells (cells x).toArray t)/\Sat [] N ((s,.pointer (some ⟨Bx,0,none⟩))::(p,enc x)::E) a')
  (λx a' _ A B row hs hg' hr=>?_) ?_ ?_ ?_ ?_)
 ·obtain ⟨Bx,h1,h2,h3⟩:=hs
  refine ⟨Bx,h1,(hg'.block Bx (Array.getElem?_eq_some_iff.1 h2).1 (λe=>?_)).trans h2,h3⟩
  obtain ⟨_,o,ho,hc⟩:=hr Bx e.symm
  rw [h2] at ho;cases ho;simp [Obj.isCells] at hc
 ·intro l pre x W K hI hK
  have hSat:Sat [] N ((p,enc x)::E) {tmps:=((#[p]:Array Tmp).zip #[enc x]).foldl (λt (p,v)=>t.setIfInBounds p v) a.tmps,defers:=[]}:=by
   have:=Sat.put (⟨hE.size,hE.vals,rfl⟩:Sat [] N E {a with defers:=[]}) hp (enc x)
   simpa [Act.put] using this
  refine zE (ro:=some l) ?_
  have hop:=hnew x W (λq W1=>∃ Bx,q=some ⟨Bx,0,none⟩/\Bx=W.heap.size/\W1=W.alloc (.cells (cells x).toArray t)) ⟨_,rfl,rfl,rfl⟩
  refine hSat.val (enc:=zB) xY (by intro c h;cases h) hs hop λq W1 a1 hk hS1=>?_
  have hq:ev ((s,zB q)::(p,enc x)::E) (.tmp s)=some (.pointer q):=by
   show (bif Nat.beq s s then _ else _)=_
   simp
  have hq2:ev ((s,zB q)::(p,enc x)::E) (.tmp p)=some (enc x):=by
   show (bif Nat.beq s p then _ else _)=_
   rw [hsp]
   show (bif Nat.beq p p then _ else _)=_
   simp
  refine hS1.unit (zT hS1 hq hq2) (by intro c h;cases h) hk λW2 a2 hk2 hS2=>?_
  obtain ⟨Bx,rfl,rfl,rfl⟩:=hk2
  refine zL (hK _ _ ((KeepsOthers.alloc _ _).from _) (hR.ka pre W _ hI) ?_ ⟨W.heap.size,hR.lo pre W hI,World.alloc_heap_new _ _,hS2⟩)
  exact hR.own.alloc _ hI
 ·rintro l pre x a' W hl _ hI ⟨Bx,h1,h2,h3⟩ hlen
  refine wpIn_mono (hbody l pre x Bx W a' h1 h2 hI hlen h3) λe a3 W3 h=>?_
  cases e with
  |normal=>exact h
  |ret=>exact ⟨h.2.1,h.1,h.2.2⟩
  |exit id=>exact ⟨h.2.1,h.1,h.2.2⟩
  |goto t=>exact h.elim
  |panic ch=>exact h.elim
  |outgrown=>exact h.elim
 ·exact λD xs W hD hS hI hK=>hdone D xs W _ hD hS hI hK (hmk D)
 ·exact λD c pre W hD hS hI hK=>zKL (hstop D c pre W _ hI.1 hD hS hI.2 hK (hmk D))
def resV (P:Program) (E:Env) (w:World):List ResultVar->List Value->Prop
 |[],[]=>True
 |.tmp t::rs,v::vs=>lk E t=some v/\resV P E w rs vs
 |.cell b t::rs,v::vs=>(∃ ad,lk E b=some (.pointer (some ad))/\(loadVar t ad).run P w=.ok v w)/\resV P E w rs vs
 |_,_=>False
def zLy:List Value->Value
 |[v]=>v
 |vs=>.tuple vs.toArray
def resF (a:Act):ResultVar->Sem Value
 |.tmp t=>Pure.pure (a.tmps.getD t undef)
 |.cell b t=>do loadVar t (← asAddr (a.tmps.getD b undef))
theorem zLG {ds:List Deferred} (hE:Sat ds N E a):∀ {rs:List ResultVar} {vs:List Value},resV P E w rs vs->(rs.mapM (resF a)).run P w=.ok vs w
 |[],[],_=>by simp
 |.tmp t::rs,v::vs,h=>by
  have h1:=hE.vals t v h.1
  simp only [List.mapM_cons,resF,h1,Sem.run_bind,Sem.run_pure,Result.andThen_ok,zLG hE h.2]
 |.cell b t::rs,v::vs,h=>by
  obtain ⟨⟨ad,h1,h2⟩,h3⟩:=h
  have h4:=hE.vals b _ h1
  simp [resF,h4,asAddr,h2,zLG hE h3]
theorem zHR {ds:List Deferred} (hE:Sat ds N E a) {fn:Func} {rs:List ResultVar} {vs:List Value} (hr:fn.results=rs.toArray) (h:resV P E w rs vs):(results fn a.tmps).run P w=.ok (zLy vs) w:=by
 have h1:=zLG hE h
 have h2:results fn a.tmps=(do let vs ← rs.toArray.mapM (resF a);pure (if h:vs.size=1 then vs[0] else .tuple vs)):=by
  unfold results;rw [hr];rfl
 rw [h2,List.mapM_toArray,map_eq_pure_bind]
 simp only [Sem.run_bind,h1,Result.andThen_ok,Sem.run_pure]
 congr 1
 match vs with
 |[]=>rfl
 |[v]=>rfl
 |v::v'::vs=>simp [zLy]
theorem zKI {f:FuncId} {fn:Func} {c:Code} {args:List Value} {R:Ending->World->Prop} (N:Nat) (E:Env)
  (hf:P.funcs[f]?=some fn) (hb:fn.body=some c) (hN:fn.ntmps=N) (hle:Nat.ble args.length N=true)
  (hz:zipE 0 args=E)
  (h:∀ a,Sat [] N E a->WC none P c (bodyPostM (FW none) 0 P fn R) a w):Cl P f args.toArray w R:=by
 subst hN
 exact callsIn_of_wp_marks hf hb trivial (h _ (Sat.enter args.toArray (by simpa using hle) (by intro t v hv;rw [← hz] at hv;simpa using (zKz args 0 t v hv).2))) rfl
theorem zLA {fn:Func} {R:Ending->World->Prop} (hE:Sat [] N E a) {rs:List ResultVar} {vs:List Value} (hr:fn.results=rs.toArray) (hv:resV P E w rs vs) (h:R (.returned (zLy vs)) w):bodyPost P fn R .ret a w:=
 ⟨hE.defs,_,zHR hE hr hv,h⟩
theorem zKA {fn:Func} {R:Ending->World->Prop} (hE:Sat [] N E a) {rs:List ResultVar} {vs:List Value} (hr:fn.results=rs.toArray) (hv:resV P E w rs vs) (h:R (.returned (zLy vs)) w):bodyPostM (FW none) 0 P fn R .ret a w:=by
 show LeavesInM _ _ _ _ _ _ a.defers _ _
 rw [hE.defs]
 exact ⟨_,zHR hE hr hv,h⟩
def zN9 (D:Nat) (w:World) (k:World->Prop):Prop:=w.heap[D]?=some (.deferred (some []))/\k (w.putObj D (.deferred none))
theorem zMR {fn:Func} {R:Ending->World->Prop} {D:Nat} (hE:Sat [mark D] N E a) {rs:List ResultVar} {vs:List Value} (hr:fn.results=rs.toArray) (hD:w.heap[D]?=some (.deferred (some []))) (hv:resV P E (w.putObj D (.deferred none)) rs vs) (h:R (.returned (zLy vs)) (w.putObj D (.deferred none))):bodyPostM (FW none) 0 P fn R .ret a w:=by
 show LeavesInM _ _ _ _ _ _ a.defers _ _
 rw [hE.defs]
 exact ⟨by simp,.inl ⟨_,_,rfl,run_takeDeferred hD,⟨_,zHR hE hr hv,h⟩⟩⟩
end
def opR {τ:Type} (P:Program) (enc:τ->Value) (t:TypeId) (p:Option Addr) (w:World) (k:τ->Prop):Prop:=∃ x ad,p=some ad/\(loadVar t ad).run P w=.ok (enc x) w/\k x
def zSg {τ:Type} (P:Program) (v:Value) (enc:τ->Value) (t:TypeId) (w:World) (body:τ->Option Addr->World->(World->Prop)->(World->Prop)->Prop) (rest stop:Nat->World->Prop):Prop:=
 ∃ (cells:τ->List Value) (Kp:World->World->Prop) (S Sp:List τ->Prop) (Num:Nat) (I Ir:List τ->World->Prop),zGR P v (λx:τ=>[enc x]) Kp S Sp Num I Ir w/\
  (∀ x W (k:Option Addr->World->Prop),k (some ⟨W.heap.size,0,none⟩) (W.alloc (.cells (cells x).toArray t))->opE P zB (zf t true (.tuple #[])) W (λp W=>opU P (zK t (.pointer p) (enc x)) W (k p)))/\
  (∀ pre x Bx W,w.heap.size<=Bx->W.heap[Bx]?=some (.cells (cells x).toArray t)->I pre W->pre.length<Num->
   body x (some ⟨Bx,0,none⟩) W (λW'=>KeepsFrom w.heap.size W W'/\Kp W W'/\I (pre++[x]) W') (λW'=>KeepsFrom w.heap.size W W'/\Ir (pre++[x]) W'))/\
  (∀ D xs W,w.heap.size<=D->S xs->I xs W->W.heap[D]?=some (.deferred (some []))->rest D W)/\
  (∀ D pre W,w.heap.size<=D->Sp pre->Ir pre W->W.heap[D]?=some (.deferred (some []))->stop D W)
section
variable {P:Program} {Q:Exit->Act->World->Prop} {N:Nat} {E:Env} {a:Act} {w:World}
end
def Zs (P:Program) (v:Value) (args:List Value) (w:World) (x:Value):Prop:=
 ∃ (f:FuncId) (us lb:List Value),v=.func (.func f) us.toArray lb.toArray/\Ent P f/\∀ w',Bel w w'->Cl P f (us++args++lb).toArray w' (λe w''=>e=.returned x/\Bel w' w'')
theorem Sat.qcallV {P:Program} {ops:Array Oper} {ds:List Deferred} {N:Nat} {E:Env} {a:Act} {w:World} {rest:List Oper} {K:Act->Prop} (hE:Sat ds N E a) {x:Operand} {xs:List Operand} {v u:Value} {vs:List Value} {ts} {ty:TypeId} {pos:String} {aft:Array Edge} {d:Nat}
  (hx:Go.VB.ev E x=some v) (hxs:Go.VB.evL E xs=some vs) (H:Zs P v vs w u)
  (next:∀ a',Sat ds N ((d,u)::E) a'->WQ P ops w K rest a') (hN:Nat.blt d N=true:=by rfl):WQ P ops w K (⟨some d,.call {callee:=.value x,args:=xs.toArray,argTypes:=ts},ty,pos,aft,none⟩::rest) a:=by
 obtain ⟨f,us,lb,rfl,he,hc⟩:=H
 refine zQe rfl (λw'=>?_) hc (next _ (hE.put hN u))
 have:=zMI hE (w:=w') (ts:=ts) (d:=some d) (ty:=ty) (pos:=pos) (aft:=aft) he hx hxs
 simpa using this
end Go.VB
set_option linter.unusedVariables false
set_option linter.unusedSimpArgs false
namespace Go.Proofs.YtealcoghiaeiiaaGreat.VG
open Go.VB Go.Proofs
structure zJ where
 Key:ByteArray
 Val:ByteArray
 Gone:Bool
abbrev zJ.cells (x:zJ):_root_.List Value:=[(.string x.Key),(.string x.Val),(.bool x.Gone)]
abbrev zJ.v (x:zJ):Value:=.agg (zJ.cells x).toArray
structure za where
 Kind:Int
 Tx:Int
 Key:ByteArray
 To:ByteArray
 Val:ByteArray
abbrev za.cells (x:za):_root_.List Value:=[(.int .u8 x.Kind),(.int .i64 x.Tx),(.string x.Key),(.string x.To),(.string x.Val)]
abbrev za.v (x:za):Value:=.agg (za.cells x).toArray
structure zW where
 Why:Int
 Tx:Int
 Val:ByteArray
 Is:Bool
 Pairs:Sl
 Done:Sl
 Time:Int
abbrev zW.cells (x:zW):_root_.List Value:=[(.int .i64 x.Why),(.int .i64 x.Tx),(.string x.Val),(.bool x.Is),(Sl.v x.Pairs),(Sl.v x.Done),(.int .u64 x.Time)]
abbrev zW.v (x:zW):Value:=.agg (zW.cells x).toArray
structure zm where
 tx:Int
 steps:Sl
 seen:Sl
abbrev zm.cells (x:zm):_root_.List Value:=[(.int .i64 x.tx),(Sl.v x.steps),(Sl.v x.seen)]
abbrev zm.v (x:zm):Value:=.agg (zm.cells x).toArray
structure zM where
 Key:ByteArray
 Val:ByteArray
abbrev zM.cells (x:zM):_root_.List Value:=[(.string x.Key),(.string x.Val)]
abbrev zM.v (x:zM):Value:=.agg (zM.cells x).toArray
structure zQ where
 List:Sl
 Low:Int
abbrev zQ.cells (x:zQ):_root_.List Value:=[(Sl.v x.List),(.int .u64 x.Low)]
abbrev zQ.v (x:zQ):Value:=.agg (zQ.cells x).toArray
structure zG where
 Key:ByteArray
 At:Int
 Val:ByteArray
 Gone:Bool
abbrev zG.cells (x:zG):_root_.List Value:=[(.string x.Key),(.int .u64 x.At),(.string x.Val),(.bool x.Gone)]
abbrev zG.v (x:zG):Value:=.agg (zG.cells x).toArray
structure zCn where
 versions:zQ
 now:Int
 given:Int
 open_:Option Nat
abbrev zCn.cells (x:zCn):_root_.List Value:=[(Sl.v x.versions.List),(.int .u64 x.versions.Low),(.int .u64 x.now),(.int .i64 x.given),(.map x.open_)]
abbrev zCn.v (x:zCn):Value:=.agg (zCn.cells x).toArray
structure zG9 where
 began:Int
 reads:Sl
 writes:Option Nat
abbrev zG9.cells (x:zG9):_root_.List Value:=[(.int .u64 x.began),(Sl.v x.reads),(.map x.writes)]
abbrev zG9.v (x:zG9):Value:=.agg (zG9.cells x).toArray
structure yD where
 from_:ByteArray
 to_:ByteArray
 only:Bool
abbrev yD.cells (x:yD):_root_.List Value:=[(.string x.from_),(.string x.to_),(.bool x.only)]
abbrev yD.v (x:yD):Value:=.agg (yD.cells x).toArray
structure zGJ where
abbrev zGJ.cells (x:zGJ):_root_.List Value:=[]
abbrev zGJ.v (x:zGJ):Value:=.agg (zGJ.cells x).toArray
structure zBe where
 x:Int
 y:Int
 signed:Bool
 code:Int
abbrev zBe.cells (x:zBe):_root_.List Value:=[(.int .i64 x.x),(.int .i64 x.y),(.bool x.signed),(.int .u8 x.code)]
abbrev zBe.v (x:zBe):Value:=.agg (zBe.cells x).toArray
structure Zg where
 msg:ByteArray
 addr:Int
abbrev Zg.cells (x:Zg):_root_.List Value:=[(.string x.msg),(.int .u64 x.addr)]
abbrev Zg.v (x:Zg):Value:=.agg (Zg.cells x).toArray
structure zAA where
 typ:Option Addr
abbrev zAA.cells (x:zAA):_root_.List Value:=[(.pointer x.typ)]
abbrev zAA.v (x:zAA):Value:=.agg (zAA.cells x).toArray
abbrev zHX:FuncId:=4
abbrev zIx:FuncId:=10
abbrev zLH:FuncId:=11
abbrev zGW:FuncId:=12
abbrev zGA:FuncId:=13
abbrev zGz:FuncId:=14
abbrev zF9:FuncId:=15
abbrev zJr:FuncId:=16
abbrev zGi:FuncId:=17
abbrev zJM:FuncId:=18
abbrev zKR:FuncId:=19
abbrev zJG:FuncId:=20
abbrev zIN:FuncId:=21
abbrev zGs:FuncId:=22
abbrev zHF:FuncId:=28
abbrev zGS:FuncId:=29
abbrev zJf:FuncId:=31
abbrev zDq:FuncId:=33
abbrev zKJ:FuncId:=34
abbrev zCg:FuncId:=35
abbrev zKG:FuncId:=36
abbrev zGo:FuncId:=37
abbrev zHU:FuncId:=38
abbrev zKS:FuncId:=39
abbrev zND:FuncId:=40
abbrev zJH:FuncId:=41
abbrev zMn:FuncId:=42
abbrev zEN:FuncId:=43
abbrev zF7:FuncId:=44
abbrev zKq:FuncId:=45
abbrev zE0:FuncId:=46
abbrev zDs:FuncId:=47
abbrev zIL:FuncId:=48
abbrev zJq:FuncId:=49
abbrev zJJ:FuncId:=50
abbrev zM1:FuncId:=51
abbrev zD3:FuncId:=52
abbrev zEr:FuncId:=55
abbrev zLr:FuncId:=56
abbrev zAn:FuncId:=57
abbrev zEI:FuncId:=58
abbrev zDf:FuncId:=59
abbrev zDN:FuncId:=60
abbrev zCD:FuncId:=62
abbrev zFT:FuncId:=63
abbrev zLi:FuncId:=64
abbrev zLc:FuncId:=65
abbrev zJU:FuncId:=66
abbrev zDD:FuncId:=67
abbrev zDZ:FuncId:=68
abbrev zLg:FuncId:=69
abbrev zMt:FuncId:=70
abbrev zMb:FuncId:=71
abbrev zFl:FuncId:=72
abbrev zM5:FuncId:=73
abbrev zGq:FuncId:=80
abbrev zET:FuncId:=81
abbrev Zf:FuncId:=82
abbrev zDL:FuncId:=83
abbrev zGh:FuncId:=84
abbrev zEv:FuncId:=85
abbrev zLl:FuncId:=86
abbrev zIQ:FuncId:=87
abbrev zIc:FuncId:=88
abbrev zBF:FuncId:=89
abbrev zD4:FuncId:=90
abbrev zFM:FuncId:=91
abbrev zD5:FuncId:=92
abbrev zEm:FuncId:=93
abbrev zEF:FuncId:=94
abbrev zCq:FuncId:=95
abbrev zDj:FuncId:=96
abbrev zE6:FuncId:=97
abbrev zLk:FuncId:=99
abbrev zFV:FuncId:=103
abbrev zDB:FuncId:=105
abbrev zEo:FuncId:=106
abbrev zDG:FuncId:=107
abbrev zDi:FuncId:=108
abbrev zDT:FuncId:=109
abbrev zCM:FuncId:=110
abbrev zC7:FuncId:=111
abbrev zD9:FuncId:=112
abbrev zFS:FuncId:=114
abbrev zHW:FuncId:=115
abbrev zHf:FuncId:=116
abbrev zDo:FuncId:=117
abbrev zF1:FuncId:=118
abbrev zDg:FuncId:=128
abbrev zFB:FuncId:=129
abbrev zDu:FuncId:=130
abbrev zEH:FuncId:=131
abbrev zD2:FuncId:=132
abbrev zCj:FuncId:=133
abbrev zDV:FuncId:=134
abbrev zEt:FuncId:=135
abbrev zEp:FuncId:=136
abbrev zC9:FuncId:=137
abbrev zE7:FuncId:=138
abbrev zF3:FuncId:=139
abbrev zE5:FuncId:=144
abbrev zDU:FuncId:=145
abbrev zFp:FuncId:=146
abbrev zFA:FuncId:=147
abbrev zFm:FuncId:=149
theorem zTU:Ent zA 10:=Ent.of Tryz.func10 (by rfl) (by rfl)
theorem zRu:Ent zA 11:=Ent.of Tryz.func11 (by rfl) (by rfl)
theorem zOe:Ent zA 12:=Ent.of Tryz.func12 (by rfl) (by rfl)
theorem zS6:Ent zA 13:=Ent.of Tryz.func13 (by rfl) (by rfl)
theorem zP5:Ent zA 14:=Ent.of Tryz.func14 (by rfl) (by rfl)
theorem zQV:Ent zA 15:=Ent.of Tryz.func15 (by rfl) (by rfl)
theorem zR9:Ent zA 16:=Ent.of Tryz.func16 (by rfl) (by rfl)
theorem zR2:Ent zA 17:=Ent.of Tryz.func17 (by rfl) (by rfl)
theorem zRz:Ent zA 18:=Ent.of Tryz.func18 (by rfl) (by rfl)
theorem zTJ:Ent zA 19:=Ent.of Tryz.func19 (by rfl) (by rfl)
theorem zTj:Ent zA 20:=Ent.of Tryz.func20 (by rfl) (by rfl)
theorem zTX:Ent zA 21:=Ent.of Tryz.func21 (by rfl) (by rfl)
theorem zQX:Ent zA 22:=Ent.of Tryz.func22 (by rfl) (by rfl)
theorem zTF:Ent zA 28:=Ent.of Tryz.func28 (by rfl) (by rfl)
theorem zTi:Ent zA 29:=Ent.of Tryz.func29 (by rfl) (by rfl)
theorem zTB:Ent zA 31:=Ent.of Tryz.func31 (by rfl) (by rfl)
theorem zTT:Ent zA 33:=Ent.of Tryz.func33 (by rfl) (by rfl)
theorem zS4:Ent zA 34:=Ent.of Tryz.func34 (by rfl) (by rfl)
theorem zRr:Ent zA 35:=Ent.of Tryz.func35 (by rfl) (by rfl)
theorem zM9:Ent zA 36:=Ent.of Tryz.func36 (by rfl) (by rfl)
theorem zNV:Ent zA 37:=Ent.of Tryz.func37 (by rfl) (by rfl)
theorem zTl:Ent zA 38:=Ent.of Tryz.func38 (by rfl) (by rfl)
theorem zSm:Ent zA 39:=Ent.of Tryz.func39 (by rfl) (by rfl)
theorem zRv:Ent zA 40:=Ent.of Tryz.func40 (by rfl) (by rfl)
theorem zSz:Ent zA 41:=Ent.of Tryz.func41 (by rfl) (by rfl)
theorem zTC:Ent zA 42:=Ent.of Tryz.func42 (by rfl) (by rfl)
theorem zSq:Ent zA 43:=Ent.of Tryz.func43 (by rfl) (by rfl)
theorem zTk:Ent zA 44:=Ent.of Tryz.func44 (by rfl) (by rfl)
theorem zR1:Ent zA 45:=Ent.of Tryz.func45 (by rfl) (by rfl)
theorem zTb:Ent zA 46:=Ent.of Tryz.func46 (by rfl) (by rfl)
theorem zSu:Ent zA 47:=Ent.of Tryz.func47 (by rfl) (by rfl)
theorem zQx:Ent zA 48:=Ent.of Tryz.func48 (by rfl) (by rfl)
theorem zTV:Ent zA 49:=Ent.of Tryz.func49 (by rfl) (by rfl)
theorem zTf:Ent zA 50:=Ent.of Tryz.func50 (by rfl) (by rfl)
theorem zTD:Ent zA 51:=Ent.of Tryz.func51 (by rfl) (by rfl)
theorem zR6:Ent zA 52:=Ent.of Tryz.func52 (by rfl) (by rfl)
theorem zRx:Ent zA 55:=Ent.of Tryz.func55 (by rfl) (by rfl)
theorem zR7:Ent zA 56:=Ent.of Tryz.func56 (by rfl) (by rfl)
theorem zR3:Ent zA 57:=Ent.of Tryz.func57 (by rfl) (by rfl)
theorem zS1:Ent zA 58:=Ent.of Tryz.func58 (by rfl) (by rfl)
theorem zTQ:Ent zA 59:=Ent.of Tryz.func59 (by rfl) (by rfl)
theorem zTh:Ent zA 60:=Ent.of Tryz.func60 (by rfl) (by rfl)
theorem zTG:Ent zA 61:=Ent.of Tryz.func61 (by rfl) (by rfl)
theorem zTe:Ent zA 62:=Ent.of Tryz.func62 (by rfl) (by rfl)
theorem zTR:Ent zA 63:=Ent.of Tryz.func63 (by rfl) (by rfl)
theorem zQw:Ent zA 64:=Ent.of Tryz.func64 (by rfl) (by rfl)
theorem zSs:Ent zA 65:=Ent.of Tryz.func65 (by rfl) (by rfl)
theorem zTO:Ent zA 66:=Ent.of Tryz.func66 (by rfl) (by rfl)
theorem zSp:Ent zA 67:=Ent.of Tryz.func67 (by rfl) (by rfl)
theorem zR5:Ent zA 68:=Ent.of Tryz.func68 (by rfl) (by rfl)
theorem zRw:Ent zA 69:=Ent.of Tryz.func69 (by rfl) (by rfl)
theorem zRp:Ent zA 70:=Ent.of Tryz.func70 (by rfl) (by rfl)
theorem zPq:Ent zA 71:=Ent.of Tryz.func71 (by rfl) (by rfl)
theorem zQr:Ent zA 72:=Ent.of Tryz.func72 (by rfl) (by rfl)
theorem zO3:Ent zA 73:=Ent.of Tryz.func73 (by rfl) (by rfl)
theorem zRt:Ent zA 74:=Ent.of Tryz.func74 (by rfl) (by rfl)
theorem zTa:Ent zA 78:=Ent.of Tryz.func78 (by rfl) (by rfl)
theorem zTI:Ent zA 79:=Ent.of Tryz.func79 (by rfl) (by rfl)
theorem zSr:Ent zA 80:=Ent.of Tryz.func80 (by rfl) (by rfl)
theorem zS9:Ent zA 81:=Ent.of Tryz.func81 (by rfl) (by rfl)
theorem zSv:Ent zA 82:=Ent.of Tryz.func82 (by rfl) (by rfl)
theorem zTN:Ent zA 83:=Ent.of Tryz.func83 (by rfl) (by rfl)
theorem zTS:Ent zA 84:=Ent.of Tryz.func84 (by rfl) (by rfl)
theorem zQu:Ent zA 85:=Ent.of Tryz.func85 (by rfl) (by rfl)
theorem zS5:Ent zA 86:=Ent.of Tryz.func86 (by rfl) (by rfl)
theorem zS3:Ent zA 87:=Ent.of Tryz.func87 (by rfl) (by rfl)
theorem zTm:Ent zA 88:=Ent.of Tryz.func88 (by rfl) (by rfl)
theorem zTZ:Ent zA 89:=Ent.of Tryz.func89 (by rfl) (by rfl)
theorem zSn:Ent zA 90:=Ent.of Tryz.func90 (by rfl) (by rfl)
theorem zTc:Ent zA 91:=Ent.of Tryz.func91 (by rfl) (by rfl)
theorem zS8:Ent zA 92:=Ent.of Tryz.func92 (by rfl) (by rfl)
theorem zTM:Ent zA 93:=Ent.of Tryz.func93 (by rfl) (by rfl)
theorem zTH:Ent zA 94:=Ent.of Tryz.func94 (by rfl) (by rfl)
theorem zTg:Ent zA 95:=Ent.of Tryz.func95 (by rfl) (by rfl)
theorem zTY:Ent zA 96:=Ent.of Tryz.func96 (by rfl) (by rfl)
theorem zTP:Ent zA 97:=Ent.of Tryz.func97 (by rfl) (by rfl)
theorem zTK:Ent zA 99:=Ent.of Tryz.func99 (by rfl) (by rfl)
theorem zSL:Ent zA 102:=Ent.of Tryz.func102 (by rfl) (by rfl)
theorem zOW:Ent zA 103:=Ent.of Tryz.func103 (by rfl) (by rfl)
theorem zSR:Ent zA 104:=Ent.of Tryz.func104 (by rfl) (by rfl)
theorem zSi:Ent zA 105:=Ent.of Tryz.func105 (by rfl) (by rfl)
theorem zSQ:Ent zA 106:=Ent.of Tryz.func106 (by rfl) (by rfl)
theorem zSO:Ent zA 107:=Ent.of Tryz.func107 (by rfl) (by rfl)
theorem zSV:Ent zA 108:=Ent.of Tryz.func108 (by rfl) (by rfl)
theorem zSP:Ent zA 109:=Ent.of Tryz.func109 (by rfl) (by rfl)
theorem zSa:Ent zA 110:=Ent.of Tryz.func110 (by rfl) (by rfl)
theorem zSI:Ent zA 111:=Ent.of Tryz.func111 (by rfl) (by rfl)
theorem zSh:Ent zA 112:=Ent.of Tryz.func112 (by rfl) (by rfl)
theorem zPp:Ent zA 113:=Ent.of Tryz.func113 (by rfl) (by rfl)
theorem zQZ:Ent zA 114:=Ent.of Tryz.func114 (by rfl) (by rfl)
theorem zOD:Ent zA 115:=Ent.of Tryz.func115 (by rfl) (by rfl)
theorem zOI:Ent zA 116:=Ent.of Tryz.func116 (by rfl) (by rfl)
theorem zOT:Ent zA 117:=Ent.of Tryz.func117 (by rfl) (by rfl)
theorem zPz:Ent zA 118:=Ent.of Tryz.func118 (by rfl) (by rfl)
theorem zSj:Ent zA 128:=Ent.of Tryz.func128 (by rfl) (by rfl)
theorem zSU:Ent zA 129:=Ent.of Tryz.func129 (by rfl) (by rfl)
theorem zSe:Ent zA 130:=Ent.of Tryz.func130 (by rfl) (by rfl)
theorem zSZ:Ent zA 131:=Ent.of Tryz.func131 (by rfl) (by rfl)
theorem zSk:Ent zA 132:=Ent.of Tryz.func132 (by rfl) (by rfl)
theorem zSG:Ent zA 133:=Ent.of Tryz.func133 (by rfl) (by rfl)
theorem zSY:Ent zA 134:=Ent.of Tryz.func134 (by rfl) (by rfl)
theorem zSC:Ent zA 135:=Ent.of Tryz.func135 (by rfl) (by rfl)
theorem zQK:Ent zA 136:=Ent.of Tryz.func136 (by rfl) (by rfl)
theorem zN6:Ent zA 137:=Ent.of Tryz.func137 (by rfl) (by rfl)
theorem zP9:Ent zA 138:=Ent.of Tryz.func138 (by rfl) (by rfl)
theorem zOM:Ent zA 139:=Ent.of Tryz.func139 (by rfl) (by rfl)
theorem zQI:Ent zA 144:=Ent.of Tryz.func144 (by rfl) (by rfl)
theorem zNx:Ent zA 145:=Ent.of Tryz.func145 (by rfl) (by rfl)
theorem zQ7:Ent zA 146:=Ent.of Tryz.func146 (by rfl) (by rfl)
theorem zOF:Ent zA 147:=Ent.of Tryz.func147 (by rfl) (by rfl)
theorem zNu:Ent zA 149:=Ent.of Tryz.func149 (by rfl) (by rfl)
end Go.Proofs.YtealcoghiaeiiaaGreat.VG
set_option linter.unusedVariables false
set_option linter.unusedSimpArgs false
namespace Go.VB
section
variable {P:Program} {ops:Array Oper} {Q:Exit->Act->World->Prop} {fin:Option Nat} {C:World->Prop} {fuel:Nat} {listed l2 l3:Array Bool} {a:Act} {w:World}
def WK (fin:Option Nat) (C:World->Prop) (P:Program) (ops:Array Oper) (Q:Exit->Act->World->Prop):Nat->Array Bool->Act->World->Prop
 |0,listed,a,w=>Region.ready .any ops listed=[]/\Q .normal a w
 |fuel+1,listed,a,w=>(Region.ready .any ops listed=[]->Q .normal a w)/\∀ i∈Region.ready .any ops listed,
   wpOpIn (FW none) 0 P ops Q i (λa' w'=>(fin=some i∨C w')/\WK fin C P ops Q fuel (listed.setIfInBounds i true) a' w') a w
def zMl (ops:Array Oper) (i:Nat):List Nat:=(List.range ops.size).foldl (λU u=>if u==i||(match ops[u]? with
 |some o=>o.after.toList.any λe=>Region.binds .any e&&U.contains e.on
 |none=>false) then u::U else U) []
def zK8 (fin:Option Nat) (ops:Array Oper) (listed:Array Bool) (i:Nat):Bool:=match fin with
 |none=>true
 |some f=>(zMl ops i).contains f&&(zMl ops i).all λu=>(listed.getD u true==false)&&(u==i||(match ops[u]? with
  |some o=>o.after.toList.any λe=>Region.binds .any e&&(zMl ops i).contains e.on
  |none=>false))
def zQQ (fin:Option Nat) (ops:Array Oper) (listed:Array Bool) (i:Nat):Prop:=∀ f,fin=some f->∃ U:List Nat,f∈U/\(∀ u∈U,listed.getD u true=false)/\∀ u∈U,u=i∨∃ o,ops[u]?=some o/\∃ e∈o.after,Region.binds .any e=true/\e.on∈U
theorem zN7 {fin:Option Nat} {ops:Array Oper} {listed:Array Bool} {i:Nat} (h:zK8 fin ops listed i=true):zQQ fin ops listed i:=by
 intro f hf
 subst hf
 unfold zK8 at h
 simp only [Bool.and_eq_true,List.all_eq_true,List.contains_iff_mem,Bool.or_eq_true,beq_iff_eq] at h
 refine ⟨zMl ops i,h.1,λu hu=>(h.2 u hu).1,λu hu=>?_⟩
 rcases (h.2 u hu).2 with h1|h1
 ·exact .inl h1
 ·right
  cases ho:ops[u]? with
  |none=>rw [ho] at h1;cases h1
  |some o=>
   rw [ho] at h1
   simp only [List.any_eq_true,Bool.and_eq_true,List.contains_iff_mem] at h1
   obtain ⟨e,he,h2,h3⟩:=h1
   exact ⟨o,rfl,e,by simpa using he,h2,h3⟩
theorem WK.any:∀ (fuel:Nat) (listed:Array Bool) (a:Act) (w:World),WK fin C P ops Q fuel listed a w->WA P ops Q fuel listed a w
 |0,_,_,_,h=>h
 |fuel+1,_,_,_,h=>⟨h.1,λi hi=>wpOpIn_mono (λa' w' h'=>WK.any fuel _ a' w' h'.2) (h.2 i hi)⟩
theorem zQ5 {i:Nat} {o:Oper} {K:Act->World->Prop} (hi:ops[i]?=some o) (h:wpOpIn (FW none) 0 P ops Q i K a w):
  wpOpIn (FW none) 0 P ops Q i (λa' w'=>(∃ u ds,a'={a.put o.dst u with defers:=ds})/\K a' w') a w:=by
 have sh:∀ u,∃ u' ds,a.put o.dst u={a.put o.dst u' with defers:=ds}:=λu=>⟨u,(a.put o.dst u).defers,rfl⟩
 unfold wpOpIn at*
 simp only [hi] at*
 split
 ·rename_i hw
  rw [if_pos hw] at h
  unfold Oper.wpIn at*
  refine ⟨h.1,?_⟩
  have h2:=h.2
  generalize (o.semAt (FW none).round a.eval).run P w=r at h2 ⊢
  cases r with
  |halt x w'=>cases x<;>exact h2
  |ok x w'=>
   cases x with
   |value u=>exact ⟨sh u,h2⟩
   |skip=>exact ⟨sh _,h2⟩
   |defer d=>exact ⟨⟨undef,d::a.defers,by cases hd:o.dst<;>rfl⟩,h2⟩
   |enter f args=>exact ⟨h2.1,CallsIn.mono h2.2 λe w'' he=>by cases e<;>first|exact ⟨sh _,he⟩|exact he⟩
   |row r args=>exact ⟨h2.1,RowsIn.mono h2.2 λu w'' he=>⟨sh u,he⟩⟩
   |round l f ts as_ bd=>exact ⟨h2.1,RoundIn.mono h2.2 λe w'' he=>by cases e<;>first|exact ⟨sh _,he⟩|exact he⟩
   |_=>exact h2
 ·rename_i hw
  rw [if_neg hw] at h
  exact ⟨h.1,sh _,h.2⟩
structure zKN (C:World->Prop) (P:Program) (o:Oper) (v:Value) (a:Act):Prop where
 run:∀ w,C w->(execOp a.eval o).run P w=.ok (.value v) w
theorem zKN.same {o:Oper} {v:Value} {a a':Act} (h:zKN C P o v a) (he:execOp a'.eval o=execOp a.eval o):zKN C P o v a':=⟨λw hw=>by rw [he];exact h.run w hw⟩
theorem zKN.op {i:Nat} {o:Oper} {v:Value} (hi:ops[i]?=some o) (hg:o.guard=none) (h:zKN C P o v a) (hw:C w) {K:Act->World->Prop} (hK:K (a.put o.dst v) w):wpOpIn (FW none) 0 P ops Q i K a w:=by
 unfold wpOpIn
 simp only [hi]
 rw [if_pos (by simp [Region.wanted,hg])]
 unfold Oper.wpIn
 refine ⟨λ_ _=>trivial,?_⟩
 rw [show (FW none).round=none from rfl,Oper.semAt_none,h.run w hw]
 exact hK
theorem zTd {oi oj:Oper} {v:Value} {j:Nat} (hj:ops[j]?=some oj) (hap:oi.apart ops oj=true) (hsi:∀ cs b,oi.op≠.select cs b) (hsj:∀ cs b,oj.op≠.select cs b)
  (hQ:∀ c a w,Q (.panic c) (a.put oi.dst v) w->Q (.panic c) a w) {K:Act->World->Prop} (hL:zKN C P oi v a) (h:wpOpIn (FW none) 0 P ops Q j K (a.put oi.dst v) w):
  wpOpIn (FW none) 0 P ops Q j (λa' w'=>zKN C P oi v a'/\K (a'.put oi.dst v) w') a w:=by
 obtain ⟨h1,h2,h3⟩:=Oper.apart_spec hap
 have hfake:Oper.apart ops {oi with op:=.move (.const v),guard:=none} oj=true:=by
  unfold Oper.apart
  simp only [Bool.and_eq_true]
  refine ⟨?_,?_⟩
  ·cases hd:oi.dst with
   |none=>rfl
   |some d=>simpa [hd] using ⟨h1 d hd,h2 d hd⟩
  ·cases hd:oj.dst with
   |none=>rfl
   |some d=>simp [Oper.looksAt,Op.operands]
 have h4:=wpOpIn_put (oi:={oi with op:=.move (.const v),guard:=none}) (F:=FW none) rfl hj hfake (by intro cs b h;cases h) hsj hQ (a:=a) (w:=w) (K:=K)
  ⟨.inl ⟨by simp [Region.wanted],λw=>rfl⟩,λw=>rfl⟩ h
 refine wpOpIn_mono (λa' w' hh=>?_) (zQ5 hj h4)
 obtain ⟨⟨u,ds,rfl⟩,_,hk⟩:=hh
 exact ⟨hL.same (execOp_put oi hsi a oj.dst u h3),hk⟩
theorem WK.first {i:Nat} {oi:Oper} {v:Value} (hi:ops[i]?=some oi) (hg:oi.guard=none) (hs:∀ (j:Nat) (o:Oper) cs b,ops[j]?=some o->o.op≠.select cs b)
  (hQ:∀ c a w,Q (.panic c) (a.put oi.dst v) w->Q (.panic c) a w):∀ (fuel:Nat) (listed:Array Bool) (a:Act) (w:World),
  (∀ j oj,ops[j]?=some oj->j≠i->listed.getD j true=false->(∀ e∈oj.after,Region.binds .any e=true->e.on≠i)->oi.apart ops oj=true)->
  zQQ fin ops listed i->i∈Region.ready .any ops listed->zKN C P oi v a->C w->WK fin C P ops Q fuel (listed.setIfInBounds i true) (a.put oi.dst v) w->WK fin C P ops Q (fuel+1) listed a w:=by
 intro fuel
 induction fuel with
 |zero=>
  intro listed a w _ hF hr hL hw H
  refine ⟨λh=>(by rw [h] at hr;cases hr),λj hj=>?_⟩
  by_cases hji:j=i
  ·subst hji;exact hL.op hi hg hw ⟨.inr hw,H⟩
  ·have h1:=ready_mono hj hji
   rw [H.1] at h1;cases h1
 |succ fuel ih=>
  intro listed a w hfree hF hr hL hw H
  refine ⟨λh=>(by rw [h] at hr;cases hr),λj hj=>?_⟩
  by_cases hji:j=i
  ·subst hji;exact hL.op hi hg hw ⟨.inr hw,H⟩
  obtain ⟨hjun,oj,hoj,hall⟩:=mem_ready.1 hj
  have hi0:=(mem_ready.1 hr).1
  have hnot:∀ e∈oj.after,Region.binds .any e=true->e.on≠i:=λe he hb heq=>by
   have h1:=hall e he hb
   rw [heq] at h1
   rcases Nat.lt_or_ge i listed.size with h'|h'
   ·simp [h'] at hi0 h1;rw [hi0] at h1;cases h1
   ·simp [Array.getElem?_eq_none h'] at h1
  have h2:=zTd hoj (hfree j oj hoj hji hjun hnot) (λcs b=>hs i oi cs b hi) (λcs b=>hs j oj cs b hoj) hQ hL (H.2 j (ready_mono hj hji))
  refine wpOpIn_mono (λa' w' h3=>?_) h2
  obtain ⟨hL',hC',hK'⟩:=h3
  have hri:i∈Region.ready .any ops (listed.setIfInBounds j true):=ready_mono hr (Ne.symm hji)
  rw [Array.setIfInBounds_comm _ _ (Ne.symm hji)] at hK'
  have hjU:∀ U:List Nat,(∀ u∈U,listed.getD u true=false)->(∀ u∈U,u=i∨∃ o,ops[u]?=some o/\∃ e∈o.after,Region.binds .any e=true/\e.on∈U)->j∉U:=λU h1 h2 hj=>by
   rcases h2 j hj with h3|⟨o,h3,e,h4,h5,h6⟩
   ·exact hji h3
   ·rw [hoj] at h3;cases h3
    have h7:=hall e h4 h5
    have h8:=h1 _ h6
    rw [Array.getD_eq_getD_getElem?] at h8
    rcases Nat.lt_or_ge e.on listed.size with h'|h'
    ·simp [h'] at h7 h8;rw [h8] at h7;cases h7
    ·simp [Array.getElem?_eq_none h'] at h8
  replace hC':C w':=by
   rcases hC' with h|h
   ·obtain ⟨U,h1,h2,h3⟩:=hF j h
    exact absurd h1 (hjU U h2 h3)
   ·exact h
  have hF':zQQ fin ops (listed.setIfInBounds j true) i:=λf hf=>by
   obtain ⟨U,h1,h2,h3⟩:=hF f hf
   refine ⟨U,h1,λu hu=>?_,h3⟩
   have h4:j≠u:=λe=>hjU U h2 h3 (e ▸ hu)
   rw [getD_set_ne true h4];exact h2 u hu
  refine ⟨.inr hC',ih _ a' w' (λk ok hk hki hun hno=>hfree k ok hk hki ?_ hno) hF' hri hL' hC' hK'⟩
  by_cases hjk:j=k
  ·subst hjk;exact hjun
  ·rw [getD_set_ne true hjk] at hun;exact hun
end
section
variable {P:Program} {ops:Array Oper} {ds:List Deferred} {N:Nat} {E:Env} {a:Act} {w:World} {Q:Exit->Act->World->Prop} {fuel:Nat} {listed l2 l3:Array Bool} {fin:Option Nat} {C:World->Prop}
def opC {τ:Type} (C:World->Prop) (P:Program) (enc:τ->Value) (s:Sem Value) (k:τ->Prop):Prop:=∃ x,(∀ w,C w->s.run P w=.ok (enc x) w)/\k x
def regC (w:World) (k:(World->Prop)->World->Prop):Prop:=∃ C:World->Prop,∀ w',Bel w w'->C w'/\k C w'
theorem zTo {id:Nat} {l:List Oper} {k:(World->Prop)->World->Prop} (H:regC w k) (n:Nat) (l2:Array Bool) (hm:P.follows .mixedOrders=true)
  (h:∀ C w',C w'->k C w'->WK none C P l.toArray Q n l2 a w') (hn:l.toArray.size=n:=by rfl) (hl:Array.replicate n false=l2:=by rfl):WC none P (.region id l.toArray true) Q a w:=by
 subst hn;subst hl
 obtain ⟨C,hC⟩:=H
 obtain ⟨h1,h2⟩:=hC _ (Bel.draw w)
 exact wpIn_region_any hm (WK.any _ _ _ _ (h C _ h1 h2))
theorem zSJ (fin:Option Nat) {id:Nat} {l:List Oper} {k:(World->Prop)->World->Prop} (H:regC w k) (n:Nat) (l2:Array Bool) (hm:P.follows .mixedOrders=true)
  (h:∀ C w',C w'->k C w'->WK fin C P l.toArray Q n l2 a w') (hn:l.toArray.size=n:=by rfl) (hl:Array.replicate n false=l2:=by rfl):WC none P (.region id l.toArray true) Q a w:=by
 subst hn;subst hl
 obtain ⟨C,hC⟩:=H
 obtain ⟨h1,h2⟩:=hC _ (Bel.draw w)
 exact wpIn_region_any hm (WK.any _ _ _ _ (h C _ h1 h2))
theorem WK.take {i d:Nat} {o:Oper} {v:Value} (hd:o.dst=some d) (hg:o.guard=none) (hq:zHV Q) (hs:Region.noSelect ops=true) (hi:ops[i]?=some o) (hf:Region.free .any ops listed i=true) (hr:(Region.ready .any ops listed).contains i=true)
  (hl:listed.setIfInBounds i true=l2) (hC:C w) (hL:zKN C P o v a) (h:WK fin C P ops Q fuel l2 (a.put o.dst v) w) (hF:zK8 fin ops listed i=true):WK fin C P ops Q (fuel+1) listed a w:=by
 subst hl
 exact WK.first hi hg (Region.noSelect_spec hs) (λc a w=>by rw [hd];exact hq c a w d v) fuel listed a w (Region.free_spec hi hf) (zN7 hF) (by simpa using hr) hL hC h
theorem WK.nil (hr:Region.ready .any ops listed=[]) (h:Q .normal a w):WK fin C P ops Q fuel listed a w:=by
 cases fuel with
 |zero=>exact ⟨hr,h⟩
 |succ f=>exact ⟨λ_=>h,by rw [hr];simp⟩
theorem zOh {i:Nat} {o:Oper} {K:Act->World->Prop} (hi:ops[i]?=some o) (h:WO P ops Q o K a w):wpOpIn (FW none) 0 P ops Q i K a w:=by
 unfold wpOpIn
 simp only [hi]
 unfold WO at h
 split
 ·rename_i hw;rw [if_pos hw] at h;exact h
 ·rename_i hw;rw [if_neg hw] at h;exact ⟨λ_ _=>trivial,h⟩
theorem WK.one {i:Nat} {o:Oper} (hi:ops[i]?=some o) (hr:Region.ready .any ops listed=[i]) (hl:listed.setIfInBounds i true=l2)
  (h:∀ (K:Act->World->Prop),(∀ a w,C w/\WK fin C P ops Q fuel l2 a w->K a w)->WO P ops Q o K a w):WK fin C P ops Q (fuel+1) listed a w:=by
 subst hl
 refine ⟨λh0=>(by rw [hr] at h0;cases h0),λj hj=>?_⟩
 rw [hr] at hj
 obtain rfl:j=i:=by simpa using hj
 exact zOh hi (h _ λ_ _ h=>⟨.inr h.1,h.2⟩)
theorem WK.last {i:Nat} {o:Oper} (hi:ops[i]?=some o) (hr:Region.ready .any ops listed=[i]) (hl:listed.setIfInBounds i true=l2)
  (h:∀ (K:Act->World->Prop),(∀ a w,WK (some i) C P ops Q fuel l2 a w->K a w)->WO P ops Q o K a w):WK (some i) C P ops Q (fuel+1) listed a w:=by
 subst hl
 refine ⟨λh0=>(by rw [hr] at h0;cases h0),λj hj=>?_⟩
 rw [hr] at hj
 obtain rfl:j=i:=by simpa using hj
 exact zOh hi (h _ λ_ _ h=>⟨.inl rfl,h⟩)
theorem WK.two {i j:Nat} {o o':Oper} (hi:ops[i]?=some o) (hj:ops[j]?=some o') (hr:Region.ready .any ops listed=[i,j]) (hl:listed.setIfInBounds i true=l2) (hl':listed.setIfInBounds j true=l3)
  (h:∀ (K:Act->World->Prop),(∀ a w,C w/\WK fin C P ops Q fuel l2 a w->K a w)->WO P ops Q o K a w)
  (h':∀ (K:Act->World->Prop),(∀ a w,C w/\WK fin C P ops Q fuel l3 a w->K a w)->WO P ops Q o' K a w):WK fin C P ops Q (fuel+1) listed a w:=by
 subst hl;subst hl'
 refine ⟨λh0=>(by rw [hr] at h0;cases h0),λk hk=>?_⟩
 rw [hr] at hk
 rcases List.mem_cons.1 hk with rfl|hk
 ·exact zOh hi (h _ λ_ _ h=>⟨.inr h.1,h.2⟩)
 ·obtain rfl:k=j:=by simpa using hk
  exact zOh hj (h' _ λ_ _ h=>⟨.inr h.1,h.2⟩)
theorem Sat.kpur (hE:Sat ds N E a) {i:Nat} {op:Op} {ty:TypeId} {pos:String} {aft:Array Edge} {d:Nat} {v:Value} (hq:zHV Q) (hs:Region.noSelect ops=true) (hi:ops[i]?=some ⟨some d,op,ty,pos,aft,none⟩)
  (hf:Region.free .any ops listed i=true) (hr:(Region.ready .any ops listed).contains i=true) (hl:listed.setIfInBounds i true=l2) (hC:C w)
  (he:∀ w,(execOp a.eval ⟨some d,op,ty,pos,aft,none⟩).run P w=.ok (.value v) w) (next:∀ a',Sat ds N ((d,v)::E) a'->WK fin C P ops Q fuel l2 a' w)
  (hN:Nat.blt d N=true:=by rfl) (hF:zK8 fin ops listed i=true:=by kernel_rfl):WK fin C P ops Q (fuel+1) listed a w:=
 WK.take rfl rfl hq hs hi hf hr hl hC ⟨λw _=>he w⟩ (next _ (hE.put hN v)) hF
theorem Sat.kop (hE:Sat ds N E a) {i:Nat} {τ:Type} {enc:τ->Value} {s:Sem Value} {k:τ->Prop} {op:Op} {ty:TypeId} {pos:String} {aft:Array Edge} {d:Nat} (hq:zHV Q) (hs:Region.noSelect ops=true) (hi:ops[i]?=some ⟨some d,op,ty,pos,aft,none⟩)
  (hf:Region.free .any ops listed i=true) (hr:(Region.ready .any ops listed).contains i=true) (hl:listed.setIfInBounds i true=l2) (hC:C w)
  (he:execOp a.eval ⟨some d,op,ty,pos,aft,none⟩=pv s) (H:opC C P enc s k) (next:∀ x a',k x->Sat ds N ((d,enc x)::E) a'->WK fin C P ops Q fuel l2 a' w)
  (hN:Nat.blt d N=true:=by rfl) (hF:zK8 fin ops listed i=true:=by kernel_rfl):WK fin C P ops Q (fuel+1) listed a w:=by
 obtain ⟨x,hx,hk⟩:=H
 exact WK.take rfl rfl hq hs hi hf hr hl hC ⟨λw hw=>by rw [he];simp [hx w hw]⟩ (next x _ hk (hE.put hN _)) hF
end
section
variable {P:Program} {ops:Array Oper} {ds:List Deferred} {N:Nat} {E:Env} {a:Act} {w:World} {Q:Exit->Act->World->Prop} {K:Act->World->Prop}
theorem zRQ {o:Oper} (hg:o.guard=none) (hnd:∀ c,o.op≠.defer c) {f:FuncId} {args:Array Value} {w':World} (hr:(execOp a.eval o).run P w=.ok (.enter f args) w')
  {R:Ending->World->Prop} (hc:Cl P f args w' R) (h:∀ e w'',R e w''->∃ v,e=.returned v/\K (a.put o.dst v) w''):WO P ops Q o K a w:=by
 unfold WO
 rw [if_pos (by simp [Region.wanted,hg])]
 refine ⟨λ_ _=>trivial,?_⟩
 rw [Oper.semAt_eq _ _ _ hnd,hr,Oper.uponIn_enter]
 refine ⟨λh=>by simp [FW,Fence.wide] at h,?_⟩
 have hc':CallsIn (FW none) 0 P f args w' R:=hc
 refine CallsIn.mono hc' λe w'' hR=>?_
 obtain ⟨v,rfl,hv⟩:=h e w'' hR
 exact hv
theorem zP7 {o:Oper} (hg:o.guard=none) (hnd:∀ c,o.op≠.defer c) {l:Nat} {f:FuncId} {tmps:Array Value} {asg body:Code} (hr:(execOp a.eval o).run P w=.ok (.round l f tmps asg body) w)
  {R:Ending->World->Prop} (hc:RoundIn (FW none) 0 P l f tmps asg body w R) (h:∀ e w'',R e w''->∃ v,e=.returned v/\K (a.put o.dst v) w''):WO P ops Q o K a w:=by
 unfold WO
 rw [if_pos (by simp [Region.wanted,hg])]
 refine ⟨λ_ _=>trivial,?_⟩
 rw [Oper.semAt_eq _ _ _ hnd,hr,Oper.uponIn_round]
 refine ⟨λh=>by simp [FW,Fence.wide] at h,?_⟩
 refine RoundIn.mono hc λe w'' hR=>?_
 obtain ⟨v,rfl,hv⟩:=h e w'' hR
 exact hv
theorem Sat.wcallV (hE:Sat ds N E a) {x:Operand} {xs:List Operand} {v:Value} {vs:List Value} {ts} {R:Ending->World->Prop} {ty:TypeId} {pos:String} {aft:Array Edge} {d:Nat}
  (hx:Go.VB.ev E x=some v) (hxs:Go.VB.evL E xs=some vs) (H:zG6 P v vs w R)
  (next:∀ e w',R e w'->∃ v,e=.returned v/\∀ a',Sat ds N ((d,v)::E) a'->K a' w')
  (hN:Nat.blt d N=true:=by rfl):WO P ops Q ⟨some d,.call {callee:=.value x,args:=xs.toArray,argTypes:=ts},ty,pos,aft,none⟩ K a w:=by
 rcases H with ⟨f,us,lb,rfl,he,hc⟩|⟨l,rfl,fn,tmps,asg,body,hy,hR⟩
 ·exact zRQ rfl (by intro c h;cases h) (by have:=zMI hE (w:=w) (ts:=ts) (d:=some d) (ty:=ty) (pos:=pos) (aft:=aft) he hx hxs;simpa using this) hc λe w' hR=>by
   obtain ⟨v,rfl,hv⟩:=next e w' hR
   exact ⟨v,rfl,hv _ (hE.put hN v)⟩
 ·exact zP7 rfl (by intro c h;cases h) (zOo hE hx hxs hy) hR λe w' hR=>by
   obtain ⟨v,rfl,hv⟩:=next e w' hR
   exact ⟨v,rfl,hv _ (hE.put hN v)⟩
end
section
variable {P:Program} {Q:Exit->Act->World->Prop} {N:Nat} {E:Env} {a:Act} {w:World}
theorem zL2 {α τ σ:Type} (f:α->τ) (f':α->σ) (enc:τ->Value) (enc':σ->Value) (j:Option Code) {g:Operand} {p p' s s':Nat} {v:Value} {body:Code} {id id':Nat} {ty ty':TypeId} {pos pos':String} {aft aft':Array Edge}
  {Kp:World->World->Prop} {S Sp:List α->Prop} {Num:Nat} {I Ir:List α->World->Prop}
  (hE:Sat [] N E a) (hg:ev E g=some v) (hR:zGR P v (λx:α=>[enc (f x),enc' (f' x)]) Kp S Sp Num I Ir w)
  (hkr:∀ W,Kp W W)
  (hp:Nat.blt p N=true) (hp':Nat.blt p' N=true) (hs:Nat.blt s N=true) (hs':Nat.blt s' N=true) (h1:Nat.beq p' p=false) (h2:Nat.beq s p'=false)
  (hbody:∀ (l:Nat) (pre:List α) (x:α) (W:World) (a:Act),I pre W->pre.length<Num->Sat [] N ((s',enc' (f' x))::(s,enc (f x))::(p',enc' (f' x))::(p,enc (f x))::E) a->
   WC (some l) P body (zNs j (λW'=>KeepsFrom w.heap.size W W'/\Kp W W'/\I (pre++[x]) W') (λW'=>KeepsFrom w.heap.size W W'/\Ir (pre++[x]) W')) a W)
  (hdone:∀ (D:Nat) (xs:List α) (W:World) (a:Act),w.heap.size<=D->S xs->I xs W->W.heap[D]?=some (.deferred (some []))->Sat [mark D] N E a->Q .normal a W)
  (hstop:∀ (D:Nat) (c:Code) (pre:List α) (W:World) (a:Act),j=some c->w.heap.size<=D->Sp pre->Ir pre W->W.heap[D]?=some (.deferred (some []))->Sat [mark D] N E a->WC none P c Q a W):
  WC none P (.rangeFunc g #[p,p'] (.seq (.region id [⟨some s,.assign (.tmp p),ty,pos,aft,none⟩].toArray false) (.region id' [⟨some s',.assign (.tmp p'),ty',pos',aft',none⟩].toArray false)) body) Q a w:=by
 obtain ⟨gf,lb,rfl,he,hseq⟩:=hR.seq
 have hd:a.defers=[]:=hE.defs
 have hmk:∀ D,Sat [mark D] N E {a with defers:={target:=.collected D,args:=#[]}::a.defers}:=λD=>⟨hE.size,hE.vals,by simp [hd]⟩
 refine zKL (n:=1) (wpIn_rangeFunc_ownH (F:=FW none) (n:=1) rfl (zU 1) (gf:=gf) (lb:=lb.toArray) (hE.ev hg) trivial he hseq (λh1 h2=>hR.kt _ _ _ h1 h2) hR.kb (Go.RowKit.Below.refl _ _) (λ_=>rfl)
  I (λc pre W=>j=some c/\Ir pre W) hR.own (λc s A B row hs hg' hr=>⟨hs.1,hR.ownr s A B row hs.2 hg' hr⟩) hR.start
  (λx a' W=>Sat [] N ((s',enc' (f' x))::(s,enc (f x))::(p',enc' (f' x))::(p,enc (f x))::E) a')
  (λx a' _ A B row hs hg' hr=>hs) ?_ ?_ ?_ ?_)
 ·intro l pre x W K hI hK
  have hSat:Sat [] N ((p',enc' (f' x))::(p,enc (f x))::E) {tmps:=((#[p,p']:Array Tmp).zip #[enc (f x),enc' (f' x)]).foldl (λt (p,v)=>t.setIfInBounds p v) a.tmps,defers:=[]}:=by
   have h3:=Sat.put (⟨hE.size,hE.vals,rfl⟩:Sat [] N E {a with defers:=[]}) hp (enc (f x))
   have h4:=Sat.put h3 hp' (enc' (f' x))
   simpa [Act.put] using h4
  refine zI (ro:=some l) (zE (ro:=some l) ?_)
  have hq:ev ((p',enc' (f' x))::(p,enc (f x))::E) (.tmp p)=some (enc (f x)):=by
   show (bif Nat.beq p' p then _ else _)=_
   rw [h1]
   show (bif Nat.beq p p then _ else _)=_
   simp
  have hq':ev ((s,enc (f x))::(p',enc' (f' x))::(p,enc (f x))::E) (.tmp p')=some (enc' (f' x)):=by
   show (bif Nat.beq s p' then _ else _)=_
   rw [h2]
   show (bif Nat.beq p' p' then _ else _)=_
   simp
  exact hSat.p (ZI hSat hq) (λa1 hS1=>zL (tn (zE (ro:=some l) (hS1.p (ZI hS1 hq') (λa2 hS2=>zL (hK _ _ (KeepsFrom.refl _ _) (hkr _) hI hS2)) (hN:=hs'))))) (hN:=hs)
 ·rintro l pre x a' W hl _ hI h3 hlen
  refine wpIn_mono (hbody l pre x W a' hI hlen h3) λe a3 W3 h=>?_
  cases e with
  |normal=>exact h
  |ret=>exact ⟨h.2.1,h.1,h.2.2⟩
  |exit id=>exact ⟨h.2.1,h.1,h.2.2⟩
  |goto t=>exact h.elim
  |panic ch=>exact h.elim
  |outgrown=>exact h.elim
 ·exact λD xs W hD hS hI hK=>hdone D xs W _ hD hS hI hK (hmk D)
 ·exact λD c pre W hD hS hI hK=>zKL (hstop D c pre W _ hI.1 hD hS hI.2 hK (hmk D))
def zPD {τ σ:Type} (P:Program) (v:Value) (enc:τ->Value) (enc':σ->Value) (w:World) (body:τ->σ->World->(World->Prop)->(World->Prop)->Prop) (rest stop:Nat->World->Prop):Prop:=
 ∃ (α:Type) (f:α->τ) (f':α->σ) (Kp:World->World->Prop) (S Sp:List α->Prop) (Num:Nat) (I Ir:List α->World->Prop),zGR P v (λx:α=>[enc (f x),enc' (f' x)]) Kp S Sp Num I Ir w/\(∀ W,Kp W W)/\
  (∀ pre x W,I pre W->pre.length<Num->body (f x) (f' x) W (λW'=>KeepsFrom w.heap.size W W'/\Kp W W'/\I (pre++[x]) W') (λW'=>KeepsFrom w.heap.size W W'/\Ir (pre++[x]) W'))/\
  (∀ D xs W,w.heap.size<=D->S xs->I xs W->W.heap[D]?=some (.deferred (some []))->rest D W)/\
  (∀ D pre W,w.heap.size<=D->Sp pre->Ir pre W->W.heap[D]?=some (.deferred (some []))->stop D W)
end
end Go.VB
set_option linter.unusedVariables false
namespace Go.VB
section
variable {P:Program} {ops:Array Oper} {ds:List Deferred} {N:Nat} {E:Env} {a:Act} {w:World} {Q:Exit->Act->World->Prop} {fuel:Nat} {listed:Array Bool} {fin:Option Nat} {C:World->Prop}
theorem zCC {id:Nat} {l:List Oper} (n:Nat) (h:∀ w',Bel w w'->WA P l.toArray Q n (Array.replicate n false) a w') (hm:P.follows .mixedOrders=true:=by kernel_rfl) (hn:l.toArray.size=n:=by rfl):
  WC none P (.region id l.toArray true) Q a w:=zSx n _ hm h hn rfl
theorem Sat.x (hE:Sat ds N E a) (i:Nat) {op:Op} {ty:TypeId} {pos:String} {aft:Array Edge} {d:Nat} {v:Value} (hi:ops[i]?=some ⟨some d,op,ty,pos,aft,none⟩)
  (he:execOp a.eval ⟨some d,op,ty,pos,aft,none⟩=pn v) (next:∀ a',Sat ds N ((d,v)::E) a'->WA P ops Q fuel (listed.setIfInBounds i true) a' w)
  (hq:zHV Q:=by exact λ_ _ _ _ _ h=>h) (hs:Region.noSelect ops=true:=by kernel_rfl) (hf:Region.free .any ops listed i=true:=by kernel_rfl) (hr:(Region.ready .any ops listed).contains i=true:=by kernel_rfl)
  (hN:Nat.blt d N=true:=by rfl) (hc:zI8 op=true:=by rfl):WA P ops Q (fuel+1) listed a w:=hE.apur hq hs hi hf hr rfl (xu he) next hN hc
theorem Sat.y (hE:Sat ds N E a) (i:Nat) {τ:Type} {enc:τ->Value} {s:Sem Value} {k:τ->Prop} {op:Op} {ty:TypeId} {pos:String} {aft:Array Edge} {d:Nat} (hi:ops[i]?=some ⟨some d,op,ty,pos,aft,none⟩)
  (he:execOp a.eval ⟨some d,op,ty,pos,aft,none⟩=pv s) (H:opP P enc s k) (next:∀ x a',k x->Sat ds N ((d,enc x)::E) a'->WA P ops Q fuel (listed.setIfInBounds i true) a' w)
  (hq:zHV Q:=by exact λ_ _ _ _ _ h=>h) (hs:Region.noSelect ops=true:=by kernel_rfl) (hf:Region.free .any ops listed i=true:=by kernel_rfl) (hr:(Region.ready .any ops listed).contains i=true:=by kernel_rfl)
  (hN:Nat.blt d N=true:=by rfl) (hc:zI8 op=true:=by rfl):WA P ops Q (fuel+1) listed a w:=hE.aop hq hs hi hf hr rfl he H next hN hc
theorem Sat.j (hE:Sat ds N E a) (i:Nat) {τ:Type} {enc:τ->Value} {s:Sem Value} {k:τ->World->Prop} {op:Op} {ty:TypeId} {pos:String} {aft:Array Edge} {d:Nat} (hi:ops[i]?=some ⟨some d,op,ty,pos,aft,none⟩)
  (he:execOp a.eval ⟨some d,op,ty,pos,aft,none⟩=pv s) (H:opE P enc s w k) (next:∀ x w' a',k x w'->Sat ds N ((d,enc x)::E) a'->WA P ops Q fuel (listed.setIfInBounds i true) a' w')
  (hr:Region.ready .any ops listed=[i]:=by kernel_rfl) (hN:Nat.blt d N=true:=by rfl) (hnd:∀ c,op≠.defer c:=by intro c h;cases h):WA P ops Q (fuel+1) listed a w:=
 WA.one hi hr rfl λK hK=>hE.i he H (λx w' a' h hS=>hK _ _ (next x w' a' h hS)) hN hnd
theorem Sat.l (hE:Sat ds N E a) (i:Nat) {s:Sem Unit} {k:World->Prop} {op:Op} {ty:TypeId} {pos:String} {aft:Array Edge} (hi:ops[i]?=some ⟨none,op,ty,pos,aft,none⟩)
  (he:execOp a.eval ⟨none,op,ty,pos,aft,none⟩=pu s) (H:opU P s w k) (next:∀ w' a',k w'->Sat ds N E a'->WA P ops Q fuel (listed.setIfInBounds i true) a' w')
  (hr:Region.ready .any ops listed=[i]:=by kernel_rfl) (hnd:∀ c,op≠.defer c:=by intro c h;cases h):WA P ops Q (fuel+1) listed a w:=
 WA.one hi hr rfl λK hK=>hE.wopu he H (λw' a' h hS=>hK _ _ (next w' a' h hS)) hnd
theorem WA.tw (i j:Nat) {o o':Oper} (hi:ops[i]?=some o) (hj:ops[j]?=some o')
  (h:∀ (K:Act->World->Prop),(∀ a w,WA P ops Q fuel (listed.setIfInBounds i true) a w->K a w)->WO P ops Q o K a w)
  (h':∀ (K:Act->World->Prop),(∀ a w,WA P ops Q fuel (listed.setIfInBounds j true) a w->K a w)->WO P ops Q o' K a w) (hr:Region.ready .any ops listed=[i,j]:=by kernel_rfl):WA P ops Q (fuel+1) listed a w:=
 WA.two hi hj hr rfl rfl h h'
theorem WA.ni (h:Q .normal a w) (hr:Region.ready .any ops listed=[]:=by kernel_rfl):WA P ops Q fuel listed a w:=WA.nil hr h
theorem zPV {id:Nat} {l:List Oper} {k:(World->Prop)->World->Prop} (H:regC w k) (n:Nat) (h:∀ C w',C w'->k C w'->WK none C P l.toArray Q n (Array.replicate n false) a w')
  (hm:P.follows .mixedOrders=true:=by kernel_rfl) (hn:l.toArray.size=n:=by rfl):WC none P (.region id l.toArray true) Q a w:=zTo H n _ hm h hn rfl
theorem zLt (f:Nat) {id:Nat} {l:List Oper} {k:(World->Prop)->World->Prop} (H:regC w k) (n:Nat) (h:∀ C w',C w'->k C w'->WK (some f) C P l.toArray Q n (Array.replicate n false) a w')
  (hm:P.follows .mixedOrders=true:=by kernel_rfl) (hn:l.toArray.size=n:=by rfl):WC none P (.region id l.toArray true) Q a w:=zSJ (some f) H n _ hm h hn rfl
theorem Sat.kp (hE:Sat ds N E a) (i:Nat) {op:Op} {ty:TypeId} {pos:String} {aft:Array Edge} {d:Nat} {v:Value} (hi:ops[i]?=some ⟨some d,op,ty,pos,aft,none⟩) (hC:C w)
  (he:∀ w,(execOp a.eval ⟨some d,op,ty,pos,aft,none⟩).run P w=.ok (.value v) w) (next:∀ a',Sat ds N ((d,v)::E) a'->WK fin C P ops Q fuel (listed.setIfInBounds i true) a' w)
  (hq:zHV Q:=by exact λ_ _ _ _ _ h=>h) (hs:Region.noSelect ops=true:=by kernel_rfl) (hf:Region.free .any ops listed i=true:=by kernel_rfl) (hr:(Region.ready .any ops listed).contains i=true:=by kernel_rfl)
  (hN:Nat.blt d N=true:=by rfl) (hF:zK8 fin ops listed i=true:=by kernel_rfl):WK fin C P ops Q (fuel+1) listed a w:=hE.kpur hq hs hi hf hr rfl hC he next hN hF
theorem Sat.ko (hE:Sat ds N E a) (i:Nat) {τ:Type} {enc:τ->Value} {s:Sem Value} {k:τ->Prop} {op:Op} {ty:TypeId} {pos:String} {aft:Array Edge} {d:Nat} (hi:ops[i]?=some ⟨some d,op,ty,pos,aft,none⟩) (hC:C w)
  (he:execOp a.eval ⟨some d,op,ty,pos,aft,none⟩=pv s) (H:opC C P enc s k) (next:∀ x a',k x->Sat ds N ((d,enc x)::E) a'->WK fin C P ops Q fuel (listed.setIfInBounds i true) a' w)
  (hq:zHV Q:=by exact λ_ _ _ _ _ h=>h) (hs:Region.noSelect ops=true:=by kernel_rfl) (hf:Region.free .any ops listed i=true:=by kernel_rfl) (hr:(Region.ready .any ops listed).contains i=true:=by kernel_rfl)
  (hN:Nat.blt d N=true:=by rfl) (hF:zK8 fin ops listed i=true:=by kernel_rfl):WK fin C P ops Q (fuel+1) listed a w:=hE.kop hq hs hi hf hr rfl hC he H next hN hF
theorem WK.on (i:Nat) {o:Oper} (hi:ops[i]?=some o) (h:∀ (K:Act->World->Prop),(∀ a w,C w/\WK fin C P ops Q fuel (listed.setIfInBounds i true) a w->K a w)->WO P ops Q o K a w) (hr:Region.ready .any ops listed=[i]:=by kernel_rfl):WK fin C P ops Q (fuel+1) listed a w:=
 WK.one hi hr rfl h
theorem WK.la (i:Nat) {o:Oper} (hi:ops[i]?=some o) (h:∀ (K:Act->World->Prop),(∀ a w,WK (some i) C P ops Q fuel (listed.setIfInBounds i true) a w->K a w)->WO P ops Q o K a w) (hr:Region.ready .any ops listed=[i]:=by kernel_rfl):WK (some i) C P ops Q (fuel+1) listed a w:=
 WK.last hi hr rfl h
theorem WK.tw (i j:Nat) {o o':Oper} (hi:ops[i]?=some o) (hj:ops[j]?=some o')
  (h:∀ (K:Act->World->Prop),(∀ a w,C w/\WK fin C P ops Q fuel (listed.setIfInBounds i true) a w->K a w)->WO P ops Q o K a w)
  (h':∀ (K:Act->World->Prop),(∀ a w,C w/\WK fin C P ops Q fuel (listed.setIfInBounds j true) a w->K a w)->WO P ops Q o' K a w) (hr:Region.ready .any ops listed=[i,j]:=by kernel_rfl):WK fin C P ops Q (fuel+1) listed a w:=
 WK.two hi hj hr rfl rfl h h'
end
section
variable {ro:Option Nat} {P:Program} {ops:Array Oper} {Q:Exit->Act->World->Prop} {ds:List Deferred} {N:Nat} {E:Env} {a:Act} {w:World} {rest:List Oper} {K:Act->Prop}
theorem Sat.m (hE:Sat ds N E a) {x v ty pos aft} {d:Nat} (hx:Go.VB.ev E x=some v) (next:∀ a',Sat ds N ((d,v)::E) a'->WL ro P ops Q rest a' w) (hN:Nat.blt d N=true:=by rfl):WL ro P ops Q (⟨some d,.move x,ty,pos,aft,none⟩::rest) a w:=hE.p (zR hE hx) next hN
theorem Sat.s (hE:Sat ds N E a) {x v ty pos aft} {d:Nat} (hx:Go.VB.ev E x=some v) (next:∀ a',Sat ds N ((d,v)::E) a'->WL ro P ops Q rest a' w) (hN:Nat.blt d N=true:=by rfl):WL ro P ops Q (⟨some d,.assign x,ty,pos,aft,none⟩::rest) a w:=hE.p (ZI hE hx) next hN
theorem Sat.t (hE:Sat ds N E a) {x v ty pos aft} {d:Nat} (hx:Go.VB.ev E x=some v) (next:∀ a',Sat ds N ((d,v)::E) a'->WQ P ops w K rest a') (hN:Nat.blt d N=true:=by rfl):WQ P ops w K (⟨some d,.move x,ty,pos,aft,none⟩::rest) a:=hE.r (zR hE hx) next hN
end
end Go.VB
set_option linter.unusedVariables false
set_option linter.unusedSimpArgs false
namespace Go.Proofs.YtealcoghiaeiiaaGreat.VG
open Go.VB Go.Proofs
def QL (x9:Int) (Kl2:Int->World->Prop) (w:World):Prop:=
 Kl2 (zC .i64 (x9 - 1)) w
def yp (x0:Sl) (x8:Int) (Kl1:Int->World->Prop) (x9:Int) (Kl2:Int->World->Prop) (x34:Bool) (w:World):Prop:=
 yM w (λw=>(x34=true->(yM w (λw=>opP zA zB (zF 22 (Sl.v x0) (.int .i64 (zC .i64 (x9 - 1)))) (λx45=>opP zA zB (zF 22 (Sl.v x0) (.int .i64 x9)) (λx49=>(opE zA zM.v (zD 66 (.pointer x45)) w (λx46 w=>opE zA zM.v (zD 66 (.pointer x49)) w (λx50 w=>opP zA zB (zF 22 (Sl.v x0) (.int .i64 x9)) (λx51=>opU zA (zK 66 (.pointer x51) (zM.v x46)) w (λw=>opP zA zB (zF 22 (Sl.v x0) (.int .i64 (zC .i64 (x9 - 1)))) (λx52=>opU zA (zK 66 (.pointer x52) (zM.v x50)) w (λw=>QL x9 Kl2 w)))))))/\(opE zA zM.v (zD 66 (.pointer x49)) w (λx50_1 w=>opE zA zM.v (zD 66 (.pointer x45)) w (λx46_1 w=>opP zA zB (zF 22 (Sl.v x0) (.int .i64 x9)) (λx51_1=>opU zA (zK 66 (.pointer x51_1) (zM.v x46_1)) w (λw=>opP zA zB (zF 22 (Sl.v x0) (.int .i64 (zC .i64 (x9 - 1)))) (λx52_1=>opU zA (zK 66 (.pointer x52_1) (zM.v x50_1)) w (λw=>QL x9 Kl2 w))))))))))))/\(x34=false->(Kl1 (zC .i64 (x8+1)) w)))
def YX (x0:Sl) (x1:Int) (x3:Value) (x8:Int) (Kl1:Int->World->Prop) (x9:Int) (w:World) (Kl2:Int->World->Prop):Prop:=
 ((x1<x9)->(opB zA zB (zF 22 (Sl.v x0) (.int .i64 x9)) w (λx25=>opB zA zM.v (zD 66 (.pointer x25)) w (λx26=>opB zA zB (zF 22 (Sl.v x0) (.int .i64 (zC .i64 (x9 - 1)))) w (λx30=>opB zA zM.v (zD 66 (.pointer x30)) w (λx31=>∃ (r:Int),Zs zA x3 [(zM.v x26),(zM.v x31)] w (.int .i64 r)/\(yp x0 x8 Kl1 x9 Kl2 (decide (r<0)) w)))))))/\(¬ (x1<x9)->(yp x0 x8 Kl1 x9 Kl2 false w))
def xk (x0:Sl) (x1:Int) (x2:Int) (x3:Value) (Ret:World->Prop) (x8:Int) (w:World) (Kl1:Int->World->Prop):Prop:=
 ((x8<x2)->(∃ (I:Int->World->Prop) (μ:Int->World->Nat),I x8 w/\∀ (x9:Int) w,I x9 w->YX x0 x1 x3 x8 Kl1 x9 w (λx9' w'=>I x9' w'/\μ x9' w'<μ x9 w)))/\(¬ (x8<x2)->(Ret w))
def ZC (x0:Sl) (x1:Int) (x2:Int) (x3:Value) (w:World) (Ret:World->Prop):Prop:=
 ∃ (I:Int->World->Prop) (μ:Int->World->Nat),I (zC .i64 (x1+1)) w/\∀ (x8:Int) w,I x8 w->xk x0 x1 x2 x3 Ret x8 w (λx8' w'=>I x8' w'/\μ x8' w'<μ x8 w)
set_option maxRecDepth 100000 in
theorem zD0 (x0:Sl) (x1:Int) (x2:Int) (x3:Value) (w:World) (Ret:World->Prop) (H:ZC x0 x1 x2 x3 w Ret):Cl zA 90 [(Sl.v x0),(.int .i64 x1),(.int .i64 x2),x3].toArray w (λe w'=>e=.returned (.tuple [].toArray)/\Ret w'):=by
 unfold ZC at H
 refine zp 53 (zipE 0 [(Sl.v x0),(.int .i64 x1),(.int .i64 x2),x3]) Tryz.func90 rfl rfl (by rfl) rfl ?_
 intro a g
 have g:Sat [] 53 [(0,(Sl.v x0)),(1,(.int .i64 x1)),(2,(.int .i64 x2)),(3,x3)] a:=g
 refine zI (zE (g.m rfl λ_ g=>g.p (zr g rfl rfl) λ_ g=>g.s rfl λ_ g=>zL (tn (zX ?_))))
 obtain ⟨I_l1,μ_l1,h0,hb⟩:=H
 refine yE (ds:=[]) (N:=53) (σ:=Int) (λs=>[(8,(.int .i64 s)),(0,(Sl.v x0)),(1,(.int .i64 x1)),(2,(.int .i64 x2)),(3,x3)]) (λs w=>I_l1 s w) (λs w=>μ_l1 s w) (zC .i64 (x1+1)) h0 (g.k) ?_
 intro x8 w a hI g
 try dsimp only at hI g
 obtain ⟨Kl1,hK_l1⟩:∃ K:Int->World->Prop,K=(λx8' w'=>I_l1 x8' w'/\μ_l1 x8' w'<μ_l1 x8 w):=⟨_,rfl⟩
 have H:xk x0 x1 x2 x3 Ret x8 w Kl1:=by rw [hK_l1];exact hb x8 w hI
 clear hb h0 hI
 unfold xk at H
 refine zI (zI (zE (g.m rfl λ_ g=>g.m rfl λ_ g=>g.p (yR g rfl rfl) λ_ g=>zL (tn (zd g rfl (λhc=>?_) (λhc=>?_))))))
 ·have H:=H.1 hc
  refine zY (tn (zI (zX (zI (zE (g.m rfl λ_ g=>g.s rfl λ_ g=>zL (tn (zX ?_))))))))
  obtain ⟨I_l2,μ_l2,h0,hb⟩:=H
  refine yE (ds:=[]) (N:=53) (σ:=Int) (λs=>[(9,(.int .i64 s)),(0,(Sl.v x0)),(1,(.int .i64 x1)),(2,(.int .i64 x2)),(3,x3),(8,(.int .i64 x8))]) (λs w=>I_l2 s w) (λs w=>μ_l2 s w) x8 h0 (g.k) ?_
  intro x9 w a hI g
  try dsimp only at hI g
  obtain ⟨Kl2,hK_l2⟩:∃ K:Int->World->Prop,K=(λx9' w'=>I_l2 x9' w'/\μ_l2 x9' w'<μ_l2 x9 w):=⟨_,rfl⟩
  have H:YX x0 x1 x3 x8 Kl1 x9 w Kl2:=by rw [hK_l2];exact hb x9 w hI
  clear hb h0 hI
  unfold YX at H
  refine zI (zI (QU (by kernel_rfl) (by kernel_rfl) (g.t rfl λ_ g=>g.t rfl λ_ g=>g.r (zBx g rfl rfl) λ_ g=>g.t rfl λ_ g=>WQ.join (ds:=[]) (N:=53) (σ:=Bool) (λs=>[(34,(.bool s)),(0,(Sl.v x0)),(1,(.int .i64 x1)),(2,(.int .i64 x2)),(3,x3),(8,(.int .i64 x8)),(9,(.int .i64 x9))]) (λs=>yp x0 x8 Kl1 x9 Kl2 s w) 13 ?_ (λhr3=>?_))))
  ·intro x34 a H g
   try dsimp only at H g
   unfold yp at H
   refine Qb (λw hB=>?_)
   replace H:=H w hB
   refine (tn (zk g rfl (λhc=>?_) (λhc=>?_)))
   ·have H:=H.1 hc
    refine zY (tn (z8 (ds:=[]) (N:=53) (σ:=Unit) (λs=>[(0,(Sl.v x0)),(1,(.int .i64 x1)),(2,(.int .i64 x2)),(3,x3),(8,(.int .i64 x8)),(9,(.int .i64 x9))]) (λs w=>QL x9 Kl2 w) ?_ (λhj4=>?_)))
    ·rintro ⟨⟩ w a H g
     try dsimp only at H g
     unfold QL at H
     refine zE (g.m rfl λ_ g=>g.p (zv g rfl rfl) λ_ g=>g.s rfl λ_ g=>?_)
     rw [hK_l2] at H
     exact zL (tn ⟨(zC .i64 (x9 - 1)),g.k,H⟩)
    ·refine zX (zCC 18 λw hB=>?_)
     replace H:=H w hB
     refine g.x 0 rfl (zR g rfl) λ_ g=>g.x 1 rfl (zR g rfl) λ_ g=>g.x 2 rfl (zR g rfl) λ_ g=>g.x 3 rfl (zR g rfl) λ_ g=>g.x 4 rfl (zv g rfl rfl) λ_ g=>g.x 5 rfl (zR g rfl) λ_ g=>g.x 6 rfl (zR g rfl) λ_ g=>g.x 7 rfl (zv g rfl rfl) λ_ g=>g.y 8 rfl (zH g rfl rfl) H λx45 a H g=>g.x 10 rfl (zR g rfl) λ_ g=>g.x 11 rfl (zR g rfl) λ_ g=>g.y 12 rfl (zH g rfl rfl) H λx49 a H g=>WA.tw 9 13 rfl rfl ?_ ?_
     ·have H:=H.1
      intro K hK
      exact g.i (zO g rfl) H λx46 w a H g=>hK _ _ (g.j 13 rfl (zO g rfl) H λx50 w a H g=>g.y 14 rfl (zH g rfl rfl) H λx51 a H g=>g.l 15 rfl (zT g rfl rfl) H λw a H g=>g.y 16 rfl (zH g rfl rfl) H λx52 a H g=>g.l 17 rfl (zT g rfl rfl) H λw a H g=>WA.ni ((bn (tn (hj4 () _ _ H (g.k))))))
     ·have H:=H.2
      intro K hK
      exact g.i (zO g rfl) H λx50_1 w a H g=>hK _ _ (g.j 9 rfl (zO g rfl) H λx46_1 w a H g=>g.y 14 rfl (zH g rfl rfl) H λx51_1 a H g=>g.l 15 rfl (zT g rfl rfl) H λw a H g=>g.y 16 rfl (zH g rfl rfl) H λx52_1 a H g=>g.l 17 rfl (zT g rfl rfl) H λw a H g=>WA.ni ((bn (tn (hj4 () _ _ H (g.k))))))
   ·have H:=H.2 hc
    refine z7 (te (te (be (bn (tn (zE (g.m rfl λ_ g=>g.p (zr g rfl rfl) λ_ g=>g.s rfl λ_ g=>?_)))))))
    rw [hK_l1] at H
    exact zL (tn ⟨(zC .i64 (x8+1)),g.k,H⟩)
  ·rcases Classical.em ((x1<x9)) with hbr3|hbr3
   ·have H:=H.1 hbr3
    have g:=g.b (b:=true) (t:=21) rfl (decide_eq_true hbr3)
    refine g.e (g.t rfl λ_ g=>g.e (g.t rfl λ_ g=>g.e (g.t rfl λ_ g=>g.e (g.A (zH g rfl rfl) H λx25 a H g=>g.e (g.A (zO g rfl) H λx26 a H g=>g.e (g.t rfl λ_ g=>g.e (g.t rfl λ_ g=>g.e (g.r (zv g rfl rfl) λ_ g=>g.e (g.A (zH g rfl rfl) H λx30 a H g=>g.e (g.A (zO g rfl) H λx31 a H g=>g.e ?_))))))))))
    obtain ⟨r,hc,H⟩:=H
    exact g.qcallV rfl rfl hc λ_ g=>g.e (g.r (yR g rfl rfl) λ_ g=>g.r (zx g rfl rfl) λ_ g=>hr3 (decide (r<0)) _ H (g.k))
   ·have H:=H.2 hbr3
    have g:=g.b (b:=false) (t:=21) rfl (decide_eq_false hbr3)
    exact g.g (λ_ g=>g.g (λ_ g=>g.g (λ_ g=>g.g (λ_ g=>g.g (λ_ g=>g.g (λ_ g=>g.g (λ_ g=>g.g (λ_ g=>g.g (λ_ g=>g.g (λ_ g=>g.g (λ_ g=>g.g (λ_ g=>g.r (zy g rfl rfl) λ_ g=>hr3 false _ H (g.k)))))))))))))
 ·have H:=H.2 hc
  exact z7 (te (te (be (zBg g rfl ⟨rfl,H⟩))))
def YT (x0:Sl) (x1:Int) (x3:Value) (x12:Int) (Kl2:Int->World->Prop) (w:World):Prop:=
 Cl zA 114 [(Sl.v x0),(.int .i64 0),(.int .i64 x12),(.int .i64 x1),x3].toArray w (λe w=>e=.returned (.tuple [].toArray)/\(Kl2 (zC .i64 (x12 - 1)) w))
def ZF (x0:Sl) (x1:Int) (x3:Value) (Ret:World->Prop) (x12:Int) (w:World) (Kl2:Int->World->Prop):Prop:=
 ((0<=x12)->(yM w (λw=>opP zA zB (zF 22 (Sl.v x0) (.int .i64 (zC .i64 (x1+x12)))) (λx46=>opP zA zB (zF 22 (Sl.v x0) (.int .i64 x1)) (λx50=>(opE zA zM.v (zD 66 (.pointer x46)) w (λx47 w=>opE zA zM.v (zD 66 (.pointer x50)) w (λx51 w=>opP zA zB (zF 22 (Sl.v x0) (.int .i64 x1)) (λx52=>opU zA (zK 66 (.pointer x52) (zM.v x47)) w (λw=>opP zA zB (zF 22 (Sl.v x0) (.int .i64 (zC .i64 (x1+x12)))) (λx53=>opU zA (zK 66 (.pointer x53) (zM.v x51)) w (λw=>YT x0 x1 x3 x12 Kl2 w)))))))/\(opE zA zM.v (zD 66 (.pointer x50)) w (λx51_1 w=>opE zA zM.v (zD 66 (.pointer x46)) w (λx47_1 w=>opP zA zB (zF 22 (Sl.v x0) (.int .i64 x1)) (λx52_1=>opU zA (zK 66 (.pointer x52_1) (zM.v x47_1)) w (λw=>opP zA zB (zF 22 (Sl.v x0) (.int .i64 (zC .i64 (x1+x12)))) (λx53_1=>opU zA (zK 66 (.pointer x53_1) (zM.v x51_1)) w (λw=>YT x0 x1 x3 x12 Kl2 w))))))))))))/\(¬ (0<=x12)->(Ret w))
def ZG (x0:Sl) (x1:Int) (x2:Int) (x3:Value) (Ret:World->Prop) (x11:Int) (w:World) (Kl1:Int->World->Prop):Prop:=
 ((0<=x11)->(Cl zA 114 [(Sl.v x0),(.int .i64 x11),(.int .i64 (zC .i64 (x2 - x1))),(.int .i64 x1),x3].toArray w (λe w=>e=.returned (.tuple [].toArray)/\(Kl1 (zC .i64 (x11 - 1)) w))))/\(¬ (0<=x11)->(∃ (I:Int->World->Prop) (μ:Int->World->Nat),I (zC .i64 ((zC .i64 (x2 - x1)) - 1)) w/\∀ (x12:Int) w,I x12 w->ZF x0 x1 x3 Ret x12 w (λx12' w'=>I x12' w'/\μ x12' w'<μ x12 w)))
def zBA (x0:Sl) (x1:Int) (x2:Int) (x3:Value) (w:World) (Ret:World->Prop):Prop:=
 opE zA (zV .i64) (binOp .quo 3 (.int .i64 (zC .i64 ((zC .i64 (x2 - x1)) - 1))) (.int .i64 2)) w (λx19 w=>∃ (I:Int->World->Prop) (μ:Int->World->Nat),I x19 w/\∀ (x11:Int) w,I x11 w->ZG x0 x1 x2 x3 Ret x11 w (λx11' w'=>I x11' w'/\μ x11' w'<μ x11 w))
set_option maxRecDepth 100000 in
theorem zFN (x0:Sl) (x1:Int) (x2:Int) (x3:Value) (w:World) (Ret:World->Prop) (H:zBA x0 x1 x2 x3 w Ret):Cl zA 91 [(Sl.v x0),(.int .i64 x1),(.int .i64 x2),x3].toArray w (λe w'=>e=.returned (.tuple [].toArray)/\Ret w'):=by
 unfold zBA at H
 refine zp 60 (zipE 0 [(Sl.v x0),(.int .i64 x1),(.int .i64 x2),x3]) Tryz.func91 rfl rfl (by rfl) rfl ?_
 intro a g
 have g:Sat [] 60 [(0,(Sl.v x0)),(1,(.int .i64 x1)),(2,(.int .i64 x2)),(3,x3)] a:=g
 refine zI (zE (g.m rfl λ_ g=>g.s rfl λ_ g=>zL (tn (zI (zE (g.s rfl λ_ g=>zL (tn (zI (zE (g.m rfl λ_ g=>g.m rfl λ_ g=>g.p (zv g rfl rfl) λ_ g=>g.s rfl λ_ g=>zL (tn (zI (zI (zE (g.m rfl λ_ g=>g.p (zv g rfl rfl) λ_ g=>g.o (ZS g rfl rfl) H λx19 w a H g=>g.s rfl λ_ g=>zL (tn (zX ?_)))))))))))))))))
 obtain ⟨I_l1,μ_l1,h0,hb⟩:=H
 refine yE (ds:=[]) (N:=60) (σ:=Int) (λs=>[(11,(.int .i64 s)),(0,(Sl.v x0)),(3,x3),(8,(.int .i64 x1)),(9,(.int .i64 0)),(10,(.int .i64 (zC .i64 (x2 - x1))))]) (λs w=>I_l1 s w) (λs w=>μ_l1 s w) x19 h0 (g.k) ?_
 intro x11 w a hI g
 try dsimp only at hI g
 obtain ⟨Kl1,hK_l1⟩:∃ K:Int->World->Prop,K=(λx11' w'=>I_l1 x11' w'/\μ_l1 x11' w'<μ_l1 x11 w):=⟨_,rfl⟩
 have H:ZG x0 x1 x2 x3 Ret x11 w Kl1:=by rw [hK_l1];exact hb x11 w hI
 clear hb h0 hI
 unfold ZG at H
 refine zI (zI (zE (g.m rfl λ_ g=>g.p (Zm g rfl rfl) λ_ g=>zL (tn (zd g rfl (λhc=>?_) (λhc=>?_))))))
 ·have H:=H.1 hc
  refine zY (tn (zI (zX (zE (g.m rfl λ_ g=>g.m rfl λ_ g=>g.m rfl λ_ g=>g.m rfl λ_ g=>g.m rfl λ_ g=>g.c (zb g zQZ rfl rfl) H λe w H=>?_)))))
  obtain ⟨rfl,H⟩:=H
  refine ⟨_,rfl,λ_ g=>(zL (bn (tn (zE (g.m rfl λ_ g=>g.p (zv g rfl rfl) λ_ g=>g.s rfl λ_ g=>?_)))))⟩
  rw [hK_l1] at H
  exact zL (tn ⟨(zC .i64 (x11 - 1)),g.k,H⟩)
 ·have H:=H.2 hc
  refine z7 (te (te (be (tn (zI (zE (g.m rfl λ_ g=>g.p (zv g rfl rfl) λ_ g=>g.s rfl λ_ g=>zL (tn (zX ?_)))))))))
  obtain ⟨I_l2,μ_l2,h0,hb⟩:=H
  refine yE (ds:=[]) (N:=60) (σ:=Int) (λs=>[(12,(.int .i64 s)),(0,(Sl.v x0)),(3,x3),(8,(.int .i64 x1)),(9,(.int .i64 0))]) (λs w=>I_l2 s w) (λs w=>μ_l2 s w) (zC .i64 ((zC .i64 (x2 - x1)) - 1)) h0 (g.k) ?_
  intro x12 w a hI g
  try dsimp only at hI g
  obtain ⟨Kl2,hK_l2⟩:∃ K:Int->World->Prop,K=(λx12' w'=>I_l2 x12' w'/\μ_l2 x12' w'<μ_l2 x12 w):=⟨_,rfl⟩
  have H:ZF x0 x1 x3 Ret x12 w Kl2:=by rw [hK_l2];exact hb x12 w hI
  clear hb h0 hI
  unfold ZF at H
  refine zI (zI (zE (g.m rfl λ_ g=>g.p (Zm g rfl rfl) λ_ g=>zL (tn (zd g rfl (λhc=>?_) (λhc=>?_))))))
  ·have H:=H.1 hc
   refine zY (tn (zI (zX (z8 (ds:=[]) (N:=60) (σ:=Unit) (λs=>[(0,(Sl.v x0)),(3,x3),(8,(.int .i64 x1)),(9,(.int .i64 0)),(12,(.int .i64 x12))]) (λs w=>YT x0 x1 x3 x12 Kl2 w) ?_ (λhj3=>?_)))))
   ·rintro ⟨⟩ w a H g
    try dsimp only at H g
    unfold YT at H
    refine zE (g.m rfl λ_ g=>g.m rfl λ_ g=>g.m rfl λ_ g=>g.m rfl λ_ g=>g.m rfl λ_ g=>g.c (zb g zQZ rfl rfl) H λe w H=>?_)
    obtain ⟨rfl,H⟩:=H
    refine ⟨_,rfl,λ_ g=>(zL (bn (tn (zE (g.m rfl λ_ g=>g.p (zv g rfl rfl) λ_ g=>g.s rfl λ_ g=>?_)))))⟩
    rw [hK_l2] at H
    exact zL (tn ⟨(zC .i64 (x12 - 1)),g.k,H⟩)
   ·refine zCC 20 λw hB=>?_
    replace H:=H w hB
    refine g.x 0 rfl (zR g rfl) λ_ g=>g.x 1 rfl (zR g rfl) λ_ g=>g.x 2 rfl (zR g rfl) λ_ g=>g.x 3 rfl (zR g rfl) λ_ g=>g.x 4 rfl (zR g rfl) λ_ g=>g.x 5 rfl (zr g rfl rfl) λ_ g=>g.x 6 rfl (zR g rfl) λ_ g=>g.x 7 rfl (zR g rfl) λ_ g=>g.x 8 rfl (zR g rfl) λ_ g=>g.x 9 rfl (zr g rfl rfl) λ_ g=>g.y 10 rfl (zH g rfl rfl) H λx46 a H g=>g.x 12 rfl (zR g rfl) λ_ g=>g.x 13 rfl (zR g rfl) λ_ g=>g.y 14 rfl (zH g rfl rfl) H λx50 a H g=>WA.tw 11 15 rfl rfl ?_ ?_
    ·have H:=H.1
     intro K hK
     exact g.i (zO g rfl) H λx47 w a H g=>hK _ _ (g.j 15 rfl (zO g rfl) H λx51 w a H g=>g.y 16 rfl (zH g rfl rfl) H λx52 a H g=>g.l 17 rfl (zT g rfl rfl) H λw a H g=>g.y 18 rfl (zH g rfl rfl) H λx53 a H g=>g.l 19 rfl (zT g rfl rfl) H λw a H g=>WA.ni ((tn (hj3 () _ _ H (g.k)))))
    ·have H:=H.2
     intro K hK
     exact g.i (zO g rfl) H λx51_1 w a H g=>hK _ _ (g.j 11 rfl (zO g rfl) H λx47_1 w a H g=>g.y 16 rfl (zH g rfl rfl) H λx52_1 a H g=>g.l 17 rfl (zT g rfl rfl) H λw a H g=>g.y 18 rfl (zH g rfl rfl) H λx53_1 a H g=>g.l 19 rfl (zT g rfl rfl) H λw a H g=>WA.ni ((tn (hj3 () _ _ H (g.k)))))
  ·have H:=H.2 hc
   exact z7 (te (te (be (zBg g rfl ⟨rfl,H⟩))))
def y5 (Ret:Int->Int->World->Prop) (x11:Option Addr) (x13:Int) (w:World):Prop:=
 opE zA (zV .i64) (zD 3 (.pointer x11)) w (λx55 w=>((x55=0)->(Ret x13 1 w))/\(¬ (x55=0)->(((x55=12)->(Ret x13 2 w))/\(¬ (x55=12)->(Ret x13 0 w)))))
def yy (x0:Sl) (x3:Value) (Ret:Int->Int->World->Prop) (x11:Option Addr) (x12:Int) (x13_1:Int) (x14:Int) (w:World):Prop:=
 Cl zA 118 [(Sl.v x0),(.int .i64 x12),(.int .i64 x13_1),(.int .i64 x14),(.pointer x11),x3].toArray w (λe w=>∃ (r:Int),e=.returned (.int .i64 r)/\(y5 Ret x11 r w))
def zAX (x0:Sl) (x1:Int) (x2:Int) (x3:Value) (w:World) (Ret:Int->Int->World->Prop):Prop:=
 opE zA zB (zf 3 true (.tuple #[])) w (λx11 w=>opE zA (zV .i64) (binOp .quo 3 (.int .i64 (zC .i64 (x2 - x1))) (.int .i64 4)) w (λx20 w=>opE zA (zV .i64) (binOp .quo 3 (.int .i64 (zC .i64 (x2 - x1))) (.int .i64 4)) w (λx25 w=>opE zA (zV .i64) (binOp .quo 3 (.int .i64 (zC .i64 (x2 - x1))) (.int .i64 4)) w (λx30 w=>((8<=(zC .i64 (x2 - x1)))->(((50<=(zC .i64 (x2 - x1)))->(Cl zA 117 [(Sl.v x0),(.int .i64 (zC .i64 (x1+(zC .i64 (x20*1))))),(.pointer x11),x3].toArray w (λe w=>∃ (r_1:Int),e=.returned (.int .i64 r_1)/\(Cl zA 117 [(Sl.v x0),(.int .i64 (zC .i64 (x1+(zC .i64 (x25*2))))),(.pointer x11),x3].toArray w (λe w=>∃ (r_2:Int),e=.returned (.int .i64 r_2)/\(Cl zA 117 [(Sl.v x0),(.int .i64 (zC .i64 (x1+(zC .i64 (x30*3))))),(.pointer x11),x3].toArray w (λe w=>∃ (r_3:Int),e=.returned (.int .i64 r_3)/\(yy x0 x3 Ret x11 r_1 r_2 r_3 w))))))))/\(¬ (50<=(zC .i64 (x2 - x1)))->(yy x0 x3 Ret x11 (zC .i64 (x1+(zC .i64 (x20*1)))) (zC .i64 (x1+(zC .i64 (x25*2)))) (zC .i64 (x1+(zC .i64 (x30*3)))) w))))/\(¬ (8<=(zC .i64 (x2 - x1)))->(y5 Ret x11 (zC .i64 (x1+(zC .i64 (x25*2)))) w))))))
set_option maxRecDepth 100000 in
theorem zEd (x0:Sl) (x1:Int) (x2:Int) (x3:Value) (w:World) (Ret:Int->Int->World->Prop) (H:zAX x0 x1 x2 x3 w Ret):Cl zA 93 [(Sl.v x0),(.int .i64 x1),(.int .i64 x2),x3].toArray w (λe w'=>∃ (r0:Int) (r1:Int),e=.returned (.tuple [(.int .i64 r0),(.int .i64 r1)].toArray)/\Ret r0 r1 w'):=by
 unfold zAX at H
 refine zp 63 (zipE 0 [(Sl.v x0),(.int .i64 x1),(.int .i64 x2),x3]) Tryz.func93 rfl rfl (by rfl) rfl ?_
 intro a g
 have g:Sat [] 63 [(0,(Sl.v x0)),(1,(.int .i64 x1)),(2,(.int .i64 x2)),(3,x3)] a:=g
 refine zI (zE (g.s rfl λ_ g=>g.s rfl λ_ g=>zL (tn (zI (zE (g.m rfl λ_ g=>g.m rfl λ_ g=>g.p (zv g rfl rfl) λ_ g=>g.s rfl λ_ g=>zL (tn (zI (zE (g.o (xY) H λx11 w a H g=>zL (tn (zI (zE (g.m rfl λ_ g=>g.m rfl λ_ g=>g.o (ZS g rfl rfl) H λx20 w a H g=>g.p (zF8 g rfl rfl) λ_ g=>g.p (zr g rfl rfl) λ_ g=>g.s rfl λ_ g=>zL (tn (zI (zE (g.m rfl λ_ g=>g.m rfl λ_ g=>g.o (ZS g rfl rfl) H λx25 w a H g=>g.p (zF8 g rfl rfl) λ_ g=>g.p (zr g rfl rfl) λ_ g=>g.s rfl λ_ g=>zL (tn (zI (zE (g.m rfl λ_ g=>g.m rfl λ_ g=>g.o (ZS g rfl rfl) H λx30 w a H g=>g.p (zF8 g rfl rfl) λ_ g=>g.p (zr g rfl rfl) λ_ g=>g.s rfl λ_ g=>zL (tn (z8 (ds:=[]) (N:=63) (σ:=Int) (λs=>[(13,(.int .i64 s)),(11,(.pointer x11))]) (λs w=>y5 Ret x11 s w) ?_ (λhj1=>?_)))))))))))))))))))))))))
 ·intro x13 w a H g
  try dsimp only at H g
  unfold y5 at H
  refine zI (zE (g.o (zO g rfl) H λx55 w a H g=>zL (tn (zX (zI (zE (g.p (Zb g rfl rfl) λ_ g=>g.s rfl λ_ g=>zL (tn (zd g rfl (λhc=>?_) (λhc=>?_))))))))))
  ·have H:=H.1 hc
   exact zI (zE (g.m rfl λ_ g=>g.s rfl λ_ g=>g.s rfl λ_ g=>zL (tn (zl (br (ZK g rfl rfl rfl ⟨_,_,rfl,H⟩))))))
  ·have H:=H.2 hc
   refine zI (zE (g.p (Zb g rfl rfl) λ_ g=>g.s rfl λ_ g=>zL (tn (zd g rfl (λhc=>?_) (λhc=>?_)))))
   ·have H:=H.1 hc
    exact zI (zE (g.m rfl λ_ g=>g.s rfl λ_ g=>g.s rfl λ_ g=>zL (tn (zl (br (ZK g rfl rfl rfl ⟨_,_,rfl,H⟩))))))
   ·have H:=H.2 hc
    exact zI (zE (g.m rfl λ_ g=>g.s rfl λ_ g=>g.s rfl λ_ g=>zL (tn (zl (br (ZK g rfl rfl rfl ⟨_,_,rfl,H⟩))))))
 ·refine zI (zE (g.m rfl λ_ g=>g.p (Zm g rfl rfl) λ_ g=>zL (tn (zd g rfl (λhc=>?_) (λhc=>?_)))))
  ·have H:=H.1 hc
   refine z8 (ds:=[]) (N:=63) (σ:=Int × Int × Int) (λs=>[(12,(.int .i64 s.1)),(13,(.int .i64 s.2.1)),(14,(.int .i64 s.2.2)),(0,(Sl.v x0)),(3,x3),(11,(.pointer x11))]) (λs w=>yy x0 x3 Ret x11 s.1 s.2.1 s.2.2 w) ?_ (λhj2=>?_)
   ·rintro ⟨x12,x13_1,x14⟩ w a H g
    try dsimp only at H g
    unfold yy at H
    refine zE (g.m rfl λ_ g=>g.m rfl λ_ g=>g.m rfl λ_ g=>g.m rfl λ_ g=>g.m rfl λ_ g=>g.c (zb g zPz rfl rfl) H λe w H=>?_)
    obtain ⟨r,rfl,H⟩:=H
    exact ⟨_,rfl,λ_ g=>(g.s rfl λ_ g=>zL (tn (hj1 r _ _ H (g.k))))⟩
   ·refine zI (zE (g.m rfl λ_ g=>g.p (Zm g rfl rfl) λ_ g=>zL (tn (zd g rfl (λhc=>?_) (λhc=>?_)))))
    ·have H:=H.1 hc
     refine zI (zE (g.m rfl λ_ g=>g.m rfl λ_ g=>g.m rfl λ_ g=>g.c (zb g zOT rfl rfl) H λe w H=>?_))
     obtain ⟨r_1,rfl,H⟩:=H
     refine ⟨_,rfl,λ_ g=>(g.s rfl λ_ g=>zL (tn (zI (zE (g.m rfl λ_ g=>g.m rfl λ_ g=>g.m rfl λ_ g=>g.c (zb g zOT rfl rfl) H λe w H=>?_)))))⟩
     obtain ⟨r_2,rfl,H⟩:=H
     refine ⟨_,rfl,λ_ g=>(g.s rfl λ_ g=>zL (tn (zE (g.m rfl λ_ g=>g.m rfl λ_ g=>g.m rfl λ_ g=>g.c (zb g zOT rfl rfl) H λe w H=>?_))))⟩
     obtain ⟨r_3,rfl,H⟩:=H
     exact ⟨_,rfl,λ_ g=>(g.s rfl λ_ g=>zL (tn (hj2 (r_1,r_2,r_3) _ _ H (g.k))))⟩
    ·have H:=H.2 hc
     exact zY (tn (hj2 ((zC .i64 (x1+(zC .i64 (x20*1)))),(zC .i64 (x1+(zC .i64 (x25*2)))),(zC .i64 (x1+(zC .i64 (x30*3))))) _ _ H (g.k)))
  ·have H:=H.2 hc
   exact zY (tn (hj1 (zC .i64 (x1+(zC .i64 (x25*2)))) _ _ H (g.k)))
def QV (x8:Int) (x9:Int) (Kl1:Int->Int->World->Prop) (w:World):Prop:=
 Kl1 (zC .i64 (x8+1)) (zC .i64 (x9 - 1)) w
def Yn (x0:Sl) (Ret:World->Prop) (x8:Int) (x9:Int) (w:World) (Kl1:Int->Int->World->Prop):Prop:=
 ((x8<x9)->(yM w (λw=>opP zA zB (zF 22 (Sl.v x0) (.int .i64 x9)) (λx22=>opP zA zB (zF 22 (Sl.v x0) (.int .i64 x8)) (λx26=>(opE zA zM.v (zD 66 (.pointer x22)) w (λx23 w=>opE zA zM.v (zD 66 (.pointer x26)) w (λx27 w=>opP zA zB (zF 22 (Sl.v x0) (.int .i64 x8)) (λx28=>opU zA (zK 66 (.pointer x28) (zM.v x23)) w (λw=>opP zA zB (zF 22 (Sl.v x0) (.int .i64 x9)) (λx29=>opU zA (zK 66 (.pointer x29) (zM.v x27)) w (λw=>QV x8 x9 Kl1 w)))))))/\(opE zA zM.v (zD 66 (.pointer x26)) w (λx27_1 w=>opE zA zM.v (zD 66 (.pointer x22)) w (λx23_1 w=>opP zA zB (zF 22 (Sl.v x0) (.int .i64 x8)) (λx28_1=>opU zA (zK 66 (.pointer x28_1) (zM.v x23_1)) w (λw=>opP zA zB (zF 22 (Sl.v x0) (.int .i64 x9)) (λx29_1=>opU zA (zK 66 (.pointer x29_1) (zM.v x27_1)) w (λw=>QV x8 x9 Kl1 w))))))))))))/\(¬ (x8<x9)->(Ret w))
def zAQ (x0:Sl) (x1:Int) (x2:Int) (x3:Value) (w:World) (Ret:World->Prop):Prop:=
 ∃ (I:Int->Int->World->Prop) (μ:Int->Int->World->Nat),I x1 (zC .i64 (x2 - 1)) w/\∀ (x8:Int) (x9:Int) w,I x8 x9 w->Yn x0 Ret x8 x9 w (λx8' x9' w'=>I x8' x9' w'/\μ x8' x9' w'<μ x8 x9 w)
set_option maxRecDepth 100000 in
theorem zEO (x0:Sl) (x1:Int) (x2:Int) (x3:Value) (w:World) (Ret:World->Prop) (H:zAQ x0 x1 x2 x3 w Ret):Cl zA 94 [(Sl.v x0),(.int .i64 x1),(.int .i64 x2),x3].toArray w (λe w'=>e=.returned (.tuple [].toArray)/\Ret w'):=by
 unfold zAQ at H
 refine zp 34 (zipE 0 [(Sl.v x0),(.int .i64 x1),(.int .i64 x2),x3]) Tryz.func94 rfl rfl (by rfl) rfl ?_
 intro a g
 have g:Sat [] 34 [(0,(Sl.v x0)),(1,(.int .i64 x1)),(2,(.int .i64 x2)),(3,x3)] a:=g
 refine zI (zE (g.m rfl λ_ g=>g.s rfl λ_ g=>zL (tn (zI (zE (g.m rfl λ_ g=>g.p (zv g rfl rfl) λ_ g=>g.s rfl λ_ g=>zL (tn (zX ?_))))))))
 obtain ⟨I_l1,μ_l1,h0,hb⟩:=H
 refine yE (ds:=[]) (N:=34) (σ:=Int × Int) (λs=>[(8,(.int .i64 s.1)),(9,(.int .i64 s.2)),(0,(Sl.v x0))]) (λs w=>I_l1 s.1 s.2 w) (λs w=>μ_l1 s.1 s.2 w) (x1,(zC .i64 (x2 - 1))) h0 (g.k) ?_
 rintro ⟨x8,x9⟩ w a hI g
 try dsimp only at hI g
 obtain ⟨Kl1,hK_l1⟩:∃ K:Int->Int->World->Prop,K=(λx8' x9' w'=>I_l1 x8' x9' w'/\μ_l1 x8' x9' w'<μ_l1 x8 x9 w):=⟨_,rfl⟩
 have H:Yn x0 Ret x8 x9 w Kl1:=by rw [hK_l1];exact hb x8 x9 w hI
 clear hb h0 hI
 unfold Yn at H
 refine zI (zI (zE (g.m rfl λ_ g=>g.m rfl λ_ g=>g.p (yR g rfl rfl) λ_ g=>zL (tn (zd g rfl (λhc=>?_) (λhc=>?_))))))
 ·have H:=H.1 hc
  refine zY (tn (zX (z8 (ds:=[]) (N:=34) (σ:=Unit) (λs=>[(0,(Sl.v x0)),(8,(.int .i64 x8)),(9,(.int .i64 x9))]) (λs w=>QV x8 x9 Kl1 w) ?_ (λhj2=>?_))))
  ·rintro ⟨⟩ w a H g
   try dsimp only at H g
   unfold QV at H
   refine zI (zE (g.m rfl λ_ g=>g.p (zr g rfl rfl) λ_ g=>g.s rfl λ_ g=>zL (tn (zE (g.m rfl λ_ g=>g.p (zv g rfl rfl) λ_ g=>g.s rfl λ_ g=>?_)))))
   rw [hK_l1] at H
   exact zL (bn (tn ⟨((zC .i64 (x8+1)),(zC .i64 (x9 - 1))),g.k,H⟩))
  ·refine zCC 16 λw hB=>?_
   replace H:=H w hB
   refine g.x 0 rfl (zR g rfl) λ_ g=>g.x 1 rfl (zR g rfl) λ_ g=>g.x 2 rfl (zR g rfl) λ_ g=>g.x 3 rfl (zR g rfl) λ_ g=>g.x 4 rfl (zR g rfl) λ_ g=>g.x 5 rfl (zR g rfl) λ_ g=>g.y 6 rfl (zH g rfl rfl) H λx22 a H g=>g.x 8 rfl (zR g rfl) λ_ g=>g.x 9 rfl (zR g rfl) λ_ g=>g.y 10 rfl (zH g rfl rfl) H λx26 a H g=>WA.tw 7 11 rfl rfl ?_ ?_
   ·have H:=H.1
    intro K hK
    exact g.i (zO g rfl) H λx23 w a H g=>hK _ _ (g.j 11 rfl (zO g rfl) H λx27 w a H g=>g.y 12 rfl (zH g rfl rfl) H λx28 a H g=>g.l 13 rfl (zT g rfl rfl) H λw a H g=>g.y 14 rfl (zH g rfl rfl) H λx29 a H g=>g.l 15 rfl (zT g rfl rfl) H λw a H g=>WA.ni ((tn (hj2 () _ _ H (g.k)))))
   ·have H:=H.2
    intro K hK
    exact g.i (zO g rfl) H λx27_1 w a H g=>hK _ _ (g.j 7 rfl (zO g rfl) H λx23_1 w a H g=>g.y 12 rfl (zH g rfl rfl) H λx28_1 a H g=>g.l 13 rfl (zT g rfl rfl) H λw a H g=>g.y 14 rfl (zH g rfl rfl) H λx29_1 a H g=>g.l 15 rfl (zT g rfl rfl) H λw a H g=>WA.ni ((tn (hj2 () _ _ H (g.k)))))
 ·have H:=H.2 hc
  exact z7 (te (te (be (zBg g rfl ⟨rfl,H⟩))))
def yB (x10:Int) (Kl1:Int->Int->World->Prop) (x9_1:Int) (w:World):Prop:=
 Kl1 x9_1 (zC .i64 (x10+1)) w
def ym (x12:Int) (Kl7:Int->World->Prop) (w:World):Prop:=
 Kl7 (zC .i64 (x12+1)) w
def QD (x0:Sl) (x2:Int) (x3:Value) (x10:Int) (Kl1:Int->Int->World->Prop) (x9_2:Int) (x12:Int) (w:World) (Kl7:Int->World->Prop):Prop:=
 ((x12<x2)->(opB zA zB (zF 22 (Sl.v x0) (.int .i64 x12)) w (λx115=>opB zA zM.v (zD 66 (.pointer x115)) w (λx116=>opB zA zB (zF 22 (Sl.v x0) (.int .i64 (zC .i64 (x12 - 1)))) w (λx120=>opB zA zM.v (zD 66 (.pointer x120)) w (λx121=>∃ (r:Int),Zs zA x3 [(zM.v x116),(zM.v x121)] w (.int .i64 r)/\(yM w (λw=>((!(decide (r<0)))=true->(yB x10 Kl1 x9_2 w))/\((!(decide (r<0)))=false->(yM w (λw=>opP zA zB (zF 22 (Sl.v x0) (.int .i64 (zC .i64 (x12 - 1)))) (λx133=>opP zA zB (zF 22 (Sl.v x0) (.int .i64 x12)) (λx137=>(opE zA zM.v (zD 66 (.pointer x133)) w (λx134 w=>opE zA zM.v (zD 66 (.pointer x137)) w (λx138 w=>opP zA zB (zF 22 (Sl.v x0) (.int .i64 x12)) (λx139=>opU zA (zK 66 (.pointer x139) (zM.v x134)) w (λw=>opP zA zB (zF 22 (Sl.v x0) (.int .i64 (zC .i64 (x12 - 1)))) (λx140=>opU zA (zK 66 (.pointer x140) (zM.v x138)) w (λw=>ym x12 Kl7 w)))))))/\(opE zA zM.v (zD 66 (.pointer x137)) w (λx138_1 w=>opE zA zM.v (zD 66 (.pointer x133)) w (λx134_1 w=>opP zA zB (zF 22 (Sl.v x0) (.int .i64 x12)) (λx139_1=>opU zA (zK 66 (.pointer x139_1) (zM.v x134_1)) w (λw=>opP zA zB (zF 22 (Sl.v x0) (.int .i64 (zC .i64 (x12 - 1)))) (λx140_1=>opU zA (zK 66 (.pointer x140_1) (zM.v x138_1)) w (λw=>ym x12 Kl7 w))))))))))))))))))))/\(¬ (x12<x2)->(yB x10 Kl1 x9_2 w))
def z5 (x0:Sl) (x2:Int) (x3:Value) (x10:Int) (Kl1:Int->Int->World->Prop) (x9_2:Int) (w:World):Prop:=
 ((2<=(zC .i64 (x2 - x9_2)))->(∃ (I:Int->World->Prop) (μ:Int->World->Nat),I (zC .i64 (x9_2+1)) w/\∀ (x12:Int) w,I x12 w->QD x0 x2 x3 x10 Kl1 x9_2 x12 w (λx12' w'=>I x12' w'/\μ x12' w'<μ x12 w)))/\(¬ (2<=(zC .i64 (x2 - x9_2)))->(yB x10 Kl1 x9_2 w))
def yd (x11:Int) (Kl9:Int->World->Prop) (w:World):Prop:=
 Kl9 (zC .i64 (x11 - 1)) w
def QE (x0:Sl) (x2:Int) (x3:Value) (x10:Int) (Kl1:Int->Int->World->Prop) (x9_2:Int) (x11:Int) (w:World) (Kl9:Int->World->Prop):Prop:=
 ((1<=x11)->(opB zA zB (zF 22 (Sl.v x0) (.int .i64 x11)) w (λx75=>opB zA zM.v (zD 66 (.pointer x75)) w (λx76=>opB zA zB (zF 22 (Sl.v x0) (.int .i64 (zC .i64 (x11 - 1)))) w (λx80=>opB zA zM.v (zD 66 (.pointer x80)) w (λx81=>∃ (r_1:Int),Zs zA x3 [(zM.v x76),(zM.v x81)] w (.int .i64 r_1)/\(yM w (λw=>((!(decide (r_1<0)))=true->(z5 x0 x2 x3 x10 Kl1 x9_2 w))/\((!(decide (r_1<0)))=false->(yM w (λw=>opP zA zB (zF 22 (Sl.v x0) (.int .i64 (zC .i64 (x11 - 1)))) (λx93=>opP zA zB (zF 22 (Sl.v x0) (.int .i64 x11)) (λx97=>(opE zA zM.v (zD 66 (.pointer x93)) w (λx94 w=>opE zA zM.v (zD 66 (.pointer x97)) w (λx98 w=>opP zA zB (zF 22 (Sl.v x0) (.int .i64 x11)) (λx99=>opU zA (zK 66 (.pointer x99) (zM.v x94)) w (λw=>opP zA zB (zF 22 (Sl.v x0) (.int .i64 (zC .i64 (x11 - 1)))) (λx100=>opU zA (zK 66 (.pointer x100) (zM.v x98)) w (λw=>yd x11 Kl9 w)))))))/\(opE zA zM.v (zD 66 (.pointer x97)) w (λx98_1 w=>opE zA zM.v (zD 66 (.pointer x93)) w (λx94_1 w=>opP zA zB (zF 22 (Sl.v x0) (.int .i64 x11)) (λx99_1=>opU zA (zK 66 (.pointer x99_1) (zM.v x94_1)) w (λw=>opP zA zB (zF 22 (Sl.v x0) (.int .i64 (zC .i64 (x11 - 1)))) (λx100_1=>opU zA (zK 66 (.pointer x100_1) (zM.v x98_1)) w (λw=>yd x11 Kl9 w))))))))))))))))))))/\(¬ (1<=x11)->(z5 x0 x2 x3 x10 Kl1 x9_2 w))
def yk (x0:Sl) (x1:Int) (x2:Int) (x3:Value) (x10:Int) (Kl1:Int->Int->World->Prop) (x9_2:Int) (w:World):Prop:=
 ((2<=(zC .i64 (x9_2 - x1)))->(∃ (I:Int->World->Prop) (μ:Int->World->Nat),I (zC .i64 (x9_2 - 1)) w/\∀ (x11:Int) w,I x11 w->QE x0 x2 x3 x10 Kl1 x9_2 x11 w (λx11' w'=>I x11' w'/\μ x11' w'<μ x11 w)))/\(¬ (2<=(zC .i64 (x9_2 - x1)))->(z5 x0 x2 x3 x10 Kl1 x9_2 w))
def yl (x0:Sl) (x1:Int) (x2:Int) (x3:Value) (Ret:Bool->World->Prop) (x10:Int) (Kl1:Int->Int->World->Prop) (x9_2:Int) (Kl3:Int->World->Prop) (x36:Bool) (w:World):Prop:=
 yM w (λw=>(x36=true->(Kl3 (zC .i64 (x9_2+1)) w))/\(x36=false->(((x9_2=x2)->(Ret true w))/\(¬ (x9_2=x2)->((((zC .i64 (x2 - x1))<50)->(Ret false w))/\(¬ ((zC .i64 (x2 - x1))<50)->(yM w (λw=>opP zA zB (zF 22 (Sl.v x0) (.int .i64 (zC .i64 (x9_2 - 1)))) (λx54=>opP zA zB (zF 22 (Sl.v x0) (.int .i64 x9_2)) (λx58=>(opE zA zM.v (zD 66 (.pointer x54)) w (λx55 w=>opE zA zM.v (zD 66 (.pointer x58)) w (λx59 w=>opP zA zB (zF 22 (Sl.v x0) (.int .i64 x9_2)) (λx60=>opU zA (zK 66 (.pointer x60) (zM.v x55)) w (λw=>opP zA zB (zF 22 (Sl.v x0) (.int .i64 (zC .i64 (x9_2 - 1)))) (λx61=>opU zA (zK 66 (.pointer x61) (zM.v x59)) w (λw=>yk x0 x1 x2 x3 x10 Kl1 x9_2 w)))))))/\(opE zA zM.v (zD 66 (.pointer x58)) w (λx59_1 w=>opE zA zM.v (zD 66 (.pointer x54)) w (λx55_1 w=>opP zA zB (zF 22 (Sl.v x0) (.int .i64 x9_2)) (λx60_1=>opU zA (zK 66 (.pointer x60_1) (zM.v x55_1)) w (λw=>opP zA zB (zF 22 (Sl.v x0) (.int .i64 (zC .i64 (x9_2 - 1)))) (λx61_1=>opU zA (zK 66 (.pointer x61_1) (zM.v x59_1)) w (λw=>yk x0 x1 x2 x3 x10 Kl1 x9_2 w)))))))))))))))))
def QG (x0:Sl) (x1:Int) (x2:Int) (x3:Value) (Ret:Bool->World->Prop) (x10:Int) (Kl1:Int->Int->World->Prop) (x9_2:Int) (w:World) (Kl3:Int->World->Prop):Prop:=
 ((x9_2<x2)->(opB zA zB (zF 22 (Sl.v x0) (.int .i64 x9_2)) w (λx26=>opB zA zM.v (zD 66 (.pointer x26)) w (λx27=>opB zA zB (zF 22 (Sl.v x0) (.int .i64 (zC .i64 (x9_2 - 1)))) w (λx31=>opB zA zM.v (zD 66 (.pointer x31)) w (λx32=>∃ (r_2:Int),Zs zA x3 [(zM.v x27),(zM.v x32)] w (.int .i64 r_2)/\(yl x0 x1 x2 x3 Ret x10 Kl1 x9_2 Kl3 (!(decide (r_2<0))) w)))))))/\(¬ (x9_2<x2)->(yl x0 x1 x2 x3 Ret x10 Kl1 x9_2 Kl3 false w))
def QF (x0:Sl) (x1:Int) (x2:Int) (x3:Value) (Ret:Bool->World->Prop) (x9:Int) (x10:Int) (w:World) (Kl1:Int->Int->World->Prop):Prop:=
 ((x10<5)->(∃ (I:Int->World->Prop) (μ:Int->World->Nat),I x9 w/\∀ (x9_2:Int) w,I x9_2 w->QG x0 x1 x2 x3 Ret x10 Kl1 x9_2 w (λx9_2' w'=>I x9_2' w'/\μ x9_2' w'<μ x9_2 w)))/\(¬ (x10<5)->(Ret false w))
def ZJ (x0:Sl) (x1:Int) (x2:Int) (x3:Value) (w:World) (Ret:Bool->World->Prop):Prop:=
 ∃ (I:Int->Int->World->Prop) (μ:Int->Int->World->Nat),I (zC .i64 (x1+1)) 0 w/\∀ (x9:Int) (x10:Int) w,I x9 x10 w->QF x0 x1 x2 x3 Ret x9 x10 w (λx9' x10' w'=>I x9' x10' w'/\μ x9' x10' w'<μ x9 x10 w)
set_option maxRecDepth 100000 in
theorem zCp (x0:Sl) (x1:Int) (x2:Int) (x3:Value) (w:World) (Ret:Bool->World->Prop) (H:ZJ x0 x1 x2 x3 w Ret):Cl zA 95 [(Sl.v x0),(.int .i64 x1),(.int .i64 x2),x3].toArray w (λe w'=>∃ (r0:Bool),e=.returned (.bool r0)/\Ret r0 w'):=by
 unfold ZJ at H
 refine zp 141 (zipE 0 [(Sl.v x0),(.int .i64 x1),(.int .i64 x2),x3]) Tryz.func95 rfl rfl (by rfl) rfl ?_
 intro a g
 have g:Sat [] 141 [(0,(Sl.v x0)),(1,(.int .i64 x1)),(2,(.int .i64 x2)),(3,x3)] a:=g
 refine zI (zE (g.s rfl λ_ g=>zL (tn (zI (zE (g.m rfl λ_ g=>g.p (zr g rfl rfl) λ_ g=>g.s rfl λ_ g=>zL (tn (zI (zI (zE (g.s rfl λ_ g=>zL (tn (zX ?_)))))))))))))
 obtain ⟨I_l1,μ_l1,h0,hb⟩:=H
 refine yE (ds:=[]) (N:=141) (σ:=Int × Int) (λs=>[(9,(.int .i64 s.1)),(10,(.int .i64 s.2)),(0,(Sl.v x0)),(1,(.int .i64 x1)),(2,(.int .i64 x2)),(3,x3)]) (λs w=>I_l1 s.1 s.2 w) (λs w=>μ_l1 s.1 s.2 w) ((zC .i64 (x1+1)),0) h0 (g.k) ?_
 rintro ⟨x9,x10⟩ w a hI g
 try dsimp only at hI g
 obtain ⟨Kl1,hK_l1⟩:∃ K:Int->Int->World->Prop,K=(λx9' x10' w'=>I_l1 x9' x10' w'/\μ_l1 x9' x10' w'<μ_l1 x9 x10 w):=⟨_,rfl⟩
 have H:QF x0 x1 x2 x3 Ret x9 x10 w Kl1:=by rw [hK_l1];exact hb x9 x10 w hI
 clear hb h0 hI
 unfold QF at H
 refine zI (zI (zE (g.m rfl λ_ g=>g.p (yR g rfl rfl) λ_ g=>zL (tn (zd g rfl (λhc=>?_) (λhc=>?_))))))
 ·have H:=H.1 hc
  refine zY (tn (z8 (ds:=[]) (N:=141) (σ:=Int) (λs=>[(9,(.int .i64 s)),(0,(Sl.v x0)),(1,(.int .i64 x1)),(2,(.int .i64 x2)),(3,x3),(10,(.int .i64 x10))]) (λs w=>yB x10 Kl1 s w) ?_ (λhj2=>?_)))
  ·intro x9_1 w a H g
   try dsimp only at H g
   unfold yB at H
   refine zE (g.m rfl λ_ g=>g.p (zr g rfl rfl) λ_ g=>g.s rfl λ_ g=>?_)
   rw [hK_l1] at H
   exact zL (tn ⟨(x9_1,(zC .i64 (x10+1))),g.k,H⟩)
  ·refine zX (zI (zX ?_))
   obtain ⟨I_l3,μ_l3,h0,hb⟩:=H
   refine yE (ds:=[]) (N:=141) (σ:=Int) (λs=>[(9,(.int .i64 s)),(0,(Sl.v x0)),(1,(.int .i64 x1)),(2,(.int .i64 x2)),(3,x3),(10,(.int .i64 x10))]) (λs w=>I_l3 s w) (λs w=>μ_l3 s w) x9 h0 (g.k) ?_
   intro x9_2 w a hI g
   try dsimp only at hI g
   obtain ⟨Kl3,hK_l3⟩:∃ K:Int->World->Prop,K=(λx9_2' w'=>I_l3 x9_2' w'/\μ_l3 x9_2' w'<μ_l3 x9_2 w):=⟨_,rfl⟩
   have H:QG x0 x1 x2 x3 Ret x10 Kl1 x9_2 w Kl3:=by rw [hK_l3];exact hb x9_2 w hI
   clear hb h0 hI
   unfold QG at H
   refine zI (zI (QU (by kernel_rfl) (by kernel_rfl) (g.t rfl λ_ g=>g.t rfl λ_ g=>g.r (yR g rfl rfl) λ_ g=>g.t rfl λ_ g=>WQ.join (ds:=[]) (N:=141) (σ:=Bool) (λs=>[(36,(.bool s)),(0,(Sl.v x0)),(1,(.int .i64 x1)),(2,(.int .i64 x2)),(3,x3),(9,(.int .i64 x9_2)),(10,(.int .i64 x10))]) (λs=>yl x0 x1 x2 x3 Ret x10 Kl1 x9_2 Kl3 s w) 14 ?_ (λhr4=>?_))))
   ·intro x36 a H g
    try dsimp only at H g
    unfold yl at H
    refine Qb (λw hB=>?_)
    replace H:=H w hB
    refine (tn (zk g rfl (λhc=>?_) (λhc=>?_)))
    ·have H:=H.1 hc
     refine zY (tn (zX (zE (g.m rfl λ_ g=>g.p (zr g rfl rfl) λ_ g=>g.s rfl λ_ g=>?_))))
     rw [hK_l3] at H
     exact zL (bn (tn ⟨(zC .i64 (x9_2+1)),g.k,H⟩))
    ·have H:=H.2 hc
     refine z7 (te (te (be (tn (zI (zI (zE (g.m rfl λ_ g=>g.m rfl λ_ g=>g.p (Zb g rfl rfl) λ_ g=>zL (tn (zd g rfl (λhc=>?_) (λhc=>?_)))))))))))
     ·have H:=H.1 hc
      exact zI (zE (g.s rfl λ_ g=>zL (tn (zl (tr (br (tr (tr (br (tr (zw g rfl rfl ⟨_,rfl,H⟩)))))))))))
     ·have H:=H.2 hc
      refine zY (tn (zI (zI (zE (g.m rfl λ_ g=>g.m rfl λ_ g=>g.p (zv g rfl rfl) λ_ g=>g.p (yR g rfl rfl) λ_ g=>zL (tn (zd g rfl (λhc=>?_) (λhc=>?_))))))))
      ·have H:=H.1 hc
       exact zI (zE (g.s rfl λ_ g=>zL (tn (zl (tr (br (tr (tr (br (tr (zw g rfl rfl ⟨_,rfl,H⟩)))))))))))
      ·have H:=H.2 hc
       refine zY (tn (z8 (ds:=[]) (N:=141) (σ:=Unit) (λs=>[(0,(Sl.v x0)),(1,(.int .i64 x1)),(2,(.int .i64 x2)),(3,x3),(9,(.int .i64 x9_2)),(10,(.int .i64 x10))]) (λs w=>yk x0 x1 x2 x3 x10 Kl1 x9_2 w) ?_ (λhj5=>?_)))
       ·rintro ⟨⟩ w a H g
        try dsimp only at H g
        unfold yk at H
        refine z8 (ds:=[]) (N:=141) (σ:=Unit) (λs=>[(0,(Sl.v x0)),(1,(.int .i64 x1)),(2,(.int .i64 x2)),(3,x3),(9,(.int .i64 x9_2)),(10,(.int .i64 x10))]) (λs w=>z5 x0 x2 x3 x10 Kl1 x9_2 w) ?_ (λhj6=>?_)
        ·rintro ⟨⟩ w a H g
         try dsimp only at H g
         unfold z5 at H
         refine zI (zE (g.m rfl λ_ g=>g.m rfl λ_ g=>g.p (zv g rfl rfl) λ_ g=>g.p (Zm g rfl rfl) λ_ g=>zL (tn (zd g rfl (λhc=>?_) (λhc=>?_)))))
         ·have H:=H.1 hc
          refine zI (zE (g.m rfl λ_ g=>g.p (zr g rfl rfl) λ_ g=>g.s rfl λ_ g=>zL (tn (zX ?_))))
          obtain ⟨I_l7,μ_l7,h0,hb⟩:=H
          refine yE (ds:=[]) (N:=141) (σ:=Int) (λs=>[(12,(.int .i64 s)),(0,(Sl.v x0)),(1,(.int .i64 x1)),(2,(.int .i64 x2)),(3,x3),(9,(.int .i64 x9_2)),(10,(.int .i64 x10))]) (λs w=>I_l7 s w) (λs w=>μ_l7 s w) (zC .i64 (x9_2+1)) h0 (g.k) ?_
          intro x12 w a hI g
          try dsimp only at hI g
          obtain ⟨Kl7,hK_l7⟩:∃ K:Int->World->Prop,K=(λx12' w'=>I_l7 x12' w'/\μ_l7 x12' w'<μ_l7 x12 w):=⟨_,rfl⟩
          have H:QD x0 x2 x3 x10 Kl1 x9_2 x12 w Kl7:=by rw [hK_l7];exact hb x12 w hI
          clear hb h0 hI
          unfold QD at H
          refine zI (zI (zE (g.m rfl λ_ g=>g.m rfl λ_ g=>g.p (yR g rfl rfl) λ_ g=>zL (tn (zd g rfl (λhc=>?_) (λhc=>?_))))))
          ·have H:=H.1 hc
           refine zY (tn (z8 (ds:=[]) (N:=141) (σ:=Unit) (λs=>[(0,(Sl.v x0)),(1,(.int .i64 x1)),(2,(.int .i64 x2)),(3,x3),(9,(.int .i64 x9_2)),(10,(.int .i64 x10)),(12,(.int .i64 x12))]) (λs w=>ym x12 Kl7 w) ?_ (λhj8=>?_)))
           ·rintro ⟨⟩ w a H g
            try dsimp only at H g
            unfold ym at H
            refine zE (g.m rfl λ_ g=>g.p (zr g rfl rfl) λ_ g=>g.s rfl λ_ g=>?_)
            rw [hK_l7] at H
            exact zL (tn ⟨(zC .i64 (x12+1)),g.k,H⟩)
           ·refine zX (zI (zI (QU (by kernel_rfl) (by kernel_rfl) (g.t rfl λ_ g=>g.t rfl λ_ g=>g.t rfl λ_ g=>g.A (zH g rfl rfl) H λx115 a H g=>g.A (zO g rfl) H λx116 a H g=>g.t rfl λ_ g=>g.t rfl λ_ g=>g.r (zv g rfl rfl) λ_ g=>g.A (zH g rfl rfl) H λx120 a H g=>g.A (zO g rfl) H λx121 a H g=>?_))))
            obtain ⟨r,hc,H⟩:=H
            refine g.qcallV rfl rfl hc λ_ g=>g.r (yR g rfl rfl) λ_ g=>g.r (zAJ g rfl) λ_ g=>Qb (λw hB=>?_)
            replace H:=H w hB
            refine (tn (zk g rfl (λhc=>?_) (λhc=>?_)))
            ·have H:=H.1 hc
             exact z7 (te (bo (te (te (be (bn (tn (hj2 x9_2 _ _ H (g.k)))))))))
            ·have H:=H.2 hc
             refine zY (tn (zCC 18 λw hB=>?_))
             replace H:=H w hB
             refine g.x 0 rfl (zR g rfl) λ_ g=>g.x 1 rfl (zR g rfl) λ_ g=>g.x 2 rfl (zR g rfl) λ_ g=>g.x 3 rfl (zR g rfl) λ_ g=>g.x 4 rfl (zv g rfl rfl) λ_ g=>g.x 5 rfl (zR g rfl) λ_ g=>g.x 6 rfl (zR g rfl) λ_ g=>g.x 7 rfl (zv g rfl rfl) λ_ g=>g.y 8 rfl (zH g rfl rfl) H λx133 a H g=>g.x 10 rfl (zR g rfl) λ_ g=>g.x 11 rfl (zR g rfl) λ_ g=>g.y 12 rfl (zH g rfl rfl) H λx137 a H g=>WA.tw 9 13 rfl rfl ?_ ?_
             ·have H:=H.1
              intro K hK
              exact g.i (zO g rfl) H λx134 w a H g=>hK _ _ (g.j 13 rfl (zO g rfl) H λx138 w a H g=>g.y 14 rfl (zH g rfl rfl) H λx139 a H g=>g.l 15 rfl (zT g rfl rfl) H λw a H g=>g.y 16 rfl (zH g rfl rfl) H λx140 a H g=>g.l 17 rfl (zT g rfl rfl) H λw a H g=>WA.ni ((bn (tn (hj8 () _ _ H (g.k))))))
             ·have H:=H.2
              intro K hK
              exact g.i (zO g rfl) H λx138_1 w a H g=>hK _ _ (g.j 9 rfl (zO g rfl) H λx134_1 w a H g=>g.y 14 rfl (zH g rfl rfl) H λx139_1 a H g=>g.l 15 rfl (zT g rfl rfl) H λw a H g=>g.y 16 rfl (zH g rfl rfl) H λx140_1 a H g=>g.l 17 rfl (zT g rfl rfl) H λw a H g=>WA.ni ((bn (tn (hj8 () _ _ H (g.k))))))
          ·have H:=H.2 hc
           exact z7 (te (te (be (bn (tn (hj2 x9_2 _ _ H (g.k)))))))
         ·have H:=H.2 hc
          exact zY (bn (tn (hj2 x9_2 _ _ H (g.k))))
        ·refine zI (zE (g.m rfl λ_ g=>g.m rfl λ_ g=>g.p (zv g rfl rfl) λ_ g=>g.p (Zm g rfl rfl) λ_ g=>zL (tn (zd g rfl (λhc=>?_) (λhc=>?_)))))
         ·have H:=H.1 hc
          refine zI (zE (g.m rfl λ_ g=>g.p (zv g rfl rfl) λ_ g=>g.s rfl λ_ g=>zL (tn (zX ?_))))
          obtain ⟨I_l9,μ_l9,h0,hb⟩:=H
          refine yE (ds:=[]) (N:=141) (σ:=Int) (λs=>[(11,(.int .i64 s)),(0,(Sl.v x0)),(1,(.int .i64 x1)),(2,(.int .i64 x2)),(3,x3),(9,(.int .i64 x9_2)),(10,(.int .i64 x10))]) (λs w=>I_l9 s w) (λs w=>μ_l9 s w) (zC .i64 (x9_2 - 1)) h0 (g.k) ?_
          intro x11 w a hI g
          try dsimp only at hI g
          obtain ⟨Kl9,hK_l9⟩:∃ K:Int->World->Prop,K=(λx11' w'=>I_l9 x11' w'/\μ_l9 x11' w'<μ_l9 x11 w):=⟨_,rfl⟩
          have H:QE x0 x2 x3 x10 Kl1 x9_2 x11 w Kl9:=by rw [hK_l9];exact hb x11 w hI
          clear hb h0 hI
          unfold QE at H
          refine zI (zI (zE (g.m rfl λ_ g=>g.p (Zm g rfl rfl) λ_ g=>zL (tn (zd g rfl (λhc=>?_) (λhc=>?_))))))
          ·have H:=H.1 hc
           refine zY (tn (z8 (ds:=[]) (N:=141) (σ:=Unit) (λs=>[(0,(Sl.v x0)),(1,(.int .i64 x1)),(2,(.int .i64 x2)),(3,x3),(9,(.int .i64 x9_2)),(10,(.int .i64 x10)),(11,(.int .i64 x11))]) (λs w=>yd x11 Kl9 w) ?_ (λhj10=>?_)))
           ·rintro ⟨⟩ w a H g
            try dsimp only at H g
            unfold yd at H
            refine zE (g.m rfl λ_ g=>g.p (zv g rfl rfl) λ_ g=>g.s rfl λ_ g=>?_)
            rw [hK_l9] at H
            exact zL (tn ⟨(zC .i64 (x11 - 1)),g.k,H⟩)
           ·refine zX (zI (zI (QU (by kernel_rfl) (by kernel_rfl) (g.t rfl λ_ g=>g.t rfl λ_ g=>g.t rfl λ_ g=>g.A (zH g rfl rfl) H λx75 a H g=>g.A (zO g rfl) H λx76 a H g=>g.t rfl λ_ g=>g.t rfl λ_ g=>g.r (zv g rfl rfl) λ_ g=>g.A (zH g rfl rfl) H λx80 a H g=>g.A (zO g rfl) H λx81 a H g=>?_))))
            obtain ⟨r_1,hc,H⟩:=H
            refine g.qcallV rfl rfl hc λ_ g=>g.r (yR g rfl rfl) λ_ g=>g.r (zAJ g rfl) λ_ g=>Qb (λw hB=>?_)
            replace H:=H w hB
            refine (tn (zk g rfl (λhc=>?_) (λhc=>?_)))
            ·have H:=H.1 hc
             exact z7 (te (bo (te (te (be (tn (hj6 () _ _ H (g.k))))))))
            ·have H:=H.2 hc
             refine zY (tn (zCC 18 λw hB=>?_))
             replace H:=H w hB
             refine g.x 0 rfl (zR g rfl) λ_ g=>g.x 1 rfl (zR g rfl) λ_ g=>g.x 2 rfl (zR g rfl) λ_ g=>g.x 3 rfl (zR g rfl) λ_ g=>g.x 4 rfl (zv g rfl rfl) λ_ g=>g.x 5 rfl (zR g rfl) λ_ g=>g.x 6 rfl (zR g rfl) λ_ g=>g.x 7 rfl (zv g rfl rfl) λ_ g=>g.y 8 rfl (zH g rfl rfl) H λx93 a H g=>g.x 10 rfl (zR g rfl) λ_ g=>g.x 11 rfl (zR g rfl) λ_ g=>g.y 12 rfl (zH g rfl rfl) H λx97 a H g=>WA.tw 9 13 rfl rfl ?_ ?_
             ·have H:=H.1
              intro K hK
              exact g.i (zO g rfl) H λx94 w a H g=>hK _ _ (g.j 13 rfl (zO g rfl) H λx98 w a H g=>g.y 14 rfl (zH g rfl rfl) H λx99 a H g=>g.l 15 rfl (zT g rfl rfl) H λw a H g=>g.y 16 rfl (zH g rfl rfl) H λx100 a H g=>g.l 17 rfl (zT g rfl rfl) H λw a H g=>WA.ni ((bn (tn (hj10 () _ _ H (g.k))))))
             ·have H:=H.2
              intro K hK
              exact g.i (zO g rfl) H λx98_1 w a H g=>hK _ _ (g.j 9 rfl (zO g rfl) H λx94_1 w a H g=>g.y 14 rfl (zH g rfl rfl) H λx99_1 a H g=>g.l 15 rfl (zT g rfl rfl) H λw a H g=>g.y 16 rfl (zH g rfl rfl) H λx100_1 a H g=>g.l 17 rfl (zT g rfl rfl) H λw a H g=>WA.ni ((bn (tn (hj10 () _ _ H (g.k))))))
          ·have H:=H.2 hc
           exact z7 (te (te (be (tn (hj6 () _ _ H (g.k))))))
         ·have H:=H.2 hc
          exact zY (tn (hj6 () _ _ H (g.k)))
       ·refine zCC 18 λw hB=>?_
        replace H:=H w hB
        refine g.x 0 rfl (zR g rfl) λ_ g=>g.x 1 rfl (zR g rfl) λ_ g=>g.x 2 rfl (zR g rfl) λ_ g=>g.x 3 rfl (zR g rfl) λ_ g=>g.x 4 rfl (zv g rfl rfl) λ_ g=>g.x 5 rfl (zR g rfl) λ_ g=>g.x 6 rfl (zR g rfl) λ_ g=>g.x 7 rfl (zv g rfl rfl) λ_ g=>g.y 8 rfl (zH g rfl rfl) H λx54 a H g=>g.x 10 rfl (zR g rfl) λ_ g=>g.x 11 rfl (zR g rfl) λ_ g=>g.y 12 rfl (zH g rfl rfl) H λx58 a H g=>WA.tw 9 13 rfl rfl ?_ ?_
        ·have H:=H.1
         intro K hK
         exact g.i (zO g rfl) H λx55 w a H g=>hK _ _ (g.j 13 rfl (zO g rfl) H λx59 w a H g=>g.y 14 rfl (zH g rfl rfl) H λx60 a H g=>g.l 15 rfl (zT g rfl rfl) H λw a H g=>g.y 16 rfl (zH g rfl rfl) H λx61 a H g=>g.l 17 rfl (zT g rfl rfl) H λw a H g=>WA.ni ((tn (hj5 () _ _ H (g.k)))))
        ·have H:=H.2
         intro K hK
         exact g.i (zO g rfl) H λx59_1 w a H g=>hK _ _ (g.j 9 rfl (zO g rfl) H λx55_1 w a H g=>g.y 14 rfl (zH g rfl rfl) H λx60_1 a H g=>g.l 15 rfl (zT g rfl rfl) H λw a H g=>g.y 16 rfl (zH g rfl rfl) H λx61_1 a H g=>g.l 17 rfl (zT g rfl rfl) H λw a H g=>WA.ni ((tn (hj5 () _ _ H (g.k)))))
   ·rcases Classical.em ((x9_2<x2)) with hbr4|hbr4
    ·have H:=H.1 hbr4
     have g:=g.b (b:=true) (t:=22) rfl (decide_eq_true hbr4)
     refine g.e (g.t rfl λ_ g=>g.e (g.t rfl λ_ g=>g.e (g.t rfl λ_ g=>g.e (g.A (zH g rfl rfl) H λx26 a H g=>g.e (g.A (zO g rfl) H λx27 a H g=>g.e (g.t rfl λ_ g=>g.e (g.t rfl λ_ g=>g.e (g.r (zv g rfl rfl) λ_ g=>g.e (g.A (zH g rfl rfl) H λx31 a H g=>g.e (g.A (zO g rfl) H λx32 a H g=>g.e ?_))))))))))
     obtain ⟨r_2,hc,H⟩:=H
     exact g.qcallV rfl rfl hc λ_ g=>g.e (g.r (yR g rfl rfl) λ_ g=>g.e (g.r (zAJ g rfl) λ_ g=>g.r (zx g rfl rfl) λ_ g=>hr4 (!(decide (r_2<0))) _ H (g.k)))
    ·have H:=H.2 hbr4
     have g:=g.b (b:=false) (t:=22) rfl (decide_eq_false hbr4)
     exact g.g (λ_ g=>g.g (λ_ g=>g.g (λ_ g=>g.g (λ_ g=>g.g (λ_ g=>g.g (λ_ g=>g.g (λ_ g=>g.g (λ_ g=>g.g (λ_ g=>g.g (λ_ g=>g.g (λ_ g=>g.g (λ_ g=>g.g (λ_ g=>g.r (zy g rfl rfl) λ_ g=>hr4 false _ H (g.k))))))))))))))
 ·have H:=H.2 hc
  exact z7 (te (te (be (tn (zI (zE (g.s rfl λ_ g=>zL (tn (zl (zw g rfl rfl ⟨_,rfl,H⟩))))))))))
def xq (Kl2:Int->Int->World->Prop) (x11_1:Int) (x12_1:Int) (w:World):Prop:=
 Kl2 (zC .i64 (x11_1+1)) (zC .i64 (x12_1 - 1)) w
def xj (x0:Sl) (Ret:Int->World->Prop) (Kl2:Int->Int->World->Prop) (x11_1:Int) (x12_1:Int) (Kl5:Int->World->Prop) (x65:Bool) (w:World):Prop:=
 yM w (λw=>(x65=true->(Kl5 (zC .i64 (x12_1 - 1)) w))/\(x65=false->(((x12_1<x11_1)->(Ret x11_1 w))/\(¬ (x12_1<x11_1)->(yM w (λw=>opP zA zB (zF 22 (Sl.v x0) (.int .i64 x12_1)) (λx77=>opP zA zB (zF 22 (Sl.v x0) (.int .i64 x11_1)) (λx81=>(opE zA zM.v (zD 66 (.pointer x77)) w (λx78 w=>opE zA zM.v (zD 66 (.pointer x81)) w (λx82 w=>opP zA zB (zF 22 (Sl.v x0) (.int .i64 x11_1)) (λx83=>opU zA (zK 66 (.pointer x83) (zM.v x78)) w (λw=>opP zA zB (zF 22 (Sl.v x0) (.int .i64 x12_1)) (λx84=>opU zA (zK 66 (.pointer x84) (zM.v x82)) w (λw=>xq Kl2 x11_1 x12_1 w)))))))/\(opE zA zM.v (zD 66 (.pointer x81)) w (λx82_1 w=>opE zA zM.v (zD 66 (.pointer x77)) w (λx78_1 w=>opP zA zB (zF 22 (Sl.v x0) (.int .i64 x11_1)) (λx83_1=>opU zA (zK 66 (.pointer x83_1) (zM.v x78_1)) w (λw=>opP zA zB (zF 22 (Sl.v x0) (.int .i64 x12_1)) (λx84_1=>opU zA (zK 66 (.pointer x84_1) (zM.v x82_1)) w (λw=>xq Kl2 x11_1 x12_1 w)))))))))))))))
def YL (x0:Sl) (x1:Int) (x4:Value) (Ret:Int->World->Prop) (Kl2:Int->Int->World->Prop) (x11_1:Int) (x12_1:Int) (w:World) (Kl5:Int->World->Prop):Prop:=
 ((x11_1<=x12_1)->(opB zA zB (zF 22 (Sl.v x0) (.int .i64 x1)) w (λx57=>opB zA zM.v (zD 66 (.pointer x57)) w (λx58=>opB zA zB (zF 22 (Sl.v x0) (.int .i64 x12_1)) w (λx61=>opB zA zM.v (zD 66 (.pointer x61)) w (λx62=>∃ (r:Int),Zs zA x4 [(zM.v x58),(zM.v x62)] w (.int .i64 r)/\(xj x0 Ret Kl2 x11_1 x12_1 Kl5 (decide (r<0)) w)))))))/\(¬ (x11_1<=x12_1)->(xj x0 Ret Kl2 x11_1 x12_1 Kl5 false w))
def xr (x0:Sl) (x1:Int) (x4:Value) (Ret:Int->World->Prop) (x12:Int) (Kl2:Int->Int->World->Prop) (x11_1:Int) (Kl3:Int->World->Prop) (x47:Bool) (w:World):Prop:=
 yM w (λw=>(x47=true->(Kl3 (zC .i64 (x11_1+1)) w))/\(x47=false->(∃ (I:Int->World->Prop) (μ:Int->World->Nat),I x12 w/\∀ (x12_1:Int) w,I x12_1 w->YL x0 x1 x4 Ret Kl2 x11_1 x12_1 w (λx12_1' w'=>I x12_1' w'/\μ x12_1' w'<μ x12_1 w))))
def YM (x0:Sl) (x1:Int) (x4:Value) (Ret:Int->World->Prop) (x12:Int) (Kl2:Int->Int->World->Prop) (x11_1:Int) (w:World) (Kl3:Int->World->Prop):Prop:=
 ((x11_1<=x12)->(opB zA zB (zF 22 (Sl.v x0) (.int .i64 x1)) w (λx38=>opB zA zM.v (zD 66 (.pointer x38)) w (λx39=>opB zA zB (zF 22 (Sl.v x0) (.int .i64 x11_1)) w (λx42=>opB zA zM.v (zD 66 (.pointer x42)) w (λx43=>∃ (r_1:Int),Zs zA x4 [(zM.v x39),(zM.v x43)] w (.int .i64 r_1)/\(xr x0 x1 x4 Ret x12 Kl2 x11_1 Kl3 (!(decide (r_1<0))) w)))))))/\(¬ (x11_1<=x12)->(xr x0 x1 x4 Ret x12 Kl2 x11_1 Kl3 false w))
def YN (x0:Sl) (x1:Int) (x4:Value) (Ret:Int->World->Prop) (x11:Int) (x12:Int) (w:World) (Kl2:Int->Int->World->Prop):Prop:=
 ∃ (I:Int->World->Prop) (μ:Int->World->Nat),I x11 w/\∀ (x11_1:Int) w,I x11_1 w->YM x0 x1 x4 Ret x12 Kl2 x11_1 w (λx11_1' w'=>I x11_1' w'/\μ x11_1' w'<μ x11_1 w)
def xg (x0:Sl) (x1:Int) (x2:Int) (x4:Value) (Ret:Int->World->Prop) (w:World):Prop:=
 ∃ (I:Int->Int->World->Prop) (μ:Int->Int->World->Nat),I (zC .i64 (x1+1)) (zC .i64 (x2 - 1)) w/\∀ (x11:Int) (x12:Int) w,I x11 x12 w->YN x0 x1 x4 Ret x11 x12 w (λx11' x12' w'=>I x11' x12' w'/\μ x11' x12' w'<μ x11 x12 w)
def Zx (x0:Sl) (x1:Int) (x2:Int) (x3:Int) (x4:Value) (w:World) (Ret:Int->World->Prop):Prop:=
 yM w (λw=>opP zA zB (zF 22 (Sl.v x0) (.int .i64 x3)) (λx19=>opP zA zB (zF 22 (Sl.v x0) (.int .i64 x1)) (λx23=>(opE zA zM.v (zD 66 (.pointer x19)) w (λx20 w=>opE zA zM.v (zD 66 (.pointer x23)) w (λx24 w=>opP zA zB (zF 22 (Sl.v x0) (.int .i64 x1)) (λx25=>opU zA (zK 66 (.pointer x25) (zM.v x20)) w (λw=>opP zA zB (zF 22 (Sl.v x0) (.int .i64 x3)) (λx26=>opU zA (zK 66 (.pointer x26) (zM.v x24)) w (λw=>xg x0 x1 x2 x4 Ret w)))))))/\(opE zA zM.v (zD 66 (.pointer x23)) w (λx24_1 w=>opE zA zM.v (zD 66 (.pointer x19)) w (λx20_1 w=>opP zA zB (zF 22 (Sl.v x0) (.int .i64 x1)) (λx25_1=>opU zA (zK 66 (.pointer x25_1) (zM.v x20_1)) w (λw=>opP zA zB (zF 22 (Sl.v x0) (.int .i64 x3)) (λx26_1=>opU zA (zK 66 (.pointer x26_1) (zM.v x24_1)) w (λw=>xg x0 x1 x2 x4 Ret w))))))))))
set_option maxRecDepth 100000 in
theorem zDm (x0:Sl) (x1:Int) (x2:Int) (x3:Int) (x4:Value) (w:World) (Ret:Int->World->Prop) (H:Zx x0 x1 x2 x3 x4 w Ret):Cl zA 96 [(Sl.v x0),(.int .i64 x1),(.int .i64 x2),(.int .i64 x3),x4].toArray w (λe w'=>∃ (r0:Int),e=.returned (.int .i64 r0)/\Ret r0 w'):=by
 unfold Zx at H
 refine zp 90 (zipE 0 [(Sl.v x0),(.int .i64 x1),(.int .i64 x2),(.int .i64 x3),x4]) Tryz.func96 rfl rfl (by rfl) rfl ?_
 intro a g
 have g:Sat [] 90 [(0,(Sl.v x0)),(1,(.int .i64 x1)),(2,(.int .i64 x2)),(3,(.int .i64 x3)),(4,x4)] a:=g
 refine zI (zE (g.s rfl λ_ g=>zL (tn (z8 (ds:=[]) (N:=90) (σ:=Unit) (λs=>[(0,(Sl.v x0)),(1,(.int .i64 x1)),(2,(.int .i64 x2)),(4,x4)]) (λs w=>xg x0 x1 x2 x4 Ret w) ?_ (λhj1=>?_)))))
 ·rintro ⟨⟩ w a H g
  try dsimp only at H g
  unfold xg at H
  refine zI (zE (g.m rfl λ_ g=>g.p (zr g rfl rfl) λ_ g=>g.m rfl λ_ g=>g.p (zv g rfl rfl) λ_ g=>g.s rfl λ_ g=>g.s rfl λ_ g=>zL (tn (zI (zX ?_)))))
  obtain ⟨I_l2,μ_l2,h0,hb⟩:=H
  refine yE (ds:=[]) (N:=90) (σ:=Int × Int) (λs=>[(11,(.int .i64 s.1)),(12,(.int .i64 s.2)),(0,(Sl.v x0)),(1,(.int .i64 x1)),(4,x4)]) (λs w=>I_l2 s.1 s.2 w) (λs w=>μ_l2 s.1 s.2 w) ((zC .i64 (x1+1)),(zC .i64 (x2 - 1))) h0 (g.k) ?_
  rintro ⟨x11,x12⟩ w a hI g
  try dsimp only at hI g
  obtain ⟨Kl2,hK_l2⟩:∃ K:Int->Int->World->Prop,K=(λx11' x12' w'=>I_l2 x11' x12' w'/\μ_l2 x11' x12' w'<μ_l2 x11 x12 w):=⟨_,rfl⟩
  have H:YN x0 x1 x4 Ret x11 x12 w Kl2:=by rw [hK_l2];exact hb x11 x12 w hI
  clear hb h0 hI
  unfold YN at H
  refine zX (zI (zX ?_))
  obtain ⟨I_l3,μ_l3,h0,hb⟩:=H
  refine yE (ds:=[]) (N:=90) (σ:=Int) (λs=>[(11,(.int .i64 s)),(0,(Sl.v x0)),(1,(.int .i64 x1)),(4,x4),(12,(.int .i64 x12))]) (λs w=>I_l3 s w) (λs w=>μ_l3 s w) x11 h0 (g.k) ?_
  intro x11_1 w a hI g
  try dsimp only at hI g
  obtain ⟨Kl3,hK_l3⟩:∃ K:Int->World->Prop,K=(λx11_1' w'=>I_l3 x11_1' w'/\μ_l3 x11_1' w'<μ_l3 x11_1 w):=⟨_,rfl⟩
  have H:YM x0 x1 x4 Ret x12 Kl2 x11_1 w Kl3:=by rw [hK_l3];exact hb x11_1 w hI
  clear hb h0 hI
  unfold YM at H
  refine zI (zI (QU (by kernel_rfl) (by kernel_rfl) (g.t rfl λ_ g=>g.t rfl λ_ g=>g.r (zCw g rfl rfl) λ_ g=>g.t rfl λ_ g=>WQ.join (ds:=[]) (N:=90) (σ:=Bool) (λs=>[(47,(.bool s)),(0,(Sl.v x0)),(1,(.int .i64 x1)),(4,x4),(11,(.int .i64 x11_1)),(12,(.int .i64 x12))]) (λs=>xr x0 x1 x4 Ret x12 Kl2 x11_1 Kl3 s w) 13 ?_ (λhr4=>?_))))
  ·intro x47 a H g
   try dsimp only at H g
   unfold xr at H
   refine Qb (λw hB=>?_)
   replace H:=H w hB
   refine (tn (zk g rfl (λhc=>?_) (λhc=>?_)))
   ·have H:=H.1 hc
    refine zY (tn (zX (zE (g.m rfl λ_ g=>g.p (zr g rfl rfl) λ_ g=>g.s rfl λ_ g=>?_))))
    rw [hK_l3] at H
    exact zL (bn (tn ⟨(zC .i64 (x11_1+1)),g.k,H⟩))
   ·have H:=H.2 hc
    refine z7 (te (te (be (tn (zI (zX ?_))))))
    obtain ⟨I_l5,μ_l5,h0,hb⟩:=H
    refine yE (ds:=[]) (N:=90) (σ:=Int) (λs=>[(12,(.int .i64 s)),(0,(Sl.v x0)),(1,(.int .i64 x1)),(4,x4),(11,(.int .i64 x11_1))]) (λs w=>I_l5 s w) (λs w=>μ_l5 s w) x12 h0 (g.k) ?_
    intro x12_1 w a hI g
    try dsimp only at hI g
    obtain ⟨Kl5,hK_l5⟩:∃ K:Int->World->Prop,K=(λx12_1' w'=>I_l5 x12_1' w'/\μ_l5 x12_1' w'<μ_l5 x12_1 w):=⟨_,rfl⟩
    have H:YL x0 x1 x4 Ret Kl2 x11_1 x12_1 w Kl5:=by rw [hK_l5];exact hb x12_1 w hI
    clear hb h0 hI
    unfold YL at H
    refine zI (zI (QU (by kernel_rfl) (by kernel_rfl) (g.t rfl λ_ g=>g.t rfl λ_ g=>g.r (zCw g rfl rfl) λ_ g=>g.t rfl λ_ g=>WQ.join (ds:=[]) (N:=90) (σ:=Bool) (λs=>[(65,(.bool s)),(0,(Sl.v x0)),(1,(.int .i64 x1)),(4,x4),(11,(.int .i64 x11_1)),(12,(.int .i64 x12_1))]) (λs=>xj x0 Ret Kl2 x11_1 x12_1 Kl5 s w) 12 ?_ (λhr6=>?_))))
    ·intro x65 a H g
     try dsimp only at H g
     unfold xj at H
     refine Qb (λw hB=>?_)
     replace H:=H w hB
     refine (tn (zk g rfl (λhc=>?_) (λhc=>?_)))
     ·have H:=H.1 hc
      refine zY (tn (zX (zE (g.m rfl λ_ g=>g.p (zv g rfl rfl) λ_ g=>g.s rfl λ_ g=>?_))))
      rw [hK_l5] at H
      exact zL (bn (tn ⟨(zC .i64 (x12_1 - 1)),g.k,H⟩))
     ·have H:=H.2 hc
      refine z7 (te (te (be (tn (zI (zI (zE (g.m rfl λ_ g=>g.m rfl λ_ g=>g.p (zBx g rfl rfl) λ_ g=>zL (tn (zd g rfl (λhc=>?_) (λhc=>?_)))))))))))
      ·have H:=H.1 hc
       exact z7 (te (bo (te (be (tn (zI (zE (g.m rfl λ_ g=>g.s rfl λ_ g=>zL (tn (zl (zw g rfl rfl ⟨_,rfl,H⟩)))))))))))
      ·have H:=H.2 hc
       refine zY (tn (z8 (ds:=[]) (N:=90) (σ:=Unit) (λs=>[(0,(Sl.v x0)),(1,(.int .i64 x1)),(4,x4),(11,(.int .i64 x11_1)),(12,(.int .i64 x12_1))]) (λs w=>xq Kl2 x11_1 x12_1 w) ?_ (λhj7=>?_)))
       ·rintro ⟨⟩ w a H g
        try dsimp only at H g
        unfold xq at H
        refine zI (zE (g.m rfl λ_ g=>g.p (zr g rfl rfl) λ_ g=>g.s rfl λ_ g=>zL (tn (zE (g.m rfl λ_ g=>g.p (zv g rfl rfl) λ_ g=>g.s rfl λ_ g=>?_)))))
        rw [hK_l2] at H
        exact zL (bn (tn ⟨((zC .i64 (x11_1+1)),(zC .i64 (x12_1 - 1))),g.k,H⟩))
       ·refine zCC 16 λw hB=>?_
        replace H:=H w hB
        refine g.x 0 rfl (zR g rfl) λ_ g=>g.x 1 rfl (zR g rfl) λ_ g=>g.x 2 rfl (zR g rfl) λ_ g=>g.x 3 rfl (zR g rfl) λ_ g=>g.x 4 rfl (zR g rfl) λ_ g=>g.x 5 rfl (zR g rfl) λ_ g=>g.y 6 rfl (zH g rfl rfl) H λx77 a H g=>g.x 8 rfl (zR g rfl) λ_ g=>g.x 9 rfl (zR g rfl) λ_ g=>g.y 10 rfl (zH g rfl rfl) H λx81 a H g=>WA.tw 7 11 rfl rfl ?_ ?_
        ·have H:=H.1
         intro K hK
         exact g.i (zO g rfl) H λx78 w a H g=>hK _ _ (g.j 11 rfl (zO g rfl) H λx82 w a H g=>g.y 12 rfl (zH g rfl rfl) H λx83 a H g=>g.l 13 rfl (zT g rfl rfl) H λw a H g=>g.y 14 rfl (zH g rfl rfl) H λx84 a H g=>g.l 15 rfl (zT g rfl rfl) H λw a H g=>WA.ni ((tn (hj7 () _ _ H (g.k)))))
        ·have H:=H.2
         intro K hK
         exact g.i (zO g rfl) H λx82_1 w a H g=>hK _ _ (g.j 7 rfl (zO g rfl) H λx78_1 w a H g=>g.y 12 rfl (zH g rfl rfl) H λx83_1 a H g=>g.l 13 rfl (zT g rfl rfl) H λw a H g=>g.y 14 rfl (zH g rfl rfl) H λx84_1 a H g=>g.l 15 rfl (zT g rfl rfl) H λw a H g=>WA.ni ((tn (hj7 () _ _ H (g.k)))))
    ·rcases Classical.em ((x11_1<=x12_1)) with hbr6|hbr6
     ·have H:=H.1 hbr6
      have g:=g.b (b:=true) (t:=53) rfl (decide_eq_true hbr6)
      refine g.e (g.t rfl λ_ g=>g.e (g.t rfl λ_ g=>g.e (g.t rfl λ_ g=>g.e (g.A (zH g rfl rfl) H λx57 a H g=>g.e (g.A (zO g rfl) H λx58 a H g=>g.e (g.t rfl λ_ g=>g.e (g.t rfl λ_ g=>g.e (g.A (zH g rfl rfl) H λx61 a H g=>g.e (g.A (zO g rfl) H λx62 a H g=>g.e ?_)))))))))
      obtain ⟨r,hc,H⟩:=H
      exact g.qcallV rfl rfl hc λ_ g=>g.e (g.r (yR g rfl rfl) λ_ g=>g.r (zx g rfl rfl) λ_ g=>hr6 (decide (r<0)) _ H (g.k))
     ·have H:=H.2 hbr6
      have g:=g.b (b:=false) (t:=53) rfl (decide_eq_false hbr6)
      exact g.g (λ_ g=>g.g (λ_ g=>g.g (λ_ g=>g.g (λ_ g=>g.g (λ_ g=>g.g (λ_ g=>g.g (λ_ g=>g.g (λ_ g=>g.g (λ_ g=>g.g (λ_ g=>g.g (λ_ g=>g.r (zy g rfl rfl) λ_ g=>hr6 false _ H (g.k))))))))))))
  ·rcases Classical.em ((x11_1<=x12)) with hbr4|hbr4
   ·have H:=H.1 hbr4
    have g:=g.b (b:=true) (t:=34) rfl (decide_eq_true hbr4)
    refine g.e (g.t rfl λ_ g=>g.e (g.t rfl λ_ g=>g.e (g.t rfl λ_ g=>g.e (g.A (zH g rfl rfl) H λx38 a H g=>g.e (g.A (zO g rfl) H λx39 a H g=>g.e (g.t rfl λ_ g=>g.e (g.t rfl λ_ g=>g.e (g.A (zH g rfl rfl) H λx42 a H g=>g.e (g.A (zO g rfl) H λx43 a H g=>g.e ?_)))))))))
    obtain ⟨r_1,hc,H⟩:=H
    exact g.qcallV rfl rfl hc λ_ g=>g.e (g.r (yR g rfl rfl) λ_ g=>g.e (g.r (zAJ g rfl) λ_ g=>g.r (zx g rfl rfl) λ_ g=>hr4 (!(decide (r_1<0))) _ H (g.k)))
   ·have H:=H.2 hbr4
    have g:=g.b (b:=false) (t:=34) rfl (decide_eq_false hbr4)
    exact g.g (λ_ g=>g.g (λ_ g=>g.g (λ_ g=>g.g (λ_ g=>g.g (λ_ g=>g.g (λ_ g=>g.g (λ_ g=>g.g (λ_ g=>g.g (λ_ g=>g.g (λ_ g=>g.g (λ_ g=>g.g (λ_ g=>g.r (zy g rfl rfl) λ_ g=>hr4 false _ H (g.k)))))))))))))
 ·refine zCC 16 λw hB=>?_
  replace H:=H w hB
  refine g.x 0 rfl (zR g rfl) λ_ g=>g.x 1 rfl (zR g rfl) λ_ g=>g.x 2 rfl (zR g rfl) λ_ g=>g.x 3 rfl (zR g rfl) λ_ g=>g.x 4 rfl (zR g rfl) λ_ g=>g.x 5 rfl (zR g rfl) λ_ g=>g.y 6 rfl (zH g rfl rfl) H λx19 a H g=>g.x 8 rfl (zR g rfl) λ_ g=>g.x 9 rfl (zR g rfl) λ_ g=>g.y 10 rfl (zH g rfl rfl) H λx23 a H g=>WA.tw 7 11 rfl rfl ?_ ?_
  ·have H:=H.1
   intro K hK
   exact g.i (zO g rfl) H λx20 w a H g=>hK _ _ (g.j 11 rfl (zO g rfl) H λx24 w a H g=>g.y 12 rfl (zH g rfl rfl) H λx25 a H g=>g.l 13 rfl (zT g rfl rfl) H λw a H g=>g.y 14 rfl (zH g rfl rfl) H λx26 a H g=>g.l 15 rfl (zT g rfl rfl) H λw a H g=>WA.ni ((tn (hj1 () _ _ H (g.k)))))
  ·have H:=H.2
   intro K hK
   exact g.i (zO g rfl) H λx24_1 w a H g=>hK _ _ (g.j 7 rfl (zO g rfl) H λx20_1 w a H g=>g.y 12 rfl (zH g rfl rfl) H λx25_1 a H g=>g.l 13 rfl (zT g rfl rfl) H λw a H g=>g.y 14 rfl (zH g rfl rfl) H λx26_1 a H g=>g.l 15 rfl (zT g rfl rfl) H λw a H g=>WA.ni ((tn (hj1 () _ _ H (g.k)))))
def YH (Ret:Int->Bool->World->Prop) (x13:Int) (w:World):Prop:=
 Ret x13 true w
def Q2 (Ret:Int->Bool->World->Prop) (x13_2:Int) (w:World):Prop:=
 Ret x13_2 false w
def Q3 (Kl8:Int->Int->World->Prop) (x12_2:Int) (x13_2:Int) (w:World):Prop:=
 Kl8 (zC .i64 (x12_2+1)) (zC .i64 (x13_2 - 1)) w
def Qz (x0:Sl) (x1:Int) (Ret:Int->Bool->World->Prop) (Kl8:Int->Int->World->Prop) (x12_2:Int) (x13_2:Int) (Kl11:Int->World->Prop) (x139:Bool) (w:World):Prop:=
 yM w (λw=>(x139=true->(Kl11 (zC .i64 (x13_2 - 1)) w))/\(x139=false->(((x13_2<x12_2)->(yM w (λw=>opP zA zB (zF 22 (Sl.v x0) (.int .i64 x1)) (λx169=>opP zA zB (zF 22 (Sl.v x0) (.int .i64 x13_2)) (λx173=>(opE zA zM.v (zD 66 (.pointer x169)) w (λx170 w=>opE zA zM.v (zD 66 (.pointer x173)) w (λx174 w=>opP zA zB (zF 22 (Sl.v x0) (.int .i64 x13_2)) (λx175=>opU zA (zK 66 (.pointer x175) (zM.v x170)) w (λw=>opP zA zB (zF 22 (Sl.v x0) (.int .i64 x1)) (λx176=>opU zA (zK 66 (.pointer x176) (zM.v x174)) w (λw=>Q2 Ret x13_2 w)))))))/\(opE zA zM.v (zD 66 (.pointer x173)) w (λx174_1 w=>opE zA zM.v (zD 66 (.pointer x169)) w (λx170_1 w=>opP zA zB (zF 22 (Sl.v x0) (.int .i64 x13_2)) (λx175_1=>opU zA (zK 66 (.pointer x175_1) (zM.v x170_1)) w (λw=>opP zA zB (zF 22 (Sl.v x0) (.int .i64 x1)) (λx176_1=>opU zA (zK 66 (.pointer x176_1) (zM.v x174_1)) w (λw=>Q2 Ret x13_2 w))))))))))))/\(¬ (x13_2<x12_2)->(yM w (λw=>opP zA zB (zF 22 (Sl.v x0) (.int .i64 x13_2)) (λx151=>opP zA zB (zF 22 (Sl.v x0) (.int .i64 x12_2)) (λx155=>(opE zA zM.v (zD 66 (.pointer x151)) w (λx152 w=>opE zA zM.v (zD 66 (.pointer x155)) w (λx156 w=>opP zA zB (zF 22 (Sl.v x0) (.int .i64 x12_2)) (λx157=>opU zA (zK 66 (.pointer x157) (zM.v x152)) w (λw=>opP zA zB (zF 22 (Sl.v x0) (.int .i64 x13_2)) (λx158=>opU zA (zK 66 (.pointer x158) (zM.v x156)) w (λw=>Q3 Kl8 x12_2 x13_2 w)))))))/\(opE zA zM.v (zD 66 (.pointer x155)) w (λx156_1 w=>opE zA zM.v (zD 66 (.pointer x151)) w (λx152_1 w=>opP zA zB (zF 22 (Sl.v x0) (.int .i64 x12_2)) (λx157_1=>opU zA (zK 66 (.pointer x157_1) (zM.v x152_1)) w (λw=>opP zA zB (zF 22 (Sl.v x0) (.int .i64 x13_2)) (λx158_1=>opU zA (zK 66 (.pointer x158_1) (zM.v x156_1)) w (λw=>Q3 Kl8 x12_2 x13_2 w)))))))))))))))
def Yw (x0:Sl) (x1:Int) (x4:Value) (Ret:Int->Bool->World->Prop) (Kl8:Int->Int->World->Prop) (x12_2:Int) (x13_2:Int) (w:World) (Kl11:Int->World->Prop):Prop:=
 ((x12_2<=x13_2)->(opB zA zB (zF 22 (Sl.v x0) (.int .i64 x13_2)) w (λx130=>opB zA zM.v (zD 66 (.pointer x130)) w (λx131=>opB zA zB (zF 22 (Sl.v x0) (.int .i64 x1)) w (λx134=>opB zA zM.v (zD 66 (.pointer x134)) w (λx135=>∃ (r:Int),Zs zA x4 [(zM.v x131),(zM.v x135)] w (.int .i64 r)/\(Qz x0 x1 Ret Kl8 x12_2 x13_2 Kl11 (!(decide (r<0))) w)))))))/\(¬ (x12_2<=x13_2)->(Qz x0 x1 Ret Kl8 x12_2 x13_2 Kl11 false w))
def Qx (x0:Sl) (x1:Int) (x4:Value) (Ret:Int->Bool->World->Prop) (x13_1:Int) (Kl8:Int->Int->World->Prop) (x12_2:Int) (Kl9:Int->World->Prop) (x120:Bool) (w:World):Prop:=
 yM w (λw=>(x120=true->(Kl9 (zC .i64 (x12_2+1)) w))/\(x120=false->(∃ (I:Int->World->Prop) (μ:Int->World->Nat),I x13_1 w/\∀ (x13_2:Int) w,I x13_2 w->Yw x0 x1 x4 Ret Kl8 x12_2 x13_2 w (λx13_2' w'=>I x13_2' w'/\μ x13_2' w'<μ x13_2 w))))
def Y9 (x0:Sl) (x1:Int) (x4:Value) (Ret:Int->Bool->World->Prop) (x13_1:Int) (Kl8:Int->Int->World->Prop) (x12_2:Int) (w:World) (Kl9:Int->World->Prop):Prop:=
 ((x12_2<=x13_1)->(opB zA zB (zF 22 (Sl.v x0) (.int .i64 x12_2)) w (λx112=>opB zA zM.v (zD 66 (.pointer x112)) w (λx113=>opB zA zB (zF 22 (Sl.v x0) (.int .i64 x1)) w (λx116=>opB zA zM.v (zD 66 (.pointer x116)) w (λx117=>∃ (r_1:Int),Zs zA x4 [(zM.v x113),(zM.v x117)] w (.int .i64 r_1)/\(Qx x0 x1 x4 Ret x13_1 Kl8 x12_2 Kl9 (decide (r_1<0)) w)))))))/\(¬ (x12_2<=x13_1)->(Qx x0 x1 x4 Ret x13_1 Kl8 x12_2 Kl9 false w))
def Qy (x0:Sl) (x1:Int) (x4:Value) (Ret:Int->Bool->World->Prop) (x12_1:Int) (x13_1:Int) (w:World) (Kl8:Int->Int->World->Prop):Prop:=
 ∃ (I:Int->World->Prop) (μ:Int->World->Nat),I x12_1 w/\∀ (x12_2:Int) w,I x12_2 w->Y9 x0 x1 x4 Ret x13_1 Kl8 x12_2 w (λx12_2' w'=>I x12_2' w'/\μ x12_2' w'<μ x12_2 w)
def YE (x0:Sl) (x1:Int) (x4:Value) (Ret:Int->Bool->World->Prop) (x12:Int) (x13:Int) (w:World):Prop:=
 ∃ (I:Int->Int->World->Prop) (μ:Int->Int->World->Nat),I (zC .i64 (x12+1)) (zC .i64 (x13 - 1)) w/\∀ (x12_1:Int) (x13_1:Int) w,I x12_1 x13_1 w->Qy x0 x1 x4 Ret x12_1 x13_1 w (λx12_1' x13_1' w'=>I x12_1' x13_1' w'/\μ x12_1' x13_1' w'<μ x12_1 x13_1 w)
def Q9 (x0:Sl) (x1:Int) (x4:Value) (Ret:Int->Bool->World->Prop) (x12:Int) (x13:Int) (Kl4:Int->World->Prop) (x66:Bool) (w:World):Prop:=
 yM w (λw=>(x66=true->(Kl4 (zC .i64 (x13 - 1)) w))/\(x66=false->(((x13<x12)->(yM w (λw=>opP zA zB (zF 22 (Sl.v x0) (.int .i64 x1)) (λx78=>opP zA zB (zF 22 (Sl.v x0) (.int .i64 x13)) (λx82=>(opE zA zM.v (zD 66 (.pointer x78)) w (λx79 w=>opE zA zM.v (zD 66 (.pointer x82)) w (λx83 w=>opP zA zB (zF 22 (Sl.v x0) (.int .i64 x13)) (λx84=>opU zA (zK 66 (.pointer x84) (zM.v x79)) w (λw=>opP zA zB (zF 22 (Sl.v x0) (.int .i64 x1)) (λx85=>opU zA (zK 66 (.pointer x85) (zM.v x83)) w (λw=>YH Ret x13 w)))))))/\(opE zA zM.v (zD 66 (.pointer x82)) w (λx83_1 w=>opE zA zM.v (zD 66 (.pointer x78)) w (λx79_1 w=>opP zA zB (zF 22 (Sl.v x0) (.int .i64 x13)) (λx84_1=>opU zA (zK 66 (.pointer x84_1) (zM.v x79_1)) w (λw=>opP zA zB (zF 22 (Sl.v x0) (.int .i64 x1)) (λx85_1=>opU zA (zK 66 (.pointer x85_1) (zM.v x83_1)) w (λw=>YH Ret x13 w))))))))))))/\(¬ (x13<x12)->(yM w (λw=>opP zA zB (zF 22 (Sl.v x0) (.int .i64 x13)) (λx93=>opP zA zB (zF 22 (Sl.v x0) (.int .i64 x12)) (λx97=>(opE zA zM.v (zD 66 (.pointer x93)) w (λx94 w=>opE zA zM.v (zD 66 (.pointer x97)) w (λx98 w=>opP zA zB (zF 22 (Sl.v x0) (.int .i64 x12)) (λx99=>opU zA (zK 66 (.pointer x99) (zM.v x94)) w (λw=>opP zA zB (zF 22 (Sl.v x0) (.int .i64 x13)) (λx100=>opU zA (zK 66 (.pointer x100) (zM.v x98)) w (λw=>YE x0 x1 x4 Ret x12 x13 w)))))))/\(opE zA zM.v (zD 66 (.pointer x97)) w (λx98_1 w=>opE zA zM.v (zD 66 (.pointer x93)) w (λx94_1 w=>opP zA zB (zF 22 (Sl.v x0) (.int .i64 x12)) (λx99_1=>opU zA (zK 66 (.pointer x99_1) (zM.v x94_1)) w (λw=>opP zA zB (zF 22 (Sl.v x0) (.int .i64 x13)) (λx100_1=>opU zA (zK 66 (.pointer x100_1) (zM.v x98_1)) w (λw=>YE x0 x1 x4 Ret x12 x13 w)))))))))))))))
def Y7 (x0:Sl) (x1:Int) (x4:Value) (Ret:Int->Bool->World->Prop) (x12:Int) (x13:Int) (w:World) (Kl4:Int->World->Prop):Prop:=
 ((x12<=x13)->(opB zA zB (zF 22 (Sl.v x0) (.int .i64 x13)) w (λx57=>opB zA zM.v (zD 66 (.pointer x57)) w (λx58=>opB zA zB (zF 22 (Sl.v x0) (.int .i64 x1)) w (λx61=>opB zA zM.v (zD 66 (.pointer x61)) w (λx62=>∃ (r_2:Int),Zs zA x4 [(zM.v x58),(zM.v x62)] w (.int .i64 r_2)/\(Q9 x0 x1 x4 Ret x12 x13 Kl4 (!(decide (r_2<0))) w)))))))/\(¬ (x12<=x13)->(Q9 x0 x1 x4 Ret x12 x13 Kl4 false w))
def xZ (x0:Sl) (x1:Int) (x2:Int) (x4:Value) (Ret:Int->Bool->World->Prop) (x12:Int) (Kl2:Int->World->Prop) (x47:Bool) (w:World):Prop:=
 yM w (λw=>(x47=true->(Kl2 (zC .i64 (x12+1)) w))/\(x47=false->(∃ (I:Int->World->Prop) (μ:Int->World->Nat),I (zC .i64 (x2 - 1)) w/\∀ (x13:Int) w,I x13 w->Y7 x0 x1 x4 Ret x12 x13 w (λx13' w'=>I x13' w'/\μ x13' w'<μ x13 w))))
def ZA (x0:Sl) (x1:Int) (x2:Int) (x4:Value) (Ret:Int->Bool->World->Prop) (x12:Int) (w:World) (Kl2:Int->World->Prop):Prop:=
 ((x12<=(zC .i64 (x2 - 1)))->(opB zA zB (zF 22 (Sl.v x0) (.int .i64 x12)) w (λx39=>opB zA zM.v (zD 66 (.pointer x39)) w (λx40=>opB zA zB (zF 22 (Sl.v x0) (.int .i64 x1)) w (λx43=>opB zA zM.v (zD 66 (.pointer x43)) w (λx44=>∃ (r_3:Int),Zs zA x4 [(zM.v x40),(zM.v x44)] w (.int .i64 r_3)/\(xZ x0 x1 x2 x4 Ret x12 Kl2 (decide (r_3<0)) w)))))))/\(¬ (x12<=(zC .i64 (x2 - 1)))->(xZ x0 x1 x2 x4 Ret x12 Kl2 false w))
def YF (x0:Sl) (x1:Int) (x2:Int) (x4:Value) (Ret:Int->Bool->World->Prop) (w:World):Prop:=
 ∃ (I:Int->World->Prop) (μ:Int->World->Nat),I (zC .i64 (x1+1)) w/\∀ (x12:Int) w,I x12 w->ZA x0 x1 x2 x4 Ret x12 w (λx12' w'=>I x12' w'/\μ x12' w'<μ x12 w)
def zAs (x0:Sl) (x1:Int) (x2:Int) (x3:Int) (x4:Value) (w:World) (Ret:Int->Bool->World->Prop):Prop:=
 yM w (λw=>opP zA zB (zF 22 (Sl.v x0) (.int .i64 x3)) (λx20=>opP zA zB (zF 22 (Sl.v x0) (.int .i64 x1)) (λx24=>(opE zA zM.v (zD 66 (.pointer x20)) w (λx21 w=>opE zA zM.v (zD 66 (.pointer x24)) w (λx25 w=>opP zA zB (zF 22 (Sl.v x0) (.int .i64 x1)) (λx26=>opU zA (zK 66 (.pointer x26) (zM.v x21)) w (λw=>opP zA zB (zF 22 (Sl.v x0) (.int .i64 x3)) (λx27=>opU zA (zK 66 (.pointer x27) (zM.v x25)) w (λw=>YF x0 x1 x2 x4 Ret w)))))))/\(opE zA zM.v (zD 66 (.pointer x24)) w (λx25_1 w=>opE zA zM.v (zD 66 (.pointer x20)) w (λx21_1 w=>opP zA zB (zF 22 (Sl.v x0) (.int .i64 x1)) (λx26_1=>opU zA (zK 66 (.pointer x26_1) (zM.v x21_1)) w (λw=>opP zA zB (zF 22 (Sl.v x0) (.int .i64 x3)) (λx27_1=>opU zA (zK 66 (.pointer x27_1) (zM.v x25_1)) w (λw=>YF x0 x1 x2 x4 Ret w))))))))))
set_option maxRecDepth 100000 in
theorem zE4 (x0:Sl) (x1:Int) (x2:Int) (x3:Int) (x4:Value) (w:World) (Ret:Int->Bool->World->Prop) (H:zAs x0 x1 x2 x3 x4 w Ret):Cl zA 97 [(Sl.v x0),(.int .i64 x1),(.int .i64 x2),(.int .i64 x3),x4].toArray w (λe w'=>∃ (r0:Int) (r1:Bool),e=.returned (.tuple [(.int .i64 r0),(.bool r1)].toArray)/\Ret r0 r1 w'):=by
 unfold zAs at H
 refine zp 178 (zipE 0 [(Sl.v x0),(.int .i64 x1),(.int .i64 x2),(.int .i64 x3),x4]) Tryz.func97 rfl rfl (by rfl) rfl ?_
 intro a g
 have g:Sat [] 178 [(0,(Sl.v x0)),(1,(.int .i64 x1)),(2,(.int .i64 x2)),(3,(.int .i64 x3)),(4,x4)] a:=g
 refine zI (zE (g.s rfl λ_ g=>g.s rfl λ_ g=>zL (tn (z8 (ds:=[]) (N:=178) (σ:=Unit) (λs=>[(0,(Sl.v x0)),(1,(.int .i64 x1)),(2,(.int .i64 x2)),(4,x4)]) (λs w=>YF x0 x1 x2 x4 Ret w) ?_ (λhj1=>?_)))))
 ·rintro ⟨⟩ w a H g
  try dsimp only at H g
  unfold YF at H
  refine zI (zE (g.m rfl λ_ g=>g.p (zr g rfl rfl) λ_ g=>g.m rfl λ_ g=>g.p (zv g rfl rfl) λ_ g=>g.s rfl λ_ g=>g.s rfl λ_ g=>zL (tn (zI (zX ?_)))))
  obtain ⟨I_l2,μ_l2,h0,hb⟩:=H
  refine yE (ds:=[]) (N:=178) (σ:=Int) (λs=>[(12,(.int .i64 s)),(0,(Sl.v x0)),(1,(.int .i64 x1)),(4,x4),(13,(.int .i64 (zC .i64 (x2 - 1))))]) (λs w=>I_l2 s w) (λs w=>μ_l2 s w) (zC .i64 (x1+1)) h0 (g.k) ?_
  intro x12 w a hI g
  try dsimp only at hI g
  obtain ⟨Kl2,hK_l2⟩:∃ K:Int->World->Prop,K=(λx12' w'=>I_l2 x12' w'/\μ_l2 x12' w'<μ_l2 x12 w):=⟨_,rfl⟩
  have H:ZA x0 x1 x2 x4 Ret x12 w Kl2:=by rw [hK_l2];exact hb x12 w hI
  clear hb h0 hI
  unfold ZA at H
  refine zI (zI (QU (by kernel_rfl) (by kernel_rfl) (g.t rfl λ_ g=>g.t rfl λ_ g=>g.r (zCw g rfl rfl) λ_ g=>g.t rfl λ_ g=>WQ.join (ds:=[]) (N:=178) (σ:=Bool) (λs=>[(47,(.bool s)),(0,(Sl.v x0)),(1,(.int .i64 x1)),(4,x4),(12,(.int .i64 x12)),(13,(.int .i64 (zC .i64 (x2 - 1))))]) (λs=>xZ x0 x1 x2 x4 Ret x12 Kl2 s w) 12 ?_ (λhr3=>?_))))
  ·intro x47 a H g
   try dsimp only at H g
   unfold xZ at H
   refine Qb (λw hB=>?_)
   replace H:=H w hB
   refine (tn (zk g rfl (λhc=>?_) (λhc=>?_)))
   ·have H:=H.1 hc
    refine zY (tn (zX (zE (g.m rfl λ_ g=>g.p (zr g rfl rfl) λ_ g=>g.s rfl λ_ g=>?_))))
    rw [hK_l2] at H
    exact zL (bn (tn ⟨(zC .i64 (x12+1)),g.k,H⟩))
   ·have H:=H.2 hc
    refine z7 (te (te (be (tn (zI (zX ?_))))))
    obtain ⟨I_l4,μ_l4,h0,hb⟩:=H
    refine yE (ds:=[]) (N:=178) (σ:=Int) (λs=>[(13,(.int .i64 s)),(0,(Sl.v x0)),(1,(.int .i64 x1)),(4,x4),(12,(.int .i64 x12))]) (λs w=>I_l4 s w) (λs w=>μ_l4 s w) (zC .i64 (x2 - 1)) h0 (g.k) ?_
    intro x13 w a hI g
    try dsimp only at hI g
    obtain ⟨Kl4,hK_l4⟩:∃ K:Int->World->Prop,K=(λx13' w'=>I_l4 x13' w'/\μ_l4 x13' w'<μ_l4 x13 w):=⟨_,rfl⟩
    have H:Y7 x0 x1 x4 Ret x12 x13 w Kl4:=by rw [hK_l4];exact hb x13 w hI
    clear hb h0 hI
    unfold Y7 at H
    refine zI (zI (QU (by kernel_rfl) (by kernel_rfl) (g.t rfl λ_ g=>g.t rfl λ_ g=>g.r (zCw g rfl rfl) λ_ g=>g.t rfl λ_ g=>WQ.join (ds:=[]) (N:=178) (σ:=Bool) (λs=>[(66,(.bool s)),(0,(Sl.v x0)),(1,(.int .i64 x1)),(4,x4),(12,(.int .i64 x12)),(13,(.int .i64 x13))]) (λs=>Q9 x0 x1 x4 Ret x12 x13 Kl4 s w) 13 ?_ (λhr5=>?_))))
    ·intro x66 a H g
     try dsimp only at H g
     unfold Q9 at H
     refine Qb (λw hB=>?_)
     replace H:=H w hB
     refine (tn (zk g rfl (λhc=>?_) (λhc=>?_)))
     ·have H:=H.1 hc
      refine zY (tn (zX (zE (g.m rfl λ_ g=>g.p (zv g rfl rfl) λ_ g=>g.s rfl λ_ g=>?_))))
      rw [hK_l4] at H
      exact zL (bn (tn ⟨(zC .i64 (x13 - 1)),g.k,H⟩))
     ·have H:=H.2 hc
      refine z7 (te (te (be (tn (zI (zI (zE (g.m rfl λ_ g=>g.m rfl λ_ g=>g.p (zBx g rfl rfl) λ_ g=>zL (tn (zd g rfl (λhc=>?_) (λhc=>?_)))))))))))
      ·have H:=H.1 hc
       refine z8 (ds:=[]) (N:=178) (σ:=Unit) (λs=>[(13,(.int .i64 x13))]) (λs w=>YH Ret x13 w) ?_ (λhj6=>?_)
       ·rintro ⟨⟩ w a H g
        try dsimp only at H g
        unfold YH at H
        exact zI (zE (g.m rfl λ_ g=>g.s rfl λ_ g=>g.s rfl λ_ g=>zL (tn (zl (tr (ZK g rfl rfl rfl ⟨_,_,rfl,H⟩))))))
       ·refine zCC 16 λw hB=>?_
        replace H:=H w hB
        refine g.x 0 rfl (zR g rfl) λ_ g=>g.x 1 rfl (zR g rfl) λ_ g=>g.x 2 rfl (zR g rfl) λ_ g=>g.x 3 rfl (zR g rfl) λ_ g=>g.x 4 rfl (zR g rfl) λ_ g=>g.x 5 rfl (zR g rfl) λ_ g=>g.y 6 rfl (zH g rfl rfl) H λx78 a H g=>g.x 8 rfl (zR g rfl) λ_ g=>g.x 9 rfl (zR g rfl) λ_ g=>g.y 10 rfl (zH g rfl rfl) H λx82 a H g=>WA.tw 7 11 rfl rfl ?_ ?_
        ·have H:=H.1
         intro K hK
         exact g.i (zO g rfl) H λx79 w a H g=>hK _ _ (g.j 11 rfl (zO g rfl) H λx83 w a H g=>g.y 12 rfl (zH g rfl rfl) H λx84 a H g=>g.l 13 rfl (zT g rfl rfl) H λw a H g=>g.y 14 rfl (zH g rfl rfl) H λx85 a H g=>g.l 15 rfl (zT g rfl rfl) H λw a H g=>WA.ni ((tn (hj6 () _ _ H (g.k)))))
        ·have H:=H.2
         intro K hK
         exact g.i (zO g rfl) H λx83_1 w a H g=>hK _ _ (g.j 7 rfl (zO g rfl) H λx79_1 w a H g=>g.y 12 rfl (zH g rfl rfl) H λx84_1 a H g=>g.l 13 rfl (zT g rfl rfl) H λw a H g=>g.y 14 rfl (zH g rfl rfl) H λx85_1 a H g=>g.l 15 rfl (zT g rfl rfl) H λw a H g=>WA.ni ((tn (hj6 () _ _ H (g.k)))))
      ·have H:=H.2 hc
       refine zY (tn (z8 (ds:=[]) (N:=178) (σ:=Unit) (λs=>[(0,(Sl.v x0)),(1,(.int .i64 x1)),(4,x4),(12,(.int .i64 x12)),(13,(.int .i64 x13))]) (λs w=>YE x0 x1 x4 Ret x12 x13 w) ?_ (λhj7=>?_)))
       ·rintro ⟨⟩ w a H g
        try dsimp only at H g
        unfold YE at H
        refine zI (zE (g.m rfl λ_ g=>g.p (zr g rfl rfl) λ_ g=>g.s rfl λ_ g=>zL (tn (zI (zE (g.m rfl λ_ g=>g.p (zv g rfl rfl) λ_ g=>g.s rfl λ_ g=>zL (tn (zI (zX ?_)))))))))
        obtain ⟨I_l8,μ_l8,h0,hb⟩:=H
        refine yE (ds:=[]) (N:=178) (σ:=Int × Int) (λs=>[(12,(.int .i64 s.1)),(13,(.int .i64 s.2)),(0,(Sl.v x0)),(1,(.int .i64 x1)),(4,x4)]) (λs w=>I_l8 s.1 s.2 w) (λs w=>μ_l8 s.1 s.2 w) ((zC .i64 (x12+1)),(zC .i64 (x13 - 1))) h0 (g.k) ?_
        rintro ⟨x12_1,x13_1⟩ w a hI g
        try dsimp only at hI g
        obtain ⟨Kl8,hK_l8⟩:∃ K:Int->Int->World->Prop,K=(λx12_1' x13_1' w'=>I_l8 x12_1' x13_1' w'/\μ_l8 x12_1' x13_1' w'<μ_l8 x12_1 x13_1 w):=⟨_,rfl⟩
        have H:Qy x0 x1 x4 Ret x12_1 x13_1 w Kl8:=by rw [hK_l8];exact hb x12_1 x13_1 w hI
        clear hb h0 hI
        unfold Qy at H
        refine zX (zI (zX ?_))
        obtain ⟨I_l9,μ_l9,h0,hb⟩:=H
        refine yE (ds:=[]) (N:=178) (σ:=Int) (λs=>[(12,(.int .i64 s)),(0,(Sl.v x0)),(1,(.int .i64 x1)),(4,x4),(13,(.int .i64 x13_1))]) (λs w=>I_l9 s w) (λs w=>μ_l9 s w) x12_1 h0 (g.k) ?_
        intro x12_2 w a hI g
        try dsimp only at hI g
        obtain ⟨Kl9,hK_l9⟩:∃ K:Int->World->Prop,K=(λx12_2' w'=>I_l9 x12_2' w'/\μ_l9 x12_2' w'<μ_l9 x12_2 w):=⟨_,rfl⟩
        have H:Y9 x0 x1 x4 Ret x13_1 Kl8 x12_2 w Kl9:=by rw [hK_l9];exact hb x12_2 w hI
        clear hb h0 hI
        unfold Y9 at H
        refine zI (zI (QU (by kernel_rfl) (by kernel_rfl) (g.t rfl λ_ g=>g.t rfl λ_ g=>g.r (zCw g rfl rfl) λ_ g=>g.t rfl λ_ g=>WQ.join (ds:=[]) (N:=178) (σ:=Bool) (λs=>[(120,(.bool s)),(0,(Sl.v x0)),(1,(.int .i64 x1)),(4,x4),(12,(.int .i64 x12_2)),(13,(.int .i64 x13_1))]) (λs=>Qx x0 x1 x4 Ret x13_1 Kl8 x12_2 Kl9 s w) 12 ?_ (λhr10=>?_))))
        ·intro x120 a H g
         try dsimp only at H g
         unfold Qx at H
         refine Qb (λw hB=>?_)
         replace H:=H w hB
         refine (tn (zk g rfl (λhc=>?_) (λhc=>?_)))
         ·have H:=H.1 hc
          refine zY (tn (zX (zE (g.m rfl λ_ g=>g.p (zr g rfl rfl) λ_ g=>g.s rfl λ_ g=>?_))))
          rw [hK_l9] at H
          exact zL (bn (tn ⟨(zC .i64 (x12_2+1)),g.k,H⟩))
         ·have H:=H.2 hc
          refine z7 (te (te (be (tn (zI (zX ?_))))))
          obtain ⟨I_l11,μ_l11,h0,hb⟩:=H
          refine yE (ds:=[]) (N:=178) (σ:=Int) (λs=>[(13,(.int .i64 s)),(0,(Sl.v x0)),(1,(.int .i64 x1)),(4,x4),(12,(.int .i64 x12_2))]) (λs w=>I_l11 s w) (λs w=>μ_l11 s w) x13_1 h0 (g.k) ?_
          intro x13_2 w a hI g
          try dsimp only at hI g
          obtain ⟨Kl11,hK_l11⟩:∃ K:Int->World->Prop,K=(λx13_2' w'=>I_l11 x13_2' w'/\μ_l11 x13_2' w'<μ_l11 x13_2 w):=⟨_,rfl⟩
          have H:Yw x0 x1 x4 Ret Kl8 x12_2 x13_2 w Kl11:=by rw [hK_l11];exact hb x13_2 w hI
          clear hb h0 hI
          unfold Yw at H
          refine zI (zI (QU (by kernel_rfl) (by kernel_rfl) (g.t rfl λ_ g=>g.t rfl λ_ g=>g.r (zCw g rfl rfl) λ_ g=>g.t rfl λ_ g=>WQ.join (ds:=[]) (N:=178) (σ:=Bool) (λs=>[(139,(.bool s)),(0,(Sl.v x0)),(1,(.int .i64 x1)),(4,x4),(12,(.int .i64 x12_2)),(13,(.int .i64 x13_2))]) (λs=>Qz x0 x1 Ret Kl8 x12_2 x13_2 Kl11 s w) 13 ?_ (λhr12=>?_))))
          ·intro x139 a H g
           try dsimp only at H g
           unfold Qz at H
           refine Qb (λw hB=>?_)
           replace H:=H w hB
           refine (tn (zk g rfl (λhc=>?_) (λhc=>?_)))
           ·have H:=H.1 hc
            refine zY (tn (zX (zE (g.m rfl λ_ g=>g.p (zv g rfl rfl) λ_ g=>g.s rfl λ_ g=>?_))))
            rw [hK_l11] at H
            exact zL (bn (tn ⟨(zC .i64 (x13_2 - 1)),g.k,H⟩))
           ·have H:=H.2 hc
            refine z7 (te (te (be (tn (zI (zI (zE (g.m rfl λ_ g=>g.m rfl λ_ g=>g.p (zBx g rfl rfl) λ_ g=>zL (tn (zd g rfl (λhc=>?_) (λhc=>?_)))))))))))
            ·have H:=H.1 hc
             refine z7 (te (bo (te (be (tn (z8 (ds:=[]) (N:=178) (σ:=Unit) (λs=>[(13,(.int .i64 x13_2))]) (λs w=>Q2 Ret x13_2 w) ?_ (λhj13=>?_)))))))
             ·rintro ⟨⟩ w a H g
              try dsimp only at H g
              unfold Q2 at H
              exact zI (zE (g.m rfl λ_ g=>g.s rfl λ_ g=>g.s rfl λ_ g=>zL (tn (zl (ZK g rfl rfl rfl ⟨_,_,rfl,H⟩)))))
             ·refine zCC 16 λw hB=>?_
              replace H:=H w hB
              refine g.x 0 rfl (zR g rfl) λ_ g=>g.x 1 rfl (zR g rfl) λ_ g=>g.x 2 rfl (zR g rfl) λ_ g=>g.x 3 rfl (zR g rfl) λ_ g=>g.x 4 rfl (zR g rfl) λ_ g=>g.x 5 rfl (zR g rfl) λ_ g=>g.y 6 rfl (zH g rfl rfl) H λx169 a H g=>g.x 8 rfl (zR g rfl) λ_ g=>g.x 9 rfl (zR g rfl) λ_ g=>g.y 10 rfl (zH g rfl rfl) H λx173 a H g=>WA.tw 7 11 rfl rfl ?_ ?_
              ·have H:=H.1
               intro K hK
               exact g.i (zO g rfl) H λx170 w a H g=>hK _ _ (g.j 11 rfl (zO g rfl) H λx174 w a H g=>g.y 12 rfl (zH g rfl rfl) H λx175 a H g=>g.l 13 rfl (zT g rfl rfl) H λw a H g=>g.y 14 rfl (zH g rfl rfl) H λx176 a H g=>g.l 15 rfl (zT g rfl rfl) H λw a H g=>WA.ni ((tn (hj13 () _ _ H (g.k)))))
              ·have H:=H.2
               intro K hK
               exact g.i (zO g rfl) H λx174_1 w a H g=>hK _ _ (g.j 7 rfl (zO g rfl) H λx170_1 w a H g=>g.y 12 rfl (zH g rfl rfl) H λx175_1 a H g=>g.l 13 rfl (zT g rfl rfl) H λw a H g=>g.y 14 rfl (zH g rfl rfl) H λx176_1 a H g=>g.l 15 rfl (zT g rfl rfl) H λw a H g=>WA.ni ((tn (hj13 () _ _ H (g.k)))))
            ·have H:=H.2 hc
             refine zY (tn (z8 (ds:=[]) (N:=178) (σ:=Unit) (λs=>[(0,(Sl.v x0)),(1,(.int .i64 x1)),(4,x4),(12,(.int .i64 x12_2)),(13,(.int .i64 x13_2))]) (λs w=>Q3 Kl8 x12_2 x13_2 w) ?_ (λhj14=>?_)))
             ·rintro ⟨⟩ w a H g
              try dsimp only at H g
              unfold Q3 at H
              refine zI (zE (g.m rfl λ_ g=>g.p (zr g rfl rfl) λ_ g=>g.s rfl λ_ g=>zL (tn (zE (g.m rfl λ_ g=>g.p (zv g rfl rfl) λ_ g=>g.s rfl λ_ g=>?_)))))
              rw [hK_l8] at H
              exact zL (bn (tn ⟨((zC .i64 (x12_2+1)),(zC .i64 (x13_2 - 1))),g.k,H⟩))
             ·refine zCC 16 λw hB=>?_
              replace H:=H w hB
              refine g.x 0 rfl (zR g rfl) λ_ g=>g.x 1 rfl (zR g rfl) λ_ g=>g.x 2 rfl (zR g rfl) λ_ g=>g.x 3 rfl (zR g rfl) λ_ g=>g.x 4 rfl (zR g rfl) λ_ g=>g.x 5 rfl (zR g rfl) λ_ g=>g.y 6 rfl (zH g rfl rfl) H λx151 a H g=>g.x 8 rfl (zR g rfl) λ_ g=>g.x 9 rfl (zR g rfl) λ_ g=>g.y 10 rfl (zH g rfl rfl) H λx155 a H g=>WA.tw 7 11 rfl rfl ?_ ?_
              ·have H:=H.1
               intro K hK
               exact g.i (zO g rfl) H λx152 w a H g=>hK _ _ (g.j 11 rfl (zO g rfl) H λx156 w a H g=>g.y 12 rfl (zH g rfl rfl) H λx157 a H g=>g.l 13 rfl (zT g rfl rfl) H λw a H g=>g.y 14 rfl (zH g rfl rfl) H λx158 a H g=>g.l 15 rfl (zT g rfl rfl) H λw a H g=>WA.ni ((tn (hj14 () _ _ H (g.k)))))
              ·have H:=H.2
               intro K hK
               exact g.i (zO g rfl) H λx156_1 w a H g=>hK _ _ (g.j 7 rfl (zO g rfl) H λx152_1 w a H g=>g.y 12 rfl (zH g rfl rfl) H λx157_1 a H g=>g.l 13 rfl (zT g rfl rfl) H λw a H g=>g.y 14 rfl (zH g rfl rfl) H λx158_1 a H g=>g.l 15 rfl (zT g rfl rfl) H λw a H g=>WA.ni ((tn (hj14 () _ _ H (g.k)))))
          ·rcases Classical.em ((x12_2<=x13_2)) with hbr12|hbr12
           ·have H:=H.1 hbr12
            have g:=g.b (b:=true) (t:=126) rfl (decide_eq_true hbr12)
            refine g.e (g.t rfl λ_ g=>g.e (g.t rfl λ_ g=>g.e (g.t rfl λ_ g=>g.e (g.A (zH g rfl rfl) H λx130 a H g=>g.e (g.A (zO g rfl) H λx131 a H g=>g.e (g.t rfl λ_ g=>g.e (g.t rfl λ_ g=>g.e (g.A (zH g rfl rfl) H λx134 a H g=>g.e (g.A (zO g rfl) H λx135 a H g=>g.e ?_)))))))))
            obtain ⟨r,hc,H⟩:=H
            exact g.qcallV rfl rfl hc λ_ g=>g.e (g.r (yR g rfl rfl) λ_ g=>g.e (g.r (zAJ g rfl) λ_ g=>g.r (zx g rfl rfl) λ_ g=>hr12 (!(decide (r<0))) _ H (g.k)))
           ·have H:=H.2 hbr12
            have g:=g.b (b:=false) (t:=126) rfl (decide_eq_false hbr12)
            exact g.g (λ_ g=>g.g (λ_ g=>g.g (λ_ g=>g.g (λ_ g=>g.g (λ_ g=>g.g (λ_ g=>g.g (λ_ g=>g.g (λ_ g=>g.g (λ_ g=>g.g (λ_ g=>g.g (λ_ g=>g.g (λ_ g=>g.r (zy g rfl rfl) λ_ g=>hr12 false _ H (g.k)))))))))))))
        ·rcases Classical.em ((x12_2<=x13_1)) with hbr10|hbr10
         ·have H:=H.1 hbr10
          have g:=g.b (b:=true) (t:=108) rfl (decide_eq_true hbr10)
          refine g.e (g.t rfl λ_ g=>g.e (g.t rfl λ_ g=>g.e (g.t rfl λ_ g=>g.e (g.A (zH g rfl rfl) H λx112 a H g=>g.e (g.A (zO g rfl) H λx113 a H g=>g.e (g.t rfl λ_ g=>g.e (g.t rfl λ_ g=>g.e (g.A (zH g rfl rfl) H λx116 a H g=>g.e (g.A (zO g rfl) H λx117 a H g=>g.e ?_)))))))))
          obtain ⟨r_1,hc,H⟩:=H
          exact g.qcallV rfl rfl hc λ_ g=>g.e (g.r (yR g rfl rfl) λ_ g=>g.r (zx g rfl rfl) λ_ g=>hr10 (decide (r_1<0)) _ H (g.k))
         ·have H:=H.2 hbr10
          have g:=g.b (b:=false) (t:=108) rfl (decide_eq_false hbr10)
          exact g.g (λ_ g=>g.g (λ_ g=>g.g (λ_ g=>g.g (λ_ g=>g.g (λ_ g=>g.g (λ_ g=>g.g (λ_ g=>g.g (λ_ g=>g.g (λ_ g=>g.g (λ_ g=>g.g (λ_ g=>g.r (zy g rfl rfl) λ_ g=>hr10 false _ H (g.k))))))))))))
       ·refine zCC 16 λw hB=>?_
        replace H:=H w hB
        refine g.x 0 rfl (zR g rfl) λ_ g=>g.x 1 rfl (zR g rfl) λ_ g=>g.x 2 rfl (zR g rfl) λ_ g=>g.x 3 rfl (zR g rfl) λ_ g=>g.x 4 rfl (zR g rfl) λ_ g=>g.x 5 rfl (zR g rfl) λ_ g=>g.y 6 rfl (zH g rfl rfl) H λx93 a H g=>g.x 8 rfl (zR g rfl) λ_ g=>g.x 9 rfl (zR g rfl) λ_ g=>g.y 10 rfl (zH g rfl rfl) H λx97 a H g=>WA.tw 7 11 rfl rfl ?_ ?_
        ·have H:=H.1
         intro K hK
         exact g.i (zO g rfl) H λx94 w a H g=>hK _ _ (g.j 11 rfl (zO g rfl) H λx98 w a H g=>g.y 12 rfl (zH g rfl rfl) H λx99 a H g=>g.l 13 rfl (zT g rfl rfl) H λw a H g=>g.y 14 rfl (zH g rfl rfl) H λx100 a H g=>g.l 15 rfl (zT g rfl rfl) H λw a H g=>WA.ni ((tn (hj7 () _ _ H (g.k)))))
        ·have H:=H.2
         intro K hK
         exact g.i (zO g rfl) H λx98_1 w a H g=>hK _ _ (g.j 7 rfl (zO g rfl) H λx94_1 w a H g=>g.y 12 rfl (zH g rfl rfl) H λx99_1 a H g=>g.l 13 rfl (zT g rfl rfl) H λw a H g=>g.y 14 rfl (zH g rfl rfl) H λx100_1 a H g=>g.l 15 rfl (zT g rfl rfl) H λw a H g=>WA.ni ((tn (hj7 () _ _ H (g.k)))))
    ·rcases Classical.em ((x12<=x13)) with hbr5|hbr5
     ·have H:=H.1 hbr5
      have g:=g.b (b:=true) (t:=53) rfl (decide_eq_true hbr5)
      refine g.e (g.t rfl λ_ g=>g.e (g.t rfl λ_ g=>g.e (g.t rfl λ_ g=>g.e (g.A (zH g rfl rfl) H λx57 a H g=>g.e (g.A (zO g rfl) H λx58 a H g=>g.e (g.t rfl λ_ g=>g.e (g.t rfl λ_ g=>g.e (g.A (zH g rfl rfl) H λx61 a H g=>g.e (g.A (zO g rfl) H λx62 a H g=>g.e ?_)))))))))
      obtain ⟨r_2,hc,H⟩:=H
      exact g.qcallV rfl rfl hc λ_ g=>g.e (g.r (yR g rfl rfl) λ_ g=>g.e (g.r (zAJ g rfl) λ_ g=>g.r (zx g rfl rfl) λ_ g=>hr5 (!(decide (r_2<0))) _ H (g.k)))
     ·have H:=H.2 hbr5
      have g:=g.b (b:=false) (t:=53) rfl (decide_eq_false hbr5)
      exact g.g (λ_ g=>g.g (λ_ g=>g.g (λ_ g=>g.g (λ_ g=>g.g (λ_ g=>g.g (λ_ g=>g.g (λ_ g=>g.g (λ_ g=>g.g (λ_ g=>g.g (λ_ g=>g.g (λ_ g=>g.g (λ_ g=>g.r (zy g rfl rfl) λ_ g=>hr5 false _ H (g.k)))))))))))))
  ·rcases Classical.em ((x12<=(zC .i64 (x2 - 1)))) with hbr3|hbr3
   ·have H:=H.1 hbr3
    have g:=g.b (b:=true) (t:=35) rfl (decide_eq_true hbr3)
    refine g.e (g.t rfl λ_ g=>g.e (g.t rfl λ_ g=>g.e (g.t rfl λ_ g=>g.e (g.A (zH g rfl rfl) H λx39 a H g=>g.e (g.A (zO g rfl) H λx40 a H g=>g.e (g.t rfl λ_ g=>g.e (g.t rfl λ_ g=>g.e (g.A (zH g rfl rfl) H λx43 a H g=>g.e (g.A (zO g rfl) H λx44 a H g=>g.e ?_)))))))))
    obtain ⟨r_3,hc,H⟩:=H
    exact g.qcallV rfl rfl hc λ_ g=>g.e (g.r (yR g rfl rfl) λ_ g=>g.r (zx g rfl rfl) λ_ g=>hr3 (decide (r_3<0)) _ H (g.k))
   ·have H:=H.2 hbr3
    have g:=g.b (b:=false) (t:=35) rfl (decide_eq_false hbr3)
    exact g.g (λ_ g=>g.g (λ_ g=>g.g (λ_ g=>g.g (λ_ g=>g.g (λ_ g=>g.g (λ_ g=>g.g (λ_ g=>g.g (λ_ g=>g.g (λ_ g=>g.g (λ_ g=>g.g (λ_ g=>g.r (zy g rfl rfl) λ_ g=>hr3 false _ H (g.k))))))))))))
 ·refine zCC 16 λw hB=>?_
  replace H:=H w hB
  refine g.x 0 rfl (zR g rfl) λ_ g=>g.x 1 rfl (zR g rfl) λ_ g=>g.x 2 rfl (zR g rfl) λ_ g=>g.x 3 rfl (zR g rfl) λ_ g=>g.x 4 rfl (zR g rfl) λ_ g=>g.x 5 rfl (zR g rfl) λ_ g=>g.y 6 rfl (zH g rfl rfl) H λx20 a H g=>g.x 8 rfl (zR g rfl) λ_ g=>g.x 9 rfl (zR g rfl) λ_ g=>g.y 10 rfl (zH g rfl rfl) H λx24 a H g=>WA.tw 7 11 rfl rfl ?_ ?_
  ·have H:=H.1
   intro K hK
   exact g.i (zO g rfl) H λx21 w a H g=>hK _ _ (g.j 11 rfl (zO g rfl) H λx25 w a H g=>g.y 12 rfl (zH g rfl rfl) H λx26 a H g=>g.l 13 rfl (zT g rfl rfl) H λw a H g=>g.y 14 rfl (zH g rfl rfl) H λx27 a H g=>g.l 15 rfl (zT g rfl rfl) H λw a H g=>WA.ni ((tn (hj1 () _ _ H (g.k)))))
  ·have H:=H.2
   intro K hK
   exact g.i (zO g rfl) H λx25_1 w a H g=>hK _ _ (g.j 7 rfl (zO g rfl) H λx21_1 w a H g=>g.y 12 rfl (zH g rfl rfl) H λx26_1 a H g=>g.l 13 rfl (zT g rfl rfl) H λw a H g=>g.y 14 rfl (zH g rfl rfl) H λx27_1 a H g=>g.l 15 rfl (zT g rfl rfl) H λw a H g=>WA.ni ((tn (hj1 () _ _ H (g.k)))))
def YQ (Kl1:Int->World->Prop) (x11:Int) (w:World):Prop:=
 Kl1 x11 w
def xy (x0:Sl) (x3:Int) (x4:Value) (Ret:World->Prop) (x10:Int) (Kl1:Int->World->Prop) (x11:Int) (w:World):Prop:=
 opB zA zB (zF 22 (Sl.v x0) (.int .i64 (zC .i64 (x3+x10)))) w (λx48=>opB zA zM.v (zD 66 (.pointer x48)) w (λx49=>opB zA zB (zF 22 (Sl.v x0) (.int .i64 (zC .i64 (x3+x11)))) w (λx54=>opB zA zM.v (zD 66 (.pointer x54)) w (λx55=>∃ (r:Int),Zs zA x4 [(zM.v x49),(zM.v x55)] w (.int .i64 r)/\(yM w (λw=>((!(decide (r<0)))=true->(Ret w))/\((!(decide (r<0)))=false->(yM w (λw=>opP zA zB (zF 22 (Sl.v x0) (.int .i64 (zC .i64 (x3+x11)))) (λx71=>opP zA zB (zF 22 (Sl.v x0) (.int .i64 (zC .i64 (x3+x10)))) (λx77=>(opE zA zM.v (zD 66 (.pointer x71)) w (λx72 w=>opE zA zM.v (zD 66 (.pointer x77)) w (λx78 w=>opP zA zB (zF 22 (Sl.v x0) (.int .i64 (zC .i64 (x3+x10)))) (λx79=>opU zA (zK 66 (.pointer x79) (zM.v x72)) w (λw=>opP zA zB (zF 22 (Sl.v x0) (.int .i64 (zC .i64 (x3+x11)))) (λx80=>opU zA (zK 66 (.pointer x80) (zM.v x78)) w (λw=>YQ Kl1 x11 w)))))))/\(opE zA zM.v (zD 66 (.pointer x77)) w (λx78_1 w=>opE zA zM.v (zD 66 (.pointer x71)) w (λx72_1 w=>opP zA zB (zF 22 (Sl.v x0) (.int .i64 (zC .i64 (x3+x10)))) (λx79_1=>opU zA (zK 66 (.pointer x79_1) (zM.v x72_1)) w (λw=>opP zA zB (zF 22 (Sl.v x0) (.int .i64 (zC .i64 (x3+x11)))) (λx80_1=>opU zA (zK 66 (.pointer x80_1) (zM.v x78_1)) w (λw=>YQ Kl1 x11 w))))))))))))))))))
def QB (x0:Sl) (x3:Int) (x4:Value) (Ret:World->Prop) (x10:Int) (Kl1:Int->World->Prop) (x40:Bool) (w:World):Prop:=
 yM w (λw=>(x40=true->(xy x0 x3 x4 Ret x10 Kl1 (zC .i64 ((zC .i64 ((zC .i64 (2*x10))+1))+1)) w))/\(x40=false->(xy x0 x3 x4 Ret x10 Kl1 (zC .i64 ((zC .i64 (2*x10))+1)) w)))
def ZH (x0:Sl) (x2:Int) (x3:Int) (x4:Value) (Ret:World->Prop) (x10:Int) (w:World) (Kl1:Int->World->Prop):Prop:=
 ((x2<=(zC .i64 ((zC .i64 (2*x10))+1)))->(Ret w))/\(¬ (x2<=(zC .i64 ((zC .i64 (2*x10))+1)))->((((zC .i64 ((zC .i64 ((zC .i64 (2*x10))+1))+1))<x2)->(opB zA zB (zF 22 (Sl.v x0) (.int .i64 (zC .i64 (x3+(zC .i64 ((zC .i64 (2*x10))+1)))))) w (λx29=>opB zA zM.v (zD 66 (.pointer x29)) w (λx30=>opB zA zB (zF 22 (Sl.v x0) (.int .i64 (zC .i64 ((zC .i64 (x3+(zC .i64 ((zC .i64 (2*x10))+1))))+1)))) w (λx36=>opB zA zM.v (zD 66 (.pointer x36)) w (λx37=>∃ (r_1:Int),Zs zA x4 [(zM.v x30),(zM.v x37)] w (.int .i64 r_1)/\(QB x0 x3 x4 Ret x10 Kl1 (decide (r_1<0)) w)))))))/\(¬ ((zC .i64 ((zC .i64 ((zC .i64 (2*x10))+1))+1))<x2)->(QB x0 x3 x4 Ret x10 Kl1 false w))))
def zA9 (x0:Sl) (x1:Int) (x2:Int) (x3:Int) (x4:Value) (w:World) (Ret:World->Prop):Prop:=
 ∃ (I:Int->World->Prop) (μ:Int->World->Nat),I x1 w/\∀ (x10:Int) w,I x10 w->ZH x0 x2 x3 x4 Ret x10 w (λx10' w'=>I x10' w'/\μ x10' w'<μ x10 w)
set_option maxRecDepth 100000 in
theorem zFR (x0:Sl) (x1:Int) (x2:Int) (x3:Int) (x4:Value) (w:World) (Ret:World->Prop) (H:zA9 x0 x1 x2 x3 x4 w Ret):Cl zA 114 [(Sl.v x0),(.int .i64 x1),(.int .i64 x2),(.int .i64 x3),x4].toArray w (λe w'=>e=.returned (.tuple [].toArray)/\Ret w'):=by
 unfold zA9 at H
 refine zp 82 (zipE 0 [(Sl.v x0),(.int .i64 x1),(.int .i64 x2),(.int .i64 x3),x4]) Tryz.func114 rfl rfl (by rfl) rfl ?_
 intro a g
 have g:Sat [] 82 [(0,(Sl.v x0)),(1,(.int .i64 x1)),(2,(.int .i64 x2)),(3,(.int .i64 x3)),(4,x4)] a:=g
 refine zI (zE (g.m rfl λ_ g=>g.s rfl λ_ g=>zL (tn (zX ?_))))
 obtain ⟨I_l1,μ_l1,h0,hb⟩:=H
 refine yE (ds:=[]) (N:=82) (σ:=Int) (λs=>[(10,(.int .i64 s)),(0,(Sl.v x0)),(2,(.int .i64 x2)),(3,(.int .i64 x3)),(4,x4)]) (λs w=>I_l1 s w) (λs w=>μ_l1 s w) x1 h0 (g.k) ?_
 intro x10 w a hI g
 try dsimp only at hI g
 obtain ⟨Kl1,hK_l1⟩:∃ K:Int->World->Prop,K=(λx10' w'=>I_l1 x10' w'/\μ_l1 x10' w'<μ_l1 x10 w):=⟨_,rfl⟩
 have H:ZH x0 x2 x3 x4 Ret x10 w Kl1:=by rw [hK_l1];exact hb x10 w hI
 clear hb h0 hI
 unfold ZH at H
 refine zX (zI (zE (g.m rfl λ_ g=>g.p (zF8 g rfl rfl) λ_ g=>g.p (zr g rfl rfl) λ_ g=>g.s rfl λ_ g=>zL (tn (zI (zI (zE (g.m rfl λ_ g=>g.m rfl λ_ g=>g.p (Zm g rfl rfl) λ_ g=>zL (tn (zd g rfl (λhc=>?_) (λhc=>?_)))))))))))
 ·have H:=H.1 hc
  exact z7 (te (bo (te (be (zBg g rfl ⟨rfl,H⟩)))))
 ·have H:=H.2 hc
  refine zY (tn (z8 (ds:=[]) (N:=82) (σ:=Int) (λs=>[(11,(.int .i64 s)),(0,(Sl.v x0)),(2,(.int .i64 x2)),(3,(.int .i64 x3)),(4,x4),(10,(.int .i64 x10))]) (λs w=>xy x0 x3 x4 Ret x10 Kl1 s w) ?_ (λhj2=>?_)))
  ·intro x11 w a H g
   try dsimp only at H g
   unfold xy at H
   refine zI (zI (QU (by kernel_rfl) (by kernel_rfl) (g.t rfl λ_ g=>g.t rfl λ_ g=>g.t rfl λ_ g=>g.t rfl λ_ g=>g.r (zr g rfl rfl) λ_ g=>g.A (zH g rfl rfl) H λx48 a H g=>g.A (zO g rfl) H λx49 a H g=>g.t rfl λ_ g=>g.t rfl λ_ g=>g.t rfl λ_ g=>g.r (zr g rfl rfl) λ_ g=>g.A (zH g rfl rfl) H λx54 a H g=>g.A (zO g rfl) H λx55 a H g=>?_)))
   obtain ⟨r,hc,H⟩:=H
   refine g.qcallV rfl rfl hc λ_ g=>g.r (yR g rfl rfl) λ_ g=>g.r (zAJ g rfl) λ_ g=>Qb (λw hB=>?_)
   replace H:=H w hB
   refine (tn (zk g rfl (λhc=>?_) (λhc=>?_)))
   ·have H:=H.1 hc
    exact zl (tr (br (tr (br (zE1 g rfl ⟨rfl,H⟩)))))
   ·have H:=H.2 hc
    refine zY (tn (z8 (ds:=[]) (N:=82) (σ:=Unit) (λs=>[(0,(Sl.v x0)),(2,(.int .i64 x2)),(3,(.int .i64 x3)),(4,x4),(11,(.int .i64 x11))]) (λs w=>YQ Kl1 x11 w) ?_ (λhj3=>?_)))
    ·rintro ⟨⟩ w a H g
     try dsimp only at H g
     unfold YQ at H
     refine zE (g.m rfl λ_ g=>g.s rfl λ_ g=>?_)
     rw [hK_l1] at H
     exact zL (bn (tn ⟨x11,g.k,H⟩))
    ·refine zCC 24 λw hB=>?_
     replace H:=H w hB
     refine g.x 0 rfl (zR g rfl) λ_ g=>g.x 1 rfl (zR g rfl) λ_ g=>g.x 2 rfl (zR g rfl) λ_ g=>g.x 3 rfl (zr g rfl rfl) λ_ g=>g.x 4 rfl (zR g rfl) λ_ g=>g.x 5 rfl (zR g rfl) λ_ g=>g.x 6 rfl (zR g rfl) λ_ g=>g.x 7 rfl (zr g rfl rfl) λ_ g=>g.x 8 rfl (zR g rfl) λ_ g=>g.x 9 rfl (zR g rfl) λ_ g=>g.x 10 rfl (zR g rfl) λ_ g=>g.x 11 rfl (zr g rfl rfl) λ_ g=>g.y 12 rfl (zH g rfl rfl) H λx71 a H g=>g.x 14 rfl (zR g rfl) λ_ g=>g.x 15 rfl (zR g rfl) λ_ g=>g.x 16 rfl (zR g rfl) λ_ g=>g.x 17 rfl (zr g rfl rfl) λ_ g=>g.y 18 rfl (zH g rfl rfl) H λx77 a H g=>WA.tw 13 19 rfl rfl ?_ ?_
     ·have H:=H.1
      intro K hK
      exact g.i (zO g rfl) H λx72 w a H g=>hK _ _ (g.j 19 rfl (zO g rfl) H λx78 w a H g=>g.y 20 rfl (zH g rfl rfl) H λx79 a H g=>g.l 21 rfl (zT g rfl rfl) H λw a H g=>g.y 22 rfl (zH g rfl rfl) H λx80 a H g=>g.l 23 rfl (zT g rfl rfl) H λw a H g=>WA.ni ((tn (hj3 () _ _ H (g.k)))))
     ·have H:=H.2
      intro K hK
      exact g.i (zO g rfl) H λx78_1 w a H g=>hK _ _ (g.j 13 rfl (zO g rfl) H λx72_1 w a H g=>g.y 20 rfl (zH g rfl rfl) H λx79_1 a H g=>g.l 21 rfl (zT g rfl rfl) H λw a H g=>g.y 22 rfl (zH g rfl rfl) H λx80_1 a H g=>g.l 23 rfl (zT g rfl rfl) H λw a H g=>WA.ni ((tn (hj3 () _ _ H (g.k)))))
  ·refine zI (QU (by kernel_rfl) (by kernel_rfl) (g.t rfl λ_ g=>g.r (zr g rfl rfl) λ_ g=>g.t rfl λ_ g=>g.r (yR g rfl rfl) λ_ g=>g.t rfl λ_ g=>WQ.join (ds:=[]) (N:=82) (σ:=Bool) (λs=>[(40,(.bool s)),(0,(Sl.v x0)),(2,(.int .i64 x2)),(3,(.int .i64 x3)),(4,x4),(10,(.int .i64 x10)),(11,(.int .i64 (zC .i64 ((zC .i64 (2*x10))+1))))]) (λs=>QB x0 x3 x4 Ret x10 Kl1 s w) 17 ?_ (λhr4=>?_)))
   ·intro x40 a H g
    try dsimp only at H g
    unfold QB at H
    refine Qb (λw hB=>?_)
    replace H:=H w hB
    refine (tn (zk g rfl (λhc=>?_) (λhc=>?_)))
    ·have H:=H.1 hc
     exact zE (g.m rfl λ_ g=>g.p (zr g rfl rfl) λ_ g=>g.s rfl λ_ g=>zL (tn (hj2 (zC .i64 ((zC .i64 ((zC .i64 (2*x10))+1))+1)) _ _ H (g.k))))
    ·have H:=H.2 hc
     exact zY (tn (hj2 (zC .i64 ((zC .i64 (2*x10))+1)) _ _ H (g.k)))
   ·rcases Classical.em (((zC .i64 ((zC .i64 ((zC .i64 (2*x10))+1))+1))<x2)) with hbr4|hbr4
    ·have H:=H.1 hbr4
     have g:=g.b (b:=true) (t:=23) rfl (decide_eq_true hbr4)
     refine g.e (g.t rfl λ_ g=>g.e (g.t rfl λ_ g=>g.e (g.t rfl λ_ g=>g.e (g.t rfl λ_ g=>g.e (g.r (zr g rfl rfl) λ_ g=>g.e (g.A (zH g rfl rfl) H λx29 a H g=>g.e (g.A (zO g rfl) H λx30 a H g=>g.e (g.t rfl λ_ g=>g.e (g.t rfl λ_ g=>g.e (g.t rfl λ_ g=>g.e (g.r (zr g rfl rfl) λ_ g=>g.e (g.r (zr g rfl rfl) λ_ g=>g.e (g.A (zH g rfl rfl) H λx36 a H g=>g.e (g.A (zO g rfl) H λx37 a H g=>g.e ?_))))))))))))))
     obtain ⟨r_1,hc,H⟩:=H
     exact g.qcallV rfl rfl hc λ_ g=>g.e (g.r (yR g rfl rfl) λ_ g=>g.r (zx g rfl rfl) λ_ g=>hr4 (decide (r_1<0)) _ H (g.k))
    ·have H:=H.2 hbr4
     have g:=g.b (b:=false) (t:=23) rfl (decide_eq_false hbr4)
     exact g.g (λ_ g=>g.g (λ_ g=>g.g (λ_ g=>g.g (λ_ g=>g.g (λ_ g=>g.g (λ_ g=>g.g (λ_ g=>g.g (λ_ g=>g.g (λ_ g=>g.g (λ_ g=>g.g (λ_ g=>g.g (λ_ g=>g.g (λ_ g=>g.g (λ_ g=>g.g (λ_ g=>g.g (λ_ g=>g.r (zy g rfl rfl) λ_ g=>hr4 false _ H (g.k)))))))))))))))))
def Zw (x0:Sl) (x1:Int) (x2:Option Addr) (x3:Value) (w:World) (Ret:Int->World->Prop):Prop:=
 Cl zA 118 [(Sl.v x0),(.int .i64 (zC .i64 (x1 - 1))),(.int .i64 x1),(.int .i64 (zC .i64 (x1+1))),(.pointer x2),x3].toArray w (λe w=>∃ (r:Int),e=.returned (.int .i64 r)/\(Ret r w))
set_option maxRecDepth 100000 in
theorem zDt (x0:Sl) (x1:Int) (x2:Option Addr) (x3:Value) (w:World) (Ret:Int->World->Prop) (H:Zw x0 x1 x2 x3 w Ret):Cl zA 117 [(Sl.v x0),(.int .i64 x1),(.pointer x2),x3].toArray w (λe w'=>∃ (r0:Int),e=.returned (.int .i64 r0)/\Ret r0 w'):=by
 unfold Zw at H
 refine zp 18 (zipE 0 [(Sl.v x0),(.int .i64 x1),(.pointer x2),x3]) Tryz.func117 rfl rfl (by rfl) rfl ?_
 intro a g
 have g:Sat [] 18 [(0,(Sl.v x0)),(1,(.int .i64 x1)),(2,(.pointer x2)),(3,x3)] a:=g
 refine zI (zE (g.s rfl λ_ g=>zL (tn (zI (zE (g.m rfl λ_ g=>g.m rfl λ_ g=>g.p (zv g rfl rfl) λ_ g=>g.m rfl λ_ g=>g.m rfl λ_ g=>g.p (zr g rfl rfl) λ_ g=>g.m rfl λ_ g=>g.m rfl λ_ g=>g.c (zb g zPz rfl rfl) H λe w H=>?_))))))
 obtain ⟨r,rfl,H⟩:=H
 exact ⟨_,rfl,λ_ g=>(g.s rfl λ_ g=>zL (tn (zl (zw g rfl rfl ⟨_,rfl,H⟩))))⟩
def zBZ (x0:Sl) (x1:Int) (x2:Int) (x3:Int) (x4:Option Addr) (x5:Value) (w:World) (Ret:Int->World->Prop):Prop:=
 Cl zA 139 [(Sl.v x0),(.int .i64 x1),(.int .i64 x2),(.pointer x4),x5].toArray w (λe w=>∃ (r:Int) (r_1:Int),e=.returned (.tuple [(.int .i64 r),(.int .i64 r_1)].toArray)/\(Cl zA 139 [(Sl.v x0),(.int .i64 r_1),(.int .i64 x3),(.pointer x4),x5].toArray w (λe w=>∃ (r_2:Int) (r_3:Int),e=.returned (.tuple [(.int .i64 r_2),(.int .i64 r_3)].toArray)/\(Cl zA 139 [(Sl.v x0),(.int .i64 r),(.int .i64 r_2),(.pointer x4),x5].toArray w (λe w=>∃ (r_4:Int) (r_5:Int),e=.returned (.tuple [(.int .i64 r_4),(.int .i64 r_5)].toArray)/\(Ret r_5 w))))))
set_option maxRecDepth 100000 in
theorem zFx (x0:Sl) (x1:Int) (x2:Int) (x3:Int) (x4:Option Addr) (x5:Value) (w:World) (Ret:Int->World->Prop) (H:zBZ x0 x1 x2 x3 x4 x5 w Ret):Cl zA 118 [(Sl.v x0),(.int .i64 x1),(.int .i64 x2),(.int .i64 x3),(.pointer x4),x5].toArray w (λe w'=>∃ (r0:Int),e=.returned (.int .i64 r0)/\Ret r0 w'):=by
 unfold zBZ at H
 refine zp 41 (zipE 0 [(Sl.v x0),(.int .i64 x1),(.int .i64 x2),(.int .i64 x3),(.pointer x4),x5]) Tryz.func118 rfl rfl (by rfl) rfl ?_
 intro a g
 have g:Sat [] 41 [(0,(Sl.v x0)),(1,(.int .i64 x1)),(2,(.int .i64 x2)),(3,(.int .i64 x3)),(4,(.pointer x4)),(5,x5)] a:=g
 refine zI (zE (g.s rfl λ_ g=>zL (tn (zI (zE (g.m rfl λ_ g=>g.m rfl λ_ g=>g.m rfl λ_ g=>g.m rfl λ_ g=>g.m rfl λ_ g=>g.c (zb g zOM rfl rfl) H λe w H=>?_))))))
 obtain ⟨r,r_1,rfl,H⟩:=H
 refine ⟨_,rfl,λ_ g=>(g.m rfl λ_ g=>g.p (zc g rfl rfl) λ_ g=>g.p (zc g rfl rfl) λ_ g=>g.s rfl λ_ g=>g.s rfl λ_ g=>zL (tn (zI (zE (g.m rfl λ_ g=>g.m rfl λ_ g=>g.m rfl λ_ g=>g.m rfl λ_ g=>g.m rfl λ_ g=>g.c (zb g zOM rfl rfl) H λe w H=>?_)))))⟩
 obtain ⟨r_2,r_3,rfl,H⟩:=H
 refine ⟨_,rfl,λ_ g=>(g.m rfl λ_ g=>g.p (zc g rfl rfl) λ_ g=>g.p (zc g rfl rfl) λ_ g=>g.s rfl λ_ g=>g.s rfl λ_ g=>zL (tn (zI (zE (g.m rfl λ_ g=>g.m rfl λ_ g=>g.m rfl λ_ g=>g.m rfl λ_ g=>g.m rfl λ_ g=>g.c (zb g zOM rfl rfl) H λe w H=>?_)))))⟩
 obtain ⟨r_4,r_5,rfl,H⟩:=H
 exact ⟨_,rfl,λ_ g=>(g.m rfl λ_ g=>g.p (zc g rfl rfl) λ_ g=>g.p (zc g rfl rfl) λ_ g=>g.s rfl λ_ g=>g.s rfl λ_ g=>zL (tn (zI (zE (g.m rfl λ_ g=>g.s rfl λ_ g=>zL (tn (zl (zw g rfl rfl ⟨_,rfl,H⟩))))))))⟩
def zBb (x0:Sl) (x1:Int) (x2:Int) (x3:Option Addr) (x4:Value) (w:World) (Ret:Int->Int->World->Prop):Prop:=
 opB zA zB (zF 22 (Sl.v x0) (.int .i64 x2)) w (λx15=>opB zA zM.v (zD 66 (.pointer x15)) w (λx16=>opB zA zB (zF 22 (Sl.v x0) (.int .i64 x1)) w (λx19=>opB zA zM.v (zD 66 (.pointer x19)) w (λx20=>∃ (r:Int),Zs zA x4 [(zM.v x16),(zM.v x20)] w (.int .i64 r)/\(yM w (λw=>((r<0)->(Qg (.pointer x3)/\(opE zA (zV .i64) (zD 3 (.pointer x3)) w (λx25 w=>Qg (.pointer x3)/\(opU zA (zK 3 (.pointer x3) (.int .i64 (zC .i64 (x25+1)))) w (λw=>Ret x2 x1 w))))))/\(¬ (r<0)->(Ret x1 x2 w))))))))
set_option maxRecDepth 100000 in
theorem zFv (x0:Sl) (x1:Int) (x2:Int) (x3:Option Addr) (x4:Value) (w:World) (Ret:Int->Int->World->Prop) (H:zBb x0 x1 x2 x3 x4 w Ret):Cl zA 139 [(Sl.v x0),(.int .i64 x1),(.int .i64 x2),(.pointer x3),x4].toArray w (λe w'=>∃ (r0:Int) (r1:Int),e=.returned (.tuple [(.int .i64 r0),(.int .i64 r1)].toArray)/\Ret r0 r1 w'):=by
 unfold zBb at H
 refine zp 32 (zipE 0 [(Sl.v x0),(.int .i64 x1),(.int .i64 x2),(.pointer x3),x4]) Tryz.func139 rfl rfl (by rfl) rfl ?_
 intro a g
 have g:Sat [] 32 [(0,(Sl.v x0)),(1,(.int .i64 x1)),(2,(.int .i64 x2)),(3,(.pointer x3)),(4,x4)] a:=g
 refine zI (zE (g.s rfl λ_ g=>g.s rfl λ_ g=>zL (tn (zI (zI (QU (by kernel_rfl) (by kernel_rfl) (g.t rfl λ_ g=>g.t rfl λ_ g=>g.t rfl λ_ g=>g.A (zH g rfl rfl) H λx15 a H g=>g.A (zO g rfl) H λx16 a H g=>g.t rfl λ_ g=>g.t rfl λ_ g=>g.A (zH g rfl rfl) H λx19 a H g=>g.A (zO g rfl) H λx20 a H g=>?_)))))))
 obtain ⟨r,hc,H⟩:=H
 refine g.qcallV rfl rfl hc λ_ g=>g.r (yR g rfl rfl) λ_ g=>Qb (λw hB=>?_)
 replace H:=H w hB
 refine (tn (zd g rfl (λhc=>?_) (λhc=>?_)))
 ·have H:=H.1 hc
  refine zI (zE (g.m rfl λ_ g=>g.p (zj g rfl H.1) λ_ g=>?_))
  have H:=H.2
  refine g.o (zO g rfl) H λx25 w a H g=>g.p (zr g rfl rfl) λ_ g=>g.p (zj g rfl H.1) λ_ g=>?_
  have H:=H.2
  exact g.h (zT g rfl rfl) H λw a H g=>zL (tn (zI (zE (g.m rfl λ_ g=>g.m rfl λ_ g=>g.s rfl λ_ g=>g.s rfl λ_ g=>zL (tn (zl (tr (ZK g rfl rfl rfl ⟨_,_,rfl,H⟩))))))))
 ·have H:=H.2 hc
  exact zY (tn (zI (zE (g.m rfl λ_ g=>g.m rfl λ_ g=>g.s rfl λ_ g=>g.s rfl λ_ g=>zL (tn (zl (ZK g rfl rfl rfl ⟨_,_,rfl,H⟩)))))))
end Go.Proofs.YtealcoghiaeiiaaGreat.VG
