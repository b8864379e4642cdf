/- Texts by which the law's calls are walked (part 1): rules, printed conditions, contracts; no condition. -/
import Derived.TacticsIn
import Derived.TacticsInMore
import Derived.Deep.LoopGhost
import Derived.Sort.QuietThIn
import Derived.RangeFuncCalls
import Derived.RangeFuncNested
import Derived.RangeFuncLeaves
import Derived.WalkKit
import Derived.StillTail
import Derived.Test.YtjlfegnhomgjhaaDoorProg
import Derived.KernelRfl
open Go.Proofs.Tryd renaming prog → zA
open Go.IntKind renaming wrap → zF
open Go.Value renaming pointer → zC, int → zH, bool → yO
open Go.Instr renaming loadAt → zG, storeAt → zK, indexAt → zN, fieldAt → zJ, alloc → z6, build → yI, buildSlice → zd
open Nat renaming le_refl → zP
set_option linter.unusedVariables false
set_option linter.unusedSimpArgs false
namespace Go.VB
abbrev Env:=List (Nat × Value)
def lk:Env->Nat->Option Value
 |[],_=>none
 |(k,v)::r,t=>bif Nat.beq k t then some v else lk r t
def ev (E:Env):Operand->Option Value
 |.tmp t=>lk E t
 |.const v=>some v
 |.global g=>some (.pointer (some ⟨g,0,none⟩))
 |.func f=>some (.func (.func f) #[] #[])
def zAL (E:Env):Env->Prop
 |[]=>True
 |(k,v)::r=>lk E k=some v/\zAL E r
structure Sat (ds:List Deferred) (N:Nat) (E:Env) (a:Act):Prop where
 size:a.tmps.size=N
 vals:∀ t v,lk E t=some v->a.tmps.getD t undef=v
 defs:a.defers=ds
theorem Zg {m n:Nat} (h:¬ m=n):Nat.beq m n=false:=by
 cases hb:Nat.beq m n
 ·rfl
 ·exact absurd (Nat.eq_of_beq_eq_true hb) h
theorem Sat.ev {ds:List Deferred} {N:Nat} {E:Env} {a:Act} (h:Sat ds N E a) {x:Operand} {v:Value} (hx:ev E x=some v):a.eval x=v:=by
 cases x with
 |tmp t=>exact h.vals t v hx
 |const c=>exact Option.some.inj hx
 |global g=>exact Option.some.inj hx
 |func f=>exact Option.some.inj hx
theorem Sat.put {ds:List Deferred} {N:Nat} {E:Env} {a:Act} (h:Sat ds N E a) {d:Nat} (hd:Nat.blt d N=true) (v:Value):Sat ds N ((d,v)::E) (a.put (some d) v):=by
 have hd':d<N:=by simpa [Nat.blt_eq] using hd
 refine ⟨by simp [Act.put,h.size],λt u hu=>?_,h.defs⟩
 by_cases e:d=t
 ·subst e
  have:u=v:=by
   have h1:(bif Nat.beq d d then some v else lk E d)=some u:=hu
   rw [show Nat.beq d d=true from by simp] at h1
   exact (Option.some.inj h1).symm
  subst this
  simp [Act.put,Array.getD_eq_getD_getElem?,Array.getElem?_setIfInBounds,h.size,hd']
 ·have h1:(bif Nat.beq d t then some v else lk E t)=some u:=hu
  rw [show Nat.beq d t=false from Zg e] at h1
  have:=h.vals t u h1
  simpa [Act.put,Array.getD_eq_getD_getElem?,Array.getElem?_setIfInBounds,e] using this
theorem Zu {E:Env}:∀ {E':Env},zAL E E'->∀ t v,lk E' t=some v->lk E t=some v
 |[],_,_,_,h=>by cases h
 |(k,u)::r,hA,t,v,h=>by
  by_cases e:k=t
  ·subst e
   have h1:(bif Nat.beq k k then some u else lk r k)=some v:=h
   rw [show Nat.beq k k=true from by simp] at h1
   rw [← Option.some.inj h1];exact hA.1
  ·have h1:(bif Nat.beq k t then some u else lk r t)=some v:=h
   rw [show Nat.beq k t=false from Zg e] at h1
   exact Zu hA.2 t v h1
theorem Sat.weak {ds:List Deferred} {N:Nat} {E E':Env} {a:Act} (h:Sat ds N E a) (hA:zAL E E'):Sat ds N E' a:=⟨h.size,λt v hv=>h.vals t v (Zu hA t v hv),h.defs⟩
theorem Sat.k {ds:List Deferred} {N:Nat} {E E':Env} {a:Act} (h:Sat ds N E a) (hA:zAL E E':=by (repeat (refine ⟨rfl,?_⟩));exact trivial):Sat ds N E' a:=h.weak hA
theorem Sat.getq {ds:List Deferred} {N:Nat} {E:Env} {a:Act} (h:Sat ds N E a) {t:Nat} {v:Value} (hv:lk E t=some v):a.tmps[t]?.getD undef=v:=by
 have:=h.vals t v hv
 simpa [Array.getD_eq_getD_getElem?] using this
theorem Sat.enter {N:Nat} {E:Env} (args:Array Value) (hN:args.size<=N) (hE:∀ t v,lk E t=some v->args[t]?=some v):
  Sat [] N E {tmps:=args++Array.replicate (N - args.size) undef,defers:=[]}:=by
 refine ⟨by simp;omega,λt v hv=>?_,rfl⟩
 have h:=hE t v hv
 have hlt:t<args.size:=by
  rw [Array.getElem?_eq_some_iff] at h;exact h.1
 simp [Array.getD_eq_getD_getElem?,Array.getElem?_append,hlt]
 exact (Array.getElem?_eq_some_iff.1 h).2
abbrev FW (ro:Option Nat):Fence:={Fence.wide with round:=ro}
abbrev Cl (P:Program) (f:FuncId) (args:Array Value) (w:World) (R:Ending->World->Prop):Prop:=CallsIn (FW none) 0 P f args w R
theorem Cl.calls {P:Program} {f:FuncId} {args:Array Value} {w:World} {R:Ending->World->Prop} (h:Cl P f args w R):Calls P f args w R:=callsIn_wide.1 h
def opE {τ:Type} (P:Program) (enc:τ->Value) (s:Sem Value) (w:World) (k:τ->World->Prop):Prop:=∃ x w',s.run P w=.ok (enc x) w'/\k x w'
def opU (P:Program) (s:Sem Unit) (w:World) (k:World->Prop):Prop:=∃ w',s.run P w=.ok () w'/\k w'
section
variable {ro:Option Nat} {P:Program} {ops:Array Oper} {Q:Exit->Act->World->Prop} {ds:List Deferred} {N:Nat} {E:Env} {a:Act} {w:World} {rest:List Oper} {o:Oper}
abbrev WL (ro:Option Nat) (P:Program) (ops:Array Oper) (Q:Exit->Act->World->Prop) (l:List Oper) (a:Act) (w:World):Prop:=wpListIn (FW ro) 0 P ops Q l a w
abbrev WC (ro:Option Nat) (P:Program) (c:Code) (Q:Exit->Act->World->Prop) (a:Act) (w:World):Prop:=Code.wpIn (FW ro) 0 P c Q a w
theorem zAo (hg:o.guard=none) (hnd:∀ c,o.op≠.defer c) {v:Value} {w':World} (hr:(execOp a.eval o).run P w=.ok (.value v) w')
  (h:WL ro P ops Q rest (a.put o.dst v) w'):WL ro P ops Q (o::rest) a w:=by
 unfold WL wpListIn
 rw [if_pos (by simp [Region.wanted,hg])]
 refine ⟨λ_ _=>trivial,?_⟩
 rw [Oper.semAt_eq _ _ _ hnd,hr]
 exact h
theorem zA1 (hg:o.guard=none) (hnd:∀ c,o.op≠.defer c) {w':World} (hr:(execOp a.eval o).run P w=.ok .skip w')
  (h:WL ro P ops Q rest (a.put o.dst undef) w'):WL ro P ops Q (o::rest) a w:=by
 unfold WL wpListIn
 rw [if_pos (by simp [Region.wanted,hg])]
 refine ⟨λ_ _=>trivial,?_⟩
 rw [Oper.semAt_eq _ _ _ hnd,hr]
 exact h
theorem zAK (hg:o.guard=none) (hnd:∀ c,o.op≠.defer c) {f:FuncId} {args:Array Value} {w':World} (hr:(execOp a.eval o).run P w=.ok (.enter f args) w')
  {R:Ending->World->Prop} (hc:Cl P f args w' R)
  (h:∀ e w'',R e w''->∃ v,e=.returned v/\WL ro P ops Q rest (a.put o.dst v) w''):WL ro P ops Q (o::rest) a w:=by
 unfold WL wpListIn
 rw [if_pos (by simp [Region.wanted,hg])]
 refine ⟨λ_ _=>trivial,?_⟩
 rw [Oper.semAt_eq _ _ _ hnd,hr,Oper.uponIn_enter]
 refine ⟨λh=>by simp [FW,Fence.wide] at h,?_⟩
 have hc':CallsIn (FW ro) 0 P f args w' R:=hc
 refine CallsIn.mono hc' λe w'' hR=>?_
 obtain ⟨v,rfl,hv⟩:=h e w'' hR
 exact hv
theorem Sat.val (hE:Sat ds N E a) {τ:Type} {enc:τ->Value} {s:Sem Value} {k:τ->World->Prop} {op:Op} {ty:TypeId} {pos:String} {aft:Array Edge} {d:Nat}
  (he:execOp a.eval ⟨some d,op,ty,pos,aft,none⟩=s >>= λv=>pure (.value v)) (hnd:∀ c,op≠.defer c) (hN:Nat.blt d N=true) (H:opE P enc s w k)
  (next:∀ x w' a',k x w'->Sat ds N ((d,enc x)::E) a'->WL ro P ops Q rest a' w'):WL ro P ops Q (⟨some d,op,ty,pos,aft,none⟩::rest) a w:=by
 obtain ⟨x,w',hr,hk⟩:=H
 exact zAo rfl hnd (v:=enc x) (w':=w') (by rw [he];simp [hr]) (next x w' _ hk (hE.put hN _))
theorem Sat.unit (hE:Sat ds N E a) {s:Sem Unit} {k:World->Prop} {op:Op} {ty:TypeId} {pos:String} {aft:Array Edge}
  (he:execOp a.eval ⟨none,op,ty,pos,aft,none⟩=s >>= λ_=>pure .skip) (hnd:∀ c,op≠.defer c) (H:opU P s w k)
  (next:∀ w' a',k w'->Sat ds N E a'->WL ro P ops Q rest a' w'):WL ro P ops Q (⟨none,op,ty,pos,aft,none⟩::rest) a w:=by
 obtain ⟨w',hr,hk⟩:=H
 exact zA1 rfl hnd (w':=w') (by rw [he];simp [hr]) (next w' _ hk hE)
theorem Sat.pure (hE:Sat ds N E a) {op:Op} {ty:TypeId} {pos:String} {aft:Array Edge} {d:Nat} {v:Value}
  (he:(execOp a.eval ⟨some d,op,ty,pos,aft,none⟩).run P w=.ok (.value v) w) (hnd:∀ c,op≠.defer c) (hN:Nat.blt d N=true)
  (next:∀ a',Sat ds N ((d,v)::E) a'->WL ro P ops Q rest a' w):WL ro P ops Q (⟨some d,op,ty,pos,aft,none⟩::rest) a w:=
 zAo rfl hnd he (next _ (hE.put hN _))
end
def evL (E:Env):List Operand->Option (List Value)
 |[]=>some []
 |x::r=>match VB.ev E x,evL E r with
  |some v,some l=>some (v::l)
  |_,_=>none
theorem Sat.evL {ds:List Deferred} {N:Nat} {E:Env} {a:Act} (h:Sat ds N E a):∀ {xs:List Operand} {vs:List Value},VB.evL E xs=some vs->xs.map a.eval=vs
 |[],vs,hx=>by simp [VB.evL] at hx;simp [hx]
 |x::r,vs,hx=>by
  unfold VB.evL at hx
  cases h1:VB.ev E x with
  |none=>rw [h1] at hx;cases hx
  |some v=>
   cases h2:VB.evL E r with
   |none=>rw [h1,h2] at hx;cases hx
   |some l=>
    rw [h1,h2] at hx
    obtain rfl:=Option.some.inj hx
    simp [h.ev h1,h.evL h2]
theorem Sat.evA {ds:List Deferred} {N:Nat} {E:Env} {a:Act} (h:Sat ds N E a) {xs:List Operand} {vs:List Value} (hx:VB.evL E xs=some vs):xs.toArray.map a.eval=vs.toArray:=by
 rw [← h.evL hx];simp
structure Sl where
 a:Option Addr
 len:Nat
 cap:Nat
abbrev Sl.v (s:Sl):Value:=.slice s.a s.len s.cap
abbrev Sl.none:Sl:=⟨Option.none,0,0⟩
theorem YU (x y:ByteArray):(x.toList==y.toList)=decide (x=y):=by
 by_cases h:x=y
 ·subst h;simp
 ·have:x.toList≠y.toList:=by
   intro e
   apply h
   have h1:=ByteArray.toList_eq (bs:=x)
   have h2:=ByteArray.toList_eq (bs:=y)
   rw [h1,h2] at e
   cases x;cases y
   simp at e
   simp [e]
  simp [h,this]
section
variable {ds:List Deferred} {N:Nat} {E:Env} {a:Act} {d:Option Tmp} {ty:TypeId} {pos:String} {aft:Array Edge}
abbrev pv (s:Sem Value):Sem Next:=s >>= λv=>Pure.pure (.value v)
abbrev pn (v:Value):Sem Next:=Pure.pure (.value v)
abbrev pu (s:Sem Unit):Sem Next:=s >>= λ_=>Pure.pure .skip
theorem zl (hE:Sat ds N E a) {x v} (hx:ev E x=some v):execOp a.eval ⟨d,.move x,ty,pos,aft,none⟩=pn v:=by rw [← hE.ev hx];rfl
theorem zAj (hE:Sat ds N E a) {x v} (hx:ev E x=some v):execOp a.eval ⟨d,.assign x,ty,pos,aft,none⟩=pn v:=by rw [← hE.ev hx];rfl
theorem zh (hE:Sat ds N E a) {c x y v} (hc:ev E c=some (.bool true)) (hx:ev E x=some v):execOp a.eval ⟨d,.pick c x y,ty,pos,aft,none⟩=pn v:=by
 rw [← hE.ev hx];simp [execOp,hE.ev hc,asBool]
theorem zj (hE:Sat ds N E a) {c x y v} (hc:ev E c=some (.bool false)) (hx:ev E y=some v):execOp a.eval ⟨d,.pick c x y,ty,pos,aft,none⟩=pn v:=by
 rw [← hE.ev hx];simp [execOp,hE.ev hc,asBool]
theorem YM {e:TypeId}:execOp a.eval ⟨d,.alloc e,ty,pos,aft,none⟩=pv (z6 e true (.tuple #[])):=rfl
theorem zAI (hE:Sat ds N E a) {e x v} (hx:ev E x=some v):execOp a.eval ⟨d,.box e x,ty,pos,aft,none⟩=pv (Instr.box e v):=by rw [← hE.ev hx];rfl
theorem zg (hE:Sat ds N E a) {t x v} (hx:ev E x=some v):execOp a.eval ⟨d,.load t x,ty,pos,aft,none⟩=pv (zG t v):=by rw [← hE.ev hx];rfl
theorem yE (hE:Sat ds N E a) {t x y v u} (hx:ev E x=some v) (hy:ev E y=some u):execOp a.eval ⟨d,.store t x y,ty,pos,aft,none⟩=pu (zK t v u):=by rw [← hE.ev hx,← hE.ev hy];rfl
theorem ZK {t:TypeId}:execOp a.eval ⟨d,.makeMap t none,ty,pos,aft,none⟩=pv (Instr.makeMap t none):=rfl
theorem zO (hE:Sat ds N E a) {s x f v} (hx:ev E x=some v):execOp a.eval ⟨d,.fieldAddr s x f,ty,pos,aft,none⟩=pv (zJ s v f):=by rw [← hE.ev hx];rfl
theorem zS (hE:Sat ds N E a) {t x y v u} (hx:ev E x=some v) (hy:ev E y=some u):execOp a.eval ⟨d,.indexAddr t x y,ty,pos,aft,none⟩=pv (zN t v u):=by rw [← hE.ev hx,← hE.ev hy];rfl
theorem yf (hE:Sat ds N E a) {t x y v u} (hx:ev E x=some v) (hy:ev E y=some u):execOp a.eval ⟨d,.index t x y,ty,pos,aft,none⟩=pv (Instr.index t v u):=by rw [← hE.ev hx,← hE.ev hy];rfl
theorem Zs (hE:Sat ds N E a) {t x y ok v u} (hx:ev E x=some v) (hy:ev E y=some u):execOp a.eval ⟨d,.lookup t x y ok,ty,pos,aft,none⟩=pv (Instr.lookup t v u ok):=by rw [← hE.ev hx,← hE.ev hy];rfl
theorem zBD (hE:Sat ds N E a) {t m k x vm vk vx} (hm:ev E m=some vm) (hk:ev E k=some vk) (hx:ev E x=some vx):execOp a.eval ⟨d,.mapUpdate t m k x,ty,pos,aft,none⟩=pu (Instr.mapUpdate t vm vk vx):=by rw [← hE.ev hm,← hE.ev hk,← hE.ev hx];rfl
theorem QJ (hE:Sat ds N E a) {t m k x vm vk vx} (hm:ev E m=some vm) (hk:ev E k=some vk) (hx:ev E x=some vx):execOp a.eval ⟨d,.insert t m k x,ty,pos,aft,none⟩=pu (Instr.mapUpdate t vm vk vx):=by rw [← hE.ev hm,← hE.ev hk,← hE.ev hx];rfl
theorem zB2 (hE:Sat ds N E a) {t x v} (hx:ev E x=some v):execOp a.eval ⟨d,.range t x,ty,pos,aft,none⟩=pv (Instr.range t v):=by rw [← hE.ev hx];rfl
theorem zB7 (hE:Sat ds N E a) {x s v} (hx:ev E x=some v):execOp a.eval ⟨d,.next x s,ty,pos,aft,none⟩=pv (Instr.next v s ty):=by rw [← hE.ev hx];rfl
theorem yn (hE:Sat ds N E a) {s t x v} (hx:ev E x=some v):execOp a.eval ⟨d,.convert s t x,ty,pos,aft,none⟩=pv (Go.convert s t v):=by rw [← hE.ev hx];rfl
theorem zb (hE:Sat ds N E a) {x i v} {vs:List Value} (hx:ev E x=some (.tuple vs.toArray)) (hi:vs[i]?=some v):execOp a.eval ⟨d,.extract x i,ty,pos,aft,none⟩=pn v:=by
 show (Instr.extract (a.eval x) i >>= λv=>Pure.pure (Next.value v))=_
 rw [hE.ev hx]
 simp [Instr.extract,hi]
def evO (E:Env):Option Operand->Option (Option Value)
 |none=>some none
 |some x=>match VB.ev E x with
  |some v=>some (some v)
  |none=>none
theorem Sat.evO (hE:Sat ds N E a) {x:Option Operand} {v:Option Value} (h:VB.evO E x=some v):x.map a.eval=v:=by
 cases x with
 |none=>simpa [VB.evO] using h
 |some x=>
  unfold VB.evO at h
  cases h1:VB.ev E x with
  |none=>simp [h1] at h
  |some u=>simp [h1] at h;simp [hE.ev h1,h]
theorem Qy (hE:Sat ds N E a) {t x lo hi mx v l h m} (hx:ev E x=some v) (hl:evO E lo=some l) (hh:evO E hi=some h) (hm:evO E mx=some m):
  execOp a.eval ⟨d,.slice t x lo hi mx,ty,pos,aft,none⟩=pv (Instr.sliceAt t v l h m):=by rw [← hE.ev hx,← hE.evO hl,← hE.evO hh,← hE.evO hm];rfl
def evP (E:Env):List (Nat × Operand)->Option (List (Nat × Value))
 |[]=>some []
 |(i,x)::r=>match VB.ev E x,evP E r with
  |some v,some l=>some ((i,v)::l)
  |_,_=>none
theorem Sat.evP (h:Sat ds N E a):∀ {xs:List (Nat × Operand)} {vs:List (Nat × Value)},VB.evP E xs=some vs->xs.map (λ(i,x)=>(i,a.eval x))=vs
 |[],vs,hx=>by simp [VB.evP] at hx;simp [hx]
 |(i,x)::r,vs,hx=>by
  unfold VB.evP at hx
  cases h1:VB.ev E x with
  |none=>rw [h1] at hx;cases hx
  |some v=>
   cases h2:VB.evP E r with
   |none=>rw [h1,h2] at hx;cases hx
   |some l=>
    rw [h1,h2] at hx
    obtain rfl:=Option.some.inj hx
    simp [h.ev h1]
    exact h.evP h2
theorem xX (hE:Sat ds N E a) {t} {xs:List (Nat × Operand)} {vs} (h:evP E xs=some vs):execOp a.eval ⟨d,.build t xs.toArray,ty,pos,aft,none⟩=pv (yI t vs.toArray):=by
 show (yI t (xs.toArray.map λ(i,x)=>(i,a.eval x)) >>= λv=>Pure.pure (Next.value v))=_
 rw [show xs.toArray.map (λ(i,x)=>(i,a.eval x))=vs.toArray from by rw [← hE.evP h];simp]
theorem y5 (hE:Sat ds N E a) {t n} {xs:List (Nat × Operand)} {vs} (h:evP E xs=some vs):execOp a.eval ⟨d,.buildSlice t n xs.toArray,ty,pos,aft,none⟩=pv (zd t n vs.toArray):=by
 show (zd t n (xs.toArray.map λ(i,x)=>(i,a.eval x)) >>= λv=>Pure.pure (Next.value v))=_
 rw [show xs.toArray.map (λ(i,x)=>(i,a.eval x))=vs.toArray from by rw [← hE.evP h];simp]
theorem QV (hE:Sat ds N E a) {op t x y t2 v u} (hx:ev E x=some v) (hy:ev E y=some u):execOp a.eval ⟨d,.binOp op t x y t2,ty,pos,aft,none⟩=pv (do eqGuard op t x y v u;binOp op t v u):=by rw [← hE.ev hx,← hE.ev hy];rfl
theorem xV {op t x y k m k' n}:eqGuard op t x y (.int k m) (.int k' n)=Pure.pure ():=by unfold eqGuard;split<;>rfl
theorem zAY {op t x y m n}:eqGuard op t x y (.string m) (.string n)=Pure.pure ():=by unfold eqGuard;split<;>rfl
theorem zAc {op t x y v u} (h:(!(op matches .eql|.neq))=true):eqGuard op t x y v u=Pure.pure ():=by cases op<;>first|rfl|(simp at h)
section
variable (hE:Sat ds N E a) {t t2:TypeId} {x y:Operand} {k:IntKind} {m n:Int} (hx:ev E x=some (.int k m)) (hy:ev E y=some (.int k n))
include hE hx hy
theorem xY:execOp a.eval ⟨d,.binOp .add t x y t2,ty,pos,aft,none⟩=pn (.int k (k.wrap (m+n))):=by rw [QV hE hx hy,xV];simp [binOp,Op.intArith]
theorem xl:execOp a.eval ⟨d,.binOp .sub t x y t2,ty,pos,aft,none⟩=pn (.int k (k.wrap (m - n))):=by rw [QV hE hx hy,xV];simp [binOp,Op.intArith]
theorem Q1:execOp a.eval ⟨d,.binOp .mul t x y t2,ty,pos,aft,none⟩=pn (.int k (k.wrap (m*n))):=by rw [QV hE hx hy,xV];simp [binOp,Op.intArith]
theorem ya:execOp a.eval ⟨d,.binOp .eql t x y t2,ty,pos,aft,none⟩=pn (.bool (decide (m=n))):=by rw [QV hE hx hy,xV];simp [binOp,Op.intCmp];rfl
theorem Q3:execOp a.eval ⟨d,.binOp .neq t x y t2,ty,pos,aft,none⟩=pn (.bool (decide (m≠n))):=by
 rw [QV hE hx hy,xV,show decide (m≠n)=!decide (m=n) from by simp];simp only [binOp,ne_eq,not_true_eq_false,if_false,Op.intCmp];rfl
theorem xm:execOp a.eval ⟨d,.binOp .lss t x y t2,ty,pos,aft,none⟩=pn (.bool (decide (m<n))):=by rw [QV hE hx hy,xV];simp [binOp,Op.intCmp]
theorem zBx:execOp a.eval ⟨d,.binOp .leq t x y t2,ty,pos,aft,none⟩=pn (.bool (decide (m<=n))):=by rw [QV hE hx hy,xV];simp [binOp,Op.intCmp]
theorem YO:execOp a.eval ⟨d,.binOp .gtr t x y t2,ty,pos,aft,none⟩=pn (.bool (decide (n<m))):=by rw [QV hE hx hy,xV];simp [binOp,Op.intCmp]
theorem Qk:execOp a.eval ⟨d,.binOp .geq t x y t2,ty,pos,aft,none⟩=pn (.bool (decide (n<=m))):=by rw [QV hE hx hy,xV];simp [binOp,Op.intCmp]
end
section
variable (hE:Sat ds N E a) {t t2:TypeId} {x y:Operand} {p q:ByteArray} (hx:ev E x=some (.string p)) (hy:ev E y=some (.string q))
include hE hx hy
theorem zBk:execOp a.eval ⟨d,.binOp .eql t x y t2,ty,pos,aft,none⟩=pn (.bool (decide (p=q))):=by rw [QV hE hx hy,zAY];simp only [binOp,Op.stringOp,YU];rfl
end
theorem Q2 (hE:Sat ds N E a) {t x b} (hx:ev E x=some (.bool b)):execOp a.eval ⟨d,.unOp .not t x,ty,pos,aft,none⟩=pn (.bool (!b)):=by
 show (Op.unary .not (a.eval x) >>= λv=>Pure.pure (Next.value v))=_
 rw [hE.ev hx];rfl
theorem zB6 (hE:Sat ds N E a) {op t x v} (hx:ev E x=some v):execOp a.eval ⟨d,.unOp op t x,ty,pos,aft,none⟩=pv (Op.unary op v):=by rw [← hE.ev hx];rfl
theorem Yt (hE:Sat ds N E a) {xs:List Operand} {vs ts} (h:evL E xs=some vs):execOp a.eval ⟨d,.call {callee:=.builtin .append,args:=xs.toArray,argTypes:=ts},ty,pos,aft,none⟩=pv (Builtin.append_ ts ty vs.toArray):=by
 rw [← hE.evA h];rfl
theorem zB1 (hE:Sat ds N E a) {xs:List Operand} {vs ts} (h:evL E xs=some vs):execOp a.eval ⟨d,.call {callee:=.builtin .clear,args:=xs.toArray,argTypes:=ts},ty,pos,aft,none⟩=pv (Builtin.clear_ ts ty vs.toArray):=by
 rw [← hE.evA h];rfl
theorem zBh (hE:Sat ds N E a) {xs:List Operand} {vs ts} (h:evL E xs=some vs):execOp a.eval ⟨d,.call {callee:=.builtin .len,args:=xs.toArray,argTypes:=ts},ty,pos,aft,none⟩=pv (Builtin.len_ ts ty vs.toArray):=by
 rw [← hE.evA h];rfl
theorem zCB (hE:Sat ds N E a) {xs:List Operand} {vs ts} (h:evL E xs=some vs):execOp a.eval ⟨d,.call {callee:=.builtin .cap,args:=xs.toArray,argTypes:=ts},ty,pos,aft,none⟩=pv (Builtin.cap_ ts ty vs.toArray):=by
 rw [← hE.evA h];rfl
def Ent (P:Program) (f:FuncId):Prop:=∀ args w,(callFunc f args).run P w=.ok (.enter f args) w
theorem Ent.of {P : Program} {f : FuncId} {fn : Func} (h : P.funcs[f]? = some fn) (h1 : (fn.name == "runtime.NumGoroutine") = false) (h2 : fn.body.isNone = false) : Ent P f := by
 intro args w
 have h3 : fn.name ≠ "runtime.NumGoroutine" := by simpa using h1
 have h4:fn.body≠none:=by intro e;rw [e] at h2;cases h2
 simp [callFunc,Sem.run,h,h3,h4]
theorem zAw (hE:Sat ds N E a) {P:Program} {w:World} {x:Operand} {xs:List Operand} {vs ts f} {us cs:Array Value} (he:Ent P f) (hx:ev E x=some (.func (.func f) us cs)) (h:evL E xs=some vs):
  (execOp a.eval ⟨d,.call {callee:=.value x,args:=xs.toArray,argTypes:=ts},ty,pos,aft,none⟩).run P w=.ok (.enter f ((us++vs.toArray)++cs)) w:=by
 rw [← hE.evA h,← he]
 have e:=hE.ev hx
 simp [execOp,resolve,Deferred.ofValue,e,invoke]
end
def zA2 {α β:Type} (ea:α->Value) (eb:β->Value):Option (α × β)->Value
 |none=>.tuple [.bool false].toArray
 |some (k,v)=>.tuple [.bool true,ea k,eb v].toArray
section
variable {ds:List Deferred} {N:Nat} {E:Env} {a:Act} {d:Option Tmp} {ty:TypeId} {pos:String} {aft:Array Edge}
theorem yY (hE:Sat ds N E a) {op t x y t2 v u} (hx:ev E x=some v) (hy:ev E y=some u) (h:(!(op matches .eql|.neq))=true:=by rfl):execOp a.eval ⟨d,.binOp op t x y t2,ty,pos,aft,none⟩=pv (binOp op t v u):=by
 rw [QV hE hx hy,zAc h];rfl
theorem zT (hE:Sat ds N E a) {P:Program} {w:World} {f:FuncId} {x:Operand} {xs:List Operand} {vs ts} (he:Ent P f) (hx:ev E x=some (.func (.func f) #[] #[])) (h:evL E xs=some vs):
  (execOp a.eval ⟨d,.call {callee:=.value x,args:=xs.toArray,argTypes:=ts},ty,pos,aft,none⟩).run P w=.ok (.enter f vs.toArray) w:=by
 rw [zAw hE he hx h];simp
theorem QR (hE:Sat ds N E a) {P:Program} {w:World} {x:Operand} {s:Sl} {t e:TypeId} {ts:Array TypeId} (hu:P.underlying t=some (.slice e)) (hx:ev E x=some s.v) (ht:ts[0]?=some t:=by rfl):
  (execOp a.eval ⟨d,.call {callee:=.builtin .len,args:=[x].toArray,argTypes:=ts},ty,pos,aft,none⟩).run P w=.ok (.value (.int .i64 (s.len:Int))) w:=by
 rw [zBh hE (vs:=[s.v]) (by simp [evL,hx])]
 simp [Builtin.len_,ht,run_underlying hu,Sem.run,goInt]
end
theorem Sat.b {ds:List Deferred} {N:Nat} {E:Env} {a:Act} (hE:Sat ds N E a) {t:Nat} {c b:Bool} (hl:lk E t=some (.bool c)) (hc:c=b):Sat ds N ((t,.bool b)::E) a:=by
 subst hc
 refine ⟨hE.size,λt' v hv=>?_,hE.defs⟩
 by_cases e:t=t'
 ·subst e
  have h1:(bif Nat.beq t t then some (yO c) else lk E t)=some v:=hv
  rw [show Nat.beq t t=true from by simp] at h1
  obtain rfl:=Option.some.inj h1
  exact hE.vals t _ hl
 ·have h1:(bif Nat.beq t t' then some (yO c) else lk E t')=some v:=hv
  rw [show Nat.beq t t'=false from Zg e] at h1
  exact hE.vals t' v h1
section
variable {ro:Option Nat} {P:Program} {ops:Array Oper} {Q:Exit->Act->World->Prop} {ds:List Deferred} {N:Nat} {E:Env} {a:Act} {w:World} {rest:List Oper}
theorem Sat.p (hE:Sat ds N E a) {op:Op} {ty:TypeId} {pos:String} {aft:Array Edge} {d:Nat} {v:Value}
  (he:execOp a.eval ⟨some d,op,ty,pos,aft,none⟩=pn v) (next:∀ a',Sat ds N ((d,v)::E) a'->WL ro P ops Q rest a' w)
  (hN:Nat.blt d N=true:=by rfl) (hnd:∀ c,op≠.defer c:=by intro c h;cases h):WL ro P ops Q (⟨some d,op,ty,pos,aft,none⟩::rest) a w:=
 hE.pure (by rw [he];rfl) hnd hN next
theorem Sat.o (hE:Sat ds N E a) {τ:Type} {enc:τ->Value} {s:Sem Value} {k:τ->World->Prop} {op:Op} {ty:TypeId} {pos:String} {aft:Array Edge} {d:Nat}
  (he:execOp a.eval ⟨some d,op,ty,pos,aft,none⟩=pv s) (H:opE P enc s w k)
  (next:∀ x w' a',k x w'->Sat ds N ((d,enc x)::E) a'->WL ro P ops Q rest a' w')
  (hN:Nat.blt d N=true:=by rfl) (hnd:∀ c,op≠.defer c:=by intro c h;cases h):WL ro P ops Q (⟨some d,op,ty,pos,aft,none⟩::rest) a w:=
 hE.val he hnd hN H next
theorem Sat.purR (hE:Sat ds N E a) {op:Op} {ty:TypeId} {pos:String} {aft:Array Edge} {d:Nat} {v:Value}
  (he:∀ w,(execOp a.eval ⟨some d,op,ty,pos,aft,none⟩).run P w=.ok (.value v) w) (next:∀ a',Sat ds N ((d,v)::E) a'->WL ro P ops Q rest a' w)
  (hN:Nat.blt d N=true:=by rfl) (hnd:∀ c,op≠.defer c:=by intro c h;cases h):WL ro P ops Q (⟨some d,op,ty,pos,aft,none⟩::rest) a w:=
 hE.pure (he w) hnd hN next
theorem Sat.h (hE:Sat ds N E a) {s:Sem Unit} {k:World->Prop} {op:Op} {ty:TypeId} {pos:String} {aft:Array Edge}
  (he:execOp a.eval ⟨none,op,ty,pos,aft,none⟩=pu s) (H:opU P s w k)
  (next:∀ w' a',k w'->Sat ds N E a'->WL ro P ops Q rest a' w')
  (hnd:∀ c,op≠.defer c:=by intro c h;cases h):WL ro P ops Q (⟨none,op,ty,pos,aft,none⟩::rest) a w:=
 hE.unit he hnd H next
theorem Sat.c (hE:Sat ds N E a) {f:FuncId} {args:Array Value} {R:Ending->World->Prop} {op:Op} {ty:TypeId} {pos:String} {aft:Array Edge} {d:Nat}
  (he:(execOp a.eval ⟨some d,op,ty,pos,aft,none⟩).run P w=.ok (.enter f args) w) (H:Cl P f args w R)
  (next:∀ e w',R e w'->∃ v,e=.returned v/\∀ a',Sat ds N ((d,v)::E) a'->WL ro P ops Q rest a' w')
  (hN:Nat.blt d N=true:=by rfl) (hnd:∀ c,op≠.defer c:=by intro c h;cases h):WL ro P ops Q (⟨some d,op,ty,pos,aft,none⟩::rest) a w:=
 zAK rfl hnd he H λe w' hR=>by
  obtain ⟨v,rfl,hv⟩:=next e w' hR
  exact ⟨v,rfl,hv _ (hE.put hN v)⟩
theorem Yx (hE:Sat ds N E a) {j d:Nat} {b:Bool} (hj:(ops[j]?).bind (·.dst)=some d) (hb:lk E d=some (.bool b)):yielded ops a.tmps j=some b:=by
 unfold yielded
 have h1:=hE.vals d _ hb
 simp only [hj]
 have:d<a.tmps.size∨¬ d<a.tmps.size:=Nat.lt_or_ge d _ |>.imp id (by omega)
 rcases this with h|h
 ·simp [Array.getD_eq_getD_getElem?,h] at h1
  simp [h,h1]
 ·simp [Array.getD_eq_getD_getElem?,h,undef] at h1
theorem Sat.n (hE:Sat ds N E a) {dst:Option Tmp} {op:Op} {ty:TypeId} {pos:String} {aft:Array Edge} {j d:Nat} {b:Bool}
  (hj:(ops[j]?).bind (·.dst)=some d) (hb:lk E d=some (.bool b)) (h:WL ro P ops Q (⟨dst,op,ty,pos,aft,none⟩::rest) a w):WL ro P ops Q (⟨dst,op,ty,pos,aft,some (j,b)⟩::rest) a w:=by
 unfold WL wpListIn at*
 rw [if_pos (by simp [Region.wanted])] at h
 rw [if_pos (by simp [Region.wanted,Yx hE hj hb])]
 exact h
theorem Sat.f (hE:Sat ds N E a) {d0:Nat} {op:Op} {ty:TypeId} {pos:String} {aft:Array Edge} {j d:Nat} {b b':Bool}
  (hj:(ops[j]?).bind (·.dst)=some d) (hb:lk E d=some (.bool b')) (hne:b'≠b) (h:∀ a',Sat ds N ((d0,undef)::E) a'->WL ro P ops Q rest a' w) (hN:Nat.blt d0 N=true:=by rfl):
  WL ro P ops Q (⟨some d0,op,ty,pos,aft,some (j,b)⟩::rest) a w:=by
 unfold WL wpListIn
 rw [if_neg (by simp [Region.wanted,Yx hE hj hb,hne])]
 exact ⟨λ_ _=>trivial,h _ (hE.put hN _)⟩
theorem Sat.z (hE:Sat ds N E a) {dst:Option Tmp} {op:Op} {ty:TypeId} {pos:String} {aft:Array Edge} {j d:Nat} {b:Bool} (h:WL ro P ops Q (⟨dst,op,ty,pos,aft,none⟩::rest) a w) (hj:(ops[j]?).bind (·.dst)=some d:=by rfl) (hb:lk E d=some (.bool b):=by rfl):WL ro P ops Q (⟨dst,op,ty,pos,aft,some (j,b)⟩::rest) a w:=hE.n hj hb h
theorem Sat.d (hE:Sat ds N E a) {d0:Nat} {op:Op} {ty:TypeId} {pos:String} {aft:Array Edge} {j d:Nat} {b b':Bool} (h:∀ a',Sat ds N ((d0,undef)::E) a'->WL ro P ops Q rest a' w) (hj:(ops[j]?).bind (·.dst)=some d:=by rfl) (hb:lk E d=some (.bool b'):=by rfl) (hne:b'≠b:=by decide) (hN:Nat.blt d0 N=true:=by rfl):WL ro P ops Q (⟨some d0,op,ty,pos,aft,some (j,b)⟩::rest) a w:=hE.f hj hb hne h hN
theorem WL.join {σ:Type} (EJ:σ->Env) (V:σ->World->Prop) (k:Nat) {l0:List Oper} (hy:∀ s w a,V s w->Sat ds N (EJ s) a->WL ro P ops Q (l0.drop k) a w)
  (hx:(∀ s w a,V s w->Sat ds N (EJ s) a->WL ro P ops Q (l0.drop k) a w)->WL ro P ops Q l0 a w):WL ro P ops Q l0 a w:=hx hy
theorem xp {σ:Type} {x y:Code} (EJ:σ->Env) (V:σ->World->Prop) (hy:∀ s w a,V s w->Sat ds N (EJ s) a->WC ro P y Q a w)
  (hx:(∀ s w a,V s w->Sat ds N (EJ s) a->WC ro P y Q a w)->WC ro P x (Exit.then (WC ro P y Q) Q) a w):WC ro P (.seq x y) Q a w:=wpIn_seq (hx hy)
theorem zD {x y:Code} (h:WC ro P x (Exit.then (WC ro P y Q) Q) a w):WC ro P (.seq x y) Q a w:=wpIn_seq h
theorem zB {id:Nat} {l:List Oper} (h:WL ro P l.toArray Q l a w):WC ro P (.region id l.toArray false) Q a w:=wpIn_region_lit h
theorem zE (h:Q .normal a w):WL ro P ops Q [] a w:=h
theorem zc (hE:Sat ds N E a) {c:Operand} {x y:Code} {p:Prop} [Decidable p] (hc:ev E c=some (.bool (decide p))) (ht:p->WC ro P x Q a w) (hf:¬ p->WC ro P y Q a w):WC ro P (.cond c x y) Q a w:=
 wpIn_cond_split (hE.ev hc) (λh=>ht (of_decide_eq_true h)) (λh=>hf (of_decide_eq_false h))
theorem yH (hE:Sat ds N E a) {c:Operand} {x y:Code} {b:Bool} (hc:ev E c=some (.bool b)) (ht:b=true->WC ro P x Q a w) (hf:b=false->WC ro P y Q a w):WC ro P (.cond c x y) Q a w:=
 wpIn_cond_split (hE.ev hc) ht hf
theorem yh {id:Nat} {c:Code} (h:WC ro P c (Exit.inBlock id Q) a w):WC ro P (.block id c) Q a w:=wpIn_block h
theorem zW (h:Q .normal a w):WC ro P .skip Q a w:=wpIn_skip h
theorem YD {id:Nat} (h:Q (.exit id) a w):WC ro P (.exit id) Q a w:=wpIn_exit h
theorem zV (h:Q .ret a w):WC ro P .ret Q a w:=wpIn_ret h
theorem Yc {σ:Type} (EL:σ->Env) {c:Code} (I:σ->World->Prop) (μ:σ->World->Nat) (s0:σ) (h0:I s0 w) (hE:Sat ds N (EL s0) a)
  (hb:∀ s w a,I s w->Sat ds N (EL s) a->WC ro P c (Exit.then (λa' w'=>∃ s',Sat ds N (EL s') a'/\I s' w'/\μ s' w'<μ s w) Q) a w):WC ro P (.loop c) Q a w:=by
 refine wpIn_loop (λa w=>∃ n,∃ s,Sat ds N (EL s) a/\I s w/\μ s w=n) (λa w=>leastOf λn=>∃ s,Sat ds N (EL s) a/\I s w/\μ s w=n) ⟨_,s0,hE,h0,rfl⟩ ?_
 intro a w hI
 obtain ⟨⟨s,hs,hi,hm⟩,hleast⟩:=leastOf_spec hI
 refine wpIn_mono (hb s w a hi hs) ?_
 intro e a' w' hq
 cases e with
 |normal=>
  obtain ⟨s',h1,h2,h3⟩:=hq
  refine ⟨⟨_,s',h1,h2,rfl⟩,Nat.lt_of_le_of_lt ((leastOf_spec ⟨_,s',h1,h2,rfl⟩).2 _ ⟨s',h1,h2,rfl⟩) ?_⟩
  rw [← hm];exact h3
 |exit id=>exact hq
 |goto l=>exact hq
 |ret=>exact hq
 |panic c=>exact hq
 |outgrown=>exact hq
end
section
variable {Q:Exit->Act->World->Prop} {K:Act->World->Prop} {a:Act} {w:World} {id id':Nat}
theorem tn (h:K a w):Exit.then K Q .normal a w:=h
theorem te (h:Q (.exit id) a w):Exit.then K Q (.exit id) a w:=h
theorem tr (h:Q .ret a w):Exit.then K Q .ret a w:=h
theorem bn (h:Q .normal a w):Exit.inBlock id Q .normal a w:=h
theorem br (h:Q .ret a w):Exit.inBlock id Q .ret a w:=h
theorem be (h:Q .normal a w):Exit.inBlock id Q (.exit id) a w:=by simp only [Exit.inBlock,if_true];exact h
end
def zipE:Nat->List Value->Env
 |_,[]=>[]
 |i,v::r=>(i,v)::zipE (i+1) r
theorem Z8:∀ (l:List Value) (i t:Nat) (v:Value),lk (zipE i l) t=some v->i<=t/\l[t - i]?=some v
 |[],_,_,_,h=>by cases h
 |u::r,i,t,v,h=>by
  by_cases e:i=t
  ·subst e
   have h1:(bif Nat.beq i i then some u else lk (zipE (i+1) r) i)=some v:=h
   rw [show Nat.beq i i=true from by simp] at h1
   exact ⟨zP _,by simpa using h1⟩
  ·have h1:(bif Nat.beq i t then some u else lk (zipE (i+1) r) t)=some v:=h
   rw [show Nat.beq i t=false from Zg e] at h1
   obtain ⟨h2,h3⟩:=Z8 r (i+1) t v h1
   refine ⟨by omega,?_⟩
   rw [show t - i=(t - (i+1))+1 from by omega]
   simpa using h3
theorem ze {P:Program} {f:FuncId} {fn:Func} {c:Code} {args:List Value} {w:World} {R:Ending->World->Prop} (N:Nat) (E:Env)
  (hf:P.funcs[f]?=some fn) (hb:fn.body=some c) (hN:fn.ntmps=N) (hle:Nat.ble args.length N=true)
  (hz:zipE 0 args=E)
  (h:∀ a,Sat [] N E a->WC none P c (bodyPost P fn R) a w):Cl P f args.toArray w R:=by
 subst hN
 exact callsIn_of_wp hf hb trivial (h _ (Sat.enter args.toArray (by simpa using hle) (by intro t v hv;rw [← hz] at hv;simpa using (Z8 args 0 t v hv).2))) rfl
theorem zU {P:Program} {fn:Func} {R:Ending->World->Prop} {N:Nat} {E:Env} {a:Act} {w:World} (hE:Sat [] N E a) {t:Nat} {v:Value} (hr:fn.results=#[.tmp t]) (hv:lk E t=some v) (h:R (.returned v) w):
  bodyPost P fn R .ret a w:=⟨hE.defs,v,by simp only [results,hr];simp [hE.getq hv],h⟩
theorem QN {P:Program} {fn:Func} {R:Ending->World->Prop} {N:Nat} {E:Env} {a:Act} {w:World} (hE:Sat [] N E a) {t t':Nat} {v v':Value} (hr:fn.results=#[.tmp t,.tmp t']) (hv:lk E t=some v) (hv':lk E t'=some v') (h:R (.returned (.tuple #[v,v'])) w):
  bodyPost P fn R .ret a w:=⟨hE.defs,_,by simp only [results,hr];simp [hE.getq hv,hE.getq hv'],h⟩
theorem Zk {P:Program} {fn:Func} {R:Ending->World->Prop} {N:Nat} {E:Env} {a:Act} {w:World} (hE:Sat [] N E a) {t t' t'':Nat} {v v' v'':Value} (hr:fn.results=#[.tmp t,.tmp t',.tmp t'']) (hv:lk E t=some v) (hv':lk E t'=some v') (hv'':lk E t''=some v'') (h:R (.returned (.tuple #[v,v',v''])) w):
  bodyPost P fn R .ret a w:=⟨hE.defs,_,by simp only [results,hr];simp [hE.getq hv,hE.getq hv',hE.getq hv''],h⟩
theorem zAf {P:Program} {fn:Func} {R:Ending->World->Prop} {N:Nat} {E:Env} {a:Act} {w:World} (hE:Sat [] N E a) (hr:fn.results=#[]) (h:R (.returned (.tuple #[])) w):
  bodyPost P fn R .normal a w:=⟨hE.defs,_,by simp [results,hr],h⟩
section
variable {ro:Option Nat} {P:Program} {ops:Array Oper} {Q:Exit->Act->World->Prop} {ds:List Deferred} {N:Nat} {E:Env} {a:Act} {w:World} {rest:List Oper}
theorem Z1 (hE:Sat ds N E a) {j d:Nat} (hj:(ops[j]?).bind (·.dst)=some d) (hb:lk E d=some undef):yielded ops a.tmps j=none:=by
 unfold yielded
 have h1:=hE.vals d _ hb
 simp only [hj]
 rcases Nat.lt_or_ge d a.tmps.size with h|h
 ·simp [Array.getD_eq_getD_getElem?,h] at h1
  simp [h,h1,undef]
 ·have:a.tmps[d]?=none:=Array.getElem?_eq_none h
  simp [this]
theorem Sat.offU (hE:Sat ds N E a) {d0:Nat} {op:Op} {ty:TypeId} {pos:String} {aft:Array Edge} {j d:Nat} {b:Bool}
  (hj:(ops[j]?).bind (·.dst)=some d) (hb:lk E d=some undef) (h:∀ a',Sat ds N ((d0,undef)::E) a'->WL ro P ops Q rest a' w) (hN:Nat.blt d0 N=true:=by rfl):
  WL ro P ops Q (⟨some d0,op,ty,pos,aft,some (j,b)⟩::rest) a w:=by
 unfold WL wpListIn
 rw [if_neg (by simp [Region.wanted,Z1 hE hj hb])]
 exact ⟨λ_ _=>trivial,h _ (hE.put hN _)⟩
end
abbrev Bel (w w':World):Prop:=Go.RowKit.Below w.heap.size w w'
theorem Bel.refl (w:World):Bel w w:=Go.RowKit.Below.refl _ _
def Y0 (w:World) (k:World->Prop):Prop:=∀ w',Bel w w'->k w'
def opB {τ:Type} (P:Program) (enc:τ->Value) (s:Sem Value) (w:World) (k:τ->Prop):Prop:=∃ x,(∀ w',Bel w w'->s.run P w'=.ok (enc x) w')/\k x
section
variable {P:Program} {ops:Array Oper} {ds:List Deferred} {N:Nat} {E:Env} {a:Act} {w:World} {rest:List Oper} {K:Act->Prop}
abbrev WQ (P:Program) (ops:Array Oper) (w:World) (K:Act->Prop) (l:List Oper) (a:Act):Prop:=wpQuietIn (FW none) 0 P ops (Bel w) K l a
theorem zB4 {Q:Exit->Act->World->Prop} {id:Nat} {l:List Oper} (hm:P.follows .mixedOrders=true) (hB:Region.lexB .any l.toArray=true)
  (h:WQ P l.toArray w (λa'=>∀ w',Bel w w'->Q .normal a' w') l a):WC none P (.region id l.toArray true) Q a w:=
 wpIn_region_quiet (C:=Bel w) rfl hm hB ⟨rfl,rfl,rfl,zP _,λ_ _=>rfl⟩ (by simpa using h)
theorem WQ.join {σ:Type} (EJ:σ->Env) (V:σ->Prop) (k:Nat) {l0:List Oper} (hy:∀ s a,V s->Sat ds N (EJ s) a->WQ P ops w K (l0.drop k) a)
  (hx:(∀ s a,V s->Sat ds N (EJ s) a->WQ P ops w K (l0.drop k) a)->WQ P ops w K l0 a):WQ P ops w K l0 a:=hx hy
end
section
variable {P:Program} {ops:Array Oper} {ds:List Deferred} {N:Nat} {E:Env} {a:Act} {w:World} {rest:List Oper} {K:Act->Prop} {Q:Exit->Act->World->Prop}
abbrev WS (P:Program) (ops:Array Oper) (w:World) (K:Act->Prop) (l:List Oper) (a:Act):Prop:=wpStill P ops w K l a
theorem Bel.draw (w:World):Bel w {w with drawn:=w.drawn+1}:=⟨rfl,rfl,rfl,zP _,λ_ _=>rfl⟩
theorem WS.join {σ:Type} (EJ:σ->Env) (V:σ->Prop) (k:Nat) {l0:List Oper} (hy:∀ s a,V s->Sat ds N (EJ s) a->WS P ops w K (l0.drop k) a)
  (hx:(∀ s a,V s->Sat ds N (EJ s) a->WS P ops w K (l0.drop k) a)->WS P ops w K l0 a):WS P ops w K l0 a:=hx hy
end
def opP {τ:Type} (P:Program) (enc:τ->Value) (s:Sem Value) (k:τ->Prop):Prop:=∃ x,(∀ w,s.run P w=.ok (enc x) w)/\k x
def Qx:Op->Bool
 |.call _|.go _|.defer _=>false
 |_=>true
section
variable {P:Program} {ops:Array Oper} {ds:List Deferred} {N:Nat} {E:Env} {a:Act} {w:World} {Q:Exit->Act->World->Prop} {fuel:Nat} {listed l2:Array Bool}
abbrev WA (P:Program) (ops:Array Oper) (Q:Exit->Act->World->Prop) (fuel:Nat) (listed:Array Bool) (a:Act) (w:World):Prop:=wpAnyIn (FW none) 0 P .any ops Q fuel listed a w
theorem zBd {id:Nat} {l:List Oper} (n:Nat) (l2:Array Bool) (hm:P.follows .mixedOrders=true) (h:∀ w',Bel w w'->WA P l.toArray Q n l2 a w') (hn:l.toArray.size=n:=by rfl) (hl:Array.replicate n false=l2:=by rfl):
  WC none P (.region id l.toArray true) Q a w:=by
 subst hn;subst hl
 exact wpIn_region_any hm (h _ (Bel.draw w))
def YY (Q:Exit->Act->World->Prop):Prop:=∀ c a w d v,Q (.panic c) (a.put (some d) v) w->Q (.panic c) a w
theorem Zq {o:Oper} (h:Qx o.op=true) (ρ:Operand->Value) (w:World):o.about P w ρ=none:=by
 unfold Oper.about
 obtain ⟨d,op,ty,pos,aft,g⟩:=o
 cases op<;>first|rfl|(exact absurd h (by simp [Qx]))
theorem WA.take {i d:Nat} {o:Oper} {v:Value} (hd:o.dst=some d) (hq:YY Q) (hs:Region.noSelect ops=true) (hi:ops[i]?=some o) (hf:Region.free .any ops listed i=true) (hr:(Region.ready .any ops listed).contains i=true)
  (hl:listed.setIfInBounds i true=l2) (hy:YieldsFenced P ops o v a) (h:WA P ops Q fuel l2 (a.put o.dst v) w):WA P ops Q (fuel+1) listed a w:=by
 subst hl
 exact wpAnyIn_take rfl hi hs hf hr (λc a w=>by rw [hd];exact hq c a w d v) hy h
theorem WA.one {i:Nat} {o:Oper} (hi:ops[i]?=some o) (hr:Region.ready .any ops listed=[i]) (hl:listed.setIfInBounds i true=l2)
  (h:∀ (K:Act->World->Prop),(∀ a w,WA P ops Q fuel l2 a w->K a w)->if Region.wanted o (yielded ops a.tmps)=true then Oper.wpIn (FW none) 0 P o a w K Q else K (a.put o.dst undef) w):WA P ops Q (fuel+1) listed a w:=by
 subst hl
 refine wpAnyIn_ready hr (by simp) (AllReadyIn.cons hi (λK hK=>?_) AllReadyIn.nil)
 have:=h K hK
 split
 ·rename_i hw;rw [if_pos hw] at this;exact this
 ·rename_i hw;rw [if_neg hw] at this;exact ⟨λ_ _=>trivial,this⟩
theorem WA.two {i j:Nat} {o o':Oper} {l3:Array Bool} (hi:ops[i]?=some o) (hj:ops[j]?=some o') (hr:Region.ready .any ops listed=[i,j]) (hl:listed.setIfInBounds i true=l2) (hl':listed.setIfInBounds j true=l3)
  (h:∀ (K:Act->World->Prop),(∀ a w,WA P ops Q fuel l2 a w->K a w)->if Region.wanted o (yielded ops a.tmps)=true then Oper.wpIn (FW none) 0 P o a w K Q else K (a.put o.dst undef) w)
  (h':∀ (K:Act->World->Prop),(∀ a w,WA P ops Q fuel l3 a w->K a w)->if Region.wanted o' (yielded ops a.tmps)=true then Oper.wpIn (FW none) 0 P o' a w K Q else K (a.put o'.dst undef) w):WA P ops Q (fuel+1) listed a w:=by
 subst hl;subst hl'
 refine wpAnyIn_ready hr (by simp) (AllReadyIn.cons hi (λK hK=>?_) (AllReadyIn.cons hj (λK hK=>?_) AllReadyIn.nil))
 ·have:=h K hK
  split
  ·rename_i hw;rw [if_pos hw] at this;exact this
  ·rename_i hw;rw [if_neg hw] at this;exact ⟨λ_ _=>trivial,this⟩
 ·have:=h' K hK
  split
  ·rename_i hw;rw [if_pos hw] at this;exact this
  ·rename_i hw;rw [if_neg hw] at this;exact ⟨λ_ _=>trivial,this⟩
theorem WA.nil (hr:Region.ready .any ops listed=[]) (h:Q .normal a w):WA P ops Q fuel listed a w:=wpAnyIn_done hr h fuel
abbrev WO (P:Program) (ops:Array Oper) (Q:Exit->Act->World->Prop) (o:Oper) (K:Act->World->Prop) (a:Act) (w:World):Prop:=
 if Region.wanted o (yielded ops a.tmps)=true then Oper.wpIn (FW none) 0 P o a w K Q else K (a.put o.dst undef) w
theorem zBL {o:Oper} {K:Act->World->Prop} (hg:o.guard=none) (hnd:∀ c,o.op≠.defer c) {v:Value} {w':World} (hr:(execOp a.eval o).run P w=.ok (.value v) w') (h:K (a.put o.dst v) w'):WO P ops Q o K a w:=by
 unfold WO
 rw [if_pos (by simp [Region.wanted,hg])]
 refine ⟨λ_ _=>trivial,?_⟩
 rw [Oper.semAt_eq _ _ _ hnd,hr]
 exact h
theorem zA0 {o:Oper} {K:Act->World->Prop} (hg:o.guard=none) (hnd:∀ c,o.op≠.defer c) {w':World} (hr:(execOp a.eval o).run P w=.ok .skip w') (h:K (a.put o.dst undef) w'):WO P ops Q o K a w:=by
 unfold WO
 rw [if_pos (by simp [Region.wanted,hg])]
 refine ⟨λ_ _=>trivial,?_⟩
 rw [Oper.semAt_eq _ _ _ hnd,hr]
 exact h
theorem Sat.i (hE:Sat ds N E a) {K:Act->World->Prop} {τ:Type} {enc:τ->Value} {s:Sem Value} {k:τ->World->Prop} {op:Op} {ty:TypeId} {pos:String} {aft:Array Edge} {d:Nat}
  (he:execOp a.eval ⟨some d,op,ty,pos,aft,none⟩=pv s) (H:opE P enc s w k) (next:∀ x w' a',k x w'->Sat ds N ((d,enc x)::E) a'->K a' w')
  (hN:Nat.blt d N=true:=by rfl) (hnd:∀ c,op≠.defer c:=by intro c h;cases h):WO P ops Q ⟨some d,op,ty,pos,aft,none⟩ K a w:=by
 obtain ⟨x,w',hr,hk⟩:=H
 exact zBL rfl hnd (v:=enc x) (w':=w') (by rw [he];simp [hr]) (next x w' _ hk (hE.put hN _))
theorem Sat.wopu (hE:Sat ds N E a) {K:Act->World->Prop} {s:Sem Unit} {k:World->Prop} {op:Op} {ty:TypeId} {pos:String} {aft:Array Edge}
  (he:execOp a.eval ⟨none,op,ty,pos,aft,none⟩=pu s) (H:opU P s w k) (next:∀ w' a',k w'->Sat ds N E a'->K a' w')
  (hnd:∀ c,op≠.defer c:=by intro c h;cases h):WO P ops Q ⟨none,op,ty,pos,aft,none⟩ K a w:=by
 obtain ⟨w',hr,hk⟩:=H
 exact zA0 rfl hnd (w':=w') (by rw [he];simp [hr]) (next w' _ hk hE)
theorem Sat.apur (hE:Sat ds N E a) {i:Nat} {op:Op} {ty:TypeId} {pos:String} {aft:Array Edge} {d:Nat} {v:Value} (hq:YY Q) (hs:Region.noSelect ops=true) (hi:ops[i]?=some ⟨some d,op,ty,pos,aft,none⟩)
  (hf:Region.free .any ops listed i=true) (hr:(Region.ready .any ops listed).contains i=true) (hl:listed.setIfInBounds i true=l2)
  (he:∀ w,(execOp a.eval ⟨some d,op,ty,pos,aft,none⟩).run P w=.ok (.value v) w) (next:∀ a',Sat ds N ((d,v)::E) a'->WA P ops Q fuel l2 a' w)
  (hN:Nat.blt d N=true:=by rfl) (hc:Qx op=true:=by rfl):WA P ops Q (fuel+1) listed a w:=
 WA.take rfl hq hs hi hf hr hl ⟨.inl ⟨by simp [Region.wanted],he⟩,λw=>Zq hc _ w⟩ (next _ (hE.put hN v))
theorem Sat.aop (hE:Sat ds N E a) {i:Nat} {τ:Type} {enc:τ->Value} {s:Sem Value} {k:τ->Prop} {op:Op} {ty:TypeId} {pos:String} {aft:Array Edge} {d:Nat} (hq:YY Q) (hs:Region.noSelect ops=true) (hi:ops[i]?=some ⟨some d,op,ty,pos,aft,none⟩)
  (hf:Region.free .any ops listed i=true) (hr:(Region.ready .any ops listed).contains i=true) (hl:listed.setIfInBounds i true=l2)
  (he:execOp a.eval ⟨some d,op,ty,pos,aft,none⟩=pv s) (H:opP P enc s k) (next:∀ x a',k x->Sat ds N ((d,enc x)::E) a'->WA P ops Q fuel l2 a' w)
  (hN:Nat.blt d N=true:=by rfl) (hc:Qx op=true:=by rfl):WA P ops Q (fuel+1) listed a w:=by
 obtain ⟨x,hx,hk⟩:=H
 exact WA.take rfl hq hs hi hf hr hl ⟨.inl ⟨by simp [Region.wanted],λw=>by rw [he];simp [hx w]⟩,λw=>Zq hc _ w⟩ (next x _ hk (hE.put hN _))
theorem zBH {s:Sem Next} {v:Value} (h:s=pn v) (w:World):s.run P w=.ok (.value v) w:=by rw [h];rfl
end
def zAE (P:Program) (v:Value) (args:List Value) (w:World) (R:Ending->World->Prop):Prop:=
 (∃ (f:FuncId) (us lb:List Value),v=.func (.func f) us.toArray lb.toArray/\Ent P f/\Cl P f (us++args++lb).toArray w R)∨
 (∃ l,v=.func (.yield l) #[] #[]/\YieldAt (FW none) 0 P l args.toArray w R)
section
variable {ro:Option Nat} {P:Program} {ops:Array Oper} {Q:Exit->Act->World->Prop} {ds:List Deferred} {N:Nat} {E:Env} {a:Act} {w:World} {rest:List Oper}
theorem zAs {o:Oper} (hg:o.guard=none) (hnd:∀ c,o.op≠.defer c) {l:Nat} {f:FuncId} {tmps:Array Value} {asg body:Code} (hr:(execOp a.eval o).run P w=.ok (.round l f tmps asg body) w)
  {R:Ending->World->Prop} (hc:RoundIn (FW none) 0 P l f tmps asg body w R)
  (h:∀ e w'',R e w''->∃ v,e=.returned v/\WL ro P ops Q rest (a.put o.dst v) w''):WL ro P ops Q (o::rest) a w:=by
 unfold WL wpListIn
 rw [if_pos (by simp [Region.wanted,hg])]
 refine ⟨λ_ _=>trivial,?_⟩
 rw [Oper.semAt_eq _ _ _ hnd,hr,Oper.uponIn_round]
 refine ⟨λh=>by simp [FW,Fence.wide] at h,?_⟩
 have hc':RoundIn (FW ro) 0 P l f tmps asg body w R:=hc
 refine RoundIn.mono hc' λe w'' hR=>?_
 obtain ⟨v,rfl,hv⟩:=h e w'' hR
 exact hv
theorem zA4 (hE:Sat ds N E a) {P:Program} {w:World} {x:Operand} {xs:List Operand} {vs ts} {l:Nat} {f:FuncId} {tmps:Array Value} {asg body:Code} {d:Option Tmp} {ty:TypeId} {pos:String} {aft:Array Edge}
  (hx:ev E x=some (.func (.yield l) #[] #[])) (h:evL E xs=some vs) (hy:(Instr.yield l vs.toArray).run P w=.ok (.round l f tmps asg body) w):
  (execOp a.eval ⟨d,.call {callee:=.value x,args:=xs.toArray,argTypes:=ts},ty,pos,aft,none⟩).run P w=.ok (.round l f tmps asg body) w:=by
 rw [← hE.evA h] at hy
 have e:=hE.ev hx
 simpa [execOp,resolve,Deferred.ofValue,e,invoke] using hy
theorem Sat.callV (hE:Sat ds N E a) {x:Operand} {xs:List Operand} {v:Value} {vs:List Value} {ts} {R:Ending->World->Prop} {ty:TypeId} {pos:String} {aft:Array Edge} {d:Nat}
  (hx:Go.VB.ev E x=some v) (hxs:Go.VB.evL E xs=some vs) (H:zAE P v vs w R)
  (next:∀ e w',R e w'->∃ v,e=.returned v/\∀ a',Sat ds N ((d,v)::E) a'->WL ro P ops Q rest a' w')
  (hN:Nat.blt d N=true:=by rfl):WL ro P ops Q (⟨some d,.call {callee:=.value x,args:=xs.toArray,argTypes:=ts},ty,pos,aft,none⟩::rest) a w:=by
 rcases H with ⟨f,us,lb,rfl,he,hc⟩|⟨l,rfl,fn,tmps,asg,body,hy,hR⟩
 ·exact zAK rfl (by intro c h;cases h) (by have:=zAw hE (w:=w) (ts:=ts) (d:=some d) (ty:=ty) (pos:=pos) (aft:=aft) he hx hxs;simpa using this) hc λe w' hR=>by
   obtain ⟨v,rfl,hv⟩:=next e w' hR
   exact ⟨v,rfl,hv _ (hE.put hN v)⟩
 ·exact zAs rfl (by intro c h;cases h) (zA4 hE hx hxs hy) hR λe w' hR=>by
   obtain ⟨v,rfl,hv⟩:=next e w' hR
   exact ⟨v,rfl,hv _ (hE.put hN v)⟩
end
def Zv {α:Type} (P:Program) (v:Value) (encs:α->List Value) (Kp:World->World->Prop) (S Sp:List α->Prop) (Num:Nat) (w:World):Prop:=
 ∃ (gf:FuncId) (lb:List Value),v=.func (.func gf) #[] lb.toArray/\Ent P gf/\SeqStopsK (FW none) 0 P gf lb.toArray (λx=>(encs x).toArray) Kp S Sp Num w
structure zAF {α:Type} (P:Program) (v:Value) (encs:α->List Value) (Kp:World->World->Prop) (S Sp:List α->Prop) (Num:Nat) (I Ir:List α->World->Prop) (w:World):Prop where
 seq:Zv P v encs Kp S Sp Num w
 kt:∀ A B C:World,Kp A B->Kp B C->Kp A C
 kb:∀ (W:World) (l:Nat) (o o':Obj),w.heap.size<=l->W.heap[l]?=some o->o.isCells=false->o.isWalk=false->Kp W (W.putObj l o')
 ka:∀ pre (W:World) (o:Obj),I pre W->Kp W (W.alloc o)
 own:OwnFrom w.heap.size I
 ownr:OwnFrom w.heap.size Ir
 lo:∀ pre W,I pre W->w.heap.size<=W.heap.size
 start:I [] w
section
variable {P:Program} {Q:Exit->Act->World->Prop} {N:Nat} {E:Env} {a:Act} {w:World}
def resV (P:Program) (E:Env) (w:World):List ResultVar->List Value->Prop
 |[],[]=>True
 |.tmp t::rs,v::vs=>lk E t=some v/\resV P E w rs vs
 |.cell b t::rs,v::vs=>(∃ ad,lk E b=some (.pointer (some ad))/\(loadVar t ad).run P w=.ok v w)/\resV P E w rs vs
 |_,_=>False
def zAd:List Value->Value
 |[v]=>v
 |vs=>.tuple vs.toArray
def resF (a:Act):ResultVar->Sem Value
 |.tmp t=>Pure.pure (a.tmps.getD t undef)
 |.cell b t=>do loadVar t (← asAddr (a.tmps.getD b undef))
theorem Yu {ds:List Deferred} (hE:Sat ds N E a):∀ {rs:List ResultVar} {vs:List Value},resV P E w rs vs->(rs.mapM (resF a)).run P w=.ok vs w
 |[],[],_=>by simp
 |.tmp t::rs,v::vs,h=>by
  have h1:=hE.vals t v h.1
  simp only [List.mapM_cons,resF,h1,Sem.run_bind,Sem.run_pure,Result.andThen_ok,Yu hE h.2]
 |.cell b t::rs,v::vs,h=>by
  obtain ⟨⟨ad,h1,h2⟩,h3⟩:=h
  have h4:=hE.vals b _ h1
  simp [resF,h4,asAddr,h2,Yu hE h3]
theorem Zl {ds:List Deferred} (hE:Sat ds N E a) {fn:Func} {rs:List ResultVar} {vs:List Value} (hr:fn.results=rs.toArray) (h:resV P E w rs vs):(results fn a.tmps).run P w=.ok (zAd vs) w:=by
 have h1:=Yu hE h
 have h2:results fn a.tmps=(do let vs ← rs.toArray.mapM (resF a);pure (if h:vs.size=1 then vs[0] else .tuple vs)):=by
  unfold results;rw [hr];rfl
 rw [h2,List.mapM_toArray,map_eq_pure_bind]
 simp only [Sem.run_bind,h1,Result.andThen_ok,Sem.run_pure]
 congr 1
 match vs with
 |[]=>rfl
 |[v]=>rfl
 |v::v'::vs=>simp [zAd]
theorem Zc {fn:Func} {R:Ending->World->Prop} (hE:Sat [] N E a) {rs:List ResultVar} {vs:List Value} (hr:fn.results=rs.toArray) (hv:resV P E w rs vs) (h:R (.returned (zAd vs)) w):bodyPost P fn R .ret a w:=
 ⟨hE.defs,_,Zl hE hr hv,h⟩
end
def opR {τ:Type} (P:Program) (enc:τ->Value) (t:TypeId) (p:Option Addr) (w:World) (k:τ->Prop):Prop:=∃ x ad,p=some ad/\(loadVar t ad).run P w=.ok (enc x) w/\k x
section
variable {P:Program} {Q:Exit->Act->World->Prop} {N:Nat} {E:Env} {a:Act} {w:World}
end
end Go.VB
set_option linter.unusedVariables false
set_option linter.unusedSimpArgs false
namespace Go.Proofs.YtjlfegnhomgjhaaDoor.VG
open Go.VB Go.Proofs
structure zI where
 Order:Int
 Kind:Int
 At:Int
 Undoing:Bool
abbrev zI.cells (x:zI):_root_.List Value:=[(.int .i64 x.Order),(.int .u8 x.Kind),(.int .i64 x.At),(.bool x.Undoing)]
abbrev zI.v (x:zI):Value:=.agg (zI.cells x).toArray
structure zL where
 Order:Int
 State:Int
abbrev zL.cells (x:zL):_root_.List Value:=[(.int .i64 x.Order),(.int .u8 x.State)]
abbrev zL.v (x:zL):Value:=.agg (zL.cells x).toArray
structure yP where
 x:Int
 y:Int
 signed:Bool
 code:Int
abbrev yP.cells (x:yP):_root_.List Value:=[(.int .i64 x.x),(.int .i64 x.y),(.bool x.signed),(.int .u8 x.code)]
abbrev yP.v (x:yP):Value:=.agg (yP.cells x).toArray
structure z4 where
 msg:ByteArray
 addr:Int
abbrev z4.cells (x:z4):_root_.List Value:=[(.string x.msg),(.int .u64 x.addr)]
abbrev z4.v (x:z4):Value:=.agg (z4.cells x).toArray
structure yB where
 typ:Option Addr
abbrev yB.cells (x:yB):_root_.List Value:=[(.pointer x.typ)]
abbrev yB.v (x:yB):Value:=.agg (yB.cells x).toArray
abbrev QS:FuncId:=3
abbrev QG:FuncId:=4
abbrev Za:FuncId:=5
abbrev Zw:FuncId:=6
abbrev ZW:FuncId:=7
abbrev YG:FuncId:=8
abbrev ZV:FuncId:=9
abbrev ZQ:FuncId:=10
abbrev Yn:FuncId:=11
abbrev Y4:FuncId:=13
abbrev ZF:FuncId:=14
abbrev ZO:FuncId:=15
abbrev ZD:FuncId:=16
abbrev ZA:FuncId:=17
abbrev yo:FuncId:=18
abbrev ZX:FuncId:=19
abbrev y6:FuncId:=20
abbrev y3:FuncId:=21
abbrev yv:FuncId:=22
abbrev Y7:FuncId:=23
abbrev xd:FuncId:=25
abbrev QE:FuncId:=27
abbrev YF:FuncId:=28
abbrev xJ:FuncId:=29
abbrev Y8:FuncId:=31
abbrev xE:FuncId:=34
abbrev Ya:FuncId:=36
abbrev Qq:FuncId:=39
abbrev QU:FuncId:=40
abbrev ZC:FuncId:=44
theorem ent4:Ent zA 4:=Ent.of Tryd.func4 (by rfl) (by rfl)
theorem ent5:Ent zA 5:=Ent.of Tryd.func5 (by rfl) (by rfl)
theorem ent6:Ent zA 6:=Ent.of Tryd.func6 (by rfl) (by rfl)
theorem ent7:Ent zA 7:=Ent.of Tryd.func7 (by rfl) (by rfl)
theorem ent8:Ent zA 8:=Ent.of Tryd.func8 (by rfl) (by rfl)
theorem ent9:Ent zA 9:=Ent.of Tryd.func9 (by rfl) (by rfl)
theorem zBF:Ent zA 10:=Ent.of Tryd.func10 (by rfl) (by rfl)
theorem zBe:Ent zA 11:=Ent.of Tryd.func11 (by rfl) (by rfl)
theorem zB0:Ent zA 12:=Ent.of Tryd.func12 (by rfl) (by rfl)
theorem zBo:Ent zA 13:=Ent.of Tryd.func13 (by rfl) (by rfl)
theorem zAy:Ent zA 14:=Ent.of Tryd.func14 (by rfl) (by rfl)
theorem zBc:Ent zA 15:=Ent.of Tryd.func15 (by rfl) (by rfl)
theorem zBv:Ent zA 16:=Ent.of Tryd.func16 (by rfl) (by rfl)
theorem zA9:Ent zA 17:=Ent.of Tryd.func17 (by rfl) (by rfl)
theorem zBE:Ent zA 18:=Ent.of Tryd.func18 (by rfl) (by rfl)
theorem zBY:Ent zA 19:=Ent.of Tryd.func19 (by rfl) (by rfl)
theorem zBb:Ent zA 20:=Ent.of Tryd.func20 (by rfl) (by rfl)
theorem zBu:Ent zA 21:=Ent.of Tryd.func21 (by rfl) (by rfl)
theorem zBZ:Ent zA 22:=Ent.of Tryd.func22 (by rfl) (by rfl)
theorem zBp:Ent zA 23:=Ent.of Tryd.func23 (by rfl) (by rfl)
theorem zBn:Ent zA 24:=Ent.of Tryd.func24 (by rfl) (by rfl)
theorem zBC:Ent zA 25:=Ent.of Tryd.func25 (by rfl) (by rfl)
theorem zBU:Ent zA 26:=Ent.of Tryd.func26 (by rfl) (by rfl)
theorem zBj:Ent zA 27:=Ent.of Tryd.func27 (by rfl) (by rfl)
theorem zBV:Ent zA 28:=Ent.of Tryd.func28 (by rfl) (by rfl)
theorem zBR:Ent zA 29:=Ent.of Tryd.func29 (by rfl) (by rfl)
theorem zBm:Ent zA 30:=Ent.of Tryd.func30 (by rfl) (by rfl)
theorem zBW:Ent zA 31:=Ent.of Tryd.func31 (by rfl) (by rfl)
theorem zBa:Ent zA 34:=Ent.of Tryd.func34 (by rfl) (by rfl)
theorem zBi:Ent zA 35:=Ent.of Tryd.func35 (by rfl) (by rfl)
theorem zBB:Ent zA 36:=Ent.of Tryd.func36 (by rfl) (by rfl)
theorem zBy:Ent zA 38:=Ent.of Tryd.func38 (by rfl) (by rfl)
theorem zBq:Ent zA 39:=Ent.of Tryd.func39 (by rfl) (by rfl)
theorem zBX:Ent zA 40:=Ent.of Tryd.func40 (by rfl) (by rfl)
theorem zBT:Ent zA 41:=Ent.of Tryd.func41 (by rfl) (by rfl)
theorem zBr:Ent zA 43:=Ent.of Tryd.func43 (by rfl) (by rfl)
theorem zBw:Ent zA 44:=Ent.of Tryd.func44 (by rfl) (by rfl)
theorem zBs:Ent zA 45:=Ent.of Tryd.func45 (by rfl) (by rfl)
end Go.Proofs.YtjlfegnhomgjhaaDoor.VG
set_option linter.unusedVariables false
set_option linter.unusedSimpArgs false
namespace Go.VB
section
variable {P:Program} {ops:Array Oper} {Q:Exit->Act->World->Prop} {fin:Option Nat} {C:World->Prop} {fuel:Nat} {listed l2 l3:Array Bool} {a:Act} {w:World}
def WK (fin:Option Nat) (C:World->Prop) (P:Program) (ops:Array Oper) (Q:Exit->Act->World->Prop):Nat->Array Bool->Act->World->Prop
 |0,listed,a,w=>Region.ready .any ops listed=[]/\Q .normal a w
 |fuel+1,listed,a,w=>(Region.ready .any ops listed=[]->Q .normal a w)/\∀ i∈Region.ready .any ops listed,
   wpOpIn (FW none) 0 P ops Q i (λa' w'=>(fin=some i∨C w')/\WK fin C P ops Q fuel (listed.setIfInBounds i true) a' w') a w
def Zh (ops:Array Oper) (i:Nat):List Nat:=(List.range ops.size).foldl (λU u=>if u==i||(match ops[u]? with
 |some o=>o.after.toList.any λe=>Region.binds .any e&&U.contains e.on
 |none=>false) then u::U else U) []
def zAx (fin:Option Nat) (ops:Array Oper) (listed:Array Bool) (i:Nat):Bool:=match fin with
 |none=>true
 |some f=>(Zh ops i).contains f&&(Zh ops i).all λu=>(listed.getD u true==false)&&(u==i||(match ops[u]? with
  |some o=>o.after.toList.any λe=>Region.binds .any e&&(Zh ops i).contains e.on
  |none=>false))
def zAe (fin:Option Nat) (ops:Array Oper) (listed:Array Bool) (i:Nat):Prop:=∀ f,fin=some f->∃ U:List Nat,f∈U/\(∀ u∈U,listed.getD u true=false)/\∀ u∈U,u=i∨∃ o,ops[u]?=some o/\∃ e∈o.after,Region.binds .any e=true/\e.on∈U
theorem Z6 {fin:Option Nat} {ops:Array Oper} {listed:Array Bool} {i:Nat} (h:zAx fin ops listed i=true):zAe fin ops listed i:=by
 intro f hf
 subst hf
 unfold zAx at h
 simp only [Bool.and_eq_true,List.all_eq_true,List.contains_iff_mem,Bool.or_eq_true,beq_iff_eq] at h
 refine ⟨Zh ops i,h.1,λu hu=>(h.2 u hu).1,λu hu=>?_⟩
 rcases (h.2 u hu).2 with h1|h1
 ·exact .inl h1
 ·right
  cases ho:ops[u]? with
  |none=>rw [ho] at h1;cases h1
  |some o=>
   rw [ho] at h1
   simp only [List.any_eq_true,Bool.and_eq_true,List.contains_iff_mem] at h1
   obtain ⟨e,he,h2,h3⟩:=h1
   exact ⟨o,rfl,e,by simpa using he,h2,h3⟩
theorem WK.any:∀ (fuel:Nat) (listed:Array Bool) (a:Act) (w:World),WK fin C P ops Q fuel listed a w->WA P ops Q fuel listed a w
 |0,_,_,_,h=>h
 |fuel+1,_,_,_,h=>⟨h.1,λi hi=>wpOpIn_mono (λa' w' h'=>WK.any fuel _ a' w' h'.2) (h.2 i hi)⟩
theorem zAg {i:Nat} {o:Oper} {K:Act->World->Prop} (hi:ops[i]?=some o) (h:wpOpIn (FW none) 0 P ops Q i K a w):
  wpOpIn (FW none) 0 P ops Q i (λa' w'=>(∃ u ds,a'={a.put o.dst u with defers:=ds})/\K a' w') a w:=by
 have sh:∀ u,∃ u' ds,a.put o.dst u={a.put o.dst u' with defers:=ds}:=λu=>⟨u,(a.put o.dst u).defers,rfl⟩
 unfold wpOpIn at*
 simp only [hi] at*
 split
 ·rename_i hw
  rw [if_pos hw] at h
  unfold Oper.wpIn at*
  refine ⟨h.1,?_⟩
  have h2:=h.2
  generalize (o.semAt (FW none).round a.eval).run P w=r at h2 ⊢
  cases r with
  |halt x w'=>cases x<;>exact h2
  |ok x w'=>
   cases x with
   |value u=>exact ⟨sh u,h2⟩
   |skip=>exact ⟨sh _,h2⟩
   |defer d=>exact ⟨⟨undef,d::a.defers,by cases hd:o.dst<;>rfl⟩,h2⟩
   |enter f args=>exact ⟨h2.1,CallsIn.mono h2.2 λe w'' he=>by cases e<;>first|exact ⟨sh _,he⟩|exact he⟩
   |row r args=>exact ⟨h2.1,RowsIn.mono h2.2 λu w'' he=>⟨sh u,he⟩⟩
   |round l f ts as_ bd=>exact ⟨h2.1,RoundIn.mono h2.2 λe w'' he=>by cases e<;>first|exact ⟨sh _,he⟩|exact he⟩
   |_=>exact h2
 ·rename_i hw
  rw [if_neg hw] at h
  exact ⟨h.1,sh _,h.2⟩
structure YJ (C:World->Prop) (P:Program) (o:Oper) (v:Value) (a:Act):Prop where
 run:∀ w,C w->(execOp a.eval o).run P w=.ok (.value v) w
theorem YJ.same {o:Oper} {v:Value} {a a':Act} (h:YJ C P o v a) (he:execOp a'.eval o=execOp a.eval o):YJ C P o v a':=⟨λw hw=>by rw [he];exact h.run w hw⟩
theorem YJ.op {i:Nat} {o:Oper} {v:Value} (hi:ops[i]?=some o) (hg:o.guard=none) (h:YJ C P o v a) (hw:C w) {K:Act->World->Prop} (hK:K (a.put o.dst v) w):wpOpIn (FW none) 0 P ops Q i K a w:=by
 unfold wpOpIn
 simp only [hi]
 rw [if_pos (by simp [Region.wanted,hg])]
 unfold Oper.wpIn
 refine ⟨λ_ _=>trivial,?_⟩
 rw [show (FW none).round=none from rfl,Oper.semAt_none,h.run w hw]
 exact hK
theorem zBf {oi oj:Oper} {v:Value} {j:Nat} (hj:ops[j]?=some oj) (hap:oi.apart ops oj=true) (hsi:∀ cs b,oi.op≠.select cs b) (hsj:∀ cs b,oj.op≠.select cs b)
  (hQ:∀ c a w,Q (.panic c) (a.put oi.dst v) w->Q (.panic c) a w) {K:Act->World->Prop} (hL:YJ C P oi v a) (h:wpOpIn (FW none) 0 P ops Q j K (a.put oi.dst v) w):
  wpOpIn (FW none) 0 P ops Q j (λa' w'=>YJ C P oi v a'/\K (a'.put oi.dst v) w') a w:=by
 obtain ⟨h1,h2,h3⟩:=Oper.apart_spec hap
 have hfake:Oper.apart ops {oi with op:=.move (.const v),guard:=none} oj=true:=by
  unfold Oper.apart
  simp only [Bool.and_eq_true]
  refine ⟨?_,?_⟩
  ·cases hd:oi.dst with
   |none=>rfl
   |some d=>simpa [hd] using ⟨h1 d hd,h2 d hd⟩
  ·cases hd:oj.dst with
   |none=>rfl
   |some d=>simp [Oper.looksAt,Op.operands]
 have h4:=wpOpIn_put (oi:={oi with op:=.move (.const v),guard:=none}) (F:=FW none) rfl hj hfake (by intro cs b h;cases h) hsj hQ (a:=a) (w:=w) (K:=K)
  ⟨.inl ⟨by simp [Region.wanted],λw=>rfl⟩,λw=>rfl⟩ h
 refine wpOpIn_mono (λa' w' hh=>?_) (zAg hj h4)
 obtain ⟨⟨u,ds,rfl⟩,_,hk⟩:=hh
 exact ⟨hL.same (execOp_put oi hsi a oj.dst u h3),hk⟩
theorem WK.first {i:Nat} {oi:Oper} {v:Value} (hi:ops[i]?=some oi) (hg:oi.guard=none) (hs:∀ (j:Nat) (o:Oper) cs b,ops[j]?=some o->o.op≠.select cs b)
  (hQ:∀ c a w,Q (.panic c) (a.put oi.dst v) w->Q (.panic c) a w):∀ (fuel:Nat) (listed:Array Bool) (a:Act) (w:World),
  (∀ j oj,ops[j]?=some oj->j≠i->listed.getD j true=false->(∀ e∈oj.after,Region.binds .any e=true->e.on≠i)->oi.apart ops oj=true)->
  zAe fin ops listed i->i∈Region.ready .any ops listed->YJ C P oi v a->C w->WK fin C P ops Q fuel (listed.setIfInBounds i true) (a.put oi.dst v) w->WK fin C P ops Q (fuel+1) listed a w:=by
 intro fuel
 induction fuel with
 |zero=>
  intro listed a w _ hF hr hL hw H
  refine ⟨λh=>(by rw [h] at hr;cases hr),λj hj=>?_⟩
  by_cases hji:j=i
  ·subst hji;exact hL.op hi hg hw ⟨.inr hw,H⟩
  ·have h1:=ready_mono hj hji
   rw [H.1] at h1;cases h1
 |succ fuel ih=>
  intro listed a w hfree hF hr hL hw H
  refine ⟨λh=>(by rw [h] at hr;cases hr),λj hj=>?_⟩
  by_cases hji:j=i
  ·subst hji;exact hL.op hi hg hw ⟨.inr hw,H⟩
  obtain ⟨hjun,oj,hoj,hall⟩:=mem_ready.1 hj
  have hi0:=(mem_ready.1 hr).1
  have hnot:∀ e∈oj.after,Region.binds .any e=true->e.on≠i:=λe he hb heq=>by
   have h1:=hall e he hb
   rw [heq] at h1
   rcases Nat.lt_or_ge i listed.size with h'|h'
   ·simp [h'] at hi0 h1;rw [hi0] at h1;cases h1
   ·simp [Array.getElem?_eq_none h'] at h1
  have h2:=zBf hoj (hfree j oj hoj hji hjun hnot) (λcs b=>hs i oi cs b hi) (λcs b=>hs j oj cs b hoj) hQ hL (H.2 j (ready_mono hj hji))
  refine wpOpIn_mono (λa' w' h3=>?_) h2
  obtain ⟨hL',hC',hK'⟩:=h3
  have hri:i∈Region.ready .any ops (listed.setIfInBounds j true):=ready_mono hr (Ne.symm hji)
  rw [Array.setIfInBounds_comm _ _ (Ne.symm hji)] at hK'
  have hjU:∀ U:List Nat,(∀ u∈U,listed.getD u true=false)->(∀ u∈U,u=i∨∃ o,ops[u]?=some o/\∃ e∈o.after,Region.binds .any e=true/\e.on∈U)->j∉U:=λU h1 h2 hj=>by
   rcases h2 j hj with h3|⟨o,h3,e,h4,h5,h6⟩
   ·exact hji h3
   ·rw [hoj] at h3;cases h3
    have h7:=hall e h4 h5
    have h8:=h1 _ h6
    rw [Array.getD_eq_getD_getElem?] at h8
    rcases Nat.lt_or_ge e.on listed.size with h'|h'
    ·simp [h'] at h7 h8;rw [h8] at h7;cases h7
    ·simp [Array.getElem?_eq_none h'] at h8
  replace hC':C w':=by
   rcases hC' with h|h
   ·obtain ⟨U,h1,h2,h3⟩:=hF j h
    exact absurd h1 (hjU U h2 h3)
   ·exact h
  have hF':zAe fin ops (listed.setIfInBounds j true) i:=λf hf=>by
   obtain ⟨U,h1,h2,h3⟩:=hF f hf
   refine ⟨U,h1,λu hu=>?_,h3⟩
   have h4:j≠u:=λe=>hjU U h2 h3 (e ▸ hu)
   rw [getD_set_ne true h4];exact h2 u hu
  refine ⟨.inr hC',ih _ a' w' (λk ok hk hki hun hno=>hfree k ok hk hki ?_ hno) hF' hri hL' hC' hK'⟩
  by_cases hjk:j=k
  ·subst hjk;exact hjun
  ·rw [getD_set_ne true hjk] at hun;exact hun
end
section
variable {P:Program} {ops:Array Oper} {ds:List Deferred} {N:Nat} {E:Env} {a:Act} {w:World} {Q:Exit->Act->World->Prop} {fuel:Nat} {listed l2 l3:Array Bool} {fin:Option Nat} {C:World->Prop}
def opC {τ:Type} (C:World->Prop) (P:Program) (enc:τ->Value) (s:Sem Value) (k:τ->Prop):Prop:=∃ x,(∀ w,C w->s.run P w=.ok (enc x) w)/\k x
theorem WK.take {i d:Nat} {o:Oper} {v:Value} (hd:o.dst=some d) (hg:o.guard=none) (hq:YY Q) (hs:Region.noSelect ops=true) (hi:ops[i]?=some o) (hf:Region.free .any ops listed i=true) (hr:(Region.ready .any ops listed).contains i=true)
  (hl:listed.setIfInBounds i true=l2) (hC:C w) (hL:YJ C P o v a) (h:WK fin C P ops Q fuel l2 (a.put o.dst v) w) (hF:zAx fin ops listed i=true):WK fin C P ops Q (fuel+1) listed a w:=by
 subst hl
 exact WK.first hi hg (Region.noSelect_spec hs) (λc a w=>by rw [hd];exact hq c a w d v) fuel listed a w (Region.free_spec hi hf) (Z6 hF) (by simpa using hr) hL hC h
theorem WK.nil (hr:Region.ready .any ops listed=[]) (h:Q .normal a w):WK fin C P ops Q fuel listed a w:=by
 cases fuel with
 |zero=>exact ⟨hr,h⟩
 |succ f=>exact ⟨λ_=>h,by rw [hr];simp⟩
theorem Z9 {i:Nat} {o:Oper} {K:Act->World->Prop} (hi:ops[i]?=some o) (h:WO P ops Q o K a w):wpOpIn (FW none) 0 P ops Q i K a w:=by
 unfold wpOpIn
 simp only [hi]
 unfold WO at h
 split
 ·rename_i hw;rw [if_pos hw] at h;exact h
 ·rename_i hw;rw [if_neg hw] at h;exact ⟨λ_ _=>trivial,h⟩
theorem WK.one {i:Nat} {o:Oper} (hi:ops[i]?=some o) (hr:Region.ready .any ops listed=[i]) (hl:listed.setIfInBounds i true=l2)
  (h:∀ (K:Act->World->Prop),(∀ a w,C w/\WK fin C P ops Q fuel l2 a w->K a w)->WO P ops Q o K a w):WK fin C P ops Q (fuel+1) listed a w:=by
 subst hl
 refine ⟨λh0=>(by rw [hr] at h0;cases h0),λj hj=>?_⟩
 rw [hr] at hj
 obtain rfl:j=i:=by simpa using hj
 exact Z9 hi (h _ λ_ _ h=>⟨.inr h.1,h.2⟩)
theorem WK.last {i:Nat} {o:Oper} (hi:ops[i]?=some o) (hr:Region.ready .any ops listed=[i]) (hl:listed.setIfInBounds i true=l2)
  (h:∀ (K:Act->World->Prop),(∀ a w,WK (some i) C P ops Q fuel l2 a w->K a w)->WO P ops Q o K a w):WK (some i) C P ops Q (fuel+1) listed a w:=by
 subst hl
 refine ⟨λh0=>(by rw [hr] at h0;cases h0),λj hj=>?_⟩
 rw [hr] at hj
 obtain rfl:j=i:=by simpa using hj
 exact Z9 hi (h _ λ_ _ h=>⟨.inl rfl,h⟩)
theorem WK.two {i j:Nat} {o o':Oper} (hi:ops[i]?=some o) (hj:ops[j]?=some o') (hr:Region.ready .any ops listed=[i,j]) (hl:listed.setIfInBounds i true=l2) (hl':listed.setIfInBounds j true=l3)
  (h:∀ (K:Act->World->Prop),(∀ a w,C w/\WK fin C P ops Q fuel l2 a w->K a w)->WO P ops Q o K a w)
  (h':∀ (K:Act->World->Prop),(∀ a w,C w/\WK fin C P ops Q fuel l3 a w->K a w)->WO P ops Q o' K a w):WK fin C P ops Q (fuel+1) listed a w:=by
 subst hl;subst hl'
 refine ⟨λh0=>(by rw [hr] at h0;cases h0),λk hk=>?_⟩
 rw [hr] at hk
 rcases List.mem_cons.1 hk with rfl|hk
 ·exact Z9 hi (h _ λ_ _ h=>⟨.inr h.1,h.2⟩)
 ·obtain rfl:k=j:=by simpa using hk
  exact Z9 hj (h' _ λ_ _ h=>⟨.inr h.1,h.2⟩)
end
section
variable {P:Program} {ops:Array Oper} {ds:List Deferred} {N:Nat} {E:Env} {a:Act} {w:World} {Q:Exit->Act->World->Prop} {K:Act->World->Prop}
end
section
variable {P:Program} {Q:Exit->Act->World->Prop} {N:Nat} {E:Env} {a:Act} {w:World}
end
end Go.VB
set_option linter.unusedVariables false
namespace Go.VB
section
variable {P:Program} {ops:Array Oper} {ds:List Deferred} {N:Nat} {E:Env} {a:Act} {w:World} {Q:Exit->Act->World->Prop} {fuel:Nat} {listed:Array Bool} {fin:Option Nat} {C:World->Prop}
theorem Z5 {id:Nat} {l:List Oper} (n:Nat) (h:∀ w',Bel w w'->WA P l.toArray Q n (Array.replicate n false) a w') (hm:P.follows .mixedOrders=true:=by kernel_rfl) (hn:l.toArray.size=n:=by rfl):
  WC none P (.region id l.toArray true) Q a w:=zBd n _ hm h hn rfl
theorem Sat.x (hE:Sat ds N E a) (i:Nat) {op:Op} {ty:TypeId} {pos:String} {aft:Array Edge} {d:Nat} {v:Value} (hi:ops[i]?=some ⟨some d,op,ty,pos,aft,none⟩)
  (he:execOp a.eval ⟨some d,op,ty,pos,aft,none⟩=pn v) (next:∀ a',Sat ds N ((d,v)::E) a'->WA P ops Q fuel (listed.setIfInBounds i true) a' w)
  (hq:YY Q:=by exact λ_ _ _ _ _ h=>h) (hs:Region.noSelect ops=true:=by kernel_rfl) (hf:Region.free .any ops listed i=true:=by kernel_rfl) (hr:(Region.ready .any ops listed).contains i=true:=by kernel_rfl)
  (hN:Nat.blt d N=true:=by rfl) (hc:Qx op=true:=by rfl):WA P ops Q (fuel+1) listed a w:=hE.apur hq hs hi hf hr rfl (zBH he) next hN hc
theorem Sat.y (hE:Sat ds N E a) (i:Nat) {τ:Type} {enc:τ->Value} {s:Sem Value} {k:τ->Prop} {op:Op} {ty:TypeId} {pos:String} {aft:Array Edge} {d:Nat} (hi:ops[i]?=some ⟨some d,op,ty,pos,aft,none⟩)
  (he:execOp a.eval ⟨some d,op,ty,pos,aft,none⟩=pv s) (H:opP P enc s k) (next:∀ x a',k x->Sat ds N ((d,enc x)::E) a'->WA P ops Q fuel (listed.setIfInBounds i true) a' w)
  (hq:YY Q:=by exact λ_ _ _ _ _ h=>h) (hs:Region.noSelect ops=true:=by kernel_rfl) (hf:Region.free .any ops listed i=true:=by kernel_rfl) (hr:(Region.ready .any ops listed).contains i=true:=by kernel_rfl)
  (hN:Nat.blt d N=true:=by rfl) (hc:Qx op=true:=by rfl):WA P ops Q (fuel+1) listed a w:=hE.aop hq hs hi hf hr rfl he H next hN hc
theorem Sat.j (hE:Sat ds N E a) (i:Nat) {τ:Type} {enc:τ->Value} {s:Sem Value} {k:τ->World->Prop} {op:Op} {ty:TypeId} {pos:String} {aft:Array Edge} {d:Nat} (hi:ops[i]?=some ⟨some d,op,ty,pos,aft,none⟩)
  (he:execOp a.eval ⟨some d,op,ty,pos,aft,none⟩=pv s) (H:opE P enc s w k) (next:∀ x w' a',k x w'->Sat ds N ((d,enc x)::E) a'->WA P ops Q fuel (listed.setIfInBounds i true) a' w')
  (hr:Region.ready .any ops listed=[i]:=by kernel_rfl) (hN:Nat.blt d N=true:=by rfl) (hnd:∀ c,op≠.defer c:=by intro c h;cases h):WA P ops Q (fuel+1) listed a w:=
 WA.one hi hr rfl λK hK=>hE.i he H (λx w' a' h hS=>hK _ _ (next x w' a' h hS)) hN hnd
theorem Sat.l (hE:Sat ds N E a) (i:Nat) {s:Sem Unit} {k:World->Prop} {op:Op} {ty:TypeId} {pos:String} {aft:Array Edge} (hi:ops[i]?=some ⟨none,op,ty,pos,aft,none⟩)
  (he:execOp a.eval ⟨none,op,ty,pos,aft,none⟩=pu s) (H:opU P s w k) (next:∀ w' a',k w'->Sat ds N E a'->WA P ops Q fuel (listed.setIfInBounds i true) a' w')
  (hr:Region.ready .any ops listed=[i]:=by kernel_rfl) (hnd:∀ c,op≠.defer c:=by intro c h;cases h):WA P ops Q (fuel+1) listed a w:=
 WA.one hi hr rfl λK hK=>hE.wopu he H (λw' a' h hS=>hK _ _ (next w' a' h hS)) hnd
theorem WA.ni (h:Q .normal a w) (hr:Region.ready .any ops listed=[]:=by kernel_rfl):WA P ops Q fuel listed a w:=WA.nil hr h
theorem WK.on (i:Nat) {o:Oper} (hi:ops[i]?=some o) (h:∀ (K:Act->World->Prop),(∀ a w,C w/\WK fin C P ops Q fuel (listed.setIfInBounds i true) a w->K a w)->WO P ops Q o K a w) (hr:Region.ready .any ops listed=[i]:=by kernel_rfl):WK fin C P ops Q (fuel+1) listed a w:=
 WK.one hi hr rfl h
end
section
variable {ro:Option Nat} {P:Program} {ops:Array Oper} {Q:Exit->Act->World->Prop} {ds:List Deferred} {N:Nat} {E:Env} {a:Act} {w:World} {rest:List Oper} {K:Act->Prop}
theorem Sat.m (hE:Sat ds N E a) {x v ty pos aft} {d:Nat} (hx:Go.VB.ev E x=some v) (next:∀ a',Sat ds N ((d,v)::E) a'->WL ro P ops Q rest a' w) (hN:Nat.blt d N=true:=by rfl):WL ro P ops Q (⟨some d,.move x,ty,pos,aft,none⟩::rest) a w:=hE.p (zl hE hx) next hN
theorem Sat.s (hE:Sat ds N E a) {x v ty pos aft} {d:Nat} (hx:Go.VB.ev E x=some v) (next:∀ a',Sat ds N ((d,v)::E) a'->WL ro P ops Q rest a' w) (hN:Nat.blt d N=true:=by rfl):WL ro P ops Q (⟨some d,.assign x,ty,pos,aft,none⟩::rest) a w:=hE.p (zAj hE hx) next hN
end
end Go.VB
set_option linter.unusedVariables false
set_option linter.unusedSimpArgs false
namespace Go.Proofs.YtjlfegnhomgjhaaDoor.VG
open Go.VB Go.Proofs
def z1 (x7:Int) (Kl2:Sl->Int->World->Prop) (x5_1:Sl) (w:World):Prop:=
 Kl2 x5_1 (zF .i64 (x7+1)) w
def zx (Ret:Bool->World->Prop) (x95:Bool) (w:World):Prop:=
 Ret x95 w
def zv (Ret:Bool->World->Prop) (x94:Bool) (w:World):Prop:=
 zx Ret x94 w
def zs (Ret:Bool->World->Prop) (x93:Bool) (w:World):Prop:=
 zv Ret x93 w
def zw (Ret:Bool->World->Prop) (r_4:Int) (x86:Bool) (w:World):Prop:=
 (x86=true->(((r_4=0)->(zs Ret true w))/\(¬ (r_4=0)->(zs Ret (decide (r_4=4)) w))))/\(x86=false->(zv Ret false w))
def zz (Ret:Bool->World->Prop) (x6:Option Addr) (r_4:Int) (x78:Bool) (w:World):Prop:=
 (x78=true->(zx Ret true w))/\(x78=false->(opE zA zC (zJ 27 (.pointer x6) 1) w (λx80 w=>opE zA (zH .u8) (zG 25 (.pointer x80)) w (λx81 w=>((x81=1)->(opE zA zC (zJ 27 (.pointer x6) 3) w (λx84 w=>opE zA yO (zG 4 (.pointer x84)) w (λx85 w=>zw Ret r_4 x85 w))))/\(¬ (x81=1)->(zw Ret r_4 false w))))))
def zr (Ret:Bool->World->Prop) (x6:Option Addr) (r_4:Int) (x77:Bool) (w:World):Prop:=
 zz Ret x6 r_4 x77 w
def yC (Ret:Bool->World->Prop) (x6:Option Addr) (r_4:Int) (x76:Bool) (w:World):Prop:=
 zr Ret x6 r_4 x76 w
def z0 (x0:Int) (Ret:Bool->World->Prop) (x6:Option Addr) (x5:Sl) (x7:Int) (Kl2:Sl->Int->World->Prop) (r_4:Int) (x61:Bool) (w:World):Prop:=
 (x61=true->(opE zA zI.v (yI 27 [(0,(.int .i64 x0)),(1,(.int .u8 3))].toArray) w (λx63 w=>opU zA (zK 27 (.pointer x6) (zI.v x63)) w (λw=>z1 x7 Kl2 x5 w))))/\(x61=false->(opE zA zC (zJ 27 (.pointer x6) 1) w (λx64 w=>opE zA (zH .u8) (zG 25 (.pointer x64)) w (λx65 w=>((x65=3)->(((r_4=6)->(zr Ret x6 r_4 true w))/\(¬ (r_4=6)->(opE zA zC (zJ 27 (.pointer x6) 3) w (λx71 w=>opE zA yO (zG 4 (.pointer x71)) w (λx72 w=>(x72=true->(yC Ret x6 r_4 (decide (r_4=2)) w))/\(x72=false->(yC Ret x6 r_4 false w))))))))/\(¬ (x65=3)->(zz Ret x6 r_4 false w))))))
def zy (x0:Int) (Ret:Bool->World->Prop) (x6:Option Addr) (x5:Sl) (x7:Int) (Kl2:Sl->Int->World->Prop) (r_4:Int) (x57:Bool) (w:World):Prop:=
 (x57=true->(z0 x0 Ret x6 x5 x7 Kl2 r_4 (decide (r_4=2)) w))/\(x57=false->(z0 x0 Ret x6 x5 x7 Kl2 r_4 false w))
def zf (Ret:Bool->World->Prop) (x6:Option Addr) (x7:Int) (Kl2:Sl->Int->World->Prop) (x13:Int) (x5_2:Sl) (w:World):Prop:=
 opE zA zI.v (zG 27 (.pointer x6)) w (λx144 w=>Cl zA 11 [(zI.v x144),(.bool (decide (x13=0)))].toArray w (λe w=>∃ (r_6:zI) (r_7:Int),e=.returned (.tuple [(zI.v r_6),(.int .i64 r_7)].toArray)/\(opU zA (zK 27 (.pointer x6) (zI.v r_6)) w (λw=>((r_7≠0)->(Ret false w))/\(¬ (r_7≠0)->(z1 x7 Kl2 x5_2 w))))))
def zq (Ret:Bool->World->Prop) (x6:Option Addr) (x5:Sl) (x7:Int) (Kl2:Sl->Int->World->Prop) (x13:Int) (r_9:Sl) (x140:Bool) (w:World):Prop:=
 (x140=true->(Ret false w))/\(x140=false->(((x13=0)->(zf Ret x6 x7 Kl2 x13 r_9 w))/\(¬ (x13=0)->(zf Ret x6 x7 Kl2 x13 x5 w))))
def yA (Ret:Bool->World->Prop) (x6:Option Addr) (x5:Sl) (x7:Int) (Kl2:Sl->Int->World->Prop) (x13:Int) (r_9:Sl) (x139:Bool) (w:World):Prop:=
 zq Ret x6 x5 x7 Kl2 x13 r_9 x139 w
def zm (x0:Int) (Ret:Bool->World->Prop) (x6:Option Addr) (x5:Sl) (x7:Int) (Kl2:Sl->Int->World->Prop) (r_1:Int) (x13:Int) (w:World):Prop:=
 Cl zA 8 [(.int .u8 r_1)].toArray w (λe w=>∃ (r_8:Int),e=.returned (.int .u8 r_8)/\(((r_8≠0)->(Cl zA 9 [(Sl.v x5),(.int .i64 x0),(.int .u8 r_8),(.int .u8 x13)].toArray w (λe w=>∃ (r_9:Sl) (r_10:Int),e=.returned (.tuple [(Sl.v r_9),(.int .i64 r_10)].toArray)/\(opE zA yO (do eqGuard .neq 4 (.tmp 129) (.tmp 131) (.bool (decide (x13=0))) (.bool (decide (r_10=0)));binOp .neq 4 (.bool (decide (x13=0))) (.bool (decide (r_10=0)))) w (λx132 w=>(x132=true->(Cl zA 10 [(.int .u8 r_8)].toArray w (λe w=>∃ (r_11:Bool),e=.returned (.bool r_11)/\((r_11=true->(yA Ret x6 x5 x7 Kl2 x13 r_9 true w))/\(r_11=false->(yA Ret x6 x5 x7 Kl2 x13 r_9 (decide (r_10≠0)) w))))))/\(x132=false->(zq Ret x6 x5 x7 Kl2 x13 r_9 false w)))))))/\(¬ (r_8≠0)->(zf Ret x6 x7 Kl2 x13 x5 w))))
def zp (x0:Int) (Ret:Bool->World->Prop) (x6:Option Addr) (x5:Sl) (x7:Int) (Kl2:Sl->Int->World->Prop) (r_1:Int) (x114:Bool) (w:World):Prop:=
 (x114=true->(zm x0 Ret x6 x5 x7 Kl2 r_1 1 w))/\(x114=false->(zm x0 Ret x6 x5 x7 Kl2 r_1 0 w))
def zo (x0:Int) (Ret:Bool->World->Prop) (x6:Option Addr) (x5:Sl) (x7:Int) (Kl2:Sl->Int->World->Prop) (r_1:Int) (x110:Bool) (w:World):Prop:=
 (x110=true->(Cl zA 7 [(.int .u8 r_1)].toArray w (λe w=>∃ (r_12:Bool),e=.returned (.bool r_12)/\(zp x0 Ret x6 x5 x7 Kl2 r_1 r_12 w))))/\(x110=false->(zp x0 Ret x6 x5 x7 Kl2 r_1 false w))
def zn (x0:Int) (x1:Sl) (Ret:Bool->World->Prop) (x6:Option Addr) (x5:Sl) (x7:Int) (Kl2:Sl->Int->World->Prop) (r_1:Int) (x103:Bool) (w:World):Prop:=
 (x103=true->(opE zA zC (zN 22 (Sl.v x1) (.int .i64 x7)) w (λx107 w=>opE zA (zH .u8) (zG 35 (.pointer x107)) w (λx108 w=>zo x0 Ret x6 x5 x7 Kl2 r_1 (decide (x108=1)) w))))/\(x103=false->(zo x0 Ret x6 x5 x7 Kl2 r_1 false w))
def yL (x0:Int) (x1:Sl) (Ret:Bool->World->Prop) (x6:Option Addr) (x5:Sl) (x7:Int) (w:World) (Kl2:Sl->Int->World->Prop):Prop:=
 ((x7<60)->(opE zA zI.v (zG 27 (.pointer x6)) w (λx33 w=>Cl zA 5 [(zI.v x33)].toArray w (λe w=>∃ (r_1:Int) (r_2:Bool) (r_3:Int),e=.returned (.tuple [(.int .u8 r_1),(.bool r_2),(.int .i64 r_3)].toArray)/\(((r_3≠0)->(Ret false w))/\(¬ (r_3≠0)->(((!r_2)=true->(Cl zA 6 [(Sl.v x5),(.int .i64 x0)].toArray w (λe w=>∃ (r_4:Int) (r_5:Int),e=.returned (.tuple [(.int .u8 r_4),(.int .i64 r_5)].toArray)/\(((r_5≠0)->(Ret false w))/\(¬ (r_5≠0)->(opE zA zC (zJ 27 (.pointer x6) 1) w (λx50 w=>opE zA (zH .u8) (zG 25 (.pointer x50)) w (λx51 w=>((x51=1)->(opE zA zC (zJ 27 (.pointer x6) 3) w (λx54 w=>opE zA yO (zG 4 (.pointer x54)) w (λx55 w=>zy x0 Ret x6 x5 x7 Kl2 r_4 (!x55) w))))/\(¬ (x51=1)->(zy x0 Ret x6 x5 x7 Kl2 r_4 false w))))))))))/\((!r_2)=false->(((x7<(x1.len:Int))->(zn x0 x1 Ret x6 x5 x7 Kl2 r_1 (decide (x7<20)) w))/\(¬ (x7<(x1.len:Int))->(zn x0 x1 Ret x6 x5 x7 Kl2 r_1 false w)))))))))))/\(¬ (x7<60)->(Ret false w))
def zk (x0:Int) (x1:Sl) (Ret:Bool->World->Prop) (x25:Bool) (w:World):Prop:=
 (x25=true->(Ret true w))/\(x25=false->(opE zA zI.v (yI 27 [(0,(.int .i64 x0)),(1,(.int .u8 1))].toArray) w (λx27 w=>opE zA zC (z6 27 true (.tuple #[])) w (λx6 w=>opU zA (zK 27 (.pointer x6) (zI.v x27)) w (λw=>∃ (I:Sl->Int->World->Prop) (μ:Sl->Int->World->Nat),I Sl.none 0 w/\∀ (x5:Sl) (x7:Int) w,I x5 x7 w->yL x0 x1 Ret x6 x5 x7 w (λx5' x7' w'=>I x5' x7' w'/\μ x5' x7' w'<μ x5 x7 w))))))
def y4 (x0:Int) (x1:Sl) (w:World) (Ret:Bool->World->Prop):Prop:=
 Cl zA 4 [].toArray w (λe w=>∃ (r:Bool),e=.returned (.bool r)/\(((!r)=true->(Ret false w))/\((!r)=false->(((x0<1)->(zk x0 x1 Ret true w))/\(¬ (x0<1)->(zk x0 x1 Ret (decide (1024<x0)) w))))))
set_option maxRecDepth 100000 in
theorem QT (x0:Int) (x1:Sl) (w:World) (Ret:Bool->World->Prop) (H:y4 x0 x1 w Ret):Cl zA 3 [(.int .i64 x0),(Sl.v x1)].toArray w (λe w'=>∃ (r0:Bool),e=.returned (.bool r0)/\Ret r0 w'):=by
 unfold y4 at H
 refine ze 151 (zipE 0 [(.int .i64 x0),(Sl.v x1)]) Tryd.func3 rfl rfl (by rfl) rfl ?_
 intro a g
 have g:Sat [] 151 [(0,(.int .i64 x0)),(1,(Sl.v x1))] a:=g
 refine zD (zB (g.s rfl λ_ g=>zE (tn (zD (zD (zB (g.c (zT g ent4 rfl rfl) H λe w H=>?_)))))))
 obtain ⟨r,rfl,H⟩:=H
 refine ⟨_,rfl,λ_ g=>(g.p (Q2 g rfl) λ_ g=>zE (tn (yH g rfl (λhc=>?_) (λhc=>?_))))⟩
 ·have H:=H.1 hc
  exact zD (zB (g.s rfl λ_ g=>zE (tn (zV (tr (zU g rfl rfl ⟨_,rfl,H⟩))))))
 ·have H:=H.2 hc
  refine zW (tn (zD (zD (zB (g.m rfl λ_ g=>g.p (xm g rfl rfl) λ_ g=>g.m rfl λ_ g=>WL.join (ds:=[]) (N:=151) (σ:=Bool) (λs=>[(25,(.bool s)),(0,(.int .i64 x0)),(1,(Sl.v x1))]) (λs w=>zk x0 x1 Ret s w) 3 ?_ (λhr1=>?_))))))
  ·intro x25 w a H g
   try dsimp only at H g
   unfold zk at H
   refine zE (tn (yH g rfl (λhc=>?_) (λhc=>?_)))
   ·have H:=H.1 hc
    exact zD (zB (g.s rfl λ_ g=>zE (tn (zV (tr (zU g rfl rfl ⟨_,rfl,H⟩))))))
   ·have H:=H.2 hc
    refine zW (tn (zD (zB (g.s rfl λ_ g=>zE (tn (zD (zB (g.m rfl λ_ g=>g.o (xX g rfl) H λx27 w a H g=>g.o (YM) H λx6 w a H g=>g.h (yE g rfl rfl) H λw a H g=>zE (tn (zD (zD (zB (g.s rfl λ_ g=>zE (tn (yh ?_)))))))))))))))
    obtain ⟨I_l2,μ_l2,h0,hb⟩:=H
    refine Yc (ds:=[]) (N:=151) (σ:=Sl × Int) (λs=>[(5,(Sl.v s.1)),(7,(.int .i64 s.2)),(0,(.int .i64 x0)),(1,(Sl.v x1)),(6,(.pointer x6))]) (λs w=>I_l2 s.1 s.2 w) (λs w=>μ_l2 s.1 s.2 w) (Sl.none,0) h0 (g.k) ?_
    rintro ⟨x5,x7⟩ w a hI g
    try dsimp only at hI g
    obtain ⟨Kl2,hK_l2⟩:∃ K:Sl->Int->World->Prop,K=(λx5' x7' w'=>I_l2 x5' x7' w'/\μ_l2 x5' x7' w'<μ_l2 x5 x7 w):=⟨_,rfl⟩
    have H:yL x0 x1 Ret x6 x5 x7 w Kl2:=by rw [hK_l2];exact hb x5 x7 w hI
    clear hb h0 hI
    unfold yL at H
    refine zD (zD (zB (g.m rfl λ_ g=>g.p (xm g rfl rfl) λ_ g=>zE (tn (zc g rfl (λhc=>?_) (λhc=>?_))))))
    ·have H:=H.1 hc
     refine zW (tn (xp (ds:=[]) (N:=151) (σ:=Sl) (λs=>[(5,(Sl.v s)),(0,(.int .i64 x0)),(1,(Sl.v x1)),(6,(.pointer x6)),(7,(.int .i64 x7))]) (λs w=>z1 x7 Kl2 s w) ?_ (λhj3=>?_)))
     ·intro x5_1 w a H g
      try dsimp only at H g
      unfold z1 at H
      refine zB (g.m rfl λ_ g=>g.p (xY g rfl rfl) λ_ g=>g.s rfl λ_ g=>?_)
      rw [hK_l2] at H
      exact zE (tn ⟨(x5_1,(zF .i64 (x7+1))),g.k,H⟩)
     ·refine yh (zD (zB (g.o (zg g rfl) H λx33 w a H g=>g.c (zT g ent5 rfl rfl) H λe w H=>?_)))
      obtain ⟨r_1,r_2,r_3,rfl,H⟩:=H
      refine ⟨_,rfl,λ_ g=>(g.m rfl λ_ g=>g.p (zb g rfl rfl) λ_ g=>g.p (zb g rfl rfl) λ_ g=>g.p (zb g rfl rfl) λ_ g=>g.s rfl λ_ g=>g.s rfl λ_ g=>g.s rfl λ_ g=>zE (tn (zD (zD (zB (g.m rfl λ_ g=>g.p (Q3 g rfl rfl) λ_ g=>zE (tn (zc g rfl (λhc=>?_) (λhc=>?_)))))))))⟩
      ·have H:=H.1 hc
       exact zD (zB (g.s rfl λ_ g=>zE (tn (zV (tr (br (tr (tr (br (tr (zU g rfl rfl ⟨_,rfl,H⟩)))))))))))
      ·have H:=H.2 hc
       refine zW (tn (zD (zD (zB (g.m rfl λ_ g=>g.p (Q2 g rfl) λ_ g=>zE (tn (yH g rfl (λhc=>?_) (λhc=>?_))))))))
       ·have H:=H.1 hc
        refine zD (zB (g.m rfl λ_ g=>g.m rfl λ_ g=>g.c (zT g ent6 rfl rfl) H λe w H=>?_))
        obtain ⟨r_4,r_5,rfl,H⟩:=H
        refine ⟨_,rfl,λ_ g=>(g.m rfl λ_ g=>g.p (zb g rfl rfl) λ_ g=>g.p (zb g rfl rfl) λ_ g=>g.s rfl λ_ g=>g.s rfl λ_ g=>zE (tn (zD (zD (zB (g.m rfl λ_ g=>g.p (Q3 g rfl rfl) λ_ g=>zE (tn (zc g rfl (λhc=>?_) (λhc=>?_)))))))))⟩
        ·have H:=H.1 hc
         exact zD (zB (g.s rfl λ_ g=>zE (tn (zV (tr (tr (br (tr (tr (br (tr (zU g rfl rfl ⟨_,rfl,H⟩))))))))))))
        ·have H:=H.2 hc
         refine zW (tn (zD (zD (zB (g.o (zO g rfl) H λx50 w a H g=>g.o (zg g rfl) H λx51 w a H g=>g.p (ya g rfl rfl) λ_ g=>g.m rfl λ_ g=>WL.join (ds:=[]) (N:=151) (σ:=Bool) (λs=>[(57,(.bool s)),(0,(.int .i64 x0)),(1,(Sl.v x1)),(5,(Sl.v x5)),(6,(.pointer x6)),(7,(.int .i64 x7)),(11,(.int .u8 r_4))]) (λs w=>zy x0 Ret x6 x5 x7 Kl2 r_4 s w) 4 ?_ (λhr4=>?_))))))
         ·intro x57 w a H g
          try dsimp only at H g
          unfold zy at H
          refine g.m rfl λ_ g=>WL.join (ds:=[]) (N:=151) (σ:=Bool) (λs=>[(61,(.bool s)),(0,(.int .i64 x0)),(1,(Sl.v x1)),(5,(Sl.v x5)),(6,(.pointer x6)),(7,(.int .i64 x7)),(11,(.int .u8 r_4))]) (λs w=>z0 x0 Ret x6 x5 x7 Kl2 r_4 s w) 3 ?_ (λhr5=>?_)
          ·intro x61 w a H g
           try dsimp only at H g
           unfold z0 at H
           refine zE (tn (yH g rfl (λhc=>?_) (λhc=>?_)))
           ·have H:=H.1 hc
            exact zD (zB (g.m rfl λ_ g=>g.o (xX g rfl) H λx63 w a H g=>g.h (yE g rfl rfl) H λw a H g=>zE (tn (YD (te (te (be (tn (hj3 x5 _ _ H (g.k))))))))))
           ·have H:=H.2 hc
            refine zW (tn (zD (zB (g.o (zO g rfl) H λx64 w a H g=>g.o (zg g rfl) H λx65 w a H g=>g.p (ya g rfl rfl) λ_ g=>g.m rfl λ_ g=>WL.join (ds:=[]) (N:=151) (σ:=Bool) (λs=>[(78,(.bool s)),(6,(.pointer x6)),(11,(.int .u8 r_4))]) (λs w=>zz Ret x6 r_4 s w) 11 ?_ (λhr6=>?_)))))
            ·intro x78 w a H g
             try dsimp only at H g
             unfold zz at H
             refine g.m rfl λ_ g=>WL.join (ds:=[]) (N:=151) (σ:=Bool) (λs=>[(95,(.bool s))]) (λs w=>zx Ret s w) 16 ?_ (λhr7=>?_)
             ·intro x95 w a H g
              try dsimp only at H g
              unfold zx at H
              exact g.s rfl λ_ g=>zE (tn (zV (tr (br (tr (tr (br (tr (zU g rfl rfl ⟨_,rfl,H⟩)))))))))
             ·rcases Bool.eq_false_or_eq_true (x78) with hbr7|hbr7
              ·have H:=H.1 hbr7
               have g:=g.b (b:=true) (t:=79) rfl (hbr7)
               exact g.d (λ_ g=>g.d (λ_ g=>g.d (λ_ g=>g.d (λ_ g=>g.offU (by rfl) (by rfl) (λ_ g=>g.offU (by rfl) (by rfl) (λ_ g=>g.d (λ_ g=>g.d (λ_ g=>g.offU (by rfl) (by rfl) (λ_ g=>g.offU (by rfl) (by rfl) (λ_ g=>g.offU (by rfl) (by rfl) (λ_ g=>g.offU (by rfl) (by rfl) (λ_ g=>g.offU (by rfl) (by rfl) (λ_ g=>g.offU (by rfl) (by rfl) (λ_ g=>g.d (λ_ g=>g.p (zh g rfl rfl) λ_ g=>hr7 true _ _ H (g.k))))))))))))))))
              ·have H:=H.2 hbr7
               have g:=g.b (b:=false) (t:=79) rfl (hbr7)
               refine g.z (g.o (zO g rfl) H λx80 w a H g=>g.z (g.o (zg g rfl) H λx81 w a H g=>g.z (g.p (ya g rfl rfl) λ_ g=>g.z (g.m rfl λ_ g=>WL.join (ds:=[]) (N:=151) (σ:=Bool) (λs=>[(86,(.bool s)),(11,(.int .u8 r_4)),(79,(.bool false))]) (λs w=>zw Ret r_4 s w) 3 ?_ (λhr8=>?_)))))
               ·intro x86 w a H g
                try dsimp only at H g
                unfold zw at H
                refine g.z (g.m rfl λ_ g=>WL.join (ds:=[]) (N:=151) (σ:=Bool) (λs=>[(94,(.bool s)),(79,(.bool false))]) (λs w=>zv Ret s w) 7 ?_ (λhr9=>?_))
                ·intro x94 w a H g
                 try dsimp only at H g
                 unfold zv at H
                 exact g.p (zj g rfl rfl) λ_ g=>hr7 x94 _ _ H (g.k)
                ·rcases Bool.eq_false_or_eq_true (x86) with hbr9|hbr9
                 ·have H:=H.1 hbr9
                  have g:=g.b (b:=true) (t:=87) rfl (hbr9)
                  refine g.z (g.m rfl λ_ g=>g.z (g.p (ya g rfl rfl) λ_ g=>g.z (g.m rfl λ_ g=>WL.join (ds:=[]) (N:=151) (σ:=Bool) (λs=>[(93,(.bool s)),(79,(.bool false)),(87,(.bool true))]) (λs w=>zs Ret s w) 3 ?_ (λhr10=>?_))))
                  ·intro x93 w a H g
                   try dsimp only at H g
                   unfold zs at H
                   exact g.z (g.p (zh g rfl rfl) λ_ g=>hr9 x93 _ _ H (g.k))
                  ·rcases Classical.em ((r_4=0)) with hbr10|hbr10
                   ·have H:=H.1 hbr10
                    have g:=g.b (b:=true) (t:=90) rfl (decide_eq_true hbr10)
                    exact g.d (λ_ g=>g.d (λ_ g=>g.z (g.p (zh g rfl rfl) λ_ g=>hr10 true _ _ H (g.k))))
                   ·have H:=H.2 hbr10
                    have g:=g.b (b:=false) (t:=90) rfl (decide_eq_false hbr10)
                    exact g.z (g.m rfl λ_ g=>g.z (g.p (ya g rfl rfl) λ_ g=>g.z (g.p (zj g rfl rfl) λ_ g=>hr10 (decide (r_4=4)) _ _ H (g.k))))
                 ·have H:=H.2 hbr9
                  have g:=g.b (b:=false) (t:=87) rfl (hbr9)
                  exact g.d (λ_ g=>g.d (λ_ g=>g.d (λ_ g=>g.offU (by rfl) (by rfl) (λ_ g=>g.offU (by rfl) (by rfl) (λ_ g=>g.d (λ_ g=>g.z (g.p (zj g rfl rfl) λ_ g=>hr9 false _ _ H (g.k))))))))
               ·rcases Classical.em ((x81=1)) with hbr8|hbr8
                ·have H:=H.1 hbr8
                 have g:=g.b (b:=true) (t:=83) rfl (decide_eq_true hbr8)
                 exact g.z (g.o (zO g rfl) H λx84 w a H g=>g.z (g.o (zg g rfl) H λx85 w a H g=>g.z (g.p (zh g rfl rfl) λ_ g=>hr8 x85 _ _ H (g.k))))
                ·have H:=H.2 hbr8
                 have g:=g.b (b:=false) (t:=83) rfl (decide_eq_false hbr8)
                 exact g.d (λ_ g=>g.d (λ_ g=>g.z (g.p (zj g rfl rfl) λ_ g=>hr8 false _ _ H (g.k))))
            ·rcases Classical.em ((x65=3)) with hbr6|hbr6
             ·have H:=H.1 hbr6
              have g:=g.b (b:=true) (t:=67) rfl (decide_eq_true hbr6)
              refine g.z (g.m rfl λ_ g=>g.z (g.p (ya g rfl rfl) λ_ g=>g.z (g.m rfl λ_ g=>WL.join (ds:=[]) (N:=151) (σ:=Bool) (λs=>[(77,(.bool s)),(6,(.pointer x6)),(11,(.int .u8 r_4)),(67,(.bool true))]) (λs w=>zr Ret x6 r_4 s w) 7 ?_ (λhr11=>?_))))
              ·intro x77 w a H g
               try dsimp only at H g
               unfold zr at H
               exact g.p (zh g rfl rfl) λ_ g=>hr6 x77 _ _ H (g.k)
              ·rcases Classical.em ((r_4=6)) with hbr11|hbr11
               ·have H:=H.1 hbr11
                have g:=g.b (b:=true) (t:=70) rfl (decide_eq_true hbr11)
                exact g.d (λ_ g=>g.d (λ_ g=>g.d (λ_ g=>g.offU (by rfl) (by rfl) (λ_ g=>g.offU (by rfl) (by rfl) (λ_ g=>g.d (λ_ g=>g.z (g.p (zh g rfl rfl) λ_ g=>hr11 true _ _ H (g.k))))))))
               ·have H:=H.2 hbr11
                have g:=g.b (b:=false) (t:=70) rfl (decide_eq_false hbr11)
                refine g.z (g.o (zO g rfl) H λx71 w a H g=>g.z (g.o (zg g rfl) H λx72 w a H g=>g.z (g.m rfl λ_ g=>WL.join (ds:=[]) (N:=151) (σ:=Bool) (λs=>[(76,(.bool s)),(6,(.pointer x6)),(11,(.int .u8 r_4)),(67,(.bool true)),(70,(.bool false))]) (λs w=>yC Ret x6 r_4 s w) 3 ?_ (λhr12=>?_))))
                ·intro x76 w a H g
                 try dsimp only at H g
                 unfold yC at H
                 exact g.z (g.p (zj g rfl rfl) λ_ g=>hr11 x76 _ _ H (g.k))
                ·rcases Bool.eq_false_or_eq_true (x72) with hbr12|hbr12
                 ·have H:=H.1 hbr12
                  have g:=g.b (b:=true) (t:=73) rfl (hbr12)
                  exact g.z (g.m rfl λ_ g=>g.z (g.p (ya g rfl rfl) λ_ g=>g.z (g.p (zh g rfl rfl) λ_ g=>hr12 (decide (r_4=2)) _ _ H (g.k))))
                 ·have H:=H.2 hbr12
                  have g:=g.b (b:=false) (t:=73) rfl (hbr12)
                  exact g.d (λ_ g=>g.d (λ_ g=>g.z (g.p (zj g rfl rfl) λ_ g=>hr12 false _ _ H (g.k))))
             ·have H:=H.2 hbr6
              have g:=g.b (b:=false) (t:=67) rfl (decide_eq_false hbr6)
              exact g.d (λ_ g=>g.d (λ_ g=>g.d (λ_ g=>g.offU (by rfl) (by rfl) (λ_ g=>g.offU (by rfl) (by rfl) (λ_ g=>g.offU (by rfl) (by rfl) (λ_ g=>g.offU (by rfl) (by rfl) (λ_ g=>g.offU (by rfl) (by rfl) (λ_ g=>g.offU (by rfl) (by rfl) (λ_ g=>g.d (λ_ g=>g.p (zj g rfl rfl) λ_ g=>hr6 false _ _ H (g.k)))))))))))
          ·rcases Bool.eq_false_or_eq_true (x57) with hbr5|hbr5
           ·have H:=H.1 hbr5
            have g:=g.b (b:=true) (t:=58) rfl (hbr5)
            exact g.z (g.m rfl λ_ g=>g.z (g.p (ya g rfl rfl) λ_ g=>g.p (zh g rfl rfl) λ_ g=>hr5 (decide (r_4=2)) _ _ H (g.k)))
           ·have H:=H.2 hbr5
            have g:=g.b (b:=false) (t:=58) rfl (hbr5)
            exact g.d (λ_ g=>g.d (λ_ g=>g.p (zj g rfl rfl) λ_ g=>hr5 false _ _ H (g.k)))
         ·rcases Classical.em ((x51=1)) with hbr4|hbr4
          ·have H:=H.1 hbr4
           have g:=g.b (b:=true) (t:=53) rfl (decide_eq_true hbr4)
           exact g.z (g.o (zO g rfl) H λx54 w a H g=>g.z (g.o (zg g rfl) H λx55 w a H g=>g.z (g.p (Q2 g rfl) λ_ g=>g.p (zh g rfl rfl) λ_ g=>hr4 (!x55) _ _ H (g.k))))
          ·have H:=H.2 hbr4
           have g:=g.b (b:=false) (t:=53) rfl (decide_eq_false hbr4)
           exact g.d (λ_ g=>g.d (λ_ g=>g.d (λ_ g=>g.p (zj g rfl rfl) λ_ g=>hr4 false _ _ H (g.k))))
       ·have H:=H.2 hc
        refine zW (tn (zD (zB (g.s rfl λ_ g=>zE (tn (xp (ds:=[]) (N:=151) (σ:=Int) (λs=>[(13,(.int .u8 s)),(0,(.int .i64 x0)),(1,(Sl.v x1)),(5,(Sl.v x5)),(6,(.pointer x6)),(7,(.int .i64 x7)),(8,(.int .u8 r_1))]) (λs w=>zm x0 Ret x6 x5 x7 Kl2 r_1 s w) ?_ (λhj13=>?_)))))))
        ·intro x13 w a H g
         try dsimp only at H g
         unfold zm at H
         refine zD (zB (g.m rfl λ_ g=>g.p (ya g rfl rfl) λ_ g=>g.s rfl λ_ g=>zE (tn (xp (ds:=[]) (N:=151) (σ:=Sl) (λs=>[(5,(Sl.v s)),(0,(.int .i64 x0)),(1,(Sl.v x1)),(6,(.pointer x6)),(7,(.int .i64 x7)),(14,(.bool (decide (x13=0))))]) (λs w=>zf Ret x6 x7 Kl2 x13 s w) ?_ (λhj14=>?_)))))
         ·intro x5_2 w a H g
          try dsimp only at H g
          unfold zf at H
          refine zD (zB (g.o (zg g rfl) H λx144 w a H g=>g.m rfl λ_ g=>g.c (zT g zBe rfl rfl) H λe w H=>?_))
          obtain ⟨r_6,r_7,rfl,H⟩:=H
          refine ⟨_,rfl,λ_ g=>(g.m rfl λ_ g=>g.p (zb g rfl rfl) λ_ g=>g.p (zb g rfl rfl) λ_ g=>g.h (yE g rfl rfl) H λw a H g=>g.s rfl λ_ g=>zE (tn (zD (zB (g.m rfl λ_ g=>g.p (Q3 g rfl rfl) λ_ g=>zE (tn (zc g rfl (λhc=>?_) (λhc=>?_))))))))⟩
          ·have H:=H.1 hc
           exact zD (zB (g.s rfl λ_ g=>zE (tn (zV (br (tr (tr (br (tr (zU g rfl rfl ⟨_,rfl,H⟩))))))))))
          ·have H:=H.2 hc
           exact zW (bn (tn (hj3 x5_2 _ _ H (g.k))))
         ·refine zD (zB (g.m rfl λ_ g=>g.c (zT g ent8 rfl rfl) H λe w H=>?_))
          obtain ⟨r_8,rfl,H⟩:=H
          refine ⟨_,rfl,λ_ g=>(g.s rfl λ_ g=>zE (tn (zD (zB (g.m rfl λ_ g=>g.p (Q3 g rfl rfl) λ_ g=>zE (tn (zc g rfl (λhc=>?_) (λhc=>?_))))))))⟩
          ·have H:=H.1 hc
           refine zD (zB (g.m rfl λ_ g=>g.m rfl λ_ g=>g.m rfl λ_ g=>g.m rfl λ_ g=>g.c (zT g ent9 rfl rfl) H λe w H=>?_))
           obtain ⟨r_9,r_10,rfl,H⟩:=H
           refine ⟨_,rfl,λ_ g=>(g.m rfl λ_ g=>g.p (zb g rfl rfl) λ_ g=>g.p (zb g rfl rfl) λ_ g=>g.s rfl λ_ g=>g.s rfl λ_ g=>zE (tn (zD (zD (zB (g.m rfl λ_ g=>g.m rfl λ_ g=>g.p (ya g rfl rfl) λ_ g=>g.o (QV g rfl rfl) H λx132 w a H g=>g.m rfl λ_ g=>WL.join (ds:=[]) (N:=151) (σ:=Bool) (λs=>[(140,(.bool s)),(0,(.int .i64 x0)),(1,(Sl.v x1)),(5,(Sl.v x5)),(6,(.pointer x6)),(7,(.int .i64 x7)),(14,(.bool (decide (x13=0)))),(16,(Sl.v r_9))]) (λs w=>zq Ret x6 x5 x7 Kl2 x13 r_9 s w) 7 ?_ (λhr15=>?_)))))))⟩
           ·intro x140 w a H g
            try dsimp only at H g
            unfold zq at H
            refine zE (tn (yH g rfl (λhc=>?_) (λhc=>?_)))
            ·have H:=H.1 hc
             exact zD (zB (g.s rfl λ_ g=>zE (tn (zV (tr (tr (br (tr (tr (br (tr (zU g rfl rfl ⟨_,rfl,H⟩))))))))))))
            ·have H:=H.2 hc
             refine zW (tn (zD (zB (g.m rfl λ_ g=>zE (tn (zc g rfl (λhc=>?_) (λhc=>?_)))))))
             ·have H:=H.1 hc
              exact zB (g.m rfl λ_ g=>g.s rfl λ_ g=>zE (tn (hj14 r_9 _ _ H (g.k))))
             ·have H:=H.2 hc
              exact zW (tn (hj14 x5 _ _ H (g.k)))
           ·rcases Bool.eq_false_or_eq_true (x132) with hbr15|hbr15
            ·have H:=H.1 hbr15
             have g:=g.b (b:=true) (t:=133) rfl (hbr15)
             refine g.z (g.m rfl λ_ g=>g.z (g.c (zT g zBF rfl rfl) H λe w H=>?_))
             obtain ⟨r_11,rfl,H⟩:=H
             refine ⟨_,rfl,λ_ g=>(g.z (g.m rfl λ_ g=>WL.join (ds:=[]) (N:=151) (σ:=Bool) (λs=>[(139,(.bool s)),(0,(.int .i64 x0)),(1,(Sl.v x1)),(5,(Sl.v x5)),(6,(.pointer x6)),(7,(.int .i64 x7)),(14,(.bool (decide (x13=0)))),(16,(Sl.v r_9)),(133,(.bool true))]) (λs w=>yA Ret x6 x5 x7 Kl2 x13 r_9 s w) 3 ?_ (λhr16=>?_)))⟩
             ·intro x139 w a H g
              try dsimp only at H g
              unfold yA at H
              exact g.p (zh g rfl rfl) λ_ g=>hr15 x139 _ _ H (g.k)
             ·rcases Bool.eq_false_or_eq_true (r_11) with hbr16|hbr16
              ·have H:=H.1 hbr16
               have g:=g.b (b:=true) (t:=136) rfl (hbr16)
               exact g.d (λ_ g=>g.d (λ_ g=>g.z (g.p (zh g rfl rfl) λ_ g=>hr16 true _ _ H (g.k))))
              ·have H:=H.2 hbr16
               have g:=g.b (b:=false) (t:=136) rfl (hbr16)
               exact g.z (g.m rfl λ_ g=>g.z (g.p (Q3 g rfl rfl) λ_ g=>g.z (g.p (zj g rfl rfl) λ_ g=>hr16 (decide (r_10≠0)) _ _ H (g.k))))
            ·have H:=H.2 hbr15
             have g:=g.b (b:=false) (t:=133) rfl (hbr15)
             exact g.d (λ_ g=>g.d (λ_ g=>g.d (λ_ g=>g.offU (by rfl) (by rfl) (λ_ g=>g.offU (by rfl) (by rfl) (λ_ g=>g.d (λ_ g=>g.p (zj g rfl rfl) λ_ g=>hr15 false _ _ H (g.k)))))))
          ·have H:=H.2 hc
           exact zW (tn (hj14 x5 _ _ H (g.k)))
        ·refine zD (zB (g.m rfl λ_ g=>g.m rfl λ_ g=>g.purR (λw=>QR g Tryd.underlying22 rfl) λ_ g=>g.p (xm g rfl rfl) λ_ g=>g.m rfl λ_ g=>WL.join (ds:=[]) (N:=151) (σ:=Bool) (λs=>[(103,(.bool s)),(0,(.int .i64 x0)),(1,(Sl.v x1)),(5,(Sl.v x5)),(6,(.pointer x6)),(7,(.int .i64 x7)),(8,(.int .u8 r_1)),(13,(.int .u8 0))]) (λs w=>zn x0 x1 Ret x6 x5 x7 Kl2 r_1 s w) 3 ?_ (λhr17=>?_)))
         ·intro x103 w a H g
          try dsimp only at H g
          unfold zn at H
          refine g.m rfl λ_ g=>WL.join (ds:=[]) (N:=151) (σ:=Bool) (λs=>[(110,(.bool s)),(0,(.int .i64 x0)),(1,(Sl.v x1)),(5,(Sl.v x5)),(6,(.pointer x6)),(7,(.int .i64 x7)),(8,(.int .u8 r_1)),(13,(.int .u8 0))]) (λs w=>zo x0 Ret x6 x5 x7 Kl2 r_1 s w) 6 ?_ (λhr18=>?_)
          ·intro x110 w a H g
           try dsimp only at H g
           unfold zo at H
           refine g.m rfl λ_ g=>WL.join (ds:=[]) (N:=151) (σ:=Bool) (λs=>[(114,(.bool s)),(0,(.int .i64 x0)),(1,(Sl.v x1)),(5,(Sl.v x5)),(6,(.pointer x6)),(7,(.int .i64 x7)),(8,(.int .u8 r_1)),(13,(.int .u8 0))]) (λs w=>zp x0 Ret x6 x5 x7 Kl2 r_1 s w) 3 ?_ (λhr19=>?_)
           ·intro x114 w a H g
            try dsimp only at H g
            unfold zp at H
            refine zE (tn (yH g rfl (λhc=>?_) (λhc=>?_)))
            ·have H:=H.1 hc
             exact zB (g.s rfl λ_ g=>zE (tn (hj13 1 _ _ H (g.k))))
            ·have H:=H.2 hc
             exact zW (tn (hj13 0 _ _ H (g.k)))
           ·rcases Bool.eq_false_or_eq_true (x110) with hbr19|hbr19
            ·have H:=H.1 hbr19
             have g:=g.b (b:=true) (t:=111) rfl (hbr19)
             refine g.z (g.m rfl λ_ g=>g.z (g.c (zT g ent7 rfl rfl) H λe w H=>?_))
             obtain ⟨r_12,rfl,H⟩:=H
             exact ⟨_,rfl,λ_ g=>(g.p (zh g rfl rfl) λ_ g=>hr19 r_12 _ _ H (g.k))⟩
            ·have H:=H.2 hbr19
             have g:=g.b (b:=false) (t:=111) rfl (hbr19)
             exact g.d (λ_ g=>g.d (λ_ g=>g.p (zj g rfl rfl) λ_ g=>hr19 false _ _ H (g.k)))
          ·rcases Bool.eq_false_or_eq_true (x103) with hbr18|hbr18
           ·have H:=H.1 hbr18
            have g:=g.b (b:=true) (t:=104) rfl (hbr18)
            exact g.z (g.m rfl λ_ g=>g.z (g.m rfl λ_ g=>g.z (g.o (zS g rfl rfl) H λx107 w a H g=>g.z (g.o (zg g rfl) H λx108 w a H g=>g.z (g.p (ya g rfl rfl) λ_ g=>g.p (zh g rfl rfl) λ_ g=>hr18 (decide (x108=1)) _ _ H (g.k))))))
           ·have H:=H.2 hbr18
            have g:=g.b (b:=false) (t:=104) rfl (hbr18)
            exact g.d (λ_ g=>g.d (λ_ g=>g.d (λ_ g=>g.d (λ_ g=>g.d (λ_ g=>g.p (zj g rfl rfl) λ_ g=>hr18 false _ _ H (g.k))))))
         ·rcases Classical.em ((x7<(x1.len:Int))) with hbr17|hbr17
          ·have H:=H.1 hbr17
           have g:=g.b (b:=true) (t:=100) rfl (decide_eq_true hbr17)
           exact g.z (g.m rfl λ_ g=>g.z (g.p (xm g rfl rfl) λ_ g=>g.p (zh g rfl rfl) λ_ g=>hr17 (decide (x7<20)) _ _ H (g.k)))
          ·have H:=H.2 hbr17
           have g:=g.b (b:=false) (t:=100) rfl (decide_eq_false hbr17)
           exact g.d (λ_ g=>g.d (λ_ g=>g.p (zj g rfl rfl) λ_ g=>hr17 false _ _ H (g.k)))
    ·have H:=H.2 hc
     exact YD (te (te (be (tn (zD (zB (g.s rfl λ_ g=>zE (tn (zV (zU g rfl rfl ⟨_,rfl,H⟩))))))))))
  ·rcases Classical.em ((x0<1)) with hbr1|hbr1
   ·have H:=H.1 hbr1
    have g:=g.b (b:=true) (t:=22) rfl (decide_eq_true hbr1)
    exact g.d (λ_ g=>g.d (λ_ g=>g.p (zh g rfl rfl) λ_ g=>hr1 true _ _ H (g.k)))
   ·have H:=H.2 hbr1
    have g:=g.b (b:=false) (t:=22) rfl (decide_eq_false hbr1)
    exact g.z (g.m rfl λ_ g=>g.z (g.p (YO g rfl rfl) λ_ g=>g.p (zj g rfl rfl) λ_ g=>hr1 (decide (1024<x0)) _ _ H (g.k)))
def yp (Ret:Int->Bool->Int->World->Prop) (x1:Option Addr) (r_1:Sl) (x47:Bool) (w:World):Prop:=
 (x47=true->(opE zA zC (zJ 27 (.pointer x1) 2) w (λx49 w=>opE zA (zH .i64) (zG 3 (.pointer x49)) w (λx50 w=>opE zA zC (zN 47 (Sl.v r_1) (.int .i64 x50)) w (λx51 w=>opE zA (zH .u8) (zG 28 (.pointer x51)) w (λx52 w=>Ret x52 true 0 w))))))/\(x47=false->(Ret 0 false 0 w))
def yr (Ret:Int->Bool->Int->World->Prop) (x1:Option Addr) (r_1:Sl) (x24:Bool) (w:World):Prop:=
 (x24=true->(opE zA zC (zJ 27 (.pointer x1) 2) w (λx27 w=>opE zA (zH .i64) (zG 3 (.pointer x27)) w (λx28 w=>opE zA zC (zN 47 (Sl.v r_1) (.int .i64 (zF .i64 (x28 - 1)))) w (λx30 w=>opE zA (zH .u8) (zG 28 (.pointer x30)) w (λx31 w=>Cl zA 15 [(.int .u8 x31)].toArray w (λe w=>∃ (r_2:Int) (r_3:Bool),e=.returned (.tuple [(.int .u8 r_2),(.bool r_3)].toArray)/\(Ret r_2 r_3 0 w))))))))/\(x24=false->(opE zA zC (zJ 27 (.pointer x1) 3) w (λx38 w=>opE zA yO (zG 4 (.pointer x38)) w (λx39 w=>((!x39)=true->(opE zA zC (zJ 27 (.pointer x1) 2) w (λx42 w=>opE zA (zH .i64) (zG 3 (.pointer x42)) w (λx43 w=>yp Ret x1 r_1 (decide (x43<(r_1.len:Int))) w))))/\((!x39)=false->(yp Ret x1 r_1 false w))))))
def Qr (x0:zI) (w:World) (Ret:Int->Bool->Int->World->Prop):Prop:=
 opE zA zC (Instr.box 27 (zI.v x0)) w (λx1 w=>opE zA zI.v (zG 27 (.pointer x1)) w (λx9 w=>Cl zA 13 [(zI.v x9)].toArray w (λe w=>∃ (r:Int),e=.returned (.int .i64 r)/\(((r≠0)->(Ret 0 false r w))/\(¬ (r≠0)->(opE zA zC (zJ 27 (.pointer x1) 1) w (λx14 w=>opE zA (zH .u8) (zG 25 (.pointer x14)) w (λx15 w=>Cl zA 14 [(.int .u8 x15)].toArray w (λe w=>∃ (r_1:Sl),e=.returned (Sl.v r_1)/\(opE zA zC (zJ 27 (.pointer x1) 3) w (λx18 w=>opE zA yO (zG 4 (.pointer x18)) w (λx19 w=>(x19=true->(opE zA zC (zJ 27 (.pointer x1) 2) w (λx21 w=>opE zA (zH .i64) (zG 3 (.pointer x21)) w (λx22 w=>yr Ret x1 r_1 (decide (0<x22)) w))))/\(x19=false->(yr Ret x1 r_1 false w))))))))))))))
set_option maxRecDepth 100000 in
theorem Ze (x0:zI) (w:World) (Ret:Int->Bool->Int->World->Prop) (H:Qr x0 w Ret):Cl zA 5 [(zI.v x0)].toArray w (λe w'=>∃ (r0:Int) (r1:Bool) (r2:Int),e=.returned (.tuple [(.int .u8 r0),(.bool r1),(.int .i64 r2)].toArray)/\Ret r0 r1 r2 w'):=by
 unfold Qr at H
 refine ze 53 (zipE 0 [(zI.v x0)]) Tryd.func5 rfl rfl (by rfl) rfl ?_
 intro a g
 have g:Sat [] 53 [(0,(zI.v x0))] a:=g
 refine zD (zB (g.o (zAI g rfl) H λx1 w a H g=>g.s rfl λ_ g=>g.s rfl λ_ g=>g.s rfl λ_ g=>zE (tn (zD (zD (zB (g.o (zg g rfl) H λx9 w a H g=>g.c (zT g zBo rfl rfl) H λe w H=>?_)))))))
 obtain ⟨r,rfl,H⟩:=H
 refine ⟨_,rfl,λ_ g=>(g.s rfl λ_ g=>zE (tn (zD (zB (g.m rfl λ_ g=>g.p (Q3 g rfl rfl) λ_ g=>zE (tn (zc g rfl (λhc=>?_) (λhc=>?_))))))))⟩
 ·have H:=H.1 hc
  exact zD (zB (g.m rfl λ_ g=>g.s rfl λ_ g=>g.s rfl λ_ g=>g.s rfl λ_ g=>zE (tn (zV (tr (Zk g rfl rfl rfl rfl ⟨_,_,_,rfl,H⟩))))))
 ·have H:=H.2 hc
  refine zW (tn (zD (zB (g.o (zO g rfl) H λx14 w a H g=>g.o (zg g rfl) H λx15 w a H g=>g.c (zT g zAy rfl rfl) H λe w H=>?_))))
  obtain ⟨r_1,rfl,H⟩:=H
  refine ⟨_,rfl,λ_ g=>(g.s rfl λ_ g=>zE (tn (zD (yh (zD (zB (g.o (zO g rfl) H λx18 w a H g=>g.o (zg g rfl) H λx19 w a H g=>g.m rfl λ_ g=>WL.join (ds:=[]) (N:=53) (σ:=Bool) (λs=>[(24,(.bool s)),(1,(.pointer x1)),(6,(Sl.v r_1))]) (λs w=>yr Ret x1 r_1 s w) 4 ?_ (λhr1=>?_))))))))⟩
  ·intro x24 w a H g
   try dsimp only at H g
   unfold yr at H
   refine g.s rfl λ_ g=>zE (tn (yH g rfl (λhc=>?_) (λhc=>?_)))
   ·have H:=H.1 hc
    refine zD (zB (g.m rfl λ_ g=>g.o (zO g rfl) H λx27 w a H g=>g.o (zg g rfl) H λx28 w a H g=>g.p (xl g rfl rfl) λ_ g=>g.o (zS g rfl rfl) H λx30 w a H g=>g.o (zg g rfl) H λx31 w a H g=>g.c (zT g zBc rfl rfl) H λe w H=>?_))
    obtain ⟨r_2,r_3,rfl,H⟩:=H
    exact ⟨_,rfl,λ_ g=>(g.m rfl λ_ g=>g.p (zb g rfl rfl) λ_ g=>g.p (zb g rfl rfl) λ_ g=>g.s rfl λ_ g=>g.s rfl λ_ g=>zE (tn (zD (zB (g.m rfl λ_ g=>g.m rfl λ_ g=>g.s rfl λ_ g=>g.s rfl λ_ g=>g.s rfl λ_ g=>zE (tn (zV (br (tr (Zk g rfl rfl rfl rfl ⟨_,_,_,rfl,H⟩))))))))))⟩
   ·have H:=H.2 hc
    refine zD (zB (g.o (zO g rfl) H λx38 w a H g=>g.o (zg g rfl) H λx39 w a H g=>g.p (Q2 g rfl) λ_ g=>g.m rfl λ_ g=>WL.join (ds:=[]) (N:=53) (σ:=Bool) (λs=>[(47,(.bool s)),(1,(.pointer x1)),(6,(Sl.v r_1))]) (λs w=>yp Ret x1 r_1 s w) 6 ?_ (λhr2=>?_)))
    ·intro x47 w a H g
     try dsimp only at H g
     unfold yp at H
     refine g.s rfl λ_ g=>zE (tn (yH g rfl (λhc=>?_) (λhc=>?_)))
     ·have H:=H.1 hc
      exact zD (zB (g.m rfl λ_ g=>g.o (zO g rfl) H λx49 w a H g=>g.o (zg g rfl) H λx50 w a H g=>g.o (zS g rfl rfl) H λx51 w a H g=>g.o (zg g rfl) H λx52 w a H g=>g.s rfl λ_ g=>g.s rfl λ_ g=>g.s rfl λ_ g=>zE (tn (zV (br (tr (Zk g rfl rfl rfl rfl ⟨_,_,_,rfl,H⟩)))))))
     ·have H:=H.2 hc
      exact zW (bn (tn (zD (zB (g.s rfl λ_ g=>g.s rfl λ_ g=>g.s rfl λ_ g=>zE (tn (zV (Zk g rfl rfl rfl rfl ⟨_,_,_,rfl,H⟩))))))))
    ·rcases Bool.eq_false_or_eq_true ((!x39)) with hbr2|hbr2
     ·have H:=H.1 hbr2
      have g:=g.b (b:=true) (t:=41) rfl (hbr2)
      exact g.z (g.o (zO g rfl) H λx42 w a H g=>g.z (g.o (zg g rfl) H λx43 w a H g=>g.z (g.m rfl λ_ g=>g.z (g.purR (λw=>QR g Tryd.underlying47 rfl) λ_ g=>g.z (g.p (xm g rfl rfl) λ_ g=>g.p (zh g rfl rfl) λ_ g=>hr2 (decide (x43<(r_1.len:Int))) _ _ H (g.k))))))
     ·have H:=H.2 hbr2
      have g:=g.b (b:=false) (t:=41) rfl (hbr2)
      exact g.d (λ_ g=>g.d (λ_ g=>g.d (λ_ g=>g.d (λ_ g=>g.d (λ_ g=>g.p (zj g rfl rfl) λ_ g=>hr2 false _ _ H (g.k))))))
  ·rcases Bool.eq_false_or_eq_true (x19) with hbr1|hbr1
   ·have H:=H.1 hbr1
    have g:=g.b (b:=true) (t:=20) rfl (hbr1)
    exact g.z (g.o (zO g rfl) H λx21 w a H g=>g.z (g.o (zg g rfl) H λx22 w a H g=>g.z (g.p (YO g rfl rfl) λ_ g=>g.p (zh g rfl rfl) λ_ g=>hr1 (decide (0<x22)) _ _ H (g.k))))
   ·have H:=H.2 hbr1
    have g:=g.b (b:=false) (t:=20) rfl (hbr1)
    exact g.d (λ_ g=>g.d (λ_ g=>g.d (λ_ g=>g.p (zj g rfl rfl) λ_ g=>hr1 false _ _ H (g.k))))
def xo (x0:Sl) (x1:Int) (Ret:Int->Int->World->Prop) (x18:Bool) (w:World):Prop:=
 (x18=true->(Ret 0 2 w))/\(x18=false->(Cl zA 17 [(Sl.v x0),(.int .i64 x1)].toArray w (λe w=>∃ (r_1:Int) (r_2:Bool),e=.returned (.tuple [(.int .i64 r_1),(.bool r_2)].toArray)/\((r_2=true->(opE zA zC (zN 24 (Sl.v x0) (.int .i64 r_1)) w (λx28 w=>opE zA zC (zJ 55 (.pointer x28) 1) w (λx29 w=>opE zA (zH .u8) (zG 32 (.pointer x29)) w (λx30 w=>Ret x30 0 w)))))/\(r_2=false->(Ret 0 0 w))))))
def xr (x0:Sl) (x1:Int) (Ret:Int->Int->World->Prop) (x14:Bool) (w:World):Prop:=
 (x14=true->(xo x0 x1 Ret true w))/\(x14=false->(xo x0 x1 Ret (decide (1024<x1)) w))
def Ye (x0:Sl) (x1:Int) (w:World) (Ret:Int->Int->World->Prop):Prop:=
 Cl zA 16 [(Sl.v x0)].toArray w (λe w=>∃ (r:Int),e=.returned (.int .i64 r)/\(((r≠0)->(xr x0 x1 Ret true w))/\(¬ (r≠0)->(xr x0 x1 Ret (decide (x1<1)) w))))
set_option maxRecDepth 100000 in
theorem Z0 (x0:Sl) (x1:Int) (w:World) (Ret:Int->Int->World->Prop) (H:Ye x0 x1 w Ret):Cl zA 6 [(Sl.v x0),(.int .i64 x1)].toArray w (λe w'=>∃ (r0:Int) (r1:Int),e=.returned (.tuple [(.int .u8 r0),(.int .i64 r1)].toArray)/\Ret r0 r1 w'):=by
 unfold Ye at H
 refine ze 31 (zipE 0 [(Sl.v x0),(.int .i64 x1)]) Tryd.func6 rfl rfl (by rfl) rfl ?_
 intro a g
 have g:Sat [] 31 [(0,(Sl.v x0)),(1,(.int .i64 x1))] a:=g
 refine zD (zB (g.s rfl λ_ g=>g.s rfl λ_ g=>zE (tn (zD (zD (zB (g.m rfl λ_ g=>g.c (zT g zBv rfl rfl) H λe w H=>?_)))))))
 obtain ⟨r,rfl,H⟩:=H
 refine ⟨_,rfl,λ_ g=>(g.p (Q3 g rfl rfl) λ_ g=>g.m rfl λ_ g=>WL.join (ds:=[]) (N:=31) (σ:=Bool) (λs=>[(14,(.bool s)),(0,(Sl.v x0)),(1,(.int .i64 x1))]) (λs w=>xr x0 x1 Ret s w) 3 ?_ (λhr1=>?_))⟩
 ·intro x14 w a H g
  try dsimp only at H g
  unfold xr at H
  refine g.m rfl λ_ g=>WL.join (ds:=[]) (N:=31) (σ:=Bool) (λs=>[(18,(.bool s)),(0,(Sl.v x0)),(1,(.int .i64 x1))]) (λs w=>xo x0 x1 Ret s w) 3 ?_ (λhr2=>?_)
  ·intro x18 w a H g
   try dsimp only at H g
   unfold xo at H
   refine zE (tn (yH g rfl (λhc=>?_) (λhc=>?_)))
   ·have H:=H.1 hc
    exact zD (zB (g.s rfl λ_ g=>g.s rfl λ_ g=>zE (tn (zV (tr (QN g rfl rfl rfl ⟨_,_,rfl,H⟩))))))
   ·have H:=H.2 hc
    refine zW (tn (zD (zD (zB (g.m rfl λ_ g=>g.m rfl λ_ g=>g.c (zT g zA9 rfl rfl) H λe w H=>?_)))))
    obtain ⟨r_1,r_2,rfl,H⟩:=H
    refine ⟨_,rfl,λ_ g=>(g.m rfl λ_ g=>g.p (zb g rfl rfl) λ_ g=>g.p (zb g rfl rfl) λ_ g=>g.s rfl λ_ g=>g.s rfl λ_ g=>zE (tn (zD (zB (g.m rfl λ_ g=>zE (tn (yH g rfl (λhc=>?_) (λhc=>?_))))))))⟩
    ·have H:=H.1 hc
     exact zD (zB (g.m rfl λ_ g=>g.m rfl λ_ g=>g.o (zS g rfl rfl) H λx28 w a H g=>g.o (zO g rfl) H λx29 w a H g=>g.o (zg g rfl) H λx30 w a H g=>g.s rfl λ_ g=>g.s rfl λ_ g=>zE (tn (zV (tr (QN g rfl rfl rfl ⟨_,_,rfl,H⟩))))))
    ·have H:=H.2 hc
     exact zW (tn (zD (zB (g.s rfl λ_ g=>g.s rfl λ_ g=>zE (tn (zV (QN g rfl rfl rfl ⟨_,_,rfl,H⟩)))))))
  ·rcases Bool.eq_false_or_eq_true (x14) with hbr2|hbr2
   ·have H:=H.1 hbr2
    have g:=g.b (b:=true) (t:=15) rfl (hbr2)
    exact g.d (λ_ g=>g.d (λ_ g=>g.p (zh g rfl rfl) λ_ g=>hr2 true _ _ H (g.k)))
   ·have H:=H.2 hbr2
    have g:=g.b (b:=false) (t:=15) rfl (hbr2)
    exact g.z (g.m rfl λ_ g=>g.z (g.p (YO g rfl rfl) λ_ g=>g.p (zj g rfl rfl) λ_ g=>hr2 (decide (1024<x1)) _ _ H (g.k)))
 ·rcases Classical.em ((r≠0)) with hbr1|hbr1
  ·have H:=H.1 hbr1
   have g:=g.b (b:=true) (t:=11) rfl (decide_eq_true hbr1)
   exact g.d (λ_ g=>g.d (λ_ g=>g.p (zh g rfl rfl) λ_ g=>hr1 true _ _ H (g.k)))
  ·have H:=H.2 hbr1
   have g:=g.b (b:=false) (t:=11) rfl (decide_eq_false hbr1)
   exact g.z (g.m rfl λ_ g=>g.z (g.p (xm g rfl rfl) λ_ g=>g.p (zj g rfl rfl) λ_ g=>hr1 (decide (x1<1)) _ _ H (g.k)))
def yc (Ret:Bool->World->Prop) (x16:Bool) (w:World):Prop:=
 Ret x16 w
def yu (x0:Int) (Ret:Bool->World->Prop) (x4:Sl) (x10:Bool) (w:World):Prop:=
 (x10=true->(Cl zA 18 [(Sl.v x4),(.int .u8 x0)].toArray w (λe w=>∃ (r:Bool),e=.returned (.bool r)/\(yc Ret (!r) w))))/\(x10=false->(yc Ret false w))
def Qv (x0:Int) (w:World) (Ret:Bool->World->Prop):Prop:=
 opE zA Sl.v (zd 47 3 [(0,(.int .u8 1)),(1,(.int .u8 6)),(2,(.int .u8 11))].toArray) w (λx4 w=>((0<x0)->(yu x0 Ret x4 (decide (x0<12)) w))/\(¬ (0<x0)->(yu x0 Ret x4 false w)))
set_option maxRecDepth 100000 in
theorem Zf (x0:Int) (w:World) (Ret:Bool->World->Prop) (H:Qv x0 w Ret):Cl zA 7 [(.int .u8 x0)].toArray w (λe w'=>∃ (r0:Bool),e=.returned (.bool r0)/\Ret r0 w'):=by
 unfold Qv at H
 refine ze 17 (zipE 0 [(.int .u8 x0)]) Tryd.func7 rfl rfl (by rfl) rfl ?_
 intro a g
 have g:Sat [] 17 [(0,(.int .u8 x0))] a:=g
 refine zD (zB (g.s rfl λ_ g=>zE (tn (zD (zB (g.o (y5 g rfl) H λx4 w a H g=>g.s rfl λ_ g=>zE (tn (zD (zB (g.m rfl λ_ g=>g.p (YO g rfl rfl) λ_ g=>g.m rfl λ_ g=>WL.join (ds:=[]) (N:=17) (σ:=Bool) (λs=>[(10,(.bool s)),(0,(.int .u8 x0)),(3,(Sl.v x4))]) (λs w=>yu x0 Ret x4 s w) 3 ?_ (λhr1=>?_)))))))))))
 ·intro x10 w a H g
  try dsimp only at H g
  unfold yu at H
  refine g.m rfl λ_ g=>WL.join (ds:=[]) (N:=17) (σ:=Bool) (λs=>[(16,(.bool s))]) (λs w=>yc Ret s w) 5 ?_ (λhr2=>?_)
  ·intro x16 w a H g
   try dsimp only at H g
   unfold yc at H
   exact g.s rfl λ_ g=>zE (tn (zV (zU g rfl rfl ⟨_,rfl,H⟩)))
  ·rcases Bool.eq_false_or_eq_true (x10) with hbr2|hbr2
   ·have H:=H.1 hbr2
    have g:=g.b (b:=true) (t:=11) rfl (hbr2)
    refine g.z (g.m rfl λ_ g=>g.z (g.m rfl λ_ g=>g.z (g.c (zT g zBE rfl rfl) H λe w H=>?_)))
    obtain ⟨r,rfl,H⟩:=H
    exact ⟨_,rfl,λ_ g=>(g.z (g.p (Q2 g rfl) λ_ g=>g.p (zh g rfl rfl) λ_ g=>hr2 (!r) _ _ H (g.k)))⟩
   ·have H:=H.2 hbr2
    have g:=g.b (b:=false) (t:=11) rfl (hbr2)
    exact g.d (λ_ g=>g.d (λ_ g=>g.d (λ_ g=>g.d (λ_ g=>g.p (zj g rfl rfl) λ_ g=>hr2 false _ _ H (g.k)))))
 ·rcases Classical.em ((0<x0)) with hbr1|hbr1
  ·have H:=H.1 hbr1
   have g:=g.b (b:=true) (t:=7) rfl (decide_eq_true hbr1)
   exact g.z (g.m rfl λ_ g=>g.z (g.p (xm g rfl rfl) λ_ g=>g.p (zh g rfl rfl) λ_ g=>hr1 (decide (x0<12)) _ _ H (g.k)))
  ·have H:=H.2 hbr1
   have g:=g.b (b:=false) (t:=7) rfl (decide_eq_false hbr1)
   exact g.d (λ_ g=>g.d (λ_ g=>g.p (zj g rfl rfl) λ_ g=>hr1 false _ _ H (g.k)))
def xw (x0:Int) (w:World) (Ret:Int->World->Prop):Prop:=
 ((x0=3)->(Ret 1 w))/\(¬ (x0=3)->(((x0=8)->(Ret 4 w))/\(¬ (x0=8)->(((x0=5)->(Ret 2 w))/\(¬ (x0=5)->(((x0=10)->(Ret 5 w))/\(¬ (x0=10)->(((x0=11)->(Ret 6 w))/\(¬ (x0=11)->(Ret 0 w))))))))))
set_option maxRecDepth 100000 in
theorem YN (x0:Int) (w:World) (Ret:Int->World->Prop) (H:xw x0 w Ret):Cl zA 8 [(.int .u8 x0)].toArray w (λe w'=>∃ (r0:Int),e=.returned (.int .u8 r0)/\Ret r0 w'):=by
 unfold xw at H
 refine ze 14 (zipE 0 [(.int .u8 x0)]) Tryd.func8 rfl rfl (by rfl) rfl ?_
 intro a g
 have g:Sat [] 14 [(0,(.int .u8 x0))] a:=g
 refine zD (zB (g.s rfl λ_ g=>zE (tn (zD (zD (zB (g.m rfl λ_ g=>zE (tn (yh (zD (zB (g.p (ya g rfl rfl) λ_ g=>g.s rfl λ_ g=>zE (tn (zc g rfl (λhc=>?_) (λhc=>?_)))))))))))))))
 ·have H:=H.1 hc
  exact zD (zB (g.s rfl λ_ g=>zE (tn (zV (br (tr (zU g rfl rfl ⟨_,rfl,H⟩)))))))
 ·have H:=H.2 hc
  refine zD (zB (g.p (ya g rfl rfl) λ_ g=>g.s rfl λ_ g=>zE (tn (zc g rfl (λhc=>?_) (λhc=>?_)))))
  ·have H:=H.1 hc
   exact zD (zB (g.s rfl λ_ g=>zE (tn (zV (br (tr (zU g rfl rfl ⟨_,rfl,H⟩)))))))
  ·have H:=H.2 hc
   refine zD (zB (g.p (ya g rfl rfl) λ_ g=>g.s rfl λ_ g=>zE (tn (zc g rfl (λhc=>?_) (λhc=>?_)))))
   ·have H:=H.1 hc
    exact zD (zB (g.s rfl λ_ g=>zE (tn (zV (br (tr (zU g rfl rfl ⟨_,rfl,H⟩)))))))
   ·have H:=H.2 hc
    refine zD (zB (g.p (ya g rfl rfl) λ_ g=>g.s rfl λ_ g=>zE (tn (zc g rfl (λhc=>?_) (λhc=>?_)))))
    ·have H:=H.1 hc
     exact zD (zB (g.s rfl λ_ g=>zE (tn (zV (br (tr (zU g rfl rfl ⟨_,rfl,H⟩)))))))
    ·have H:=H.2 hc
     refine zD (zB (g.p (ya g rfl rfl) λ_ g=>g.s rfl λ_ g=>zE (tn (zc g rfl (λhc=>?_) (λhc=>?_)))))
     ·have H:=H.1 hc
      exact zD (zB (g.s rfl λ_ g=>zE (tn (zV (br (tr (zU g rfl rfl ⟨_,rfl,H⟩)))))))
     ·have H:=H.2 hc
      exact zW (bn (tn (zD (zB (g.s rfl λ_ g=>zE (tn (zV (zU g rfl rfl ⟨_,rfl,H⟩))))))))
def yj (x1:Int) (Ret:Sl->Int->World->Prop) (x10:Int) (r_3:Int) (x12:Sl) (w:World):Prop:=
 opE zA zL.v (yI 55 [(0,(.int .i64 x1)),(1,(.int .u8 x10))].toArray) w (λx67 w=>opE zA zC (zN 24 (Sl.v x12) (.int .i64 r_3)) w (λx68 w=>opU zA (zK 55 (.pointer x68) (zL.v x67)) w (λw=>Ret x12 0 w)))
def yw (x0:Sl) (x1:Int) (Ret:Sl->Int->World->Prop) (x10:Int) (x11_2:Int) (w:World):Prop:=
 ((x11_2≠0)->(Ret Sl.none x11_2 w))/\(¬ (x11_2≠0)->(Cl zA 20 [(Sl.v x0)].toArray w (λe w=>∃ (r_2:Sl),e=.returned (Sl.v r_2)/\(Cl zA 17 [(Sl.v r_2),(.int .i64 x1)].toArray w (λe w=>∃ (r_3:Int) (r_4:Bool),e=.returned (.tuple [(.int .i64 r_3),(.bool r_4)].toArray)/\(((!r_4)=true->(opE zA zL.v (yI 55 [].toArray) w (λx60 w=>opE zA Sl.v (zd 24 1 [(0,(zL.v x60))].toArray) w (λx61 w=>Cl zA 21 [(Sl.v r_2),(.int .i64 r_3),(Sl.v x61)].toArray w (λe w=>∃ (r_5:Sl),e=.returned (Sl.v r_5)/\(yj x1 Ret x10 r_3 r_5 w))))))/\((!r_4)=false->(yj x1 Ret x10 r_3 r_2 w))))))))
def yb (x0:Sl) (x1:Int) (Ret:Sl->Int->World->Prop) (x10:Int) (x11_1:Int) (x44:Bool) (w:World):Prop:=
 (x44=true->(yw x0 x1 Ret x10 10 w))/\(x44=false->(yw x0 x1 Ret x10 x11_1 w))
def yl (x0:Sl) (x1:Int) (x3:Int) (Ret:Sl->Int->World->Prop) (x10:Int) (x11_1:Int) (x40:Bool) (w:World):Prop:=
 (x40=true->(yb x0 x1 Ret x10 x11_1 (decide (x3=1)) w))/\(x40=false->(yb x0 x1 Ret x10 x11_1 false w))
def xS (x0:Sl) (x1:Int) (x2:Int) (x3:Int) (Ret:Sl->Int->World->Prop) (x10:Int) (x11_1:Int) (w:World):Prop:=
 ((x11_1=0)->(Cl zA 10 [(.int .u8 x2)].toArray w (λe w=>∃ (r_6:Bool),e=.returned (.bool r_6)/\(yl x0 x1 x3 Ret x10 x11_1 r_6 w))))/\(¬ (x11_1=0)->(yl x0 x1 x3 Ret x10 x11_1 false w))
def xT (x0:Sl) (x1:Int) (x2:Int) (x3:Int) (Ret:Sl->Int->World->Prop) (r:Int) (x11:Int) (w:World):Prop:=
 ((x11=0)->(Cl zA 19 [(.int .u8 r),(.int .u8 x2)].toArray w (λe w=>∃ (r_7:Int) (r_8:Int),e=.returned (.tuple [(.int .u8 r_7),(.int .i64 r_8)].toArray)/\(xS x0 x1 x2 x3 Ret r_7 r_8 w))))/\(¬ (x11=0)->(xS x0 x1 x2 x3 Ret r x11 w))
def xQ (x0:Sl) (x1:Int) (x2:Int) (x3:Int) (Ret:Sl->Int->World->Prop) (r:Int) (r_1:Int) (x26:Bool) (w:World):Prop:=
 (x26=true->(xT x0 x1 x2 x3 Ret r 15 w))/\(x26=false->(xT x0 x1 x2 x3 Ret r r_1 w))
def Qs (x0:Sl) (x1:Int) (x2:Int) (x3:Int) (w:World) (Ret:Sl->Int->World->Prop):Prop:=
 Cl zA 6 [(Sl.v x0),(.int .i64 x1)].toArray w (λe w=>∃ (r:Int) (r_1:Int),e=.returned (.tuple [(.int .u8 r),(.int .i64 r_1)].toArray)/\(((r_1=0)->(xQ x0 x1 x2 x3 Ret r r_1 (decide (2<=x3)) w))/\(¬ (r_1=0)->(xQ x0 x1 x2 x3 Ret r r_1 false w))))
set_option maxRecDepth 100000 in
theorem ZY (x0:Sl) (x1:Int) (x2:Int) (x3:Int) (w:World) (Ret:Sl->Int->World->Prop) (H:Qs x0 x1 x2 x3 w Ret):Cl zA 9 [(Sl.v x0),(.int .i64 x1),(.int .u8 x2),(.int .u8 x3)].toArray w (λe w'=>∃ (r0:Sl) (r1:Int),e=.returned (.tuple [(Sl.v r0),(.int .i64 r1)].toArray)/\Ret r0 r1 w'):=by
 unfold Qs at H
 refine ze 70 (zipE 0 [(Sl.v x0),(.int .i64 x1),(.int .u8 x2),(.int .u8 x3)]) Tryd.func9 rfl rfl (by rfl) rfl ?_
 intro a g
 have g:Sat [] 70 [(0,(Sl.v x0)),(1,(.int .i64 x1)),(2,(.int .u8 x2)),(3,(.int .u8 x3))] a:=g
 refine zD (zB (g.s rfl λ_ g=>g.s rfl λ_ g=>zE (tn (zD (zB (g.m rfl λ_ g=>g.m rfl λ_ g=>g.c (zT g ent6 rfl rfl) H λe w H=>?_))))))
 obtain ⟨r,r_1,rfl,H⟩:=H
 refine ⟨_,rfl,λ_ g=>(g.m rfl λ_ g=>g.p (zb g rfl rfl) λ_ g=>g.p (zb g rfl rfl) λ_ g=>g.s rfl λ_ g=>g.s rfl λ_ g=>zE (tn (xp (ds:=[]) (N:=70) (σ:=Int) (λs=>[(11,(.int .i64 s)),(0,(Sl.v x0)),(1,(.int .i64 x1)),(2,(.int .u8 x2)),(3,(.int .u8 x3)),(10,(.int .u8 r))]) (λs w=>xT x0 x1 x2 x3 Ret r s w) ?_ (λhj1=>?_))))⟩
 ·intro x11 w a H g
  try dsimp only at H g
  unfold xT at H
  refine xp (ds:=[]) (N:=70) (σ:=Int × Int) (λs=>[(10,(.int .u8 s.1)),(11,(.int .i64 s.2)),(0,(Sl.v x0)),(1,(.int .i64 x1)),(2,(.int .u8 x2)),(3,(.int .u8 x3))]) (λs w=>xS x0 x1 x2 x3 Ret s.1 s.2 w) ?_ (λhj2=>?_)
  ·rintro ⟨x10,x11_1⟩ w a H g
   try dsimp only at H g
   unfold xS at H
   refine xp (ds:=[]) (N:=70) (σ:=Int) (λs=>[(11,(.int .i64 s)),(0,(Sl.v x0)),(1,(.int .i64 x1)),(10,(.int .u8 x10))]) (λs w=>yw x0 x1 Ret x10 s w) ?_ (λhj3=>?_)
   ·intro x11_2 w a H g
    try dsimp only at H g
    unfold yw at H
    refine zD (zD (zB (g.m rfl λ_ g=>g.p (Q3 g rfl rfl) λ_ g=>zE (tn (zc g rfl (λhc=>?_) (λhc=>?_))))))
    ·have H:=H.1 hc
     exact zD (zB (g.m rfl λ_ g=>g.s rfl λ_ g=>g.s rfl λ_ g=>zE (tn (zV (tr (QN g rfl rfl rfl ⟨_,_,rfl,H⟩))))))
    ·have H:=H.2 hc
     refine zW (tn (zD (zB (g.m rfl λ_ g=>g.c (zT g zBb rfl rfl) H λe w H=>?_))))
     obtain ⟨r_2,rfl,H⟩:=H
     refine ⟨_,rfl,λ_ g=>(g.s rfl λ_ g=>zE (tn (zD (zB (g.m rfl λ_ g=>g.m rfl λ_ g=>g.c (zT g zA9 rfl rfl) H λe w H=>?_)))))⟩
     obtain ⟨r_3,r_4,rfl,H⟩:=H
     refine ⟨_,rfl,λ_ g=>(g.m rfl λ_ g=>g.p (zb g rfl rfl) λ_ g=>g.p (zb g rfl rfl) λ_ g=>g.s rfl λ_ g=>g.s rfl λ_ g=>zE (tn (xp (ds:=[]) (N:=70) (σ:=Sl) (λs=>[(12,(Sl.v s)),(1,(.int .i64 x1)),(10,(.int .u8 x10)),(13,(.int .i64 r_3))]) (λs w=>yj x1 Ret x10 r_3 s w) ?_ (λhj4=>?_))))⟩
     ·intro x12 w a H g
      try dsimp only at H g
      unfold yj at H
      exact zD (zB (g.m rfl λ_ g=>g.m rfl λ_ g=>g.m rfl λ_ g=>g.m rfl λ_ g=>g.o (xX g rfl) H λx67 w a H g=>g.o (zS g rfl rfl) H λx68 w a H g=>g.h (yE g rfl rfl) H λw a H g=>zE (tn (zD (zB (g.m rfl λ_ g=>g.s rfl λ_ g=>g.s rfl λ_ g=>zE (tn (zV (QN g rfl rfl rfl ⟨_,_,rfl,H⟩)))))))))
     ·refine zD (zB (g.m rfl λ_ g=>g.p (Q2 g rfl) λ_ g=>zE (tn (yH g rfl (λhc=>?_) (λhc=>?_)))))
      ·have H:=H.1 hc
       refine zB (g.m rfl λ_ g=>g.m rfl λ_ g=>g.o (xX g rfl) H λx60 w a H g=>g.o (y5 g rfl) H λx61 w a H g=>g.c (zT g zBu rfl rfl) H λe w H=>?_)
       obtain ⟨r_5,rfl,H⟩:=H
       exact ⟨_,rfl,λ_ g=>(g.s rfl λ_ g=>zE (tn (hj4 r_5 _ _ H (g.k))))⟩
      ·have H:=H.2 hc
       exact zW (tn (hj4 r_2 _ _ H (g.k)))
   ·refine zD (zB (g.m rfl λ_ g=>g.p (ya g rfl rfl) λ_ g=>g.m rfl λ_ g=>WL.join (ds:=[]) (N:=70) (σ:=Bool) (λs=>[(40,(.bool s)),(0,(Sl.v x0)),(1,(.int .i64 x1)),(3,(.int .u8 x3)),(10,(.int .u8 x10)),(11,(.int .i64 x11_1))]) (λs w=>yl x0 x1 x3 Ret x10 x11_1 s w) 3 ?_ (λhr5=>?_)))
    ·intro x40 w a H g
     try dsimp only at H g
     unfold yl at H
     refine g.m rfl λ_ g=>WL.join (ds:=[]) (N:=70) (σ:=Bool) (λs=>[(44,(.bool s)),(0,(Sl.v x0)),(1,(.int .i64 x1)),(10,(.int .u8 x10)),(11,(.int .i64 x11_1))]) (λs w=>yb x0 x1 Ret x10 x11_1 s w) 3 ?_ (λhr6=>?_)
     ·intro x44 w a H g
      try dsimp only at H g
      unfold yb at H
      refine zE (tn (yH g rfl (λhc=>?_) (λhc=>?_)))
      ·have H:=H.1 hc
       exact zB (g.s rfl λ_ g=>zE (tn (hj3 10 _ _ H (g.k))))
      ·have H:=H.2 hc
       exact zW (tn (hj3 x11_1 _ _ H (g.k)))
     ·rcases Bool.eq_false_or_eq_true (x40) with hbr6|hbr6
      ·have H:=H.1 hbr6
       have g:=g.b (b:=true) (t:=41) rfl (hbr6)
       exact g.z (g.m rfl λ_ g=>g.z (g.p (ya g rfl rfl) λ_ g=>g.p (zh g rfl rfl) λ_ g=>hr6 (decide (x3=1)) _ _ H (g.k)))
      ·have H:=H.2 hbr6
       have g:=g.b (b:=false) (t:=41) rfl (hbr6)
       exact g.d (λ_ g=>g.d (λ_ g=>g.p (zj g rfl rfl) λ_ g=>hr6 false _ _ H (g.k)))
    ·rcases Classical.em ((x11_1=0)) with hbr5|hbr5
     ·have H:=H.1 hbr5
      have g:=g.b (b:=true) (t:=37) rfl (decide_eq_true hbr5)
      refine g.z (g.m rfl λ_ g=>g.z (g.c (zT g zBF rfl rfl) H λe w H=>?_))
      obtain ⟨r_6,rfl,H⟩:=H
      exact ⟨_,rfl,λ_ g=>(g.p (zh g rfl rfl) λ_ g=>hr5 r_6 _ _ H (g.k))⟩
     ·have H:=H.2 hbr5
      have g:=g.b (b:=false) (t:=37) rfl (decide_eq_false hbr5)
      exact g.d (λ_ g=>g.d (λ_ g=>g.p (zj g rfl rfl) λ_ g=>hr5 false _ _ H (g.k)))
  ·refine zD (zB (g.m rfl λ_ g=>g.p (ya g rfl rfl) λ_ g=>zE (tn (zc g rfl (λhc=>?_) (λhc=>?_)))))
   ·have H:=H.1 hc
    refine zB (g.m rfl λ_ g=>g.m rfl λ_ g=>g.c (zT g zBY rfl rfl) H λe w H=>?_)
    obtain ⟨r_7,r_8,rfl,H⟩:=H
    exact ⟨_,rfl,λ_ g=>(g.m rfl λ_ g=>g.p (zb g rfl rfl) λ_ g=>g.p (zb g rfl rfl) λ_ g=>g.s rfl λ_ g=>g.s rfl λ_ g=>zE (tn (hj2 (r_7,r_8) _ _ H (g.k))))⟩
   ·have H:=H.2 hc
    exact zW (tn (hj2 (r,x11) _ _ H (g.k)))
 ·refine zD (zB (g.m rfl λ_ g=>g.p (ya g rfl rfl) λ_ g=>g.m rfl λ_ g=>WL.join (ds:=[]) (N:=70) (σ:=Bool) (λs=>[(26,(.bool s)),(0,(Sl.v x0)),(1,(.int .i64 x1)),(2,(.int .u8 x2)),(3,(.int .u8 x3)),(10,(.int .u8 r)),(11,(.int .i64 r_1))]) (λs w=>xQ x0 x1 x2 x3 Ret r r_1 s w) 3 ?_ (λhr7=>?_)))
  ·intro x26 w a H g
   try dsimp only at H g
   unfold xQ at H
   refine zE (tn (yH g rfl (λhc=>?_) (λhc=>?_)))
   ·have H:=H.1 hc
    exact zB (g.s rfl λ_ g=>zE (tn (hj1 15 _ _ H (g.k))))
   ·have H:=H.2 hc
    exact zW (tn (hj1 r_1 _ _ H (g.k)))
  ·rcases Classical.em ((r_1=0)) with hbr7|hbr7
   ·have H:=H.1 hbr7
    have g:=g.b (b:=true) (t:=23) rfl (decide_eq_true hbr7)
    exact g.z (g.m rfl λ_ g=>g.z (g.p (Qk g rfl rfl) λ_ g=>g.p (zh g rfl rfl) λ_ g=>hr7 (decide (2<=x3)) _ _ H (g.k)))
   ·have H:=H.2 hbr7
    have g:=g.b (b:=false) (t:=23) rfl (decide_eq_false hbr7)
    exact g.d (λ_ g=>g.d (λ_ g=>g.p (zj g rfl rfl) λ_ g=>hr7 false _ _ H (g.k)))
def Qm (x0:Int) (w:World) (Ret:Bool->World->Prop):Prop:=
 opE zA Sl.v (zd 61 3 [(0,(.int .u8 1)),(1,(.int .u8 2)),(2,(.int .u8 5))].toArray) w (λx3 w=>Cl zA 22 [(Sl.v x3),(.int .u8 x0)].toArray w (λe w=>∃ (r:Bool),e=.returned (.bool r)/\(Ret r w)))
set_option maxRecDepth 100000 in
theorem ZS (x0:Int) (w:World) (Ret:Bool->World->Prop) (H:Qm x0 w Ret):Cl zA 10 [(.int .u8 x0)].toArray w (λe w'=>∃ (r0:Bool),e=.returned (.bool r0)/\Ret r0 w'):=by
 unfold Qm at H
 refine ze 6 (zipE 0 [(.int .u8 x0)]) Tryd.func10 rfl rfl (by rfl) rfl ?_
 intro a g
 have g:Sat [] 6 [(0,(.int .u8 x0))] a:=g
 refine zD (zB (g.s rfl λ_ g=>(zE (tn (zD (zB (g.o (y5 g rfl) H λx3 w a H g=>(g.m rfl λ_ g=>(g.c (zT g zBZ rfl rfl) H λe w H=>?_)))))))))
 obtain ⟨r,rfl,H⟩:=H
 exact ⟨_,rfl,λ_ g=>(g.s rfl λ_ g=>(zE (tn (zV (zU g rfl rfl ⟨_,rfl,H⟩)))))⟩
def yN (Ret:zI->Int->World->Prop) (x2:Option Addr) (x4:Option Addr) (w:World):Prop:=
 opE zA zI.v (zG 27 (.pointer x2)) w (λx45 w=>opU zA (zK 27 (.pointer x4) (zI.v x45)) w (λw=>opR zA zI.v 27 x4 w (λq=>Ret q 0 w)))
def yT (Ret:zI->Int->World->Prop) (x2:Option Addr) (x4:Option Addr) (x36:Bool) (w:World):Prop:=
 opE zA zC (zJ 27 (.pointer x2) 3) w (λx37 w=>opU zA (zK 4 (.pointer x37) (.bool x36)) w (λw=>yN Ret x2 x4 w))
def QL (x0:zI) (x1:Bool) (w:World) (Ret:zI->Int->World->Prop):Prop:=
 opE zA zC (Instr.box 27 (zI.v x0)) w (λx2 w=>opE zA zC (z6 27 true (.tuple #[])) w (λx4 w=>opE zA zI.v (zG 27 (.pointer x2)) w (λx10 w=>Cl zA 5 [(zI.v x10)].toArray w (λe w=>∃ (r:Int) (r_1:Bool) (r_2:Int),e=.returned (.tuple [(.int .u8 r),(.bool r_1),(.int .i64 r_2)].toArray)/\(((r_2≠0)->(opE zA zI.v (yI 27 [].toArray) w (λx22 w=>opU zA (zK 27 (.pointer x4) (zI.v x22)) w (λw=>opR zA zI.v 27 x4 w (λq_1=>Ret q_1 r_2 w)))))/\(¬ (r_2≠0)->(((!r_1)=true->(opE zA zI.v (yI 27 [].toArray) w (λx27 w=>opU zA (zK 27 (.pointer x4) (zI.v x27)) w (λw=>opR zA zI.v 27 x4 w (λq_2=>Ret q_2 9 w)))))/\((!r_1)=false->(((!x1)=true->(opE zA zC (zJ 27 (.pointer x2) 3) w (λx31 w=>opE zA yO (zG 4 (.pointer x31)) w (λx32 w=>(x32=true->(yT Ret x2 x4 true w))/\(x32=false->(Cl zA 23 [(.int .u8 r)].toArray w (λe w=>∃ (r_3:Bool),e=.returned (.bool r_3)/\(yT Ret x2 x4 r_3 w))))))))/\((!x1)=false->(opE zA zC (zJ 27 (.pointer x2) 3) w (λx39 w=>opE zA yO (zG 4 (.pointer x39)) w (λx40 w=>(x40=true->(opE zA zC (zJ 27 (.pointer x2) 2) w (λx41 w=>opE zA (zH .i64) (zG 3 (.pointer x41)) w (λx42 w=>opE zA zC (zJ 27 (.pointer x2) 2) w (λx44 w=>opU zA (zK 3 (.pointer x44) (.int .i64 (zF .i64 (x42 - 1)))) w (λw=>yN Ret x2 x4 w))))))/\(x40=false->(opE zA zC (zJ 27 (.pointer x2) 2) w (λx15 w=>opE zA (zH .i64) (zG 3 (.pointer x15)) w (λx16 w=>opE zA zC (zJ 27 (.pointer x2) 2) w (λx18 w=>opU zA (zK 3 (.pointer x18) (.int .i64 (zF .i64 (x16+1)))) w (λw=>yN Ret x2 x4 w)))))))))))))))))))
set_option maxRecDepth 100000 in
theorem Yp (x0:zI) (x1:Bool) (w:World) (Ret:zI->Int->World->Prop) (H:QL x0 x1 w Ret):Cl zA 11 [(zI.v x0),(.bool x1)].toArray w (λe w'=>∃ (r0:zI) (r1:Int),e=.returned (.tuple [(zI.v r0),(.int .i64 r1)].toArray)/\Ret r0 r1 w'):=by
 unfold QL at H
 refine ze 46 (zipE 0 [(zI.v x0),(.bool x1)]) Tryd.func11 rfl rfl (by rfl) rfl ?_
 intro a g
 have g:Sat [] 46 [(0,(zI.v x0)),(1,(.bool x1))] a:=g
 refine zD (zB (g.o (zAI g rfl) H λx2 w a H g=>g.o (YM) H λx4 w a H g=>g.s rfl λ_ g=>zE (tn (zD (zB (g.o (zg g rfl) H λx10 w a H g=>g.c (zT g ent5 rfl rfl) H λe w H=>?_))))))
 obtain ⟨r,r_1,r_2,rfl,H⟩:=H
 refine ⟨_,rfl,λ_ g=>(g.m rfl λ_ g=>g.p (zb g rfl rfl) λ_ g=>g.p (zb g rfl rfl) λ_ g=>g.p (zb g rfl rfl) λ_ g=>g.s rfl λ_ g=>g.s rfl λ_ g=>g.s rfl λ_ g=>zE (tn (xp (ds:=[]) (N:=46) (σ:=Unit) (λs=>[(2,(.pointer x2)),(4,(.pointer x4))]) (λs w=>yN Ret x2 x4 w) ?_ (λhj1=>?_))))⟩
 ·rintro ⟨⟩ w a H g
  try dsimp only at H g
  unfold yN at H
  refine zD (zB (g.o (zg g rfl) H λx45 w a H g=>g.h (yE g rfl rfl) H λw a H g=>g.s rfl λ_ g=>zE (tn ?_)))
  obtain ⟨q,ad,hp,hl,H⟩:=H
  exact zV (Zc g (rs:=[.cell 4 27,.tmp 5]) (vs:=[(zI.v q),(.int .i64 0)]) rfl ⟨⟨ad,by rw [← hp];rfl,hl⟩,rfl,trivial⟩ ⟨_,_,rfl,H⟩)
 ·refine yh (zD (zB (g.m rfl λ_ g=>g.p (Q3 g rfl rfl) λ_ g=>g.s rfl λ_ g=>zE (tn (zc g rfl (λhc=>?_) (λhc=>?_))))))
  ·have H:=H.1 hc
   refine zD (zB (g.o (xX g rfl) H λx22 w a H g=>g.m rfl λ_ g=>g.h (yE g rfl rfl) H λw a H g=>g.s rfl λ_ g=>zE (tn ?_)))
   obtain ⟨q_1,ad_1,hp_1,hl_1,H⟩:=H
   exact zV (br (tr (Zc g (rs:=[.cell 4 27,.tmp 5]) (vs:=[(zI.v q_1),(.int .i64 r_2)]) rfl ⟨⟨ad_1,by rw [← hp_1];rfl,hl_1⟩,rfl,trivial⟩ ⟨_,_,rfl,H⟩)))
  ·have H:=H.2 hc
   refine zD (zB (g.m rfl λ_ g=>g.p (Q2 g rfl) λ_ g=>g.s rfl λ_ g=>zE (tn (yH g rfl (λhc=>?_) (λhc=>?_)))))
   ·have H:=H.1 hc
    refine zD (zB (g.o (xX g rfl) H λx27 w a H g=>g.h (yE g rfl rfl) H λw a H g=>g.s rfl λ_ g=>zE (tn ?_)))
    obtain ⟨q_2,ad_2,hp_2,hl_2,H⟩:=H
    exact zV (br (tr (Zc g (rs:=[.cell 4 27,.tmp 5]) (vs:=[(zI.v q_2),(.int .i64 9)]) rfl ⟨⟨ad_2,by rw [← hp_2];rfl,hl_2⟩,rfl,trivial⟩ ⟨_,_,rfl,H⟩)))
   ·have H:=H.2 hc
    refine zD (zB (g.m rfl λ_ g=>g.p (Q2 g rfl) λ_ g=>g.s rfl λ_ g=>zE (tn (yH g rfl (λhc=>?_) (λhc=>?_)))))
    ·have H:=H.1 hc
     refine zB (g.o (zO g rfl) H λx31 w a H g=>g.o (zg g rfl) H λx32 w a H g=>g.m rfl λ_ g=>WL.join (ds:=[]) (N:=46) (σ:=Bool) (λs=>[(36,(.bool s)),(2,(.pointer x2)),(4,(.pointer x4))]) (λs w=>yT Ret x2 x4 s w) 3 ?_ (λhr2=>?_))
     ·intro x36 w a H g
      try dsimp only at H g
      unfold yT at H
      exact g.o (zO g rfl) H λx37 w a H g=>g.h (yE g rfl rfl) H λw a H g=>zE (bn (tn (hj1 () _ _ H (g.k))))
     ·rcases Bool.eq_false_or_eq_true (x32) with hbr2|hbr2
      ·have H:=H.1 hbr2
       have g:=g.b (b:=true) (t:=33) rfl (hbr2)
       exact g.d (λ_ g=>g.d (λ_ g=>g.p (zh g rfl rfl) λ_ g=>hr2 true _ _ H (g.k)))
      ·have H:=H.2 hbr2
       have g:=g.b (b:=false) (t:=33) rfl (hbr2)
       refine g.z (g.m rfl λ_ g=>g.z (g.c (zT g zBp rfl rfl) H λe w H=>?_))
       obtain ⟨r_3,rfl,H⟩:=H
       exact ⟨_,rfl,λ_ g=>(g.p (zj g rfl rfl) λ_ g=>hr2 r_3 _ _ H (g.k))⟩
    ·have H:=H.2 hc
     refine zD (zB (g.o (zO g rfl) H λx39 w a H g=>g.o (zg g rfl) H λx40 w a H g=>g.s rfl λ_ g=>zE (tn (yH g rfl (λhc=>?_) (λhc=>?_)))))
     ·have H:=H.1 hc
      exact zB (g.o (zO g rfl) H λx41 w a H g=>g.o (zg g rfl) H λx42 w a H g=>g.p (xl g rfl rfl) λ_ g=>g.o (zO g rfl) H λx44 w a H g=>g.h (yE g rfl rfl) H λw a H g=>zE (bn (tn (hj1 () _ _ H (g.k)))))
     ·have H:=H.2 hc
      exact zB (g.o (zO g rfl) H λx15 w a H g=>g.o (zg g rfl) H λx16 w a H g=>g.p (xY g rfl rfl) λ_ g=>g.o (zO g rfl) H λx18 w a H g=>g.h (yE g rfl rfl) H λw a H g=>zE (bn (tn (hj1 () _ _ H (g.k)))))
def xD (Ret:Int->World->Prop) (x45:Bool) (w:World):Prop:=
 (x45=true->(Ret 2 w))/\(x45=false->(Ret 0 w))
def xK (Ret:Int->World->Prop) (x44:Bool) (w:World):Prop:=
 xD Ret x44 w
def xC (Ret:Int->World->Prop) (x1:Option Addr) (x35:Bool) (w:World):Prop:=
 (x35=true->(xD Ret true w))/\(x35=false->(opE zA zC (zJ 27 (.pointer x1) 1) w (λx37 w=>opE zA (zH .u8) (zG 25 (.pointer x37)) w (λx38 w=>((x38=2)->(opE zA zC (zJ 27 (.pointer x1) 3) w (λx41 w=>opE zA yO (zG 4 (.pointer x41)) w (λx42 w=>xK Ret (!x42) w))))/\(¬ (x38=2)->(xK Ret false w))))))
def xA (Ret:Int->World->Prop) (x1:Option Addr) (x4:Int) (x29:Bool) (w:World):Prop:=
 (x29=true->(xC Ret x1 true w))/\(x29=false->(opE zA zC (zJ 27 (.pointer x1) 2) w (λx31 w=>opE zA (zH .i64) (zG 3 (.pointer x31)) w (λx32 w=>xC Ret x1 (decide (x4<x32)) w))))
def yW (Ret:Int->World->Prop) (x1:Option Addr) (r:Sl) (x4:Int) (w:World):Prop:=
 (((r.len:Int)=0)->(xA Ret x1 x4 true w))/\(¬ ((r.len:Int)=0)->(opE zA zC (zJ 27 (.pointer x1) 2) w (λx26 w=>opE zA (zH .i64) (zG 3 (.pointer x26)) w (λx27 w=>xA Ret x1 x4 (decide (x27<0)) w))))
def yd (Ret:Int->World->Prop) (x1:Option Addr) (r:Sl) (x17:Bool) (w:World):Prop:=
 (x17=true->(yW Ret x1 r 0 w))/\(x17=false->(opE zA zC (zJ 27 (.pointer x1) 3) w (λx19 w=>opE zA yO (zG 4 (.pointer x19)) w (λx20 w=>(x20=true->(yW Ret x1 r (zF .i64 ((r.len:Int) - 1)) w))/\(x20=false->(yW Ret x1 r (r.len:Int) w))))))
def QX (x0:zI) (w:World) (Ret:Int->World->Prop):Prop:=
 opE zA zC (Instr.box 27 (zI.v x0)) w (λx1 w=>opE zA zC (zJ 27 (.pointer x1) 1) w (λx5 w=>opE zA (zH .u8) (zG 25 (.pointer x5)) w (λx6 w=>Cl zA 14 [(.int .u8 x6)].toArray w (λe w=>∃ (r:Sl),e=.returned (Sl.v r)/\(opE zA zC (zJ 27 (.pointer x1) 3) w (λx11 w=>opE zA yO (zG 4 (.pointer x11)) w (λx12 w=>(x12=true->(opE zA zC (zJ 27 (.pointer x1) 1) w (λx14 w=>opE zA (zH .u8) (zG 25 (.pointer x14)) w (λx15 w=>yd Ret x1 r (decide (x15=3)) w))))/\(x12=false->(yd Ret x1 r false w)))))))))
set_option maxRecDepth 100000 in
theorem ZI (x0:zI) (w:World) (Ret:Int->World->Prop) (H:QX x0 w Ret):Cl zA 13 [(zI.v x0)].toArray w (λe w'=>∃ (r0:Int),e=.returned (.int .i64 r0)/\Ret r0 w'):=by
 unfold QX at H
 refine ze 46 (zipE 0 [(zI.v x0)]) Tryd.func13 rfl rfl (by rfl) rfl ?_
 intro a g
 have g:Sat [] 46 [(0,(zI.v x0))] a:=g
 refine zD (zB (g.o (zAI g rfl) H λx1 w a H g=>g.s rfl λ_ g=>zE (tn (zD (zB (g.o (zO g rfl) H λx5 w a H g=>g.o (zg g rfl) H λx6 w a H g=>g.c (zT g zAy rfl rfl) H λe w H=>?_))))))
 obtain ⟨r,rfl,H⟩:=H
 refine ⟨_,rfl,λ_ g=>(g.purR (λw=>QR g Tryd.underlying47 rfl) λ_ g=>g.s rfl λ_ g=>zE (tn (zD (zB (g.m rfl λ_ g=>g.s rfl λ_ g=>zE (tn (xp (ds:=[]) (N:=46) (σ:=Int) (λs=>[(4,(.int .i64 s)),(1,(.pointer x1)),(3,(.int .i64 (r.len:Int)))]) (λs w=>yW Ret x1 r s w) ?_ (λhj1=>?_))))))))⟩
 ·intro x4 w a H g
  try dsimp only at H g
  unfold yW at H
  refine zD (zD (zB (g.m rfl λ_ g=>g.p (ya g rfl rfl) λ_ g=>g.m rfl λ_ g=>WL.join (ds:=[]) (N:=46) (σ:=Bool) (λs=>[(29,(.bool s)),(1,(.pointer x1)),(4,(.int .i64 x4))]) (λs w=>xA Ret x1 x4 s w) 4 ?_ (λhr2=>?_))))
  ·intro x29 w a H g
   try dsimp only at H g
   unfold xA at H
   refine g.m rfl λ_ g=>WL.join (ds:=[]) (N:=46) (σ:=Bool) (λs=>[(35,(.bool s)),(1,(.pointer x1))]) (λs w=>xC Ret x1 s w) 5 ?_ (λhr3=>?_)
   ·intro x35 w a H g
    try dsimp only at H g
    unfold xC at H
    refine g.m rfl λ_ g=>WL.join (ds:=[]) (N:=46) (σ:=Bool) (λs=>[(45,(.bool s))]) (λs w=>xD Ret s w) 9 ?_ (λhr4=>?_)
    ·intro x45 w a H g
     try dsimp only at H g
     unfold xD at H
     refine zE (tn (yH g rfl (λhc=>?_) (λhc=>?_)))
     ·have H:=H.1 hc
      exact zD (zB (g.s rfl λ_ g=>zE (tn (zV (tr (zU g rfl rfl ⟨_,rfl,H⟩))))))
     ·have H:=H.2 hc
      exact zW (tn (zD (zB (g.s rfl λ_ g=>zE (tn (zV (zU g rfl rfl ⟨_,rfl,H⟩)))))))
    ·rcases Bool.eq_false_or_eq_true (x35) with hbr4|hbr4
     ·have H:=H.1 hbr4
      have g:=g.b (b:=true) (t:=36) rfl (hbr4)
      exact g.d (λ_ g=>g.d (λ_ g=>g.d (λ_ g=>g.d (λ_ g=>g.offU (by rfl) (by rfl) (λ_ g=>g.offU (by rfl) (by rfl) (λ_ g=>g.offU (by rfl) (by rfl) (λ_ g=>g.d (λ_ g=>g.p (zh g rfl rfl) λ_ g=>hr4 true _ _ H (g.k)))))))))
     ·have H:=H.2 hbr4
      have g:=g.b (b:=false) (t:=36) rfl (hbr4)
      refine g.z (g.o (zO g rfl) H λx37 w a H g=>g.z (g.o (zg g rfl) H λx38 w a H g=>g.z (g.p (ya g rfl rfl) λ_ g=>g.z (g.m rfl λ_ g=>WL.join (ds:=[]) (N:=46) (σ:=Bool) (λs=>[(44,(.bool s)),(36,(.bool false))]) (λs w=>xK Ret s w) 4 ?_ (λhr5=>?_)))))
      ·intro x44 w a H g
       try dsimp only at H g
       unfold xK at H
       exact g.p (zj g rfl rfl) λ_ g=>hr4 x44 _ _ H (g.k)
      ·rcases Classical.em ((x38=2)) with hbr5|hbr5
       ·have H:=H.1 hbr5
        have g:=g.b (b:=true) (t:=40) rfl (decide_eq_true hbr5)
        exact g.z (g.o (zO g rfl) H λx41 w a H g=>g.z (g.o (zg g rfl) H λx42 w a H g=>g.z (g.p (Q2 g rfl) λ_ g=>g.z (g.p (zh g rfl rfl) λ_ g=>hr5 (!x42) _ _ H (g.k)))))
       ·have H:=H.2 hbr5
        have g:=g.b (b:=false) (t:=40) rfl (decide_eq_false hbr5)
        exact g.d (λ_ g=>g.d (λ_ g=>g.d (λ_ g=>g.z (g.p (zj g rfl rfl) λ_ g=>hr5 false _ _ H (g.k)))))
   ·rcases Bool.eq_false_or_eq_true (x29) with hbr3|hbr3
    ·have H:=H.1 hbr3
     have g:=g.b (b:=true) (t:=30) rfl (hbr3)
     exact g.d (λ_ g=>g.d (λ_ g=>g.d (λ_ g=>g.d (λ_ g=>g.p (zh g rfl rfl) λ_ g=>hr3 true _ _ H (g.k)))))
    ·have H:=H.2 hbr3
     have g:=g.b (b:=false) (t:=30) rfl (hbr3)
     exact g.z (g.o (zO g rfl) H λx31 w a H g=>g.z (g.o (zg g rfl) H λx32 w a H g=>g.z (g.m rfl λ_ g=>g.z (g.p (YO g rfl rfl) λ_ g=>g.p (zj g rfl rfl) λ_ g=>hr3 (decide (x4<x32)) _ _ H (g.k)))))
  ·rcases Classical.em (((r.len:Int)=0)) with hbr2|hbr2
   ·have H:=H.1 hbr2
    have g:=g.b (b:=true) (t:=25) rfl (decide_eq_true hbr2)
    exact g.d (λ_ g=>g.d (λ_ g=>g.d (λ_ g=>g.p (zh g rfl rfl) λ_ g=>hr2 true _ _ H (g.k))))
   ·have H:=H.2 hbr2
    have g:=g.b (b:=false) (t:=25) rfl (decide_eq_false hbr2)
    exact g.z (g.o (zO g rfl) H λx26 w a H g=>g.z (g.o (zg g rfl) H λx27 w a H g=>g.z (g.p (xm g rfl rfl) λ_ g=>g.p (zj g rfl rfl) λ_ g=>hr2 (decide (x27<0)) _ _ H (g.k))))
 ·refine yh (zD (zB (g.o (zO g rfl) H λx11 w a H g=>g.o (zg g rfl) H λx12 w a H g=>g.m rfl λ_ g=>WL.join (ds:=[]) (N:=46) (σ:=Bool) (λs=>[(17,(.bool s)),(1,(.pointer x1)),(3,(.int .i64 (r.len:Int))),(4,(.int .i64 (r.len:Int)))]) (λs w=>yd Ret x1 r s w) 4 ?_ (λhr6=>?_))))
  ·intro x17 w a H g
   try dsimp only at H g
   unfold yd at H
   refine g.s rfl λ_ g=>zE (tn (yH g rfl (λhc=>?_) (λhc=>?_)))
   ·have H:=H.1 hc
    exact zB (g.s rfl λ_ g=>zE (bn (tn (hj1 0 _ _ H (g.k)))))
   ·have H:=H.2 hc
    refine zD (zB (g.o (zO g rfl) H λx19 w a H g=>g.o (zg g rfl) H λx20 w a H g=>g.s rfl λ_ g=>zE (tn (yH g rfl (λhc=>?_) (λhc=>?_)))))
    ·have H:=H.1 hc
     exact zB (g.m rfl λ_ g=>g.p (xl g rfl rfl) λ_ g=>g.s rfl λ_ g=>zE (bn (tn (hj1 (zF .i64 ((r.len:Int) - 1)) _ _ H (g.k)))))
    ·have H:=H.2 hc
     exact zW (bn (tn (hj1 (r.len:Int) _ _ H (g.k))))
  ·rcases Bool.eq_false_or_eq_true (x12) with hbr6|hbr6
   ·have H:=H.1 hbr6
    have g:=g.b (b:=true) (t:=13) rfl (hbr6)
    exact g.z (g.o (zO g rfl) H λx14 w a H g=>g.z (g.o (zg g rfl) H λx15 w a H g=>g.z (g.p (ya g rfl rfl) λ_ g=>g.p (zh g rfl rfl) λ_ g=>hr6 (decide (x15=3)) _ _ H (g.k))))
   ·have H:=H.2 hbr6
    have g:=g.b (b:=false) (t:=13) rfl (hbr6)
    exact g.d (λ_ g=>g.d (λ_ g=>g.d (λ_ g=>g.p (zj g rfl rfl) λ_ g=>hr6 false _ _ H (g.k))))
def Qj (x0:Int) (w:World) (Ret:Sl->World->Prop):Prop:=
 opE zA Sl.v (zd 47 5 [(0,(.int .u8 1)),(1,(.int .u8 2)),(2,(.int .u8 3)),(3,(.int .u8 4)),(4,(.int .u8 5))].toArray) w (λx4 w=>opE zA Value.map (Instr.makeMap 65 none) w (λx5 w=>opU zA (Instr.mapUpdate 65 (.map x5) (.int .u8 1) (Sl.v x4)) w (λw=>opU zA (Instr.mapUpdate 65 (.map x5) (.int .u8 2) (Sl.v x4)) w (λw=>opE zA Sl.v (zd 47 3 [(0,(.int .u8 10)),(1,(.int .u8 11)),(2,(.int .u8 9))].toArray) w (λx8 w=>opU zA (Instr.mapUpdate 65 (.map x5) (.int .u8 3) (Sl.v x8)) w (λw=>opE zA Sl.v (Instr.lookup 65 (.map x5) (.int .u8 x0) false) w (λx11 w=>Ret x11 w)))))))
set_option maxRecDepth 100000 in
theorem ZB (x0:Int) (w:World) (Ret:Sl->World->Prop) (H:Qj x0 w Ret):Cl zA 14 [(.int .u8 x0)].toArray w (λe w'=>∃ (r0:Sl),e=.returned (Sl.v r0)/\Ret r0 w'):=by
 unfold Qj at H
 refine ze 12 (zipE 0 [(.int .u8 x0)]) Tryd.func14 rfl rfl (by rfl) rfl ?_
 intro a g
 have g:Sat [] 12 [(0,(.int .u8 x0))] a:=g
 exact zD (zB (g.s rfl λ_ g=>zE (tn (zD (zB (g.o (y5 g rfl) H λx4 w a H g=>g.s rfl λ_ g=>zE (tn (zD (zB (g.o (ZK) H λx5 w a H g=>g.m rfl λ_ g=>g.h (QJ g rfl rfl rfl) H λw a H g=>g.m rfl λ_ g=>g.h (QJ g rfl rfl rfl) H λw a H g=>g.o (y5 g rfl) H λx8 w a H g=>g.h (QJ g rfl rfl rfl) H λw a H g=>g.m rfl λ_ g=>g.m rfl λ_ g=>g.o (Zs g rfl rfl) H λx11 w a H g=>g.s rfl λ_ g=>zE (tn (zV (zU g rfl rfl ⟨_,rfl,H⟩)))))))))))))
def Qp (x0:Int) (w:World) (Ret:Int->Bool->World->Prop):Prop:=
 opE zA Value.map (Instr.makeMap 66 none) w (λx7 w=>opU zA (Instr.mapUpdate 66 (.map x7) (.int .u8 1) (.int .u8 6)) w (λw=>opU zA (Instr.mapUpdate 66 (.map x7) (.int .u8 2) (.int .u8 7)) w (λw=>opU zA (Instr.mapUpdate 66 (.map x7) (.int .u8 3) (.int .u8 8)) w (λw=>opU zA (Instr.mapUpdate 66 (.map x7) (.int .u8 4) (.int .u8 9)) w (λw=>opE zA (λp:Int × Bool=>.tuple [(.int .u8 p.1),(.bool p.2)].toArray) (Instr.lookup 66 (.map x7) (.int .u8 x0) true) w (λx10 w=>Ret x10.1 x10.2 w))))))
set_option maxRecDepth 100000 in
theorem Zj (x0:Int) (w:World) (Ret:Int->Bool->World->Prop) (H:Qp x0 w Ret):Cl zA 15 [(.int .u8 x0)].toArray w (λe w'=>∃ (r0:Int) (r1:Bool),e=.returned (.tuple [(.int .u8 r0),(.bool r1)].toArray)/\Ret r0 r1 w'):=by
 unfold Qp at H
 refine ze 15 (zipE 0 [(.int .u8 x0)]) Tryd.func15 rfl rfl (by rfl) rfl ?_
 intro a g
 have g:Sat [] 15 [(0,(.int .u8 x0))] a:=g
 exact zD (zB (g.s rfl λ_ g=>g.s rfl λ_ g=>zE (tn (zD (zB (g.o (ZK) H λx7 w a H g=>g.h (QJ g rfl rfl rfl) H λw a H g=>g.h (QJ g rfl rfl rfl) H λw a H g=>g.h (QJ g rfl rfl rfl) H λw a H g=>g.h (QJ g rfl rfl rfl) H λw a H g=>g.m rfl λ_ g=>g.m rfl λ_ g=>g.o (Zs g rfl rfl) H λx10 w a H g=>g.m rfl λ_ g=>g.p (zb g rfl rfl) λ_ g=>g.p (zb g rfl rfl) λ_ g=>g.s rfl λ_ g=>g.s rfl λ_ g=>zE (tn (zD (zB (g.m rfl λ_ g=>g.m rfl λ_ g=>g.s rfl λ_ g=>g.s rfl λ_ g=>zE (tn (zV (QN g rfl rfl rfl ⟨_,_,rfl,H⟩)))))))))))))
def xG (Ret:Int->World->Prop) (x8:Int) (Kl1:Int->Int->World->Prop) (x5:Option Addr) (x30:Bool) (w:World):Prop:=
 (x30=true->(Ret 2 w))/\(x30=false->(opE zA zC (zJ 55 (.pointer x5) 0) w (λx31 w=>opE zA (zH .i64) (zG 3 (.pointer x31)) w (λx32 w=>Kl1 x32 (zF .i64 (x8+1)) w))))
def xB (Ret:Int->World->Prop) (x8:Int) (Kl1:Int->Int->World->Prop) (x5:Option Addr) (x25:Bool) (w:World):Prop:=
 (x25=true->(xG Ret x8 Kl1 x5 true w))/\(x25=false->(opE zA zC (zJ 55 (.pointer x5) 1) w (λx27 w=>opE zA (zH .u8) (zG 32 (.pointer x27)) w (λx28 w=>xG Ret x8 Kl1 x5 (decide (7<=x28)) w))))
def xF (Ret:Int->World->Prop) (x8:Int) (Kl1:Int->Int->World->Prop) (x5:Option Addr) (x20:Bool) (w:World):Prop:=
 (x20=true->(xB Ret x8 Kl1 x5 true w))/\(x20=false->(opE zA zC (zJ 55 (.pointer x5) 1) w (λx22 w=>opE zA (zH .u8) (zG 32 (.pointer x22)) w (λx23 w=>xB Ret x8 Kl1 x5 (decide (x23=0)) w))))
def xU (x0:Sl) (Ret:Int->World->Prop) (x3:Int) (x8:Int) (w:World) (Kl1:Int->Int->World->Prop):Prop:=
 ((x8<(x0.len:Int))->(opE zA zC (zN 24 (Sl.v x0) (.int .i64 x8)) w (λx10 w=>opE zA zL.v (zG 55 (.pointer x10)) w (λx11 w=>opE zA zC (z6 55 true (.tuple #[])) w (λx5 w=>opU zA (zK 55 (.pointer x5) (zL.v x11)) w (λw=>opE zA zC (zJ 55 (.pointer x5) 0) w (λx12 w=>opE zA (zH .i64) (zG 3 (.pointer x12)) w (λx13 w=>((x13<=x3)->(xF Ret x8 Kl1 x5 true w))/\(¬ (x13<=x3)->(opE zA zC (zJ 55 (.pointer x5) 0) w (λx17 w=>opE zA (zH .i64) (zG 3 (.pointer x17)) w (λx18 w=>xF Ret x8 Kl1 x5 (decide (1024<x18)) w))))))))))))/\(¬ (x8<(x0.len:Int))->(Ret 0 w))
def Qc (x0:Sl) (w:World) (Ret:Int->World->Prop):Prop:=
 ∃ (I:Int->Int->World->Prop) (μ:Int->Int->World->Nat),I 0 0 w/\∀ (x3:Int) (x8:Int) w,I x3 x8 w->xU x0 Ret x3 x8 w (λx3' x8' w'=>I x3' x8' w'/\μ x3' x8' w'<μ x3 x8 w)
set_option maxRecDepth 100000 in
theorem Y2 (x0:Sl) (w:World) (Ret:Int->World->Prop) (H:Qc x0 w Ret):Cl zA 16 [(Sl.v x0)].toArray w (λe w'=>∃ (r0:Int),e=.returned (.int .i64 r0)/\Ret r0 w'):=by
 unfold Qc at H
 refine ze 34 (zipE 0 [(Sl.v x0)]) Tryd.func16 rfl rfl (by rfl) rfl ?_
 intro a g
 have g:Sat [] 34 [(0,(Sl.v x0))] a:=g
 refine zD (zB (g.s rfl λ_ g=>zE (tn (zD (zB (g.s rfl λ_ g=>zE (tn (zD (zD (zB (g.m rfl λ_ g=>g.purR (λw=>QR g Tryd.underlying24 rfl) λ_ g=>g.m rfl λ_ g=>zE (tn (yh ?_)))))))))))))
 obtain ⟨I_l1,μ_l1,h0,hb⟩:=H
 refine Yc (ds:=[]) (N:=34) (σ:=Int × Int) (λs=>[(3,(.int .i64 s.1)),(8,(.int .i64 s.2)),(6,(Sl.v x0)),(7,(.int .i64 (x0.len:Int)))]) (λs w=>I_l1 s.1 s.2 w) (λs w=>μ_l1 s.1 s.2 w) (0,0) h0 (g.k) ?_
 rintro ⟨x3,x8⟩ w a hI g
 try dsimp only at hI g
 obtain ⟨Kl1,hK_l1⟩:∃ K:Int->Int->World->Prop,K=(λx3' x8' w'=>I_l1 x3' x8' w'/\μ_l1 x3' x8' w'<μ_l1 x3 x8 w):=⟨_,rfl⟩
 have H:xU x0 Ret x3 x8 w Kl1:=by rw [hK_l1];exact hb x3 x8 w hI
 clear hb h0 hI
 unfold xU at H
 refine zD (zB (g.p (xm g rfl rfl) λ_ g=>zE (tn (zD (zc g rfl (λhc=>?_) (λhc=>?_))))))
 ·have H:=H.1 hc
  refine zW (tn (zD (yh (zD (zB (g.o (zS g rfl rfl) H λx10 w a H g=>g.o (zg g rfl) H λx11 w a H g=>g.o (YM) H λx5 w a H g=>g.h (yE g rfl rfl) H λw a H g=>zE (tn (zD (zD (zB (g.o (zO g rfl) H λx12 w a H g=>g.o (zg g rfl) H λx13 w a H g=>g.m rfl λ_ g=>g.p (zBx g rfl rfl) λ_ g=>g.m rfl λ_ g=>WL.join (ds:=[]) (N:=34) (σ:=Bool) (λs=>[(20,(.bool s)),(5,(.pointer x5)),(6,(Sl.v x0)),(7,(.int .i64 (x0.len:Int))),(8,(.int .i64 x8))]) (λs w=>xF Ret x8 Kl1 x5 s w) 4 ?_ (λhr2=>?_))))))))))))
  ·intro x20 w a H g
   try dsimp only at H g
   unfold xF at H
   refine g.m rfl λ_ g=>WL.join (ds:=[]) (N:=34) (σ:=Bool) (λs=>[(25,(.bool s)),(5,(.pointer x5)),(6,(Sl.v x0)),(7,(.int .i64 (x0.len:Int))),(8,(.int .i64 x8))]) (λs w=>xB Ret x8 Kl1 x5 s w) 4 ?_ (λhr3=>?_)
   ·intro x25 w a H g
    try dsimp only at H g
    unfold xB at H
    refine g.m rfl λ_ g=>WL.join (ds:=[]) (N:=34) (σ:=Bool) (λs=>[(30,(.bool s)),(5,(.pointer x5)),(6,(Sl.v x0)),(7,(.int .i64 (x0.len:Int))),(8,(.int .i64 x8))]) (λs w=>xG Ret x8 Kl1 x5 s w) 4 ?_ (λhr4=>?_)
    ·intro x30 w a H g
     try dsimp only at H g
     unfold xG at H
     refine zE (tn (yH g rfl (λhc=>?_) (λhc=>?_)))
     ·have H:=H.1 hc
      exact zD (zB (g.s rfl λ_ g=>zE (tn (zV (tr (br (tr (tr (br (tr (zU g rfl rfl ⟨_,rfl,H⟩)))))))))))
     ·have H:=H.2 hc
      refine zW (tn (zB (g.o (zO g rfl) H λx31 w a H g=>g.o (zg g rfl) H λx32 w a H g=>g.s rfl λ_ g=>zE (bn (tn (zB (g.p (xY g rfl rfl) λ_ g=>g.m rfl λ_ g=>?_)))))))
      rw [hK_l1] at H
      exact zE (tn ⟨(x32,(zF .i64 (x8+1))),g.k,H⟩)
    ·rcases Bool.eq_false_or_eq_true (x25) with hbr4|hbr4
     ·have H:=H.1 hbr4
      have g:=g.b (b:=true) (t:=26) rfl (hbr4)
      exact g.d (λ_ g=>g.d (λ_ g=>g.d (λ_ g=>g.p (zh g rfl rfl) λ_ g=>hr4 true _ _ H (g.k))))
     ·have H:=H.2 hbr4
      have g:=g.b (b:=false) (t:=26) rfl (hbr4)
      exact g.z (g.o (zO g rfl) H λx27 w a H g=>g.z (g.o (zg g rfl) H λx28 w a H g=>g.z (g.p (Qk g rfl rfl) λ_ g=>g.p (zj g rfl rfl) λ_ g=>hr4 (decide (7<=x28)) _ _ H (g.k))))
   ·rcases Bool.eq_false_or_eq_true (x20) with hbr3|hbr3
    ·have H:=H.1 hbr3
     have g:=g.b (b:=true) (t:=21) rfl (hbr3)
     exact g.d (λ_ g=>g.d (λ_ g=>g.d (λ_ g=>g.p (zh g rfl rfl) λ_ g=>hr3 true _ _ H (g.k))))
    ·have H:=H.2 hbr3
     have g:=g.b (b:=false) (t:=21) rfl (hbr3)
     exact g.z (g.o (zO g rfl) H λx22 w a H g=>g.z (g.o (zg g rfl) H λx23 w a H g=>g.z (g.p (ya g rfl rfl) λ_ g=>g.p (zj g rfl rfl) λ_ g=>hr3 (decide (x23=0)) _ _ H (g.k))))
  ·rcases Classical.em ((x13<=x3)) with hbr2|hbr2
   ·have H:=H.1 hbr2
    have g:=g.b (b:=true) (t:=16) rfl (decide_eq_true hbr2)
    exact g.d (λ_ g=>g.d (λ_ g=>g.d (λ_ g=>g.p (zh g rfl rfl) λ_ g=>hr2 true _ _ H (g.k))))
   ·have H:=H.2 hbr2
    have g:=g.b (b:=false) (t:=16) rfl (decide_eq_false hbr2)
    exact g.z (g.o (zO g rfl) H λx17 w a H g=>g.z (g.o (zg g rfl) H λx18 w a H g=>g.z (g.p (YO g rfl rfl) λ_ g=>g.p (zj g rfl rfl) λ_ g=>hr2 (decide (1024<x18)) _ _ H (g.k))))
 ·have H:=H.2 hc
  exact YD (te (te (be (tn (zD (zB (g.s rfl λ_ g=>zE (tn (zV (zU g rfl rfl ⟨_,rfl,H⟩))))))))))
def Qa (x0:Sl) (x1:Int) (w:World) (Ret:Int->Bool->World->Prop):Prop:=
 Cl zA 26 [(Sl.v x0),(.int .i64 x1),(.func (.func 27) #[] #[])].toArray w (λe w=>∃ (r:Int) (r_1:Bool),e=.returned (.tuple [(.int .i64 r),(.bool r_1)].toArray)/\(Ret r r_1 w))
set_option maxRecDepth 100000 in
theorem Y3 (x0:Sl) (x1:Int) (w:World) (Ret:Int->Bool->World->Prop) (H:Qa x0 x1 w Ret):Cl zA 17 [(Sl.v x0),(.int .i64 x1)].toArray w (λe w'=>∃ (r0:Int) (r1:Bool),e=.returned (.tuple [(.int .i64 r0),(.bool r1)].toArray)/\Ret r0 r1 w'):=by
 unfold Qa at H
 refine ze 11 (zipE 0 [(Sl.v x0),(.int .i64 x1)]) Tryd.func17 rfl rfl (by rfl) rfl ?_
 intro a g
 have g:Sat [] 11 [(0,(Sl.v x0)),(1,(.int .i64 x1))] a:=g
 refine zD (zB (g.s rfl λ_ g=>g.s rfl λ_ g=>zE (tn (zD (zB (g.m rfl λ_ g=>g.m rfl λ_ g=>g.c (zT g zBU rfl rfl) H λe w H=>?_))))))
 obtain ⟨r,r_1,rfl,H⟩:=H
 exact ⟨_,rfl,λ_ g=>(g.p (zb g rfl rfl) λ_ g=>g.p (zb g rfl rfl) λ_ g=>g.s rfl λ_ g=>g.s rfl λ_ g=>zE (tn (zV (QN g rfl rfl rfl ⟨_,_,rfl,H⟩))))⟩
def zt (x0:Sl) (x1:Int) (w:World) (Ret:Bool->World->Prop):Prop:=
 Cl zA 29 [(Sl.v x0),(.int .u8 x1)].toArray w (λe w=>∃ (r:Int),e=.returned (.int .i64 r)/\(Ret (decide (0<=r)) w))
set_option maxRecDepth 100000 in
theorem ym (x0:Sl) (x1:Int) (w:World) (Ret:Bool->World->Prop) (H:zt x0 x1 w Ret):Cl zA 18 [(Sl.v x0),(.int .u8 x1)].toArray w (λe w'=>∃ (r0:Bool),e=.returned (.bool r0)/\Ret r0 w'):=by
 unfold zt at H
 refine ze 9 (zipE 0 [(Sl.v x0),(.int .u8 x1)]) Tryd.func18 rfl rfl (by rfl) rfl ?_
 intro a g
 have g:Sat [] 9 [(0,(Sl.v x0)),(1,(.int .u8 x1))] a:=g
 refine zD (zB (g.s rfl λ_ g=>(zE (tn (zD (zB (g.m rfl λ_ g=>(g.m rfl λ_ g=>(g.c (zT g zBR rfl rfl) H λe w H=>?_)))))))))
 obtain ⟨r,rfl,H⟩:=H
 exact ⟨_,rfl,λ_ g=>(g.p (Qk g rfl rfl) λ_ g=>(g.s rfl λ_ g=>(zE (tn (zV (zU g rfl rfl ⟨_,rfl,H⟩))))))⟩
def xO (x0:Int) (x1:Int) (Ret:Int->Int->World->Prop) (x13:Bool) (w:World):Prop:=
 (x13=true->(Ret 0 15 w))/\(x13=false->(Cl zA 31 [].toArray w (λe w=>∃ (r:Array Value),e=.returned (.agg r)/\(opE zA Value.agg (Instr.index 72 (.agg r) (.int .u8 x1)) w (λx16 w=>opE zA (zH .u8) (Instr.index 71 (.agg x16) (.int .u8 x0)) w (λx18 w=>((x18=0)->(Ret 0 9 w))/\(¬ (x18=0)->(Ret x18 0 w))))))))
def Qn (x0:Int) (x1:Int) (w:World) (Ret:Int->Int->World->Prop):Prop:=
 ((7<=x0)->(xO x0 x1 Ret true w))/\(¬ (7<=x0)->(Cl zA 30 [(.int .u8 x1)].toArray w (λe w=>∃ (r_1:Bool),e=.returned (.bool r_1)/\(xO x0 x1 Ret (!r_1) w))))
set_option maxRecDepth 100000 in
theorem Zb (x0:Int) (x1:Int) (w:World) (Ret:Int->Int->World->Prop) (H:Qn x0 x1 w Ret):Cl zA 19 [(.int .u8 x0),(.int .u8 x1)].toArray w (λe w'=>∃ (r0:Int) (r1:Int),e=.returned (.tuple [(.int .u8 r0),(.int .i64 r1)].toArray)/\Ret r0 r1 w'):=by
 unfold Qn at H
 refine ze 22 (zipE 0 [(.int .u8 x0),(.int .u8 x1)]) Tryd.func19 rfl rfl (by rfl) rfl ?_
 intro a g
 have g:Sat [] 22 [(0,(.int .u8 x0)),(1,(.int .u8 x1))] a:=g
 refine zD (zB (g.s rfl λ_ g=>g.s rfl λ_ g=>zE (tn (zD (zD (zB (g.m rfl λ_ g=>g.p (Qk g rfl rfl) λ_ g=>g.m rfl λ_ g=>WL.join (ds:=[]) (N:=22) (σ:=Bool) (λs=>[(13,(.bool s)),(0,(.int .u8 x0)),(1,(.int .u8 x1))]) (λs w=>xO x0 x1 Ret s w) 4 ?_ (λhr1=>?_))))))))
 ·intro x13 w a H g
  try dsimp only at H g
  unfold xO at H
  refine zE (tn (yH g rfl (λhc=>?_) (λhc=>?_)))
  ·have H:=H.1 hc
   exact zD (zB (g.s rfl λ_ g=>g.s rfl λ_ g=>zE (tn (zV (tr (QN g rfl rfl rfl ⟨_,_,rfl,H⟩))))))
  ·have H:=H.2 hc
   refine zW (tn (zD (zB (g.c (zT g zBW rfl rfl) H λe w H=>?_))))
   obtain ⟨r,rfl,H⟩:=H
   refine ⟨_,rfl,λ_ g=>(g.m rfl λ_ g=>g.o (yf g rfl rfl) H λx16 w a H g=>g.m rfl λ_ g=>g.o (yf g rfl rfl) H λx18 w a H g=>g.s rfl λ_ g=>zE (tn (zD (zD (zB (g.m rfl λ_ g=>g.p (ya g rfl rfl) λ_ g=>zE (tn (zc g rfl (λhc=>?_) (λhc=>?_)))))))))⟩
   ·have H:=H.1 hc
    exact zD (zB (g.s rfl λ_ g=>g.s rfl λ_ g=>zE (tn (zV (tr (QN g rfl rfl rfl ⟨_,_,rfl,H⟩))))))
   ·have H:=H.2 hc
    exact zW (tn (zD (zB (g.m rfl λ_ g=>g.s rfl λ_ g=>g.s rfl λ_ g=>zE (tn (zV (QN g rfl rfl rfl ⟨_,_,rfl,H⟩)))))))
 ·rcases Classical.em ((7<=x0)) with hbr1|hbr1
  ·have H:=H.1 hbr1
   have g:=g.b (b:=true) (t:=9) rfl (decide_eq_true hbr1)
   exact g.d (λ_ g=>g.d (λ_ g=>g.d (λ_ g=>g.p (zh g rfl rfl) λ_ g=>hr1 true _ _ H (g.k))))
  ·have H:=H.2 hbr1
   have g:=g.b (b:=false) (t:=9) rfl (decide_eq_false hbr1)
   refine g.z (g.m rfl λ_ g=>g.z (g.c (zT g zBm rfl rfl) H λe w H=>?_))
   obtain ⟨r_1,rfl,H⟩:=H
   exact ⟨_,rfl,λ_ g=>(g.z (g.p (Q2 g rfl) λ_ g=>g.p (zj g rfl rfl) λ_ g=>hr1 (!r_1) _ _ H (g.k)))⟩
def z9 (x0:Sl) (w:World) (Ret:Sl->World->Prop):Prop:=
 opE zA yO (do eqGuard .eql 24 (.tmp 3) (.const (Sl.v Sl.none)) (Sl.v x0) (Sl.v Sl.none);binOp .eql 24 (Sl.v x0) (Sl.v Sl.none)) w (λx4 w=>(x4=true->(Ret Sl.none w))/\(x4=false->(opE zA Sl.v (zd 24 0 [].toArray) w (λx5 w=>opE zA Sl.v (Builtin.append_ #[24,24] 24 [(Sl.v x5),(Sl.v x0)].toArray) w (λx7 w=>Ret x7 w)))))
set_option maxRecDepth 100000 in
theorem xI (x0:Sl) (w:World) (Ret:Sl->World->Prop) (H:z9 x0 w Ret):Cl zA 20 [(Sl.v x0)].toArray w (λe w'=>∃ (r0:Sl),e=.returned (Sl.v r0)/\Ret r0 w'):=by
 unfold z9 at H
 refine ze 8 (zipE 0 [(Sl.v x0)]) Tryd.func20 rfl rfl (by rfl) rfl ?_
 intro a g
 have g:Sat [] 8 [(0,(Sl.v x0))] a:=g
 refine zD (zB (g.s rfl λ_ g=>(zE (tn (zD (zD (zB (g.m rfl λ_ g=>(g.o (QV g rfl rfl) H λx4 w a H g=>(zE (tn (yH g rfl (λhc=>?_) (λhc=>?_)))))))))))))
 ·have H:=H.1 hc
  exact zD (zB (g.s rfl λ_ g=>(zE (tn (zV (tr (zU g rfl rfl ⟨_,rfl,H⟩)))))))
 ·have H:=H.2 hc
  exact zW (tn (zD (zB (g.o (y5 g rfl) H λx5 w a H g=>(g.m rfl λ_ g=>(g.o (Yt g rfl) H λx7 w a H g=>(g.s rfl λ_ g=>(zE (tn (zV (zU g rfl rfl ⟨_,rfl,H⟩)))))))))))
def zu (x0:Sl) (x1:Int) (w:World) (Ret:Bool->World->Prop):Prop:=
 Cl zA 34 [(Sl.v x0),(.int .u8 x1)].toArray w (λe w=>∃ (r:Int),e=.returned (.int .i64 r)/\(Ret (decide (0<=r)) w))
set_option maxRecDepth 100000 in
theorem yk (x0:Sl) (x1:Int) (w:World) (Ret:Bool->World->Prop) (H:zu x0 x1 w Ret):Cl zA 22 [(Sl.v x0),(.int .u8 x1)].toArray w (λe w'=>∃ (r0:Bool),e=.returned (.bool r0)/\Ret r0 w'):=by
 unfold zu at H
 refine ze 9 (zipE 0 [(Sl.v x0),(.int .u8 x1)]) Tryd.func22 rfl rfl (by rfl) rfl ?_
 intro a g
 have g:Sat [] 9 [(0,(Sl.v x0)),(1,(.int .u8 x1))] a:=g
 refine zD (zB (g.s rfl λ_ g=>(zE (tn (zD (zB (g.m rfl λ_ g=>(g.m rfl λ_ g=>(g.c (zT g zBa rfl rfl) H λe w H=>?_)))))))))
 obtain ⟨r,rfl,H⟩:=H
 exact ⟨_,rfl,λ_ g=>(g.p (Qk g rfl rfl) λ_ g=>(g.s rfl λ_ g=>(zE (tn (zV (zU g rfl rfl ⟨_,rfl,H⟩))))))⟩
def Qh (x0:Int) (w:World) (Ret:Bool->World->Prop):Prop:=
 Cl zA 14 [(.int .u8 1)].toArray w (λe w=>∃ (r:Sl),e=.returned (Sl.v r)/\(opE zA Sl.v (zd 47 1 [(0,(.int .u8 10))].toArray) w (λx4 w=>opE zA Sl.v (Builtin.append_ #[47,47] 47 [(Sl.v r),(Sl.v x4)].toArray) w (λx5 w=>Cl zA 18 [(Sl.v x5),(.int .u8 x0)].toArray w (λe w=>∃ (r_1:Bool),e=.returned (.bool r_1)/\(Ret r_1 w))))))
set_option maxRecDepth 100000 in
theorem Y1 (x0:Int) (w:World) (Ret:Bool->World->Prop) (H:Qh x0 w Ret):Cl zA 23 [(.int .u8 x0)].toArray w (λe w'=>∃ (r0:Bool),e=.returned (.bool r0)/\Ret r0 w'):=by
 unfold Qh at H
 refine ze 8 (zipE 0 [(.int .u8 x0)]) Tryd.func23 rfl rfl (by rfl) rfl ?_
 intro a g
 have g:Sat [] 8 [(0,(.int .u8 x0))] a:=g
 refine zD (zB (g.s rfl λ_ g=>(zE (tn (zD (zB (g.c (zT g zAy rfl rfl) H λe w H=>?_)))))))
 obtain ⟨r,rfl,H⟩:=H
 refine ⟨_,rfl,λ_ g=>(g.o (y5 g rfl) H λx4 w a H g=>(g.o (Yt g rfl) H λx5 w a H g=>(g.m rfl λ_ g=>(g.c (zT g zBE rfl rfl) H λe w H=>?_))))⟩
 obtain ⟨r_1,rfl,H⟩:=H
 exact ⟨_,rfl,λ_ g=>(g.s rfl λ_ g=>(zE (tn (zV (zU g rfl rfl ⟨_,rfl,H⟩)))))⟩
def zM (Ret:Int->Bool->World->Prop) (x9:Int) (x48:Bool) (w:World):Prop:=
 Ret x9 x48 w
def zQ (x0:Sl) (x1:Int) (x2:Value) (Ret:Int->Bool->World->Prop) (x9:Int) (x10:Int) (w:World) (Kl1:Int->Int->World->Prop):Prop:=
 ((x9<x10)->(opE zA (zH .u64) (Go.convert 3 77 (.int .i64 (zF .i64 (x9+x10)))) w (λx21 w=>opE zA (zH .u64) (binOp .shr 77 (.int .u64 x21) (.int .u64 1)) w (λx22 w=>opE zA (zH .i64) (Go.convert 77 3 (.int .u64 x22)) w (λx23 w=>opE zA zC (zN 24 (Sl.v x0) (.int .i64 x23)) w (λx27 w=>opE zA zL.v (zG 55 (.pointer x27)) w (λx28 w=>zAE zA x2 [(zL.v x28),(.int .i64 x1)] w (λe w=>∃ (r:Int),e=.returned (.int .i64 r)/\(((r<0)->(Kl1 (zF .i64 (x23+1)) x10 w))/\(¬ (r<0)->(Kl1 x9 x23 w)))))))))))/\(¬ (x9<x10)->(((x9<(x0.len:Int))->(opE zA zC (zN 24 (Sl.v x0) (.int .i64 x9)) w (λx43 w=>opE zA zL.v (zG 55 (.pointer x43)) w (λx44 w=>zAE zA x2 [(zL.v x44),(.int .i64 x1)] w (λe w=>∃ (r_1:Int),e=.returned (.int .i64 r_1)/\(zM Ret x9 (decide (r_1=0)) w))))))/\(¬ (x9<(x0.len:Int))->(zM Ret x9 false w))))
def zY (x0:Sl) (x1:Int) (x2:Value) (w:World) (Ret:Int->Bool->World->Prop):Prop:=
 ∃ (I:Int->Int->World->Prop) (μ:Int->Int->World->Nat),I 0 (x0.len:Int) w/\∀ (x9:Int) (x10:Int) w,I x9 x10 w->zQ x0 x1 x2 Ret x9 x10 w (λx9' x10' w'=>I x9' x10' w'/\μ x9' x10' w'<μ x9 x10 w)
set_option maxRecDepth 100000 in
theorem yS (x0:Sl) (x1:Int) (x2:Value) (w:World) (Ret:Int->Bool->World->Prop) (H:zY x0 x1 x2 w Ret):Cl zA 26 [(Sl.v x0),(.int .i64 x1),x2].toArray w (λe w'=>∃ (r0:Int) (r1:Bool),e=.returned (.tuple [(.int .i64 r0),(.bool r1)].toArray)/\Ret r0 r1 w'):=by
 unfold zY at H
 refine ze 49 (zipE 0 [(Sl.v x0),(.int .i64 x1),x2]) Tryd.func26 rfl rfl (by rfl) rfl ?_
 intro a g
 have g:Sat [] 49 [(0,(Sl.v x0)),(1,(.int .i64 x1)),(2,x2)] a:=g
 refine zD (zB (g.s rfl λ_ g=>g.s rfl λ_ g=>zE (tn (zD (zB (g.m rfl λ_ g=>g.purR (λw=>QR g Tryd.underlying24 rfl) λ_ g=>g.s rfl λ_ g=>zE (tn (zD (zB (g.m rfl λ_ g=>g.s rfl λ_ g=>g.s rfl λ_ g=>zE (tn (zD (yh ?_)))))))))))))
 obtain ⟨I_l1,μ_l1,h0,hb⟩:=H
 refine Yc (ds:=[]) (N:=49) (σ:=Int × Int) (λs=>[(9,(.int .i64 s.1)),(10,(.int .i64 s.2)),(0,(Sl.v x0)),(1,(.int .i64 x1)),(2,x2),(8,(.int .i64 (x0.len:Int)))]) (λs w=>I_l1 s.1 s.2 w) (λs w=>μ_l1 s.1 s.2 w) (0,(x0.len:Int)) h0 (g.k) ?_
 rintro ⟨x9,x10⟩ w a hI g
 try dsimp only at hI g
 obtain ⟨Kl1,hK_l1⟩:∃ K:Int->Int->World->Prop,K=(λx9' x10' w'=>I_l1 x9' x10' w'/\μ_l1 x9' x10' w'<μ_l1 x9 x10 w):=⟨_,rfl⟩
 have H:zQ x0 x1 x2 Ret x9 x10 w Kl1:=by rw [hK_l1];exact hb x9 x10 w hI
 clear hb h0 hI
 unfold zQ at H
 refine zD (zD (zB (g.m rfl λ_ g=>g.m rfl λ_ g=>g.p (xm g rfl rfl) λ_ g=>zE (tn (zc g rfl (λhc=>?_) (λhc=>?_))))))
 ·have H:=H.1 hc
  refine zW (tn (yh (zD (zB (g.m rfl λ_ g=>g.m rfl λ_ g=>g.p (xY g rfl rfl) λ_ g=>g.o (yn g rfl) H λx21 w a H g=>g.o (yY g rfl rfl) H λx22 w a H g=>g.o (yn g rfl) H λx23 w a H g=>g.s rfl λ_ g=>zE (tn (zD (zB (g.m rfl λ_ g=>g.m rfl λ_ g=>g.m rfl λ_ g=>g.o (zS g rfl rfl) H λx27 w a H g=>g.o (zg g rfl) H λx28 w a H g=>g.m rfl λ_ g=>g.callV rfl rfl H λe w H=>?_)))))))))
  obtain ⟨r,rfl,H⟩:=H
  refine ⟨_,rfl,λ_ g=>(g.p (xm g rfl rfl) λ_ g=>zE (tn (zc g rfl (λhc=>?_) (λhc=>?_))))⟩
  ·have H:=H.1 hc
   refine zB (g.m rfl λ_ g=>g.p (xY g rfl rfl) λ_ g=>g.s rfl λ_ g=>?_)
   rw [hK_l1] at H
   exact zE (bn (tn ⟨((zF .i64 (x23+1)),x10),g.k,H⟩))
  ·have H:=H.2 hc
   refine zB (g.m rfl λ_ g=>g.s rfl λ_ g=>?_)
   rw [hK_l1] at H
   exact zE (bn (tn ⟨(x9,x23),g.k,H⟩))
 ·have H:=H.2 hc
  refine YD (te (te (be (tn (zD (zB (g.m rfl λ_ g=>g.m rfl λ_ g=>g.m rfl λ_ g=>g.p (xm g rfl rfl) λ_ g=>g.m rfl λ_ g=>WL.join (ds:=[]) (N:=49) (σ:=Bool) (λs=>[(48,(.bool s)),(35,(.int .i64 x9))]) (λs w=>zM Ret x9 s w) 9 ?_ (λhr2=>?_))))))))
  ·intro x48 w a H g
   try dsimp only at H g
   unfold zM at H
   exact g.s rfl λ_ g=>g.s rfl λ_ g=>zE (tn (zV (QN g rfl rfl rfl ⟨_,_,rfl,H⟩)))
  ·rcases Classical.em ((x9<(x0.len:Int))) with hbr2|hbr2
   ·have H:=H.1 hbr2
    have g:=g.b (b:=true) (t:=39) rfl (decide_eq_true hbr2)
    refine g.z (g.m rfl λ_ g=>g.z (g.m rfl λ_ g=>g.z (g.m rfl λ_ g=>g.z (g.o (zS g rfl rfl) H λx43 w a H g=>g.z (g.o (zg g rfl) H λx44 w a H g=>g.z (g.m rfl λ_ g=>g.z (g.callV rfl rfl H λe w H=>?_)))))))
    obtain ⟨r_1,rfl,H⟩:=H
    exact ⟨_,rfl,λ_ g=>(g.z (g.p (ya g rfl rfl) λ_ g=>g.p (zh g rfl rfl) λ_ g=>hr2 (decide (r_1=0)) _ _ H (g.k)))⟩
   ·have H:=H.2 hbr2
    have g:=g.b (b:=false) (t:=39) rfl (decide_eq_false hbr2)
    exact g.d (λ_ g=>g.d (λ_ g=>g.d (λ_ g=>g.d (λ_ g=>g.d (λ_ g=>g.d (λ_ g=>g.d (λ_ g=>g.d (λ_ g=>g.p (zj g rfl rfl) λ_ g=>hr2 false _ _ H (g.k)))))))))
def QH (x0:zL) (x1:Int) (w:World) (Ret:Int->World->Prop):Prop:=
 opE zA zC (Instr.box 55 (zL.v x0)) w (λx2 w=>opE zA zC (zJ 55 (.pointer x2) 0) w (λx5 w=>opE zA (zH .i64) (zG 3 (.pointer x5)) w (λx6 w=>Cl zA 28 [(.int .i64 x6),(.int .i64 x1)].toArray w (λe w=>∃ (r:Int),e=.returned (.int .i64 r)/\(Ret r w)))))
set_option maxRecDepth 100000 in
theorem Yq (x0:zL) (x1:Int) (w:World) (Ret:Int->World->Prop) (H:QH x0 x1 w Ret):Cl zA 27 [(zL.v x0),(.int .i64 x1)].toArray w (λe w'=>∃ (r0:Int),e=.returned (.int .i64 r0)/\Ret r0 w'):=by
 unfold QH at H
 refine ze 9 (zipE 0 [(zL.v x0),(.int .i64 x1)]) Tryd.func27 rfl rfl (by rfl) rfl ?_
 intro a g
 have g:Sat [] 9 [(0,(zL.v x0)),(1,(.int .i64 x1))] a:=g
 refine zD (zB (g.o (zAI g rfl) H λx2 w a H g=>(g.s rfl λ_ g=>(zE (tn (zD (zB (g.o (zO g rfl) H λx5 w a H g=>(g.o (zg g rfl) H λx6 w a H g=>(g.m rfl λ_ g=>(g.c (zT g zBV rfl rfl) H λe w H=>?_)))))))))))
 obtain ⟨r,rfl,H⟩:=H
 exact ⟨_,rfl,λ_ g=>(g.s rfl λ_ g=>(zE (tn (zV (zU g rfl rfl ⟨_,rfl,H⟩)))))⟩
def xq (x0:Int) (x1:Int) (w:World) (Ret:Int->World->Prop):Prop:=
 Cl zA 36 [(.int .i64 x0)].toArray w (λe w=>∃ (r:Bool),e=.returned (.bool r)/\(Cl zA 36 [(.int .i64 x1)].toArray w (λe w=>∃ (r_1:Bool),e=.returned (.bool r_1)/\((r=true->((r_1=true->(Ret 0 w))/\(r_1=false->(Ret (-1) w))))/\(r=false->((r_1=true->(Ret 1 w))/\(r_1=false->(((x0<x1)->(Ret (-1) w))/\(¬ (x0<x1)->(((x1<x0)->(Ret 1 w))/\(¬ (x1<x0)->(Ret 0 w))))))))))))
set_option maxRecDepth 100000 in
theorem Q6 (x0:Int) (x1:Int) (w:World) (Ret:Int->World->Prop) (H:xq x0 x1 w Ret):Cl zA 28 [(.int .i64 x0),(.int .i64 x1)].toArray w (λe w'=>∃ (r0:Int),e=.returned (.int .i64 r0)/\Ret r0 w'):=by
 unfold xq at H
 refine ze 20 (zipE 0 [(.int .i64 x0),(.int .i64 x1)]) Tryd.func28 rfl rfl (by rfl) rfl ?_
 intro a g
 have g:Sat [] 20 [(0,(.int .i64 x0)),(1,(.int .i64 x1))] a:=g
 refine zD (zB (g.s rfl λ_ g=>zE (tn (zD (zB (g.m rfl λ_ g=>g.c (zT g zBB rfl rfl) H λe w H=>?_))))))
 obtain ⟨r,rfl,H⟩:=H
 refine ⟨_,rfl,λ_ g=>(g.s rfl λ_ g=>zE (tn (zD (zB (g.m rfl λ_ g=>g.c (zT g zBB rfl rfl) H λe w H=>?_)))))⟩
 obtain ⟨r_1,rfl,H⟩:=H
 refine ⟨_,rfl,λ_ g=>(g.s rfl λ_ g=>zE (tn (zD (zD (zB (g.m rfl λ_ g=>zE (tn (yH g rfl (λhc=>?_) (λhc=>?_)))))))))⟩
 ·have H:=H.1 hc
  refine zD (zD (zB (g.m rfl λ_ g=>zE (tn (yH g rfl (λhc=>?_) (λhc=>?_))))))
  ·have H:=H.1 hc
   exact zD (zB (g.s rfl λ_ g=>zE (tn (zV (tr (tr (zU g rfl rfl ⟨_,rfl,H⟩)))))))
  ·have H:=H.2 hc
   exact zW (tn (zD (zB (g.s rfl λ_ g=>zE (tn (zV (tr (zU g rfl rfl ⟨_,rfl,H⟩))))))))
 ·have H:=H.2 hc
  refine zW (tn (zD (zD (zB (g.m rfl λ_ g=>zE (tn (yH g rfl (λhc=>?_) (λhc=>?_))))))))
  ·have H:=H.1 hc
   exact zD (zB (g.s rfl λ_ g=>zE (tn (zV (tr (zU g rfl rfl ⟨_,rfl,H⟩))))))
  ·have H:=H.2 hc
   refine zW (tn (zD (zD (zB (g.m rfl λ_ g=>g.m rfl λ_ g=>g.p (xm g rfl rfl) λ_ g=>zE (tn (zc g rfl (λhc=>?_) (λhc=>?_))))))))
   ·have H:=H.1 hc
    exact zD (zB (g.s rfl λ_ g=>zE (tn (zV (tr (zU g rfl rfl ⟨_,rfl,H⟩))))))
   ·have H:=H.2 hc
    refine zW (tn (zD (zD (zB (g.m rfl λ_ g=>g.m rfl λ_ g=>g.p (YO g rfl rfl) λ_ g=>zE (tn (zc g rfl (λhc=>?_) (λhc=>?_))))))))
    ·have H:=H.1 hc
     exact zD (zB (g.s rfl λ_ g=>zE (tn (zV (tr (zU g rfl rfl ⟨_,rfl,H⟩))))))
    ·have H:=H.2 hc
     exact zW (tn (zD (zB (g.s rfl λ_ g=>zE (tn (zV (zU g rfl rfl ⟨_,rfl,H⟩)))))))
def za (x0:Sl) (x1:Int) (Ret:Int->World->Prop) (x8:Int) (w:World) (Kl1:Int->World->Prop):Prop:=
 ((x8<(x0.len:Int))->(opE zA zC (zN 47 (Sl.v x0) (.int .i64 x8)) w (λx14 w=>opE zA (zH .u8) (zG 28 (.pointer x14)) w (λx15 w=>((x1=x15)->(Ret x8 w))/\(¬ (x1=x15)->(Kl1 (zF .i64 (x8+1)) w))))))/\(¬ (x8<(x0.len:Int))->(Ret (-1) w))
def z8 (x0:Sl) (x1:Int) (w:World) (Ret:Int->World->Prop):Prop:=
 ∃ (I:Int->World->Prop) (μ:Int->World->Nat),I 0 w/\∀ (x8:Int) w,I x8 w->za x0 x1 Ret x8 w (λx8' w'=>I x8' w'/\μ x8' w'<μ x8 w)
set_option maxRecDepth 100000 in
theorem y8 (x0:Sl) (x1:Int) (w:World) (Ret:Int->World->Prop) (H:z8 x0 x1 w Ret):Cl zA 29 [(Sl.v x0),(.int .u8 x1)].toArray w (λe w'=>∃ (r0:Int),e=.returned (.int .i64 r0)/\Ret r0 w'):=by
 unfold z8 at H
 refine ze 19 (zipE 0 [(Sl.v x0),(.int .u8 x1)]) Tryd.func29 rfl rfl (by rfl) rfl ?_
 intro a g
 have g:Sat [] 19 [(0,(Sl.v x0)),(1,(.int .u8 x1))] a:=g
 refine zD (zB (g.s rfl λ_ g=>zE (tn (zD (zD (zB (g.m rfl λ_ g=>g.purR (λw=>QR g Tryd.underlying47 rfl) λ_ g=>g.m rfl λ_ g=>zE (tn (yh ?_)))))))))
 obtain ⟨I_l1,μ_l1,h0,hb⟩:=H
 refine Yc (ds:=[]) (N:=19) (σ:=Int) (λs=>[(8,(.int .i64 s)),(0,(Sl.v x0)),(1,(.int .u8 x1)),(7,(.int .i64 (x0.len:Int)))]) (λs w=>I_l1 s w) (λs w=>μ_l1 s w) 0 h0 (g.k) ?_
 intro x8 w a hI g
 try dsimp only at hI g
 obtain ⟨Kl1,hK_l1⟩:∃ K:Int->World->Prop,K=(λx8' w'=>I_l1 x8' w'/\μ_l1 x8' w'<μ_l1 x8 w):=⟨_,rfl⟩
 have H:za x0 x1 Ret x8 w Kl1:=by rw [hK_l1];exact hb x8 w hI
 clear hb h0 hI
 unfold za at H
 refine zD (zB (g.p (xm g rfl rfl) λ_ g=>zE (tn (zD (zc g rfl (λhc=>?_) (λhc=>?_))))))
 ·have H:=H.1 hc
  refine zW (tn (zD (yh (zD (zB (g.m rfl λ_ g=>g.s rfl λ_ g=>zE (tn (zD (zB (g.m rfl λ_ g=>g.m rfl λ_ g=>g.m rfl λ_ g=>g.o (zS g rfl rfl) H λx14 w a H g=>g.o (zg g rfl) H λx15 w a H g=>g.p (ya g rfl rfl) λ_ g=>zE (tn (zc g rfl (λhc=>?_) (λhc=>?_)))))))))))))
  ·have H:=H.1 hc
   exact zD (zB (g.m rfl λ_ g=>g.s rfl λ_ g=>zE (tn (zV (br (tr (tr (br (tr (zU g rfl rfl ⟨_,rfl,H⟩))))))))))
  ·have H:=H.2 hc
   refine zW (bn (tn (zB (g.p (xY g rfl rfl) λ_ g=>g.m rfl λ_ g=>?_))))
   rw [hK_l1] at H
   exact zE (tn ⟨(zF .i64 (x8+1)),g.k,H⟩)
 ·have H:=H.2 hc
  exact YD (te (te (be (tn (zD (zB (g.s rfl λ_ g=>zE (tn (zV (zU g rfl rfl ⟨_,rfl,H⟩))))))))))
def xL (Ret:Bool->World->Prop) (x8:Bool) (w:World):Prop:=
 Ret x8 w
def Qb (x0:Int) (w:World) (Ret:Bool->World->Prop):Prop:=
 ((0<x0)->(xL Ret (decide (x0<7)) w))/\(¬ (0<x0)->(xL Ret false w))
set_option maxRecDepth 100000 in
theorem Y5 (x0:Int) (w:World) (Ret:Bool->World->Prop) (H:Qb x0 w Ret):Cl zA 30 [(.int .u8 x0)].toArray w (λe w'=>∃ (r0:Bool),e=.returned (.bool r0)/\Ret r0 w'):=by
 unfold Qb at H
 refine ze 9 (zipE 0 [(.int .u8 x0)]) Tryd.func30 rfl rfl (by rfl) rfl ?_
 intro a g
 have g:Sat [] 9 [(0,(.int .u8 x0))] a:=g
 refine zD (zB (g.s rfl λ_ g=>zE (tn (zD (zB (g.m rfl λ_ g=>g.p (YO g rfl rfl) λ_ g=>g.m rfl λ_ g=>WL.join (ds:=[]) (N:=9) (σ:=Bool) (λs=>[(8,(.bool s))]) (λs w=>xL Ret s w) 3 ?_ (λhr1=>?_)))))))
 ·intro x8 w a H g
  try dsimp only at H g
  unfold xL at H
  exact g.s rfl λ_ g=>zE (tn (zV (zU g rfl rfl ⟨_,rfl,H⟩)))
 ·rcases Classical.em ((0<x0)) with hbr1|hbr1
  ·have H:=H.1 hbr1
   have g:=g.b (b:=true) (t:=5) rfl (decide_eq_true hbr1)
   exact g.z (g.m rfl λ_ g=>g.z (g.p (xm g rfl rfl) λ_ g=>g.p (zh g rfl rfl) λ_ g=>hr1 (decide (x0<7)) _ _ H (g.k)))
  ·have H:=H.2 hbr1
   have g:=g.b (b:=false) (t:=5) rfl (decide_eq_false hbr1)
   exact g.d (λ_ g=>g.d (λ_ g=>g.p (zj g rfl rfl) λ_ g=>hr1 false _ _ H (g.k)))
def Qf (w:World) (Ret:(Array Value)->World->Prop):Prop:=
 opE zA zC (z6 72 true (.tuple #[])) w (λx0 w=>opE zA Value.agg (yI 71 [(0,(.int .u8 1))].toArray) w (λx1 w=>opE zA Value.agg (yI 71 [(1,(.int .u8 2))].toArray) w (λx2 w=>opE zA Value.agg (yI 71 [(2,(.int .u8 3))].toArray) w (λx3 w=>opE zA Value.agg (yI 71 [(1,(.int .u8 4))].toArray) w (λx4 w=>opE zA Value.agg (yI 71 [(2,(.int .u8 5)),(3,(.int .u8 5))].toArray) w (λx5 w=>opE zA Value.agg (yI 71 [(5,(.int .u8 6))].toArray) w (λx6 w=>opE zA Value.agg (yI 72 [(1,(.agg x1)),(2,(.agg x2)),(3,(.agg x3)),(4,(.agg x4)),(5,(.agg x5)),(6,(.agg x6))].toArray) w (λx7 w=>opU zA (zK 72 (.pointer x0) (.agg x7)) w (λw=>opR zA Value.agg 72 x0 w (λq=>Ret q w))))))))))
set_option maxRecDepth 100000 in
theorem Y9 (w:World) (Ret:(Array Value)->World->Prop) (H:Qf w Ret):Cl zA 31 [].toArray w (λe w'=>∃ (r0:Array Value),e=.returned (.agg r0)/\Ret r0 w'):=by
 unfold Qf at H
 refine ze 8 (zipE 0 []) Tryd.func31 rfl rfl (by rfl) rfl ?_
 intro a g
 have g:Sat [] 8 [] a:=g
 refine zD (zB (g.o (YM) H λx0 w a H g=>zE (tn (zD (zB (g.o (xX g rfl) H λx1 w a H g=>g.o (xX g rfl) H λx2 w a H g=>g.o (xX g rfl) H λx3 w a H g=>g.o (xX g rfl) H λx4 w a H g=>g.o (xX g rfl) H λx5 w a H g=>g.o (xX g rfl) H λx6 w a H g=>g.o (xX g rfl) H λx7 w a H g=>g.h (yE g rfl rfl) H λw a H g=>zE (tn ?_)))))))
 obtain ⟨q,ad,hp,hl,H⟩:=H
 exact zV (Zc g (rs:=[.cell 0 72]) (vs:=[(.agg q)]) rfl ⟨⟨ad,by rw [← hp];rfl,hl⟩,trivial⟩ ⟨_,rfl,H⟩)
def zZ (x0:Sl) (x1:Int) (Ret:Int->World->Prop) (x8:Int) (w:World) (Kl1:Int->World->Prop):Prop:=
 ((x8<(x0.len:Int))->(opE zA zC (zN 61 (Sl.v x0) (.int .i64 x8)) w (λx14 w=>opE zA (zH .u8) (zG 37 (.pointer x14)) w (λx15 w=>((x1=x15)->(Ret x8 w))/\(¬ (x1=x15)->(Kl1 (zF .i64 (x8+1)) w))))))/\(¬ (x8<(x0.len:Int))->(Ret (-1) w))
def z7 (x0:Sl) (x1:Int) (w:World) (Ret:Int->World->Prop):Prop:=
 ∃ (I:Int->World->Prop) (μ:Int->World->Nat),I 0 w/\∀ (x8:Int) w,I x8 w->zZ x0 x1 Ret x8 w (λx8' w'=>I x8' w'/\μ x8' w'<μ x8 w)
set_option maxRecDepth 100000 in
theorem xM (x0:Sl) (x1:Int) (w:World) (Ret:Int->World->Prop) (H:z7 x0 x1 w Ret):Cl zA 34 [(Sl.v x0),(.int .u8 x1)].toArray w (λe w'=>∃ (r0:Int),e=.returned (.int .i64 r0)/\Ret r0 w'):=by
 unfold z7 at H
 refine ze 19 (zipE 0 [(Sl.v x0),(.int .u8 x1)]) Tryd.func34 rfl rfl (by rfl) rfl ?_
 intro a g
 have g:Sat [] 19 [(0,(Sl.v x0)),(1,(.int .u8 x1))] a:=g
 refine zD (zB (g.s rfl λ_ g=>zE (tn (zD (zD (zB (g.m rfl λ_ g=>g.purR (λw=>QR g Tryd.underlying61 rfl) λ_ g=>g.m rfl λ_ g=>zE (tn (yh ?_)))))))))
 obtain ⟨I_l1,μ_l1,h0,hb⟩:=H
 refine Yc (ds:=[]) (N:=19) (σ:=Int) (λs=>[(8,(.int .i64 s)),(0,(Sl.v x0)),(1,(.int .u8 x1)),(7,(.int .i64 (x0.len:Int)))]) (λs w=>I_l1 s w) (λs w=>μ_l1 s w) 0 h0 (g.k) ?_
 intro x8 w a hI g
 try dsimp only at hI g
 obtain ⟨Kl1,hK_l1⟩:∃ K:Int->World->Prop,K=(λx8' w'=>I_l1 x8' w'/\μ_l1 x8' w'<μ_l1 x8 w):=⟨_,rfl⟩
 have H:zZ x0 x1 Ret x8 w Kl1:=by rw [hK_l1];exact hb x8 w hI
 clear hb h0 hI
 unfold zZ at H
 refine zD (zB (g.p (xm g rfl rfl) λ_ g=>zE (tn (zD (zc g rfl (λhc=>?_) (λhc=>?_))))))
 ·have H:=H.1 hc
  refine zW (tn (zD (yh (zD (zB (g.m rfl λ_ g=>g.s rfl λ_ g=>zE (tn (zD (zB (g.m rfl λ_ g=>g.m rfl λ_ g=>g.m rfl λ_ g=>g.o (zS g rfl rfl) H λx14 w a H g=>g.o (zg g rfl) H λx15 w a H g=>g.p (ya g rfl rfl) λ_ g=>zE (tn (zc g rfl (λhc=>?_) (λhc=>?_)))))))))))))
  ·have H:=H.1 hc
   exact zD (zB (g.m rfl λ_ g=>g.s rfl λ_ g=>zE (tn (zV (br (tr (tr (br (tr (zU g rfl rfl ⟨_,rfl,H⟩))))))))))
  ·have H:=H.2 hc
   refine zW (bn (tn (zB (g.p (xY g rfl rfl) λ_ g=>g.m rfl λ_ g=>?_))))
   rw [hK_l1] at H
   exact zE (tn ⟨(zF .i64 (x8+1)),g.k,H⟩)
 ·have H:=H.2 hc
  exact YD (te (te (be (tn (zD (zB (g.s rfl λ_ g=>zE (tn (zV (zU g rfl rfl ⟨_,rfl,H⟩))))))))))
def QD (x0:Int) (w:World) (Ret:Bool->World->Prop):Prop:=
 Ret (decide (x0≠x0)) w
set_option maxRecDepth 100000 in
theorem YV (x0:Int) (w:World) (Ret:Bool->World->Prop) (H:QD x0 w Ret):Cl zA 36 [(.int .i64 x0)].toArray w (λe w'=>∃ (r0:Bool),e=.returned (.bool r0)/\Ret r0 w'):=by
 unfold QD at H
 refine ze 6 (zipE 0 [(.int .i64 x0)]) Tryd.func36 rfl rfl (by rfl) rfl ?_
 intro a g
 have g:Sat [] 6 [(0,(.int .i64 x0))] a:=g
 exact zD (zB (g.s rfl λ_ g=>(zE (tn (zD (zB (g.m rfl λ_ g=>(g.m rfl λ_ g=>(g.p (Q3 g rfl rfl) λ_ g=>(g.s rfl λ_ g=>(zE (tn (zV (zU g rfl rfl ⟨_,rfl,H⟩))))))))))))))
end Go.Proofs.YtjlfegnhomgjhaaDoor.VG
set_option linter.unusedVariables false
set_option linter.unusedSimpArgs false
namespace Go.Proofs.YtjlfegnhomgjhaaDoor.VG
open Go.VB Go.Proofs
def z5 (x0:Sl) (x1:Int) (x2:Sl) (w:World) (Ret:Sl->World->Prop):Prop:=
 opE zA Sl.v (Instr.sliceAt 24 (Sl.v x0) (some (.int .i64 x1)) none none) w (λx12 w=>(((x2.len:Int)=0)->(Ret x0 w))/\(¬ ((x2.len:Int)=0)->(((x1=(x0.len:Int))->(opE zA Sl.v (Builtin.append_ #[24,24] 24 [(Sl.v x0),(Sl.v x2)].toArray) w (λx25 w=>Ret x25 w)))/\(¬ (x1=(x0.len:Int))->False))))
set_option maxRecDepth 100000 in
theorem yy (x0:Sl) (x1:Int) (x2:Sl) (w:World) (Ret:Sl->World->Prop) (H:z5 x0 x1 x2 w Ret):Cl zA 21 [(Sl.v x0),(.int .i64 x1),(Sl.v x2)].toArray w (λe w'=>∃ (r0:Sl),e=.returned (Sl.v r0)/\Ret r0 w'):=by
 unfold z5 at H
 refine ze 95 (zipE 0 [(Sl.v x0),(.int .i64 x1),(Sl.v x2)]) Tryd.func21 rfl rfl (by rfl) rfl ?_
 intro a g
 have g:Sat [] 95 [(0,(Sl.v x0)),(1,(.int .i64 x1)),(2,(Sl.v x2))] a:=g
 refine zD (zB (g.s rfl λ_ g=>zE (tn (zD (zB (g.m rfl λ_ g=>g.m rfl λ_ g=>g.o (Qy g rfl rfl rfl rfl) H λx12 w a H g=>zE (tn (zD (zB (g.m rfl λ_ g=>g.purR (λw=>QR g Tryd.underlying24 rfl) λ_ g=>g.s rfl λ_ g=>zE (tn (zD (zD (zB (g.m rfl λ_ g=>g.p (ya g rfl rfl) λ_ g=>zE (tn (zc g rfl (λhc=>?_) (λhc=>?_))))))))))))))))))
 ·have H:=H.1 hc
  exact zD (zB (g.m rfl λ_ g=>g.s rfl λ_ g=>zE (tn (zV (tr (zU g rfl rfl ⟨_,rfl,H⟩))))))
 ·have H:=H.2 hc
  refine zW (tn (zD (zB (g.m rfl λ_ g=>g.purR (λw=>QR g Tryd.underlying24 rfl) λ_ g=>g.s rfl λ_ g=>zE (tn (zD (zD (zB (g.m rfl λ_ g=>g.m rfl λ_ g=>g.p (ya g rfl rfl) λ_ g=>zE (tn (zc g rfl (λhc=>?_) (λhc=>?_))))))))))))
  ·have H:=H.1 hc
   exact zD (zB (g.m rfl λ_ g=>g.m rfl λ_ g=>g.o (Yt g rfl) H λx25 w a H g=>g.s rfl λ_ g=>zE (tn (zV (tr (zU g rfl rfl ⟨_,rfl,H⟩))))))
  ·exact (H.2 hc).elim
end Go.Proofs.YtjlfegnhomgjhaaDoor.VG
