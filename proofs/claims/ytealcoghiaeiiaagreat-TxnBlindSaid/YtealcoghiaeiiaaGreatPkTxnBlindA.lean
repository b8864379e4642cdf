/- Texts by which the law's calls are walked (part 1): rules, printed conditions, contracts; no condition. -/
import Derived.TacticsIn
import Derived.TacticsInMore
import Derived.Deep.LoopGhost
import Derived.Sort.QuietThIn
import Derived.RangeFuncCalls
import Derived.RangeFuncNested
import Derived.RangeFuncLeaves
import Derived.WalkKit
import Derived.StillTail
import Derived.Test.YtealcoghiaeiiaaGreatProg
import Derived.KernelRfl
open Go.Proofs.Tryz renaming prog → zA
open Go.IntKind renaming wrap → zB
open Go.Value renaming pointer → zC, int → zV, string → zY, bool → Qq
open Go.Instr renaming loadAt → zD, storeAt → zK, indexAt → zF, fieldAt → zO, alloc → zk, build → QC, buildSlice → zc
open Nat renaming le_refl → zU, le_trans → ze, lt_of_lt_of_le → xf
open List renaming length_append → zy
set_option linter.unusedVariables false
set_option linter.unusedSimpArgs false
namespace Go.VB
abbrev Env:=List (Nat × Value)
def lk:Env->Nat->Option Value
 |[],_=>none
 |(k,v)::r,t=>bif Nat.beq k t then some v else lk r t
def ev (E:Env):Operand->Option Value
 |.tmp t=>lk E t
 |.const v=>some v
 |.global g=>some (.pointer (some ⟨g,0,none⟩))
 |.func f=>some (.func (.func f) #[] #[])
def zMw (E:Env):Env->Prop
 |[]=>True
 |(k,v)::r=>lk E k=some v/\zMw E r
structure Sat (ds:List Deferred) (N:Nat) (E:Env) (a:Act):Prop where
 size:a.tmps.size=N
 vals:∀ t v,lk E t=some v->a.tmps.getD t undef=v
 defs:a.defers=ds
theorem zLO {m n:Nat} (h:¬ m=n):Nat.beq m n=false:=by
 cases hb:Nat.beq m n
 ·rfl
 ·exact absurd (Nat.eq_of_beq_eq_true hb) h
theorem zQF {m n:Nat} (h:Nat.beq m n=false):¬ m=n:=by
 rintro rfl;simp at h
theorem Sat.ev {ds:List Deferred} {N:Nat} {E:Env} {a:Act} (h:Sat ds N E a) {x:Operand} {v:Value} (hx:ev E x=some v):a.eval x=v:=by
 cases x with
 |tmp t=>exact h.vals t v hx
 |const c=>exact Option.some.inj hx
 |global g=>exact Option.some.inj hx
 |func f=>exact Option.some.inj hx
theorem Sat.put {ds:List Deferred} {N:Nat} {E:Env} {a:Act} (h:Sat ds N E a) {d:Nat} (hd:Nat.blt d N=true) (v:Value):Sat ds N ((d,v)::E) (a.put (some d) v):=by
 have hd':d<N:=by simpa [Nat.blt_eq] using hd
 refine ⟨by simp [Act.put,h.size],λt u hu=>?_,h.defs⟩
 by_cases e:d=t
 ·subst e
  have:u=v:=by
   have h1:(bif Nat.beq d d then some v else lk E d)=some u:=hu
   rw [show Nat.beq d d=true from by simp] at h1
   exact (Option.some.inj h1).symm
  subst this
  simp [Act.put,Array.getD_eq_getD_getElem?,Array.getElem?_setIfInBounds,h.size,hd']
 ·have h1:(bif Nat.beq d t then some v else lk E t)=some u:=hu
  rw [show Nat.beq d t=false from zLO e] at h1
  have:=h.vals t u h1
  simpa [Act.put,Array.getD_eq_getD_getElem?,Array.getElem?_setIfInBounds,e] using this
theorem zL0 {E:Env}:∀ {E':Env},zMw E E'->∀ t v,lk E' t=some v->lk E t=some v
 |[],_,_,_,h=>by cases h
 |(k,u)::r,hA,t,v,h=>by
  by_cases e:k=t
  ·subst e
   have h1:(bif Nat.beq k k then some u else lk r k)=some v:=h
   rw [show Nat.beq k k=true from by simp] at h1
   rw [← Option.some.inj h1];exact hA.1
  ·have h1:(bif Nat.beq k t then some u else lk r t)=some v:=h
   rw [show Nat.beq k t=false from zLO e] at h1
   exact zL0 hA.2 t v h1
theorem Sat.weak {ds:List Deferred} {N:Nat} {E E':Env} {a:Act} (h:Sat ds N E a) (hA:zMw E E'):Sat ds N E' a:=⟨h.size,λt v hv=>h.vals t v (zL0 hA t v hv),h.defs⟩
theorem Sat.wk {ds:List Deferred} {N:Nat} {E E':Env} {a:Act} (h:Sat ds N E a) (hA:zMw E E':=by (repeat (refine ⟨rfl,?_⟩));exact trivial):Sat ds N E' a:=h.weak hA
theorem Sat.getq {ds:List Deferred} {N:Nat} {E:Env} {a:Act} (h:Sat ds N E a) {t:Nat} {v:Value} (hv:lk E t=some v):a.tmps[t]?.getD undef=v:=by
 have:=h.vals t v hv
 simpa [Array.getD_eq_getD_getElem?] using this
theorem Sat.enter {N:Nat} {E:Env} (args:Array Value) (hN:args.size<=N) (hE:∀ t v,lk E t=some v->args[t]?=some v):
  Sat [] N E {tmps:=args++Array.replicate (N - args.size) undef,defers:=[]}:=by
 refine ⟨by simp;omega,λt v hv=>?_,rfl⟩
 have h:=hE t v hv
 have hlt:t<args.size:=by
  rw [Array.getElem?_eq_some_iff] at h;exact h.1
 simp [Array.getD_eq_getD_getElem?,Array.getElem?_append,hlt]
 exact (Array.getElem?_eq_some_iff.1 h).2
abbrev FW (ro:Option Nat):Fence:={Fence.wide with round:=ro}
abbrev Cl (P:Program) (f:FuncId) (args:Array Value) (w:World) (R:Ending->World->Prop):Prop:=CallsIn (FW none) 0 P f args w R
theorem Cl.calls {P:Program} {f:FuncId} {args:Array Value} {w:World} {R:Ending->World->Prop} (h:Cl P f args w R):Calls P f args w R:=callsIn_wide.1 h
def opE {τ:Type} (P:Program) (enc:τ->Value) (s:Sem Value) (w:World) (k:τ->World->Prop):Prop:=∃ x w',s.run P w=.ok (enc x) w'/\k x w'
def opU (P:Program) (s:Sem Unit) (w:World) (k:World->Prop):Prop:=∃ w',s.run P w=.ok () w'/\k w'
section
variable {ro:Option Nat} {P:Program} {ops:Array Oper} {Q:Exit->Act->World->Prop} {ds:List Deferred} {N:Nat} {E:Env} {a:Act} {w:World} {rest:List Oper} {o:Oper}
abbrev WL (ro:Option Nat) (P:Program) (ops:Array Oper) (Q:Exit->Act->World->Prop) (l:List Oper) (a:Act) (w:World):Prop:=wpListIn (FW ro) 0 P ops Q l a w
abbrev WC (ro:Option Nat) (P:Program) (c:Code) (Q:Exit->Act->World->Prop) (a:Act) (w:World):Prop:=Code.wpIn (FW ro) 0 P c Q a w
theorem zML (hg:o.guard=none) (hnd:∀ c,o.op≠.defer c) {v:Value} {w':World} (hr:(execOp a.eval o).run P w=.ok (.value v) w')
  (h:WL ro P ops Q rest (a.put o.dst v) w'):WL ro P ops Q (o::rest) a w:=by
 unfold WL wpListIn
 rw [if_pos (by simp [Region.wanted,hg])]
 refine ⟨λ_ _=>trivial,?_⟩
 rw [Oper.semAt_eq _ _ _ hnd,hr]
 exact h
theorem zPi (hg:o.guard=none) (hnd:∀ c,o.op≠.defer c) {w':World} (hr:(execOp a.eval o).run P w=.ok .skip w')
  (h:WL ro P ops Q rest (a.put o.dst undef) w'):WL ro P ops Q (o::rest) a w:=by
 unfold WL wpListIn
 rw [if_pos (by simp [Region.wanted,hg])]
 refine ⟨λ_ _=>trivial,?_⟩
 rw [Oper.semAt_eq _ _ _ hnd,hr]
 exact h
theorem zNH (hg:o.guard=none) (hnd:∀ c,o.op≠.defer c) {f:FuncId} {args:Array Value} {w':World} (hr:(execOp a.eval o).run P w=.ok (.enter f args) w')
  {R:Ending->World->Prop} (hc:Cl P f args w' R)
  (h:∀ e w'',R e w''->∃ v,e=.returned v/\WL ro P ops Q rest (a.put o.dst v) w''):WL ro P ops Q (o::rest) a w:=by
 unfold WL wpListIn
 rw [if_pos (by simp [Region.wanted,hg])]
 refine ⟨λ_ _=>trivial,?_⟩
 rw [Oper.semAt_eq _ _ _ hnd,hr,Oper.uponIn_enter]
 refine ⟨λh=>by simp [FW,Fence.wide] at h,?_⟩
 have hc':CallsIn (FW ro) 0 P f args w' R:=hc
 refine CallsIn.mono hc' λe w'' hR=>?_
 obtain ⟨v,rfl,hv⟩:=h e w'' hR
 exact hv
theorem Sat.val (hE:Sat ds N E a) {τ:Type} {enc:τ->Value} {s:Sem Value} {k:τ->World->Prop} {op:Op} {ty:TypeId} {pos:String} {aft:Array Edge} {d:Nat}
  (he:execOp a.eval ⟨some d,op,ty,pos,aft,none⟩=s >>= λv=>pure (.value v)) (hnd:∀ c,op≠.defer c) (hN:Nat.blt d N=true) (H:opE P enc s w k)
  (next:∀ x w' a',k x w'->Sat ds N ((d,enc x)::E) a'->WL ro P ops Q rest a' w'):WL ro P ops Q (⟨some d,op,ty,pos,aft,none⟩::rest) a w:=by
 obtain ⟨x,w',hr,hk⟩:=H
 exact zML rfl hnd (v:=enc x) (w':=w') (by rw [he];simp [hr]) (next x w' _ hk (hE.put hN _))
theorem Sat.unit (hE:Sat ds N E a) {s:Sem Unit} {k:World->Prop} {op:Op} {ty:TypeId} {pos:String} {aft:Array Edge}
  (he:execOp a.eval ⟨none,op,ty,pos,aft,none⟩=s >>= λ_=>pure .skip) (hnd:∀ c,op≠.defer c) (H:opU P s w k)
  (next:∀ w' a',k w'->Sat ds N E a'->WL ro P ops Q rest a' w'):WL ro P ops Q (⟨none,op,ty,pos,aft,none⟩::rest) a w:=by
 obtain ⟨w',hr,hk⟩:=H
 exact zPi rfl hnd (w':=w') (by rw [he];simp [hr]) (next w' _ hk hE)
theorem Sat.pure (hE:Sat ds N E a) {op:Op} {ty:TypeId} {pos:String} {aft:Array Edge} {d:Nat} {v:Value}
  (he:(execOp a.eval ⟨some d,op,ty,pos,aft,none⟩).run P w=.ok (.value v) w) (hnd:∀ c,op≠.defer c) (hN:Nat.blt d N=true)
  (next:∀ a',Sat ds N ((d,v)::E) a'->WL ro P ops Q rest a' w):WL ro P ops Q (⟨some d,op,ty,pos,aft,none⟩::rest) a w:=
 zML rfl hnd he (next _ (hE.put hN _))
end
def evL (E:Env):List Operand->Option (List Value)
 |[]=>some []
 |x::r=>match VB.ev E x,evL E r with
  |some v,some l=>some (v::l)
  |_,_=>none
theorem Sat.evL {ds:List Deferred} {N:Nat} {E:Env} {a:Act} (h:Sat ds N E a):∀ {xs:List Operand} {vs:List Value},VB.evL E xs=some vs->xs.map a.eval=vs
 |[],vs,hx=>by simp [VB.evL] at hx;simp [hx]
 |x::r,vs,hx=>by
  unfold VB.evL at hx
  cases h1:VB.ev E x with
  |none=>rw [h1] at hx;cases hx
  |some v=>
   cases h2:VB.evL E r with
   |none=>rw [h1,h2] at hx;cases hx
   |some l=>
    rw [h1,h2] at hx
    obtain rfl:=Option.some.inj hx
    simp [h.ev h1,h.evL h2]
theorem Sat.evA {ds:List Deferred} {N:Nat} {E:Env} {a:Act} (h:Sat ds N E a) {xs:List Operand} {vs:List Value} (hx:VB.evL E xs=some vs):xs.toArray.map a.eval=vs.toArray:=by
 rw [← h.evL hx];simp
structure Sl where
 a:Option Addr
 len:Nat
 cap:Nat
abbrev Sl.v (s:Sl):Value:=.slice s.a s.len s.cap
abbrev Sl.none:Sl:=⟨Option.none,0,0⟩
def QS:Value->Prop
 |.pointer none|.nilIface|.nilFunc=>False
 |.func (.method _) _ _=>False
 |_=>True
def sLt (x y:ByteArray):Bool:=Op.bytesLess x.toList y.toList
theorem zFT (x y:ByteArray):(x.toList==y.toList)=decide (x=y):=by
 by_cases h:x=y
 ·subst h;simp
 ·have:x.toList≠y.toList:=by
   intro e
   apply h
   have h1:=ByteArray.toList_eq (bs:=x)
   have h2:=ByteArray.toList_eq (bs:=y)
   rw [h1,h2] at e
   cases x;cases y
   simp at e
   simp [e]
  simp [h,this]
section
variable {ds:List Deferred} {N:Nat} {E:Env} {a:Act} {d:Option Tmp} {ty:TypeId} {pos:String} {aft:Array Edge}
abbrev pv (s:Sem Value):Sem Next:=s >>= λv=>Pure.pure (.value v)
abbrev pn (v:Value):Sem Next:=Pure.pure (.value v)
abbrev pu (s:Sem Unit):Sem Next:=s >>= λ_=>Pure.pure .skip
theorem zQ (hE:Sat ds N E a) {x v} (hx:ev E x=some v):execOp a.eval ⟨d,.move x,ty,pos,aft,none⟩=pn v:=by rw [← hE.ev hx];rfl
theorem Yt (hE:Sat ds N E a) {x v} (hx:ev E x=some v):execOp a.eval ⟨d,.assign x,ty,pos,aft,none⟩=pn v:=by rw [← hE.ev hx];rfl
theorem zu (hE:Sat ds N E a) {c x y v} (hc:ev E c=some (.bool true)) (hx:ev E x=some v):execOp a.eval ⟨d,.pick c x y,ty,pos,aft,none⟩=pn v:=by
 rw [← hE.ev hx];simp [execOp,hE.ev hc,asBool]
theorem zv (hE:Sat ds N E a) {c x y v} (hc:ev E c=some (.bool false)) (hx:ev E y=some v):execOp a.eval ⟨d,.pick c x y,ty,pos,aft,none⟩=pn v:=by
 rw [← hE.ev hx];simp [execOp,hE.ev hc,asBool]
theorem YW {e:TypeId}:execOp a.eval ⟨d,.alloc e,ty,pos,aft,none⟩=pv (zk e true (.tuple #[])):=rfl
theorem zBa (hE:Sat ds N E a) {e x v} (hx:ev E x=some v):execOp a.eval ⟨d,.box e x,ty,pos,aft,none⟩=pv (Instr.box e v):=by rw [← hE.ev hx];rfl
theorem zN (hE:Sat ds N E a) {t x v} (hx:ev E x=some v):execOp a.eval ⟨d,.load t x,ty,pos,aft,none⟩=pv (zD t v):=by rw [← hE.ev hx];rfl
theorem zT (hE:Sat ds N E a) {t x y v u} (hx:ev E x=some v) (hy:ev E y=some u):execOp a.eval ⟨d,.store t x y,ty,pos,aft,none⟩=pu (zK t v u):=by rw [← hE.ev hx,← hE.ev hy];rfl
theorem zj (hE:Sat ds N E a) {x v} (hx:ev E x=some v) (h:QS v):execOp a.eval ⟨d,.nilCheck x,ty,pos,aft,none⟩=pn v:=by
 have e:=hE.ev hx
 unfold execOp
 simp only [e]
 unfold QS at h
 split<;>first|(exfalso;exact h)|(simp_all;done)|rfl|skip
theorem zJA {t:TypeId}:execOp a.eval ⟨d,.makeMap t none,ty,pos,aft,none⟩=pv (Instr.makeMap t none):=rfl
theorem zP7 (hE:Sat ds N E a) {t x y v u} (hx:ev E x=some v) (hy:ev E y=some u):execOp a.eval ⟨d,.makeSlice t x y,ty,pos,aft,none⟩=pv (Instr.makeSlice t v u):=by rw [← hE.ev hx,← hE.ev hy];rfl
theorem zS (hE:Sat ds N E a) {s x f v} (hx:ev E x=some v):execOp a.eval ⟨d,.fieldAddr s x f,ty,pos,aft,none⟩=pv (zO s v f):=by rw [← hE.ev hx];rfl
theorem zRr (hE:Sat ds N E a) {s x f v} (hx:ev E x=some v):execOp a.eval ⟨d,.field s x f,ty,pos,aft,none⟩=pv (Instr.field s v f):=by rw [← hE.ev hx];rfl
theorem zH (hE:Sat ds N E a) {t x y v u} (hx:ev E x=some v) (hy:ev E y=some u):execOp a.eval ⟨d,.indexAddr t x y,ty,pos,aft,none⟩=pv (zF t v u):=by rw [← hE.ev hx,← hE.ev hy];rfl
theorem zPL (hE:Sat ds N E a) {t x y v u} (hx:ev E x=some v) (hy:ev E y=some u):execOp a.eval ⟨d,.index t x y,ty,pos,aft,none⟩=pv (Instr.index t v u):=by rw [← hE.ev hx,← hE.ev hy];rfl
theorem zHc (hE:Sat ds N E a) {t x y ok v u} (hx:ev E x=some v) (hy:ev E y=some u):execOp a.eval ⟨d,.lookup t x y ok,ty,pos,aft,none⟩=pv (Instr.lookup t v u ok):=by rw [← hE.ev hx,← hE.ev hy];rfl
theorem zHZ (hE:Sat ds N E a) {t m k x vm vk vx} (hm:ev E m=some vm) (hk:ev E k=some vk) (hx:ev E x=some vx):execOp a.eval ⟨d,.mapUpdate t m k x,ty,pos,aft,none⟩=pu (Instr.mapUpdate t vm vk vx):=by rw [← hE.ev hm,← hE.ev hk,← hE.ev hx];rfl
theorem zRg (hE:Sat ds N E a) {t m k x vm vk vx} (hm:ev E m=some vm) (hk:ev E k=some vk) (hx:ev E x=some vx):execOp a.eval ⟨d,.insert t m k x,ty,pos,aft,none⟩=pu (Instr.mapUpdate t vm vk vx):=by rw [← hE.ev hm,← hE.ev hk,← hE.ev hx];rfl
theorem zQR (hE:Sat ds N E a) {t x y v u} (hx:ev E x=some v) (hy:ev E y=some u):execOp a.eval ⟨d,.mapEntry t x y,ty,pos,aft,none⟩=pv (Instr.mapEntry t v u):=by rw [← hE.ev hx,← hE.ev hy];rfl
theorem zPR (hE:Sat ds N E a) {t m k x vm vk vx} (hm:ev E m=some vm) (hk:ev E k=some vk) (hx:ev E x=some vx):execOp a.eval ⟨d,.entryStore t m k x,ty,pos,aft,none⟩=pu (Instr.entryStore t vm vk vx):=by rw [← hE.ev hm,← hE.ev hk,← hE.ev hx];rfl
theorem zKy (hE:Sat ds N E a) {t x v} (hx:ev E x=some v):execOp a.eval ⟨d,.range t x,ty,pos,aft,none⟩=pv (Instr.range t v):=by rw [← hE.ev hx];rfl
theorem zMi (hE:Sat ds N E a) {x s v} (hx:ev E x=some v):execOp a.eval ⟨d,.next x s,ty,pos,aft,none⟩=pv (Instr.next v s ty):=by rw [← hE.ev hx];rfl
theorem zLI (hE:Sat ds N E a) {x v} (hx:ev E x=some v):execOp a.eval ⟨d,.entry x,ty,pos,aft,none⟩=pv (Instr.entry v):=by rw [← hE.ev hx];rfl
theorem zBR (hE:Sat ds N E a) {s t x v} (hx:ev E x=some v):execOp a.eval ⟨d,.convert s t x,ty,pos,aft,none⟩=pv (Go.convert s t v):=by rw [← hE.ev hx];rfl
theorem za (hE:Sat ds N E a) {x i v} {vs:List Value} (hx:ev E x=some (.tuple vs.toArray)) (hi:vs[i]?=some v):execOp a.eval ⟨d,.extract x i,ty,pos,aft,none⟩=pn v:=by
 show (Instr.extract (a.eval x) i >>= λv=>Pure.pure (Next.value v))=_
 rw [hE.ev hx]
 simp [Instr.extract,hi]
def evO (E:Env):Option Operand->Option (Option Value)
 |none=>some none
 |some x=>match VB.ev E x with
  |some v=>some (some v)
  |none=>none
theorem Sat.evO (hE:Sat ds N E a) {x:Option Operand} {v:Option Value} (h:VB.evO E x=some v):x.map a.eval=v:=by
 cases x with
 |none=>simpa [VB.evO] using h
 |some x=>
  unfold VB.evO at h
  cases h1:VB.ev E x with
  |none=>simp [h1] at h
  |some u=>simp [h1] at h;simp [hE.ev h1,h]
theorem zGx (hE:Sat ds N E a) {t x lo hi mx v l h m} (hx:ev E x=some v) (hl:evO E lo=some l) (hh:evO E hi=some h) (hm:evO E mx=some m):
  execOp a.eval ⟨d,.slice t x lo hi mx,ty,pos,aft,none⟩=pv (Instr.sliceAt t v l h m):=by rw [← hE.ev hx,← hE.evO hl,← hE.evO hh,← hE.evO hm];rfl
def evP (E:Env):List (Nat × Operand)->Option (List (Nat × Value))
 |[]=>some []
 |(i,x)::r=>match VB.ev E x,evP E r with
  |some v,some l=>some ((i,v)::l)
  |_,_=>none
theorem Sat.evP (h:Sat ds N E a):∀ {xs:List (Nat × Operand)} {vs:List (Nat × Value)},VB.evP E xs=some vs->xs.map (λ(i,x)=>(i,a.eval x))=vs
 |[],vs,hx=>by simp [VB.evP] at hx;simp [hx]
 |(i,x)::r,vs,hx=>by
  unfold VB.evP at hx
  cases h1:VB.ev E x with
  |none=>rw [h1] at hx;cases hx
  |some v=>
   cases h2:VB.evP E r with
   |none=>rw [h1,h2] at hx;cases hx
   |some l=>
    rw [h1,h2] at hx
    obtain rfl:=Option.some.inj hx
    simp [h.ev h1]
    exact h.evP h2
theorem zAg (hE:Sat ds N E a) {t} {xs:List (Nat × Operand)} {vs} (h:evP E xs=some vs):execOp a.eval ⟨d,.build t xs.toArray,ty,pos,aft,none⟩=pv (QC t vs.toArray):=by
 show (QC t (xs.toArray.map λ(i,x)=>(i,a.eval x)) >>= λv=>Pure.pure (Next.value v))=_
 rw [show xs.toArray.map (λ(i,x)=>(i,a.eval x))=vs.toArray from by rw [← hE.evP h];simp]
theorem Qz (hE:Sat ds N E a) {t n} {xs:List (Nat × Operand)} {vs} (h:evP E xs=some vs):execOp a.eval ⟨d,.buildSlice t n xs.toArray,ty,pos,aft,none⟩=pv (zc t n vs.toArray):=by
 show (zc t n (xs.toArray.map λ(i,x)=>(i,a.eval x)) >>= λv=>Pure.pure (Next.value v))=_
 rw [show xs.toArray.map (λ(i,x)=>(i,a.eval x))=vs.toArray from by rw [← hE.evP h];simp]
theorem zFR (hE:Sat ds N E a) {fn} {xs ys:List Operand} {us vs} (h1:evL E xs=some us) (h2:evL E ys=some vs):execOp a.eval ⟨d,.makeFunc fn xs.toArray ys.toArray,ty,pos,aft,none⟩=pn (.func fn us.toArray vs.toArray):=by
 show (Instr.makeFunc fn (xs.toArray.map a.eval) (ys.toArray.map a.eval) >>= λv=>Pure.pure (Next.value v))=_
 rw [hE.evA h1,hE.evA h2];rfl
theorem zCs (hE:Sat ds N E a) {op t x y t2 v u} (hx:ev E x=some v) (hy:ev E y=some u):execOp a.eval ⟨d,.binOp op t x y t2,ty,pos,aft,none⟩=pv (do eqGuard op t x y v u;binOp op t v u):=by rw [← hE.ev hx,← hE.ev hy];rfl
theorem zED {op t x y k m k' n}:eqGuard op t x y (.int k m) (.int k' n)=Pure.pure ():=by unfold eqGuard;split<;>rfl
theorem zGj {op t x y m n}:eqGuard op t x y (.string m) (.string n)=Pure.pure ():=by unfold eqGuard;split<;>rfl
theorem zON {op t x y v u} (h:(!(op matches .eql|.neq))=true):eqGuard op t x y v u=Pure.pure ():=by cases op<;>first|rfl|(simp at h)
section
variable (hE:Sat ds N E a) {t t2:TypeId} {x y:Operand} {k:IntKind} {m n:Int} (hx:ev E x=some (.int k m)) (hy:ev E y=some (.int k n))
include hE hx hy
theorem zm:execOp a.eval ⟨d,.binOp .add t x y t2,ty,pos,aft,none⟩=pn (.int k (k.wrap (m+n))):=by rw [zCs hE hx hy,zED];simp [binOp,Op.intArith]
theorem zq:execOp a.eval ⟨d,.binOp .sub t x y t2,ty,pos,aft,none⟩=pn (.int k (k.wrap (m - n))):=by rw [zCs hE hx hy,zED];simp [binOp,Op.intArith]
theorem zFN:execOp a.eval ⟨d,.binOp .mul t x y t2,ty,pos,aft,none⟩=pn (.int k (k.wrap (m*n))):=by rw [zCs hE hx hy,zED];simp [binOp,Op.intArith]
theorem zBF:execOp a.eval ⟨d,.binOp .eql t x y t2,ty,pos,aft,none⟩=pn (.bool (decide (m=n))):=by rw [zCs hE hx hy,zED];simp [binOp,Op.intCmp];rfl
theorem zFL:execOp a.eval ⟨d,.binOp .neq t x y t2,ty,pos,aft,none⟩=pn (.bool (decide (m≠n))):=by
 rw [zCs hE hx hy,zED,show decide (m≠n)=!decide (m=n) from by simp];simp only [binOp,ne_eq,not_true_eq_false,if_false,Op.intCmp];rfl
theorem yS:execOp a.eval ⟨d,.binOp .lss t x y t2,ty,pos,aft,none⟩=pn (.bool (decide (m<n))):=by rw [zCs hE hx hy,zED];simp [binOp,Op.intCmp]
theorem zCV:execOp a.eval ⟨d,.binOp .leq t x y t2,ty,pos,aft,none⟩=pn (.bool (decide (m<=n))):=by rw [zCs hE hx hy,zED];simp [binOp,Op.intCmp]
theorem zBC:execOp a.eval ⟨d,.binOp .gtr t x y t2,ty,pos,aft,none⟩=pn (.bool (decide (n<m))):=by rw [zCs hE hx hy,zED];simp [binOp,Op.intCmp]
theorem ZT:execOp a.eval ⟨d,.binOp .geq t x y t2,ty,pos,aft,none⟩=pn (.bool (decide (n<=m))):=by rw [zCs hE hx hy,zED];simp [binOp,Op.intCmp]
end
section
variable (hE:Sat ds N E a) {t t2:TypeId} {x y:Operand} {p q:ByteArray} (hx:ev E x=some (.string p)) (hy:ev E y=some (.string q))
include hE hx hy
theorem zMA:execOp a.eval ⟨d,.binOp .eql t x y t2,ty,pos,aft,none⟩=pn (.bool (decide (p=q))):=by rw [zCs hE hx hy,zGj];simp only [binOp,Op.stringOp,zFT];rfl
theorem zNL:execOp a.eval ⟨d,.binOp .neq t x y t2,ty,pos,aft,none⟩=pn (.bool (decide (p≠q))):=by
 rw [zCs hE hx hy,zGj,show decide (p≠q)=!decide (p=q) from by simp];simp only [binOp,Op.stringOp,zFT];rfl
theorem zOc:execOp a.eval ⟨d,.binOp .lss t x y t2,ty,pos,aft,none⟩=pn (.bool (sLt p q)):=by rw [zCs hE hx hy,zGj];simp only [binOp,Op.stringOp,zFT];rfl
theorem zRO:execOp a.eval ⟨d,.binOp .gtr t x y t2,ty,pos,aft,none⟩=pn (.bool (!(sLt p q||decide (p=q)))):=by rw [zCs hE hx hy,zGj];simp only [binOp,Op.stringOp,zFT];rfl
theorem zMv:execOp a.eval ⟨d,.binOp .geq t x y t2,ty,pos,aft,none⟩=pn (.bool (!sLt p q)):=by rw [zCs hE hx hy,zGj];simp only [binOp,Op.stringOp,zFT];rfl
end
theorem zAD (hE:Sat ds N E a) {t x b} (hx:ev E x=some (.bool b)):execOp a.eval ⟨d,.unOp .not t x,ty,pos,aft,none⟩=pn (.bool (!b)):=by
 show (Op.unary .not (a.eval x) >>= λv=>Pure.pure (Next.value v))=_
 rw [hE.ev hx];rfl
theorem zBE (hE:Sat ds N E a) {xs:List Operand} {vs ts} (h:evL E xs=some vs):execOp a.eval ⟨d,.call {callee:=.builtin .append,args:=xs.toArray,argTypes:=ts},ty,pos,aft,none⟩=pv (Builtin.append_ ts ty vs.toArray):=by
 rw [← hE.evA h];rfl
theorem zRw (hE:Sat ds N E a) {xs:List Operand} {vs ts} (h:evL E xs=some vs):execOp a.eval ⟨d,.call {callee:=.builtin .copy,args:=xs.toArray,argTypes:=ts},ty,pos,aft,none⟩=pv (Builtin.copy_ ts ty vs.toArray):=by
 rw [← hE.evA h];rfl
theorem zPp (hE:Sat ds N E a) {xs:List Operand} {vs ts} (h:evL E xs=some vs):execOp a.eval ⟨d,.call {callee:=.builtin .clear,args:=xs.toArray,argTypes:=ts},ty,pos,aft,none⟩=pv (Builtin.clear_ ts ty vs.toArray):=by
 rw [← hE.evA h];rfl
theorem zOq (hE:Sat ds N E a) {xs:List Operand} {vs ts} (h:evL E xs=some vs):execOp a.eval ⟨d,.call {callee:=.builtin .delete,args:=xs.toArray,argTypes:=ts},ty,pos,aft,none⟩=pv (Builtin.delete_ ts ty vs.toArray):=by
 rw [← hE.evA h];rfl
theorem zLd (hE:Sat ds N E a) {xs:List Operand} {vs ts} (h:evL E xs=some vs):execOp a.eval ⟨d,.call {callee:=.builtin .len,args:=xs.toArray,argTypes:=ts},ty,pos,aft,none⟩=pv (Builtin.len_ ts ty vs.toArray):=by
 rw [← hE.evA h];rfl
theorem zRx (hE:Sat ds N E a) {xs:List Operand} {vs ts} (h:evL E xs=some vs):execOp a.eval ⟨d,.call {callee:=.builtin .cap,args:=xs.toArray,argTypes:=ts},ty,pos,aft,none⟩=pv (Builtin.cap_ ts ty vs.toArray):=by
 rw [← hE.evA h];rfl
theorem zRG (hE:Sat ds N E a) {xs:List Operand} {vs ts} (h:evL E xs=some vs):execOp a.eval ⟨d,.call {callee:=.builtin .min,args:=xs.toArray,argTypes:=ts},ty,pos,aft,none⟩=pv (Builtin.min_ ts ty vs.toArray):=by
 rw [← hE.evA h];rfl
def Ent (P:Program) (f:FuncId):Prop:=∀ args w,(callFunc f args).run P w=.ok (.enter f args) w
theorem Ent.of {P : Program} {f : FuncId} {fn : Func} (h : P.funcs[f]? = some fn) (h1 : (fn.name == "runtime.NumGoroutine") = false) (h2 : fn.body.isNone = false) : Ent P f := by
 intro args w
 have h3 : fn.name ≠ "runtime.NumGoroutine" := by simpa using h1
 have h4:fn.body≠none:=by intro e;rw [e] at h2;cases h2
 simp [callFunc,Sem.run,h,h3,h4]
theorem zKv (hE:Sat ds N E a) {P:Program} {w:World} {x:Operand} {xs:List Operand} {vs ts f} {us cs:Array Value} (he:Ent P f) (hx:ev E x=some (.func (.func f) us cs)) (h:evL E xs=some vs):
  (execOp a.eval ⟨d,.call {callee:=.value x,args:=xs.toArray,argTypes:=ts},ty,pos,aft,none⟩).run P w=.ok (.enter f ((us++vs.toArray)++cs)) w:=by
 rw [← hE.evA h,← he]
 have e:=hE.ev hx
 simp [execOp,resolve,Deferred.ofValue,e,invoke]
end
def zJZ {α β:Type} (ea:α->Value) (eb:β->Value):Option (α × β)->Value
 |none=>.tuple [.bool false].toArray
 |some (k,v)=>.tuple [.bool true,ea k,eb v].toArray
section
variable {ds:List Deferred} {N:Nat} {E:Env} {a:Act} {d:Option Tmp} {ty:TypeId} {pos:String} {aft:Array Edge}
theorem Y3 (hE:Sat ds N E a) {op t x y t2 v u} (hx:ev E x=some v) (hy:ev E y=some u) (h:(!(op matches .eql|.neq))=true:=by rfl):execOp a.eval ⟨d,.binOp op t x y t2,ty,pos,aft,none⟩=pv (binOp op t v u):=by
 rw [zCs hE hx hy,zON h];rfl
theorem zZ (hE:Sat ds N E a) {P:Program} {w:World} {f:FuncId} {x:Operand} {xs:List Operand} {vs ts} (he:Ent P f) (hx:ev E x=some (.func (.func f) #[] #[])) (h:evL E xs=some vs):
  (execOp a.eval ⟨d,.call {callee:=.value x,args:=xs.toArray,argTypes:=ts},ty,pos,aft,none⟩).run P w=.ok (.enter f vs.toArray) w:=by
 rw [zKv hE he hx h];simp
theorem ZQ (hE:Sat ds N E a) {P:Program} {w:World} {x:Operand} {s:Sl} {t e:TypeId} {ts:Array TypeId} (hu:P.underlying t=some (.slice e)) (hx:ev E x=some s.v) (ht:ts[0]?=some t:=by rfl):
  (execOp a.eval ⟨d,.call {callee:=.builtin .len,args:=[x].toArray,argTypes:=ts},ty,pos,aft,none⟩).run P w=.ok (.value (.int .i64 (s.len:Int))) w:=by
 rw [zLd hE (vs:=[s.v]) (by simp [evL,hx])]
 simp [Builtin.len_,ht,run_underlying hu,Sem.run,goInt]
theorem zGk (hE:Sat ds N E a) {P:Program} {w:World} {x:Operand} {s:ByteArray} {t:TypeId} {ts:Array TypeId} (hu:P.underlying t=some .string) (hx:ev E x=some (.string s)) (ht:ts[0]?=some t:=by rfl):
  (execOp a.eval ⟨d,.call {callee:=.builtin .len,args:=[x].toArray,argTypes:=ts},ty,pos,aft,none⟩).run P w=.ok (.value (.int .i64 (s.size:Int))) w:=by
 rw [zLd hE (vs:=[.string s]) (by simp [evL,hx])]
 simp [Builtin.len_,ht,run_underlying hu,Sem.run,goInt]
theorem zQS (hE:Sat ds N E a) {x y:Operand} {k m n ts} (hx:ev E x=some (.int k m)) (hy:ev E y=some (.int k n)):
  execOp a.eval ⟨d,.call {callee:=.builtin .min,args:=[x,y].toArray,argTypes:=ts},ty,pos,aft,none⟩=pn (.int k (if n<m then n else m)):=by
 rw [zRG hE (vs:=[.int k m,.int k n]) (by simp [evL,hx,hy])]
 simp [Builtin.min_,Builtin.min2]
end
theorem Sat.bool {ds:List Deferred} {N:Nat} {E:Env} {a:Act} (hE:Sat ds N E a) {t:Nat} {c b:Bool} (hl:lk E t=some (.bool c)) (hc:c=b):Sat ds N ((t,.bool b)::E) a:=by
 subst hc
 refine ⟨hE.size,λt' v hv=>?_,hE.defs⟩
 by_cases e:t=t'
 ·subst e
  have h1:(bif Nat.beq t t then some (Qq c) else lk E t)=some v:=hv
  rw [show Nat.beq t t=true from by simp] at h1
  obtain rfl:=Option.some.inj h1
  exact hE.vals t _ hl
 ·have h1:(bif Nat.beq t t' then some (Qq c) else lk E t')=some v:=hv
  rw [show Nat.beq t t'=false from zLO e] at h1
  exact hE.vals t' v h1
section
variable {ro:Option Nat} {P:Program} {ops:Array Oper} {Q:Exit->Act->World->Prop} {ds:List Deferred} {N:Nat} {E:Env} {a:Act} {w:World} {rest:List Oper}
theorem Sat.pur (hE:Sat ds N E a) {op:Op} {ty:TypeId} {pos:String} {aft:Array Edge} {d:Nat} {v:Value}
  (he:execOp a.eval ⟨some d,op,ty,pos,aft,none⟩=pn v) (next:∀ a',Sat ds N ((d,v)::E) a'->WL ro P ops Q rest a' w)
  (hN:Nat.blt d N=true:=by rfl) (hnd:∀ c,op≠.defer c:=by intro c h;cases h):WL ro P ops Q (⟨some d,op,ty,pos,aft,none⟩::rest) a w:=
 hE.pure (by rw [he];rfl) hnd hN next
theorem Sat.op (hE:Sat ds N E a) {τ:Type} {enc:τ->Value} {s:Sem Value} {k:τ->World->Prop} {op:Op} {ty:TypeId} {pos:String} {aft:Array Edge} {d:Nat}
  (he:execOp a.eval ⟨some d,op,ty,pos,aft,none⟩=pv s) (H:opE P enc s w k)
  (next:∀ x w' a',k x w'->Sat ds N ((d,enc x)::E) a'->WL ro P ops Q rest a' w')
  (hN:Nat.blt d N=true:=by rfl) (hnd:∀ c,op≠.defer c:=by intro c h;cases h):WL ro P ops Q (⟨some d,op,ty,pos,aft,none⟩::rest) a w:=
 hE.val he hnd hN H next
theorem Sat.purR (hE:Sat ds N E a) {op:Op} {ty:TypeId} {pos:String} {aft:Array Edge} {d:Nat} {v:Value}
  (he:∀ w,(execOp a.eval ⟨some d,op,ty,pos,aft,none⟩).run P w=.ok (.value v) w) (next:∀ a',Sat ds N ((d,v)::E) a'->WL ro P ops Q rest a' w)
  (hN:Nat.blt d N=true:=by rfl) (hnd:∀ c,op≠.defer c:=by intro c h;cases h):WL ro P ops Q (⟨some d,op,ty,pos,aft,none⟩::rest) a w:=
 hE.pure (he w) hnd hN next
theorem Sat.op0 (hE:Sat ds N E a) {τ:Type} {enc:τ->Value} {s:Sem Value} {k:τ->World->Prop} {op:Op} {ty:TypeId} {pos:String} {aft:Array Edge}
  (he:execOp a.eval ⟨none,op,ty,pos,aft,none⟩=pv s) (H:opE P enc s w k)
  (next:∀ x w' a',k x w'->Sat ds N E a'->WL ro P ops Q rest a' w')
  (hnd:∀ c,op≠.defer c:=by intro c h;cases h):WL ro P ops Q (⟨none,op,ty,pos,aft,none⟩::rest) a w:=by
 obtain ⟨x,w',hr,hk⟩:=H
 exact zML rfl hnd (v:=enc x) (w':=w') (by rw [he];simp [hr]) (next x w' _ hk hE)
theorem Sat.opu (hE:Sat ds N E a) {s:Sem Unit} {k:World->Prop} {op:Op} {ty:TypeId} {pos:String} {aft:Array Edge}
  (he:execOp a.eval ⟨none,op,ty,pos,aft,none⟩=pu s) (H:opU P s w k)
  (next:∀ w' a',k w'->Sat ds N E a'->WL ro P ops Q rest a' w')
  (hnd:∀ c,op≠.defer c:=by intro c h;cases h):WL ro P ops Q (⟨none,op,ty,pos,aft,none⟩::rest) a w:=
 hE.unit he hnd H next
theorem Sat.call (hE:Sat ds N E a) {f:FuncId} {args:Array Value} {R:Ending->World->Prop} {op:Op} {ty:TypeId} {pos:String} {aft:Array Edge} {d:Nat}
  (he:(execOp a.eval ⟨some d,op,ty,pos,aft,none⟩).run P w=.ok (.enter f args) w) (H:Cl P f args w R)
  (next:∀ e w',R e w'->∃ v,e=.returned v/\∀ a',Sat ds N ((d,v)::E) a'->WL ro P ops Q rest a' w')
  (hN:Nat.blt d N=true:=by rfl) (hnd:∀ c,op≠.defer c:=by intro c h;cases h):WL ro P ops Q (⟨some d,op,ty,pos,aft,none⟩::rest) a w:=
 zNH rfl hnd he H λe w' hR=>by
  obtain ⟨v,rfl,hv⟩:=next e w' hR
  exact ⟨v,rfl,hv _ (hE.put hN v)⟩
theorem zGz (hE:Sat ds N E a) {j d:Nat} {b:Bool} (hj:(ops[j]?).bind (·.dst)=some d) (hb:lk E d=some (.bool b)):yielded ops a.tmps j=some b:=by
 unfold yielded
 have h1:=hE.vals d _ hb
 simp only [hj]
 have:d<a.tmps.size∨¬ d<a.tmps.size:=Nat.lt_or_ge d _ |>.imp id (by omega)
 rcases this with h|h
 ·simp [Array.getD_eq_getD_getElem?,h] at h1
  simp [h,h1]
 ·simp [Array.getD_eq_getD_getElem?,h,undef] at h1
theorem Sat.on (hE:Sat ds N E a) {dst:Option Tmp} {op:Op} {ty:TypeId} {pos:String} {aft:Array Edge} {j d:Nat} {b:Bool}
  (hj:(ops[j]?).bind (·.dst)=some d) (hb:lk E d=some (.bool b)) (h:WL ro P ops Q (⟨dst,op,ty,pos,aft,none⟩::rest) a w):WL ro P ops Q (⟨dst,op,ty,pos,aft,some (j,b)⟩::rest) a w:=by
 unfold WL wpListIn at*
 rw [if_pos (by simp [Region.wanted])] at h
 rw [if_pos (by simp [Region.wanted,zGz hE hj hb])]
 exact h
theorem Sat.off (hE:Sat ds N E a) {d0:Nat} {op:Op} {ty:TypeId} {pos:String} {aft:Array Edge} {j d:Nat} {b b':Bool}
  (hj:(ops[j]?).bind (·.dst)=some d) (hb:lk E d=some (.bool b')) (hne:b'≠b) (h:∀ a',Sat ds N ((d0,undef)::E) a'->WL ro P ops Q rest a' w) (hN:Nat.blt d0 N=true:=by rfl):
  WL ro P ops Q (⟨some d0,op,ty,pos,aft,some (j,b)⟩::rest) a w:=by
 unfold WL wpListIn
 rw [if_neg (by simp [Region.wanted,zGz hE hj hb,hne])]
 exact ⟨λ_ _=>trivial,h _ (hE.put hN _)⟩
theorem WL.join {σ:Type} (EJ:σ->Env) (V:σ->World->Prop) (k:Nat) {l0:List Oper} (hy:∀ s w a,V s w->Sat ds N (EJ s) a->WL ro P ops Q (l0.drop k) a w)
  (hx:(∀ s w a,V s w->Sat ds N (EJ s) a->WL ro P ops Q (l0.drop k) a w)->WL ro P ops Q l0 a w):WL ro P ops Q l0 a w:=hx hy
theorem zz {σ:Type} {x y:Code} (EJ:σ->Env) (V:σ->World->Prop) (hy:∀ s w a,V s w->Sat ds N (EJ s) a->WC ro P y Q a w)
  (hx:(∀ s w a,V s w->Sat ds N (EJ s) a->WC ro P y Q a w)->WC ro P x (Exit.then (WC ro P y Q) Q) a w):WC ro P (.seq x y) Q a w:=wpIn_seq (hx hy)
theorem zJ {x y:Code} (h:WC ro P x (Exit.then (WC ro P y Q) Q) a w):WC ro P (.seq x y) Q a w:=wpIn_seq h
theorem zE {id:Nat} {l:List Oper} (h:WL ro P l.toArray Q l a w):WC ro P (.region id l.toArray false) Q a w:=wpIn_region_lit h
theorem zM (h:Q .normal a w):WL ro P ops Q [] a w:=h
theorem zb (hE:Sat ds N E a) {c:Operand} {x y:Code} {p:Prop} [Decidable p] (hc:ev E c=some (.bool (decide p))) (ht:p->WC ro P x Q a w) (hf:¬ p->WC ro P y Q a w):WC ro P (.cond c x y) Q a w:=
 wpIn_cond_split (hE.ev hc) (λh=>ht (of_decide_eq_true h)) (λh=>hf (of_decide_eq_false h))
theorem zd (hE:Sat ds N E a) {c:Operand} {x y:Code} {b:Bool} (hc:ev E c=some (.bool b)) (ht:b=true->WC ro P x Q a w) (hf:b=false->WC ro P y Q a w):WC ro P (.cond c x y) Q a w:=
 wpIn_cond_split (hE.ev hc) ht hf
theorem zW {id:Nat} {c:Code} (h:WC ro P c (Exit.inBlock id Q) a w):WC ro P (.block id c) Q a w:=wpIn_block h
theorem zX (h:Q .normal a w):WC ro P .skip Q a w:=wpIn_skip h
theorem z5 {id:Nat} (h:Q (.exit id) a w):WC ro P (.exit id) Q a w:=wpIn_exit h
theorem zg (h:Q .ret a w):WC ro P .ret Q a w:=wpIn_ret h
theorem yD {σ:Type} (EL:σ->Env) {c:Code} (I:σ->World->Prop) (μ:σ->World->Nat) (s0:σ) (h0:I s0 w) (hE:Sat ds N (EL s0) a)
  (hb:∀ s w a,I s w->Sat ds N (EL s) a->WC ro P c (Exit.then (λa' w'=>∃ s',Sat ds N (EL s') a'/\I s' w'/\μ s' w'<μ s w) Q) a w):WC ro P (.loop c) Q a w:=by
 refine wpIn_loop (λa w=>∃ n,∃ s,Sat ds N (EL s) a/\I s w/\μ s w=n) (λa w=>leastOf λn=>∃ s,Sat ds N (EL s) a/\I s w/\μ s w=n) ⟨_,s0,hE,h0,rfl⟩ ?_
 intro a w hI
 obtain ⟨⟨s,hs,hi,hm⟩,hleast⟩:=leastOf_spec hI
 refine wpIn_mono (hb s w a hi hs) ?_
 intro e a' w' hq
 cases e with
 |normal=>
  obtain ⟨s',h1,h2,h3⟩:=hq
  refine ⟨⟨_,s',h1,h2,rfl⟩,Nat.lt_of_le_of_lt ((leastOf_spec ⟨_,s',h1,h2,rfl⟩).2 _ ⟨s',h1,h2,rfl⟩) ?_⟩
  rw [← hm];exact h3
 |exit id=>exact hq
 |goto l=>exact hq
 |ret=>exact hq
 |panic c=>exact hq
 |outgrown=>exact hq
end
section
variable {Q:Exit->Act->World->Prop} {K:Act->World->Prop} {a:Act} {w:World} {id id':Nat}
theorem tn (h:K a w):Exit.then K Q .normal a w:=h
theorem te (h:Q (.exit id) a w):Exit.then K Q (.exit id) a w:=h
theorem tr (h:Q .ret a w):Exit.then K Q .ret a w:=h
theorem bn (h:Q .normal a w):Exit.inBlock id Q .normal a w:=h
theorem br (h:Q .ret a w):Exit.inBlock id Q .ret a w:=h
theorem be (h:Q .normal a w):Exit.inBlock id Q (.exit id) a w:=by simp only [Exit.inBlock,if_true];exact h
theorem bo (h:Q (.exit id') a w) (hne:Nat.beq id' id=false:=by rfl):Exit.inBlock id Q (.exit id') a w:=by
 have:id'≠id:=zQF hne
 simp only [Exit.inBlock,this,if_false];exact h
end
def zipE:Nat->List Value->Env
 |_,[]=>[]
 |i,v::r=>(i,v)::zipE (i+1) r
theorem zJd:∀ (l:List Value) (i t:Nat) (v:Value),lk (zipE i l) t=some v->i<=t/\l[t - i]?=some v
 |[],_,_,_,h=>by cases h
 |u::r,i,t,v,h=>by
  by_cases e:i=t
  ·subst e
   have h1:(bif Nat.beq i i then some u else lk (zipE (i+1) r) i)=some v:=h
   rw [show Nat.beq i i=true from by simp] at h1
   exact ⟨zU _,by simpa using h1⟩
  ·have h1:(bif Nat.beq i t then some u else lk (zipE (i+1) r) t)=some v:=h
   rw [show Nat.beq i t=false from zLO e] at h1
   obtain ⟨h2,h3⟩:=zJd r (i+1) t v h1
   refine ⟨by omega,?_⟩
   rw [show t - i=(t - (i+1))+1 from by omega]
   simpa using h3
theorem zl {P:Program} {f:FuncId} {fn:Func} {c:Code} {args:List Value} {w:World} {R:Ending->World->Prop} (N:Nat) (E:Env)
  (hf:P.funcs[f]?=some fn) (hb:fn.body=some c) (hN:fn.ntmps=N) (hle:Nat.ble args.length N=true)
  (hz:zipE 0 args=E)
  (h:∀ a,Sat [] N E a->WC none P c (bodyPost P fn R) a w):Cl P f args.toArray w R:=by
 subst hN
 exact callsIn_of_wp hf hb trivial (h _ (Sat.enter args.toArray (by simpa using hle) (by intro t v hv;rw [← hz] at hv;simpa using (zJd args 0 t v hv).2))) rfl
theorem zt {P:Program} {fn:Func} {R:Ending->World->Prop} {N:Nat} {E:Env} {a:Act} {w:World} (hE:Sat [] N E a) {t:Nat} {v:Value} (hr:fn.results=#[.tmp t]) (hv:lk E t=some v) (h:R (.returned v) w):
  bodyPost P fn R .ret a w:=⟨hE.defs,v,by simp only [results,hr];simp [hE.getq hv],h⟩
theorem zEO {P:Program} {fn:Func} {R:Ending->World->Prop} {N:Nat} {E:Env} {a:Act} {w:World} (hE:Sat [] N E a) (hr:fn.results=#[]) (h:R (.returned (.tuple #[])) w):
  bodyPost P fn R .ret a w:=⟨hE.defs,_,by simp [results,hr],h⟩
theorem Zu {P:Program} {fn:Func} {R:Ending->World->Prop} {N:Nat} {E:Env} {a:Act} {w:World} (hE:Sat [] N E a) {t t':Nat} {v v':Value} (hr:fn.results=#[.tmp t,.tmp t']) (hv:lk E t=some v) (hv':lk E t'=some v') (h:R (.returned (.tuple #[v,v'])) w):
  bodyPost P fn R .ret a w:=⟨hE.defs,_,by simp only [results,hr];simp [hE.getq hv,hE.getq hv'],h⟩
theorem zIM {P:Program} {fn:Func} {R:Ending->World->Prop} {N:Nat} {E:Env} {a:Act} {w:World} (hE:Sat [] N E a) {t t' t'':Nat} {v v' v'':Value} (hr:fn.results=#[.tmp t,.tmp t',.tmp t'']) (hv:lk E t=some v) (hv':lk E t'=some v') (hv'':lk E t''=some v'') (h:R (.returned (.tuple #[v,v',v''])) w):
  bodyPost P fn R .ret a w:=⟨hE.defs,_,by simp only [results,hr];simp [hE.getq hv,hE.getq hv',hE.getq hv''],h⟩
theorem zBY {P:Program} {fn:Func} {R:Ending->World->Prop} {N:Nat} {E:Env} {a:Act} {w:World} (hE:Sat [] N E a) (hr:fn.results=#[]) (h:R (.returned (.tuple #[])) w):
  bodyPost P fn R .normal a w:=⟨hE.defs,_,by simp [results,hr],h⟩
section
variable {ro:Option Nat} {P:Program} {ops:Array Oper} {Q:Exit->Act->World->Prop} {ds:List Deferred} {N:Nat} {E:Env} {a:Act} {w:World} {rest:List Oper}
theorem zJ1 (hE:Sat ds N E a) {j d:Nat} (hj:(ops[j]?).bind (·.dst)=some d) (hb:lk E d=some undef):yielded ops a.tmps j=none:=by
 unfold yielded
 have h1:=hE.vals d _ hb
 simp only [hj]
 rcases Nat.lt_or_ge d a.tmps.size with h|h
 ·simp [Array.getD_eq_getD_getElem?,h] at h1
  simp [h,h1,undef]
 ·have:a.tmps[d]?=none:=Array.getElem?_eq_none h
  simp [this]
theorem Sat.offU (hE:Sat ds N E a) {d0:Nat} {op:Op} {ty:TypeId} {pos:String} {aft:Array Edge} {j d:Nat} {b:Bool}
  (hj:(ops[j]?).bind (·.dst)=some d) (hb:lk E d=some undef) (h:∀ a',Sat ds N ((d0,undef)::E) a'->WL ro P ops Q rest a' w) (hN:Nat.blt d0 N=true:=by rfl):
  WL ro P ops Q (⟨some d0,op,ty,pos,aft,some (j,b)⟩::rest) a w:=by
 unfold WL wpListIn
 rw [if_neg (by simp [Region.wanted,zJ1 hE hj hb])]
 exact ⟨λ_ _=>trivial,h _ (hE.put hN _)⟩
end
abbrev Bel (w w':World):Prop:=Go.RowKit.Below w.heap.size w w'
theorem Bel.refl (w:World):Bel w w:=Go.RowKit.Below.refl _ _
def yG (w:World) (k:World->Prop):Prop:=∀ w',Bel w w'->k w'
def opB {τ:Type} (P:Program) (enc:τ->Value) (s:Sem Value) (w:World) (k:τ->Prop):Prop:=∃ x,(∀ w',Bel w w'->s.run P w'=.ok (enc x) w')/\k x
section
variable {P:Program} {ops:Array Oper} {ds:List Deferred} {N:Nat} {E:Env} {a:Act} {w:World} {rest:List Oper} {K:Act->Prop}
abbrev WQ (P:Program) (ops:Array Oper) (w:World) (K:Act->Prop) (l:List Oper) (a:Act):Prop:=wpQuietIn (FW none) 0 P ops (Bel w) K l a
theorem QP {Q:Exit->Act->World->Prop} {id:Nat} {l:List Oper} (hm:P.follows .mixedOrders=true) (hB:Region.lexB .any l.toArray=true)
  (h:WQ P l.toArray w (λa'=>∀ w',Bel w w'->Q .normal a' w') l a):WC none P (.region id l.toArray true) Q a w:=
 wpIn_region_quiet (C:=Bel w) rfl hm hB ⟨rfl,rfl,rfl,zU _,λ_ _=>rfl⟩ (by simpa using h)
theorem zHW (o:Oper) (a:Act):o.askedIn (FW none) P a (Bel w):=λ_ _ _ _=>trivial
theorem zOH {o:Oper} (hg:o.guard=none) {v:Value} (hr:∀ w',Bel w w'->(execOp a.eval o).run P w'=.ok (.value v) w') (h:WQ P ops w K rest (a.put o.dst v)):WQ P ops w K (o::rest) a:=by
 unfold WQ wpQuietIn
 refine ⟨zHW o a,?_⟩
 rw [if_pos (by simp [Region.wanted,hg])]
 exact ⟨v,λw' hw=>by unfold Oper.quietAtIn;rw [hr w' hw];exact ⟨rfl,rfl⟩,h⟩
theorem zOP {o:Oper} (hg:o.guard=none) {f:FuncId} {args:Array Value} {v:Value} (hr:∀ w',(execOp a.eval o).run P w'=.ok (.enter f args) w')
  (hc:∀ w',Bel w w'->Cl P f args w' λe w''=>e=.returned v/\Bel w' w'') (h:WQ P ops w K rest (a.put o.dst v)):WQ P ops w K (o::rest) a:=by
 unfold WQ wpQuietIn
 refine ⟨zHW o a,?_⟩
 rw [if_pos (by simp [Region.wanted,hg])]
 refine ⟨v,λw' hw=>?_,h⟩
 unfold Oper.quietAtIn
 rw [hr w']
 refine ⟨rfl,λh=>by simp [FW,Fence.wide] at h,?_⟩
 have hc':CallsIn (FW none) 0 P f args w' (λe w''=>e=.returned v/\Bel w' w''):=hc w' hw
 refine CallsIn.mono hc' λe w'' ⟨he,hb⟩=>⟨he,?_⟩
 exact hw.trans ⟨hb.os,hb.tape,hb.output,hb.size,λk hk=>hb.block k (xf hk hw.size)⟩
theorem Sat.qpur (hE:Sat ds N E a) {op:Op} {ty:TypeId} {pos:String} {aft:Array Edge} {d:Nat} {v:Value}
  (he:execOp a.eval ⟨some d,op,ty,pos,aft,none⟩=pn v) (next:∀ a',Sat ds N ((d,v)::E) a'->WQ P ops w K rest a')
  (hN:Nat.blt d N=true:=by rfl):WQ P ops w K (⟨some d,op,ty,pos,aft,none⟩::rest) a:=
 zOH rfl (λw' _=>by rw [he];rfl) (next _ (hE.put hN v))
theorem Sat.qpurR (hE:Sat ds N E a) {op:Op} {ty:TypeId} {pos:String} {aft:Array Edge} {d:Nat} {v:Value}
  (he:∀ w,(execOp a.eval ⟨some d,op,ty,pos,aft,none⟩).run P w=.ok (.value v) w) (next:∀ a',Sat ds N ((d,v)::E) a'->WQ P ops w K rest a')
  (hN:Nat.blt d N=true:=by rfl):WQ P ops w K (⟨some d,op,ty,pos,aft,none⟩::rest) a:=
 zOH rfl (λw' _=>he w') (next _ (hE.put hN v))
theorem Sat.qop (hE:Sat ds N E a) {τ:Type} {enc:τ->Value} {s:Sem Value} {k:τ->Prop} {op:Op} {ty:TypeId} {pos:String} {aft:Array Edge} {d:Nat}
  (he:execOp a.eval ⟨some d,op,ty,pos,aft,none⟩=pv s) (H:opB P enc s w k)
  (next:∀ x a',k x->Sat ds N ((d,enc x)::E) a'->WQ P ops w K rest a') (hN:Nat.blt d N=true:=by rfl):WQ P ops w K (⟨some d,op,ty,pos,aft,none⟩::rest) a:=by
 obtain ⟨x,hr,hk⟩:=H
 exact zOH rfl (v:=enc x) (λw' hw=>by rw [he];simp [hr w' hw]) (next x _ hk (hE.put hN _))
theorem Sat.qcall (hE:Sat ds N E a) {f:FuncId} {args:Array Value} {v:Value} {op:Op} {ty:TypeId} {pos:String} {aft:Array Edge} {d:Nat}
  (he:∀ w',(execOp a.eval ⟨some d,op,ty,pos,aft,none⟩).run P w'=.ok (.enter f args) w') (hc:∀ w',Bel w w'->Cl P f args w' λe w''=>e=.returned v/\Bel w' w'')
  (next:∀ a',Sat ds N ((d,v)::E) a'->WQ P ops w K rest a') (hN:Nat.blt d N=true:=by rfl):WQ P ops w K (⟨some d,op,ty,pos,aft,none⟩::rest) a:=
 zOP rfl he hc (next _ (hE.put hN v))
theorem Sat.qon (hE:Sat ds N E a) {dst:Option Tmp} {op:Op} {ty:TypeId} {pos:String} {aft:Array Edge} {j d:Nat} {b:Bool}
  (hj:(ops[j]?).bind (·.dst)=some d) (hb:lk E d=some (.bool b)) (h:WQ P ops w K (⟨dst,op,ty,pos,aft,none⟩::rest) a):WQ P ops w K (⟨dst,op,ty,pos,aft,some (j,b)⟩::rest) a:=by
 unfold WQ wpQuietIn at*
 refine ⟨zHW _ a,?_⟩
 rw [if_pos (by simp [Region.wanted,zGz hE hj hb])]
 have:=h.2
 rw [if_pos (by simp [Region.wanted])] at this
 exact this
theorem Sat.qoff (hE:Sat ds N E a) {d0:Nat} {op:Op} {ty:TypeId} {pos:String} {aft:Array Edge} {j d:Nat} {b b':Bool}
  (hj:(ops[j]?).bind (·.dst)=some d) (hb:lk E d=some (.bool b')) (hne:b'≠b) (h:∀ a',Sat ds N ((d0,undef)::E) a'->WQ P ops w K rest a') (hN:Nat.blt d0 N=true:=by rfl):
  WQ P ops w K (⟨some d0,op,ty,pos,aft,some (j,b)⟩::rest) a:=by
 unfold WQ wpQuietIn
 refine ⟨zHW _ a,?_⟩
 rw [if_neg (by simp [Region.wanted,zGz hE hj hb,hne])]
 exact h _ (hE.put hN _)
theorem Sat.qoffU (hE:Sat ds N E a) {d0:Nat} {op:Op} {ty:TypeId} {pos:String} {aft:Array Edge} {j d:Nat} {b:Bool}
  (hj:(ops[j]?).bind (·.dst)=some d) (hb:lk E d=some undef) (h:∀ a',Sat ds N ((d0,undef)::E) a'->WQ P ops w K rest a') (hN:Nat.blt d0 N=true:=by rfl):
  WQ P ops w K (⟨some d0,op,ty,pos,aft,some (j,b)⟩::rest) a:=by
 unfold WQ wpQuietIn
 refine ⟨zHW _ a,?_⟩
 rw [if_neg (by simp [Region.wanted,zJ1 hE hj hb])]
 exact h _ (hE.put hN _)
theorem QO (h:K a):WQ P ops w K [] a:=h
theorem WQ.join {σ:Type} (EJ:σ->Env) (V:σ->Prop) (k:Nat) {l0:List Oper} (hy:∀ s a,V s->Sat ds N (EJ s) a->WQ P ops w K (l0.drop k) a)
  (hx:(∀ s a,V s->Sat ds N (EJ s) a->WQ P ops w K (l0.drop k) a)->WQ P ops w K l0 a):WQ P ops w K l0 a:=hx hy
end
def zHk:Op->Bool
 |.move _|.assign _|.load ..|.store ..|.alloc _|.box ..|.build ..|.buildSlice ..|.mapEntry ..|.entryStore ..|.mapUpdate ..|.insert ..|.lookup ..|.extract ..|.binOp ..|.unOp ..
 |.fieldAddr ..|.indexAddr ..|.index ..|.field ..|.slice ..|.convert ..|.makeFunc ..|.makeSlice ..|.makeMap ..=>true
 |.call {callee:=.builtin .append,..}|.call {callee:=.builtin .copy,..}|.call {callee:=.builtin .len,..}|.call {callee:=.builtin .clear,..}|.call {callee:=.builtin .delete,..}=>true
 |_=>false
theorem zLr {P:Program} {s:Sem Value} {w w':World} {l f ts as_ bd}:(pv s).run P w≠.ok (.round l f ts as_ bd) w':=by
 intro h
 simp only [pv,Sem.run_bind] at h
 cases hs:s.run P w<;>rw [hs] at h<;>simp [Result.andThen,Sem.run] at h
theorem zOh {P:Program} {s:Sem Unit} {w w':World} {l f ts as_ bd}:(pu s).run P w≠.ok (.round l f ts as_ bd) w':=by
 intro h
 simp only [pu,Sem.run_bind] at h
 cases hs:s.run P w<;>rw [hs] at h<;>simp [Result.andThen,Sem.run] at h
theorem zMl {P:Program} {ρ:Operand->Value} {w w':World} {l f ts as_ bd} {d:Option Tmp} {c:Call} {ty:TypeId} {pos:String} {aft:Array Edge} {g:Option (Nat × Bool)} (h:zHk (.call c)=true):
  (execOp ρ ⟨d,.call c,ty,pos,aft,g⟩).run P w≠.ok (.round l f ts as_ bd) w':=by
 obtain ⟨cl,as_,ts_⟩:=c
 cases cl with
 |value x=>exact absurd h (by simp [zHk])
 |invoke x m=>exact absurd h (by simp [zHk])
 |builtin b=>cases b<;>first|(exact zLr)|(exact absurd h (by simp [zHk]))
theorem zLX {P:Program} {o:Oper} {ρ:Operand->Value} {w w':World} {l f ts as_ bd} (h:zHk o.op=true):(execOp ρ o).run P w≠.ok (.round l f ts as_ bd) w':=by
 obtain ⟨d,op,ty,pos,aft,g⟩:=o
 cases op<;>first|(exact zLr)|(exact zOh)|(intro hh;simp [execOp,Sem.run] at hh;done)|(rename_i c;exact zMl h)|(exact absurd h (by simp [zHk]))
section
variable {P:Program} {ops:Array Oper} {ds:List Deferred} {N:Nat} {E:Env} {a:Act} {w:World} {rest:List Oper} {K:Act->Prop} {Q:Exit->Act->World->Prop}
theorem zGr:∀ (l:List Oper) (a:Act) (w:World),l.all (λo=>zHk o.op)=true->WL none P ops Q l a w->wpList P ops Q l a w
 |[],_,_,_,h=>h
 |o::l,a,w,hp,h=>by
  simp only [List.all_cons,Bool.and_eq_true] at hp
  unfold WL wpListIn at h
  unfold wpList
  split
  ·rename_i hw
   rw [if_pos hw] at h
   refine .inl ?_
   have h2:=h.2
   unfold Oper.wp
   rw [Oper.semAt_none] at h2
   have hr:=λl f ts as_ bd w'=>zLX (P:=P) (o:=o) (ρ:=a.eval) (w:=w) (w':=w') (l:=l) (f:=f) (ts:=ts) (as_:=as_) (bd:=bd) hp.1
   cases hx:(execOp a.eval o).run P w with
   |halt hh w'=>rw [hx] at h2;cases hh<;>first|exact h2|exact h2.elim
   |ok nx w'=>
    rw [hx] at h2
    cases nx with
    |value v=>exact zGr l _ _ hp.2 h2
    |skip=>exact zGr l _ _ hp.2 h2
    |defer d=>exact zGr l _ _ hp.2 h2
    |enter f args=>
     have h3:=callsIn_wide.1 h2.2
     refine Calls.mono h3 λe w'' hh=>?_
     cases e with
     |returned v=>exact zGr l _ _ hp.2 hh
     |panicked c=>exact hh
     |outgrown=>exact hh
    |row r args=>
     have h3:=h2.2
     intro c cs
     obtain ⟨v,w'',h4,h5⟩:=h3 c cs (room_wide _)
     exact ⟨v,w'',zGr l _ _ hp.2 h4,stepsIn_wide.1 h5⟩
    |round l f ts as_ bd=>exact absurd hx (hr l f ts as_ bd w')
    |_=>exact h2.elim
  ·rename_i hw
   rw [if_neg hw] at h
   exact zGr l _ _ hp.2 h.2
abbrev WS (P:Program) (ops:Array Oper) (w:World) (K:Act->Prop) (l:List Oper) (a:Act):Prop:=wpStill P ops w K l a
theorem Bel.draw (w:World):Bel w {w with drawn:=w.drawn+1}:=⟨rfl,rfl,rfl,zU _,λ_ _=>rfl⟩
theorem zRt {id:Nat} {l:List Oper} (n:Nat) (hm:P.follows .mixedOrders=true) (hB:Region.lexTailB .any l.toArray n=true) (hp:(l.drop n).all (λo=>zHk o.op)=true)
  (h:WS P l.toArray {w with drawn:=w.drawn+1} (λa'=>WL none P l.toArray Q (l.drop n) a' {w with drawn:=w.drawn+1}) (l.take n) a):WC none P (.region id l.toArray true) Q a w:=by
 refine wpIn_wide.2 (wp_region_still_tail n hm hB ?_)
 have:∀ (l':List Oper) (a:Act),WS P l.toArray {w with drawn:=w.drawn+1} (λa'=>WL none P l.toArray Q (l.drop n) a' {w with drawn:=w.drawn+1}) l' a->
   wpStill P l.toArray {w with drawn:=w.drawn+1} (λa'=>wpList P l.toArray Q (l.drop n) a' {w with drawn:=w.drawn+1}) l' a:=by
  intro l'
  induction l' with
  |nil=>exact λa h=>zGr _ _ _ hp h
  |cons o l' ih=>
   intro a h
   unfold WS wpStill at h
   unfold wpStill
   split
   ·rename_i hw
    rw [if_pos hw] at h
    unfold Oper.still at*
    cases hx:(execOp a.eval o).run P {w with drawn:=w.drawn+1} with
    |halt hh w'=>rw [hx] at h;exact h.elim
    |ok nx w'=>
     rw [hx] at h
     cases nx with
     |value v=>exact ⟨h.1,ih _ h.2⟩
     |skip=>exact ⟨h.1,ih _ h.2⟩
     |enter f args=>obtain ⟨h1,v,h2,h3⟩:=h;exact ⟨h1,v,h2,ih _ h3⟩
     |_=>exact h.elim
   ·rename_i hw
    rw [if_neg hw] at h
    exact ih _ h
 exact this _ _ h
theorem WS.join {σ:Type} (EJ:σ->Env) (V:σ->Prop) (k:Nat) {l0:List Oper} (hy:∀ s a,V s->Sat ds N (EJ s) a->WS P ops w K (l0.drop k) a)
  (hx:(∀ s a,V s->Sat ds N (EJ s) a->WS P ops w K (l0.drop k) a)->WS P ops w K l0 a):WS P ops w K l0 a:=hx hy
end
def opP {τ:Type} (P:Program) (enc:τ->Value) (s:Sem Value) (k:τ->Prop):Prop:=∃ x,(∀ w,s.run P w=.ok (enc x) w)/\k x
def zH3:Op->Bool
 |.call _|.go _|.defer _=>false
 |_=>true
section
variable {P:Program} {ops:Array Oper} {ds:List Deferred} {N:Nat} {E:Env} {a:Act} {w:World} {Q:Exit->Act->World->Prop} {fuel:Nat} {listed l2:Array Bool}
abbrev WA (P:Program) (ops:Array Oper) (Q:Exit->Act->World->Prop) (fuel:Nat) (listed:Array Bool) (a:Act) (w:World):Prop:=wpAnyIn (FW none) 0 P .any ops Q fuel listed a w
theorem zRJ {id:Nat} {l:List Oper} (n:Nat) (l2:Array Bool) (hm:P.follows .mixedOrders=true) (h:∀ w',Bel w w'->WA P l.toArray Q n l2 a w') (hn:l.toArray.size=n:=by rfl) (hl:Array.replicate n false=l2:=by rfl):
  WC none P (.region id l.toArray true) Q a w:=by
 subst hn;subst hl
 exact wpIn_region_any hm (h _ (Bel.draw w))
def zGV (Q:Exit->Act->World->Prop):Prop:=∀ c a w d v,Q (.panic c) (a.put (some d) v) w->Q (.panic c) a w
theorem zLh {o:Oper} (h:zH3 o.op=true) (ρ:Operand->Value) (w:World):o.about P w ρ=none:=by
 unfold Oper.about
 obtain ⟨d,op,ty,pos,aft,g⟩:=o
 cases op<;>first|rfl|(exact absurd h (by simp [zH3]))
theorem WA.take {i d:Nat} {o:Oper} {v:Value} (hd:o.dst=some d) (hq:zGV Q) (hs:Region.noSelect ops=true) (hi:ops[i]?=some o) (hf:Region.free .any ops listed i=true) (hr:(Region.ready .any ops listed).contains i=true)
  (hl:listed.setIfInBounds i true=l2) (hy:YieldsFenced P ops o v a) (h:WA P ops Q fuel l2 (a.put o.dst v) w):WA P ops Q (fuel+1) listed a w:=by
 subst hl
 exact wpAnyIn_take rfl hi hs hf hr (λc a w=>by rw [hd];exact hq c a w d v) hy h
theorem WA.one {i:Nat} {o:Oper} (hi:ops[i]?=some o) (hr:Region.ready .any ops listed=[i]) (hl:listed.setIfInBounds i true=l2)
  (h:∀ (K:Act->World->Prop),(∀ a w,WA P ops Q fuel l2 a w->K a w)->if Region.wanted o (yielded ops a.tmps)=true then Oper.wpIn (FW none) 0 P o a w K Q else K (a.put o.dst undef) w):WA P ops Q (fuel+1) listed a w:=by
 subst hl
 refine wpAnyIn_ready hr (by simp) (AllReadyIn.cons hi (λK hK=>?_) AllReadyIn.nil)
 have:=h K hK
 split
 ·rename_i hw;rw [if_pos hw] at this;exact this
 ·rename_i hw;rw [if_neg hw] at this;exact ⟨λ_ _=>trivial,this⟩
theorem WA.two {i j:Nat} {o o':Oper} {l3:Array Bool} (hi:ops[i]?=some o) (hj:ops[j]?=some o') (hr:Region.ready .any ops listed=[i,j]) (hl:listed.setIfInBounds i true=l2) (hl':listed.setIfInBounds j true=l3)
  (h:∀ (K:Act->World->Prop),(∀ a w,WA P ops Q fuel l2 a w->K a w)->if Region.wanted o (yielded ops a.tmps)=true then Oper.wpIn (FW none) 0 P o a w K Q else K (a.put o.dst undef) w)
  (h':∀ (K:Act->World->Prop),(∀ a w,WA P ops Q fuel l3 a w->K a w)->if Region.wanted o' (yielded ops a.tmps)=true then Oper.wpIn (FW none) 0 P o' a w K Q else K (a.put o'.dst undef) w):WA P ops Q (fuel+1) listed a w:=by
 subst hl;subst hl'
 refine wpAnyIn_ready hr (by simp) (AllReadyIn.cons hi (λK hK=>?_) (AllReadyIn.cons hj (λK hK=>?_) AllReadyIn.nil))
 ·have:=h K hK
  split
  ·rename_i hw;rw [if_pos hw] at this;exact this
  ·rename_i hw;rw [if_neg hw] at this;exact ⟨λ_ _=>trivial,this⟩
 ·have:=h' K hK
  split
  ·rename_i hw;rw [if_pos hw] at this;exact this
  ·rename_i hw;rw [if_neg hw] at this;exact ⟨λ_ _=>trivial,this⟩
theorem WA.nil (hr:Region.ready .any ops listed=[]) (h:Q .normal a w):WA P ops Q fuel listed a w:=wpAnyIn_done hr h fuel
abbrev WO (P:Program) (ops:Array Oper) (Q:Exit->Act->World->Prop) (o:Oper) (K:Act->World->Prop) (a:Act) (w:World):Prop:=
 if Region.wanted o (yielded ops a.tmps)=true then Oper.wpIn (FW none) 0 P o a w K Q else K (a.put o.dst undef) w
theorem zQY {o:Oper} {K:Act->World->Prop} (hg:o.guard=none) (hnd:∀ c,o.op≠.defer c) {v:Value} {w':World} (hr:(execOp a.eval o).run P w=.ok (.value v) w') (h:K (a.put o.dst v) w'):WO P ops Q o K a w:=by
 unfold WO
 rw [if_pos (by simp [Region.wanted,hg])]
 refine ⟨λ_ _=>trivial,?_⟩
 rw [Oper.semAt_eq _ _ _ hnd,hr]
 exact h
theorem zPS {o:Oper} {K:Act->World->Prop} (hg:o.guard=none) (hnd:∀ c,o.op≠.defer c) {w':World} (hr:(execOp a.eval o).run P w=.ok .skip w') (h:K (a.put o.dst undef) w'):WO P ops Q o K a w:=by
 unfold WO
 rw [if_pos (by simp [Region.wanted,hg])]
 refine ⟨λ_ _=>trivial,?_⟩
 rw [Oper.semAt_eq _ _ _ hnd,hr]
 exact h
theorem Sat.wop (hE:Sat ds N E a) {K:Act->World->Prop} {τ:Type} {enc:τ->Value} {s:Sem Value} {k:τ->World->Prop} {op:Op} {ty:TypeId} {pos:String} {aft:Array Edge} {d:Nat}
  (he:execOp a.eval ⟨some d,op,ty,pos,aft,none⟩=pv s) (H:opE P enc s w k) (next:∀ x w' a',k x w'->Sat ds N ((d,enc x)::E) a'->K a' w')
  (hN:Nat.blt d N=true:=by rfl) (hnd:∀ c,op≠.defer c:=by intro c h;cases h):WO P ops Q ⟨some d,op,ty,pos,aft,none⟩ K a w:=by
 obtain ⟨x,w',hr,hk⟩:=H
 exact zQY rfl hnd (v:=enc x) (w':=w') (by rw [he];simp [hr]) (next x w' _ hk (hE.put hN _))
theorem Sat.wopu (hE:Sat ds N E a) {K:Act->World->Prop} {s:Sem Unit} {k:World->Prop} {op:Op} {ty:TypeId} {pos:String} {aft:Array Edge}
  (he:execOp a.eval ⟨none,op,ty,pos,aft,none⟩=pu s) (H:opU P s w k) (next:∀ w' a',k w'->Sat ds N E a'->K a' w')
  (hnd:∀ c,op≠.defer c:=by intro c h;cases h):WO P ops Q ⟨none,op,ty,pos,aft,none⟩ K a w:=by
 obtain ⟨w',hr,hk⟩:=H
 exact zPS rfl hnd (w':=w') (by rw [he];simp [hr]) (next w' _ hk hE)
theorem Sat.wcall (hE:Sat ds N E a) {K:Act->World->Prop} {f:FuncId} {args:Array Value} {R:Ending->World->Prop} {op:Op} {ty:TypeId} {pos:String} {aft:Array Edge} {d:Nat}
  (he:(execOp a.eval ⟨some d,op,ty,pos,aft,none⟩).run P w=.ok (.enter f args) w) (H:Cl P f args w R)
  (next:∀ e w',R e w'->∃ v,e=.returned v/\∀ a',Sat ds N ((d,v)::E) a'->K a' w')
  (hN:Nat.blt d N=true:=by rfl) (hnd:∀ c,op≠.defer c:=by intro c h;cases h):WO P ops Q ⟨some d,op,ty,pos,aft,none⟩ K a w:=by
 unfold WO
 rw [if_pos (by simp [Region.wanted])]
 refine ⟨λ_ _=>trivial,?_⟩
 rw [Oper.semAt_eq _ _ _ hnd,he,Oper.uponIn_enter]
 refine ⟨λh=>by simp [FW,Fence.wide] at h,?_⟩
 have hc':CallsIn (FW none) 0 P f args w R:=H
 refine CallsIn.mono hc' λe w'' hR=>?_
 obtain ⟨v,rfl,hv⟩:=next e w'' hR
 exact hv _ (hE.put hN v)
theorem Sat.apur (hE:Sat ds N E a) {i:Nat} {op:Op} {ty:TypeId} {pos:String} {aft:Array Edge} {d:Nat} {v:Value} (hq:zGV Q) (hs:Region.noSelect ops=true) (hi:ops[i]?=some ⟨some d,op,ty,pos,aft,none⟩)
  (hf:Region.free .any ops listed i=true) (hr:(Region.ready .any ops listed).contains i=true) (hl:listed.setIfInBounds i true=l2)
  (he:∀ w,(execOp a.eval ⟨some d,op,ty,pos,aft,none⟩).run P w=.ok (.value v) w) (next:∀ a',Sat ds N ((d,v)::E) a'->WA P ops Q fuel l2 a' w)
  (hN:Nat.blt d N=true:=by rfl) (hc:zH3 op=true:=by rfl):WA P ops Q (fuel+1) listed a w:=
 WA.take rfl hq hs hi hf hr hl ⟨.inl ⟨by simp [Region.wanted],he⟩,λw=>zLh hc _ w⟩ (next _ (hE.put hN v))
theorem Sat.aop (hE:Sat ds N E a) {i:Nat} {τ:Type} {enc:τ->Value} {s:Sem Value} {k:τ->Prop} {op:Op} {ty:TypeId} {pos:String} {aft:Array Edge} {d:Nat} (hq:zGV Q) (hs:Region.noSelect ops=true) (hi:ops[i]?=some ⟨some d,op,ty,pos,aft,none⟩)
  (hf:Region.free .any ops listed i=true) (hr:(Region.ready .any ops listed).contains i=true) (hl:listed.setIfInBounds i true=l2)
  (he:execOp a.eval ⟨some d,op,ty,pos,aft,none⟩=pv s) (H:opP P enc s k) (next:∀ x a',k x->Sat ds N ((d,enc x)::E) a'->WA P ops Q fuel l2 a' w)
  (hN:Nat.blt d N=true:=by rfl) (hc:zH3 op=true:=by rfl):WA P ops Q (fuel+1) listed a w:=by
 obtain ⟨x,hx,hk⟩:=H
 exact WA.take rfl hq hs hi hf hr hl ⟨.inl ⟨by simp [Region.wanted],λw=>by rw [he];simp [hx w]⟩,λw=>zLh hc _ w⟩ (next x _ hk (hE.put hN _))
theorem Q7 {s:Sem Next} {v:Value} (h:s=pn v) (w:World):s.run P w=.ok (.value v) w:=by rw [h];rfl
end
def zF5 (P:Program) (v:Value) (args:List Value) (w:World) (R:Ending->World->Prop):Prop:=
 (∃ (f:FuncId) (us lb:List Value),v=.func (.func f) us.toArray lb.toArray/\Ent P f/\Cl P f (us++args++lb).toArray w R)∨
 (∃ l,v=.func (.yield l) #[] #[]/\YieldAt (FW none) 0 P l args.toArray w R)
section
variable {ro:Option Nat} {P:Program} {ops:Array Oper} {Q:Exit->Act->World->Prop} {ds:List Deferred} {N:Nat} {E:Env} {a:Act} {w:World} {rest:List Oper}
theorem zOi {o:Oper} (hg:o.guard=none) (hnd:∀ c,o.op≠.defer c) {l:Nat} {f:FuncId} {tmps:Array Value} {asg body:Code} (hr:(execOp a.eval o).run P w=.ok (.round l f tmps asg body) w)
  {R:Ending->World->Prop} (hc:RoundIn (FW none) 0 P l f tmps asg body w R)
  (h:∀ e w'',R e w''->∃ v,e=.returned v/\WL ro P ops Q rest (a.put o.dst v) w''):WL ro P ops Q (o::rest) a w:=by
 unfold WL wpListIn
 rw [if_pos (by simp [Region.wanted,hg])]
 refine ⟨λ_ _=>trivial,?_⟩
 rw [Oper.semAt_eq _ _ _ hnd,hr,Oper.uponIn_round]
 refine ⟨λh=>by simp [FW,Fence.wide] at h,?_⟩
 have hc':RoundIn (FW ro) 0 P l f tmps asg body w R:=hc
 refine RoundIn.mono hc' λe w'' hR=>?_
 obtain ⟨v,rfl,hv⟩:=h e w'' hR
 exact hv
theorem zNB (hE:Sat ds N E a) {P:Program} {w:World} {x:Operand} {xs:List Operand} {vs ts} {l:Nat} {f:FuncId} {tmps:Array Value} {asg body:Code} {d:Option Tmp} {ty:TypeId} {pos:String} {aft:Array Edge}
  (hx:ev E x=some (.func (.yield l) #[] #[])) (h:evL E xs=some vs) (hy:(Instr.yield l vs.toArray).run P w=.ok (.round l f tmps asg body) w):
  (execOp a.eval ⟨d,.call {callee:=.value x,args:=xs.toArray,argTypes:=ts},ty,pos,aft,none⟩).run P w=.ok (.round l f tmps asg body) w:=by
 rw [← hE.evA h] at hy
 have e:=hE.ev hx
 simpa [execOp,resolve,Deferred.ofValue,e,invoke] using hy
theorem Sat.callV (hE:Sat ds N E a) {x:Operand} {xs:List Operand} {v:Value} {vs:List Value} {ts} {R:Ending->World->Prop} {ty:TypeId} {pos:String} {aft:Array Edge} {d:Nat}
  (hx:Go.VB.ev E x=some v) (hxs:Go.VB.evL E xs=some vs) (H:zF5 P v vs w R)
  (next:∀ e w',R e w'->∃ v,e=.returned v/\∀ a',Sat ds N ((d,v)::E) a'->WL ro P ops Q rest a' w')
  (hN:Nat.blt d N=true:=by rfl):WL ro P ops Q (⟨some d,.call {callee:=.value x,args:=xs.toArray,argTypes:=ts},ty,pos,aft,none⟩::rest) a w:=by
 rcases H with ⟨f,us,lb,rfl,he,hc⟩|⟨l,rfl,fn,tmps,asg,body,hy,hR⟩
 ·exact zNH rfl (by intro c h;cases h) (by have:=zKv hE (w:=w) (ts:=ts) (d:=some d) (ty:=ty) (pos:=pos) (aft:=aft) he hx hxs;simpa using this) hc λe w' hR=>by
   obtain ⟨v,rfl,hv⟩:=next e w' hR
   exact ⟨v,rfl,hv _ (hE.put hN v)⟩
 ·exact zOi rfl (by intro c h;cases h) (zNB hE hx hxs hy) hR λe w' hR=>by
   obtain ⟨v,rfl,hv⟩:=next e w' hR
   exact ⟨v,rfl,hv _ (hE.put hN v)⟩
end
theorem zOu (ro:Option Nat) (k:Nat):(FW ro).room k:=λd h=>by simp [FW,Fence.wide] at h
theorem zIc {ro:Option Nat} {n m:Nat} {P:Program} {c:Code} {Q:Exit->Act->World->Prop} {a:Act} {w:World} (h:c.wpIn (FW ro) n P Q a w):c.wpIn (FW ro) m P Q a w:=
 λb k cs h1 h2 _=>h b k cs h1 h2 (zOu ro _)
abbrev mark (D:Nat):Deferred:={target:=.collected D,args:=#[]}
def zIs {α:Type} (P:Program) (v:Value) (encs:α->List Value) (Kp:World->World->Prop) (S Sp:List α->Prop) (Num:Nat) (w:World):Prop:=
 ∃ (gf:FuncId) (lb:List Value),v=.func (.func gf) #[] lb.toArray/\Ent P gf/\SeqStopsK (FW none) 0 P gf lb.toArray (λx=>(encs x).toArray) Kp S Sp Num w
structure zFb {α:Type} (P:Program) (v:Value) (encs:α->List Value) (Kp:World->World->Prop) (S Sp:List α->Prop) (Num:Nat) (I Ir:List α->World->Prop) (w:World):Prop where
 seq:zIs P v encs Kp S Sp Num w
 kt:∀ A B C:World,Kp A B->Kp B C->Kp A C
 kb:∀ (W:World) (l:Nat) (o o':Obj),w.heap.size<=l->W.heap[l]?=some o->o.isCells=false->o.isWalk=false->Kp W (W.putObj l o')
 ka:∀ pre (W:World) (o:Obj),I pre W->Kp W (W.alloc o)
 own:OwnFrom w.heap.size I
 ownr:OwnFrom w.heap.size Ir
 lo:∀ pre W,I pre W->w.heap.size<=W.heap.size
 start:I [] w
def zLc (j:Option Code) (goes leave:World->Prop):Exit->Act->World->Prop
 |.normal,_,W=>goes W
 |.ret,_,W=>j=some .ret/\leave W
 |.exit id,_,W=>j=some (.exit id)/\leave W
 |_,_,_=>False
section
variable {P:Program} {Q:Exit->Act->World->Prop} {N:Nat} {E:Env} {a:Act} {w:World}
theorem zPC {τ:Type} (enc:τ->Value) (cells:τ->List Value) (j:Option Code) {g:Operand} {p s:Nat} {t:TypeId} {v:Value} {body:Code} {id:Nat} {ty ty':TypeId} {pos pos':String} {aft aft':Array Edge}
  {Kp:World->World->Prop} {S Sp:List τ->Prop} {Num:Nat} {I Ir:List τ->World->Prop}
  (hE:Sat [] N E a) (hg:ev E g=some v) (hR:zFb P v (λx:τ=>[enc x]) Kp S Sp Num I Ir w)
  (hnew:∀ x W (k:Option Addr->World->Prop),k (some ⟨W.heap.size,0,none⟩) (W.alloc (.cells (cells x).toArray t))->opE P zC (zk t true (.tuple #[])) W (λp W=>opU P (zK t (.pointer p) (enc x)) W (k p)))
  (hp:Nat.blt p N=true) (hs:Nat.blt s N=true) (hsp:Nat.beq s p=false)
  (hbody:∀ (l:Nat) (pre:List τ) (x:τ) (Bx:Nat) (W:World) (a:Act),w.heap.size<=Bx->W.heap[Bx]?=some (.cells (cells x).toArray t)->I pre W->pre.length<Num->
   Sat [] N ((s,.pointer (some ⟨Bx,0,none⟩))::(p,enc x)::E) a->
   WC (some l) P body (zLc j (λW'=>KeepsFrom w.heap.size W W'/\Kp W W'/\I (pre++[x]) W') (λW'=>KeepsFrom w.heap.size W W'/\Ir (pre++[x]) W')) a W)
  (hdone:∀ (D:Nat) (xs:List τ) (W:World) (a:Act),w.heap.size<=D->S xs->I xs W->W.heap[D]?=some (.deferred (some []))->Sat [mark D] N E a->Q .normal a W)
  (hstop:∀ (D:Nat) (c:Code) (pre:List τ) (W:World) (a:Act),j=some c->w.heap.size<=D->Sp pre->Ir pre W->W.heap[D]?=some (.deferred (some []))->Sat [mark D] N E a->WC none P c Q a W):
  WC none P (.rangeFunc g #[p] (.region id [⟨some s,.alloc t,ty,pos,aft,none⟩,⟨none,.store t (.tmp s) (.tmp p),ty',pos',aft',none⟩].toArray false) body) Q a w:=by
 obtain ⟨gf,lb,rfl,he,hseq⟩:=hR.seq
 have hd:a.defers=[]:=hE.defs
 have hmk:∀ D,Sat [mark D] N E {a with defers:={target:=.collected D,args:=#[]}::a.defers}:=λD=>⟨hE.size,hE.vals,by simp [hd]⟩
 refine zIc (n:=1) (wpIn_rangeFunc_ownH (F:=FW none) (n:=1) rfl (zU 1) (gf:=gf) (lb:=lb.toArray) (hE.ev hg) trivial he hseq (λh1 h2=>hR.kt _ _ _ h1 h2) hR.kb (Go.RowKit.Below.refl _ _) (λ_=>rfl)
  I (λc pre W=>j=some c/\Ir pre W) hR.own (λc s A B row hs hg' hr=>⟨hs.1,hR.ownr s A B row hs.2 hg' hr⟩) hR.start
  (λx a' W=>∃ Bx,w.heap.size<=Bx/\W.heap[Bx]?=some (.cells (cells x).toArray t)/\Sat [] N ((s,.pointer (some ⟨Bx,0,none⟩))::(p,enc x)::E) a')
  (λx a' _ A B row hs hg' hr=>?_) ?_ ?_ ?_ ?_)
 ·obtain ⟨Bx,h1,h2,h3⟩:=hs
  refine ⟨Bx,h1,(hg'.block Bx (Array.getElem?_eq_some_iff.1 h2).1 (λe=>?_)).trans h2,h3⟩
  obtain ⟨_,o,ho,hc⟩:=hr Bx e.symm
  rw [h2] at ho;cases ho;simp [Obj.isCells] at hc
 ·intro l pre x W K hI hK
  have hSat:Sat [] N ((p,enc x)::E) {tmps:=((#[p]:Array Tmp).zip #[enc x]).foldl (λt (p,v)=>t.setIfInBounds p v) a.tmps,defers:=[]}:=by
   have:=Sat.put (⟨hE.size,hE.vals,rfl⟩:Sat [] N E {a with defers:=[]}) hp (enc x)
   simpa [Act.put] using this
  refine zE (ro:=some l) ?_
  have hop:=hnew x W (λq W1=>∃ Bx,q=some ⟨Bx,0,none⟩/\Bx=W.heap.size/\W1=W.alloc (.cells (cells x).toArray t)) ⟨_,rfl,rfl,rfl⟩
  refine hSat.val (enc:=zC) YW (by intro c h;cases h) hs hop λq W1 a1 hk hS1=>?_
  have hq:ev ((s,zC q)::(p,enc x)::E) (.tmp s)=some (.pointer q):=by
   show (bif Nat.beq s s then _ else _)=_
   simp
  have hq2:ev ((s,zC q)::(p,enc x)::E) (.tmp p)=some (enc x):=by
   show (bif Nat.beq s p then _ else _)=_
   rw [hsp]
   show (bif Nat.beq p p then _ else _)=_
   simp
  refine hS1.unit (zT hS1 hq hq2) (by intro c h;cases h) hk λW2 a2 hk2 hS2=>?_
  obtain ⟨Bx,rfl,rfl,rfl⟩:=hk2
  refine zM (hK _ _ ((KeepsOthers.alloc _ _).from _) (hR.ka pre W _ hI) ?_ ⟨W.heap.size,hR.lo pre W hI,World.alloc_heap_new _ _,hS2⟩)
  exact hR.own.alloc _ hI
 ·rintro l pre x a' W hl _ hI ⟨Bx,h1,h2,h3⟩ hlen
  refine wpIn_mono (hbody l pre x Bx W a' h1 h2 hI hlen h3) λe a3 W3 h=>?_
  cases e with
  |normal=>exact h
  |ret=>exact ⟨h.2.1,h.1,h.2.2⟩
  |exit id=>exact ⟨h.2.1,h.1,h.2.2⟩
  |goto t=>exact h.elim
  |panic ch=>exact h.elim
  |outgrown=>exact h.elim
 ·exact λD xs W hD hS hI hK=>hdone D xs W _ hD hS hI hK (hmk D)
 ·exact λD c pre W hD hS hI hK=>zIc (hstop D c pre W _ hI.1 hD hS hI.2 hK (hmk D))
def resV (P:Program) (E:Env) (w:World):List ResultVar->List Value->Prop
 |[],[]=>True
 |.tmp t::rs,v::vs=>lk E t=some v/\resV P E w rs vs
 |.cell b t::rs,v::vs=>(∃ ad,lk E b=some (.pointer (some ad))/\(loadVar t ad).run P w=.ok v w)/\resV P E w rs vs
 |_,_=>False
def zKd:List Value->Value
 |[v]=>v
 |vs=>.tuple vs.toArray
def resF (a:Act):ResultVar->Sem Value
 |.tmp t=>Pure.pure (a.tmps.getD t undef)
 |.cell b t=>do loadVar t (← asAddr (a.tmps.getD b undef))
theorem zJz {ds:List Deferred} (hE:Sat ds N E a):∀ {rs:List ResultVar} {vs:List Value},resV P E w rs vs->(rs.mapM (resF a)).run P w=.ok vs w
 |[],[],_=>by simp
 |.tmp t::rs,v::vs,h=>by
  have h1:=hE.vals t v h.1
  simp only [List.mapM_cons,resF,h1,Sem.run_bind,Sem.run_pure,Result.andThen_ok,zJz hE h.2]
 |.cell b t::rs,v::vs,h=>by
  obtain ⟨⟨ad,h1,h2⟩,h3⟩:=h
  have h4:=hE.vals b _ h1
  simp [resF,h4,asAddr,h2,zJz hE h3]
theorem zGM {ds:List Deferred} (hE:Sat ds N E a) {fn:Func} {rs:List ResultVar} {vs:List Value} (hr:fn.results=rs.toArray) (h:resV P E w rs vs):(results fn a.tmps).run P w=.ok (zKd vs) w:=by
 have h1:=zJz hE h
 have h2:results fn a.tmps=(do let vs ← rs.toArray.mapM (resF a);pure (if h:vs.size=1 then vs[0] else .tuple vs)):=by
  unfold results;rw [hr];rfl
 rw [h2,List.mapM_toArray,map_eq_pure_bind]
 simp only [Sem.run_bind,h1,Result.andThen_ok,Sem.run_pure]
 congr 1
 match vs with
 |[]=>rfl
 |[v]=>rfl
 |v::v'::vs=>simp [zKd]
theorem zIZ {f:FuncId} {fn:Func} {c:Code} {args:List Value} {R:Ending->World->Prop} (N:Nat) (E:Env)
  (hf:P.funcs[f]?=some fn) (hb:fn.body=some c) (hN:fn.ntmps=N) (hle:Nat.ble args.length N=true)
  (hz:zipE 0 args=E)
  (h:∀ a,Sat [] N E a->WC none P c (bodyPostM (FW none) 0 P fn R) a w):Cl P f args.toArray w R:=by
 subst hN
 exact callsIn_of_wp_marks hf hb trivial (h _ (Sat.enter args.toArray (by simpa using hle) (by intro t v hv;rw [← hz] at hv;simpa using (zJd args 0 t v hv).2))) rfl
theorem zLF {fn:Func} {R:Ending->World->Prop} (hE:Sat [] N E a) {rs:List ResultVar} {vs:List Value} (hr:fn.results=rs.toArray) (hv:resV P E w rs vs) (h:R (.returned (zKd vs)) w):bodyPost P fn R .ret a w:=
 ⟨hE.defs,_,zGM hE hr hv,h⟩
theorem zIi {fn:Func} {R:Ending->World->Prop} (hE:Sat [] N E a) {rs:List ResultVar} {vs:List Value} (hr:fn.results=rs.toArray) (hv:resV P E w rs vs) (h:R (.returned (zKd vs)) w):bodyPostM (FW none) 0 P fn R .ret a w:=by
 show LeavesInM _ _ _ _ _ _ a.defers _ _
 rw [hE.defs]
 exact ⟨_,zGM hE hr hv,h⟩
def zMm (D:Nat) (w:World) (k:World->Prop):Prop:=w.heap[D]?=some (.deferred (some []))/\k (w.putObj D (.deferred none))
theorem zK3 {fn:Func} {R:Ending->World->Prop} {D:Nat} (hE:Sat [mark D] N E a) {rs:List ResultVar} {vs:List Value} (hr:fn.results=rs.toArray) (hD:w.heap[D]?=some (.deferred (some []))) (hv:resV P E (w.putObj D (.deferred none)) rs vs) (h:R (.returned (zKd vs)) (w.putObj D (.deferred none))):bodyPostM (FW none) 0 P fn R .ret a w:=by
 show LeavesInM _ _ _ _ _ _ a.defers _ _
 rw [hE.defs]
 exact ⟨by simp,.inl ⟨_,_,rfl,run_takeDeferred hD,⟨_,zGM hE hr hv,h⟩⟩⟩
end
def opR {τ:Type} (P:Program) (enc:τ->Value) (t:TypeId) (p:Option Addr) (w:World) (k:τ->Prop):Prop:=∃ x ad,p=some ad/\(loadVar t ad).run P w=.ok (enc x) w/\k x
def zQg {τ:Type} (P:Program) (v:Value) (enc:τ->Value) (t:TypeId) (w:World) (body:τ->Option Addr->World->(World->Prop)->(World->Prop)->Prop) (rest stop:Nat->World->Prop):Prop:=
 ∃ (cells:τ->List Value) (Kp:World->World->Prop) (S Sp:List τ->Prop) (Num:Nat) (I Ir:List τ->World->Prop),zFb P v (λx:τ=>[enc x]) Kp S Sp Num I Ir w/\
  (∀ x W (k:Option Addr->World->Prop),k (some ⟨W.heap.size,0,none⟩) (W.alloc (.cells (cells x).toArray t))->opE P zC (zk t true (.tuple #[])) W (λp W=>opU P (zK t (.pointer p) (enc x)) W (k p)))/\
  (∀ pre x Bx W,w.heap.size<=Bx->W.heap[Bx]?=some (.cells (cells x).toArray t)->I pre W->pre.length<Num->
   body x (some ⟨Bx,0,none⟩) W (λW'=>KeepsFrom w.heap.size W W'/\Kp W W'/\I (pre++[x]) W') (λW'=>KeepsFrom w.heap.size W W'/\Ir (pre++[x]) W'))/\
  (∀ D xs W,w.heap.size<=D->S xs->I xs W->W.heap[D]?=some (.deferred (some []))->rest D W)/\
  (∀ D pre W,w.heap.size<=D->Sp pre->Ir pre W->W.heap[D]?=some (.deferred (some []))->stop D W)
section
variable {P:Program} {Q:Exit->Act->World->Prop} {N:Nat} {E:Env} {a:Act} {w:World}
end
def Zb (P:Program) (v:Value) (args:List Value) (w:World) (x:Value):Prop:=
 ∃ (f:FuncId) (us lb:List Value),v=.func (.func f) us.toArray lb.toArray/\Ent P f/\∀ w',Bel w w'->Cl P f (us++args++lb).toArray w' (λe w''=>e=.returned x/\Bel w' w'')
theorem Sat.qcallV {P:Program} {ops:Array Oper} {ds:List Deferred} {N:Nat} {E:Env} {a:Act} {w:World} {rest:List Oper} {K:Act->Prop} (hE:Sat ds N E a) {x:Operand} {xs:List Operand} {v u:Value} {vs:List Value} {ts} {ty:TypeId} {pos:String} {aft:Array Edge} {d:Nat}
  (hx:Go.VB.ev E x=some v) (hxs:Go.VB.evL E xs=some vs) (H:Zb P v vs w u)
  (next:∀ a',Sat ds N ((d,u)::E) a'->WQ P ops w K rest a') (hN:Nat.blt d N=true:=by rfl):WQ P ops w K (⟨some d,.call {callee:=.value x,args:=xs.toArray,argTypes:=ts},ty,pos,aft,none⟩::rest) a:=by
 obtain ⟨f,us,lb,rfl,he,hc⟩:=H
 refine zOP rfl (λw'=>?_) hc (next _ (hE.put hN u))
 have:=zKv hE (w:=w') (ts:=ts) (d:=some d) (ty:=ty) (pos:=pos) (aft:=aft) he hx hxs
 simpa using this
end Go.VB
set_option linter.unusedVariables false
set_option linter.unusedSimpArgs false
namespace Go.Proofs.YtealcoghiaeiiaaGreat.VG
open Go.VB Go.Proofs
structure zI where
 Key:ByteArray
 Val:ByteArray
 Gone:Bool
abbrev zI.cells (x:zI):_root_.List Value:=[(.string x.Key),(.string x.Val),(.bool x.Gone)]
abbrev zI.v (x:zI):Value:=.agg (zI.cells x).toArray
structure Y5 where
 Kind:Int
 Tx:Int
 Key:ByteArray
 To:ByteArray
 Val:ByteArray
abbrev Y5.cells (x:Y5):_root_.List Value:=[(.int .u8 x.Kind),(.int .i64 x.Tx),(.string x.Key),(.string x.To),(.string x.Val)]
abbrev Y5.v (x:Y5):Value:=.agg (Y5.cells x).toArray
structure Zm where
 Why:Int
 Tx:Int
 Val:ByteArray
 Is:Bool
 Pairs:Sl
 Done:Sl
 Time:Int
abbrev Zm.cells (x:Zm):_root_.List Value:=[(.int .i64 x.Why),(.int .i64 x.Tx),(.string x.Val),(.bool x.Is),(Sl.v x.Pairs),(Sl.v x.Done),(.int .u64 x.Time)]
abbrev Zm.v (x:Zm):Value:=.agg (Zm.cells x).toArray
structure zBn where
 tx:Int
 steps:Sl
 seen:Sl
abbrev zBn.cells (x:zBn):_root_.List Value:=[(.int .i64 x.tx),(Sl.v x.steps),(Sl.v x.seen)]
abbrev zBn.v (x:zBn):Value:=.agg (zBn.cells x).toArray
structure zL where
 Key:ByteArray
 Val:ByteArray
abbrev zL.cells (x:zL):_root_.List Value:=[(.string x.Key),(.string x.Val)]
abbrev zL.v (x:zL):Value:=.agg (zL.cells x).toArray
structure zP where
 List:Sl
 Low:Int
abbrev zP.cells (x:zP):_root_.List Value:=[(Sl.v x.List),(.int .u64 x.Low)]
abbrev zP.v (x:zP):Value:=.agg (zP.cells x).toArray
structure zG where
 Key:ByteArray
 At:Int
 Val:ByteArray
 Gone:Bool
abbrev zG.cells (x:zG):_root_.List Value:=[(.string x.Key),(.int .u64 x.At),(.string x.Val),(.bool x.Gone)]
abbrev zG.v (x:zG):Value:=.agg (zG.cells x).toArray
structure zCL where
 versions:zP
 now:Int
 given:Int
 open_:Option Nat
abbrev zCL.cells (x:zCL):_root_.List Value:=[(Sl.v x.versions.List),(.int .u64 x.versions.Low),(.int .u64 x.now),(.int .i64 x.given),(.map x.open_)]
abbrev zCL.v (x:zCL):Value:=.agg (zCL.cells x).toArray
structure zF8 where
 began:Int
 reads:Sl
 writes:Option Nat
abbrev zF8.cells (x:zF8):_root_.List Value:=[(.int .u64 x.began),(Sl.v x.reads),(.map x.writes)]
abbrev zF8.v (x:zF8):Value:=.agg (zF8.cells x).toArray
structure z8 where
 from_:ByteArray
 to_:ByteArray
 only:Bool
abbrev z8.cells (x:z8):_root_.List Value:=[(.string x.from_),(.string x.to_),(.bool x.only)]
abbrev z8.v (x:z8):Value:=.agg (z8.cells x).toArray
structure zFY where
abbrev zFY.cells (x:zFY):_root_.List Value:=[]
abbrev zFY.v (x:zFY):Value:=.agg (zFY.cells x).toArray
structure zBD where
 x:Int
 y:Int
 signed:Bool
 code:Int
abbrev zBD.cells (x:zBD):_root_.List Value:=[(.int .i64 x.x),(.int .i64 x.y),(.bool x.signed),(.int .u8 x.code)]
abbrev zBD.v (x:zBD):Value:=.agg (zBD.cells x).toArray
structure ZN where
 msg:ByteArray
 addr:Int
abbrev ZN.cells (x:ZN):_root_.List Value:=[(.string x.msg),(.int .u64 x.addr)]
abbrev ZN.v (x:ZN):Value:=.agg (ZN.cells x).toArray
structure Zp where
 typ:Option Addr
abbrev Zp.cells (x:Zp):_root_.List Value:=[(.pointer x.typ)]
abbrev Zp.v (x:Zp):Value:=.agg (Zp.cells x).toArray
abbrev zGi:FuncId:=3
abbrev zHa:FuncId:=10
abbrev zJp:FuncId:=11
abbrev zFf:FuncId:=12
abbrev zFQ:FuncId:=13
abbrev zF2:FuncId:=14
abbrev zFP:FuncId:=15
abbrev zII:FuncId:=16
abbrev zFr:FuncId:=17
abbrev zH6:FuncId:=18
abbrev zIT:FuncId:=22
abbrev zGE:FuncId:=28
abbrev zIV:FuncId:=31
abbrev zDC:FuncId:=33
abbrev zIz:FuncId:=34
abbrev zCE:FuncId:=35
abbrev zIu:FuncId:=36
abbrev zH9:FuncId:=37
abbrev zGO:FuncId:=38
abbrev zJB:FuncId:=39
abbrev zLg:FuncId:=40
abbrev zH8:FuncId:=41
abbrev zK9:FuncId:=42
abbrev zDz:FuncId:=43
abbrev zFO:FuncId:=44
abbrev zJU:FuncId:=45
abbrev zEK:FuncId:=46
abbrev zDN:FuncId:=47
abbrev zHH:FuncId:=48
abbrev zLa:FuncId:=51
abbrev zDV:FuncId:=52
abbrev zD1:FuncId:=55
abbrev zKO:FuncId:=56
abbrev zAO:FuncId:=57
abbrev zDw:FuncId:=58
abbrev zDL:FuncId:=59
abbrev zCw:FuncId:=60
abbrev zBk:FuncId:=62
abbrev zEq:FuncId:=63
abbrev zKM:FuncId:=64
abbrev zKC:FuncId:=65
abbrev zID:FuncId:=66
abbrev zCi:FuncId:=67
abbrev zC2:FuncId:=68
abbrev zKK:FuncId:=69
abbrev zKl:FuncId:=70
abbrev zLK:FuncId:=71
abbrev zE2:FuncId:=72
abbrev zL9:FuncId:=73
abbrev zFu:FuncId:=80
abbrev zDs:FuncId:=81
abbrev ZP:FuncId:=82
abbrev zCp:FuncId:=83
abbrev zFi:FuncId:=84
abbrev zEN:FuncId:=85
abbrev zKI:FuncId:=86
abbrev zHL:FuncId:=87
abbrev zHM:FuncId:=88
abbrev zAm:FuncId:=89
abbrev zDa:FuncId:=90
abbrev zEw:FuncId:=91
abbrev zDT:FuncId:=92
abbrev zEI:FuncId:=93
abbrev zDd:FuncId:=94
abbrev zCJ:FuncId:=95
abbrev zDM:FuncId:=96
abbrev zEe:FuncId:=97
abbrev zKD:FuncId:=99
abbrev zEs:FuncId:=103
abbrev zCo:FuncId:=105
abbrev zD7:FuncId:=106
abbrev zCn:FuncId:=107
abbrev zDF:FuncId:=108
abbrev zC1:FuncId:=109
abbrev zBu:FuncId:=110
abbrev zCb:FuncId:=111
abbrev zDg:FuncId:=112
abbrev zEu:FuncId:=114
abbrev zGR:FuncId:=115
abbrev zGe:FuncId:=116
abbrev zDJ:FuncId:=117
abbrev zE9:FuncId:=118
abbrev zC9:FuncId:=128
abbrev zEZ:FuncId:=129
abbrev zDG:FuncId:=130
abbrev zDm:FuncId:=131
abbrev zDU:FuncId:=132
abbrev zCG:FuncId:=133
abbrev zC0:FuncId:=134
abbrev zEL:FuncId:=135
abbrev zD2:FuncId:=136
abbrev zCZ:FuncId:=137
abbrev zEb:FuncId:=138
abbrev zFF:FuncId:=139
abbrev zEh:FuncId:=144
abbrev zCu:FuncId:=145
abbrev zE5:FuncId:=146
abbrev zEa:FuncId:=147
abbrev zE3:FuncId:=149
theorem zQt:Ent zA 10:=Ent.of Tryz.func10 (by rfl) (by rfl)
theorem zPw:Ent zA 11:=Ent.of Tryz.func11 (by rfl) (by rfl)
theorem zMs:Ent zA 12:=Ent.of Tryz.func12 (by rfl) (by rfl)
theorem zRq:Ent zA 13:=Ent.of Tryz.func13 (by rfl) (by rfl)
theorem zOx:Ent zA 14:=Ent.of Tryz.func14 (by rfl) (by rfl)
theorem zOr:Ent zA 15:=Ent.of Tryz.func15 (by rfl) (by rfl)
theorem zRm:Ent zA 16:=Ent.of Tryz.func16 (by rfl) (by rfl)
theorem zQ6:Ent zA 17:=Ent.of Tryz.func17 (by rfl) (by rfl)
theorem zRL:Ent zA 18:=Ent.of Tryz.func18 (by rfl) (by rfl)
theorem zQB:Ent zA 22:=Ent.of Tryz.func22 (by rfl) (by rfl)
theorem zQ9:Ent zA 28:=Ent.of Tryz.func28 (by rfl) (by rfl)
theorem zRQ:Ent zA 31:=Ent.of Tryz.func31 (by rfl) (by rfl)
theorem zRT:Ent zA 33:=Ent.of Tryz.func33 (by rfl) (by rfl)
theorem zQz:Ent zA 34:=Ent.of Tryz.func34 (by rfl) (by rfl)
theorem zP0:Ent zA 35:=Ent.of Tryz.func35 (by rfl) (by rfl)
theorem zND:Ent zA 36:=Ent.of Tryz.func36 (by rfl) (by rfl)
theorem zM0:Ent zA 37:=Ent.of Tryz.func37 (by rfl) (by rfl)
theorem zQ8:Ent zA 38:=Ent.of Tryz.func38 (by rfl) (by rfl)
theorem zRV:Ent zA 39:=Ent.of Tryz.func39 (by rfl) (by rfl)
theorem zP1:Ent zA 40:=Ent.of Tryz.func40 (by rfl) (by rfl)
theorem zRM:Ent zA 41:=Ent.of Tryz.func41 (by rfl) (by rfl)
theorem zRU:Ent zA 42:=Ent.of Tryz.func42 (by rfl) (by rfl)
theorem zQv:Ent zA 43:=Ent.of Tryz.func43 (by rfl) (by rfl)
theorem zRo:Ent zA 44:=Ent.of Tryz.func44 (by rfl) (by rfl)
theorem zP2:Ent zA 45:=Ent.of Tryz.func45 (by rfl) (by rfl)
theorem zRk:Ent zA 46:=Ent.of Tryz.func46 (by rfl) (by rfl)
theorem zRp:Ent zA 47:=Ent.of Tryz.func47 (by rfl) (by rfl)
theorem zOB:Ent zA 48:=Ent.of Tryz.func48 (by rfl) (by rfl)
theorem zRd:Ent zA 51:=Ent.of Tryz.func51 (by rfl) (by rfl)
theorem zP6:Ent zA 52:=Ent.of Tryz.func52 (by rfl) (by rfl)
theorem zPx:Ent zA 55:=Ent.of Tryz.func55 (by rfl) (by rfl)
theorem zRK:Ent zA 56:=Ent.of Tryz.func56 (by rfl) (by rfl)
theorem zQD:Ent zA 57:=Ent.of Tryz.func57 (by rfl) (by rfl)
theorem zRD:Ent zA 58:=Ent.of Tryz.func58 (by rfl) (by rfl)
theorem zQ1:Ent zA 59:=Ent.of Tryz.func59 (by rfl) (by rfl)
theorem zQ2:Ent zA 60:=Ent.of Tryz.func60 (by rfl) (by rfl)
theorem zRS:Ent zA 61:=Ent.of Tryz.func61 (by rfl) (by rfl)
theorem zRW:Ent zA 62:=Ent.of Tryz.func62 (by rfl) (by rfl)
theorem zRC:Ent zA 63:=Ent.of Tryz.func63 (by rfl) (by rfl)
theorem zOy:Ent zA 64:=Ent.of Tryz.func64 (by rfl) (by rfl)
theorem zRP:Ent zA 65:=Ent.of Tryz.func65 (by rfl) (by rfl)
theorem zQw:Ent zA 66:=Ent.of Tryz.func66 (by rfl) (by rfl)
theorem zRI:Ent zA 67:=Ent.of Tryz.func67 (by rfl) (by rfl)
theorem zPv:Ent zA 68:=Ent.of Tryz.func68 (by rfl) (by rfl)
theorem zQC:Ent zA 69:=Ent.of Tryz.func69 (by rfl) (by rfl)
theorem zQA:Ent zA 70:=Ent.of Tryz.func70 (by rfl) (by rfl)
theorem zOO:Ent zA 71:=Ent.of Tryz.func71 (by rfl) (by rfl)
theorem zOD:Ent zA 72:=Ent.of Tryz.func72 (by rfl) (by rfl)
theorem zM4:Ent zA 73:=Ent.of Tryz.func73 (by rfl) (by rfl)
theorem zPy:Ent zA 74:=Ent.of Tryz.func74 (by rfl) (by rfl)
theorem zQ5:Ent zA 78:=Ent.of Tryz.func78 (by rfl) (by rfl)
theorem zRi:Ent zA 79:=Ent.of Tryz.func79 (by rfl) (by rfl)
theorem zRY:Ent zA 80:=Ent.of Tryz.func80 (by rfl) (by rfl)
theorem zRX:Ent zA 81:=Ent.of Tryz.func81 (by rfl) (by rfl)
theorem zQu:Ent zA 82:=Ent.of Tryz.func82 (by rfl) (by rfl)
theorem zRa:Ent zA 83:=Ent.of Tryz.func83 (by rfl) (by rfl)
theorem zQr:Ent zA 84:=Ent.of Tryz.func84 (by rfl) (by rfl)
theorem zPA:Ent zA 85:=Ent.of Tryz.func85 (by rfl) (by rfl)
theorem zRB:Ent zA 86:=Ent.of Tryz.func86 (by rfl) (by rfl)
theorem zQ0:Ent zA 87:=Ent.of Tryz.func87 (by rfl) (by rfl)
theorem zRn:Ent zA 88:=Ent.of Tryz.func88 (by rfl) (by rfl)
theorem zRE:Ent zA 89:=Ent.of Tryz.func89 (by rfl) (by rfl)
theorem zRZ:Ent zA 90:=Ent.of Tryz.func90 (by rfl) (by rfl)
theorem zQ4:Ent zA 91:=Ent.of Tryz.func91 (by rfl) (by rfl)
theorem zQs:Ent zA 92:=Ent.of Tryz.func92 (by rfl) (by rfl)
theorem zRA:Ent zA 93:=Ent.of Tryz.func93 (by rfl) (by rfl)
theorem zRF:Ent zA 94:=Ent.of Tryz.func94 (by rfl) (by rfl)
theorem zRl:Ent zA 95:=Ent.of Tryz.func95 (by rfl) (by rfl)
theorem zRj:Ent zA 96:=Ent.of Tryz.func96 (by rfl) (by rfl)
theorem zQy:Ent zA 97:=Ent.of Tryz.func97 (by rfl) (by rfl)
theorem zRh:Ent zA 99:=Ent.of Tryz.func99 (by rfl) (by rfl)
theorem zQi:Ent zA 102:=Ent.of Tryz.func102 (by rfl) (by rfl)
theorem zMQ:Ent zA 103:=Ent.of Tryz.func103 (by rfl) (by rfl)
theorem zQa:Ent zA 104:=Ent.of Tryz.func104 (by rfl) (by rfl)
theorem zQT:Ent zA 105:=Ent.of Tryz.func105 (by rfl) (by rfl)
theorem zQq:Ent zA 106:=Ent.of Tryz.func106 (by rfl) (by rfl)
theorem zQV:Ent zA 107:=Ent.of Tryz.func107 (by rfl) (by rfl)
theorem zQX:Ent zA 108:=Ent.of Tryz.func108 (by rfl) (by rfl)
theorem zQZ:Ent zA 109:=Ent.of Tryz.func109 (by rfl) (by rfl)
theorem zQm:Ent zA 110:=Ent.of Tryz.func110 (by rfl) (by rfl)
theorem zQl:Ent zA 111:=Ent.of Tryz.func111 (by rfl) (by rfl)
theorem zQE:Ent zA 112:=Ent.of Tryz.func112 (by rfl) (by rfl)
theorem zN7:Ent zA 113:=Ent.of Tryz.func113 (by rfl) (by rfl)
theorem zO8:Ent zA 114:=Ent.of Tryz.func114 (by rfl) (by rfl)
theorem zMk:Ent zA 115:=Ent.of Tryz.func115 (by rfl) (by rfl)
theorem zMG:Ent zA 116:=Ent.of Tryz.func116 (by rfl) (by rfl)
theorem zMJ:Ent zA 117:=Ent.of Tryz.func117 (by rfl) (by rfl)
theorem zOe:Ent zA 118:=Ent.of Tryz.func118 (by rfl) (by rfl)
theorem zQf:Ent zA 128:=Ent.of Tryz.func128 (by rfl) (by rfl)
theorem zQJ:Ent zA 129:=Ent.of Tryz.func129 (by rfl) (by rfl)
theorem zQH:Ent zA 130:=Ent.of Tryz.func130 (by rfl) (by rfl)
theorem zQU:Ent zA 131:=Ent.of Tryz.func131 (by rfl) (by rfl)
theorem zQb:Ent zA 132:=Ent.of Tryz.func132 (by rfl) (by rfl)
theorem zQN:Ent zA 133:=Ent.of Tryz.func133 (by rfl) (by rfl)
theorem zQK:Ent zA 134:=Ent.of Tryz.func134 (by rfl) (by rfl)
theorem zQe:Ent zA 135:=Ent.of Tryz.func135 (by rfl) (by rfl)
theorem zN3:Ent zA 136:=Ent.of Tryz.func136 (by rfl) (by rfl)
theorem zMW:Ent zA 137:=Ent.of Tryz.func137 (by rfl) (by rfl)
theorem zOv:Ent zA 138:=Ent.of Tryz.func138 (by rfl) (by rfl)
theorem zMI:Ent zA 139:=Ent.of Tryz.func139 (by rfl) (by rfl)
theorem zOf:Ent zA 144:=Ent.of Tryz.func144 (by rfl) (by rfl)
theorem zMj:Ent zA 145:=Ent.of Tryz.func145 (by rfl) (by rfl)
theorem zOt:Ent zA 146:=Ent.of Tryz.func146 (by rfl) (by rfl)
theorem zMV:Ent zA 147:=Ent.of Tryz.func147 (by rfl) (by rfl)
theorem zMX:Ent zA 149:=Ent.of Tryz.func149 (by rfl) (by rfl)
end Go.Proofs.YtealcoghiaeiiaaGreat.VG
set_option linter.unusedVariables false
set_option linter.unusedSimpArgs false
namespace Go.VB
section
variable {P:Program} {ops:Array Oper} {Q:Exit->Act->World->Prop} {fin:Option Nat} {C:World->Prop} {fuel:Nat} {listed l2 l3:Array Bool} {a:Act} {w:World}
def WK (fin:Option Nat) (C:World->Prop) (P:Program) (ops:Array Oper) (Q:Exit->Act->World->Prop):Nat->Array Bool->Act->World->Prop
 |0,listed,a,w=>Region.ready .any ops listed=[]/\Q .normal a w
 |fuel+1,listed,a,w=>(Region.ready .any ops listed=[]->Q .normal a w)/\∀ i∈Region.ready .any ops listed,
   wpOpIn (FW none) 0 P ops Q i (λa' w'=>(fin=some i∨C w')/\WK fin C P ops Q fuel (listed.setIfInBounds i true) a' w') a w
def zKr (ops:Array Oper) (i:Nat):List Nat:=(List.range ops.size).foldl (λU u=>if u==i||(match ops[u]? with
 |some o=>o.after.toList.any λe=>Region.binds .any e&&U.contains e.on
 |none=>false) then u::U else U) []
def zJi (fin:Option Nat) (ops:Array Oper) (listed:Array Bool) (i:Nat):Bool:=match fin with
 |none=>true
 |some f=>(zKr ops i).contains f&&(zKr ops i).all λu=>(listed.getD u true==false)&&(u==i||(match ops[u]? with
  |some o=>o.after.toList.any λe=>Region.binds .any e&&(zKr ops i).contains e.on
  |none=>false))
def zOJ (fin:Option Nat) (ops:Array Oper) (listed:Array Bool) (i:Nat):Prop:=∀ f,fin=some f->∃ U:List Nat,f∈U/\(∀ u∈U,listed.getD u true=false)/\∀ u∈U,u=i∨∃ o,ops[u]?=some o/\∃ e∈o.after,Region.binds .any e=true/\e.on∈U
theorem zMh {fin:Option Nat} {ops:Array Oper} {listed:Array Bool} {i:Nat} (h:zJi fin ops listed i=true):zOJ fin ops listed i:=by
 intro f hf
 subst hf
 unfold zJi at h
 simp only [Bool.and_eq_true,List.all_eq_true,List.contains_iff_mem,Bool.or_eq_true,beq_iff_eq] at h
 refine ⟨zKr ops i,h.1,λu hu=>(h.2 u hu).1,λu hu=>?_⟩
 rcases (h.2 u hu).2 with h1|h1
 ·exact .inl h1
 ·right
  cases ho:ops[u]? with
  |none=>rw [ho] at h1;cases h1
  |some o=>
   rw [ho] at h1
   simp only [List.any_eq_true,Bool.and_eq_true,List.contains_iff_mem] at h1
   obtain ⟨e,he,h2,h3⟩:=h1
   exact ⟨o,rfl,e,by simpa using he,h2,h3⟩
theorem WK.any:∀ (fuel:Nat) (listed:Array Bool) (a:Act) (w:World),WK fin C P ops Q fuel listed a w->WA P ops Q fuel listed a w
 |0,_,_,_,h=>h
 |fuel+1,_,_,_,h=>⟨h.1,λi hi=>wpOpIn_mono (λa' w' h'=>WK.any fuel _ a' w' h'.2) (h.2 i hi)⟩
theorem zPB {i:Nat} {o:Oper} {K:Act->World->Prop} (hi:ops[i]?=some o) (h:wpOpIn (FW none) 0 P ops Q i K a w):
  wpOpIn (FW none) 0 P ops Q i (λa' w'=>(∃ u ds,a'={a.put o.dst u with defers:=ds})/\K a' w') a w:=by
 have sh:∀ u,∃ u' ds,a.put o.dst u={a.put o.dst u' with defers:=ds}:=λu=>⟨u,(a.put o.dst u).defers,rfl⟩
 unfold wpOpIn at*
 simp only [hi] at*
 split
 ·rename_i hw
  rw [if_pos hw] at h
  unfold Oper.wpIn at*
  refine ⟨h.1,?_⟩
  have h2:=h.2
  generalize (o.semAt (FW none).round a.eval).run P w=r at h2 ⊢
  cases r with
  |halt x w'=>cases x<;>exact h2
  |ok x w'=>
   cases x with
   |value u=>exact ⟨sh u,h2⟩
   |skip=>exact ⟨sh _,h2⟩
   |defer d=>exact ⟨⟨undef,d::a.defers,by cases hd:o.dst<;>rfl⟩,h2⟩
   |enter f args=>exact ⟨h2.1,CallsIn.mono h2.2 λe w'' he=>by cases e<;>first|exact ⟨sh _,he⟩|exact he⟩
   |row r args=>exact ⟨h2.1,RowsIn.mono h2.2 λu w'' he=>⟨sh u,he⟩⟩
   |round l f ts as_ bd=>exact ⟨h2.1,RoundIn.mono h2.2 λe w'' he=>by cases e<;>first|exact ⟨sh _,he⟩|exact he⟩
   |_=>exact h2
 ·rename_i hw
  rw [if_neg hw] at h
  exact ⟨h.1,sh _,h.2⟩
structure zIe (C:World->Prop) (P:Program) (o:Oper) (v:Value) (a:Act):Prop where
 run:∀ w,C w->(execOp a.eval o).run P w=.ok (.value v) w
theorem zIe.same {o:Oper} {v:Value} {a a':Act} (h:zIe C P o v a) (he:execOp a'.eval o=execOp a.eval o):zIe C P o v a':=⟨λw hw=>by rw [he];exact h.run w hw⟩
theorem zIe.op {i:Nat} {o:Oper} {v:Value} (hi:ops[i]?=some o) (hg:o.guard=none) (h:zIe C P o v a) (hw:C w) {K:Act->World->Prop} (hK:K (a.put o.dst v) w):wpOpIn (FW none) 0 P ops Q i K a w:=by
 unfold wpOpIn
 simp only [hi]
 rw [if_pos (by simp [Region.wanted,hg])]
 unfold Oper.wpIn
 refine ⟨λ_ _=>trivial,?_⟩
 rw [show (FW none).round=none from rfl,Oper.semAt_none,h.run w hw]
 exact hK
theorem zQx {oi oj:Oper} {v:Value} {j:Nat} (hj:ops[j]?=some oj) (hap:oi.apart ops oj=true) (hsi:∀ cs b,oi.op≠.select cs b) (hsj:∀ cs b,oj.op≠.select cs b)
  (hQ:∀ c a w,Q (.panic c) (a.put oi.dst v) w->Q (.panic c) a w) {K:Act->World->Prop} (hL:zIe C P oi v a) (h:wpOpIn (FW none) 0 P ops Q j K (a.put oi.dst v) w):
  wpOpIn (FW none) 0 P ops Q j (λa' w'=>zIe C P oi v a'/\K (a'.put oi.dst v) w') a w:=by
 obtain ⟨h1,h2,h3⟩:=Oper.apart_spec hap
 have hfake:Oper.apart ops {oi with op:=.move (.const v),guard:=none} oj=true:=by
  unfold Oper.apart
  simp only [Bool.and_eq_true]
  refine ⟨?_,?_⟩
  ·cases hd:oi.dst with
   |none=>rfl
   |some d=>simpa [hd] using ⟨h1 d hd,h2 d hd⟩
  ·cases hd:oj.dst with
   |none=>rfl
   |some d=>simp [Oper.looksAt,Op.operands]
 have h4:=wpOpIn_put (oi:={oi with op:=.move (.const v),guard:=none}) (F:=FW none) rfl hj hfake (by intro cs b h;cases h) hsj hQ (a:=a) (w:=w) (K:=K)
  ⟨.inl ⟨by simp [Region.wanted],λw=>rfl⟩,λw=>rfl⟩ h
 refine wpOpIn_mono (λa' w' hh=>?_) (zPB hj h4)
 obtain ⟨⟨u,ds,rfl⟩,_,hk⟩:=hh
 exact ⟨hL.same (execOp_put oi hsi a oj.dst u h3),hk⟩
theorem WK.first {i:Nat} {oi:Oper} {v:Value} (hi:ops[i]?=some oi) (hg:oi.guard=none) (hs:∀ (j:Nat) (o:Oper) cs b,ops[j]?=some o->o.op≠.select cs b)
  (hQ:∀ c a w,Q (.panic c) (a.put oi.dst v) w->Q (.panic c) a w):∀ (fuel:Nat) (listed:Array Bool) (a:Act) (w:World),
  (∀ j oj,ops[j]?=some oj->j≠i->listed.getD j true=false->(∀ e∈oj.after,Region.binds .any e=true->e.on≠i)->oi.apart ops oj=true)->
  zOJ fin ops listed i->i∈Region.ready .any ops listed->zIe C P oi v a->C w->WK fin C P ops Q fuel (listed.setIfInBounds i true) (a.put oi.dst v) w->WK fin C P ops Q (fuel+1) listed a w:=by
 intro fuel
 induction fuel with
 |zero=>
  intro listed a w _ hF hr hL hw H
  refine ⟨λh=>(by rw [h] at hr;cases hr),λj hj=>?_⟩
  by_cases hji:j=i
  ·subst hji;exact hL.op hi hg hw ⟨.inr hw,H⟩
  ·have h1:=ready_mono hj hji
   rw [H.1] at h1;cases h1
 |succ fuel ih=>
  intro listed a w hfree hF hr hL hw H
  refine ⟨λh=>(by rw [h] at hr;cases hr),λj hj=>?_⟩
  by_cases hji:j=i
  ·subst hji;exact hL.op hi hg hw ⟨.inr hw,H⟩
  obtain ⟨hjun,oj,hoj,hall⟩:=mem_ready.1 hj
  have hi0:=(mem_ready.1 hr).1
  have hnot:∀ e∈oj.after,Region.binds .any e=true->e.on≠i:=λe he hb heq=>by
   have h1:=hall e he hb
   rw [heq] at h1
   rcases Nat.lt_or_ge i listed.size with h'|h'
   ·simp [h'] at hi0 h1;rw [hi0] at h1;cases h1
   ·simp [Array.getElem?_eq_none h'] at h1
  have h2:=zQx hoj (hfree j oj hoj hji hjun hnot) (λcs b=>hs i oi cs b hi) (λcs b=>hs j oj cs b hoj) hQ hL (H.2 j (ready_mono hj hji))
  refine wpOpIn_mono (λa' w' h3=>?_) h2
  obtain ⟨hL',hC',hK'⟩:=h3
  have hri:i∈Region.ready .any ops (listed.setIfInBounds j true):=ready_mono hr (Ne.symm hji)
  rw [Array.setIfInBounds_comm _ _ (Ne.symm hji)] at hK'
  have hjU:∀ U:List Nat,(∀ u∈U,listed.getD u true=false)->(∀ u∈U,u=i∨∃ o,ops[u]?=some o/\∃ e∈o.after,Region.binds .any e=true/\e.on∈U)->j∉U:=λU h1 h2 hj=>by
   rcases h2 j hj with h3|⟨o,h3,e,h4,h5,h6⟩
   ·exact hji h3
   ·rw [hoj] at h3;cases h3
    have h7:=hall e h4 h5
    have h8:=h1 _ h6
    rw [Array.getD_eq_getD_getElem?] at h8
    rcases Nat.lt_or_ge e.on listed.size with h'|h'
    ·simp [h'] at h7 h8;rw [h8] at h7;cases h7
    ·simp [Array.getElem?_eq_none h'] at h8
  replace hC':C w':=by
   rcases hC' with h|h
   ·obtain ⟨U,h1,h2,h3⟩:=hF j h
    exact absurd h1 (hjU U h2 h3)
   ·exact h
  have hF':zOJ fin ops (listed.setIfInBounds j true) i:=λf hf=>by
   obtain ⟨U,h1,h2,h3⟩:=hF f hf
   refine ⟨U,h1,λu hu=>?_,h3⟩
   have h4:j≠u:=λe=>hjU U h2 h3 (e ▸ hu)
   rw [getD_set_ne true h4];exact h2 u hu
  refine ⟨.inr hC',ih _ a' w' (λk ok hk hki hun hno=>hfree k ok hk hki ?_ hno) hF' hri hL' hC' hK'⟩
  by_cases hjk:j=k
  ·subst hjk;exact hjun
  ·rw [getD_set_ne true hjk] at hun;exact hun
end
section
variable {P:Program} {ops:Array Oper} {ds:List Deferred} {N:Nat} {E:Env} {a:Act} {w:World} {Q:Exit->Act->World->Prop} {fuel:Nat} {listed l2 l3:Array Bool} {fin:Option Nat} {C:World->Prop}
def opC {τ:Type} (C:World->Prop) (P:Program) (enc:τ->Value) (s:Sem Value) (k:τ->Prop):Prop:=∃ x,(∀ w,C w->s.run P w=.ok (enc x) w)/\k x
def regC (w:World) (k:(World->Prop)->World->Prop):Prop:=∃ C:World->Prop,∀ w',Bel w w'->C w'/\k C w'
theorem zRH {id:Nat} {l:List Oper} {k:(World->Prop)->World->Prop} (H:regC w k) (n:Nat) (l2:Array Bool) (hm:P.follows .mixedOrders=true)
  (h:∀ C w',C w'->k C w'->WK none C P l.toArray Q n l2 a w') (hn:l.toArray.size=n:=by rfl) (hl:Array.replicate n false=l2:=by rfl):WC none P (.region id l.toArray true) Q a w:=by
 subst hn;subst hl
 obtain ⟨C,hC⟩:=H
 obtain ⟨h1,h2⟩:=hC _ (Bel.draw w)
 exact wpIn_region_any hm (WK.any _ _ _ _ (h C _ h1 h2))
theorem zQI (fin:Option Nat) {id:Nat} {l:List Oper} {k:(World->Prop)->World->Prop} (H:regC w k) (n:Nat) (l2:Array Bool) (hm:P.follows .mixedOrders=true)
  (h:∀ C w',C w'->k C w'->WK fin C P l.toArray Q n l2 a w') (hn:l.toArray.size=n:=by rfl) (hl:Array.replicate n false=l2:=by rfl):WC none P (.region id l.toArray true) Q a w:=by
 subst hn;subst hl
 obtain ⟨C,hC⟩:=H
 obtain ⟨h1,h2⟩:=hC _ (Bel.draw w)
 exact wpIn_region_any hm (WK.any _ _ _ _ (h C _ h1 h2))
theorem WK.take {i d:Nat} {o:Oper} {v:Value} (hd:o.dst=some d) (hg:o.guard=none) (hq:zGV Q) (hs:Region.noSelect ops=true) (hi:ops[i]?=some o) (hf:Region.free .any ops listed i=true) (hr:(Region.ready .any ops listed).contains i=true)
  (hl:listed.setIfInBounds i true=l2) (hC:C w) (hL:zIe C P o v a) (h:WK fin C P ops Q fuel l2 (a.put o.dst v) w) (hF:zJi fin ops listed i=true):WK fin C P ops Q (fuel+1) listed a w:=by
 subst hl
 exact WK.first hi hg (Region.noSelect_spec hs) (λc a w=>by rw [hd];exact hq c a w d v) fuel listed a w (Region.free_spec hi hf) (zMh hF) (by simpa using hr) hL hC h
theorem WK.nil (hr:Region.ready .any ops listed=[]) (h:Q .normal a w):WK fin C P ops Q fuel listed a w:=by
 cases fuel with
 |zero=>exact ⟨hr,h⟩
 |succ f=>exact ⟨λ_=>h,by rw [hr];simp⟩
theorem zNT {i:Nat} {o:Oper} {K:Act->World->Prop} (hi:ops[i]?=some o) (h:WO P ops Q o K a w):wpOpIn (FW none) 0 P ops Q i K a w:=by
 unfold wpOpIn
 simp only [hi]
 unfold WO at h
 split
 ·rename_i hw;rw [if_pos hw] at h;exact h
 ·rename_i hw;rw [if_neg hw] at h;exact ⟨λ_ _=>trivial,h⟩
theorem WK.one {i:Nat} {o:Oper} (hi:ops[i]?=some o) (hr:Region.ready .any ops listed=[i]) (hl:listed.setIfInBounds i true=l2)
  (h:∀ (K:Act->World->Prop),(∀ a w,C w/\WK fin C P ops Q fuel l2 a w->K a w)->WO P ops Q o K a w):WK fin C P ops Q (fuel+1) listed a w:=by
 subst hl
 refine ⟨λh0=>(by rw [hr] at h0;cases h0),λj hj=>?_⟩
 rw [hr] at hj
 obtain rfl:j=i:=by simpa using hj
 exact zNT hi (h _ λ_ _ h=>⟨.inr h.1,h.2⟩)
theorem WK.last {i:Nat} {o:Oper} (hi:ops[i]?=some o) (hr:Region.ready .any ops listed=[i]) (hl:listed.setIfInBounds i true=l2)
  (h:∀ (K:Act->World->Prop),(∀ a w,WK (some i) C P ops Q fuel l2 a w->K a w)->WO P ops Q o K a w):WK (some i) C P ops Q (fuel+1) listed a w:=by
 subst hl
 refine ⟨λh0=>(by rw [hr] at h0;cases h0),λj hj=>?_⟩
 rw [hr] at hj
 obtain rfl:j=i:=by simpa using hj
 exact zNT hi (h _ λ_ _ h=>⟨.inl rfl,h⟩)
theorem WK.two {i j:Nat} {o o':Oper} (hi:ops[i]?=some o) (hj:ops[j]?=some o') (hr:Region.ready .any ops listed=[i,j]) (hl:listed.setIfInBounds i true=l2) (hl':listed.setIfInBounds j true=l3)
  (h:∀ (K:Act->World->Prop),(∀ a w,C w/\WK fin C P ops Q fuel l2 a w->K a w)->WO P ops Q o K a w)
  (h':∀ (K:Act->World->Prop),(∀ a w,C w/\WK fin C P ops Q fuel l3 a w->K a w)->WO P ops Q o' K a w):WK fin C P ops Q (fuel+1) listed a w:=by
 subst hl;subst hl'
 refine ⟨λh0=>(by rw [hr] at h0;cases h0),λk hk=>?_⟩
 rw [hr] at hk
 rcases List.mem_cons.1 hk with rfl|hk
 ·exact zNT hi (h _ λ_ _ h=>⟨.inr h.1,h.2⟩)
 ·obtain rfl:k=j:=by simpa using hk
  exact zNT hj (h' _ λ_ _ h=>⟨.inr h.1,h.2⟩)
theorem Sat.kpur (hE:Sat ds N E a) {i:Nat} {op:Op} {ty:TypeId} {pos:String} {aft:Array Edge} {d:Nat} {v:Value} (hq:zGV Q) (hs:Region.noSelect ops=true) (hi:ops[i]?=some ⟨some d,op,ty,pos,aft,none⟩)
  (hf:Region.free .any ops listed i=true) (hr:(Region.ready .any ops listed).contains i=true) (hl:listed.setIfInBounds i true=l2) (hC:C w)
  (he:∀ w,(execOp a.eval ⟨some d,op,ty,pos,aft,none⟩).run P w=.ok (.value v) w) (next:∀ a',Sat ds N ((d,v)::E) a'->WK fin C P ops Q fuel l2 a' w)
  (hN:Nat.blt d N=true:=by rfl) (hF:zJi fin ops listed i=true:=by kernel_rfl):WK fin C P ops Q (fuel+1) listed a w:=
 WK.take rfl rfl hq hs hi hf hr hl hC ⟨λw _=>he w⟩ (next _ (hE.put hN v)) hF
theorem Sat.kop (hE:Sat ds N E a) {i:Nat} {τ:Type} {enc:τ->Value} {s:Sem Value} {k:τ->Prop} {op:Op} {ty:TypeId} {pos:String} {aft:Array Edge} {d:Nat} (hq:zGV Q) (hs:Region.noSelect ops=true) (hi:ops[i]?=some ⟨some d,op,ty,pos,aft,none⟩)
  (hf:Region.free .any ops listed i=true) (hr:(Region.ready .any ops listed).contains i=true) (hl:listed.setIfInBounds i true=l2) (hC:C w)
  (he:execOp a.eval ⟨some d,op,ty,pos,aft,none⟩=pv s) (H:opC C P enc s k) (next:∀ x a',k x->Sat ds N ((d,enc x)::E) a'->WK fin C P ops Q fuel l2 a' w)
  (hN:Nat.blt d N=true:=by rfl) (hF:zJi fin ops listed i=true:=by kernel_rfl):WK fin C P ops Q (fuel+1) listed a w:=by
 obtain ⟨x,hx,hk⟩:=H
 exact WK.take rfl rfl hq hs hi hf hr hl hC ⟨λw hw=>by rw [he];simp [hx w hw]⟩ (next x _ hk (hE.put hN _)) hF
end
section
variable {P:Program} {ops:Array Oper} {ds:List Deferred} {N:Nat} {E:Env} {a:Act} {w:World} {Q:Exit->Act->World->Prop} {K:Act->World->Prop}
theorem zPc {o:Oper} (hg:o.guard=none) (hnd:∀ c,o.op≠.defer c) {f:FuncId} {args:Array Value} {w':World} (hr:(execOp a.eval o).run P w=.ok (.enter f args) w')
  {R:Ending->World->Prop} (hc:Cl P f args w' R) (h:∀ e w'',R e w''->∃ v,e=.returned v/\K (a.put o.dst v) w''):WO P ops Q o K a w:=by
 unfold WO
 rw [if_pos (by simp [Region.wanted,hg])]
 refine ⟨λ_ _=>trivial,?_⟩
 rw [Oper.semAt_eq _ _ _ hnd,hr,Oper.uponIn_enter]
 refine ⟨λh=>by simp [FW,Fence.wide] at h,?_⟩
 have hc':CallsIn (FW none) 0 P f args w' R:=hc
 refine CallsIn.mono hc' λe w'' hR=>?_
 obtain ⟨v,rfl,hv⟩:=h e w'' hR
 exact hv
theorem zO2 {o:Oper} (hg:o.guard=none) (hnd:∀ c,o.op≠.defer c) {l:Nat} {f:FuncId} {tmps:Array Value} {asg body:Code} (hr:(execOp a.eval o).run P w=.ok (.round l f tmps asg body) w)
  {R:Ending->World->Prop} (hc:RoundIn (FW none) 0 P l f tmps asg body w R) (h:∀ e w'',R e w''->∃ v,e=.returned v/\K (a.put o.dst v) w''):WO P ops Q o K a w:=by
 unfold WO
 rw [if_pos (by simp [Region.wanted,hg])]
 refine ⟨λ_ _=>trivial,?_⟩
 rw [Oper.semAt_eq _ _ _ hnd,hr,Oper.uponIn_round]
 refine ⟨λh=>by simp [FW,Fence.wide] at h,?_⟩
 refine RoundIn.mono hc λe w'' hR=>?_
 obtain ⟨v,rfl,hv⟩:=h e w'' hR
 exact hv
theorem Sat.wcallV (hE:Sat ds N E a) {x:Operand} {xs:List Operand} {v:Value} {vs:List Value} {ts} {R:Ending->World->Prop} {ty:TypeId} {pos:String} {aft:Array Edge} {d:Nat}
  (hx:Go.VB.ev E x=some v) (hxs:Go.VB.evL E xs=some vs) (H:zF5 P v vs w R)
  (next:∀ e w',R e w'->∃ v,e=.returned v/\∀ a',Sat ds N ((d,v)::E) a'->K a' w')
  (hN:Nat.blt d N=true:=by rfl):WO P ops Q ⟨some d,.call {callee:=.value x,args:=xs.toArray,argTypes:=ts},ty,pos,aft,none⟩ K a w:=by
 rcases H with ⟨f,us,lb,rfl,he,hc⟩|⟨l,rfl,fn,tmps,asg,body,hy,hR⟩
 ·exact zPc rfl (by intro c h;cases h) (by have:=zKv hE (w:=w) (ts:=ts) (d:=some d) (ty:=ty) (pos:=pos) (aft:=aft) he hx hxs;simpa using this) hc λe w' hR=>by
   obtain ⟨v,rfl,hv⟩:=next e w' hR
   exact ⟨v,rfl,hv _ (hE.put hN v)⟩
 ·exact zO2 rfl (by intro c h;cases h) (zNB hE hx hxs hy) hR λe w' hR=>by
   obtain ⟨v,rfl,hv⟩:=next e w' hR
   exact ⟨v,rfl,hv _ (hE.put hN v)⟩
end
section
variable {P:Program} {Q:Exit->Act->World->Prop} {N:Nat} {E:Env} {a:Act} {w:World}
theorem zKS {α τ σ:Type} (f:α->τ) (f':α->σ) (enc:τ->Value) (enc':σ->Value) (j:Option Code) {g:Operand} {p p' s s':Nat} {v:Value} {body:Code} {id id':Nat} {ty ty':TypeId} {pos pos':String} {aft aft':Array Edge}
  {Kp:World->World->Prop} {S Sp:List α->Prop} {Num:Nat} {I Ir:List α->World->Prop}
  (hE:Sat [] N E a) (hg:ev E g=some v) (hR:zFb P v (λx:α=>[enc (f x),enc' (f' x)]) Kp S Sp Num I Ir w)
  (hkr:∀ W,Kp W W)
  (hp:Nat.blt p N=true) (hp':Nat.blt p' N=true) (hs:Nat.blt s N=true) (hs':Nat.blt s' N=true) (h1:Nat.beq p' p=false) (h2:Nat.beq s p'=false)
  (hbody:∀ (l:Nat) (pre:List α) (x:α) (W:World) (a:Act),I pre W->pre.length<Num->Sat [] N ((s',enc' (f' x))::(s,enc (f x))::(p',enc' (f' x))::(p,enc (f x))::E) a->
   WC (some l) P body (zLc j (λW'=>KeepsFrom w.heap.size W W'/\Kp W W'/\I (pre++[x]) W') (λW'=>KeepsFrom w.heap.size W W'/\Ir (pre++[x]) W')) a W)
  (hdone:∀ (D:Nat) (xs:List α) (W:World) (a:Act),w.heap.size<=D->S xs->I xs W->W.heap[D]?=some (.deferred (some []))->Sat [mark D] N E a->Q .normal a W)
  (hstop:∀ (D:Nat) (c:Code) (pre:List α) (W:World) (a:Act),j=some c->w.heap.size<=D->Sp pre->Ir pre W->W.heap[D]?=some (.deferred (some []))->Sat [mark D] N E a->WC none P c Q a W):
  WC none P (.rangeFunc g #[p,p'] (.seq (.region id [⟨some s,.assign (.tmp p),ty,pos,aft,none⟩].toArray false) (.region id' [⟨some s',.assign (.tmp p'),ty',pos',aft',none⟩].toArray false)) body) Q a w:=by
 obtain ⟨gf,lb,rfl,he,hseq⟩:=hR.seq
 have hd:a.defers=[]:=hE.defs
 have hmk:∀ D,Sat [mark D] N E {a with defers:={target:=.collected D,args:=#[]}::a.defers}:=λD=>⟨hE.size,hE.vals,by simp [hd]⟩
 refine zIc (n:=1) (wpIn_rangeFunc_ownH (F:=FW none) (n:=1) rfl (zU 1) (gf:=gf) (lb:=lb.toArray) (hE.ev hg) trivial he hseq (λh1 h2=>hR.kt _ _ _ h1 h2) hR.kb (Go.RowKit.Below.refl _ _) (λ_=>rfl)
  I (λc pre W=>j=some c/\Ir pre W) hR.own (λc s A B row hs hg' hr=>⟨hs.1,hR.ownr s A B row hs.2 hg' hr⟩) hR.start
  (λx a' W=>Sat [] N ((s',enc' (f' x))::(s,enc (f x))::(p',enc' (f' x))::(p,enc (f x))::E) a')
  (λx a' _ A B row hs hg' hr=>hs) ?_ ?_ ?_ ?_)
 ·intro l pre x W K hI hK
  have hSat:Sat [] N ((p',enc' (f' x))::(p,enc (f x))::E) {tmps:=((#[p,p']:Array Tmp).zip #[enc (f x),enc' (f' x)]).foldl (λt (p,v)=>t.setIfInBounds p v) a.tmps,defers:=[]}:=by
   have h3:=Sat.put (⟨hE.size,hE.vals,rfl⟩:Sat [] N E {a with defers:=[]}) hp (enc (f x))
   have h4:=Sat.put h3 hp' (enc' (f' x))
   simpa [Act.put] using h4
  refine zJ (ro:=some l) (zE (ro:=some l) ?_)
  have hq:ev ((p',enc' (f' x))::(p,enc (f x))::E) (.tmp p)=some (enc (f x)):=by
   show (bif Nat.beq p' p then _ else _)=_
   rw [h1]
   show (bif Nat.beq p p then _ else _)=_
   simp
  have hq':ev ((s,enc (f x))::(p',enc' (f' x))::(p,enc (f x))::E) (.tmp p')=some (enc' (f' x)):=by
   show (bif Nat.beq s p' then _ else _)=_
   rw [h2]
   show (bif Nat.beq p' p' then _ else _)=_
   simp
  exact hSat.pur (Yt hSat hq) (λa1 hS1=>zM (tn (zE (ro:=some l) (hS1.pur (Yt hS1 hq') (λa2 hS2=>zM (hK _ _ (KeepsFrom.refl _ _) (hkr _) hI hS2)) (hN:=hs'))))) (hN:=hs)
 ·rintro l pre x a' W hl _ hI h3 hlen
  refine wpIn_mono (hbody l pre x W a' hI hlen h3) λe a3 W3 h=>?_
  cases e with
  |normal=>exact h
  |ret=>exact ⟨h.2.1,h.1,h.2.2⟩
  |exit id=>exact ⟨h.2.1,h.1,h.2.2⟩
  |goto t=>exact h.elim
  |panic ch=>exact h.elim
  |outgrown=>exact h.elim
 ·exact λD xs W hD hS hI hK=>hdone D xs W _ hD hS hI hK (hmk D)
 ·exact λD c pre W hD hS hI hK=>zIc (hstop D c pre W _ hI.1 hD hS hI.2 hK (hmk D))
def zM2 {τ σ:Type} (P:Program) (v:Value) (enc:τ->Value) (enc':σ->Value) (w:World) (body:τ->σ->World->(World->Prop)->(World->Prop)->Prop) (rest stop:Nat->World->Prop):Prop:=
 ∃ (α:Type) (f:α->τ) (f':α->σ) (Kp:World->World->Prop) (S Sp:List α->Prop) (Num:Nat) (I Ir:List α->World->Prop),zFb P v (λx:α=>[enc (f x),enc' (f' x)]) Kp S Sp Num I Ir w/\(∀ W,Kp W W)/\
  (∀ pre x W,I pre W->pre.length<Num->body (f x) (f' x) W (λW'=>KeepsFrom w.heap.size W W'/\Kp W W'/\I (pre++[x]) W') (λW'=>KeepsFrom w.heap.size W W'/\Ir (pre++[x]) W'))/\
  (∀ D xs W,w.heap.size<=D->S xs->I xs W->W.heap[D]?=some (.deferred (some []))->rest D W)/\
  (∀ D pre W,w.heap.size<=D->Sp pre->Ir pre W->W.heap[D]?=some (.deferred (some []))->stop D W)
end
end Go.VB
set_option linter.unusedVariables false
namespace Go.VB
section
variable {P:Program} {ops:Array Oper} {ds:List Deferred} {N:Nat} {E:Env} {a:Act} {w:World} {Q:Exit->Act->World->Prop} {fuel:Nat} {listed:Array Bool} {fin:Option Nat} {C:World->Prop}
theorem zBb {id:Nat} {l:List Oper} (n:Nat) (h:∀ w',Bel w w'->WA P l.toArray Q n (Array.replicate n false) a w') (hm:P.follows .mixedOrders=true:=by kernel_rfl) (hn:l.toArray.size=n:=by rfl):
  WC none P (.region id l.toArray true) Q a w:=zRJ n _ hm h hn rfl
theorem Sat.ap (hE:Sat ds N E a) (i:Nat) {op:Op} {ty:TypeId} {pos:String} {aft:Array Edge} {d:Nat} {v:Value} (hi:ops[i]?=some ⟨some d,op,ty,pos,aft,none⟩)
  (he:execOp a.eval ⟨some d,op,ty,pos,aft,none⟩=pn v) (next:∀ a',Sat ds N ((d,v)::E) a'->WA P ops Q fuel (listed.setIfInBounds i true) a' w)
  (hq:zGV Q:=by exact λ_ _ _ _ _ h=>h) (hs:Region.noSelect ops=true:=by kernel_rfl) (hf:Region.free .any ops listed i=true:=by kernel_rfl) (hr:(Region.ready .any ops listed).contains i=true:=by kernel_rfl)
  (hN:Nat.blt d N=true:=by rfl) (hc:zH3 op=true:=by rfl):WA P ops Q (fuel+1) listed a w:=hE.apur hq hs hi hf hr rfl (Q7 he) next hN hc
theorem Sat.ao (hE:Sat ds N E a) (i:Nat) {τ:Type} {enc:τ->Value} {s:Sem Value} {k:τ->Prop} {op:Op} {ty:TypeId} {pos:String} {aft:Array Edge} {d:Nat} (hi:ops[i]?=some ⟨some d,op,ty,pos,aft,none⟩)
  (he:execOp a.eval ⟨some d,op,ty,pos,aft,none⟩=pv s) (H:opP P enc s k) (next:∀ x a',k x->Sat ds N ((d,enc x)::E) a'->WA P ops Q fuel (listed.setIfInBounds i true) a' w)
  (hq:zGV Q:=by exact λ_ _ _ _ _ h=>h) (hs:Region.noSelect ops=true:=by kernel_rfl) (hf:Region.free .any ops listed i=true:=by kernel_rfl) (hr:(Region.ready .any ops listed).contains i=true:=by kernel_rfl)
  (hN:Nat.blt d N=true:=by rfl) (hc:zH3 op=true:=by rfl):WA P ops Q (fuel+1) listed a w:=hE.aop hq hs hi hf hr rfl he H next hN hc
theorem Sat.o1 (hE:Sat ds N E a) (i:Nat) {τ:Type} {enc:τ->Value} {s:Sem Value} {k:τ->World->Prop} {op:Op} {ty:TypeId} {pos:String} {aft:Array Edge} {d:Nat} (hi:ops[i]?=some ⟨some d,op,ty,pos,aft,none⟩)
  (he:execOp a.eval ⟨some d,op,ty,pos,aft,none⟩=pv s) (H:opE P enc s w k) (next:∀ x w' a',k x w'->Sat ds N ((d,enc x)::E) a'->WA P ops Q fuel (listed.setIfInBounds i true) a' w')
  (hr:Region.ready .any ops listed=[i]:=by kernel_rfl) (hN:Nat.blt d N=true:=by rfl) (hnd:∀ c,op≠.defer c:=by intro c h;cases h):WA P ops Q (fuel+1) listed a w:=
 WA.one hi hr rfl λK hK=>hE.wop he H (λx w' a' h hS=>hK _ _ (next x w' a' h hS)) hN hnd
theorem Sat.o1u (hE:Sat ds N E a) (i:Nat) {s:Sem Unit} {k:World->Prop} {op:Op} {ty:TypeId} {pos:String} {aft:Array Edge} (hi:ops[i]?=some ⟨none,op,ty,pos,aft,none⟩)
  (he:execOp a.eval ⟨none,op,ty,pos,aft,none⟩=pu s) (H:opU P s w k) (next:∀ w' a',k w'->Sat ds N E a'->WA P ops Q fuel (listed.setIfInBounds i true) a' w')
  (hr:Region.ready .any ops listed=[i]:=by kernel_rfl) (hnd:∀ c,op≠.defer c:=by intro c h;cases h):WA P ops Q (fuel+1) listed a w:=
 WA.one hi hr rfl λK hK=>hE.wopu he H (λw' a' h hS=>hK _ _ (next w' a' h hS)) hnd
theorem WA.tw (i j:Nat) {o o':Oper} (hi:ops[i]?=some o) (hj:ops[j]?=some o')
  (h:∀ (K:Act->World->Prop),(∀ a w,WA P ops Q fuel (listed.setIfInBounds i true) a w->K a w)->WO P ops Q o K a w)
  (h':∀ (K:Act->World->Prop),(∀ a w,WA P ops Q fuel (listed.setIfInBounds j true) a w->K a w)->WO P ops Q o' K a w) (hr:Region.ready .any ops listed=[i,j]:=by kernel_rfl):WA P ops Q (fuel+1) listed a w:=
 WA.two hi hj hr rfl rfl h h'
theorem WA.ni (h:Q .normal a w) (hr:Region.ready .any ops listed=[]:=by kernel_rfl):WA P ops Q fuel listed a w:=WA.nil hr h
theorem zNw {id:Nat} {l:List Oper} {k:(World->Prop)->World->Prop} (H:regC w k) (n:Nat) (h:∀ C w',C w'->k C w'->WK none C P l.toArray Q n (Array.replicate n false) a w')
  (hm:P.follows .mixedOrders=true:=by kernel_rfl) (hn:l.toArray.size=n:=by rfl):WC none P (.region id l.toArray true) Q a w:=zRH H n _ hm h hn rfl
theorem zNO (f:Nat) {id:Nat} {l:List Oper} {k:(World->Prop)->World->Prop} (H:regC w k) (n:Nat) (h:∀ C w',C w'->k C w'->WK (some f) C P l.toArray Q n (Array.replicate n false) a w')
  (hm:P.follows .mixedOrders=true:=by kernel_rfl) (hn:l.toArray.size=n:=by rfl):WC none P (.region id l.toArray true) Q a w:=zQI (some f) H n _ hm h hn rfl
theorem Sat.kp (hE:Sat ds N E a) (i:Nat) {op:Op} {ty:TypeId} {pos:String} {aft:Array Edge} {d:Nat} {v:Value} (hi:ops[i]?=some ⟨some d,op,ty,pos,aft,none⟩) (hC:C w)
  (he:∀ w,(execOp a.eval ⟨some d,op,ty,pos,aft,none⟩).run P w=.ok (.value v) w) (next:∀ a',Sat ds N ((d,v)::E) a'->WK fin C P ops Q fuel (listed.setIfInBounds i true) a' w)
  (hq:zGV Q:=by exact λ_ _ _ _ _ h=>h) (hs:Region.noSelect ops=true:=by kernel_rfl) (hf:Region.free .any ops listed i=true:=by kernel_rfl) (hr:(Region.ready .any ops listed).contains i=true:=by kernel_rfl)
  (hN:Nat.blt d N=true:=by rfl) (hF:zJi fin ops listed i=true:=by kernel_rfl):WK fin C P ops Q (fuel+1) listed a w:=hE.kpur hq hs hi hf hr rfl hC he next hN hF
theorem Sat.ko (hE:Sat ds N E a) (i:Nat) {τ:Type} {enc:τ->Value} {s:Sem Value} {k:τ->Prop} {op:Op} {ty:TypeId} {pos:String} {aft:Array Edge} {d:Nat} (hi:ops[i]?=some ⟨some d,op,ty,pos,aft,none⟩) (hC:C w)
  (he:execOp a.eval ⟨some d,op,ty,pos,aft,none⟩=pv s) (H:opC C P enc s k) (next:∀ x a',k x->Sat ds N ((d,enc x)::E) a'->WK fin C P ops Q fuel (listed.setIfInBounds i true) a' w)
  (hq:zGV Q:=by exact λ_ _ _ _ _ h=>h) (hs:Region.noSelect ops=true:=by kernel_rfl) (hf:Region.free .any ops listed i=true:=by kernel_rfl) (hr:(Region.ready .any ops listed).contains i=true:=by kernel_rfl)
  (hN:Nat.blt d N=true:=by rfl) (hF:zJi fin ops listed i=true:=by kernel_rfl):WK fin C P ops Q (fuel+1) listed a w:=hE.kop hq hs hi hf hr rfl hC he H next hN hF
theorem WK.on (i:Nat) {o:Oper} (hi:ops[i]?=some o) (h:∀ (K:Act->World->Prop),(∀ a w,C w/\WK fin C P ops Q fuel (listed.setIfInBounds i true) a w->K a w)->WO P ops Q o K a w) (hr:Region.ready .any ops listed=[i]:=by kernel_rfl):WK fin C P ops Q (fuel+1) listed a w:=
 WK.one hi hr rfl h
theorem WK.la (i:Nat) {o:Oper} (hi:ops[i]?=some o) (h:∀ (K:Act->World->Prop),(∀ a w,WK (some i) C P ops Q fuel (listed.setIfInBounds i true) a w->K a w)->WO P ops Q o K a w) (hr:Region.ready .any ops listed=[i]:=by kernel_rfl):WK (some i) C P ops Q (fuel+1) listed a w:=
 WK.last hi hr rfl h
theorem WK.tw (i j:Nat) {o o':Oper} (hi:ops[i]?=some o) (hj:ops[j]?=some o')
  (h:∀ (K:Act->World->Prop),(∀ a w,C w/\WK fin C P ops Q fuel (listed.setIfInBounds i true) a w->K a w)->WO P ops Q o K a w)
  (h':∀ (K:Act->World->Prop),(∀ a w,C w/\WK fin C P ops Q fuel (listed.setIfInBounds j true) a w->K a w)->WO P ops Q o' K a w) (hr:Region.ready .any ops listed=[i,j]:=by kernel_rfl):WK fin C P ops Q (fuel+1) listed a w:=
 WK.two hi hj hr rfl rfl h h'
end
section
variable {ro:Option Nat} {P:Program} {ops:Array Oper} {Q:Exit->Act->World->Prop} {ds:List Deferred} {N:Nat} {E:Env} {a:Act} {w:World} {rest:List Oper} {K:Act->Prop}
theorem Sat.mv (hE:Sat ds N E a) {x v ty pos aft} {d:Nat} (hx:Go.VB.ev E x=some v) (next:∀ a',Sat ds N ((d,v)::E) a'->WL ro P ops Q rest a' w) (hN:Nat.blt d N=true:=by rfl):WL ro P ops Q (⟨some d,.move x,ty,pos,aft,none⟩::rest) a w:=hE.pur (zQ hE hx) next hN
theorem Sat.as_ (hE:Sat ds N E a) {x v ty pos aft} {d:Nat} (hx:Go.VB.ev E x=some v) (next:∀ a',Sat ds N ((d,v)::E) a'->WL ro P ops Q rest a' w) (hN:Nat.blt d N=true:=by rfl):WL ro P ops Q (⟨some d,.assign x,ty,pos,aft,none⟩::rest) a w:=hE.pur (Yt hE hx) next hN
theorem Sat.qm (hE:Sat ds N E a) {x v ty pos aft} {d:Nat} (hx:Go.VB.ev E x=some v) (next:∀ a',Sat ds N ((d,v)::E) a'->WQ P ops w K rest a') (hN:Nat.blt d N=true:=by rfl):WQ P ops w K (⟨some d,.move x,ty,pos,aft,none⟩::rest) a:=hE.qpur (zQ hE hx) next hN
end
end Go.VB
set_option linter.unusedVariables false
set_option linter.unusedSimpArgs false
namespace Go.Proofs.YtealcoghiaeiiaaGreat.VG
open Go.VB Go.Proofs
def xy (x9:Int) (Kl2:Int->World->Prop) (w:World):Prop:=
 Kl2 (zB .i64 (x9 - 1)) w
def yg (x0:Sl) (x8:Int) (Kl1:Int->World->Prop) (x9:Int) (Kl2:Int->World->Prop) (x34:Bool) (w:World):Prop:=
 yG w (λw=>(x34=true->(yG w (λw=>opP zA zC (zF 22 (Sl.v x0) (.int .i64 (zB .i64 (x9 - 1)))) (λx45=>opP zA zC (zF 22 (Sl.v x0) (.int .i64 x9)) (λx49=>(opE zA zL.v (zD 66 (.pointer x45)) w (λx46 w=>opE zA zL.v (zD 66 (.pointer x49)) w (λx50 w=>opP zA zC (zF 22 (Sl.v x0) (.int .i64 x9)) (λx51=>opU zA (zK 66 (.pointer x51) (zL.v x46)) w (λw=>opP zA zC (zF 22 (Sl.v x0) (.int .i64 (zB .i64 (x9 - 1)))) (λx52=>opU zA (zK 66 (.pointer x52) (zL.v x50)) w (λw=>xy x9 Kl2 w)))))))/\(opE zA zL.v (zD 66 (.pointer x49)) w (λx50_1 w=>opE zA zL.v (zD 66 (.pointer x45)) w (λx46_1 w=>opP zA zC (zF 22 (Sl.v x0) (.int .i64 x9)) (λx51_1=>opU zA (zK 66 (.pointer x51_1) (zL.v x46_1)) w (λw=>opP zA zC (zF 22 (Sl.v x0) (.int .i64 (zB .i64 (x9 - 1)))) (λx52_1=>opU zA (zK 66 (.pointer x52_1) (zL.v x50_1)) w (λw=>xy x9 Kl2 w))))))))))))/\(x34=false->(Kl1 (zB .i64 (x8+1)) w)))
def YL (x0:Sl) (x1:Int) (x3:Value) (x8:Int) (Kl1:Int->World->Prop) (x9:Int) (w:World) (Kl2:Int->World->Prop):Prop:=
 ((x1<x9)->(opB zA zC (zF 22 (Sl.v x0) (.int .i64 x9)) w (λx25=>opB zA zL.v (zD 66 (.pointer x25)) w (λx26=>opB zA zC (zF 22 (Sl.v x0) (.int .i64 (zB .i64 (x9 - 1)))) w (λx30=>opB zA zL.v (zD 66 (.pointer x30)) w (λx31=>∃ (r:Int),Zb zA x3 [(zL.v x26),(zL.v x31)] w (.int .i64 r)/\(yg x0 x8 Kl1 x9 Kl2 (decide (r<0)) w)))))))/\(¬ (x1<x9)->(yg x0 x8 Kl1 x9 Kl2 false w))
def xU (x0:Sl) (x1:Int) (x2:Int) (x3:Value) (Ret:World->Prop) (x8:Int) (w:World) (Kl1:Int->World->Prop):Prop:=
 ((x8<x2)->(∃ (I:Int->World->Prop) (μ:Int->World->Nat),I x8 w/\∀ (x9:Int) w,I x9 w->YL x0 x1 x3 x8 Kl1 x9 w (λx9' w'=>I x9' w'/\μ x9' w'<μ x9 w)))/\(¬ (x8<x2)->(Ret w))
def Yr (x0:Sl) (x1:Int) (x2:Int) (x3:Value) (w:World) (Ret:World->Prop):Prop:=
 ∃ (I:Int->World->Prop) (μ:Int->World->Nat),I (zB .i64 (x1+1)) w/\∀ (x8:Int) w,I x8 w->xU x0 x1 x2 x3 Ret x8 w (λx8' w'=>I x8' w'/\μ x8' w'<μ x8 w)
set_option maxRecDepth 100000 in
theorem zDc (x0:Sl) (x1:Int) (x2:Int) (x3:Value) (w:World) (Ret:World->Prop) (H:Yr x0 x1 x2 x3 w Ret):Cl zA 90 [(Sl.v x0),(.int .i64 x1),(.int .i64 x2),x3].toArray w (λe w'=>e=.returned (.tuple [].toArray)/\Ret w'):=by
 unfold Yr at H
 refine zl 53 (zipE 0 [(Sl.v x0),(.int .i64 x1),(.int .i64 x2),x3]) Tryz.func90 rfl rfl (by rfl) rfl ?_
 intro a g
 replace g:Sat [] 53 [(0,(Sl.v x0)),(1,(.int .i64 x1)),(2,(.int .i64 x2)),(3,x3)] a:=g
 refine zJ (zE (g.mv rfl λ_ g=>g.pur (zm g rfl rfl) λ_ g=>g.as_ rfl λ_ g=>zM (tn (zW ?_))))
 obtain ⟨I_l1,μ_l1,h0,hb⟩:=H
 refine yD (ds:=[]) (N:=53) (σ:=Int) (λs=>[(8,(.int .i64 s)),(0,(Sl.v x0)),(1,(.int .i64 x1)),(2,(.int .i64 x2)),(3,x3)]) (λs w=>I_l1 s w) (λs w=>μ_l1 s w) (zB .i64 (x1+1)) h0 (g.wk) ?_
 intro x8 w a hI g
 try dsimp only at hI g
 obtain ⟨Kl1,hK_l1⟩:∃ K:Int->World->Prop,K=(λx8' w'=>I_l1 x8' w'/\μ_l1 x8' w'<μ_l1 x8 w):=⟨_,rfl⟩
 have H:xU x0 x1 x2 x3 Ret x8 w Kl1:=by rw [hK_l1];exact hb x8 w hI
 clear hb h0 hI
 unfold xU at H
 refine zJ (zJ (zE (g.mv rfl λ_ g=>g.mv rfl λ_ g=>g.pur (yS g rfl rfl) λ_ g=>zM (tn (zb g rfl (λhc=>?_) (λhc=>?_))))))
 ·replace H:=H.1 hc
  refine zX (tn (zJ (zW (zJ (zE (g.mv rfl λ_ g=>g.as_ rfl λ_ g=>zM (tn (zW ?_))))))))
  obtain ⟨I_l2,μ_l2,h0,hb⟩:=H
  refine yD (ds:=[]) (N:=53) (σ:=Int) (λs=>[(9,(.int .i64 s)),(0,(Sl.v x0)),(1,(.int .i64 x1)),(2,(.int .i64 x2)),(3,x3),(8,(.int .i64 x8))]) (λs w=>I_l2 s w) (λs w=>μ_l2 s w) x8 h0 (g.wk) ?_
  intro x9 w a hI g
  try dsimp only at hI g
  obtain ⟨Kl2,hK_l2⟩:∃ K:Int->World->Prop,K=(λx9' w'=>I_l2 x9' w'/\μ_l2 x9' w'<μ_l2 x9 w):=⟨_,rfl⟩
  have H:YL x0 x1 x3 x8 Kl1 x9 w Kl2:=by rw [hK_l2];exact hb x9 w hI
  clear hb h0 hI
  unfold YL at H
  refine zJ (zJ (QP (by kernel_rfl) (by kernel_rfl) (g.qm rfl λ_ g=>g.qm rfl λ_ g=>g.qpur (zBC g rfl rfl) λ_ g=>g.qm rfl λ_ g=>WQ.join (ds:=[]) (N:=53) (σ:=Bool) (λs=>[(34,(.bool s)),(0,(Sl.v x0)),(1,(.int .i64 x1)),(2,(.int .i64 x2)),(3,x3),(8,(.int .i64 x8)),(9,(.int .i64 x9))]) (λs=>yg x0 x8 Kl1 x9 Kl2 s w) 13 ?_ (λhr3=>?_))))
  ·intro x34 a H g
   try dsimp only at H g
   unfold yg at H
   refine QO (λw hB=>?_)
   replace H:=H w hB
   refine (tn (zd g rfl (λhc=>?_) (λhc=>?_)))
   ·replace H:=H.1 hc
    refine zX (tn (zz (ds:=[]) (N:=53) (σ:=Unit) (λs=>[(0,(Sl.v x0)),(1,(.int .i64 x1)),(2,(.int .i64 x2)),(3,x3),(8,(.int .i64 x8)),(9,(.int .i64 x9))]) (λs w=>xy x9 Kl2 w) ?_ (λhj4=>?_)))
    ·rintro ⟨⟩ w a H g
     try dsimp only at H g
     unfold xy at H
     refine zE (g.mv rfl λ_ g=>g.pur (zq g rfl rfl) λ_ g=>g.as_ rfl λ_ g=>?_)
     rw [hK_l2] at H
     exact zM (tn ⟨(zB .i64 (x9 - 1)),g.wk,H⟩)
    ·refine zW (zBb 18 λw hB=>?_)
     replace H:=H w hB
     refine g.ap 0 rfl (zQ g rfl) λ_ g=>g.ap 1 rfl (zQ g rfl) λ_ g=>g.ap 2 rfl (zQ g rfl) λ_ g=>g.ap 3 rfl (zQ g rfl) λ_ g=>g.ap 4 rfl (zq g rfl rfl) λ_ g=>g.ap 5 rfl (zQ g rfl) λ_ g=>g.ap 6 rfl (zQ g rfl) λ_ g=>g.ap 7 rfl (zq g rfl rfl) λ_ g=>g.ao 8 rfl (zH g rfl rfl) H λx45 a H g=>g.ap 10 rfl (zQ g rfl) λ_ g=>g.ap 11 rfl (zQ g rfl) λ_ g=>g.ao 12 rfl (zH g rfl rfl) H λx49 a H g=>WA.tw 9 13 rfl rfl ?_ ?_
     ·replace H:=H.1
      intro K hK
      exact g.wop (zN g rfl) H λx46 w a H g=>hK _ _ (g.o1 13 rfl (zN g rfl) H λx50 w a H g=>g.ao 14 rfl (zH g rfl rfl) H λx51 a H g=>g.o1u 15 rfl (zT g rfl rfl) H λw a H g=>g.ao 16 rfl (zH g rfl rfl) H λx52 a H g=>g.o1u 17 rfl (zT g rfl rfl) H λw a H g=>WA.ni ((bn (tn (hj4 () _ _ H (g.wk))))))
     ·replace H:=H.2
      intro K hK
      exact g.wop (zN g rfl) H λx50_1 w a H g=>hK _ _ (g.o1 9 rfl (zN g rfl) H λx46_1 w a H g=>g.ao 14 rfl (zH g rfl rfl) H λx51_1 a H g=>g.o1u 15 rfl (zT g rfl rfl) H λw a H g=>g.ao 16 rfl (zH g rfl rfl) H λx52_1 a H g=>g.o1u 17 rfl (zT g rfl rfl) H λw a H g=>WA.ni ((bn (tn (hj4 () _ _ H (g.wk))))))
   ·replace H:=H.2 hc
    refine z5 (te (te (be (bn (tn (zE (g.mv rfl λ_ g=>g.pur (zm g rfl rfl) λ_ g=>g.as_ rfl λ_ g=>?_)))))))
    rw [hK_l1] at H
    exact zM (tn ⟨(zB .i64 (x8+1)),g.wk,H⟩)
  ·rcases Classical.em ((x1<x9)) with hbr3|hbr3
   ·replace H:=H.1 hbr3
    replace g:=g.bool (b:=true) (t:=21) rfl (decide_eq_true hbr3)
    refine g.qon (by rfl) (by rfl) (g.qm rfl λ_ g=>g.qon (by rfl) (by rfl) (g.qm rfl λ_ g=>g.qon (by rfl) (by rfl) (g.qm rfl λ_ g=>g.qon (by rfl) (by rfl) (g.qop (zH g rfl rfl) H λx25 a H g=>g.qon (by rfl) (by rfl) (g.qop (zN g rfl) H λx26 a H g=>g.qon (by rfl) (by rfl) (g.qm rfl λ_ g=>g.qon (by rfl) (by rfl) (g.qm rfl λ_ g=>g.qon (by rfl) (by rfl) (g.qpur (zq g rfl rfl) λ_ g=>g.qon (by rfl) (by rfl) (g.qop (zH g rfl rfl) H λx30 a H g=>g.qon (by rfl) (by rfl) (g.qop (zN g rfl) H λx31 a H g=>g.qon (by rfl) (by rfl) ?_))))))))))
    obtain ⟨r,hc,H⟩:=H
    exact g.qcallV rfl rfl hc λ_ g=>g.qon (by rfl) (by rfl) (g.qpur (yS g rfl rfl) λ_ g=>g.qpur (zu g rfl rfl) λ_ g=>hr3 (decide (r<0)) _ H (g.wk))
   ·replace H:=H.2 hbr3
    replace g:=g.bool (b:=false) (t:=21) rfl (decide_eq_false hbr3)
    exact g.qoff (by rfl) (by rfl) (by decide) (λ_ g=>g.qoff (by rfl) (by rfl) (by decide) (λ_ g=>g.qoff (by rfl) (by rfl) (by decide) (λ_ g=>g.qoff (by rfl) (by rfl) (by decide) (λ_ g=>g.qoff (by rfl) (by rfl) (by decide) (λ_ g=>g.qoff (by rfl) (by rfl) (by decide) (λ_ g=>g.qoff (by rfl) (by rfl) (by decide) (λ_ g=>g.qoff (by rfl) (by rfl) (by decide) (λ_ g=>g.qoff (by rfl) (by rfl) (by decide) (λ_ g=>g.qoff (by rfl) (by rfl) (by decide) (λ_ g=>g.qoff (by rfl) (by rfl) (by decide) (λ_ g=>g.qoff (by rfl) (by rfl) (by decide) (λ_ g=>g.qpur (zv g rfl rfl) λ_ g=>hr3 false _ H (g.wk)))))))))))))
 ·replace H:=H.2 hc
  exact z5 (te (te (be (zBY g rfl ⟨rfl,H⟩))))
def YE (x0:Sl) (x1:Int) (x3:Value) (x12:Int) (Kl2:Int->World->Prop) (w:World):Prop:=
 Cl zA 114 [(Sl.v x0),(.int .i64 0),(.int .i64 x12),(.int .i64 x1),x3].toArray w (λe w=>e=.returned (.tuple [].toArray)/\(Kl2 (zB .i64 (x12 - 1)) w))
def Y0 (x0:Sl) (x1:Int) (x3:Value) (Ret:World->Prop) (x12:Int) (w:World) (Kl2:Int->World->Prop):Prop:=
 ((0<=x12)->(yG w (λw=>opP zA zC (zF 22 (Sl.v x0) (.int .i64 (zB .i64 (x1+x12)))) (λx46=>opP zA zC (zF 22 (Sl.v x0) (.int .i64 x1)) (λx50=>(opE zA zL.v (zD 66 (.pointer x46)) w (λx47 w=>opE zA zL.v (zD 66 (.pointer x50)) w (λx51 w=>opP zA zC (zF 22 (Sl.v x0) (.int .i64 x1)) (λx52=>opU zA (zK 66 (.pointer x52) (zL.v x47)) w (λw=>opP zA zC (zF 22 (Sl.v x0) (.int .i64 (zB .i64 (x1+x12)))) (λx53=>opU zA (zK 66 (.pointer x53) (zL.v x51)) w (λw=>YE x0 x1 x3 x12 Kl2 w)))))))/\(opE zA zL.v (zD 66 (.pointer x50)) w (λx51_1 w=>opE zA zL.v (zD 66 (.pointer x46)) w (λx47_1 w=>opP zA zC (zF 22 (Sl.v x0) (.int .i64 x1)) (λx52_1=>opU zA (zK 66 (.pointer x52_1) (zL.v x47_1)) w (λw=>opP zA zC (zF 22 (Sl.v x0) (.int .i64 (zB .i64 (x1+x12)))) (λx53_1=>opU zA (zK 66 (.pointer x53_1) (zL.v x51_1)) w (λw=>YE x0 x1 x3 x12 Kl2 w))))))))))))/\(¬ (0<=x12)->(Ret w))
def Y2 (x0:Sl) (x1:Int) (x2:Int) (x3:Value) (Ret:World->Prop) (x11:Int) (w:World) (Kl1:Int->World->Prop):Prop:=
 ((0<=x11)->(Cl zA 114 [(Sl.v x0),(.int .i64 x11),(.int .i64 (zB .i64 (x2 - x1))),(.int .i64 x1),x3].toArray w (λe w=>e=.returned (.tuple [].toArray)/\(Kl1 (zB .i64 (x11 - 1)) w))))/\(¬ (0<=x11)->(∃ (I:Int->World->Prop) (μ:Int->World->Nat),I (zB .i64 ((zB .i64 (x2 - x1)) - 1)) w/\∀ (x12:Int) w,I x12 w->Y0 x0 x1 x3 Ret x12 w (λx12' w'=>I x12' w'/\μ x12' w'<μ x12 w)))
def zAi (x0:Sl) (x1:Int) (x2:Int) (x3:Value) (w:World) (Ret:World->Prop):Prop:=
 opE zA (zV .i64) (binOp .quo 3 (.int .i64 (zB .i64 ((zB .i64 (x2 - x1)) - 1))) (.int .i64 2)) w (λx19 w=>∃ (I:Int->World->Prop) (μ:Int->World->Nat),I x19 w/\∀ (x11:Int) w,I x11 w->Y2 x0 x1 x2 x3 Ret x11 w (λx11' w'=>I x11' w'/\μ x11' w'<μ x11 w))
set_option maxRecDepth 100000 in
theorem zEv (x0:Sl) (x1:Int) (x2:Int) (x3:Value) (w:World) (Ret:World->Prop) (H:zAi x0 x1 x2 x3 w Ret):Cl zA 91 [(Sl.v x0),(.int .i64 x1),(.int .i64 x2),x3].toArray w (λe w'=>e=.returned (.tuple [].toArray)/\Ret w'):=by
 unfold zAi at H
 refine zl 60 (zipE 0 [(Sl.v x0),(.int .i64 x1),(.int .i64 x2),x3]) Tryz.func91 rfl rfl (by rfl) rfl ?_
 intro a g
 replace g:Sat [] 60 [(0,(Sl.v x0)),(1,(.int .i64 x1)),(2,(.int .i64 x2)),(3,x3)] a:=g
 refine zJ (zE (g.mv rfl λ_ g=>g.as_ rfl λ_ g=>zM (tn (zJ (zE (g.as_ rfl λ_ g=>zM (tn (zJ (zE (g.mv rfl λ_ g=>g.mv rfl λ_ g=>g.pur (zq g rfl rfl) λ_ g=>g.as_ rfl λ_ g=>zM (tn (zJ (zJ (zE (g.mv rfl λ_ g=>g.pur (zq g rfl rfl) λ_ g=>g.op (Y3 g rfl rfl) H λx19 w a H g=>g.as_ rfl λ_ g=>zM (tn (zW ?_)))))))))))))))))
 obtain ⟨I_l1,μ_l1,h0,hb⟩:=H
 refine yD (ds:=[]) (N:=60) (σ:=Int) (λs=>[(11,(.int .i64 s)),(0,(Sl.v x0)),(3,x3),(8,(.int .i64 x1)),(9,(.int .i64 0)),(10,(.int .i64 (zB .i64 (x2 - x1))))]) (λs w=>I_l1 s w) (λs w=>μ_l1 s w) x19 h0 (g.wk) ?_
 intro x11 w a hI g
 try dsimp only at hI g
 obtain ⟨Kl1,hK_l1⟩:∃ K:Int->World->Prop,K=(λx11' w'=>I_l1 x11' w'/\μ_l1 x11' w'<μ_l1 x11 w):=⟨_,rfl⟩
 have H:Y2 x0 x1 x2 x3 Ret x11 w Kl1:=by rw [hK_l1];exact hb x11 w hI
 clear hb h0 hI
 unfold Y2 at H
 refine zJ (zJ (zE (g.mv rfl λ_ g=>g.pur (ZT g rfl rfl) λ_ g=>zM (tn (zb g rfl (λhc=>?_) (λhc=>?_))))))
 ·replace H:=H.1 hc
  refine zX (tn (zJ (zW (zE (g.mv rfl λ_ g=>g.mv rfl λ_ g=>g.mv rfl λ_ g=>g.mv rfl λ_ g=>g.mv rfl λ_ g=>g.call (zZ g zO8 rfl rfl) H λe w H=>?_)))))
  obtain ⟨rfl,H⟩:=H
  refine ⟨_,rfl,λ_ g=>(zM (bn (tn (zE (g.mv rfl λ_ g=>g.pur (zq g rfl rfl) λ_ g=>g.as_ rfl λ_ g=>?_)))))⟩
  rw [hK_l1] at H
  exact zM (tn ⟨(zB .i64 (x11 - 1)),g.wk,H⟩)
 ·replace H:=H.2 hc
  refine z5 (te (te (be (tn (zJ (zE (g.mv rfl λ_ g=>g.pur (zq g rfl rfl) λ_ g=>g.as_ rfl λ_ g=>zM (tn (zW ?_)))))))))
  obtain ⟨I_l2,μ_l2,h0,hb⟩:=H
  refine yD (ds:=[]) (N:=60) (σ:=Int) (λs=>[(12,(.int .i64 s)),(0,(Sl.v x0)),(3,x3),(8,(.int .i64 x1)),(9,(.int .i64 0))]) (λs w=>I_l2 s w) (λs w=>μ_l2 s w) (zB .i64 ((zB .i64 (x2 - x1)) - 1)) h0 (g.wk) ?_
  intro x12 w a hI g
  try dsimp only at hI g
  obtain ⟨Kl2,hK_l2⟩:∃ K:Int->World->Prop,K=(λx12' w'=>I_l2 x12' w'/\μ_l2 x12' w'<μ_l2 x12 w):=⟨_,rfl⟩
  have H:Y0 x0 x1 x3 Ret x12 w Kl2:=by rw [hK_l2];exact hb x12 w hI
  clear hb h0 hI
  unfold Y0 at H
  refine zJ (zJ (zE (g.mv rfl λ_ g=>g.pur (ZT g rfl rfl) λ_ g=>zM (tn (zb g rfl (λhc=>?_) (λhc=>?_))))))
  ·replace H:=H.1 hc
   refine zX (tn (zJ (zW (zz (ds:=[]) (N:=60) (σ:=Unit) (λs=>[(0,(Sl.v x0)),(3,x3),(8,(.int .i64 x1)),(9,(.int .i64 0)),(12,(.int .i64 x12))]) (λs w=>YE x0 x1 x3 x12 Kl2 w) ?_ (λhj3=>?_)))))
   ·rintro ⟨⟩ w a H g
    try dsimp only at H g
    unfold YE at H
    refine zE (g.mv rfl λ_ g=>g.mv rfl λ_ g=>g.mv rfl λ_ g=>g.mv rfl λ_ g=>g.mv rfl λ_ g=>g.call (zZ g zO8 rfl rfl) H λe w H=>?_)
    obtain ⟨rfl,H⟩:=H
    refine ⟨_,rfl,λ_ g=>(zM (bn (tn (zE (g.mv rfl λ_ g=>g.pur (zq g rfl rfl) λ_ g=>g.as_ rfl λ_ g=>?_)))))⟩
    rw [hK_l2] at H
    exact zM (tn ⟨(zB .i64 (x12 - 1)),g.wk,H⟩)
   ·refine zBb 20 λw hB=>?_
    replace H:=H w hB
    refine g.ap 0 rfl (zQ g rfl) λ_ g=>g.ap 1 rfl (zQ g rfl) λ_ g=>g.ap 2 rfl (zQ g rfl) λ_ g=>g.ap 3 rfl (zQ g rfl) λ_ g=>g.ap 4 rfl (zQ g rfl) λ_ g=>g.ap 5 rfl (zm g rfl rfl) λ_ g=>g.ap 6 rfl (zQ g rfl) λ_ g=>g.ap 7 rfl (zQ g rfl) λ_ g=>g.ap 8 rfl (zQ g rfl) λ_ g=>g.ap 9 rfl (zm g rfl rfl) λ_ g=>g.ao 10 rfl (zH g rfl rfl) H λx46 a H g=>g.ap 12 rfl (zQ g rfl) λ_ g=>g.ap 13 rfl (zQ g rfl) λ_ g=>g.ao 14 rfl (zH g rfl rfl) H λx50 a H g=>WA.tw 11 15 rfl rfl ?_ ?_
    ·replace H:=H.1
     intro K hK
     exact g.wop (zN g rfl) H λx47 w a H g=>hK _ _ (g.o1 15 rfl (zN g rfl) H λx51 w a H g=>g.ao 16 rfl (zH g rfl rfl) H λx52 a H g=>g.o1u 17 rfl (zT g rfl rfl) H λw a H g=>g.ao 18 rfl (zH g rfl rfl) H λx53 a H g=>g.o1u 19 rfl (zT g rfl rfl) H λw a H g=>WA.ni ((tn (hj3 () _ _ H (g.wk)))))
    ·replace H:=H.2
     intro K hK
     exact g.wop (zN g rfl) H λx51_1 w a H g=>hK _ _ (g.o1 11 rfl (zN g rfl) H λx47_1 w a H g=>g.ao 16 rfl (zH g rfl rfl) H λx52_1 a H g=>g.o1u 17 rfl (zT g rfl rfl) H λw a H g=>g.ao 18 rfl (zH g rfl rfl) H λx53_1 a H g=>g.o1u 19 rfl (zT g rfl rfl) H λw a H g=>WA.ni ((tn (hj3 () _ _ H (g.wk)))))
  ·replace H:=H.2 hc
   exact z5 (te (te (be (zBY g rfl ⟨rfl,H⟩))))
def yu (Ret:Int->Int->World->Prop) (x11:Option Addr) (x13:Int) (w:World):Prop:=
 opE zA (zV .i64) (zD 3 (.pointer x11)) w (λx55 w=>((x55=0)->(Ret x13 1 w))/\(¬ (x55=0)->(((x55=12)->(Ret x13 2 w))/\(¬ (x55=12)->(Ret x13 0 w)))))
def yr (x0:Sl) (x3:Value) (Ret:Int->Int->World->Prop) (x11:Option Addr) (x12:Int) (x13_1:Int) (x14:Int) (w:World):Prop:=
 Cl zA 118 [(Sl.v x0),(.int .i64 x12),(.int .i64 x13_1),(.int .i64 x14),(.pointer x11),x3].toArray w (λe w=>∃ (r:Int),e=.returned (.int .i64 r)/\(yu Ret x11 r w))
def Z8 (x0:Sl) (x1:Int) (x2:Int) (x3:Value) (w:World) (Ret:Int->Int->World->Prop):Prop:=
 opE zA zC (zk 3 true (.tuple #[])) w (λx11 w=>opE zA (zV .i64) (binOp .quo 3 (.int .i64 (zB .i64 (x2 - x1))) (.int .i64 4)) w (λx20 w=>opE zA (zV .i64) (binOp .quo 3 (.int .i64 (zB .i64 (x2 - x1))) (.int .i64 4)) w (λx25 w=>opE zA (zV .i64) (binOp .quo 3 (.int .i64 (zB .i64 (x2 - x1))) (.int .i64 4)) w (λx30 w=>((8<=(zB .i64 (x2 - x1)))->(((50<=(zB .i64 (x2 - x1)))->(Cl zA 117 [(Sl.v x0),(.int .i64 (zB .i64 (x1+(zB .i64 (x20*1))))),(.pointer x11),x3].toArray w (λe w=>∃ (r_1:Int),e=.returned (.int .i64 r_1)/\(Cl zA 117 [(Sl.v x0),(.int .i64 (zB .i64 (x1+(zB .i64 (x25*2))))),(.pointer x11),x3].toArray w (λe w=>∃ (r_2:Int),e=.returned (.int .i64 r_2)/\(Cl zA 117 [(Sl.v x0),(.int .i64 (zB .i64 (x1+(zB .i64 (x30*3))))),(.pointer x11),x3].toArray w (λe w=>∃ (r_3:Int),e=.returned (.int .i64 r_3)/\(yr x0 x3 Ret x11 r_1 r_2 r_3 w))))))))/\(¬ (50<=(zB .i64 (x2 - x1)))->(yr x0 x3 Ret x11 (zB .i64 (x1+(zB .i64 (x20*1)))) (zB .i64 (x1+(zB .i64 (x25*2)))) (zB .i64 (x1+(zB .i64 (x30*3)))) w))))/\(¬ (8<=(zB .i64 (x2 - x1)))->(yu Ret x11 (zB .i64 (x1+(zB .i64 (x25*2)))) w))))))
set_option maxRecDepth 100000 in
theorem zD6 (x0:Sl) (x1:Int) (x2:Int) (x3:Value) (w:World) (Ret:Int->Int->World->Prop) (H:Z8 x0 x1 x2 x3 w Ret):Cl zA 93 [(Sl.v x0),(.int .i64 x1),(.int .i64 x2),x3].toArray w (λe w'=>∃ (r0:Int) (r1:Int),e=.returned (.tuple [(.int .i64 r0),(.int .i64 r1)].toArray)/\Ret r0 r1 w'):=by
 unfold Z8 at H
 refine zl 63 (zipE 0 [(Sl.v x0),(.int .i64 x1),(.int .i64 x2),x3]) Tryz.func93 rfl rfl (by rfl) rfl ?_
 intro a g
 replace g:Sat [] 63 [(0,(Sl.v x0)),(1,(.int .i64 x1)),(2,(.int .i64 x2)),(3,x3)] a:=g
 refine zJ (zE (g.as_ rfl λ_ g=>g.as_ rfl λ_ g=>zM (tn (zJ (zE (g.mv rfl λ_ g=>g.mv rfl λ_ g=>g.pur (zq g rfl rfl) λ_ g=>g.as_ rfl λ_ g=>zM (tn (zJ (zE (g.op (YW) H λx11 w a H g=>zM (tn (zJ (zE (g.mv rfl λ_ g=>g.mv rfl λ_ g=>g.op (Y3 g rfl rfl) H λx20 w a H g=>g.pur (zFN g rfl rfl) λ_ g=>g.pur (zm g rfl rfl) λ_ g=>g.as_ rfl λ_ g=>zM (tn (zJ (zE (g.mv rfl λ_ g=>g.mv rfl λ_ g=>g.op (Y3 g rfl rfl) H λx25 w a H g=>g.pur (zFN g rfl rfl) λ_ g=>g.pur (zm g rfl rfl) λ_ g=>g.as_ rfl λ_ g=>zM (tn (zJ (zE (g.mv rfl λ_ g=>g.mv rfl λ_ g=>g.op (Y3 g rfl rfl) H λx30 w a H g=>g.pur (zFN g rfl rfl) λ_ g=>g.pur (zm g rfl rfl) λ_ g=>g.as_ rfl λ_ g=>zM (tn (zz (ds:=[]) (N:=63) (σ:=Int) (λs=>[(13,(.int .i64 s)),(11,(.pointer x11))]) (λs w=>yu Ret x11 s w) ?_ (λhj1=>?_)))))))))))))))))))))))))
 ·intro x13 w a H g
  try dsimp only at H g
  unfold yu at H
  refine zJ (zE (g.op (zN g rfl) H λx55 w a H g=>zM (tn (zW (zJ (zE (g.pur (zBF g rfl rfl) λ_ g=>g.as_ rfl λ_ g=>zM (tn (zb g rfl (λhc=>?_) (λhc=>?_))))))))))
  ·replace H:=H.1 hc
   exact zJ (zE (g.mv rfl λ_ g=>g.as_ rfl λ_ g=>g.as_ rfl λ_ g=>zM (tn (zg (br (Zu g rfl rfl rfl ⟨_,_,rfl,H⟩))))))
  ·replace H:=H.2 hc
   refine zJ (zE (g.pur (zBF g rfl rfl) λ_ g=>g.as_ rfl λ_ g=>zM (tn (zb g rfl (λhc=>?_) (λhc=>?_)))))
   ·replace H:=H.1 hc
    exact zJ (zE (g.mv rfl λ_ g=>g.as_ rfl λ_ g=>g.as_ rfl λ_ g=>zM (tn (zg (br (Zu g rfl rfl rfl ⟨_,_,rfl,H⟩))))))
   ·replace H:=H.2 hc
    exact zJ (zE (g.mv rfl λ_ g=>g.as_ rfl λ_ g=>g.as_ rfl λ_ g=>zM (tn (zg (br (Zu g rfl rfl rfl ⟨_,_,rfl,H⟩))))))
 ·refine zJ (zE (g.mv rfl λ_ g=>g.pur (ZT g rfl rfl) λ_ g=>zM (tn (zb g rfl (λhc=>?_) (λhc=>?_)))))
  ·replace H:=H.1 hc
   refine zz (ds:=[]) (N:=63) (σ:=Int × Int × Int) (λs=>[(12,(.int .i64 s.1)),(13,(.int .i64 s.2.1)),(14,(.int .i64 s.2.2)),(0,(Sl.v x0)),(3,x3),(11,(.pointer x11))]) (λs w=>yr x0 x3 Ret x11 s.1 s.2.1 s.2.2 w) ?_ (λhj2=>?_)
   ·rintro ⟨x12,x13_1,x14⟩ w a H g
    try dsimp only at H g
    unfold yr at H
    refine zE (g.mv rfl λ_ g=>g.mv rfl λ_ g=>g.mv rfl λ_ g=>g.mv rfl λ_ g=>g.mv rfl λ_ g=>g.call (zZ g zOe rfl rfl) H λe w H=>?_)
    obtain ⟨r,rfl,H⟩:=H
    exact ⟨_,rfl,λ_ g=>(g.as_ rfl λ_ g=>zM (tn (hj1 r _ _ H (g.wk))))⟩
   ·refine zJ (zE (g.mv rfl λ_ g=>g.pur (ZT g rfl rfl) λ_ g=>zM (tn (zb g rfl (λhc=>?_) (λhc=>?_)))))
    ·replace H:=H.1 hc
     refine zJ (zE (g.mv rfl λ_ g=>g.mv rfl λ_ g=>g.mv rfl λ_ g=>g.call (zZ g zMJ rfl rfl) H λe w H=>?_))
     obtain ⟨r_1,rfl,H⟩:=H
     refine ⟨_,rfl,λ_ g=>(g.as_ rfl λ_ g=>zM (tn (zJ (zE (g.mv rfl λ_ g=>g.mv rfl λ_ g=>g.mv rfl λ_ g=>g.call (zZ g zMJ rfl rfl) H λe w H=>?_)))))⟩
     obtain ⟨r_2,rfl,H⟩:=H
     refine ⟨_,rfl,λ_ g=>(g.as_ rfl λ_ g=>zM (tn (zE (g.mv rfl λ_ g=>g.mv rfl λ_ g=>g.mv rfl λ_ g=>g.call (zZ g zMJ rfl rfl) H λe w H=>?_))))⟩
     obtain ⟨r_3,rfl,H⟩:=H
     exact ⟨_,rfl,λ_ g=>(g.as_ rfl λ_ g=>zM (tn (hj2 (r_1,r_2,r_3) _ _ H (g.wk))))⟩
    ·replace H:=H.2 hc
     exact zX (tn (hj2 ((zB .i64 (x1+(zB .i64 (x20*1)))),(zB .i64 (x1+(zB .i64 (x25*2)))),(zB .i64 (x1+(zB .i64 (x30*3))))) _ _ H (g.wk)))
  ·replace H:=H.2 hc
   exact zX (tn (hj1 (zB .i64 (x1+(zB .i64 (x25*2)))) _ _ H (g.wk)))
def QM (x8:Int) (x9:Int) (Kl1:Int->Int->World->Prop) (w:World):Prop:=
 Kl1 (zB .i64 (x8+1)) (zB .i64 (x9 - 1)) w
def Yb (x0:Sl) (Ret:World->Prop) (x8:Int) (x9:Int) (w:World) (Kl1:Int->Int->World->Prop):Prop:=
 ((x8<x9)->(yG w (λw=>opP zA zC (zF 22 (Sl.v x0) (.int .i64 x9)) (λx22=>opP zA zC (zF 22 (Sl.v x0) (.int .i64 x8)) (λx26=>(opE zA zL.v (zD 66 (.pointer x22)) w (λx23 w=>opE zA zL.v (zD 66 (.pointer x26)) w (λx27 w=>opP zA zC (zF 22 (Sl.v x0) (.int .i64 x8)) (λx28=>opU zA (zK 66 (.pointer x28) (zL.v x23)) w (λw=>opP zA zC (zF 22 (Sl.v x0) (.int .i64 x9)) (λx29=>opU zA (zK 66 (.pointer x29) (zL.v x27)) w (λw=>QM x8 x9 Kl1 w)))))))/\(opE zA zL.v (zD 66 (.pointer x26)) w (λx27_1 w=>opE zA zL.v (zD 66 (.pointer x22)) w (λx23_1 w=>opP zA zC (zF 22 (Sl.v x0) (.int .i64 x8)) (λx28_1=>opU zA (zK 66 (.pointer x28_1) (zL.v x23_1)) w (λw=>opP zA zC (zF 22 (Sl.v x0) (.int .i64 x9)) (λx29_1=>opU zA (zK 66 (.pointer x29_1) (zL.v x27_1)) w (λw=>QM x8 x9 Kl1 w))))))))))))/\(¬ (x8<x9)->(Ret w))
def Zw (x0:Sl) (x1:Int) (x2:Int) (x3:Value) (w:World) (Ret:World->Prop):Prop:=
 ∃ (I:Int->Int->World->Prop) (μ:Int->Int->World->Nat),I x1 (zB .i64 (x2 - 1)) w/\∀ (x8:Int) (x9:Int) w,I x8 x9 w->Yb x0 Ret x8 x9 w (λx8' x9' w'=>I x8' x9' w'/\μ x8' x9' w'<μ x8 x9 w)
set_option maxRecDepth 100000 in
theorem zDn (x0:Sl) (x1:Int) (x2:Int) (x3:Value) (w:World) (Ret:World->Prop) (H:Zw x0 x1 x2 x3 w Ret):Cl zA 94 [(Sl.v x0),(.int .i64 x1),(.int .i64 x2),x3].toArray w (λe w'=>e=.returned (.tuple [].toArray)/\Ret w'):=by
 unfold Zw at H
 refine zl 34 (zipE 0 [(Sl.v x0),(.int .i64 x1),(.int .i64 x2),x3]) Tryz.func94 rfl rfl (by rfl) rfl ?_
 intro a g
 replace g:Sat [] 34 [(0,(Sl.v x0)),(1,(.int .i64 x1)),(2,(.int .i64 x2)),(3,x3)] a:=g
 refine zJ (zE (g.mv rfl λ_ g=>g.as_ rfl λ_ g=>zM (tn (zJ (zE (g.mv rfl λ_ g=>g.pur (zq g rfl rfl) λ_ g=>g.as_ rfl λ_ g=>zM (tn (zW ?_))))))))
 obtain ⟨I_l1,μ_l1,h0,hb⟩:=H
 refine yD (ds:=[]) (N:=34) (σ:=Int × Int) (λs=>[(8,(.int .i64 s.1)),(9,(.int .i64 s.2)),(0,(Sl.v x0))]) (λs w=>I_l1 s.1 s.2 w) (λs w=>μ_l1 s.1 s.2 w) (x1,(zB .i64 (x2 - 1))) h0 (g.wk) ?_
 rintro ⟨x8,x9⟩ w a hI g
 try dsimp only at hI g
 obtain ⟨Kl1,hK_l1⟩:∃ K:Int->Int->World->Prop,K=(λx8' x9' w'=>I_l1 x8' x9' w'/\μ_l1 x8' x9' w'<μ_l1 x8 x9 w):=⟨_,rfl⟩
 have H:Yb x0 Ret x8 x9 w Kl1:=by rw [hK_l1];exact hb x8 x9 w hI
 clear hb h0 hI
 unfold Yb at H
 refine zJ (zJ (zE (g.mv rfl λ_ g=>g.mv rfl λ_ g=>g.pur (yS g rfl rfl) λ_ g=>zM (tn (zb g rfl (λhc=>?_) (λhc=>?_))))))
 ·replace H:=H.1 hc
  refine zX (tn (zW (zz (ds:=[]) (N:=34) (σ:=Unit) (λs=>[(0,(Sl.v x0)),(8,(.int .i64 x8)),(9,(.int .i64 x9))]) (λs w=>QM x8 x9 Kl1 w) ?_ (λhj2=>?_))))
  ·rintro ⟨⟩ w a H g
   try dsimp only at H g
   unfold QM at H
   refine zJ (zE (g.mv rfl λ_ g=>g.pur (zm g rfl rfl) λ_ g=>g.as_ rfl λ_ g=>zM (tn (zE (g.mv rfl λ_ g=>g.pur (zq g rfl rfl) λ_ g=>g.as_ rfl λ_ g=>?_)))))
   rw [hK_l1] at H
   exact zM (bn (tn ⟨((zB .i64 (x8+1)),(zB .i64 (x9 - 1))),g.wk,H⟩))
  ·refine zBb 16 λw hB=>?_
   replace H:=H w hB
   refine g.ap 0 rfl (zQ g rfl) λ_ g=>g.ap 1 rfl (zQ g rfl) λ_ g=>g.ap 2 rfl (zQ g rfl) λ_ g=>g.ap 3 rfl (zQ g rfl) λ_ g=>g.ap 4 rfl (zQ g rfl) λ_ g=>g.ap 5 rfl (zQ g rfl) λ_ g=>g.ao 6 rfl (zH g rfl rfl) H λx22 a H g=>g.ap 8 rfl (zQ g rfl) λ_ g=>g.ap 9 rfl (zQ g rfl) λ_ g=>g.ao 10 rfl (zH g rfl rfl) H λx26 a H g=>WA.tw 7 11 rfl rfl ?_ ?_
   ·replace H:=H.1
    intro K hK
    exact g.wop (zN g rfl) H λx23 w a H g=>hK _ _ (g.o1 11 rfl (zN g rfl) H λx27 w a H g=>g.ao 12 rfl (zH g rfl rfl) H λx28 a H g=>g.o1u 13 rfl (zT g rfl rfl) H λw a H g=>g.ao 14 rfl (zH g rfl rfl) H λx29 a H g=>g.o1u 15 rfl (zT g rfl rfl) H λw a H g=>WA.ni ((tn (hj2 () _ _ H (g.wk)))))
   ·replace H:=H.2
    intro K hK
    exact g.wop (zN g rfl) H λx27_1 w a H g=>hK _ _ (g.o1 7 rfl (zN g rfl) H λx23_1 w a H g=>g.ao 12 rfl (zH g rfl rfl) H λx28_1 a H g=>g.o1u 13 rfl (zT g rfl rfl) H λw a H g=>g.ao 14 rfl (zH g rfl rfl) H λx29_1 a H g=>g.o1u 15 rfl (zT g rfl rfl) H λw a H g=>WA.ni ((tn (hj2 () _ _ H (g.wk)))))
 ·replace H:=H.2 hc
  exact z5 (te (te (be (zBY g rfl ⟨rfl,H⟩))))
def z6 (x10:Int) (Kl1:Int->Int->World->Prop) (x9_1:Int) (w:World):Prop:=
 Kl1 x9_1 (zB .i64 (x10+1)) w
def ye (x12:Int) (Kl7:Int->World->Prop) (w:World):Prop:=
 Kl7 (zB .i64 (x12+1)) w
def xr (x0:Sl) (x2:Int) (x3:Value) (x10:Int) (Kl1:Int->Int->World->Prop) (x9_2:Int) (x12:Int) (w:World) (Kl7:Int->World->Prop):Prop:=
 ((x12<x2)->(opB zA zC (zF 22 (Sl.v x0) (.int .i64 x12)) w (λx115=>opB zA zL.v (zD 66 (.pointer x115)) w (λx116=>opB zA zC (zF 22 (Sl.v x0) (.int .i64 (zB .i64 (x12 - 1)))) w (λx120=>opB zA zL.v (zD 66 (.pointer x120)) w (λx121=>∃ (r:Int),Zb zA x3 [(zL.v x116),(zL.v x121)] w (.int .i64 r)/\(yG w (λw=>((!(decide (r<0)))=true->(z6 x10 Kl1 x9_2 w))/\((!(decide (r<0)))=false->(yG w (λw=>opP zA zC (zF 22 (Sl.v x0) (.int .i64 (zB .i64 (x12 - 1)))) (λx133=>opP zA zC (zF 22 (Sl.v x0) (.int .i64 x12)) (λx137=>(opE zA zL.v (zD 66 (.pointer x133)) w (λx134 w=>opE zA zL.v (zD 66 (.pointer x137)) w (λx138 w=>opP zA zC (zF 22 (Sl.v x0) (.int .i64 x12)) (λx139=>opU zA (zK 66 (.pointer x139) (zL.v x134)) w (λw=>opP zA zC (zF 22 (Sl.v x0) (.int .i64 (zB .i64 (x12 - 1)))) (λx140=>opU zA (zK 66 (.pointer x140) (zL.v x138)) w (λw=>ye x12 Kl7 w)))))))/\(opE zA zL.v (zD 66 (.pointer x137)) w (λx138_1 w=>opE zA zL.v (zD 66 (.pointer x133)) w (λx134_1 w=>opP zA zC (zF 22 (Sl.v x0) (.int .i64 x12)) (λx139_1=>opU zA (zK 66 (.pointer x139_1) (zL.v x134_1)) w (λw=>opP zA zC (zF 22 (Sl.v x0) (.int .i64 (zB .i64 (x12 - 1)))) (λx140_1=>opU zA (zK 66 (.pointer x140_1) (zL.v x138_1)) w (λw=>ye x12 Kl7 w))))))))))))))))))))/\(¬ (x12<x2)->(z6 x10 Kl1 x9_2 w))
def zw (x0:Sl) (x2:Int) (x3:Value) (x10:Int) (Kl1:Int->Int->World->Prop) (x9_2:Int) (w:World):Prop:=
 ((2<=(zB .i64 (x2 - x9_2)))->(∃ (I:Int->World->Prop) (μ:Int->World->Nat),I (zB .i64 (x9_2+1)) w/\∀ (x12:Int) w,I x12 w->xr x0 x2 x3 x10 Kl1 x9_2 x12 w (λx12' w'=>I x12' w'/\μ x12' w'<μ x12 w)))/\(¬ (2<=(zB .i64 (x2 - x9_2)))->(z6 x10 Kl1 x9_2 w))
def yV (x11:Int) (Kl9:Int->World->Prop) (w:World):Prop:=
 Kl9 (zB .i64 (x11 - 1)) w
def xp (x0:Sl) (x2:Int) (x3:Value) (x10:Int) (Kl1:Int->Int->World->Prop) (x9_2:Int) (x11:Int) (w:World) (Kl9:Int->World->Prop):Prop:=
 ((1<=x11)->(opB zA zC (zF 22 (Sl.v x0) (.int .i64 x11)) w (λx75=>opB zA zL.v (zD 66 (.pointer x75)) w (λx76=>opB zA zC (zF 22 (Sl.v x0) (.int .i64 (zB .i64 (x11 - 1)))) w (λx80=>opB zA zL.v (zD 66 (.pointer x80)) w (λx81=>∃ (r_1:Int),Zb zA x3 [(zL.v x76),(zL.v x81)] w (.int .i64 r_1)/\(yG w (λw=>((!(decide (r_1<0)))=true->(zw x0 x2 x3 x10 Kl1 x9_2 w))/\((!(decide (r_1<0)))=false->(yG w (λw=>opP zA zC (zF 22 (Sl.v x0) (.int .i64 (zB .i64 (x11 - 1)))) (λx93=>opP zA zC (zF 22 (Sl.v x0) (.int .i64 x11)) (λx97=>(opE zA zL.v (zD 66 (.pointer x93)) w (λx94 w=>opE zA zL.v (zD 66 (.pointer x97)) w (λx98 w=>opP zA zC (zF 22 (Sl.v x0) (.int .i64 x11)) (λx99=>opU zA (zK 66 (.pointer x99) (zL.v x94)) w (λw=>opP zA zC (zF 22 (Sl.v x0) (.int .i64 (zB .i64 (x11 - 1)))) (λx100=>opU zA (zK 66 (.pointer x100) (zL.v x98)) w (λw=>yV x11 Kl9 w)))))))/\(opE zA zL.v (zD 66 (.pointer x97)) w (λx98_1 w=>opE zA zL.v (zD 66 (.pointer x93)) w (λx94_1 w=>opP zA zC (zF 22 (Sl.v x0) (.int .i64 x11)) (λx99_1=>opU zA (zK 66 (.pointer x99_1) (zL.v x94_1)) w (λw=>opP zA zC (zF 22 (Sl.v x0) (.int .i64 (zB .i64 (x11 - 1)))) (λx100_1=>opU zA (zK 66 (.pointer x100_1) (zL.v x98_1)) w (λw=>yV x11 Kl9 w))))))))))))))))))))/\(¬ (1<=x11)->(zw x0 x2 x3 x10 Kl1 x9_2 w))
def yd (x0:Sl) (x1:Int) (x2:Int) (x3:Value) (x10:Int) (Kl1:Int->Int->World->Prop) (x9_2:Int) (w:World):Prop:=
 ((2<=(zB .i64 (x9_2 - x1)))->(∃ (I:Int->World->Prop) (μ:Int->World->Nat),I (zB .i64 (x9_2 - 1)) w/\∀ (x11:Int) w,I x11 w->xp x0 x2 x3 x10 Kl1 x9_2 x11 w (λx11' w'=>I x11' w'/\μ x11' w'<μ x11 w)))/\(¬ (2<=(zB .i64 (x9_2 - x1)))->(zw x0 x2 x3 x10 Kl1 x9_2 w))
def yc (x0:Sl) (x1:Int) (x2:Int) (x3:Value) (Ret:Bool->World->Prop) (x10:Int) (Kl1:Int->Int->World->Prop) (x9_2:Int) (Kl3:Int->World->Prop) (x36:Bool) (w:World):Prop:=
 yG w (λw=>(x36=true->(Kl3 (zB .i64 (x9_2+1)) w))/\(x36=false->(((x9_2=x2)->(Ret true w))/\(¬ (x9_2=x2)->((((zB .i64 (x2 - x1))<50)->(Ret false w))/\(¬ ((zB .i64 (x2 - x1))<50)->(yG w (λw=>opP zA zC (zF 22 (Sl.v x0) (.int .i64 (zB .i64 (x9_2 - 1)))) (λx54=>opP zA zC (zF 22 (Sl.v x0) (.int .i64 x9_2)) (λx58=>(opE zA zL.v (zD 66 (.pointer x54)) w (λx55 w=>opE zA zL.v (zD 66 (.pointer x58)) w (λx59 w=>opP zA zC (zF 22 (Sl.v x0) (.int .i64 x9_2)) (λx60=>opU zA (zK 66 (.pointer x60) (zL.v x55)) w (λw=>opP zA zC (zF 22 (Sl.v x0) (.int .i64 (zB .i64 (x9_2 - 1)))) (λx61=>opU zA (zK 66 (.pointer x61) (zL.v x59)) w (λw=>yd x0 x1 x2 x3 x10 Kl1 x9_2 w)))))))/\(opE zA zL.v (zD 66 (.pointer x58)) w (λx59_1 w=>opE zA zL.v (zD 66 (.pointer x54)) w (λx55_1 w=>opP zA zC (zF 22 (Sl.v x0) (.int .i64 x9_2)) (λx60_1=>opU zA (zK 66 (.pointer x60_1) (zL.v x55_1)) w (λw=>opP zA zC (zF 22 (Sl.v x0) (.int .i64 (zB .i64 (x9_2 - 1)))) (λx61_1=>opU zA (zK 66 (.pointer x61_1) (zL.v x59_1)) w (λw=>yd x0 x1 x2 x3 x10 Kl1 x9_2 w)))))))))))))))))
def xq (x0:Sl) (x1:Int) (x2:Int) (x3:Value) (Ret:Bool->World->Prop) (x10:Int) (Kl1:Int->Int->World->Prop) (x9_2:Int) (w:World) (Kl3:Int->World->Prop):Prop:=
 ((x9_2<x2)->(opB zA zC (zF 22 (Sl.v x0) (.int .i64 x9_2)) w (λx26=>opB zA zL.v (zD 66 (.pointer x26)) w (λx27=>opB zA zC (zF 22 (Sl.v x0) (.int .i64 (zB .i64 (x9_2 - 1)))) w (λx31=>opB zA zL.v (zD 66 (.pointer x31)) w (λx32=>∃ (r_2:Int),Zb zA x3 [(zL.v x27),(zL.v x32)] w (.int .i64 r_2)/\(yc x0 x1 x2 x3 Ret x10 Kl1 x9_2 Kl3 (!(decide (r_2<0))) w)))))))/\(¬ (x9_2<x2)->(yc x0 x1 x2 x3 Ret x10 Kl1 x9_2 Kl3 false w))
def xt (x0:Sl) (x1:Int) (x2:Int) (x3:Value) (Ret:Bool->World->Prop) (x9:Int) (x10:Int) (w:World) (Kl1:Int->Int->World->Prop):Prop:=
 ((x10<5)->(∃ (I:Int->World->Prop) (μ:Int->World->Nat),I x9 w/\∀ (x9_2:Int) w,I x9_2 w->xq x0 x1 x2 x3 Ret x10 Kl1 x9_2 w (λx9_2' w'=>I x9_2' w'/\μ x9_2' w'<μ x9_2 w)))/\(¬ (x10<5)->(Ret false w))
def Y4 (x0:Sl) (x1:Int) (x2:Int) (x3:Value) (w:World) (Ret:Bool->World->Prop):Prop:=
 ∃ (I:Int->Int->World->Prop) (μ:Int->Int->World->Nat),I (zB .i64 (x1+1)) 0 w/\∀ (x9:Int) (x10:Int) w,I x9 x10 w->xt x0 x1 x2 x3 Ret x9 x10 w (λx9' x10' w'=>I x9' x10' w'/\μ x9' x10' w'<μ x9 x10 w)
set_option maxRecDepth 100000 in
theorem zCK (x0:Sl) (x1:Int) (x2:Int) (x3:Value) (w:World) (Ret:Bool->World->Prop) (H:Y4 x0 x1 x2 x3 w Ret):Cl zA 95 [(Sl.v x0),(.int .i64 x1),(.int .i64 x2),x3].toArray w (λe w'=>∃ (r0:Bool),e=.returned (.bool r0)/\Ret r0 w'):=by
 unfold Y4 at H
 refine zl 141 (zipE 0 [(Sl.v x0),(.int .i64 x1),(.int .i64 x2),x3]) Tryz.func95 rfl rfl (by rfl) rfl ?_
 intro a g
 replace g:Sat [] 141 [(0,(Sl.v x0)),(1,(.int .i64 x1)),(2,(.int .i64 x2)),(3,x3)] a:=g
 refine zJ (zE (g.as_ rfl λ_ g=>zM (tn (zJ (zE (g.mv rfl λ_ g=>g.pur (zm g rfl rfl) λ_ g=>g.as_ rfl λ_ g=>zM (tn (zJ (zJ (zE (g.as_ rfl λ_ g=>zM (tn (zW ?_)))))))))))))
 obtain ⟨I_l1,μ_l1,h0,hb⟩:=H
 refine yD (ds:=[]) (N:=141) (σ:=Int × Int) (λs=>[(9,(.int .i64 s.1)),(10,(.int .i64 s.2)),(0,(Sl.v x0)),(1,(.int .i64 x1)),(2,(.int .i64 x2)),(3,x3)]) (λs w=>I_l1 s.1 s.2 w) (λs w=>μ_l1 s.1 s.2 w) ((zB .i64 (x1+1)),0) h0 (g.wk) ?_
 rintro ⟨x9,x10⟩ w a hI g
 try dsimp only at hI g
 obtain ⟨Kl1,hK_l1⟩:∃ K:Int->Int->World->Prop,K=(λx9' x10' w'=>I_l1 x9' x10' w'/\μ_l1 x9' x10' w'<μ_l1 x9 x10 w):=⟨_,rfl⟩
 have H:xt x0 x1 x2 x3 Ret x9 x10 w Kl1:=by rw [hK_l1];exact hb x9 x10 w hI
 clear hb h0 hI
 unfold xt at H
 refine zJ (zJ (zE (g.mv rfl λ_ g=>g.pur (yS g rfl rfl) λ_ g=>zM (tn (zb g rfl (λhc=>?_) (λhc=>?_))))))
 ·replace H:=H.1 hc
  refine zX (tn (zz (ds:=[]) (N:=141) (σ:=Int) (λs=>[(9,(.int .i64 s)),(0,(Sl.v x0)),(1,(.int .i64 x1)),(2,(.int .i64 x2)),(3,x3),(10,(.int .i64 x10))]) (λs w=>z6 x10 Kl1 s w) ?_ (λhj2=>?_)))
  ·intro x9_1 w a H g
   try dsimp only at H g
   unfold z6 at H
   refine zE (g.mv rfl λ_ g=>g.pur (zm g rfl rfl) λ_ g=>g.as_ rfl λ_ g=>?_)
   rw [hK_l1] at H
   exact zM (tn ⟨(x9_1,(zB .i64 (x10+1))),g.wk,H⟩)
  ·refine zW (zJ (zW ?_))
   obtain ⟨I_l3,μ_l3,h0,hb⟩:=H
   refine yD (ds:=[]) (N:=141) (σ:=Int) (λs=>[(9,(.int .i64 s)),(0,(Sl.v x0)),(1,(.int .i64 x1)),(2,(.int .i64 x2)),(3,x3),(10,(.int .i64 x10))]) (λs w=>I_l3 s w) (λs w=>μ_l3 s w) x9 h0 (g.wk) ?_
   intro x9_2 w a hI g
   try dsimp only at hI g
   obtain ⟨Kl3,hK_l3⟩:∃ K:Int->World->Prop,K=(λx9_2' w'=>I_l3 x9_2' w'/\μ_l3 x9_2' w'<μ_l3 x9_2 w):=⟨_,rfl⟩
   have H:xq x0 x1 x2 x3 Ret x10 Kl1 x9_2 w Kl3:=by rw [hK_l3];exact hb x9_2 w hI
   clear hb h0 hI
   unfold xq at H
   refine zJ (zJ (QP (by kernel_rfl) (by kernel_rfl) (g.qm rfl λ_ g=>g.qm rfl λ_ g=>g.qpur (yS g rfl rfl) λ_ g=>g.qm rfl λ_ g=>WQ.join (ds:=[]) (N:=141) (σ:=Bool) (λs=>[(36,(.bool s)),(0,(Sl.v x0)),(1,(.int .i64 x1)),(2,(.int .i64 x2)),(3,x3),(9,(.int .i64 x9_2)),(10,(.int .i64 x10))]) (λs=>yc x0 x1 x2 x3 Ret x10 Kl1 x9_2 Kl3 s w) 14 ?_ (λhr4=>?_))))
   ·intro x36 a H g
    try dsimp only at H g
    unfold yc at H
    refine QO (λw hB=>?_)
    replace H:=H w hB
    refine (tn (zd g rfl (λhc=>?_) (λhc=>?_)))
    ·replace H:=H.1 hc
     refine zX (tn (zW (zE (g.mv rfl λ_ g=>g.pur (zm g rfl rfl) λ_ g=>g.as_ rfl λ_ g=>?_))))
     rw [hK_l3] at H
     exact zM (bn (tn ⟨(zB .i64 (x9_2+1)),g.wk,H⟩))
    ·replace H:=H.2 hc
     refine z5 (te (te (be (tn (zJ (zJ (zE (g.mv rfl λ_ g=>g.mv rfl λ_ g=>g.pur (zBF g rfl rfl) λ_ g=>zM (tn (zb g rfl (λhc=>?_) (λhc=>?_)))))))))))
     ·replace H:=H.1 hc
      exact zJ (zE (g.as_ rfl λ_ g=>zM (tn (zg (tr (br (tr (tr (br (tr (zt g rfl rfl ⟨_,rfl,H⟩)))))))))))
     ·replace H:=H.2 hc
      refine zX (tn (zJ (zJ (zE (g.mv rfl λ_ g=>g.mv rfl λ_ g=>g.pur (zq g rfl rfl) λ_ g=>g.pur (yS g rfl rfl) λ_ g=>zM (tn (zb g rfl (λhc=>?_) (λhc=>?_))))))))
      ·replace H:=H.1 hc
       exact zJ (zE (g.as_ rfl λ_ g=>zM (tn (zg (tr (br (tr (tr (br (tr (zt g rfl rfl ⟨_,rfl,H⟩)))))))))))
      ·replace H:=H.2 hc
       refine zX (tn (zz (ds:=[]) (N:=141) (σ:=Unit) (λs=>[(0,(Sl.v x0)),(1,(.int .i64 x1)),(2,(.int .i64 x2)),(3,x3),(9,(.int .i64 x9_2)),(10,(.int .i64 x10))]) (λs w=>yd x0 x1 x2 x3 x10 Kl1 x9_2 w) ?_ (λhj5=>?_)))
       ·rintro ⟨⟩ w a H g
        try dsimp only at H g
        unfold yd at H
        refine zz (ds:=[]) (N:=141) (σ:=Unit) (λs=>[(0,(Sl.v x0)),(1,(.int .i64 x1)),(2,(.int .i64 x2)),(3,x3),(9,(.int .i64 x9_2)),(10,(.int .i64 x10))]) (λs w=>zw x0 x2 x3 x10 Kl1 x9_2 w) ?_ (λhj6=>?_)
        ·rintro ⟨⟩ w a H g
         try dsimp only at H g
         unfold zw at H
         refine zJ (zE (g.mv rfl λ_ g=>g.mv rfl λ_ g=>g.pur (zq g rfl rfl) λ_ g=>g.pur (ZT g rfl rfl) λ_ g=>zM (tn (zb g rfl (λhc=>?_) (λhc=>?_)))))
         ·replace H:=H.1 hc
          refine zJ (zE (g.mv rfl λ_ g=>g.pur (zm g rfl rfl) λ_ g=>g.as_ rfl λ_ g=>zM (tn (zW ?_))))
          obtain ⟨I_l7,μ_l7,h0,hb⟩:=H
          refine yD (ds:=[]) (N:=141) (σ:=Int) (λs=>[(12,(.int .i64 s)),(0,(Sl.v x0)),(1,(.int .i64 x1)),(2,(.int .i64 x2)),(3,x3),(9,(.int .i64 x9_2)),(10,(.int .i64 x10))]) (λs w=>I_l7 s w) (λs w=>μ_l7 s w) (zB .i64 (x9_2+1)) h0 (g.wk) ?_
          intro x12 w a hI g
          try dsimp only at hI g
          obtain ⟨Kl7,hK_l7⟩:∃ K:Int->World->Prop,K=(λx12' w'=>I_l7 x12' w'/\μ_l7 x12' w'<μ_l7 x12 w):=⟨_,rfl⟩
          have H:xr x0 x2 x3 x10 Kl1 x9_2 x12 w Kl7:=by rw [hK_l7];exact hb x12 w hI
          clear hb h0 hI
          unfold xr at H
          refine zJ (zJ (zE (g.mv rfl λ_ g=>g.mv rfl λ_ g=>g.pur (yS g rfl rfl) λ_ g=>zM (tn (zb g rfl (λhc=>?_) (λhc=>?_))))))
          ·replace H:=H.1 hc
           refine zX (tn (zz (ds:=[]) (N:=141) (σ:=Unit) (λs=>[(0,(Sl.v x0)),(1,(.int .i64 x1)),(2,(.int .i64 x2)),(3,x3),(9,(.int .i64 x9_2)),(10,(.int .i64 x10)),(12,(.int .i64 x12))]) (λs w=>ye x12 Kl7 w) ?_ (λhj8=>?_)))
           ·rintro ⟨⟩ w a H g
            try dsimp only at H g
            unfold ye at H
            refine zE (g.mv rfl λ_ g=>g.pur (zm g rfl rfl) λ_ g=>g.as_ rfl λ_ g=>?_)
            rw [hK_l7] at H
            exact zM (tn ⟨(zB .i64 (x12+1)),g.wk,H⟩)
           ·refine zW (zJ (zJ (QP (by kernel_rfl) (by kernel_rfl) (g.qm rfl λ_ g=>g.qm rfl λ_ g=>g.qm rfl λ_ g=>g.qop (zH g rfl rfl) H λx115 a H g=>g.qop (zN g rfl) H λx116 a H g=>g.qm rfl λ_ g=>g.qm rfl λ_ g=>g.qpur (zq g rfl rfl) λ_ g=>g.qop (zH g rfl rfl) H λx120 a H g=>g.qop (zN g rfl) H λx121 a H g=>?_))))
            obtain ⟨r,hc,H⟩:=H
            refine g.qcallV rfl rfl hc λ_ g=>g.qpur (yS g rfl rfl) λ_ g=>g.qpur (zAD g rfl) λ_ g=>QO (λw hB=>?_)
            replace H:=H w hB
            refine (tn (zd g rfl (λhc=>?_) (λhc=>?_)))
            ·replace H:=H.1 hc
             exact z5 (te (bo (te (te (be (bn (tn (hj2 x9_2 _ _ H (g.wk)))))))))
            ·replace H:=H.2 hc
             refine zX (tn (zBb 18 λw hB=>?_))
             replace H:=H w hB
             refine g.ap 0 rfl (zQ g rfl) λ_ g=>g.ap 1 rfl (zQ g rfl) λ_ g=>g.ap 2 rfl (zQ g rfl) λ_ g=>g.ap 3 rfl (zQ g rfl) λ_ g=>g.ap 4 rfl (zq g rfl rfl) λ_ g=>g.ap 5 rfl (zQ g rfl) λ_ g=>g.ap 6 rfl (zQ g rfl) λ_ g=>g.ap 7 rfl (zq g rfl rfl) λ_ g=>g.ao 8 rfl (zH g rfl rfl) H λx133 a H g=>g.ap 10 rfl (zQ g rfl) λ_ g=>g.ap 11 rfl (zQ g rfl) λ_ g=>g.ao 12 rfl (zH g rfl rfl) H λx137 a H g=>WA.tw 9 13 rfl rfl ?_ ?_
             ·replace H:=H.1
              intro K hK
              exact g.wop (zN g rfl) H λx134 w a H g=>hK _ _ (g.o1 13 rfl (zN g rfl) H λx138 w a H g=>g.ao 14 rfl (zH g rfl rfl) H λx139 a H g=>g.o1u 15 rfl (zT g rfl rfl) H λw a H g=>g.ao 16 rfl (zH g rfl rfl) H λx140 a H g=>g.o1u 17 rfl (zT g rfl rfl) H λw a H g=>WA.ni ((bn (tn (hj8 () _ _ H (g.wk))))))
             ·replace H:=H.2
              intro K hK
              exact g.wop (zN g rfl) H λx138_1 w a H g=>hK _ _ (g.o1 9 rfl (zN g rfl) H λx134_1 w a H g=>g.ao 14 rfl (zH g rfl rfl) H λx139_1 a H g=>g.o1u 15 rfl (zT g rfl rfl) H λw a H g=>g.ao 16 rfl (zH g rfl rfl) H λx140_1 a H g=>g.o1u 17 rfl (zT g rfl rfl) H λw a H g=>WA.ni ((bn (tn (hj8 () _ _ H (g.wk))))))
          ·replace H:=H.2 hc
           exact z5 (te (te (be (bn (tn (hj2 x9_2 _ _ H (g.wk)))))))
         ·replace H:=H.2 hc
          exact zX (bn (tn (hj2 x9_2 _ _ H (g.wk))))
        ·refine zJ (zE (g.mv rfl λ_ g=>g.mv rfl λ_ g=>g.pur (zq g rfl rfl) λ_ g=>g.pur (ZT g rfl rfl) λ_ g=>zM (tn (zb g rfl (λhc=>?_) (λhc=>?_)))))
         ·replace H:=H.1 hc
          refine zJ (zE (g.mv rfl λ_ g=>g.pur (zq g rfl rfl) λ_ g=>g.as_ rfl λ_ g=>zM (tn (zW ?_))))
          obtain ⟨I_l9,μ_l9,h0,hb⟩:=H
          refine yD (ds:=[]) (N:=141) (σ:=Int) (λs=>[(11,(.int .i64 s)),(0,(Sl.v x0)),(1,(.int .i64 x1)),(2,(.int .i64 x2)),(3,x3),(9,(.int .i64 x9_2)),(10,(.int .i64 x10))]) (λs w=>I_l9 s w) (λs w=>μ_l9 s w) (zB .i64 (x9_2 - 1)) h0 (g.wk) ?_
          intro x11 w a hI g
          try dsimp only at hI g
          obtain ⟨Kl9,hK_l9⟩:∃ K:Int->World->Prop,K=(λx11' w'=>I_l9 x11' w'/\μ_l9 x11' w'<μ_l9 x11 w):=⟨_,rfl⟩
          have H:xp x0 x2 x3 x10 Kl1 x9_2 x11 w Kl9:=by rw [hK_l9];exact hb x11 w hI
          clear hb h0 hI
          unfold xp at H
          refine zJ (zJ (zE (g.mv rfl λ_ g=>g.pur (ZT g rfl rfl) λ_ g=>zM (tn (zb g rfl (λhc=>?_) (λhc=>?_))))))
          ·replace H:=H.1 hc
           refine zX (tn (zz (ds:=[]) (N:=141) (σ:=Unit) (λs=>[(0,(Sl.v x0)),(1,(.int .i64 x1)),(2,(.int .i64 x2)),(3,x3),(9,(.int .i64 x9_2)),(10,(.int .i64 x10)),(11,(.int .i64 x11))]) (λs w=>yV x11 Kl9 w) ?_ (λhj10=>?_)))
           ·rintro ⟨⟩ w a H g
            try dsimp only at H g
            unfold yV at H
            refine zE (g.mv rfl λ_ g=>g.pur (zq g rfl rfl) λ_ g=>g.as_ rfl λ_ g=>?_)
            rw [hK_l9] at H
            exact zM (tn ⟨(zB .i64 (x11 - 1)),g.wk,H⟩)
           ·refine zW (zJ (zJ (QP (by kernel_rfl) (by kernel_rfl) (g.qm rfl λ_ g=>g.qm rfl λ_ g=>g.qm rfl λ_ g=>g.qop (zH g rfl rfl) H λx75 a H g=>g.qop (zN g rfl) H λx76 a H g=>g.qm rfl λ_ g=>g.qm rfl λ_ g=>g.qpur (zq g rfl rfl) λ_ g=>g.qop (zH g rfl rfl) H λx80 a H g=>g.qop (zN g rfl) H λx81 a H g=>?_))))
            obtain ⟨r_1,hc,H⟩:=H
            refine g.qcallV rfl rfl hc λ_ g=>g.qpur (yS g rfl rfl) λ_ g=>g.qpur (zAD g rfl) λ_ g=>QO (λw hB=>?_)
            replace H:=H w hB
            refine (tn (zd g rfl (λhc=>?_) (λhc=>?_)))
            ·replace H:=H.1 hc
             exact z5 (te (bo (te (te (be (tn (hj6 () _ _ H (g.wk))))))))
            ·replace H:=H.2 hc
             refine zX (tn (zBb 18 λw hB=>?_))
             replace H:=H w hB
             refine g.ap 0 rfl (zQ g rfl) λ_ g=>g.ap 1 rfl (zQ g rfl) λ_ g=>g.ap 2 rfl (zQ g rfl) λ_ g=>g.ap 3 rfl (zQ g rfl) λ_ g=>g.ap 4 rfl (zq g rfl rfl) λ_ g=>g.ap 5 rfl (zQ g rfl) λ_ g=>g.ap 6 rfl (zQ g rfl) λ_ g=>g.ap 7 rfl (zq g rfl rfl) λ_ g=>g.ao 8 rfl (zH g rfl rfl) H λx93 a H g=>g.ap 10 rfl (zQ g rfl) λ_ g=>g.ap 11 rfl (zQ g rfl) λ_ g=>g.ao 12 rfl (zH g rfl rfl) H λx97 a H g=>WA.tw 9 13 rfl rfl ?_ ?_
             ·replace H:=H.1
              intro K hK
              exact g.wop (zN g rfl) H λx94 w a H g=>hK _ _ (g.o1 13 rfl (zN g rfl) H λx98 w a H g=>g.ao 14 rfl (zH g rfl rfl) H λx99 a H g=>g.o1u 15 rfl (zT g rfl rfl) H λw a H g=>g.ao 16 rfl (zH g rfl rfl) H λx100 a H g=>g.o1u 17 rfl (zT g rfl rfl) H λw a H g=>WA.ni ((bn (tn (hj10 () _ _ H (g.wk))))))
             ·replace H:=H.2
              intro K hK
              exact g.wop (zN g rfl) H λx98_1 w a H g=>hK _ _ (g.o1 9 rfl (zN g rfl) H λx94_1 w a H g=>g.ao 14 rfl (zH g rfl rfl) H λx99_1 a H g=>g.o1u 15 rfl (zT g rfl rfl) H λw a H g=>g.ao 16 rfl (zH g rfl rfl) H λx100_1 a H g=>g.o1u 17 rfl (zT g rfl rfl) H λw a H g=>WA.ni ((bn (tn (hj10 () _ _ H (g.wk))))))
          ·replace H:=H.2 hc
           exact z5 (te (te (be (tn (hj6 () _ _ H (g.wk))))))
         ·replace H:=H.2 hc
          exact zX (tn (hj6 () _ _ H (g.wk)))
       ·refine zBb 18 λw hB=>?_
        replace H:=H w hB
        refine g.ap 0 rfl (zQ g rfl) λ_ g=>g.ap 1 rfl (zQ g rfl) λ_ g=>g.ap 2 rfl (zQ g rfl) λ_ g=>g.ap 3 rfl (zQ g rfl) λ_ g=>g.ap 4 rfl (zq g rfl rfl) λ_ g=>g.ap 5 rfl (zQ g rfl) λ_ g=>g.ap 6 rfl (zQ g rfl) λ_ g=>g.ap 7 rfl (zq g rfl rfl) λ_ g=>g.ao 8 rfl (zH g rfl rfl) H λx54 a H g=>g.ap 10 rfl (zQ g rfl) λ_ g=>g.ap 11 rfl (zQ g rfl) λ_ g=>g.ao 12 rfl (zH g rfl rfl) H λx58 a H g=>WA.tw 9 13 rfl rfl ?_ ?_
        ·replace H:=H.1
         intro K hK
         exact g.wop (zN g rfl) H λx55 w a H g=>hK _ _ (g.o1 13 rfl (zN g rfl) H λx59 w a H g=>g.ao 14 rfl (zH g rfl rfl) H λx60 a H g=>g.o1u 15 rfl (zT g rfl rfl) H λw a H g=>g.ao 16 rfl (zH g rfl rfl) H λx61 a H g=>g.o1u 17 rfl (zT g rfl rfl) H λw a H g=>WA.ni ((tn (hj5 () _ _ H (g.wk)))))
        ·replace H:=H.2
         intro K hK
         exact g.wop (zN g rfl) H λx59_1 w a H g=>hK _ _ (g.o1 9 rfl (zN g rfl) H λx55_1 w a H g=>g.ao 14 rfl (zH g rfl rfl) H λx60_1 a H g=>g.o1u 15 rfl (zT g rfl rfl) H λw a H g=>g.ao 16 rfl (zH g rfl rfl) H λx61_1 a H g=>g.o1u 17 rfl (zT g rfl rfl) H λw a H g=>WA.ni ((tn (hj5 () _ _ H (g.wk)))))
   ·rcases Classical.em ((x9_2<x2)) with hbr4|hbr4
    ·replace H:=H.1 hbr4
     replace g:=g.bool (b:=true) (t:=22) rfl (decide_eq_true hbr4)
     refine g.qon (by rfl) (by rfl) (g.qm rfl λ_ g=>g.qon (by rfl) (by rfl) (g.qm rfl λ_ g=>g.qon (by rfl) (by rfl) (g.qm rfl λ_ g=>g.qon (by rfl) (by rfl) (g.qop (zH g rfl rfl) H λx26 a H g=>g.qon (by rfl) (by rfl) (g.qop (zN g rfl) H λx27 a H g=>g.qon (by rfl) (by rfl) (g.qm rfl λ_ g=>g.qon (by rfl) (by rfl) (g.qm rfl λ_ g=>g.qon (by rfl) (by rfl) (g.qpur (zq g rfl rfl) λ_ g=>g.qon (by rfl) (by rfl) (g.qop (zH g rfl rfl) H λx31 a H g=>g.qon (by rfl) (by rfl) (g.qop (zN g rfl) H λx32 a H g=>g.qon (by rfl) (by rfl) ?_))))))))))
     obtain ⟨r_2,hc,H⟩:=H
     exact g.qcallV rfl rfl hc λ_ g=>g.qon (by rfl) (by rfl) (g.qpur (yS g rfl rfl) λ_ g=>g.qon (by rfl) (by rfl) (g.qpur (zAD g rfl) λ_ g=>g.qpur (zu g rfl rfl) λ_ g=>hr4 (!(decide (r_2<0))) _ H (g.wk)))
    ·replace H:=H.2 hbr4
     replace g:=g.bool (b:=false) (t:=22) rfl (decide_eq_false hbr4)
     exact g.qoff (by rfl) (by rfl) (by decide) (λ_ g=>g.qoff (by rfl) (by rfl) (by decide) (λ_ g=>g.qoff (by rfl) (by rfl) (by decide) (λ_ g=>g.qoff (by rfl) (by rfl) (by decide) (λ_ g=>g.qoff (by rfl) (by rfl) (by decide) (λ_ g=>g.qoff (by rfl) (by rfl) (by decide) (λ_ g=>g.qoff (by rfl) (by rfl) (by decide) (λ_ g=>g.qoff (by rfl) (by rfl) (by decide) (λ_ g=>g.qoff (by rfl) (by rfl) (by decide) (λ_ g=>g.qoff (by rfl) (by rfl) (by decide) (λ_ g=>g.qoff (by rfl) (by rfl) (by decide) (λ_ g=>g.qoff (by rfl) (by rfl) (by decide) (λ_ g=>g.qoff (by rfl) (by rfl) (by decide) (λ_ g=>g.qpur (zv g rfl rfl) λ_ g=>hr4 false _ H (g.wk))))))))))))))
 ·replace H:=H.2 hc
  exact z5 (te (te (be (tn (zJ (zE (g.as_ rfl λ_ g=>zM (tn (zg (zt g rfl rfl ⟨_,rfl,H⟩))))))))))
def xX (Kl2:Int->Int->World->Prop) (x11_1:Int) (x12_1:Int) (w:World):Prop:=
 Kl2 (zB .i64 (x11_1+1)) (zB .i64 (x12_1 - 1)) w
def xY (x0:Sl) (Ret:Int->World->Prop) (Kl2:Int->Int->World->Prop) (x11_1:Int) (x12_1:Int) (Kl5:Int->World->Prop) (x65:Bool) (w:World):Prop:=
 yG w (λw=>(x65=true->(Kl5 (zB .i64 (x12_1 - 1)) w))/\(x65=false->(((x12_1<x11_1)->(Ret x11_1 w))/\(¬ (x12_1<x11_1)->(yG w (λw=>opP zA zC (zF 22 (Sl.v x0) (.int .i64 x12_1)) (λx77=>opP zA zC (zF 22 (Sl.v x0) (.int .i64 x11_1)) (λx81=>(opE zA zL.v (zD 66 (.pointer x77)) w (λx78 w=>opE zA zL.v (zD 66 (.pointer x81)) w (λx82 w=>opP zA zC (zF 22 (Sl.v x0) (.int .i64 x11_1)) (λx83=>opU zA (zK 66 (.pointer x83) (zL.v x78)) w (λw=>opP zA zC (zF 22 (Sl.v x0) (.int .i64 x12_1)) (λx84=>opU zA (zK 66 (.pointer x84) (zL.v x82)) w (λw=>xX Kl2 x11_1 x12_1 w)))))))/\(opE zA zL.v (zD 66 (.pointer x81)) w (λx82_1 w=>opE zA zL.v (zD 66 (.pointer x77)) w (λx78_1 w=>opP zA zC (zF 22 (Sl.v x0) (.int .i64 x11_1)) (λx83_1=>opU zA (zK 66 (.pointer x83_1) (zL.v x78_1)) w (λw=>opP zA zC (zF 22 (Sl.v x0) (.int .i64 x12_1)) (λx84_1=>opU zA (zK 66 (.pointer x84_1) (zL.v x82_1)) w (λw=>xX Kl2 x11_1 x12_1 w)))))))))))))))
def YB (x0:Sl) (x1:Int) (x4:Value) (Ret:Int->World->Prop) (Kl2:Int->Int->World->Prop) (x11_1:Int) (x12_1:Int) (w:World) (Kl5:Int->World->Prop):Prop:=
 ((x11_1<=x12_1)->(opB zA zC (zF 22 (Sl.v x0) (.int .i64 x1)) w (λx57=>opB zA zL.v (zD 66 (.pointer x57)) w (λx58=>opB zA zC (zF 22 (Sl.v x0) (.int .i64 x12_1)) w (λx61=>opB zA zL.v (zD 66 (.pointer x61)) w (λx62=>∃ (r:Int),Zb zA x4 [(zL.v x58),(zL.v x62)] w (.int .i64 r)/\(xY x0 Ret Kl2 x11_1 x12_1 Kl5 (decide (r<0)) w)))))))/\(¬ (x11_1<=x12_1)->(xY x0 Ret Kl2 x11_1 x12_1 Kl5 false w))
def xV (x0:Sl) (x1:Int) (x4:Value) (Ret:Int->World->Prop) (x12:Int) (Kl2:Int->Int->World->Prop) (x11_1:Int) (Kl3:Int->World->Prop) (x47:Bool) (w:World):Prop:=
 yG w (λw=>(x47=true->(Kl3 (zB .i64 (x11_1+1)) w))/\(x47=false->(∃ (I:Int->World->Prop) (μ:Int->World->Nat),I x12 w/\∀ (x12_1:Int) w,I x12_1 w->YB x0 x1 x4 Ret Kl2 x11_1 x12_1 w (λx12_1' w'=>I x12_1' w'/\μ x12_1' w'<μ x12_1 w))))
def YC (x0:Sl) (x1:Int) (x4:Value) (Ret:Int->World->Prop) (x12:Int) (Kl2:Int->Int->World->Prop) (x11_1:Int) (w:World) (Kl3:Int->World->Prop):Prop:=
 ((x11_1<=x12)->(opB zA zC (zF 22 (Sl.v x0) (.int .i64 x1)) w (λx38=>opB zA zL.v (zD 66 (.pointer x38)) w (λx39=>opB zA zC (zF 22 (Sl.v x0) (.int .i64 x11_1)) w (λx42=>opB zA zL.v (zD 66 (.pointer x42)) w (λx43=>∃ (r_1:Int),Zb zA x4 [(zL.v x39),(zL.v x43)] w (.int .i64 r_1)/\(xV x0 x1 x4 Ret x12 Kl2 x11_1 Kl3 (!(decide (r_1<0))) w)))))))/\(¬ (x11_1<=x12)->(xV x0 x1 x4 Ret x12 Kl2 x11_1 Kl3 false w))
def Q9 (x0:Sl) (x1:Int) (x4:Value) (Ret:Int->World->Prop) (x11:Int) (x12:Int) (w:World) (Kl2:Int->Int->World->Prop):Prop:=
 ∃ (I:Int->World->Prop) (μ:Int->World->Nat),I x11 w/\∀ (x11_1:Int) w,I x11_1 w->YC x0 x1 x4 Ret x12 Kl2 x11_1 w (λx11_1' w'=>I x11_1' w'/\μ x11_1' w'<μ x11_1 w)
def xW (x0:Sl) (x1:Int) (x2:Int) (x4:Value) (Ret:Int->World->Prop) (w:World):Prop:=
 ∃ (I:Int->Int->World->Prop) (μ:Int->Int->World->Nat),I (zB .i64 (x1+1)) (zB .i64 (x2 - 1)) w/\∀ (x11:Int) (x12:Int) w,I x11 x12 w->Q9 x0 x1 x4 Ret x11 x12 w (λx11' x12' w'=>I x11' x12' w'/\μ x11' x12' w'<μ x11 x12 w)
def Zj (x0:Sl) (x1:Int) (x2:Int) (x3:Int) (x4:Value) (w:World) (Ret:Int->World->Prop):Prop:=
 yG w (λw=>opP zA zC (zF 22 (Sl.v x0) (.int .i64 x3)) (λx19=>opP zA zC (zF 22 (Sl.v x0) (.int .i64 x1)) (λx23=>(opE zA zL.v (zD 66 (.pointer x19)) w (λx20 w=>opE zA zL.v (zD 66 (.pointer x23)) w (λx24 w=>opP zA zC (zF 22 (Sl.v x0) (.int .i64 x1)) (λx25=>opU zA (zK 66 (.pointer x25) (zL.v x20)) w (λw=>opP zA zC (zF 22 (Sl.v x0) (.int .i64 x3)) (λx26=>opU zA (zK 66 (.pointer x26) (zL.v x24)) w (λw=>xW x0 x1 x2 x4 Ret w)))))))/\(opE zA zL.v (zD 66 (.pointer x23)) w (λx24_1 w=>opE zA zL.v (zD 66 (.pointer x19)) w (λx20_1 w=>opP zA zC (zF 22 (Sl.v x0) (.int .i64 x1)) (λx25_1=>opU zA (zK 66 (.pointer x25_1) (zL.v x20_1)) w (λw=>opP zA zC (zF 22 (Sl.v x0) (.int .i64 x3)) (λx26_1=>opU zA (zK 66 (.pointer x26_1) (zL.v x24_1)) w (λw=>xW x0 x1 x2 x4 Ret w))))))))))
set_option maxRecDepth 100000 in
theorem zDD (x0:Sl) (x1:Int) (x2:Int) (x3:Int) (x4:Value) (w:World) (Ret:Int->World->Prop) (H:Zj x0 x1 x2 x3 x4 w Ret):Cl zA 96 [(Sl.v x0),(.int .i64 x1),(.int .i64 x2),(.int .i64 x3),x4].toArray w (λe w'=>∃ (r0:Int),e=.returned (.int .i64 r0)/\Ret r0 w'):=by
 unfold Zj at H
 refine zl 90 (zipE 0 [(Sl.v x0),(.int .i64 x1),(.int .i64 x2),(.int .i64 x3),x4]) Tryz.func96 rfl rfl (by rfl) rfl ?_
 intro a g
 replace g:Sat [] 90 [(0,(Sl.v x0)),(1,(.int .i64 x1)),(2,(.int .i64 x2)),(3,(.int .i64 x3)),(4,x4)] a:=g
 refine zJ (zE (g.as_ rfl λ_ g=>zM (tn (zz (ds:=[]) (N:=90) (σ:=Unit) (λs=>[(0,(Sl.v x0)),(1,(.int .i64 x1)),(2,(.int .i64 x2)),(4,x4)]) (λs w=>xW x0 x1 x2 x4 Ret w) ?_ (λhj1=>?_)))))
 ·rintro ⟨⟩ w a H g
  try dsimp only at H g
  unfold xW at H
  refine zJ (zE (g.mv rfl λ_ g=>g.pur (zm g rfl rfl) λ_ g=>g.mv rfl λ_ g=>g.pur (zq g rfl rfl) λ_ g=>g.as_ rfl λ_ g=>g.as_ rfl λ_ g=>zM (tn (zJ (zW ?_)))))
  obtain ⟨I_l2,μ_l2,h0,hb⟩:=H
  refine yD (ds:=[]) (N:=90) (σ:=Int × Int) (λs=>[(11,(.int .i64 s.1)),(12,(.int .i64 s.2)),(0,(Sl.v x0)),(1,(.int .i64 x1)),(4,x4)]) (λs w=>I_l2 s.1 s.2 w) (λs w=>μ_l2 s.1 s.2 w) ((zB .i64 (x1+1)),(zB .i64 (x2 - 1))) h0 (g.wk) ?_
  rintro ⟨x11,x12⟩ w a hI g
  try dsimp only at hI g
  obtain ⟨Kl2,hK_l2⟩:∃ K:Int->Int->World->Prop,K=(λx11' x12' w'=>I_l2 x11' x12' w'/\μ_l2 x11' x12' w'<μ_l2 x11 x12 w):=⟨_,rfl⟩
  have H:Q9 x0 x1 x4 Ret x11 x12 w Kl2:=by rw [hK_l2];exact hb x11 x12 w hI
  clear hb h0 hI
  unfold Q9 at H
  refine zW (zJ (zW ?_))
  obtain ⟨I_l3,μ_l3,h0,hb⟩:=H
  refine yD (ds:=[]) (N:=90) (σ:=Int) (λs=>[(11,(.int .i64 s)),(0,(Sl.v x0)),(1,(.int .i64 x1)),(4,x4),(12,(.int .i64 x12))]) (λs w=>I_l3 s w) (λs w=>μ_l3 s w) x11 h0 (g.wk) ?_
  intro x11_1 w a hI g
  try dsimp only at hI g
  obtain ⟨Kl3,hK_l3⟩:∃ K:Int->World->Prop,K=(λx11_1' w'=>I_l3 x11_1' w'/\μ_l3 x11_1' w'<μ_l3 x11_1 w):=⟨_,rfl⟩
  have H:YC x0 x1 x4 Ret x12 Kl2 x11_1 w Kl3:=by rw [hK_l3];exact hb x11_1 w hI
  clear hb h0 hI
  unfold YC at H
  refine zJ (zJ (QP (by kernel_rfl) (by kernel_rfl) (g.qm rfl λ_ g=>g.qm rfl λ_ g=>g.qpur (zCV g rfl rfl) λ_ g=>g.qm rfl λ_ g=>WQ.join (ds:=[]) (N:=90) (σ:=Bool) (λs=>[(47,(.bool s)),(0,(Sl.v x0)),(1,(.int .i64 x1)),(4,x4),(11,(.int .i64 x11_1)),(12,(.int .i64 x12))]) (λs=>xV x0 x1 x4 Ret x12 Kl2 x11_1 Kl3 s w) 13 ?_ (λhr4=>?_))))
  ·intro x47 a H g
   try dsimp only at H g
   unfold xV at H
   refine QO (λw hB=>?_)
   replace H:=H w hB
   refine (tn (zd g rfl (λhc=>?_) (λhc=>?_)))
   ·replace H:=H.1 hc
    refine zX (tn (zW (zE (g.mv rfl λ_ g=>g.pur (zm g rfl rfl) λ_ g=>g.as_ rfl λ_ g=>?_))))
    rw [hK_l3] at H
    exact zM (bn (tn ⟨(zB .i64 (x11_1+1)),g.wk,H⟩))
   ·replace H:=H.2 hc
    refine z5 (te (te (be (tn (zJ (zW ?_))))))
    obtain ⟨I_l5,μ_l5,h0,hb⟩:=H
    refine yD (ds:=[]) (N:=90) (σ:=Int) (λs=>[(12,(.int .i64 s)),(0,(Sl.v x0)),(1,(.int .i64 x1)),(4,x4),(11,(.int .i64 x11_1))]) (λs w=>I_l5 s w) (λs w=>μ_l5 s w) x12 h0 (g.wk) ?_
    intro x12_1 w a hI g
    try dsimp only at hI g
    obtain ⟨Kl5,hK_l5⟩:∃ K:Int->World->Prop,K=(λx12_1' w'=>I_l5 x12_1' w'/\μ_l5 x12_1' w'<μ_l5 x12_1 w):=⟨_,rfl⟩
    have H:YB x0 x1 x4 Ret Kl2 x11_1 x12_1 w Kl5:=by rw [hK_l5];exact hb x12_1 w hI
    clear hb h0 hI
    unfold YB at H
    refine zJ (zJ (QP (by kernel_rfl) (by kernel_rfl) (g.qm rfl λ_ g=>g.qm rfl λ_ g=>g.qpur (zCV g rfl rfl) λ_ g=>g.qm rfl λ_ g=>WQ.join (ds:=[]) (N:=90) (σ:=Bool) (λs=>[(65,(.bool s)),(0,(Sl.v x0)),(1,(.int .i64 x1)),(4,x4),(11,(.int .i64 x11_1)),(12,(.int .i64 x12_1))]) (λs=>xY x0 Ret Kl2 x11_1 x12_1 Kl5 s w) 12 ?_ (λhr6=>?_))))
    ·intro x65 a H g
     try dsimp only at H g
     unfold xY at H
     refine QO (λw hB=>?_)
     replace H:=H w hB
     refine (tn (zd g rfl (λhc=>?_) (λhc=>?_)))
     ·replace H:=H.1 hc
      refine zX (tn (zW (zE (g.mv rfl λ_ g=>g.pur (zq g rfl rfl) λ_ g=>g.as_ rfl λ_ g=>?_))))
      rw [hK_l5] at H
      exact zM (bn (tn ⟨(zB .i64 (x12_1 - 1)),g.wk,H⟩))
     ·replace H:=H.2 hc
      refine z5 (te (te (be (tn (zJ (zJ (zE (g.mv rfl λ_ g=>g.mv rfl λ_ g=>g.pur (zBC g rfl rfl) λ_ g=>zM (tn (zb g rfl (λhc=>?_) (λhc=>?_)))))))))))
      ·replace H:=H.1 hc
       exact z5 (te (bo (te (be (tn (zJ (zE (g.mv rfl λ_ g=>g.as_ rfl λ_ g=>zM (tn (zg (zt g rfl rfl ⟨_,rfl,H⟩)))))))))))
      ·replace H:=H.2 hc
       refine zX (tn (zz (ds:=[]) (N:=90) (σ:=Unit) (λs=>[(0,(Sl.v x0)),(1,(.int .i64 x1)),(4,x4),(11,(.int .i64 x11_1)),(12,(.int .i64 x12_1))]) (λs w=>xX Kl2 x11_1 x12_1 w) ?_ (λhj7=>?_)))
       ·rintro ⟨⟩ w a H g
        try dsimp only at H g
        unfold xX at H
        refine zJ (zE (g.mv rfl λ_ g=>g.pur (zm g rfl rfl) λ_ g=>g.as_ rfl λ_ g=>zM (tn (zE (g.mv rfl λ_ g=>g.pur (zq g rfl rfl) λ_ g=>g.as_ rfl λ_ g=>?_)))))
        rw [hK_l2] at H
        exact zM (bn (tn ⟨((zB .i64 (x11_1+1)),(zB .i64 (x12_1 - 1))),g.wk,H⟩))
       ·refine zBb 16 λw hB=>?_
        replace H:=H w hB
        refine g.ap 0 rfl (zQ g rfl) λ_ g=>g.ap 1 rfl (zQ g rfl) λ_ g=>g.ap 2 rfl (zQ g rfl) λ_ g=>g.ap 3 rfl (zQ g rfl) λ_ g=>g.ap 4 rfl (zQ g rfl) λ_ g=>g.ap 5 rfl (zQ g rfl) λ_ g=>g.ao 6 rfl (zH g rfl rfl) H λx77 a H g=>g.ap 8 rfl (zQ g rfl) λ_ g=>g.ap 9 rfl (zQ g rfl) λ_ g=>g.ao 10 rfl (zH g rfl rfl) H λx81 a H g=>WA.tw 7 11 rfl rfl ?_ ?_
        ·replace H:=H.1
         intro K hK
         exact g.wop (zN g rfl) H λx78 w a H g=>hK _ _ (g.o1 11 rfl (zN g rfl) H λx82 w a H g=>g.ao 12 rfl (zH g rfl rfl) H λx83 a H g=>g.o1u 13 rfl (zT g rfl rfl) H λw a H g=>g.ao 14 rfl (zH g rfl rfl) H λx84 a H g=>g.o1u 15 rfl (zT g rfl rfl) H λw a H g=>WA.ni ((tn (hj7 () _ _ H (g.wk)))))
        ·replace H:=H.2
         intro K hK
         exact g.wop (zN g rfl) H λx82_1 w a H g=>hK _ _ (g.o1 7 rfl (zN g rfl) H λx78_1 w a H g=>g.ao 12 rfl (zH g rfl rfl) H λx83_1 a H g=>g.o1u 13 rfl (zT g rfl rfl) H λw a H g=>g.ao 14 rfl (zH g rfl rfl) H λx84_1 a H g=>g.o1u 15 rfl (zT g rfl rfl) H λw a H g=>WA.ni ((tn (hj7 () _ _ H (g.wk)))))
    ·rcases Classical.em ((x11_1<=x12_1)) with hbr6|hbr6
     ·replace H:=H.1 hbr6
      replace g:=g.bool (b:=true) (t:=53) rfl (decide_eq_true hbr6)
      refine g.qon (by rfl) (by rfl) (g.qm rfl λ_ g=>g.qon (by rfl) (by rfl) (g.qm rfl λ_ g=>g.qon (by rfl) (by rfl) (g.qm rfl λ_ g=>g.qon (by rfl) (by rfl) (g.qop (zH g rfl rfl) H λx57 a H g=>g.qon (by rfl) (by rfl) (g.qop (zN g rfl) H λx58 a H g=>g.qon (by rfl) (by rfl) (g.qm rfl λ_ g=>g.qon (by rfl) (by rfl) (g.qm rfl λ_ g=>g.qon (by rfl) (by rfl) (g.qop (zH g rfl rfl) H λx61 a H g=>g.qon (by rfl) (by rfl) (g.qop (zN g rfl) H λx62 a H g=>g.qon (by rfl) (by rfl) ?_)))))))))
      obtain ⟨r,hc,H⟩:=H
      exact g.qcallV rfl rfl hc λ_ g=>g.qon (by rfl) (by rfl) (g.qpur (yS g rfl rfl) λ_ g=>g.qpur (zu g rfl rfl) λ_ g=>hr6 (decide (r<0)) _ H (g.wk))
     ·replace H:=H.2 hbr6
      replace g:=g.bool (b:=false) (t:=53) rfl (decide_eq_false hbr6)
      exact g.qoff (by rfl) (by rfl) (by decide) (λ_ g=>g.qoff (by rfl) (by rfl) (by decide) (λ_ g=>g.qoff (by rfl) (by rfl) (by decide) (λ_ g=>g.qoff (by rfl) (by rfl) (by decide) (λ_ g=>g.qoff (by rfl) (by rfl) (by decide) (λ_ g=>g.qoff (by rfl) (by rfl) (by decide) (λ_ g=>g.qoff (by rfl) (by rfl) (by decide) (λ_ g=>g.qoff (by rfl) (by rfl) (by decide) (λ_ g=>g.qoff (by rfl) (by rfl) (by decide) (λ_ g=>g.qoff (by rfl) (by rfl) (by decide) (λ_ g=>g.qoff (by rfl) (by rfl) (by decide) (λ_ g=>g.qpur (zv g rfl rfl) λ_ g=>hr6 false _ H (g.wk))))))))))))
  ·rcases Classical.em ((x11_1<=x12)) with hbr4|hbr4
   ·replace H:=H.1 hbr4
    replace g:=g.bool (b:=true) (t:=34) rfl (decide_eq_true hbr4)
    refine g.qon (by rfl) (by rfl) (g.qm rfl λ_ g=>g.qon (by rfl) (by rfl) (g.qm rfl λ_ g=>g.qon (by rfl) (by rfl) (g.qm rfl λ_ g=>g.qon (by rfl) (by rfl) (g.qop (zH g rfl rfl) H λx38 a H g=>g.qon (by rfl) (by rfl) (g.qop (zN g rfl) H λx39 a H g=>g.qon (by rfl) (by rfl) (g.qm rfl λ_ g=>g.qon (by rfl) (by rfl) (g.qm rfl λ_ g=>g.qon (by rfl) (by rfl) (g.qop (zH g rfl rfl) H λx42 a H g=>g.qon (by rfl) (by rfl) (g.qop (zN g rfl) H λx43 a H g=>g.qon (by rfl) (by rfl) ?_)))))))))
    obtain ⟨r_1,hc,H⟩:=H
    exact g.qcallV rfl rfl hc λ_ g=>g.qon (by rfl) (by rfl) (g.qpur (yS g rfl rfl) λ_ g=>g.qon (by rfl) (by rfl) (g.qpur (zAD g rfl) λ_ g=>g.qpur (zu g rfl rfl) λ_ g=>hr4 (!(decide (r_1<0))) _ H (g.wk)))
   ·replace H:=H.2 hbr4
    replace g:=g.bool (b:=false) (t:=34) rfl (decide_eq_false hbr4)
    exact g.qoff (by rfl) (by rfl) (by decide) (λ_ g=>g.qoff (by rfl) (by rfl) (by decide) (λ_ g=>g.qoff (by rfl) (by rfl) (by decide) (λ_ g=>g.qoff (by rfl) (by rfl) (by decide) (λ_ g=>g.qoff (by rfl) (by rfl) (by decide) (λ_ g=>g.qoff (by rfl) (by rfl) (by decide) (λ_ g=>g.qoff (by rfl) (by rfl) (by decide) (λ_ g=>g.qoff (by rfl) (by rfl) (by decide) (λ_ g=>g.qoff (by rfl) (by rfl) (by decide) (λ_ g=>g.qoff (by rfl) (by rfl) (by decide) (λ_ g=>g.qoff (by rfl) (by rfl) (by decide) (λ_ g=>g.qoff (by rfl) (by rfl) (by decide) (λ_ g=>g.qpur (zv g rfl rfl) λ_ g=>hr4 false _ H (g.wk)))))))))))))
 ·refine zBb 16 λw hB=>?_
  replace H:=H w hB
  refine g.ap 0 rfl (zQ g rfl) λ_ g=>g.ap 1 rfl (zQ g rfl) λ_ g=>g.ap 2 rfl (zQ g rfl) λ_ g=>g.ap 3 rfl (zQ g rfl) λ_ g=>g.ap 4 rfl (zQ g rfl) λ_ g=>g.ap 5 rfl (zQ g rfl) λ_ g=>g.ao 6 rfl (zH g rfl rfl) H λx19 a H g=>g.ap 8 rfl (zQ g rfl) λ_ g=>g.ap 9 rfl (zQ g rfl) λ_ g=>g.ao 10 rfl (zH g rfl rfl) H λx23 a H g=>WA.tw 7 11 rfl rfl ?_ ?_
  ·replace H:=H.1
   intro K hK
   exact g.wop (zN g rfl) H λx20 w a H g=>hK _ _ (g.o1 11 rfl (zN g rfl) H λx24 w a H g=>g.ao 12 rfl (zH g rfl rfl) H λx25 a H g=>g.o1u 13 rfl (zT g rfl rfl) H λw a H g=>g.ao 14 rfl (zH g rfl rfl) H λx26 a H g=>g.o1u 15 rfl (zT g rfl rfl) H λw a H g=>WA.ni ((tn (hj1 () _ _ H (g.wk)))))
  ·replace H:=H.2
   intro K hK
   exact g.wop (zN g rfl) H λx24_1 w a H g=>hK _ _ (g.o1 7 rfl (zN g rfl) H λx20_1 w a H g=>g.ao 12 rfl (zH g rfl rfl) H λx25_1 a H g=>g.o1u 13 rfl (zT g rfl rfl) H λw a H g=>g.ao 14 rfl (zH g rfl rfl) H λx26_1 a H g=>g.o1u 15 rfl (zT g rfl rfl) H λw a H g=>WA.ni ((tn (hj1 () _ _ H (g.wk)))))
def Qu (Ret:Int->Bool->World->Prop) (x13:Int) (w:World):Prop:=
 Ret x13 true w
def Qm (Ret:Int->Bool->World->Prop) (x13_2:Int) (w:World):Prop:=
 Ret x13_2 false w
def Qg (Kl8:Int->Int->World->Prop) (x12_2:Int) (x13_2:Int) (w:World):Prop:=
 Kl8 (zB .i64 (x12_2+1)) (zB .i64 (x13_2 - 1)) w
def Qp (x0:Sl) (x1:Int) (Ret:Int->Bool->World->Prop) (Kl8:Int->Int->World->Prop) (x12_2:Int) (x13_2:Int) (Kl11:Int->World->Prop) (x139:Bool) (w:World):Prop:=
 yG w (λw=>(x139=true->(Kl11 (zB .i64 (x13_2 - 1)) w))/\(x139=false->(((x13_2<x12_2)->(yG w (λw=>opP zA zC (zF 22 (Sl.v x0) (.int .i64 x1)) (λx169=>opP zA zC (zF 22 (Sl.v x0) (.int .i64 x13_2)) (λx173=>(opE zA zL.v (zD 66 (.pointer x169)) w (λx170 w=>opE zA zL.v (zD 66 (.pointer x173)) w (λx174 w=>opP zA zC (zF 22 (Sl.v x0) (.int .i64 x13_2)) (λx175=>opU zA (zK 66 (.pointer x175) (zL.v x170)) w (λw=>opP zA zC (zF 22 (Sl.v x0) (.int .i64 x1)) (λx176=>opU zA (zK 66 (.pointer x176) (zL.v x174)) w (λw=>Qm Ret x13_2 w)))))))/\(opE zA zL.v (zD 66 (.pointer x173)) w (λx174_1 w=>opE zA zL.v (zD 66 (.pointer x169)) w (λx170_1 w=>opP zA zC (zF 22 (Sl.v x0) (.int .i64 x13_2)) (λx175_1=>opU zA (zK 66 (.pointer x175_1) (zL.v x170_1)) w (λw=>opP zA zC (zF 22 (Sl.v x0) (.int .i64 x1)) (λx176_1=>opU zA (zK 66 (.pointer x176_1) (zL.v x174_1)) w (λw=>Qm Ret x13_2 w))))))))))))/\(¬ (x13_2<x12_2)->(yG w (λw=>opP zA zC (zF 22 (Sl.v x0) (.int .i64 x13_2)) (λx151=>opP zA zC (zF 22 (Sl.v x0) (.int .i64 x12_2)) (λx155=>(opE zA zL.v (zD 66 (.pointer x151)) w (λx152 w=>opE zA zL.v (zD 66 (.pointer x155)) w (λx156 w=>opP zA zC (zF 22 (Sl.v x0) (.int .i64 x12_2)) (λx157=>opU zA (zK 66 (.pointer x157) (zL.v x152)) w (λw=>opP zA zC (zF 22 (Sl.v x0) (.int .i64 x13_2)) (λx158=>opU zA (zK 66 (.pointer x158) (zL.v x156)) w (λw=>Qg Kl8 x12_2 x13_2 w)))))))/\(opE zA zL.v (zD 66 (.pointer x155)) w (λx156_1 w=>opE zA zL.v (zD 66 (.pointer x151)) w (λx152_1 w=>opP zA zC (zF 22 (Sl.v x0) (.int .i64 x12_2)) (λx157_1=>opU zA (zK 66 (.pointer x157_1) (zL.v x152_1)) w (λw=>opP zA zC (zF 22 (Sl.v x0) (.int .i64 x13_2)) (λx158_1=>opU zA (zK 66 (.pointer x158_1) (zL.v x156_1)) w (λw=>Qg Kl8 x12_2 x13_2 w)))))))))))))))
def Yh (x0:Sl) (x1:Int) (x4:Value) (Ret:Int->Bool->World->Prop) (Kl8:Int->Int->World->Prop) (x12_2:Int) (x13_2:Int) (w:World) (Kl11:Int->World->Prop):Prop:=
 ((x12_2<=x13_2)->(opB zA zC (zF 22 (Sl.v x0) (.int .i64 x13_2)) w (λx130=>opB zA zL.v (zD 66 (.pointer x130)) w (λx131=>opB zA zC (zF 22 (Sl.v x0) (.int .i64 x1)) w (λx134=>opB zA zL.v (zD 66 (.pointer x134)) w (λx135=>∃ (r:Int),Zb zA x4 [(zL.v x131),(zL.v x135)] w (.int .i64 r)/\(Qp x0 x1 Ret Kl8 x12_2 x13_2 Kl11 (!(decide (r<0))) w)))))))/\(¬ (x12_2<=x13_2)->(Qp x0 x1 Ret Kl8 x12_2 x13_2 Kl11 false w))
def Qo (x0:Sl) (x1:Int) (x4:Value) (Ret:Int->Bool->World->Prop) (x13_1:Int) (Kl8:Int->Int->World->Prop) (x12_2:Int) (Kl9:Int->World->Prop) (x120:Bool) (w:World):Prop:=
 yG w (λw=>(x120=true->(Kl9 (zB .i64 (x12_2+1)) w))/\(x120=false->(∃ (I:Int->World->Prop) (μ:Int->World->Nat),I x13_1 w/\∀ (x13_2:Int) w,I x13_2 w->Yh x0 x1 x4 Ret Kl8 x12_2 x13_2 w (λx13_2' w'=>I x13_2' w'/\μ x13_2' w'<μ x13_2 w))))
def Yu (x0:Sl) (x1:Int) (x4:Value) (Ret:Int->Bool->World->Prop) (x13_1:Int) (Kl8:Int->Int->World->Prop) (x12_2:Int) (w:World) (Kl9:Int->World->Prop):Prop:=
 ((x12_2<=x13_1)->(opB zA zC (zF 22 (Sl.v x0) (.int .i64 x12_2)) w (λx112=>opB zA zL.v (zD 66 (.pointer x112)) w (λx113=>opB zA zC (zF 22 (Sl.v x0) (.int .i64 x1)) w (λx116=>opB zA zL.v (zD 66 (.pointer x116)) w (λx117=>∃ (r_1:Int),Zb zA x4 [(zL.v x113),(zL.v x117)] w (.int .i64 r_1)/\(Qo x0 x1 x4 Ret x13_1 Kl8 x12_2 Kl9 (decide (r_1<0)) w)))))))/\(¬ (x12_2<=x13_1)->(Qo x0 x1 x4 Ret x13_1 Kl8 x12_2 Kl9 false w))
def Qf (x0:Sl) (x1:Int) (x4:Value) (Ret:Int->Bool->World->Prop) (x12_1:Int) (x13_1:Int) (w:World) (Kl8:Int->Int->World->Prop):Prop:=
 ∃ (I:Int->World->Prop) (μ:Int->World->Nat),I x12_1 w/\∀ (x12_2:Int) w,I x12_2 w->Yu x0 x1 x4 Ret x13_1 Kl8 x12_2 w (λx12_2' w'=>I x12_2' w'/\μ x12_2' w'<μ x12_2 w)
def Q4 (x0:Sl) (x1:Int) (x4:Value) (Ret:Int->Bool->World->Prop) (x12:Int) (x13:Int) (w:World):Prop:=
 ∃ (I:Int->Int->World->Prop) (μ:Int->Int->World->Nat),I (zB .i64 (x12+1)) (zB .i64 (x13 - 1)) w/\∀ (x12_1:Int) (x13_1:Int) w,I x12_1 x13_1 w->Qf x0 x1 x4 Ret x12_1 x13_1 w (λx12_1' x13_1' w'=>I x12_1' x13_1' w'/\μ x12_1' x13_1' w'<μ x12_1 x13_1 w)
def Qw (x0:Sl) (x1:Int) (x4:Value) (Ret:Int->Bool->World->Prop) (x12:Int) (x13:Int) (Kl4:Int->World->Prop) (x66:Bool) (w:World):Prop:=
 yG w (λw=>(x66=true->(Kl4 (zB .i64 (x13 - 1)) w))/\(x66=false->(((x13<x12)->(yG w (λw=>opP zA zC (zF 22 (Sl.v x0) (.int .i64 x1)) (λx78=>opP zA zC (zF 22 (Sl.v x0) (.int .i64 x13)) (λx82=>(opE zA zL.v (zD 66 (.pointer x78)) w (λx79 w=>opE zA zL.v (zD 66 (.pointer x82)) w (λx83 w=>opP zA zC (zF 22 (Sl.v x0) (.int .i64 x13)) (λx84=>opU zA (zK 66 (.pointer x84) (zL.v x79)) w (λw=>opP zA zC (zF 22 (Sl.v x0) (.int .i64 x1)) (λx85=>opU zA (zK 66 (.pointer x85) (zL.v x83)) w (λw=>Qu Ret x13 w)))))))/\(opE zA zL.v (zD 66 (.pointer x82)) w (λx83_1 w=>opE zA zL.v (zD 66 (.pointer x78)) w (λx79_1 w=>opP zA zC (zF 22 (Sl.v x0) (.int .i64 x13)) (λx84_1=>opU zA (zK 66 (.pointer x84_1) (zL.v x79_1)) w (λw=>opP zA zC (zF 22 (Sl.v x0) (.int .i64 x1)) (λx85_1=>opU zA (zK 66 (.pointer x85_1) (zL.v x83_1)) w (λw=>Qu Ret x13 w))))))))))))/\(¬ (x13<x12)->(yG w (λw=>opP zA zC (zF 22 (Sl.v x0) (.int .i64 x13)) (λx93=>opP zA zC (zF 22 (Sl.v x0) (.int .i64 x12)) (λx97=>(opE zA zL.v (zD 66 (.pointer x93)) w (λx94 w=>opE zA zL.v (zD 66 (.pointer x97)) w (λx98 w=>opP zA zC (zF 22 (Sl.v x0) (.int .i64 x12)) (λx99=>opU zA (zK 66 (.pointer x99) (zL.v x94)) w (λw=>opP zA zC (zF 22 (Sl.v x0) (.int .i64 x13)) (λx100=>opU zA (zK 66 (.pointer x100) (zL.v x98)) w (λw=>Q4 x0 x1 x4 Ret x12 x13 w)))))))/\(opE zA zL.v (zD 66 (.pointer x97)) w (λx98_1 w=>opE zA zL.v (zD 66 (.pointer x93)) w (λx94_1 w=>opP zA zC (zF 22 (Sl.v x0) (.int .i64 x12)) (λx99_1=>opU zA (zK 66 (.pointer x99_1) (zL.v x94_1)) w (λw=>opP zA zC (zF 22 (Sl.v x0) (.int .i64 x13)) (λx100_1=>opU zA (zK 66 (.pointer x100_1) (zL.v x98_1)) w (λw=>Q4 x0 x1 x4 Ret x12 x13 w)))))))))))))))
def Ys (x0:Sl) (x1:Int) (x4:Value) (Ret:Int->Bool->World->Prop) (x12:Int) (x13:Int) (w:World) (Kl4:Int->World->Prop):Prop:=
 ((x12<=x13)->(opB zA zC (zF 22 (Sl.v x0) (.int .i64 x13)) w (λx57=>opB zA zL.v (zD 66 (.pointer x57)) w (λx58=>opB zA zC (zF 22 (Sl.v x0) (.int .i64 x1)) w (λx61=>opB zA zL.v (zD 66 (.pointer x61)) w (λx62=>∃ (r_2:Int),Zb zA x4 [(zL.v x58),(zL.v x62)] w (.int .i64 r_2)/\(Qw x0 x1 x4 Ret x12 x13 Kl4 (!(decide (r_2<0))) w)))))))/\(¬ (x12<=x13)->(Qw x0 x1 x4 Ret x12 x13 Kl4 false w))
def xP (x0:Sl) (x1:Int) (x2:Int) (x4:Value) (Ret:Int->Bool->World->Prop) (x12:Int) (Kl2:Int->World->Prop) (x47:Bool) (w:World):Prop:=
 yG w (λw=>(x47=true->(Kl2 (zB .i64 (x12+1)) w))/\(x47=false->(∃ (I:Int->World->Prop) (μ:Int->World->Nat),I (zB .i64 (x2 - 1)) w/\∀ (x13:Int) w,I x13 w->Ys x0 x1 x4 Ret x12 x13 w (λx13' w'=>I x13' w'/\μ x13' w'<μ x13 w))))
def Yy (x0:Sl) (x1:Int) (x2:Int) (x4:Value) (Ret:Int->Bool->World->Prop) (x12:Int) (w:World) (Kl2:Int->World->Prop):Prop:=
 ((x12<=(zB .i64 (x2 - 1)))->(opB zA zC (zF 22 (Sl.v x0) (.int .i64 x12)) w (λx39=>opB zA zL.v (zD 66 (.pointer x39)) w (λx40=>opB zA zC (zF 22 (Sl.v x0) (.int .i64 x1)) w (λx43=>opB zA zL.v (zD 66 (.pointer x43)) w (λx44=>∃ (r_3:Int),Zb zA x4 [(zL.v x40),(zL.v x44)] w (.int .i64 r_3)/\(xP x0 x1 x2 x4 Ret x12 Kl2 (decide (r_3<0)) w)))))))/\(¬ (x12<=(zB .i64 (x2 - 1)))->(xP x0 x1 x2 x4 Ret x12 Kl2 false w))
def Qv (x0:Sl) (x1:Int) (x2:Int) (x4:Value) (Ret:Int->Bool->World->Prop) (w:World):Prop:=
 ∃ (I:Int->World->Prop) (μ:Int->World->Nat),I (zB .i64 (x1+1)) w/\∀ (x12:Int) w,I x12 w->Yy x0 x1 x2 x4 Ret x12 w (λx12' w'=>I x12' w'/\μ x12' w'<μ x12 w)
def zAY (x0:Sl) (x1:Int) (x2:Int) (x3:Int) (x4:Value) (w:World) (Ret:Int->Bool->World->Prop):Prop:=
 yG w (λw=>opP zA zC (zF 22 (Sl.v x0) (.int .i64 x3)) (λx20=>opP zA zC (zF 22 (Sl.v x0) (.int .i64 x1)) (λx24=>(opE zA zL.v (zD 66 (.pointer x20)) w (λx21 w=>opE zA zL.v (zD 66 (.pointer x24)) w (λx25 w=>opP zA zC (zF 22 (Sl.v x0) (.int .i64 x1)) (λx26=>opU zA (zK 66 (.pointer x26) (zL.v x21)) w (λw=>opP zA zC (zF 22 (Sl.v x0) (.int .i64 x3)) (λx27=>opU zA (zK 66 (.pointer x27) (zL.v x25)) w (λw=>Qv x0 x1 x2 x4 Ret w)))))))/\(opE zA zL.v (zD 66 (.pointer x24)) w (λx25_1 w=>opE zA zL.v (zD 66 (.pointer x20)) w (λx21_1 w=>opP zA zC (zF 22 (Sl.v x0) (.int .i64 x1)) (λx26_1=>opU zA (zK 66 (.pointer x26_1) (zL.v x21_1)) w (λw=>opP zA zC (zF 22 (Sl.v x0) (.int .i64 x3)) (λx27_1=>opU zA (zK 66 (.pointer x27_1) (zL.v x25_1)) w (λw=>Qv x0 x1 x2 x4 Ret w))))))))))
set_option maxRecDepth 100000 in
theorem zEY (x0:Sl) (x1:Int) (x2:Int) (x3:Int) (x4:Value) (w:World) (Ret:Int->Bool->World->Prop) (H:zAY x0 x1 x2 x3 x4 w Ret):Cl zA 97 [(Sl.v x0),(.int .i64 x1),(.int .i64 x2),(.int .i64 x3),x4].toArray w (λe w'=>∃ (r0:Int) (r1:Bool),e=.returned (.tuple [(.int .i64 r0),(.bool r1)].toArray)/\Ret r0 r1 w'):=by
 unfold zAY at H
 refine zl 178 (zipE 0 [(Sl.v x0),(.int .i64 x1),(.int .i64 x2),(.int .i64 x3),x4]) Tryz.func97 rfl rfl (by rfl) rfl ?_
 intro a g
 replace g:Sat [] 178 [(0,(Sl.v x0)),(1,(.int .i64 x1)),(2,(.int .i64 x2)),(3,(.int .i64 x3)),(4,x4)] a:=g
 refine zJ (zE (g.as_ rfl λ_ g=>g.as_ rfl λ_ g=>zM (tn (zz (ds:=[]) (N:=178) (σ:=Unit) (λs=>[(0,(Sl.v x0)),(1,(.int .i64 x1)),(2,(.int .i64 x2)),(4,x4)]) (λs w=>Qv x0 x1 x2 x4 Ret w) ?_ (λhj1=>?_)))))
 ·rintro ⟨⟩ w a H g
  try dsimp only at H g
  unfold Qv at H
  refine zJ (zE (g.mv rfl λ_ g=>g.pur (zm g rfl rfl) λ_ g=>g.mv rfl λ_ g=>g.pur (zq g rfl rfl) λ_ g=>g.as_ rfl λ_ g=>g.as_ rfl λ_ g=>zM (tn (zJ (zW ?_)))))
  obtain ⟨I_l2,μ_l2,h0,hb⟩:=H
  refine yD (ds:=[]) (N:=178) (σ:=Int) (λs=>[(12,(.int .i64 s)),(0,(Sl.v x0)),(1,(.int .i64 x1)),(4,x4),(13,(.int .i64 (zB .i64 (x2 - 1))))]) (λs w=>I_l2 s w) (λs w=>μ_l2 s w) (zB .i64 (x1+1)) h0 (g.wk) ?_
  intro x12 w a hI g
  try dsimp only at hI g
  obtain ⟨Kl2,hK_l2⟩:∃ K:Int->World->Prop,K=(λx12' w'=>I_l2 x12' w'/\μ_l2 x12' w'<μ_l2 x12 w):=⟨_,rfl⟩
  have H:Yy x0 x1 x2 x4 Ret x12 w Kl2:=by rw [hK_l2];exact hb x12 w hI
  clear hb h0 hI
  unfold Yy at H
  refine zJ (zJ (QP (by kernel_rfl) (by kernel_rfl) (g.qm rfl λ_ g=>g.qm rfl λ_ g=>g.qpur (zCV g rfl rfl) λ_ g=>g.qm rfl λ_ g=>WQ.join (ds:=[]) (N:=178) (σ:=Bool) (λs=>[(47,(.bool s)),(0,(Sl.v x0)),(1,(.int .i64 x1)),(4,x4),(12,(.int .i64 x12)),(13,(.int .i64 (zB .i64 (x2 - 1))))]) (λs=>xP x0 x1 x2 x4 Ret x12 Kl2 s w) 12 ?_ (λhr3=>?_))))
  ·intro x47 a H g
   try dsimp only at H g
   unfold xP at H
   refine QO (λw hB=>?_)
   replace H:=H w hB
   refine (tn (zd g rfl (λhc=>?_) (λhc=>?_)))
   ·replace H:=H.1 hc
    refine zX (tn (zW (zE (g.mv rfl λ_ g=>g.pur (zm g rfl rfl) λ_ g=>g.as_ rfl λ_ g=>?_))))
    rw [hK_l2] at H
    exact zM (bn (tn ⟨(zB .i64 (x12+1)),g.wk,H⟩))
   ·replace H:=H.2 hc
    refine z5 (te (te (be (tn (zJ (zW ?_))))))
    obtain ⟨I_l4,μ_l4,h0,hb⟩:=H
    refine yD (ds:=[]) (N:=178) (σ:=Int) (λs=>[(13,(.int .i64 s)),(0,(Sl.v x0)),(1,(.int .i64 x1)),(4,x4),(12,(.int .i64 x12))]) (λs w=>I_l4 s w) (λs w=>μ_l4 s w) (zB .i64 (x2 - 1)) h0 (g.wk) ?_
    intro x13 w a hI g
    try dsimp only at hI g
    obtain ⟨Kl4,hK_l4⟩:∃ K:Int->World->Prop,K=(λx13' w'=>I_l4 x13' w'/\μ_l4 x13' w'<μ_l4 x13 w):=⟨_,rfl⟩
    have H:Ys x0 x1 x4 Ret x12 x13 w Kl4:=by rw [hK_l4];exact hb x13 w hI
    clear hb h0 hI
    unfold Ys at H
    refine zJ (zJ (QP (by kernel_rfl) (by kernel_rfl) (g.qm rfl λ_ g=>g.qm rfl λ_ g=>g.qpur (zCV g rfl rfl) λ_ g=>g.qm rfl λ_ g=>WQ.join (ds:=[]) (N:=178) (σ:=Bool) (λs=>[(66,(.bool s)),(0,(Sl.v x0)),(1,(.int .i64 x1)),(4,x4),(12,(.int .i64 x12)),(13,(.int .i64 x13))]) (λs=>Qw x0 x1 x4 Ret x12 x13 Kl4 s w) 13 ?_ (λhr5=>?_))))
    ·intro x66 a H g
     try dsimp only at H g
     unfold Qw at H
     refine QO (λw hB=>?_)
     replace H:=H w hB
     refine (tn (zd g rfl (λhc=>?_) (λhc=>?_)))
     ·replace H:=H.1 hc
      refine zX (tn (zW (zE (g.mv rfl λ_ g=>g.pur (zq g rfl rfl) λ_ g=>g.as_ rfl λ_ g=>?_))))
      rw [hK_l4] at H
      exact zM (bn (tn ⟨(zB .i64 (x13 - 1)),g.wk,H⟩))
     ·replace H:=H.2 hc
      refine z5 (te (te (be (tn (zJ (zJ (zE (g.mv rfl λ_ g=>g.mv rfl λ_ g=>g.pur (zBC g rfl rfl) λ_ g=>zM (tn (zb g rfl (λhc=>?_) (λhc=>?_)))))))))))
      ·replace H:=H.1 hc
       refine zz (ds:=[]) (N:=178) (σ:=Unit) (λs=>[(13,(.int .i64 x13))]) (λs w=>Qu Ret x13 w) ?_ (λhj6=>?_)
       ·rintro ⟨⟩ w a H g
        try dsimp only at H g
        unfold Qu at H
        exact zJ (zE (g.mv rfl λ_ g=>g.as_ rfl λ_ g=>g.as_ rfl λ_ g=>zM (tn (zg (tr (Zu g rfl rfl rfl ⟨_,_,rfl,H⟩))))))
       ·refine zBb 16 λw hB=>?_
        replace H:=H w hB
        refine g.ap 0 rfl (zQ g rfl) λ_ g=>g.ap 1 rfl (zQ g rfl) λ_ g=>g.ap 2 rfl (zQ g rfl) λ_ g=>g.ap 3 rfl (zQ g rfl) λ_ g=>g.ap 4 rfl (zQ g rfl) λ_ g=>g.ap 5 rfl (zQ g rfl) λ_ g=>g.ao 6 rfl (zH g rfl rfl) H λx78 a H g=>g.ap 8 rfl (zQ g rfl) λ_ g=>g.ap 9 rfl (zQ g rfl) λ_ g=>g.ao 10 rfl (zH g rfl rfl) H λx82 a H g=>WA.tw 7 11 rfl rfl ?_ ?_
        ·replace H:=H.1
         intro K hK
         exact g.wop (zN g rfl) H λx79 w a H g=>hK _ _ (g.o1 11 rfl (zN g rfl) H λx83 w a H g=>g.ao 12 rfl (zH g rfl rfl) H λx84 a H g=>g.o1u 13 rfl (zT g rfl rfl) H λw a H g=>g.ao 14 rfl (zH g rfl rfl) H λx85 a H g=>g.o1u 15 rfl (zT g rfl rfl) H λw a H g=>WA.ni ((tn (hj6 () _ _ H (g.wk)))))
        ·replace H:=H.2
         intro K hK
         exact g.wop (zN g rfl) H λx83_1 w a H g=>hK _ _ (g.o1 7 rfl (zN g rfl) H λx79_1 w a H g=>g.ao 12 rfl (zH g rfl rfl) H λx84_1 a H g=>g.o1u 13 rfl (zT g rfl rfl) H λw a H g=>g.ao 14 rfl (zH g rfl rfl) H λx85_1 a H g=>g.o1u 15 rfl (zT g rfl rfl) H λw a H g=>WA.ni ((tn (hj6 () _ _ H (g.wk)))))
      ·replace H:=H.2 hc
       refine zX (tn (zz (ds:=[]) (N:=178) (σ:=Unit) (λs=>[(0,(Sl.v x0)),(1,(.int .i64 x1)),(4,x4),(12,(.int .i64 x12)),(13,(.int .i64 x13))]) (λs w=>Q4 x0 x1 x4 Ret x12 x13 w) ?_ (λhj7=>?_)))
       ·rintro ⟨⟩ w a H g
        try dsimp only at H g
        unfold Q4 at H
        refine zJ (zE (g.mv rfl λ_ g=>g.pur (zm g rfl rfl) λ_ g=>g.as_ rfl λ_ g=>zM (tn (zJ (zE (g.mv rfl λ_ g=>g.pur (zq g rfl rfl) λ_ g=>g.as_ rfl λ_ g=>zM (tn (zJ (zW ?_)))))))))
        obtain ⟨I_l8,μ_l8,h0,hb⟩:=H
        refine yD (ds:=[]) (N:=178) (σ:=Int × Int) (λs=>[(12,(.int .i64 s.1)),(13,(.int .i64 s.2)),(0,(Sl.v x0)),(1,(.int .i64 x1)),(4,x4)]) (λs w=>I_l8 s.1 s.2 w) (λs w=>μ_l8 s.1 s.2 w) ((zB .i64 (x12+1)),(zB .i64 (x13 - 1))) h0 (g.wk) ?_
        rintro ⟨x12_1,x13_1⟩ w a hI g
        try dsimp only at hI g
        obtain ⟨Kl8,hK_l8⟩:∃ K:Int->Int->World->Prop,K=(λx12_1' x13_1' w'=>I_l8 x12_1' x13_1' w'/\μ_l8 x12_1' x13_1' w'<μ_l8 x12_1 x13_1 w):=⟨_,rfl⟩
        have H:Qf x0 x1 x4 Ret x12_1 x13_1 w Kl8:=by rw [hK_l8];exact hb x12_1 x13_1 w hI
        clear hb h0 hI
        unfold Qf at H
        refine zW (zJ (zW ?_))
        obtain ⟨I_l9,μ_l9,h0,hb⟩:=H
        refine yD (ds:=[]) (N:=178) (σ:=Int) (λs=>[(12,(.int .i64 s)),(0,(Sl.v x0)),(1,(.int .i64 x1)),(4,x4),(13,(.int .i64 x13_1))]) (λs w=>I_l9 s w) (λs w=>μ_l9 s w) x12_1 h0 (g.wk) ?_
        intro x12_2 w a hI g
        try dsimp only at hI g
        obtain ⟨Kl9,hK_l9⟩:∃ K:Int->World->Prop,K=(λx12_2' w'=>I_l9 x12_2' w'/\μ_l9 x12_2' w'<μ_l9 x12_2 w):=⟨_,rfl⟩
        have H:Yu x0 x1 x4 Ret x13_1 Kl8 x12_2 w Kl9:=by rw [hK_l9];exact hb x12_2 w hI
        clear hb h0 hI
        unfold Yu at H
        refine zJ (zJ (QP (by kernel_rfl) (by kernel_rfl) (g.qm rfl λ_ g=>g.qm rfl λ_ g=>g.qpur (zCV g rfl rfl) λ_ g=>g.qm rfl λ_ g=>WQ.join (ds:=[]) (N:=178) (σ:=Bool) (λs=>[(120,(.bool s)),(0,(Sl.v x0)),(1,(.int .i64 x1)),(4,x4),(12,(.int .i64 x12_2)),(13,(.int .i64 x13_1))]) (λs=>Qo x0 x1 x4 Ret x13_1 Kl8 x12_2 Kl9 s w) 12 ?_ (λhr10=>?_))))
        ·intro x120 a H g
         try dsimp only at H g
         unfold Qo at H
         refine QO (λw hB=>?_)
         replace H:=H w hB
         refine (tn (zd g rfl (λhc=>?_) (λhc=>?_)))
         ·replace H:=H.1 hc
          refine zX (tn (zW (zE (g.mv rfl λ_ g=>g.pur (zm g rfl rfl) λ_ g=>g.as_ rfl λ_ g=>?_))))
          rw [hK_l9] at H
          exact zM (bn (tn ⟨(zB .i64 (x12_2+1)),g.wk,H⟩))
         ·replace H:=H.2 hc
          refine z5 (te (te (be (tn (zJ (zW ?_))))))
          obtain ⟨I_l11,μ_l11,h0,hb⟩:=H
          refine yD (ds:=[]) (N:=178) (σ:=Int) (λs=>[(13,(.int .i64 s)),(0,(Sl.v x0)),(1,(.int .i64 x1)),(4,x4),(12,(.int .i64 x12_2))]) (λs w=>I_l11 s w) (λs w=>μ_l11 s w) x13_1 h0 (g.wk) ?_
          intro x13_2 w a hI g
          try dsimp only at hI g
          obtain ⟨Kl11,hK_l11⟩:∃ K:Int->World->Prop,K=(λx13_2' w'=>I_l11 x13_2' w'/\μ_l11 x13_2' w'<μ_l11 x13_2 w):=⟨_,rfl⟩
          have H:Yh x0 x1 x4 Ret Kl8 x12_2 x13_2 w Kl11:=by rw [hK_l11];exact hb x13_2 w hI
          clear hb h0 hI
          unfold Yh at H
          refine zJ (zJ (QP (by kernel_rfl) (by kernel_rfl) (g.qm rfl λ_ g=>g.qm rfl λ_ g=>g.qpur (zCV g rfl rfl) λ_ g=>g.qm rfl λ_ g=>WQ.join (ds:=[]) (N:=178) (σ:=Bool) (λs=>[(139,(.bool s)),(0,(Sl.v x0)),(1,(.int .i64 x1)),(4,x4),(12,(.int .i64 x12_2)),(13,(.int .i64 x13_2))]) (λs=>Qp x0 x1 Ret Kl8 x12_2 x13_2 Kl11 s w) 13 ?_ (λhr12=>?_))))
          ·intro x139 a H g
           try dsimp only at H g
           unfold Qp at H
           refine QO (λw hB=>?_)
           replace H:=H w hB
           refine (tn (zd g rfl (λhc=>?_) (λhc=>?_)))
           ·replace H:=H.1 hc
            refine zX (tn (zW (zE (g.mv rfl λ_ g=>g.pur (zq g rfl rfl) λ_ g=>g.as_ rfl λ_ g=>?_))))
            rw [hK_l11] at H
            exact zM (bn (tn ⟨(zB .i64 (x13_2 - 1)),g.wk,H⟩))
           ·replace H:=H.2 hc
            refine z5 (te (te (be (tn (zJ (zJ (zE (g.mv rfl λ_ g=>g.mv rfl λ_ g=>g.pur (zBC g rfl rfl) λ_ g=>zM (tn (zb g rfl (λhc=>?_) (λhc=>?_)))))))))))
            ·replace H:=H.1 hc
             refine z5 (te (bo (te (be (tn (zz (ds:=[]) (N:=178) (σ:=Unit) (λs=>[(13,(.int .i64 x13_2))]) (λs w=>Qm Ret x13_2 w) ?_ (λhj13=>?_)))))))
             ·rintro ⟨⟩ w a H g
              try dsimp only at H g
              unfold Qm at H
              exact zJ (zE (g.mv rfl λ_ g=>g.as_ rfl λ_ g=>g.as_ rfl λ_ g=>zM (tn (zg (Zu g rfl rfl rfl ⟨_,_,rfl,H⟩)))))
             ·refine zBb 16 λw hB=>?_
              replace H:=H w hB
              refine g.ap 0 rfl (zQ g rfl) λ_ g=>g.ap 1 rfl (zQ g rfl) λ_ g=>g.ap 2 rfl (zQ g rfl) λ_ g=>g.ap 3 rfl (zQ g rfl) λ_ g=>g.ap 4 rfl (zQ g rfl) λ_ g=>g.ap 5 rfl (zQ g rfl) λ_ g=>g.ao 6 rfl (zH g rfl rfl) H λx169 a H g=>g.ap 8 rfl (zQ g rfl) λ_ g=>g.ap 9 rfl (zQ g rfl) λ_ g=>g.ao 10 rfl (zH g rfl rfl) H λx173 a H g=>WA.tw 7 11 rfl rfl ?_ ?_
              ·replace H:=H.1
               intro K hK
               exact g.wop (zN g rfl) H λx170 w a H g=>hK _ _ (g.o1 11 rfl (zN g rfl) H λx174 w a H g=>g.ao 12 rfl (zH g rfl rfl) H λx175 a H g=>g.o1u 13 rfl (zT g rfl rfl) H λw a H g=>g.ao 14 rfl (zH g rfl rfl) H λx176 a H g=>g.o1u 15 rfl (zT g rfl rfl) H λw a H g=>WA.ni ((tn (hj13 () _ _ H (g.wk)))))
              ·replace H:=H.2
               intro K hK
               exact g.wop (zN g rfl) H λx174_1 w a H g=>hK _ _ (g.o1 7 rfl (zN g rfl) H λx170_1 w a H g=>g.ao 12 rfl (zH g rfl rfl) H λx175_1 a H g=>g.o1u 13 rfl (zT g rfl rfl) H λw a H g=>g.ao 14 rfl (zH g rfl rfl) H λx176_1 a H g=>g.o1u 15 rfl (zT g rfl rfl) H λw a H g=>WA.ni ((tn (hj13 () _ _ H (g.wk)))))
            ·replace H:=H.2 hc
             refine zX (tn (zz (ds:=[]) (N:=178) (σ:=Unit) (λs=>[(0,(Sl.v x0)),(1,(.int .i64 x1)),(4,x4),(12,(.int .i64 x12_2)),(13,(.int .i64 x13_2))]) (λs w=>Qg Kl8 x12_2 x13_2 w) ?_ (λhj14=>?_)))
             ·rintro ⟨⟩ w a H g
              try dsimp only at H g
              unfold Qg at H
              refine zJ (zE (g.mv rfl λ_ g=>g.pur (zm g rfl rfl) λ_ g=>g.as_ rfl λ_ g=>zM (tn (zE (g.mv rfl λ_ g=>g.pur (zq g rfl rfl) λ_ g=>g.as_ rfl λ_ g=>?_)))))
              rw [hK_l8] at H
              exact zM (bn (tn ⟨((zB .i64 (x12_2+1)),(zB .i64 (x13_2 - 1))),g.wk,H⟩))
             ·refine zBb 16 λw hB=>?_
              replace H:=H w hB
              refine g.ap 0 rfl (zQ g rfl) λ_ g=>g.ap 1 rfl (zQ g rfl) λ_ g=>g.ap 2 rfl (zQ g rfl) λ_ g=>g.ap 3 rfl (zQ g rfl) λ_ g=>g.ap 4 rfl (zQ g rfl) λ_ g=>g.ap 5 rfl (zQ g rfl) λ_ g=>g.ao 6 rfl (zH g rfl rfl) H λx151 a H g=>g.ap 8 rfl (zQ g rfl) λ_ g=>g.ap 9 rfl (zQ g rfl) λ_ g=>g.ao 10 rfl (zH g rfl rfl) H λx155 a H g=>WA.tw 7 11 rfl rfl ?_ ?_
              ·replace H:=H.1
               intro K hK
               exact g.wop (zN g rfl) H λx152 w a H g=>hK _ _ (g.o1 11 rfl (zN g rfl) H λx156 w a H g=>g.ao 12 rfl (zH g rfl rfl) H λx157 a H g=>g.o1u 13 rfl (zT g rfl rfl) H λw a H g=>g.ao 14 rfl (zH g rfl rfl) H λx158 a H g=>g.o1u 15 rfl (zT g rfl rfl) H λw a H g=>WA.ni ((tn (hj14 () _ _ H (g.wk)))))
              ·replace H:=H.2
               intro K hK
               exact g.wop (zN g rfl) H λx156_1 w a H g=>hK _ _ (g.o1 7 rfl (zN g rfl) H λx152_1 w a H g=>g.ao 12 rfl (zH g rfl rfl) H λx157_1 a H g=>g.o1u 13 rfl (zT g rfl rfl) H λw a H g=>g.ao 14 rfl (zH g rfl rfl) H λx158_1 a H g=>g.o1u 15 rfl (zT g rfl rfl) H λw a H g=>WA.ni ((tn (hj14 () _ _ H (g.wk)))))
          ·rcases Classical.em ((x12_2<=x13_2)) with hbr12|hbr12
           ·replace H:=H.1 hbr12
            replace g:=g.bool (b:=true) (t:=126) rfl (decide_eq_true hbr12)
            refine g.qon (by rfl) (by rfl) (g.qm rfl λ_ g=>g.qon (by rfl) (by rfl) (g.qm rfl λ_ g=>g.qon (by rfl) (by rfl) (g.qm rfl λ_ g=>g.qon (by rfl) (by rfl) (g.qop (zH g rfl rfl) H λx130 a H g=>g.qon (by rfl) (by rfl) (g.qop (zN g rfl) H λx131 a H g=>g.qon (by rfl) (by rfl) (g.qm rfl λ_ g=>g.qon (by rfl) (by rfl) (g.qm rfl λ_ g=>g.qon (by rfl) (by rfl) (g.qop (zH g rfl rfl) H λx134 a H g=>g.qon (by rfl) (by rfl) (g.qop (zN g rfl) H λx135 a H g=>g.qon (by rfl) (by rfl) ?_)))))))))
            obtain ⟨r,hc,H⟩:=H
            exact g.qcallV rfl rfl hc λ_ g=>g.qon (by rfl) (by rfl) (g.qpur (yS g rfl rfl) λ_ g=>g.qon (by rfl) (by rfl) (g.qpur (zAD g rfl) λ_ g=>g.qpur (zu g rfl rfl) λ_ g=>hr12 (!(decide (r<0))) _ H (g.wk)))
           ·replace H:=H.2 hbr12
            replace g:=g.bool (b:=false) (t:=126) rfl (decide_eq_false hbr12)
            exact g.qoff (by rfl) (by rfl) (by decide) (λ_ g=>g.qoff (by rfl) (by rfl) (by decide) (λ_ g=>g.qoff (by rfl) (by rfl) (by decide) (λ_ g=>g.qoff (by rfl) (by rfl) (by decide) (λ_ g=>g.qoff (by rfl) (by rfl) (by decide) (λ_ g=>g.qoff (by rfl) (by rfl) (by decide) (λ_ g=>g.qoff (by rfl) (by rfl) (by decide) (λ_ g=>g.qoff (by rfl) (by rfl) (by decide) (λ_ g=>g.qoff (by rfl) (by rfl) (by decide) (λ_ g=>g.qoff (by rfl) (by rfl) (by decide) (λ_ g=>g.qoff (by rfl) (by rfl) (by decide) (λ_ g=>g.qoff (by rfl) (by rfl) (by decide) (λ_ g=>g.qpur (zv g rfl rfl) λ_ g=>hr12 false _ H (g.wk)))))))))))))
        ·rcases Classical.em ((x12_2<=x13_1)) with hbr10|hbr10
         ·replace H:=H.1 hbr10
          replace g:=g.bool (b:=true) (t:=108) rfl (decide_eq_true hbr10)
          refine g.qon (by rfl) (by rfl) (g.qm rfl λ_ g=>g.qon (by rfl) (by rfl) (g.qm rfl λ_ g=>g.qon (by rfl) (by rfl) (g.qm rfl λ_ g=>g.qon (by rfl) (by rfl) (g.qop (zH g rfl rfl) H λx112 a H g=>g.qon (by rfl) (by rfl) (g.qop (zN g rfl) H λx113 a H g=>g.qon (by rfl) (by rfl) (g.qm rfl λ_ g=>g.qon (by rfl) (by rfl) (g.qm rfl λ_ g=>g.qon (by rfl) (by rfl) (g.qop (zH g rfl rfl) H λx116 a H g=>g.qon (by rfl) (by rfl) (g.qop (zN g rfl) H λx117 a H g=>g.qon (by rfl) (by rfl) ?_)))))))))
          obtain ⟨r_1,hc,H⟩:=H
          exact g.qcallV rfl rfl hc λ_ g=>g.qon (by rfl) (by rfl) (g.qpur (yS g rfl rfl) λ_ g=>g.qpur (zu g rfl rfl) λ_ g=>hr10 (decide (r_1<0)) _ H (g.wk))
         ·replace H:=H.2 hbr10
          replace g:=g.bool (b:=false) (t:=108) rfl (decide_eq_false hbr10)
          exact g.qoff (by rfl) (by rfl) (by decide) (λ_ g=>g.qoff (by rfl) (by rfl) (by decide) (λ_ g=>g.qoff (by rfl) (by rfl) (by decide) (λ_ g=>g.qoff (by rfl) (by rfl) (by decide) (λ_ g=>g.qoff (by rfl) (by rfl) (by decide) (λ_ g=>g.qoff (by rfl) (by rfl) (by decide) (λ_ g=>g.qoff (by rfl) (by rfl) (by decide) (λ_ g=>g.qoff (by rfl) (by rfl) (by decide) (λ_ g=>g.qoff (by rfl) (by rfl) (by decide) (λ_ g=>g.qoff (by rfl) (by rfl) (by decide) (λ_ g=>g.qoff (by rfl) (by rfl) (by decide) (λ_ g=>g.qpur (zv g rfl rfl) λ_ g=>hr10 false _ H (g.wk))))))))))))
       ·refine zBb 16 λw hB=>?_
        replace H:=H w hB
        refine g.ap 0 rfl (zQ g rfl) λ_ g=>g.ap 1 rfl (zQ g rfl) λ_ g=>g.ap 2 rfl (zQ g rfl) λ_ g=>g.ap 3 rfl (zQ g rfl) λ_ g=>g.ap 4 rfl (zQ g rfl) λ_ g=>g.ap 5 rfl (zQ g rfl) λ_ g=>g.ao 6 rfl (zH g rfl rfl) H λx93 a H g=>g.ap 8 rfl (zQ g rfl) λ_ g=>g.ap 9 rfl (zQ g rfl) λ_ g=>g.ao 10 rfl (zH g rfl rfl) H λx97 a H g=>WA.tw 7 11 rfl rfl ?_ ?_
        ·replace H:=H.1
         intro K hK
         exact g.wop (zN g rfl) H λx94 w a H g=>hK _ _ (g.o1 11 rfl (zN g rfl) H λx98 w a H g=>g.ao 12 rfl (zH g rfl rfl) H λx99 a H g=>g.o1u 13 rfl (zT g rfl rfl) H λw a H g=>g.ao 14 rfl (zH g rfl rfl) H λx100 a H g=>g.o1u 15 rfl (zT g rfl rfl) H λw a H g=>WA.ni ((tn (hj7 () _ _ H (g.wk)))))
        ·replace H:=H.2
         intro K hK
         exact g.wop (zN g rfl) H λx98_1 w a H g=>hK _ _ (g.o1 7 rfl (zN g rfl) H λx94_1 w a H g=>g.ao 12 rfl (zH g rfl rfl) H λx99_1 a H g=>g.o1u 13 rfl (zT g rfl rfl) H λw a H g=>g.ao 14 rfl (zH g rfl rfl) H λx100_1 a H g=>g.o1u 15 rfl (zT g rfl rfl) H λw a H g=>WA.ni ((tn (hj7 () _ _ H (g.wk)))))
    ·rcases Classical.em ((x12<=x13)) with hbr5|hbr5
     ·replace H:=H.1 hbr5
      replace g:=g.bool (b:=true) (t:=53) rfl (decide_eq_true hbr5)
      refine g.qon (by rfl) (by rfl) (g.qm rfl λ_ g=>g.qon (by rfl) (by rfl) (g.qm rfl λ_ g=>g.qon (by rfl) (by rfl) (g.qm rfl λ_ g=>g.qon (by rfl) (by rfl) (g.qop (zH g rfl rfl) H λx57 a H g=>g.qon (by rfl) (by rfl) (g.qop (zN g rfl) H λx58 a H g=>g.qon (by rfl) (by rfl) (g.qm rfl λ_ g=>g.qon (by rfl) (by rfl) (g.qm rfl λ_ g=>g.qon (by rfl) (by rfl) (g.qop (zH g rfl rfl) H λx61 a H g=>g.qon (by rfl) (by rfl) (g.qop (zN g rfl) H λx62 a H g=>g.qon (by rfl) (by rfl) ?_)))))))))
      obtain ⟨r_2,hc,H⟩:=H
      exact g.qcallV rfl rfl hc λ_ g=>g.qon (by rfl) (by rfl) (g.qpur (yS g rfl rfl) λ_ g=>g.qon (by rfl) (by rfl) (g.qpur (zAD g rfl) λ_ g=>g.qpur (zu g rfl rfl) λ_ g=>hr5 (!(decide (r_2<0))) _ H (g.wk)))
     ·replace H:=H.2 hbr5
      replace g:=g.bool (b:=false) (t:=53) rfl (decide_eq_false hbr5)
      exact g.qoff (by rfl) (by rfl) (by decide) (λ_ g=>g.qoff (by rfl) (by rfl) (by decide) (λ_ g=>g.qoff (by rfl) (by rfl) (by decide) (λ_ g=>g.qoff (by rfl) (by rfl) (by decide) (λ_ g=>g.qoff (by rfl) (by rfl) (by decide) (λ_ g=>g.qoff (by rfl) (by rfl) (by decide) (λ_ g=>g.qoff (by rfl) (by rfl) (by decide) (λ_ g=>g.qoff (by rfl) (by rfl) (by decide) (λ_ g=>g.qoff (by rfl) (by rfl) (by decide) (λ_ g=>g.qoff (by rfl) (by rfl) (by decide) (λ_ g=>g.qoff (by rfl) (by rfl) (by decide) (λ_ g=>g.qoff (by rfl) (by rfl) (by decide) (λ_ g=>g.qpur (zv g rfl rfl) λ_ g=>hr5 false _ H (g.wk)))))))))))))
  ·rcases Classical.em ((x12<=(zB .i64 (x2 - 1)))) with hbr3|hbr3
   ·replace H:=H.1 hbr3
    replace g:=g.bool (b:=true) (t:=35) rfl (decide_eq_true hbr3)
    refine g.qon (by rfl) (by rfl) (g.qm rfl λ_ g=>g.qon (by rfl) (by rfl) (g.qm rfl λ_ g=>g.qon (by rfl) (by rfl) (g.qm rfl λ_ g=>g.qon (by rfl) (by rfl) (g.qop (zH g rfl rfl) H λx39 a H g=>g.qon (by rfl) (by rfl) (g.qop (zN g rfl) H λx40 a H g=>g.qon (by rfl) (by rfl) (g.qm rfl λ_ g=>g.qon (by rfl) (by rfl) (g.qm rfl λ_ g=>g.qon (by rfl) (by rfl) (g.qop (zH g rfl rfl) H λx43 a H g=>g.qon (by rfl) (by rfl) (g.qop (zN g rfl) H λx44 a H g=>g.qon (by rfl) (by rfl) ?_)))))))))
    obtain ⟨r_3,hc,H⟩:=H
    exact g.qcallV rfl rfl hc λ_ g=>g.qon (by rfl) (by rfl) (g.qpur (yS g rfl rfl) λ_ g=>g.qpur (zu g rfl rfl) λ_ g=>hr3 (decide (r_3<0)) _ H (g.wk))
   ·replace H:=H.2 hbr3
    replace g:=g.bool (b:=false) (t:=35) rfl (decide_eq_false hbr3)
    exact g.qoff (by rfl) (by rfl) (by decide) (λ_ g=>g.qoff (by rfl) (by rfl) (by decide) (λ_ g=>g.qoff (by rfl) (by rfl) (by decide) (λ_ g=>g.qoff (by rfl) (by rfl) (by decide) (λ_ g=>g.qoff (by rfl) (by rfl) (by decide) (λ_ g=>g.qoff (by rfl) (by rfl) (by decide) (λ_ g=>g.qoff (by rfl) (by rfl) (by decide) (λ_ g=>g.qoff (by rfl) (by rfl) (by decide) (λ_ g=>g.qoff (by rfl) (by rfl) (by decide) (λ_ g=>g.qoff (by rfl) (by rfl) (by decide) (λ_ g=>g.qoff (by rfl) (by rfl) (by decide) (λ_ g=>g.qpur (zv g rfl rfl) λ_ g=>hr3 false _ H (g.wk))))))))))))
 ·refine zBb 16 λw hB=>?_
  replace H:=H w hB
  refine g.ap 0 rfl (zQ g rfl) λ_ g=>g.ap 1 rfl (zQ g rfl) λ_ g=>g.ap 2 rfl (zQ g rfl) λ_ g=>g.ap 3 rfl (zQ g rfl) λ_ g=>g.ap 4 rfl (zQ g rfl) λ_ g=>g.ap 5 rfl (zQ g rfl) λ_ g=>g.ao 6 rfl (zH g rfl rfl) H λx20 a H g=>g.ap 8 rfl (zQ g rfl) λ_ g=>g.ap 9 rfl (zQ g rfl) λ_ g=>g.ao 10 rfl (zH g rfl rfl) H λx24 a H g=>WA.tw 7 11 rfl rfl ?_ ?_
  ·replace H:=H.1
   intro K hK
   exact g.wop (zN g rfl) H λx21 w a H g=>hK _ _ (g.o1 11 rfl (zN g rfl) H λx25 w a H g=>g.ao 12 rfl (zH g rfl rfl) H λx26 a H g=>g.o1u 13 rfl (zT g rfl rfl) H λw a H g=>g.ao 14 rfl (zH g rfl rfl) H λx27 a H g=>g.o1u 15 rfl (zT g rfl rfl) H λw a H g=>WA.ni ((tn (hj1 () _ _ H (g.wk)))))
  ·replace H:=H.2
   intro K hK
   exact g.wop (zN g rfl) H λx25_1 w a H g=>hK _ _ (g.o1 7 rfl (zN g rfl) H λx21_1 w a H g=>g.ao 12 rfl (zH g rfl rfl) H λx26_1 a H g=>g.o1u 13 rfl (zT g rfl rfl) H λw a H g=>g.ao 14 rfl (zH g rfl rfl) H λx27_1 a H g=>g.o1u 15 rfl (zT g rfl rfl) H λw a H g=>WA.ni ((tn (hj1 () _ _ H (g.wk)))))
def YF (Kl1:Int->World->Prop) (x11:Int) (w:World):Prop:=
 Kl1 x11 w
def xm (x0:Sl) (x3:Int) (x4:Value) (Ret:World->Prop) (x10:Int) (Kl1:Int->World->Prop) (x11:Int) (w:World):Prop:=
 opB zA zC (zF 22 (Sl.v x0) (.int .i64 (zB .i64 (x3+x10)))) w (λx48=>opB zA zL.v (zD 66 (.pointer x48)) w (λx49=>opB zA zC (zF 22 (Sl.v x0) (.int .i64 (zB .i64 (x3+x11)))) w (λx54=>opB zA zL.v (zD 66 (.pointer x54)) w (λx55=>∃ (r:Int),Zb zA x4 [(zL.v x49),(zL.v x55)] w (.int .i64 r)/\(yG w (λw=>((!(decide (r<0)))=true->(Ret w))/\((!(decide (r<0)))=false->(yG w (λw=>opP zA zC (zF 22 (Sl.v x0) (.int .i64 (zB .i64 (x3+x11)))) (λx71=>opP zA zC (zF 22 (Sl.v x0) (.int .i64 (zB .i64 (x3+x10)))) (λx77=>(opE zA zL.v (zD 66 (.pointer x71)) w (λx72 w=>opE zA zL.v (zD 66 (.pointer x77)) w (λx78 w=>opP zA zC (zF 22 (Sl.v x0) (.int .i64 (zB .i64 (x3+x10)))) (λx79=>opU zA (zK 66 (.pointer x79) (zL.v x72)) w (λw=>opP zA zC (zF 22 (Sl.v x0) (.int .i64 (zB .i64 (x3+x11)))) (λx80=>opU zA (zK 66 (.pointer x80) (zL.v x78)) w (λw=>YF Kl1 x11 w)))))))/\(opE zA zL.v (zD 66 (.pointer x77)) w (λx78_1 w=>opE zA zL.v (zD 66 (.pointer x71)) w (λx72_1 w=>opP zA zC (zF 22 (Sl.v x0) (.int .i64 (zB .i64 (x3+x10)))) (λx79_1=>opU zA (zK 66 (.pointer x79_1) (zL.v x72_1)) w (λw=>opP zA zC (zF 22 (Sl.v x0) (.int .i64 (zB .i64 (x3+x11)))) (λx80_1=>opU zA (zK 66 (.pointer x80_1) (zL.v x78_1)) w (λw=>YF Kl1 x11 w))))))))))))))))))
def xg (x0:Sl) (x3:Int) (x4:Value) (Ret:World->Prop) (x10:Int) (Kl1:Int->World->Prop) (x40:Bool) (w:World):Prop:=
 yG w (λw=>(x40=true->(xm x0 x3 x4 Ret x10 Kl1 (zB .i64 ((zB .i64 ((zB .i64 (2*x10))+1))+1)) w))/\(x40=false->(xm x0 x3 x4 Ret x10 Kl1 (zB .i64 ((zB .i64 (2*x10))+1)) w)))
def Y1 (x0:Sl) (x2:Int) (x3:Int) (x4:Value) (Ret:World->Prop) (x10:Int) (w:World) (Kl1:Int->World->Prop):Prop:=
 ((x2<=(zB .i64 ((zB .i64 (2*x10))+1)))->(Ret w))/\(¬ (x2<=(zB .i64 ((zB .i64 (2*x10))+1)))->((((zB .i64 ((zB .i64 ((zB .i64 (2*x10))+1))+1))<x2)->(opB zA zC (zF 22 (Sl.v x0) (.int .i64 (zB .i64 (x3+(zB .i64 ((zB .i64 (2*x10))+1)))))) w (λx29=>opB zA zL.v (zD 66 (.pointer x29)) w (λx30=>opB zA zC (zF 22 (Sl.v x0) (.int .i64 (zB .i64 ((zB .i64 (x3+(zB .i64 ((zB .i64 (2*x10))+1))))+1)))) w (λx36=>opB zA zL.v (zD 66 (.pointer x36)) w (λx37=>∃ (r_1:Int),Zb zA x4 [(zL.v x30),(zL.v x37)] w (.int .i64 r_1)/\(xg x0 x3 x4 Ret x10 Kl1 (decide (r_1<0)) w)))))))/\(¬ ((zB .i64 ((zB .i64 ((zB .i64 (2*x10))+1))+1))<x2)->(xg x0 x3 x4 Ret x10 Kl1 false w))))
def zAj (x0:Sl) (x1:Int) (x2:Int) (x3:Int) (x4:Value) (w:World) (Ret:World->Prop):Prop:=
 ∃ (I:Int->World->Prop) (μ:Int->World->Nat),I x1 w/\∀ (x10:Int) w,I x10 w->Y1 x0 x2 x3 x4 Ret x10 w (λx10' w'=>I x10' w'/\μ x10' w'<μ x10 w)
set_option maxRecDepth 100000 in
theorem zEt (x0:Sl) (x1:Int) (x2:Int) (x3:Int) (x4:Value) (w:World) (Ret:World->Prop) (H:zAj x0 x1 x2 x3 x4 w Ret):Cl zA 114 [(Sl.v x0),(.int .i64 x1),(.int .i64 x2),(.int .i64 x3),x4].toArray w (λe w'=>e=.returned (.tuple [].toArray)/\Ret w'):=by
 unfold zAj at H
 refine zl 82 (zipE 0 [(Sl.v x0),(.int .i64 x1),(.int .i64 x2),(.int .i64 x3),x4]) Tryz.func114 rfl rfl (by rfl) rfl ?_
 intro a g
 replace g:Sat [] 82 [(0,(Sl.v x0)),(1,(.int .i64 x1)),(2,(.int .i64 x2)),(3,(.int .i64 x3)),(4,x4)] a:=g
 refine zJ (zE (g.mv rfl λ_ g=>g.as_ rfl λ_ g=>zM (tn (zW ?_))))
 obtain ⟨I_l1,μ_l1,h0,hb⟩:=H
 refine yD (ds:=[]) (N:=82) (σ:=Int) (λs=>[(10,(.int .i64 s)),(0,(Sl.v x0)),(2,(.int .i64 x2)),(3,(.int .i64 x3)),(4,x4)]) (λs w=>I_l1 s w) (λs w=>μ_l1 s w) x1 h0 (g.wk) ?_
 intro x10 w a hI g
 try dsimp only at hI g
 obtain ⟨Kl1,hK_l1⟩:∃ K:Int->World->Prop,K=(λx10' w'=>I_l1 x10' w'/\μ_l1 x10' w'<μ_l1 x10 w):=⟨_,rfl⟩
 have H:Y1 x0 x2 x3 x4 Ret x10 w Kl1:=by rw [hK_l1];exact hb x10 w hI
 clear hb h0 hI
 unfold Y1 at H
 refine zW (zJ (zE (g.mv rfl λ_ g=>g.pur (zFN g rfl rfl) λ_ g=>g.pur (zm g rfl rfl) λ_ g=>g.as_ rfl λ_ g=>zM (tn (zJ (zJ (zE (g.mv rfl λ_ g=>g.mv rfl λ_ g=>g.pur (ZT g rfl rfl) λ_ g=>zM (tn (zb g rfl (λhc=>?_) (λhc=>?_)))))))))))
 ·replace H:=H.1 hc
  exact z5 (te (bo (te (be (zBY g rfl ⟨rfl,H⟩)))))
 ·replace H:=H.2 hc
  refine zX (tn (zz (ds:=[]) (N:=82) (σ:=Int) (λs=>[(11,(.int .i64 s)),(0,(Sl.v x0)),(2,(.int .i64 x2)),(3,(.int .i64 x3)),(4,x4),(10,(.int .i64 x10))]) (λs w=>xm x0 x3 x4 Ret x10 Kl1 s w) ?_ (λhj2=>?_)))
  ·intro x11 w a H g
   try dsimp only at H g
   unfold xm at H
   refine zJ (zJ (QP (by kernel_rfl) (by kernel_rfl) (g.qm rfl λ_ g=>g.qm rfl λ_ g=>g.qm rfl λ_ g=>g.qm rfl λ_ g=>g.qpur (zm g rfl rfl) λ_ g=>g.qop (zH g rfl rfl) H λx48 a H g=>g.qop (zN g rfl) H λx49 a H g=>g.qm rfl λ_ g=>g.qm rfl λ_ g=>g.qm rfl λ_ g=>g.qpur (zm g rfl rfl) λ_ g=>g.qop (zH g rfl rfl) H λx54 a H g=>g.qop (zN g rfl) H λx55 a H g=>?_)))
   obtain ⟨r,hc,H⟩:=H
   refine g.qcallV rfl rfl hc λ_ g=>g.qpur (yS g rfl rfl) λ_ g=>g.qpur (zAD g rfl) λ_ g=>QO (λw hB=>?_)
   replace H:=H w hB
   refine (tn (zd g rfl (λhc=>?_) (λhc=>?_)))
   ·replace H:=H.1 hc
    exact zg (tr (br (tr (br (zEO g rfl ⟨rfl,H⟩)))))
   ·replace H:=H.2 hc
    refine zX (tn (zz (ds:=[]) (N:=82) (σ:=Unit) (λs=>[(0,(Sl.v x0)),(2,(.int .i64 x2)),(3,(.int .i64 x3)),(4,x4),(11,(.int .i64 x11))]) (λs w=>YF Kl1 x11 w) ?_ (λhj3=>?_)))
    ·rintro ⟨⟩ w a H g
     try dsimp only at H g
     unfold YF at H
     refine zE (g.mv rfl λ_ g=>g.as_ rfl λ_ g=>?_)
     rw [hK_l1] at H
     exact zM (bn (tn ⟨x11,g.wk,H⟩))
    ·refine zBb 24 λw hB=>?_
     replace H:=H w hB
     refine g.ap 0 rfl (zQ g rfl) λ_ g=>g.ap 1 rfl (zQ g rfl) λ_ g=>g.ap 2 rfl (zQ g rfl) λ_ g=>g.ap 3 rfl (zm g rfl rfl) λ_ g=>g.ap 4 rfl (zQ g rfl) λ_ g=>g.ap 5 rfl (zQ g rfl) λ_ g=>g.ap 6 rfl (zQ g rfl) λ_ g=>g.ap 7 rfl (zm g rfl rfl) λ_ g=>g.ap 8 rfl (zQ g rfl) λ_ g=>g.ap 9 rfl (zQ g rfl) λ_ g=>g.ap 10 rfl (zQ g rfl) λ_ g=>g.ap 11 rfl (zm g rfl rfl) λ_ g=>g.ao 12 rfl (zH g rfl rfl) H λx71 a H g=>g.ap 14 rfl (zQ g rfl) λ_ g=>g.ap 15 rfl (zQ g rfl) λ_ g=>g.ap 16 rfl (zQ g rfl) λ_ g=>g.ap 17 rfl (zm g rfl rfl) λ_ g=>g.ao 18 rfl (zH g rfl rfl) H λx77 a H g=>WA.tw 13 19 rfl rfl ?_ ?_
     ·replace H:=H.1
      intro K hK
      exact g.wop (zN g rfl) H λx72 w a H g=>hK _ _ (g.o1 19 rfl (zN g rfl) H λx78 w a H g=>g.ao 20 rfl (zH g rfl rfl) H λx79 a H g=>g.o1u 21 rfl (zT g rfl rfl) H λw a H g=>g.ao 22 rfl (zH g rfl rfl) H λx80 a H g=>g.o1u 23 rfl (zT g rfl rfl) H λw a H g=>WA.ni ((tn (hj3 () _ _ H (g.wk)))))
     ·replace H:=H.2
      intro K hK
      exact g.wop (zN g rfl) H λx78_1 w a H g=>hK _ _ (g.o1 13 rfl (zN g rfl) H λx72_1 w a H g=>g.ao 20 rfl (zH g rfl rfl) H λx79_1 a H g=>g.o1u 21 rfl (zT g rfl rfl) H λw a H g=>g.ao 22 rfl (zH g rfl rfl) H λx80_1 a H g=>g.o1u 23 rfl (zT g rfl rfl) H λw a H g=>WA.ni ((tn (hj3 () _ _ H (g.wk)))))
  ·refine zJ (QP (by kernel_rfl) (by kernel_rfl) (g.qm rfl λ_ g=>g.qpur (zm g rfl rfl) λ_ g=>g.qm rfl λ_ g=>g.qpur (yS g rfl rfl) λ_ g=>g.qm rfl λ_ g=>WQ.join (ds:=[]) (N:=82) (σ:=Bool) (λs=>[(40,(.bool s)),(0,(Sl.v x0)),(2,(.int .i64 x2)),(3,(.int .i64 x3)),(4,x4),(10,(.int .i64 x10)),(11,(.int .i64 (zB .i64 ((zB .i64 (2*x10))+1))))]) (λs=>xg x0 x3 x4 Ret x10 Kl1 s w) 17 ?_ (λhr4=>?_)))
   ·intro x40 a H g
    try dsimp only at H g
    unfold xg at H
    refine QO (λw hB=>?_)
    replace H:=H w hB
    refine (tn (zd g rfl (λhc=>?_) (λhc=>?_)))
    ·replace H:=H.1 hc
     exact zE (g.mv rfl λ_ g=>g.pur (zm g rfl rfl) λ_ g=>g.as_ rfl λ_ g=>zM (tn (hj2 (zB .i64 ((zB .i64 ((zB .i64 (2*x10))+1))+1)) _ _ H (g.wk))))
    ·replace H:=H.2 hc
     exact zX (tn (hj2 (zB .i64 ((zB .i64 (2*x10))+1)) _ _ H (g.wk)))
   ·rcases Classical.em (((zB .i64 ((zB .i64 ((zB .i64 (2*x10))+1))+1))<x2)) with hbr4|hbr4
    ·replace H:=H.1 hbr4
     replace g:=g.bool (b:=true) (t:=23) rfl (decide_eq_true hbr4)
     refine g.qon (by rfl) (by rfl) (g.qm rfl λ_ g=>g.qon (by rfl) (by rfl) (g.qm rfl λ_ g=>g.qon (by rfl) (by rfl) (g.qm rfl λ_ g=>g.qon (by rfl) (by rfl) (g.qm rfl λ_ g=>g.qon (by rfl) (by rfl) (g.qpur (zm g rfl rfl) λ_ g=>g.qon (by rfl) (by rfl) (g.qop (zH g rfl rfl) H λx29 a H g=>g.qon (by rfl) (by rfl) (g.qop (zN g rfl) H λx30 a H g=>g.qon (by rfl) (by rfl) (g.qm rfl λ_ g=>g.qon (by rfl) (by rfl) (g.qm rfl λ_ g=>g.qon (by rfl) (by rfl) (g.qm rfl λ_ g=>g.qon (by rfl) (by rfl) (g.qpur (zm g rfl rfl) λ_ g=>g.qon (by rfl) (by rfl) (g.qpur (zm g rfl rfl) λ_ g=>g.qon (by rfl) (by rfl) (g.qop (zH g rfl rfl) H λx36 a H g=>g.qon (by rfl) (by rfl) (g.qop (zN g rfl) H λx37 a H g=>g.qon (by rfl) (by rfl) ?_))))))))))))))
     obtain ⟨r_1,hc,H⟩:=H
     exact g.qcallV rfl rfl hc λ_ g=>g.qon (by rfl) (by rfl) (g.qpur (yS g rfl rfl) λ_ g=>g.qpur (zu g rfl rfl) λ_ g=>hr4 (decide (r_1<0)) _ H (g.wk))
    ·replace H:=H.2 hbr4
     replace g:=g.bool (b:=false) (t:=23) rfl (decide_eq_false hbr4)
     exact g.qoff (by rfl) (by rfl) (by decide) (λ_ g=>g.qoff (by rfl) (by rfl) (by decide) (λ_ g=>g.qoff (by rfl) (by rfl) (by decide) (λ_ g=>g.qoff (by rfl) (by rfl) (by decide) (λ_ g=>g.qoff (by rfl) (by rfl) (by decide) (λ_ g=>g.qoff (by rfl) (by rfl) (by decide) (λ_ g=>g.qoff (by rfl) (by rfl) (by decide) (λ_ g=>g.qoff (by rfl) (by rfl) (by decide) (λ_ g=>g.qoff (by rfl) (by rfl) (by decide) (λ_ g=>g.qoff (by rfl) (by rfl) (by decide) (λ_ g=>g.qoff (by rfl) (by rfl) (by decide) (λ_ g=>g.qoff (by rfl) (by rfl) (by decide) (λ_ g=>g.qoff (by rfl) (by rfl) (by decide) (λ_ g=>g.qoff (by rfl) (by rfl) (by decide) (λ_ g=>g.qoff (by rfl) (by rfl) (by decide) (λ_ g=>g.qoff (by rfl) (by rfl) (by decide) (λ_ g=>g.qpur (zv g rfl rfl) λ_ g=>hr4 false _ H (g.wk)))))))))))))))))
def Zd (x0:Sl) (x1:Int) (x2:Option Addr) (x3:Value) (w:World) (Ret:Int->World->Prop):Prop:=
 Cl zA 118 [(Sl.v x0),(.int .i64 (zB .i64 (x1 - 1))),(.int .i64 x1),(.int .i64 (zB .i64 (x1+1))),(.pointer x2),x3].toArray w (λe w=>∃ (r:Int),e=.returned (.int .i64 r)/\(Ret r w))
set_option maxRecDepth 100000 in
theorem zDA (x0:Sl) (x1:Int) (x2:Option Addr) (x3:Value) (w:World) (Ret:Int->World->Prop) (H:Zd x0 x1 x2 x3 w Ret):Cl zA 117 [(Sl.v x0),(.int .i64 x1),(.pointer x2),x3].toArray w (λe w'=>∃ (r0:Int),e=.returned (.int .i64 r0)/\Ret r0 w'):=by
 unfold Zd at H
 refine zl 18 (zipE 0 [(Sl.v x0),(.int .i64 x1),(.pointer x2),x3]) Tryz.func117 rfl rfl (by rfl) rfl ?_
 intro a g
 replace g:Sat [] 18 [(0,(Sl.v x0)),(1,(.int .i64 x1)),(2,(.pointer x2)),(3,x3)] a:=g
 refine zJ (zE (g.as_ rfl λ_ g=>zM (tn (zJ (zE (g.mv rfl λ_ g=>g.mv rfl λ_ g=>g.pur (zq g rfl rfl) λ_ g=>g.mv rfl λ_ g=>g.mv rfl λ_ g=>g.pur (zm g rfl rfl) λ_ g=>g.mv rfl λ_ g=>g.mv rfl λ_ g=>g.call (zZ g zOe rfl rfl) H λe w H=>?_))))))
 obtain ⟨r,rfl,H⟩:=H
 exact ⟨_,rfl,λ_ g=>(g.as_ rfl λ_ g=>zM (tn (zg (zt g rfl rfl ⟨_,rfl,H⟩))))⟩
def zA8 (x0:Sl) (x1:Int) (x2:Int) (x3:Int) (x4:Option Addr) (x5:Value) (w:World) (Ret:Int->World->Prop):Prop:=
 Cl zA 139 [(Sl.v x0),(.int .i64 x1),(.int .i64 x2),(.pointer x4),x5].toArray w (λe w=>∃ (r:Int) (r_1:Int),e=.returned (.tuple [(.int .i64 r),(.int .i64 r_1)].toArray)/\(Cl zA 139 [(Sl.v x0),(.int .i64 r_1),(.int .i64 x3),(.pointer x4),x5].toArray w (λe w=>∃ (r_2:Int) (r_3:Int),e=.returned (.tuple [(.int .i64 r_2),(.int .i64 r_3)].toArray)/\(Cl zA 139 [(Sl.v x0),(.int .i64 r),(.int .i64 r_2),(.pointer x4),x5].toArray w (λe w=>∃ (r_4:Int) (r_5:Int),e=.returned (.tuple [(.int .i64 r_4),(.int .i64 r_5)].toArray)/\(Ret r_5 w))))))
set_option maxRecDepth 100000 in
theorem zFI (x0:Sl) (x1:Int) (x2:Int) (x3:Int) (x4:Option Addr) (x5:Value) (w:World) (Ret:Int->World->Prop) (H:zA8 x0 x1 x2 x3 x4 x5 w Ret):Cl zA 118 [(Sl.v x0),(.int .i64 x1),(.int .i64 x2),(.int .i64 x3),(.pointer x4),x5].toArray w (λe w'=>∃ (r0:Int),e=.returned (.int .i64 r0)/\Ret r0 w'):=by
 unfold zA8 at H
 refine zl 41 (zipE 0 [(Sl.v x0),(.int .i64 x1),(.int .i64 x2),(.int .i64 x3),(.pointer x4),x5]) Tryz.func118 rfl rfl (by rfl) rfl ?_
 intro a g
 replace g:Sat [] 41 [(0,(Sl.v x0)),(1,(.int .i64 x1)),(2,(.int .i64 x2)),(3,(.int .i64 x3)),(4,(.pointer x4)),(5,x5)] a:=g
 refine zJ (zE (g.as_ rfl λ_ g=>zM (tn (zJ (zE (g.mv rfl λ_ g=>g.mv rfl λ_ g=>g.mv rfl λ_ g=>g.mv rfl λ_ g=>g.mv rfl λ_ g=>g.call (zZ g zMI rfl rfl) H λe w H=>?_))))))
 obtain ⟨r,r_1,rfl,H⟩:=H
 refine ⟨_,rfl,λ_ g=>(g.mv rfl λ_ g=>g.pur (za g rfl rfl) λ_ g=>g.pur (za g rfl rfl) λ_ g=>g.as_ rfl λ_ g=>g.as_ rfl λ_ g=>zM (tn (zJ (zE (g.mv rfl λ_ g=>g.mv rfl λ_ g=>g.mv rfl λ_ g=>g.mv rfl λ_ g=>g.mv rfl λ_ g=>g.call (zZ g zMI rfl rfl) H λe w H=>?_)))))⟩
 obtain ⟨r_2,r_3,rfl,H⟩:=H
 refine ⟨_,rfl,λ_ g=>(g.mv rfl λ_ g=>g.pur (za g rfl rfl) λ_ g=>g.pur (za g rfl rfl) λ_ g=>g.as_ rfl λ_ g=>g.as_ rfl λ_ g=>zM (tn (zJ (zE (g.mv rfl λ_ g=>g.mv rfl λ_ g=>g.mv rfl λ_ g=>g.mv rfl λ_ g=>g.mv rfl λ_ g=>g.call (zZ g zMI rfl rfl) H λe w H=>?_)))))⟩
 obtain ⟨r_4,r_5,rfl,H⟩:=H
 exact ⟨_,rfl,λ_ g=>(g.mv rfl λ_ g=>g.pur (za g rfl rfl) λ_ g=>g.pur (za g rfl rfl) λ_ g=>g.as_ rfl λ_ g=>g.as_ rfl λ_ g=>zM (tn (zJ (zE (g.mv rfl λ_ g=>g.as_ rfl λ_ g=>zM (tn (zg (zt g rfl rfl ⟨_,rfl,H⟩))))))))⟩
def zA9 (x0:Sl) (x1:Int) (x2:Int) (x3:Option Addr) (x4:Value) (w:World) (Ret:Int->Int->World->Prop):Prop:=
 opB zA zC (zF 22 (Sl.v x0) (.int .i64 x2)) w (λx15=>opB zA zL.v (zD 66 (.pointer x15)) w (λx16=>opB zA zC (zF 22 (Sl.v x0) (.int .i64 x1)) w (λx19=>opB zA zL.v (zD 66 (.pointer x19)) w (λx20=>∃ (r:Int),Zb zA x4 [(zL.v x16),(zL.v x20)] w (.int .i64 r)/\(yG w (λw=>((r<0)->(QS (.pointer x3)/\(opE zA (zV .i64) (zD 3 (.pointer x3)) w (λx25 w=>QS (.pointer x3)/\(opU zA (zK 3 (.pointer x3) (.int .i64 (zB .i64 (x25+1)))) w (λw=>Ret x2 x1 w))))))/\(¬ (r<0)->(Ret x1 x2 w))))))))
set_option maxRecDepth 100000 in
theorem zFA (x0:Sl) (x1:Int) (x2:Int) (x3:Option Addr) (x4:Value) (w:World) (Ret:Int->Int->World->Prop) (H:zA9 x0 x1 x2 x3 x4 w Ret):Cl zA 139 [(Sl.v x0),(.int .i64 x1),(.int .i64 x2),(.pointer x3),x4].toArray w (λe w'=>∃ (r0:Int) (r1:Int),e=.returned (.tuple [(.int .i64 r0),(.int .i64 r1)].toArray)/\Ret r0 r1 w'):=by
 unfold zA9 at H
 refine zl 32 (zipE 0 [(Sl.v x0),(.int .i64 x1),(.int .i64 x2),(.pointer x3),x4]) Tryz.func139 rfl rfl (by rfl) rfl ?_
 intro a g
 replace g:Sat [] 32 [(0,(Sl.v x0)),(1,(.int .i64 x1)),(2,(.int .i64 x2)),(3,(.pointer x3)),(4,x4)] a:=g
 refine zJ (zE (g.as_ rfl λ_ g=>g.as_ rfl λ_ g=>zM (tn (zJ (zJ (QP (by kernel_rfl) (by kernel_rfl) (g.qm rfl λ_ g=>g.qm rfl λ_ g=>g.qm rfl λ_ g=>g.qop (zH g rfl rfl) H λx15 a H g=>g.qop (zN g rfl) H λx16 a H g=>g.qm rfl λ_ g=>g.qm rfl λ_ g=>g.qop (zH g rfl rfl) H λx19 a H g=>g.qop (zN g rfl) H λx20 a H g=>?_)))))))
 obtain ⟨r,hc,H⟩:=H
 refine g.qcallV rfl rfl hc λ_ g=>g.qpur (yS g rfl rfl) λ_ g=>QO (λw hB=>?_)
 replace H:=H w hB
 refine (tn (zb g rfl (λhc=>?_) (λhc=>?_)))
 ·replace H:=H.1 hc
  refine zJ (zE (g.mv rfl λ_ g=>g.pur (zj g rfl H.1) λ_ g=>?_))
  replace H:=H.2
  refine g.op (zN g rfl) H λx25 w a H g=>g.pur (zm g rfl rfl) λ_ g=>g.pur (zj g rfl H.1) λ_ g=>?_
  replace H:=H.2
  exact g.opu (zT g rfl rfl) H λw a H g=>zM (tn (zJ (zE (g.mv rfl λ_ g=>g.mv rfl λ_ g=>g.as_ rfl λ_ g=>g.as_ rfl λ_ g=>zM (tn (zg (tr (Zu g rfl rfl rfl ⟨_,_,rfl,H⟩))))))))
 ·replace H:=H.2 hc
  exact zX (tn (zJ (zE (g.mv rfl λ_ g=>g.mv rfl λ_ g=>g.as_ rfl λ_ g=>g.as_ rfl λ_ g=>zM (tn (zg (Zu g rfl rfl rfl ⟨_,_,rfl,H⟩)))))))
end Go.Proofs.YtealcoghiaeiiaaGreat.VG
