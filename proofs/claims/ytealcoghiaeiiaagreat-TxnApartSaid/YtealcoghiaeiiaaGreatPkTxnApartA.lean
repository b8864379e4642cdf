/- Texts by which the law's calls are walked (part 1): rules, printed conditions, contracts; no condition. -/
import Derived.TacticsIn
import Derived.TacticsInMore
import Derived.Deep.LoopGhost
import Derived.Sort.QuietThIn
import Derived.RangeFuncCalls
import Derived.RangeFuncNested
import Derived.RangeFuncLeaves
import Derived.WalkKit
import Derived.StillTail
import Derived.Test.YtealcoghiaeiiaaGreatProg
import Derived.KernelRfl
set_option linter.unusedVariables false
set_option linter.unusedSimpArgs false
namespace Go.VB
abbrev Env:=List (Nat × Value)
def lk:Env→Nat→Option Value
 |[],_=>none
 |(k,v)::r,t=>bif Nat.beq k t then some v else lk r t
def ev (E:Env):Operand→Option Value
 |.tmp t=>lk E t
 |.const v=>some v
 |.global g=>some (.pointer (some ⟨g,0,none⟩))
 |.func f=>some (.func (.func f) #[] #[])
def allIn (E:Env):Env→Prop
 |[]=>True
 |(k,v)::r=>lk E k=some v∧allIn E r
structure Sat (ds:List Deferred) (N:Nat) (E:Env) (a:Act):Prop where
 size:a.tmps.size=N
 vals:∀ t v,lk E t=some v→a.tmps.getD t undef=v
 defs:a.defers=ds
theorem zQQ {m n:Nat} (h:¬ m=n):Nat.beq m n=false:=by
 cases hb:Nat.beq m n
 ·rfl
 ·exact absurd (Nat.eq_of_beq_eq_true hb) h
theorem zTp {m n:Nat} (h:Nat.beq m n=false):¬ m=n:=by
 rintro rfl;simp at h
theorem Sat.ev {ds:List Deferred} {N:Nat} {E:Env} {a:Act} (h:Sat ds N E a) {x:Operand} {v:Value} (hx:ev E x=some v):a.eval x=v:=by
 cases x with
 |tmp t=>exact h.vals t v hx
 |const c=>exact Option.some.inj hx
 |global g=>exact Option.some.inj hx
 |func f=>exact Option.some.inj hx
theorem Sat.put {ds:List Deferred} {N:Nat} {E:Env} {a:Act} (h:Sat ds N E a) {d:Nat} (hd:Nat.blt d N=true) (v:Value):Sat ds N ((d,v)::E) (a.put (some d) v):=by
 have hd':d<N:=by simpa [Nat.blt_eq] using hd
 refine ⟨by simp [Act.put,h.size],fun t u hu=>?_,h.defs⟩
 by_cases e:d=t
 ·subst e
  have:u=v:=by
   have h1:(bif Nat.beq d d then some v else lk E d)=some u:=hu
   rw [show Nat.beq d d=true from by simp] at h1
   exact (Option.some.inj h1).symm
  subst this
  simp [Act.put,Array.getD_eq_getD_getElem?,Array.getElem?_setIfInBounds,h.size,hd']
 ·have h1:(bif Nat.beq d t then some v else lk E t)=some u:=hu
  rw [show Nat.beq d t=false from zQQ e] at h1
  have:=h.vals t u h1
  simpa [Act.put,Array.getD_eq_getD_getElem?,Array.getElem?_setIfInBounds,e] using this
theorem zP9 {E:Env}:∀ {E':Env},allIn E E'→∀ t v,lk E' t=some v→lk E t=some v
 |[],_,_,_,h=>by cases h
 |(k,u)::r,hA,t,v,h=>by
  by_cases e:k=t
  ·subst e
   have h1:(bif Nat.beq k k then some u else lk r k)=some v:=h
   rw [show Nat.beq k k=true from by simp] at h1
   rw [← Option.some.inj h1];exact hA.1
  ·have h1:(bif Nat.beq k t then some u else lk r t)=some v:=h
   rw [show Nat.beq k t=false from zQQ e] at h1
   exact zP9 hA.2 t v h1
theorem Sat.weak {ds:List Deferred} {N:Nat} {E E':Env} {a:Act} (h:Sat ds N E a) (hA:allIn E E'):Sat ds N E' a:=⟨h.size,fun t v hv=>h.vals t v (zP9 hA t v hv),h.defs⟩
theorem Sat.getq {ds:List Deferred} {N:Nat} {E:Env} {a:Act} (h:Sat ds N E a) {t:Nat} {v:Value} (hv:lk E t=some v):a.tmps[t]?.getD undef=v:=by
 have:=h.vals t v hv
 simpa [Array.getD_eq_getD_getElem?] using this
theorem Sat.enter {N:Nat} {E:Env} (args:Array Value) (hN:args.size≤N) (hE:∀ t v,lk E t=some v→args[t]?=some v):
  Sat [] N E {tmps:=args++Array.replicate (N - args.size) undef,defers:=[]}:=by
 refine ⟨by simp;omega,fun t v hv=>?_,rfl⟩
 have h:=hE t v hv
 have hlt:t<args.size:=by
  rw [Array.getElem?_eq_some_iff] at h;exact h.1
 simp [Array.getD_eq_getD_getElem?,Array.getElem?_append,hlt]
 exact (Array.getElem?_eq_some_iff.1 h).2
abbrev FW (ro:Option Nat):Fence:={Fence.wide with round:=ro}
abbrev Cl (P:Program) (f:FuncId) (args:Array Value) (w:World) (R:Ending→World→Prop):Prop:=CallsIn (FW none) 0 P f args w R
theorem Cl.calls {P:Program} {f:FuncId} {args:Array Value} {w:World} {R:Ending→World→Prop} (h:Cl P f args w R):Calls P f args w R:=callsIn_wide.1 h
def opE {τ:Type} (P:Program) (enc:τ→Value) (s:Sem Value) (w:World) (k:τ→World→Prop):Prop:=∃ x w',s.run P w=.ok (enc x) w'∧k x w'
def opU (P:Program) (s:Sem Unit) (w:World) (k:World→Prop):Prop:=∃ w',s.run P w=.ok () w'∧k w'
section
variable {ro:Option Nat} {P:Program} {ops:Array Oper} {Q:Exit→Act→World→Prop} {ds:List Deferred} {N:Nat} {E:Env} {a:Act} {w:World} {rest:List Oper} {o:Oper}
abbrev WL (ro:Option Nat) (P:Program) (ops:Array Oper) (Q:Exit→Act→World→Prop) (l:List Oper) (a:Act) (w:World):Prop:=wpListIn (FW ro) 0 P ops Q l a w
abbrev WC (ro:Option Nat) (P:Program) (c:Code) (Q:Exit→Act→World→Prop) (a:Act) (w:World):Prop:=Code.wpIn (FW ro) 0 P c Q a w
theorem zRH (hg:o.guard=none) (hnd:∀ c,o.op≠.defer c) {v:Value} {w':World} (hr:(execOp a.eval o).run P w=.ok (.value v) w')
  (h:WL ro P ops Q rest (a.put o.dst v) w'):WL ro P ops Q (o::rest) a w:=by
 unfold WL wpListIn
 rw [if_pos (by simp [Region.wanted,hg])]
 refine ⟨fun _ _=>trivial,?_⟩
 rw [Oper.semAt_eq _ _ _ hnd,hr]
 exact h
theorem zS4 (hg:o.guard=none) (hnd:∀ c,o.op≠.defer c) {w':World} (hr:(execOp a.eval o).run P w=.ok .skip w')
  (h:WL ro P ops Q rest (a.put o.dst undef) w'):WL ro P ops Q (o::rest) a w:=by
 unfold WL wpListIn
 rw [if_pos (by simp [Region.wanted,hg])]
 refine ⟨fun _ _=>trivial,?_⟩
 rw [Oper.semAt_eq _ _ _ hnd,hr]
 exact h
theorem zQq (hg:o.guard=none) (hnd:∀ c,o.op≠.defer c) {f:FuncId} {args:Array Value} {w':World} (hr:(execOp a.eval o).run P w=.ok (.enter f args) w')
  {R:Ending→World→Prop} (hc:Cl P f args w' R)
  (h:∀ e w'',R e w''→∃ v,e=.returned v∧WL ro P ops Q rest (a.put o.dst v) w''):WL ro P ops Q (o::rest) a w:=by
 unfold WL wpListIn
 rw [if_pos (by simp [Region.wanted,hg])]
 refine ⟨fun _ _=>trivial,?_⟩
 rw [Oper.semAt_eq _ _ _ hnd,hr,Oper.uponIn_enter]
 refine ⟨fun h=>by simp [FW,Fence.wide] at h,?_⟩
 have hc':CallsIn (FW ro) 0 P f args w' R:=hc
 refine CallsIn.mono hc' fun e w'' hR=>?_
 obtain ⟨v,rfl,hv⟩:=h e w'' hR
 exact hv
theorem Sat.val (hE:Sat ds N E a) {τ:Type} {enc:τ→Value} {s:Sem Value} {k:τ→World→Prop} {op:Op} {ty:TypeId} {pos:String} {aft:Array Edge} {d:Nat}
  (he:execOp a.eval ⟨some d,op,ty,pos,aft,none⟩=s >>= fun v=>pure (.value v)) (hnd:∀ c,op≠.defer c) (hN:Nat.blt d N=true) (H:opE P enc s w k)
  (next:∀ x w' a',k x w'→Sat ds N ((d,enc x)::E) a'→WL ro P ops Q rest a' w'):WL ro P ops Q (⟨some d,op,ty,pos,aft,none⟩::rest) a w:=by
 obtain ⟨x,w',hr,hk⟩:=H
 exact zRH rfl hnd (v:=enc x) (w':=w') (by rw [he];simp [hr]) (next x w' _ hk (hE.put hN _))
theorem Sat.unit (hE:Sat ds N E a) {s:Sem Unit} {k:World→Prop} {op:Op} {ty:TypeId} {pos:String} {aft:Array Edge}
  (he:execOp a.eval ⟨none,op,ty,pos,aft,none⟩=s >>= fun _=>pure .skip) (hnd:∀ c,op≠.defer c) (H:opU P s w k)
  (next:∀ w' a',k w'→Sat ds N E a'→WL ro P ops Q rest a' w'):WL ro P ops Q (⟨none,op,ty,pos,aft,none⟩::rest) a w:=by
 obtain ⟨w',hr,hk⟩:=H
 exact zS4 rfl hnd (w':=w') (by rw [he];simp [hr]) (next w' _ hk hE)
theorem Sat.pure (hE:Sat ds N E a) {op:Op} {ty:TypeId} {pos:String} {aft:Array Edge} {d:Nat} {v:Value}
  (he:(execOp a.eval ⟨some d,op,ty,pos,aft,none⟩).run P w=.ok (.value v) w) (hnd:∀ c,op≠.defer c) (hN:Nat.blt d N=true)
  (next:∀ a',Sat ds N ((d,v)::E) a'→WL ro P ops Q rest a' w):WL ro P ops Q (⟨some d,op,ty,pos,aft,none⟩::rest) a w:=
 zRH rfl hnd he (next _ (hE.put hN _))
end
def evL (E:Env):List Operand→Option (List Value)
 |[]=>some []
 |x::r=>match VB.ev E x,evL E r with
  |some v,some l=>some (v::l)
  |_,_=>none
theorem Sat.evL {ds:List Deferred} {N:Nat} {E:Env} {a:Act} (h:Sat ds N E a):∀ {xs:List Operand} {vs:List Value},VB.evL E xs=some vs→xs.map a.eval=vs
 |[],vs,hx=>by simp [VB.evL] at hx;simp [hx]
 |x::r,vs,hx=>by
  unfold VB.evL at hx
  cases h1:VB.ev E x with
  |none=>rw [h1] at hx;cases hx
  |some v=>
   cases h2:VB.evL E r with
   |none=>rw [h1,h2] at hx;cases hx
   |some l=>
    rw [h1,h2] at hx
    obtain rfl:=Option.some.inj hx
    simp [h.ev h1,h.evL h2]
theorem Sat.evA {ds:List Deferred} {N:Nat} {E:Env} {a:Act} (h:Sat ds N E a) {xs:List Operand} {vs:List Value} (hx:VB.evL E xs=some vs):xs.toArray.map a.eval=vs.toArray:=by
 rw [← h.evL hx];simp
structure Sl where
 a:Option Addr
 len:Nat
 cap:Nat
abbrev Sl.v (s:Sl):Value:=.slice s.a s.len s.cap
abbrev Sl.none:Sl:=⟨Option.none,0,0⟩
def nilOk:Value→Prop
 |.pointer none|.nilIface|.nilFunc=>False
 |.func (.method _) _ _=>False
 |_=>True
def sLt (x y:ByteArray):Bool:=Op.bytesLess x.toList y.toList
theorem zKP (x y:ByteArray):(x.toList==y.toList)=decide (x=y):=by
 by_cases h:x=y
 ·subst h;simp
 ·have:x.toList≠y.toList:=by
   intro e
   apply h
   have h1:=ByteArray.toList_eq (bs:=x)
   have h2:=ByteArray.toList_eq (bs:=y)
   rw [h1,h2] at e
   cases x;cases y
   simp at e
   simp [e]
  simp [h,this]
section
variable {ds:List Deferred} {N:Nat} {E:Env} {a:Act} {d:Option Tmp} {ty:TypeId} {pos:String} {aft:Array Edge}
abbrev pv (s:Sem Value):Sem Next:=s >>= fun v=>Pure.pure (.value v)
abbrev pn (v:Value):Sem Next:=Pure.pure (.value v)
abbrev pu (s:Sem Unit):Sem Next:=s >>= fun _=>Pure.pure .skip
theorem zAL (hE:Sat ds N E a) {x v} (hx:ev E x=some v):execOp a.eval ⟨d,.move x,ty,pos,aft,none⟩=pn v:=by rw [← hE.ev hx];rfl
theorem zEX (hE:Sat ds N E a) {x v} (hx:ev E x=some v):execOp a.eval ⟨d,.assign x,ty,pos,aft,none⟩=pn v:=by rw [← hE.ev hx];rfl
theorem zAj (hE:Sat ds N E a) {c x y v} (hc:ev E c=some (.bool true)) (hx:ev E x=some v):execOp a.eval ⟨d,.pick c x y,ty,pos,aft,none⟩=pn v:=by
 rw [← hE.ev hx];simp [execOp,hE.ev hc,asBool]
theorem zAi (hE:Sat ds N E a) {c x y v} (hc:ev E c=some (.bool false)) (hx:ev E y=some v):execOp a.eval ⟨d,.pick c x y,ty,pos,aft,none⟩=pn v:=by
 rw [← hE.ev hx];simp [execOp,hE.ev hc,asBool]
theorem zEH {e:TypeId}:execOp a.eval ⟨d,.alloc e,ty,pos,aft,none⟩=pv (Instr.alloc e true (.tuple #[])):=rfl
theorem zIm (hE:Sat ds N E a) {e x v} (hx:ev E x=some v):execOp a.eval ⟨d,.box e x,ty,pos,aft,none⟩=pv (Instr.box e v):=by rw [← hE.ev hx];rfl
theorem zAI (hE:Sat ds N E a) {t x v} (hx:ev E x=some v):execOp a.eval ⟨d,.load t x,ty,pos,aft,none⟩=pv (Instr.loadAt t v):=by rw [← hE.ev hx];rfl
theorem zAM (hE:Sat ds N E a) {t x y v u} (hx:ev E x=some v) (hy:ev E y=some u):execOp a.eval ⟨d,.store t x y,ty,pos,aft,none⟩=pu (Instr.storeAt t v u):=by rw [← hE.ev hx,← hE.ev hy];rfl
theorem zAS (hE:Sat ds N E a) {x v} (hx:ev E x=some v) (h:nilOk v):execOp a.eval ⟨d,.nilCheck x,ty,pos,aft,none⟩=pn v:=by
 have e:=hE.ev hx
 unfold execOp
 simp only [e]
 unfold nilOk at h
 split<;>first|(exfalso;exact h)|(simp_all;done)|rfl|skip
theorem zNY {t:TypeId}:execOp a.eval ⟨d,.makeMap t none,ty,pos,aft,none⟩=pv (Instr.makeMap t none):=rfl
theorem zSz (hE:Sat ds N E a) {t x y v u} (hx:ev E x=some v) (hy:ev E y=some u):execOp a.eval ⟨d,.makeSlice t x y,ty,pos,aft,none⟩=pv (Instr.makeSlice t v u):=by rw [← hE.ev hx,← hE.ev hy];rfl
theorem zAJ (hE:Sat ds N E a) {s x f v} (hx:ev E x=some v):execOp a.eval ⟨d,.fieldAddr s x f,ty,pos,aft,none⟩=pv (Instr.fieldAt s v f):=by rw [← hE.ev hx];rfl
theorem zUL (hE:Sat ds N E a) {s x f v} (hx:ev E x=some v):execOp a.eval ⟨d,.field s x f,ty,pos,aft,none⟩=pv (Instr.field s v f):=by rw [← hE.ev hx];rfl
theorem zAC (hE:Sat ds N E a) {t x y v u} (hx:ev E x=some v) (hy:ev E y=some u):execOp a.eval ⟨d,.indexAddr t x y,ty,pos,aft,none⟩=pv (Instr.indexAt t v u):=by rw [← hE.ev hx,← hE.ev hy];rfl
theorem zSy (hE:Sat ds N E a) {t x y v u} (hx:ev E x=some v) (hy:ev E y=some u):execOp a.eval ⟨d,.index t x y,ty,pos,aft,none⟩=pv (Instr.index t v u):=by rw [← hE.ev hx,← hE.ev hy];rfl
theorem zMf (hE:Sat ds N E a) {t x y ok v u} (hx:ev E x=some v) (hy:ev E y=some u):execOp a.eval ⟨d,.lookup t x y ok,ty,pos,aft,none⟩=pv (Instr.lookup t v u ok):=by rw [← hE.ev hx,← hE.ev hy];rfl
theorem zMD (hE:Sat ds N E a) {t m k x vm vk vx} (hm:ev E m=some vm) (hk:ev E k=some vk) (hx:ev E x=some vx):execOp a.eval ⟨d,.mapUpdate t m k x,ty,pos,aft,none⟩=pu (Instr.mapUpdate t vm vk vx):=by rw [← hE.ev hm,← hE.ev hk,← hE.ev hx];rfl
theorem zUI (hE:Sat ds N E a) {t m k x vm vk vx} (hm:ev E m=some vm) (hk:ev E k=some vk) (hx:ev E x=some vx):execOp a.eval ⟨d,.insert t m k x,ty,pos,aft,none⟩=pu (Instr.mapUpdate t vm vk vx):=by rw [← hE.ev hm,← hE.ev hk,← hE.ev hx];rfl
theorem zTh (hE:Sat ds N E a) {t x y v u} (hx:ev E x=some v) (hy:ev E y=some u):execOp a.eval ⟨d,.mapEntry t x y,ty,pos,aft,none⟩=pv (Instr.mapEntry t v u):=by rw [← hE.ev hx,← hE.ev hy];rfl
theorem zSi (hE:Sat ds N E a) {t m k x vm vk vx} (hm:ev E m=some vm) (hk:ev E k=some vk) (hx:ev E x=some vx):execOp a.eval ⟨d,.entryStore t m k x,ty,pos,aft,none⟩=pu (Instr.entryStore t vm vk vx):=by rw [← hE.ev hm,← hE.ev hk,← hE.ev hx];rfl
theorem zOG (hE:Sat ds N E a) {t x v} (hx:ev E x=some v):execOp a.eval ⟨d,.range t x,ty,pos,aft,none⟩=pv (Instr.range t v):=by rw [← hE.ev hx];rfl
theorem zP4 (hE:Sat ds N E a) {x s v} (hx:ev E x=some v):execOp a.eval ⟨d,.next x s,ty,pos,aft,none⟩=pv (Instr.next v s ty):=by rw [← hE.ev hx];rfl
theorem zOS (hE:Sat ds N E a) {x v} (hx:ev E x=some v):execOp a.eval ⟨d,.entry x,ty,pos,aft,none⟩=pv (Instr.entry v):=by rw [← hE.ev hx];rfl
theorem zGY (hE:Sat ds N E a) {s t x v} (hx:ev E x=some v):execOp a.eval ⟨d,.convert s t x,ty,pos,aft,none⟩=pv (Go.convert s t v):=by rw [← hE.ev hx];rfl
theorem zAO (hE:Sat ds N E a) {x i v} {vs:List Value} (hx:ev E x=some (.tuple vs.toArray)) (hi:vs[i]?=some v):execOp a.eval ⟨d,.extract x i,ty,pos,aft,none⟩=pn v:=by
 show (Instr.extract (a.eval x) i >>= fun v=>Pure.pure (Next.value v))=_
 rw [hE.ev hx]
 simp [Instr.extract,hi]
def evO (E:Env):Option Operand→Option (Option Value)
 |none=>some none
 |some x=>match VB.ev E x with
  |some v=>some (some v)
  |none=>none
theorem Sat.evO (hE:Sat ds N E a) {x:Option Operand} {v:Option Value} (h:VB.evO E x=some v):x.map a.eval=v:=by
 cases x with
 |none=>simpa [VB.evO] using h
 |some x=>
  unfold VB.evO at h
  cases h1:VB.ev E x with
  |none=>simp [h1] at h
  |some u=>simp [h1] at h;simp [hE.ev h1,h]
theorem zNq (hE:Sat ds N E a) {t x lo hi mx v l h m} (hx:ev E x=some v) (hl:evO E lo=some l) (hh:evO E hi=some h) (hm:evO E mx=some m):
  execOp a.eval ⟨d,.slice t x lo hi mx,ty,pos,aft,none⟩=pv (Instr.sliceAt t v l h m):=by rw [← hE.ev hx,← hE.evO hl,← hE.evO hh,← hE.evO hm];rfl
def evP (E:Env):List (Nat × Operand)→Option (List (Nat × Value))
 |[]=>some []
 |(i,x)::r=>match VB.ev E x,evP E r with
  |some v,some l=>some ((i,v)::l)
  |_,_=>none
theorem Sat.evP (h:Sat ds N E a):∀ {xs:List (Nat × Operand)} {vs:List (Nat × Value)},VB.evP E xs=some vs→xs.map (fun (i,x)=>(i,a.eval x))=vs
 |[],vs,hx=>by simp [VB.evP] at hx;simp [hx]
 |(i,x)::r,vs,hx=>by
  unfold VB.evP at hx
  cases h1:VB.ev E x with
  |none=>rw [h1] at hx;cases hx
  |some v=>
   cases h2:VB.evP E r with
   |none=>rw [h1,h2] at hx;cases hx
   |some l=>
    rw [h1,h2] at hx
    obtain rfl:=Option.some.inj hx
    simp [h.ev h1]
    exact h.evP h2
theorem zGM (hE:Sat ds N E a) {t} {xs:List (Nat × Operand)} {vs} (h:evP E xs=some vs):execOp a.eval ⟨d,.build t xs.toArray,ty,pos,aft,none⟩=pv (Instr.build t vs.toArray):=by
 show (Instr.build t (xs.toArray.map fun (i,x)=>(i,a.eval x)) >>= fun v=>Pure.pure (Next.value v))=_
 rw [show xs.toArray.map (fun (i,x)=>(i,a.eval x))=vs.toArray from by rw [← hE.evP h];simp]
theorem zFI (hE:Sat ds N E a) {t n} {xs:List (Nat × Operand)} {vs} (h:evP E xs=some vs):execOp a.eval ⟨d,.buildSlice t n xs.toArray,ty,pos,aft,none⟩=pv (Instr.buildSlice t n vs.toArray):=by
 show (Instr.buildSlice t n (xs.toArray.map fun (i,x)=>(i,a.eval x)) >>= fun v=>Pure.pure (Next.value v))=_
 rw [show xs.toArray.map (fun (i,x)=>(i,a.eval x))=vs.toArray from by rw [← hE.evP h];simp]
theorem zKM (hE:Sat ds N E a) {fn} {xs ys:List Operand} {us vs} (h1:evL E xs=some us) (h2:evL E ys=some vs):execOp a.eval ⟨d,.makeFunc fn xs.toArray ys.toArray,ty,pos,aft,none⟩=pn (.func fn us.toArray vs.toArray):=by
 show (Instr.makeFunc fn (xs.toArray.map a.eval) (ys.toArray.map a.eval) >>= fun v=>Pure.pure (Next.value v))=_
 rw [hE.evA h1,hE.evA h2];rfl
theorem zJ4 (hE:Sat ds N E a) {op t x y t2 v u} (hx:ev E x=some v) (hy:ev E y=some u):execOp a.eval ⟨d,.binOp op t x y t2,ty,pos,aft,none⟩=pv (do eqGuard op t x y v u;binOp op t v u):=by rw [← hE.ev hx,← hE.ev hy];rfl
theorem zJf {op t x y k m k' n}:eqGuard op t x y (.int k m) (.int k' n)=Pure.pure ():=by unfold eqGuard;split<;>rfl
theorem zLb {op t x y m n}:eqGuard op t x y (.string m) (.string n)=Pure.pure ():=by unfold eqGuard;split<;>rfl
theorem zSW {op t x y v u} (h:(!(op matches .eql|.neq))=true):eqGuard op t x y v u=Pure.pure ():=by cases op<;>first|rfl|(simp at h)
section
variable (hE:Sat ds N E a) {t t2:TypeId} {x y:Operand} {k:IntKind} {m n:Int} (hx:ev E x=some (.int k m)) (hy:ev E y=some (.int k n))
include hE hx hy
theorem zAn:execOp a.eval ⟨d,.binOp .add t x y t2,ty,pos,aft,none⟩=pn (.int k (k.wrap (m+n))):=by rw [zJ4 hE hx hy,zJf];simp [binOp,Op.intArith]
theorem zAv:execOp a.eval ⟨d,.binOp .sub t x y t2,ty,pos,aft,none⟩=pn (.int k (k.wrap (m - n))):=by rw [zJ4 hE hx hy,zJf];simp [binOp,Op.intArith]
theorem zLJ:execOp a.eval ⟨d,.binOp .mul t x y t2,ty,pos,aft,none⟩=pn (.int k (k.wrap (m*n))):=by rw [zJ4 hE hx hy,zJf];simp [binOp,Op.intArith]
theorem zGX:execOp a.eval ⟨d,.binOp .eql t x y t2,ty,pos,aft,none⟩=pn (.bool (decide (m=n))):=by rw [zJ4 hE hx hy,zJf];simp [binOp,Op.intCmp];rfl
theorem zLw:execOp a.eval ⟨d,.binOp .neq t x y t2,ty,pos,aft,none⟩=pn (.bool (decide (m≠n))):=by
 rw [zJ4 hE hx hy,zJf,show decide (m≠n)=!decide (m=n) from by simp];simp only [binOp,ne_eq,not_true_eq_false,if_false,Op.intCmp];rfl
theorem zDp:execOp a.eval ⟨d,.binOp .lss t x y t2,ty,pos,aft,none⟩=pn (.bool (decide (m<n))):=by rw [zJ4 hE hx hy,zJf];simp [binOp,Op.intCmp]
theorem zJn:execOp a.eval ⟨d,.binOp .leq t x y t2,ty,pos,aft,none⟩=pn (.bool (decide (m≤n))):=by rw [zJ4 hE hx hy,zJf];simp [binOp,Op.intCmp]
theorem zIG:execOp a.eval ⟨d,.binOp .gtr t x y t2,ty,pos,aft,none⟩=pn (.bool (decide (n<m))):=by rw [zJ4 hE hx hy,zJf];simp [binOp,Op.intCmp]
theorem zF7:execOp a.eval ⟨d,.binOp .geq t x y t2,ty,pos,aft,none⟩=pn (.bool (decide (n≤m))):=by rw [zJ4 hE hx hy,zJf];simp [binOp,Op.intCmp]
end
section
variable (hE:Sat ds N E a) {t t2:TypeId} {x y:Operand} {p q:ByteArray} (hx:ev E x=some (.string p)) (hy:ev E y=some (.string q))
include hE hx hy
theorem zQa:execOp a.eval ⟨d,.binOp .eql t x y t2,ty,pos,aft,none⟩=pn (.bool (decide (p=q))):=by rw [zJ4 hE hx hy,zLb];simp only [binOp,Op.stringOp,zKP];rfl
theorem zS8:execOp a.eval ⟨d,.binOp .neq t x y t2,ty,pos,aft,none⟩=pn (.bool (decide (p≠q))):=by
 rw [zJ4 hE hx hy,zLb,show decide (p≠q)=!decide (p=q) from by simp];simp only [binOp,Op.stringOp,zKP];rfl
theorem zTE:execOp a.eval ⟨d,.binOp .lss t x y t2,ty,pos,aft,none⟩=pn (.bool (sLt p q)):=by rw [zJ4 hE hx hy,zLb];simp only [binOp,Op.stringOp,zKP];rfl
theorem zUR:execOp a.eval ⟨d,.binOp .gtr t x y t2,ty,pos,aft,none⟩=pn (.bool (!(sLt p q||decide (p=q)))):=by rw [zJ4 hE hx hy,zLb];simp only [binOp,Op.stringOp,zKP];rfl
theorem zTA:execOp a.eval ⟨d,.binOp .geq t x y t2,ty,pos,aft,none⟩=pn (.bool (!sLt p q)):=by rw [zJ4 hE hx hy,zLb];simp only [binOp,Op.stringOp,zKP];rfl
end
theorem zGp (hE:Sat ds N E a) {t x b} (hx:ev E x=some (.bool b)):execOp a.eval ⟨d,.unOp .not t x,ty,pos,aft,none⟩=pn (.bool (!b)):=by
 show (Op.unary .not (a.eval x) >>= fun v=>Pure.pure (Next.value v))=_
 rw [hE.ev hx];rfl
theorem zJv (hE:Sat ds N E a) {xs:List Operand} {vs ts} (h:evL E xs=some vs):execOp a.eval ⟨d,.call {callee:=.builtin .append,args:=xs.toArray,argTypes:=ts},ty,pos,aft,none⟩=pv (Builtin.append_ ts ty vs.toArray):=by
 rw [← hE.evA h];rfl
theorem zUS (hE:Sat ds N E a) {xs:List Operand} {vs ts} (h:evL E xs=some vs):execOp a.eval ⟨d,.call {callee:=.builtin .copy,args:=xs.toArray,argTypes:=ts},ty,pos,aft,none⟩=pv (Builtin.copy_ ts ty vs.toArray):=by
 rw [← hE.evA h];rfl
theorem zTU (hE:Sat ds N E a) {xs:List Operand} {vs ts} (h:evL E xs=some vs):execOp a.eval ⟨d,.call {callee:=.builtin .clear,args:=xs.toArray,argTypes:=ts},ty,pos,aft,none⟩=pv (Builtin.clear_ ts ty vs.toArray):=by
 rw [← hE.evA h];rfl
theorem zQP (hE:Sat ds N E a) {xs:List Operand} {vs ts} (h:evL E xs=some vs):execOp a.eval ⟨d,.call {callee:=.builtin .delete,args:=xs.toArray,argTypes:=ts},ty,pos,aft,none⟩=pv (Builtin.delete_ ts ty vs.toArray):=by
 rw [← hE.evA h];rfl
theorem zQt (hE:Sat ds N E a) {xs:List Operand} {vs ts} (h:evL E xs=some vs):execOp a.eval ⟨d,.call {callee:=.builtin .len,args:=xs.toArray,argTypes:=ts},ty,pos,aft,none⟩=pv (Builtin.len_ ts ty vs.toArray):=by
 rw [← hE.evA h];rfl
theorem zUW (hE:Sat ds N E a) {xs:List Operand} {vs ts} (h:evL E xs=some vs):execOp a.eval ⟨d,.call {callee:=.builtin .cap,args:=xs.toArray,argTypes:=ts},ty,pos,aft,none⟩=pv (Builtin.cap_ ts ty vs.toArray):=by
 rw [← hE.evA h];rfl
theorem zUO (hE:Sat ds N E a) {xs:List Operand} {vs ts} (h:evL E xs=some vs):execOp a.eval ⟨d,.call {callee:=.builtin .min,args:=xs.toArray,argTypes:=ts},ty,pos,aft,none⟩=pv (Builtin.min_ ts ty vs.toArray):=by
 rw [← hE.evA h];rfl
def Ent (P:Program) (f:FuncId):Prop:=∀ args w,(callFunc f args).run P w=.ok (.enter f args) w
theorem Ent.of {P : Program} {f : FuncId} {fn : Func} (h : P.funcs[f]? = some fn) (h1 : (fn.name == "runtime.NumGoroutine") = false) (h2 : fn.body.isNone = false) : Ent P f := by
 intro args w
 have h3 : fn.name ≠ "runtime.NumGoroutine" := by simpa using h1
 have h4:fn.body≠none:=by intro e;rw [e] at h2;cases h2
 simp [callFunc,Sem.run,h,h3,h4]
theorem zQD (hE:Sat ds N E a) {P:Program} {w:World} {x:Operand} {xs:List Operand} {vs ts f} {us cs:Array Value} (he:Ent P f) (hx:ev E x=some (.func (.func f) us cs)) (h:evL E xs=some vs):
  (execOp a.eval ⟨d,.call {callee:=.value x,args:=xs.toArray,argTypes:=ts},ty,pos,aft,none⟩).run P w=.ok (.enter f ((us++vs.toArray)++cs)) w:=by
 rw [← hE.evA h,← he]
 have e:=hE.ev hx
 simp [execOp,resolve,Deferred.ofValue,e,invoke]
end
def zOp {α β:Type} (ea:α→Value) (eb:β→Value):Option (α × β)→Value
 |none=>.tuple [.bool false].toArray
 |some (k,v)=>.tuple [.bool true,ea k,eb v].toArray
section
variable {ds:List Deferred} {N:Nat} {E:Env} {a:Act} {d:Option Tmp} {ty:TypeId} {pos:String} {aft:Array Edge}
theorem zFD (hE:Sat ds N E a) {op t x y t2 v u} (hx:ev E x=some v) (hy:ev E y=some u) (h:(!(op matches .eql|.neq))=true:=by rfl):execOp a.eval ⟨d,.binOp op t x y t2,ty,pos,aft,none⟩=pv (binOp op t v u):=by
 rw [zJ4 hE hx hy,zSW h];rfl
theorem zAQ (hE:Sat ds N E a) {P:Program} {w:World} {f:FuncId} {x:Operand} {xs:List Operand} {vs ts} (he:Ent P f) (hx:ev E x=some (.func (.func f) #[] #[])) (h:evL E xs=some vs):
  (execOp a.eval ⟨d,.call {callee:=.value x,args:=xs.toArray,argTypes:=ts},ty,pos,aft,none⟩).run P w=.ok (.enter f vs.toArray) w:=by
 rw [zQD hE he hx h];simp
theorem zGm (hE:Sat ds N E a) {P:Program} {w:World} {x:Operand} {s:Sl} {t e:TypeId} {ts:Array TypeId} (hu:P.underlying t=some (.slice e)) (hx:ev E x=some s.v) (ht:ts[0]?=some t:=by rfl):
  (execOp a.eval ⟨d,.call {callee:=.builtin .len,args:=[x].toArray,argTypes:=ts},ty,pos,aft,none⟩).run P w=.ok (.value (.int .i64 (s.len:Int))) w:=by
 rw [zQt hE (vs:=[s.v]) (by simp [evL,hx])]
 simp [Builtin.len_,ht,run_underlying hu,Sem.run,goInt]
theorem zMn (hE:Sat ds N E a) {P:Program} {w:World} {x:Operand} {s:ByteArray} {t:TypeId} {ts:Array TypeId} (hu:P.underlying t=some .string) (hx:ev E x=some (.string s)) (ht:ts[0]?=some t:=by rfl):
  (execOp a.eval ⟨d,.call {callee:=.builtin .len,args:=[x].toArray,argTypes:=ts},ty,pos,aft,none⟩).run P w=.ok (.value (.int .i64 (s.size:Int))) w:=by
 rw [zQt hE (vs:=[.string s]) (by simp [evL,hx])]
 simp [Builtin.len_,ht,run_underlying hu,Sem.run,goInt]
theorem zSt (hE:Sat ds N E a) {x y:Operand} {k m n ts} (hx:ev E x=some (.int k m)) (hy:ev E y=some (.int k n)):
  execOp a.eval ⟨d,.call {callee:=.builtin .min,args:=[x,y].toArray,argTypes:=ts},ty,pos,aft,none⟩=pn (.int k (if n<m then n else m)):=by
 rw [zUO hE (vs:=[.int k m,.int k n]) (by simp [evL,hx,hy])]
 simp [Builtin.min_,Builtin.min2]
end
theorem Sat.bool {ds:List Deferred} {N:Nat} {E:Env} {a:Act} (hE:Sat ds N E a) {t:Nat} {c b:Bool} (hl:lk E t=some (.bool c)) (hc:c=b):Sat ds N ((t,.bool b)::E) a:=by
 subst hc
 refine ⟨hE.size,fun t' v hv=>?_,hE.defs⟩
 by_cases e:t=t'
 ·subst e
  have h1:(bif Nat.beq t t then some (Value.bool c) else lk E t)=some v:=hv
  rw [show Nat.beq t t=true from by simp] at h1
  obtain rfl:=Option.some.inj h1
  exact hE.vals t _ hl
 ·have h1:(bif Nat.beq t t' then some (Value.bool c) else lk E t')=some v:=hv
  rw [show Nat.beq t t'=false from zQQ e] at h1
  exact hE.vals t' v h1
section
variable {ro:Option Nat} {P:Program} {ops:Array Oper} {Q:Exit→Act→World→Prop} {ds:List Deferred} {N:Nat} {E:Env} {a:Act} {w:World} {rest:List Oper}
theorem Sat.pur (hE:Sat ds N E a) {op:Op} {ty:TypeId} {pos:String} {aft:Array Edge} {d:Nat} {v:Value}
  (he:execOp a.eval ⟨some d,op,ty,pos,aft,none⟩=pn v) (next:∀ a',Sat ds N ((d,v)::E) a'→WL ro P ops Q rest a' w)
  (hN:Nat.blt d N=true:=by rfl) (hnd:∀ c,op≠.defer c:=by intro c h;cases h):WL ro P ops Q (⟨some d,op,ty,pos,aft,none⟩::rest) a w:=
 hE.pure (by rw [he];rfl) hnd hN next
theorem Sat.op (hE:Sat ds N E a) {τ:Type} {enc:τ→Value} {s:Sem Value} {k:τ→World→Prop} {op:Op} {ty:TypeId} {pos:String} {aft:Array Edge} {d:Nat}
  (he:execOp a.eval ⟨some d,op,ty,pos,aft,none⟩=pv s) (H:opE P enc s w k)
  (next:∀ x w' a',k x w'→Sat ds N ((d,enc x)::E) a'→WL ro P ops Q rest a' w')
  (hN:Nat.blt d N=true:=by rfl) (hnd:∀ c,op≠.defer c:=by intro c h;cases h):WL ro P ops Q (⟨some d,op,ty,pos,aft,none⟩::rest) a w:=
 hE.val he hnd hN H next
theorem Sat.purR (hE:Sat ds N E a) {op:Op} {ty:TypeId} {pos:String} {aft:Array Edge} {d:Nat} {v:Value}
  (he:∀ w,(execOp a.eval ⟨some d,op,ty,pos,aft,none⟩).run P w=.ok (.value v) w) (next:∀ a',Sat ds N ((d,v)::E) a'→WL ro P ops Q rest a' w)
  (hN:Nat.blt d N=true:=by rfl) (hnd:∀ c,op≠.defer c:=by intro c h;cases h):WL ro P ops Q (⟨some d,op,ty,pos,aft,none⟩::rest) a w:=
 hE.pure (he w) hnd hN next
theorem Sat.op0 (hE:Sat ds N E a) {τ:Type} {enc:τ→Value} {s:Sem Value} {k:τ→World→Prop} {op:Op} {ty:TypeId} {pos:String} {aft:Array Edge}
  (he:execOp a.eval ⟨none,op,ty,pos,aft,none⟩=pv s) (H:opE P enc s w k)
  (next:∀ x w' a',k x w'→Sat ds N E a'→WL ro P ops Q rest a' w')
  (hnd:∀ c,op≠.defer c:=by intro c h;cases h):WL ro P ops Q (⟨none,op,ty,pos,aft,none⟩::rest) a w:=by
 obtain ⟨x,w',hr,hk⟩:=H
 exact zRH rfl hnd (v:=enc x) (w':=w') (by rw [he];simp [hr]) (next x w' _ hk hE)
theorem Sat.opu (hE:Sat ds N E a) {s:Sem Unit} {k:World→Prop} {op:Op} {ty:TypeId} {pos:String} {aft:Array Edge}
  (he:execOp a.eval ⟨none,op,ty,pos,aft,none⟩=pu s) (H:opU P s w k)
  (next:∀ w' a',k w'→Sat ds N E a'→WL ro P ops Q rest a' w')
  (hnd:∀ c,op≠.defer c:=by intro c h;cases h):WL ro P ops Q (⟨none,op,ty,pos,aft,none⟩::rest) a w:=
 hE.unit he hnd H next
theorem Sat.call (hE:Sat ds N E a) {f:FuncId} {args:Array Value} {R:Ending→World→Prop} {op:Op} {ty:TypeId} {pos:String} {aft:Array Edge} {d:Nat}
  (he:(execOp a.eval ⟨some d,op,ty,pos,aft,none⟩).run P w=.ok (.enter f args) w) (H:Cl P f args w R)
  (next:∀ e w',R e w'→∃ v,e=.returned v∧∀ a',Sat ds N ((d,v)::E) a'→WL ro P ops Q rest a' w')
  (hN:Nat.blt d N=true:=by rfl) (hnd:∀ c,op≠.defer c:=by intro c h;cases h):WL ro P ops Q (⟨some d,op,ty,pos,aft,none⟩::rest) a w:=
 zQq rfl hnd he H fun e w' hR=>by
  obtain ⟨v,rfl,hv⟩:=next e w' hR
  exact ⟨v,rfl,hv _ (hE.put hN v)⟩
theorem zLp (hE:Sat ds N E a) {j d:Nat} {b:Bool} (hj:(ops[j]?).bind (·.dst)=some d) (hb:lk E d=some (.bool b)):yielded ops a.tmps j=some b:=by
 unfold yielded
 have h1:=hE.vals d _ hb
 simp only [hj]
 have:d<a.tmps.size∨¬ d<a.tmps.size:=Nat.lt_or_ge d _ |>.imp id (by omega)
 rcases this with h|h
 ·simp [Array.getD_eq_getD_getElem?,h] at h1
  simp [h,h1]
 ·simp [Array.getD_eq_getD_getElem?,h,undef] at h1
theorem Sat.on (hE:Sat ds N E a) {dst:Option Tmp} {op:Op} {ty:TypeId} {pos:String} {aft:Array Edge} {j d:Nat} {b:Bool}
  (hj:(ops[j]?).bind (·.dst)=some d) (hb:lk E d=some (.bool b)) (h:WL ro P ops Q (⟨dst,op,ty,pos,aft,none⟩::rest) a w):WL ro P ops Q (⟨dst,op,ty,pos,aft,some (j,b)⟩::rest) a w:=by
 unfold WL wpListIn at*
 rw [if_pos (by simp [Region.wanted])] at h
 rw [if_pos (by simp [Region.wanted,zLp hE hj hb])]
 exact h
theorem Sat.off (hE:Sat ds N E a) {d0:Nat} {op:Op} {ty:TypeId} {pos:String} {aft:Array Edge} {j d:Nat} {b b':Bool}
  (hj:(ops[j]?).bind (·.dst)=some d) (hb:lk E d=some (.bool b')) (hne:b'≠b) (h:∀ a',Sat ds N ((d0,undef)::E) a'→WL ro P ops Q rest a' w) (hN:Nat.blt d0 N=true:=by rfl):
  WL ro P ops Q (⟨some d0,op,ty,pos,aft,some (j,b)⟩::rest) a w:=by
 unfold WL wpListIn
 rw [if_neg (by simp [Region.wanted,zLp hE hj hb,hne])]
 exact ⟨fun _ _=>trivial,h _ (hE.put hN _)⟩
theorem WL.join {σ:Type} (EJ:σ→Env) (V:σ→World→Prop) (k:Nat) {l0:List Oper} (hy:∀ s w a,V s w→Sat ds N (EJ s) a→WL ro P ops Q (l0.drop k) a w)
  (hx:(∀ s w a,V s w→Sat ds N (EJ s) a→WL ro P ops Q (l0.drop k) a w)→WL ro P ops Q l0 a w):WL ro P ops Q l0 a w:=hx hy
theorem zBG {σ:Type} {x y:Code} (EJ:σ→Env) (V:σ→World→Prop) (hy:∀ s w a,V s w→Sat ds N (EJ s) a→WC ro P y Q a w)
  (hx:(∀ s w a,V s w→Sat ds N (EJ s) a→WC ro P y Q a w)→WC ro P x (Exit.then (WC ro P y Q) Q) a w):WC ro P (.seq x y) Q a w:=wpIn_seq (hx hy)
theorem zAF {x y:Code} (h:WC ro P x (Exit.then (WC ro P y Q) Q) a w):WC ro P (.seq x y) Q a w:=wpIn_seq h
theorem zAA {id:Nat} {l:List Oper} (h:WL ro P l.toArray Q l a w):WC ro P (.region id l.toArray false) Q a w:=wpIn_region_lit h
theorem zAG (h:Q .normal a w):WL ro P ops Q [] a w:=h
theorem zAR (hE:Sat ds N E a) {c:Operand} {x y:Code} {p:Prop} [Decidable p] (hc:ev E c=some (.bool (decide p))) (ht:p→WC ro P x Q a w) (hf:¬ p→WC ro P y Q a w):WC ro P (.cond c x y) Q a w:=
 wpIn_cond_split (hE.ev hc) (fun h=>ht (of_decide_eq_true h)) (fun h=>hf (of_decide_eq_false h))
theorem zAV (hE:Sat ds N E a) {c:Operand} {x y:Code} {b:Bool} (hc:ev E c=some (.bool b)) (ht:b=true→WC ro P x Q a w) (hf:b=false→WC ro P y Q a w):WC ro P (.cond c x y) Q a w:=
 wpIn_cond_split (hE.ev hc) ht hf
theorem zAN {id:Nat} {c:Code} (h:WC ro P c (Exit.inBlock id Q) a w):WC ro P (.block id c) Q a w:=wpIn_block h
theorem zAP (h:Q .normal a w):WC ro P .skip Q a w:=wpIn_skip h
theorem zBJ {id:Nat} (h:Q (.exit id) a w):WC ro P (.exit id) Q a w:=wpIn_exit h
theorem zAf (h:Q .ret a w):WC ro P .ret Q a w:=wpIn_ret h
theorem zBl {σ:Type} (EL:σ→Env) {c:Code} (I:σ→World→Prop) (μ:σ→World→Nat) (s0:σ) (h0:I s0 w) (hE:Sat ds N (EL s0) a)
  (hb:∀ s w a,I s w→Sat ds N (EL s) a→WC ro P c (Exit.then (fun a' w'=>∃ s',Sat ds N (EL s') a'∧I s' w'∧μ s' w'<μ s w) Q) a w):WC ro P (.loop c) Q a w:=by
 refine wpIn_loop (fun a w=>∃ n,∃ s,Sat ds N (EL s) a∧I s w∧μ s w=n) (fun a w=>leastOf fun n=>∃ s,Sat ds N (EL s) a∧I s w∧μ s w=n) ⟨_,s0,hE,h0,rfl⟩ ?_
 intro a w hI
 obtain ⟨⟨s,hs,hi,hm⟩,hleast⟩:=leastOf_spec hI
 refine wpIn_mono (hb s w a hi hs) ?_
 intro e a' w' hq
 cases e with
 |normal=>
  obtain ⟨s',h1,h2,h3⟩:=hq
  refine ⟨⟨_,s',h1,h2,rfl⟩,Nat.lt_of_le_of_lt ((leastOf_spec ⟨_,s',h1,h2,rfl⟩).2 _ ⟨s',h1,h2,rfl⟩) ?_⟩
  rw [← hm];exact h3
 |exit id=>exact hq
 |goto l=>exact hq
 |ret=>exact hq
 |panic c=>exact hq
 |outgrown=>exact hq
end
section
variable {Q:Exit→Act→World→Prop} {K:Act→World→Prop} {a:Act} {w:World} {id id':Nat}
theorem tn (h:K a w):Exit.then K Q .normal a w:=h
theorem te (h:Q (.exit id) a w):Exit.then K Q (.exit id) a w:=h
theorem tr (h:Q .ret a w):Exit.then K Q .ret a w:=h
theorem bn (h:Q .normal a w):Exit.inBlock id Q .normal a w:=h
theorem br (h:Q .ret a w):Exit.inBlock id Q .ret a w:=h
theorem be (h:Q .normal a w):Exit.inBlock id Q (.exit id) a w:=by simp only [Exit.inBlock,if_true];exact h
theorem bo (h:Q (.exit id') a w) (hne:Nat.beq id' id=false:=by rfl):Exit.inBlock id Q (.exit id') a w:=by
 have:id'≠id:=zTp hne
 simp only [Exit.inBlock,this,if_false];exact h
end
def zipE:Nat→List Value→Env
 |_,[]=>[]
 |i,v::r=>(i,v)::zipE (i+1) r
theorem zOc:∀ (l:List Value) (i t:Nat) (v:Value),lk (zipE i l) t=some v→i≤t∧l[t - i]?=some v
 |[],_,_,_,h=>by cases h
 |u::r,i,t,v,h=>by
  by_cases e:i=t
  ·subst e
   have h1:(bif Nat.beq i i then some u else lk (zipE (i+1) r) i)=some v:=h
   rw [show Nat.beq i i=true from by simp] at h1
   exact ⟨Nat.le_refl _,by simpa using h1⟩
  ·have h1:(bif Nat.beq i t then some u else lk (zipE (i+1) r) t)=some v:=h
   rw [show Nat.beq i t=false from zQQ e] at h1
   obtain ⟨h2,h3⟩:=zOc r (i+1) t v h1
   refine ⟨by omega,?_⟩
   rw [show t - i=(t - (i+1))+1 from by omega]
   simpa using h3
theorem zAY {P:Program} {f:FuncId} {fn:Func} {c:Code} {args:List Value} {w:World} {R:Ending→World→Prop} (N:Nat) (E:Env)
  (hf:P.funcs[f]?=some fn) (hb:fn.body=some c) (hN:fn.ntmps=N) (hle:Nat.ble args.length N=true)
  (hz:zipE 0 args=E)
  (h:∀ a,Sat [] N E a→WC none P c (bodyPost P fn R) a w):Cl P f args.toArray w R:=by
 subst hN
 exact callsIn_of_wp hf hb trivial (h _ (Sat.enter args.toArray (by simpa using hle) (by intro t v hv;rw [← hz] at hv;simpa using (zOc args 0 t v hv).2))) rfl
theorem zAt {P:Program} {fn:Func} {R:Ending→World→Prop} {N:Nat} {E:Env} {a:Act} {w:World} (hE:Sat [] N E a) {t:Nat} {v:Value} (hr:fn.results=#[.tmp t]) (hv:lk E t=some v) (h:R (.returned v) w):
  bodyPost P fn R .ret a w:=⟨hE.defs,v,by simp only [results,hr];simp [hE.getq hv],h⟩
theorem zKH {P:Program} {fn:Func} {R:Ending→World→Prop} {N:Nat} {E:Env} {a:Act} {w:World} (hE:Sat [] N E a) (hr:fn.results=#[]) (h:R (.returned (.tuple #[])) w):
  bodyPost P fn R .ret a w:=⟨hE.defs,_,by simp [results,hr],h⟩
theorem zFz {P:Program} {fn:Func} {R:Ending→World→Prop} {N:Nat} {E:Env} {a:Act} {w:World} (hE:Sat [] N E a) {t t':Nat} {v v':Value} (hr:fn.results=#[.tmp t,.tmp t']) (hv:lk E t=some v) (hv':lk E t'=some v') (h:R (.returned (.tuple #[v,v'])) w):
  bodyPost P fn R .ret a w:=⟨hE.defs,_,by simp only [results,hr];simp [hE.getq hv,hE.getq hv'],h⟩
theorem zNf {P:Program} {fn:Func} {R:Ending→World→Prop} {N:Nat} {E:Env} {a:Act} {w:World} (hE:Sat [] N E a) {t t' t'':Nat} {v v' v'':Value} (hr:fn.results=#[.tmp t,.tmp t',.tmp t'']) (hv:lk E t=some v) (hv':lk E t'=some v') (hv'':lk E t''=some v'') (h:R (.returned (.tuple #[v,v',v''])) w):
  bodyPost P fn R .ret a w:=⟨hE.defs,_,by simp only [results,hr];simp [hE.getq hv,hE.getq hv',hE.getq hv''],h⟩
theorem zG1 {P:Program} {fn:Func} {R:Ending→World→Prop} {N:Nat} {E:Env} {a:Act} {w:World} (hE:Sat [] N E a) (hr:fn.results=#[]) (h:R (.returned (.tuple #[])) w):
  bodyPost P fn R .normal a w:=⟨hE.defs,_,by simp [results,hr],h⟩
section
variable {ro:Option Nat} {P:Program} {ops:Array Oper} {Q:Exit→Act→World→Prop} {ds:List Deferred} {N:Nat} {E:Env} {a:Act} {w:World} {rest:List Oper}
theorem zOB (hE:Sat ds N E a) {j d:Nat} (hj:(ops[j]?).bind (·.dst)=some d) (hb:lk E d=some undef):yielded ops a.tmps j=none:=by
 unfold yielded
 have h1:=hE.vals d _ hb
 simp only [hj]
 rcases Nat.lt_or_ge d a.tmps.size with h|h
 ·simp [Array.getD_eq_getD_getElem?,h] at h1
  simp [h,h1,undef]
 ·have:a.tmps[d]?=none:=Array.getElem?_eq_none h
  simp [this]
theorem Sat.offU (hE:Sat ds N E a) {d0:Nat} {op:Op} {ty:TypeId} {pos:String} {aft:Array Edge} {j d:Nat} {b:Bool}
  (hj:(ops[j]?).bind (·.dst)=some d) (hb:lk E d=some undef) (h:∀ a',Sat ds N ((d0,undef)::E) a'→WL ro P ops Q rest a' w) (hN:Nat.blt d0 N=true:=by rfl):
  WL ro P ops Q (⟨some d0,op,ty,pos,aft,some (j,b)⟩::rest) a w:=by
 unfold WL wpListIn
 rw [if_neg (by simp [Region.wanted,zOB hE hj hb])]
 exact ⟨fun _ _=>trivial,h _ (hE.put hN _)⟩
end
abbrev Bel (w w':World):Prop:=Go.RowKit.Below w.heap.size w w'
theorem Bel.refl (w:World):Bel w w:=Go.RowKit.Below.refl _ _
def nextB (w:World) (k:World→Prop):Prop:=∀ w',Bel w w'→k w'
def opB {τ:Type} (P:Program) (enc:τ→Value) (s:Sem Value) (w:World) (k:τ→Prop):Prop:=∃ x,(∀ w',Bel w w'→s.run P w'=.ok (enc x) w')∧k x
section
variable {P:Program} {ops:Array Oper} {ds:List Deferred} {N:Nat} {E:Env} {a:Act} {w:World} {rest:List Oper} {K:Act→Prop}
abbrev WQ (P:Program) (ops:Array Oper) (w:World) (K:Act→Prop) (l:List Oper) (a:Act):Prop:=wpQuietIn (FW none) 0 P ops (Bel w) K l a
theorem zEB {Q:Exit→Act→World→Prop} {id:Nat} {l:List Oper} (hm:P.follows .mixedOrders=true) (hB:Region.lexB .any l.toArray=true)
  (h:WQ P l.toArray w (fun a'=>∀ w',Bel w w'→Q .normal a' w') l a):WC none P (.region id l.toArray true) Q a w:=
 wpIn_region_quiet (C:=Bel w) rfl hm hB ⟨rfl,rfl,rfl,Nat.le_refl _,fun _ _=>rfl⟩ (by simpa using h)
theorem zMX (o:Oper) (a:Act):o.askedIn (FW none) P a (Bel w):=fun _ _ _ _=>trivial
theorem q_run {o:Oper} (hg:o.guard=none) {v:Value} (hr:∀ w',Bel w w'→(execOp a.eval o).run P w'=.ok (.value v) w') (h:WQ P ops w K rest (a.put o.dst v)):WQ P ops w K (o::rest) a:=by
 unfold WQ wpQuietIn
 refine ⟨zMX o a,?_⟩
 rw [if_pos (by simp [Region.wanted,hg])]
 exact ⟨v,fun w' hw=>by unfold Oper.quietAtIn;rw [hr w' hw];exact ⟨rfl,rfl⟩,h⟩
theorem zSq {o:Oper} (hg:o.guard=none) {f:FuncId} {args:Array Value} {v:Value} (hr:∀ w',(execOp a.eval o).run P w'=.ok (.enter f args) w')
  (hc:∀ w',Bel w w'→Cl P f args w' fun e w''=>e=.returned v∧Bel w' w'') (h:WQ P ops w K rest (a.put o.dst v)):WQ P ops w K (o::rest) a:=by
 unfold WQ wpQuietIn
 refine ⟨zMX o a,?_⟩
 rw [if_pos (by simp [Region.wanted,hg])]
 refine ⟨v,fun w' hw=>?_,h⟩
 unfold Oper.quietAtIn
 rw [hr w']
 refine ⟨rfl,fun h=>by simp [FW,Fence.wide] at h,?_⟩
 have hc':CallsIn (FW none) 0 P f args w' (fun e w''=>e=.returned v∧Bel w' w''):=hc w' hw
 refine CallsIn.mono hc' fun e w'' ⟨he,hb⟩=>⟨he,?_⟩
 exact hw.trans ⟨hb.os,hb.tape,hb.output,hb.size,fun k hk=>hb.block k (Nat.lt_of_lt_of_le hk hw.size)⟩
theorem Sat.qpur (hE:Sat ds N E a) {op:Op} {ty:TypeId} {pos:String} {aft:Array Edge} {d:Nat} {v:Value}
  (he:execOp a.eval ⟨some d,op,ty,pos,aft,none⟩=pn v) (next:∀ a',Sat ds N ((d,v)::E) a'→WQ P ops w K rest a')
  (hN:Nat.blt d N=true:=by rfl):WQ P ops w K (⟨some d,op,ty,pos,aft,none⟩::rest) a:=
 q_run rfl (fun w' _=>by rw [he];rfl) (next _ (hE.put hN v))
theorem Sat.qpurR (hE:Sat ds N E a) {op:Op} {ty:TypeId} {pos:String} {aft:Array Edge} {d:Nat} {v:Value}
  (he:∀ w,(execOp a.eval ⟨some d,op,ty,pos,aft,none⟩).run P w=.ok (.value v) w) (next:∀ a',Sat ds N ((d,v)::E) a'→WQ P ops w K rest a')
  (hN:Nat.blt d N=true:=by rfl):WQ P ops w K (⟨some d,op,ty,pos,aft,none⟩::rest) a:=
 q_run rfl (fun w' _=>he w') (next _ (hE.put hN v))
theorem Sat.qop (hE:Sat ds N E a) {τ:Type} {enc:τ→Value} {s:Sem Value} {k:τ→Prop} {op:Op} {ty:TypeId} {pos:String} {aft:Array Edge} {d:Nat}
  (he:execOp a.eval ⟨some d,op,ty,pos,aft,none⟩=pv s) (H:opB P enc s w k)
  (next:∀ x a',k x→Sat ds N ((d,enc x)::E) a'→WQ P ops w K rest a') (hN:Nat.blt d N=true:=by rfl):WQ P ops w K (⟨some d,op,ty,pos,aft,none⟩::rest) a:=by
 obtain ⟨x,hr,hk⟩:=H
 exact q_run rfl (v:=enc x) (fun w' hw=>by rw [he];simp [hr w' hw]) (next x _ hk (hE.put hN _))
theorem Sat.qcall (hE:Sat ds N E a) {f:FuncId} {args:Array Value} {v:Value} {op:Op} {ty:TypeId} {pos:String} {aft:Array Edge} {d:Nat}
  (he:∀ w',(execOp a.eval ⟨some d,op,ty,pos,aft,none⟩).run P w'=.ok (.enter f args) w') (hc:∀ w',Bel w w'→Cl P f args w' fun e w''=>e=.returned v∧Bel w' w'')
  (next:∀ a',Sat ds N ((d,v)::E) a'→WQ P ops w K rest a') (hN:Nat.blt d N=true:=by rfl):WQ P ops w K (⟨some d,op,ty,pos,aft,none⟩::rest) a:=
 zSq rfl he hc (next _ (hE.put hN v))
theorem Sat.qon (hE:Sat ds N E a) {dst:Option Tmp} {op:Op} {ty:TypeId} {pos:String} {aft:Array Edge} {j d:Nat} {b:Bool}
  (hj:(ops[j]?).bind (·.dst)=some d) (hb:lk E d=some (.bool b)) (h:WQ P ops w K (⟨dst,op,ty,pos,aft,none⟩::rest) a):WQ P ops w K (⟨dst,op,ty,pos,aft,some (j,b)⟩::rest) a:=by
 unfold WQ wpQuietIn at*
 refine ⟨zMX _ a,?_⟩
 rw [if_pos (by simp [Region.wanted,zLp hE hj hb])]
 have:=h.2
 rw [if_pos (by simp [Region.wanted])] at this
 exact this
theorem Sat.qoff (hE:Sat ds N E a) {d0:Nat} {op:Op} {ty:TypeId} {pos:String} {aft:Array Edge} {j d:Nat} {b b':Bool}
  (hj:(ops[j]?).bind (·.dst)=some d) (hb:lk E d=some (.bool b')) (hne:b'≠b) (h:∀ a',Sat ds N ((d0,undef)::E) a'→WQ P ops w K rest a') (hN:Nat.blt d0 N=true:=by rfl):
  WQ P ops w K (⟨some d0,op,ty,pos,aft,some (j,b)⟩::rest) a:=by
 unfold WQ wpQuietIn
 refine ⟨zMX _ a,?_⟩
 rw [if_neg (by simp [Region.wanted,zLp hE hj hb,hne])]
 exact h _ (hE.put hN _)
theorem Sat.qoffU (hE:Sat ds N E a) {d0:Nat} {op:Op} {ty:TypeId} {pos:String} {aft:Array Edge} {j d:Nat} {b:Bool}
  (hj:(ops[j]?).bind (·.dst)=some d) (hb:lk E d=some undef) (h:∀ a',Sat ds N ((d0,undef)::E) a'→WQ P ops w K rest a') (hN:Nat.blt d0 N=true:=by rfl):
  WQ P ops w K (⟨some d0,op,ty,pos,aft,some (j,b)⟩::rest) a:=by
 unfold WQ wpQuietIn
 refine ⟨zMX _ a,?_⟩
 rw [if_neg (by simp [Region.wanted,zOB hE hj hb])]
 exact h _ (hE.put hN _)
theorem zED (h:K a):WQ P ops w K [] a:=h
theorem WQ.join {σ:Type} (EJ:σ→Env) (V:σ→Prop) (k:Nat) {l0:List Oper} (hy:∀ s a,V s→Sat ds N (EJ s) a→WQ P ops w K (l0.drop k) a)
  (hx:(∀ s a,V s→Sat ds N (EJ s) a→WQ P ops w K (l0.drop k) a)→WQ P ops w K l0 a):WQ P ops w K l0 a:=hx hy
end
def zNB:Op→Bool
 |.move _|.assign _|.load ..|.store ..|.alloc _|.box ..|.build ..|.buildSlice ..|.mapEntry ..|.entryStore ..|.mapUpdate ..|.insert ..|.lookup ..|.extract ..|.binOp ..|.unOp ..
 |.fieldAddr ..|.indexAddr ..|.index ..|.field ..|.slice ..|.convert ..|.makeFunc ..|.makeSlice ..|.makeMap ..=>true
 |.call {callee:=.builtin .append,..}|.call {callee:=.builtin .copy,..}|.call {callee:=.builtin .len,..}|.call {callee:=.builtin .clear,..}|.call {callee:=.builtin .delete,..}=>true
 |_=>false
theorem zP8 {P:Program} {s:Sem Value} {w w':World} {l f ts as_ bd}:(pv s).run P w≠.ok (.round l f ts as_ bd) w':=by
 intro h
 simp only [pv,Sem.run_bind] at h
 cases hs:s.run P w<;>rw [hs] at h<;>simp [Result.andThen,Sem.run] at h
theorem zSe {P:Program} {s:Sem Unit} {w w':World} {l f ts as_ bd}:(pu s).run P w≠.ok (.round l f ts as_ bd) w':=by
 intro h
 simp only [pu,Sem.run_bind] at h
 cases hs:s.run P w<;>rw [hs] at h<;>simp [Result.andThen,Sem.run] at h
theorem zQh {P:Program} {ρ:Operand→Value} {w w':World} {l f ts as_ bd} {d:Option Tmp} {c:Call} {ty:TypeId} {pos:String} {aft:Array Edge} {g:Option (Nat × Bool)} (h:zNB (.call c)=true):
  (execOp ρ ⟨d,.call c,ty,pos,aft,g⟩).run P w≠.ok (.round l f ts as_ bd) w':=by
 obtain ⟨cl,as_,ts_⟩:=c
 cases cl with
 |value x=>exact absurd h (by simp [zNB])
 |invoke x m=>exact absurd h (by simp [zNB])
 |builtin b=>cases b<;>first|(exact zP8)|(exact absurd h (by simp [zNB]))
theorem zPs {P:Program} {o:Oper} {ρ:Operand→Value} {w w':World} {l f ts as_ bd} (h:zNB o.op=true):(execOp ρ o).run P w≠.ok (.round l f ts as_ bd) w':=by
 obtain ⟨d,op,ty,pos,aft,g⟩:=o
 cases op<;>first|(exact zP8)|(exact zSe)|(intro hh;simp [execOp,Sem.run] at hh;done)|(rename_i c;exact zQh h)|(exact absurd h (by simp [zNB]))
section
variable {P:Program} {ops:Array Oper} {ds:List Deferred} {N:Nat} {E:Env} {a:Act} {w:World} {rest:List Oper} {K:Act→Prop} {Q:Exit→Act→World→Prop}
theorem zMC:∀ (l:List Oper) (a:Act) (w:World),l.all (fun o=>zNB o.op)=true→WL none P ops Q l a w→wpList P ops Q l a w
 |[],_,_,_,h=>h
 |o::l,a,w,hp,h=>by
  simp only [List.all_cons,Bool.and_eq_true] at hp
  unfold WL wpListIn at h
  unfold wpList
  split
  ·rename_i hw
   rw [if_pos hw] at h
   refine .inl ?_
   have h2:=h.2
   unfold Oper.wp
   rw [Oper.semAt_none] at h2
   have hr:=fun l f ts as_ bd w'=>zPs (P:=P) (o:=o) (ρ:=a.eval) (w:=w) (w':=w') (l:=l) (f:=f) (ts:=ts) (as_:=as_) (bd:=bd) hp.1
   cases hx:(execOp a.eval o).run P w with
   |halt hh w'=>rw [hx] at h2;cases hh<;>first|exact h2|exact h2.elim
   |ok nx w'=>
    rw [hx] at h2
    cases nx with
    |value v=>exact zMC l _ _ hp.2 h2
    |skip=>exact zMC l _ _ hp.2 h2
    |defer d=>exact zMC l _ _ hp.2 h2
    |enter f args=>
     have h3:=callsIn_wide.1 h2.2
     refine Calls.mono h3 fun e w'' hh=>?_
     cases e with
     |returned v=>exact zMC l _ _ hp.2 hh
     |panicked c=>exact hh
     |outgrown=>exact hh
    |row r args=>
     have h3:=h2.2
     intro c cs
     obtain ⟨v,w'',h4,h5⟩:=h3 c cs (room_wide _)
     exact ⟨v,w'',zMC l _ _ hp.2 h4,stepsIn_wide.1 h5⟩
    |round l f ts as_ bd=>exact absurd hx (hr l f ts as_ bd w')
    |_=>exact h2.elim
  ·rename_i hw
   rw [if_neg hw] at h
   exact zMC l _ _ hp.2 h.2
abbrev WS (P:Program) (ops:Array Oper) (w:World) (K:Act→Prop) (l:List Oper) (a:Act):Prop:=wpStill P ops w K l a
theorem Bel.draw (w:World):Bel w {w with drawn:=w.drawn+1}:=⟨rfl,rfl,rfl,Nat.le_refl _,fun _ _=>rfl⟩
theorem zUT {id:Nat} {l:List Oper} (n:Nat) (hm:P.follows .mixedOrders=true) (hB:Region.lexTailB .any l.toArray n=true) (hp:(l.drop n).all (fun o=>zNB o.op)=true)
  (h:WS P l.toArray {w with drawn:=w.drawn+1} (fun a'=>WL none P l.toArray Q (l.drop n) a' {w with drawn:=w.drawn+1}) (l.take n) a):WC none P (.region id l.toArray true) Q a w:=by
 refine wpIn_wide.2 (wp_region_still_tail n hm hB ?_)
 have:∀ (l':List Oper) (a:Act),WS P l.toArray {w with drawn:=w.drawn+1} (fun a'=>WL none P l.toArray Q (l.drop n) a' {w with drawn:=w.drawn+1}) l' a→
   wpStill P l.toArray {w with drawn:=w.drawn+1} (fun a'=>wpList P l.toArray Q (l.drop n) a' {w with drawn:=w.drawn+1}) l' a:=by
  intro l'
  induction l' with
  |nil=>exact fun a h=>zMC _ _ _ hp h
  |cons o l' ih=>
   intro a h
   unfold WS wpStill at h
   unfold wpStill
   split
   ·rename_i hw
    rw [if_pos hw] at h
    unfold Oper.still at*
    cases hx:(execOp a.eval o).run P {w with drawn:=w.drawn+1} with
    |halt hh w'=>rw [hx] at h;exact h.elim
    |ok nx w'=>
     rw [hx] at h
     cases nx with
     |value v=>exact ⟨h.1,ih _ h.2⟩
     |skip=>exact ⟨h.1,ih _ h.2⟩
     |enter f args=>obtain ⟨h1,v,h2,h3⟩:=h;exact ⟨h1,v,h2,ih _ h3⟩
     |_=>exact h.elim
   ·rename_i hw
    rw [if_neg hw] at h
    exact ih _ h
 exact this _ _ h
theorem WS.join {σ:Type} (EJ:σ→Env) (V:σ→Prop) (k:Nat) {l0:List Oper} (hy:∀ s a,V s→Sat ds N (EJ s) a→WS P ops w K (l0.drop k) a)
  (hx:(∀ s a,V s→Sat ds N (EJ s) a→WS P ops w K (l0.drop k) a)→WS P ops w K l0 a):WS P ops w K l0 a:=hx hy
end
def opP {τ:Type} (P:Program) (enc:τ→Value) (s:Sem Value) (k:τ→Prop):Prop:=∃ x,(∀ w,s.run P w=.ok (enc x) w)∧k x
def zMr:Op→Bool
 |.call _|.go _|.defer _=>false
 |_=>true
section
variable {P:Program} {ops:Array Oper} {ds:List Deferred} {N:Nat} {E:Env} {a:Act} {w:World} {Q:Exit→Act→World→Prop} {fuel:Nat} {listed l2:Array Bool}
abbrev WA (P:Program) (ops:Array Oper) (Q:Exit→Act→World→Prop) (fuel:Nat) (listed:Array Bool) (a:Act) (w:World):Prop:=wpAnyIn (FW none) 0 P .any ops Q fuel listed a w
theorem zUK {id:Nat} {l:List Oper} (n:Nat) (l2:Array Bool) (hm:P.follows .mixedOrders=true) (h:∀ w',Bel w w'→WA P l.toArray Q n l2 a w') (hn:l.toArray.size=n:=by rfl) (hl:Array.replicate n false=l2:=by rfl):
  WC none P (.region id l.toArray true) Q a w:=by
 subst hn;subst hl
 exact wpIn_region_any hm (h _ (Bel.draw w))
def zL1 (Q:Exit→Act→World→Prop):Prop:=∀ c a w d v,Q (.panic c) (a.put (some d) v) w→Q (.panic c) a w
theorem zQM {o:Oper} (h:zMr o.op=true) (ρ:Operand→Value) (w:World):o.about P w ρ=none:=by
 unfold Oper.about
 obtain ⟨d,op,ty,pos,aft,g⟩:=o
 cases op<;>first|rfl|(exact absurd h (by simp [zMr]))
theorem WA.take {i d:Nat} {o:Oper} {v:Value} (hd:o.dst=some d) (hq:zL1 Q) (hs:Region.noSelect ops=true) (hi:ops[i]?=some o) (hf:Region.free .any ops listed i=true) (hr:(Region.ready .any ops listed).contains i=true)
  (hl:listed.setIfInBounds i true=l2) (hy:YieldsFenced P ops o v a) (h:WA P ops Q fuel l2 (a.put o.dst v) w):WA P ops Q (fuel+1) listed a w:=by
 subst hl
 exact wpAnyIn_take rfl hi hs hf hr (fun c a w=>by rw [hd];exact hq c a w d v) hy h
theorem WA.one {i:Nat} {o:Oper} (hi:ops[i]?=some o) (hr:Region.ready .any ops listed=[i]) (hl:listed.setIfInBounds i true=l2)
  (h:∀ (K:Act→World→Prop),(∀ a w,WA P ops Q fuel l2 a w→K a w)→if Region.wanted o (yielded ops a.tmps)=true then Oper.wpIn (FW none) 0 P o a w K Q else K (a.put o.dst undef) w):WA P ops Q (fuel+1) listed a w:=by
 subst hl
 refine wpAnyIn_ready hr (by simp) (AllReadyIn.cons hi (fun K hK=>?_) AllReadyIn.nil)
 have:=h K hK
 split
 ·rename_i hw;rw [if_pos hw] at this;exact this
 ·rename_i hw;rw [if_neg hw] at this;exact ⟨fun _ _=>trivial,this⟩
theorem WA.two {i j:Nat} {o o':Oper} {l3:Array Bool} (hi:ops[i]?=some o) (hj:ops[j]?=some o') (hr:Region.ready .any ops listed=[i,j]) (hl:listed.setIfInBounds i true=l2) (hl':listed.setIfInBounds j true=l3)
  (h:∀ (K:Act→World→Prop),(∀ a w,WA P ops Q fuel l2 a w→K a w)→if Region.wanted o (yielded ops a.tmps)=true then Oper.wpIn (FW none) 0 P o a w K Q else K (a.put o.dst undef) w)
  (h':∀ (K:Act→World→Prop),(∀ a w,WA P ops Q fuel l3 a w→K a w)→if Region.wanted o' (yielded ops a.tmps)=true then Oper.wpIn (FW none) 0 P o' a w K Q else K (a.put o'.dst undef) w):WA P ops Q (fuel+1) listed a w:=by
 subst hl;subst hl'
 refine wpAnyIn_ready hr (by simp) (AllReadyIn.cons hi (fun K hK=>?_) (AllReadyIn.cons hj (fun K hK=>?_) AllReadyIn.nil))
 ·have:=h K hK
  split
  ·rename_i hw;rw [if_pos hw] at this;exact this
  ·rename_i hw;rw [if_neg hw] at this;exact ⟨fun _ _=>trivial,this⟩
 ·have:=h' K hK
  split
  ·rename_i hw;rw [if_pos hw] at this;exact this
  ·rename_i hw;rw [if_neg hw] at this;exact ⟨fun _ _=>trivial,this⟩
theorem WA.nil (hr:Region.ready .any ops listed=[]) (h:Q .normal a w):WA P ops Q fuel listed a w:=wpAnyIn_done hr h fuel
abbrev WO (P:Program) (ops:Array Oper) (Q:Exit→Act→World→Prop) (o:Oper) (K:Act→World→Prop) (a:Act) (w:World):Prop:=
 if Region.wanted o (yielded ops a.tmps)=true then Oper.wpIn (FW none) 0 P o a w K Q else K (a.put o.dst undef) w
theorem zUG {o:Oper} {K:Act→World→Prop} (hg:o.guard=none) (hnd:∀ c,o.op≠.defer c) {v:Value} {w':World} (hr:(execOp a.eval o).run P w=.ok (.value v) w') (h:K (a.put o.dst v) w'):WO P ops Q o K a w:=by
 unfold WO
 rw [if_pos (by simp [Region.wanted,hg])]
 refine ⟨fun _ _=>trivial,?_⟩
 rw [Oper.semAt_eq _ _ _ hnd,hr]
 exact h
theorem zTd {o:Oper} {K:Act→World→Prop} (hg:o.guard=none) (hnd:∀ c,o.op≠.defer c) {w':World} (hr:(execOp a.eval o).run P w=.ok .skip w') (h:K (a.put o.dst undef) w'):WO P ops Q o K a w:=by
 unfold WO
 rw [if_pos (by simp [Region.wanted,hg])]
 refine ⟨fun _ _=>trivial,?_⟩
 rw [Oper.semAt_eq _ _ _ hnd,hr]
 exact h
theorem Sat.wop (hE:Sat ds N E a) {K:Act→World→Prop} {τ:Type} {enc:τ→Value} {s:Sem Value} {k:τ→World→Prop} {op:Op} {ty:TypeId} {pos:String} {aft:Array Edge} {d:Nat}
  (he:execOp a.eval ⟨some d,op,ty,pos,aft,none⟩=pv s) (H:opE P enc s w k) (next:∀ x w' a',k x w'→Sat ds N ((d,enc x)::E) a'→K a' w')
  (hN:Nat.blt d N=true:=by rfl) (hnd:∀ c,op≠.defer c:=by intro c h;cases h):WO P ops Q ⟨some d,op,ty,pos,aft,none⟩ K a w:=by
 obtain ⟨x,w',hr,hk⟩:=H
 exact zUG rfl hnd (v:=enc x) (w':=w') (by rw [he];simp [hr]) (next x w' _ hk (hE.put hN _))
theorem Sat.wopu (hE:Sat ds N E a) {K:Act→World→Prop} {s:Sem Unit} {k:World→Prop} {op:Op} {ty:TypeId} {pos:String} {aft:Array Edge}
  (he:execOp a.eval ⟨none,op,ty,pos,aft,none⟩=pu s) (H:opU P s w k) (next:∀ w' a',k w'→Sat ds N E a'→K a' w')
  (hnd:∀ c,op≠.defer c:=by intro c h;cases h):WO P ops Q ⟨none,op,ty,pos,aft,none⟩ K a w:=by
 obtain ⟨w',hr,hk⟩:=H
 exact zTd rfl hnd (w':=w') (by rw [he];simp [hr]) (next w' _ hk hE)
theorem Sat.wcall (hE:Sat ds N E a) {K:Act→World→Prop} {f:FuncId} {args:Array Value} {R:Ending→World→Prop} {op:Op} {ty:TypeId} {pos:String} {aft:Array Edge} {d:Nat}
  (he:(execOp a.eval ⟨some d,op,ty,pos,aft,none⟩).run P w=.ok (.enter f args) w) (H:Cl P f args w R)
  (next:∀ e w',R e w'→∃ v,e=.returned v∧∀ a',Sat ds N ((d,v)::E) a'→K a' w')
  (hN:Nat.blt d N=true:=by rfl) (hnd:∀ c,op≠.defer c:=by intro c h;cases h):WO P ops Q ⟨some d,op,ty,pos,aft,none⟩ K a w:=by
 unfold WO
 rw [if_pos (by simp [Region.wanted])]
 refine ⟨fun _ _=>trivial,?_⟩
 rw [Oper.semAt_eq _ _ _ hnd,he,Oper.uponIn_enter]
 refine ⟨fun h=>by simp [FW,Fence.wide] at h,?_⟩
 have hc':CallsIn (FW none) 0 P f args w R:=H
 refine CallsIn.mono hc' fun e w'' hR=>?_
 obtain ⟨v,rfl,hv⟩:=next e w'' hR
 exact hv _ (hE.put hN v)
theorem Sat.apur (hE:Sat ds N E a) {i:Nat} {op:Op} {ty:TypeId} {pos:String} {aft:Array Edge} {d:Nat} {v:Value} (hq:zL1 Q) (hs:Region.noSelect ops=true) (hi:ops[i]?=some ⟨some d,op,ty,pos,aft,none⟩)
  (hf:Region.free .any ops listed i=true) (hr:(Region.ready .any ops listed).contains i=true) (hl:listed.setIfInBounds i true=l2)
  (he:∀ w,(execOp a.eval ⟨some d,op,ty,pos,aft,none⟩).run P w=.ok (.value v) w) (next:∀ a',Sat ds N ((d,v)::E) a'→WA P ops Q fuel l2 a' w)
  (hN:Nat.blt d N=true:=by rfl) (hc:zMr op=true:=by rfl):WA P ops Q (fuel+1) listed a w:=
 WA.take rfl hq hs hi hf hr hl ⟨.inl ⟨by simp [Region.wanted],he⟩,fun w=>zQM hc _ w⟩ (next _ (hE.put hN v))
theorem Sat.aop (hE:Sat ds N E a) {i:Nat} {τ:Type} {enc:τ→Value} {s:Sem Value} {k:τ→Prop} {op:Op} {ty:TypeId} {pos:String} {aft:Array Edge} {d:Nat} (hq:zL1 Q) (hs:Region.noSelect ops=true) (hi:ops[i]?=some ⟨some d,op,ty,pos,aft,none⟩)
  (hf:Region.free .any ops listed i=true) (hr:(Region.ready .any ops listed).contains i=true) (hl:listed.setIfInBounds i true=l2)
  (he:execOp a.eval ⟨some d,op,ty,pos,aft,none⟩=pv s) (H:opP P enc s k) (next:∀ x a',k x→Sat ds N ((d,enc x)::E) a'→WA P ops Q fuel l2 a' w)
  (hN:Nat.blt d N=true:=by rfl) (hc:zMr op=true:=by rfl):WA P ops Q (fuel+1) listed a w:=by
 obtain ⟨x,hx,hk⟩:=H
 exact WA.take rfl hq hs hi hf hr hl ⟨.inl ⟨by simp [Region.wanted],fun w=>by rw [he];simp [hx w]⟩,fun w=>zQM hc _ w⟩ (next x _ hk (hE.put hN _))
theorem zEL {s:Sem Next} {v:Value} (h:s=pn v) (w:World):s.run P w=.ok (.value v) w:=by rw [h];rfl
end
def CallV (P:Program) (v:Value) (args:List Value) (w:World) (R:Ending→World→Prop):Prop:=
 (∃ (f:FuncId) (us lb:List Value),v=.func (.func f) us.toArray lb.toArray∧Ent P f∧Cl P f (us++args++lb).toArray w R)∨
 (∃ l,v=.func (.yield l) #[] #[]∧YieldAt (FW none) 0 P l args.toArray w R)
section
variable {ro:Option Nat} {P:Program} {ops:Array Oper} {Q:Exit→Act→World→Prop} {ds:List Deferred} {N:Nat} {E:Env} {a:Act} {w:World} {rest:List Oper}
theorem zSB {o:Oper} (hg:o.guard=none) (hnd:∀ c,o.op≠.defer c) {l:Nat} {f:FuncId} {tmps:Array Value} {asg body:Code} (hr:(execOp a.eval o).run P w=.ok (.round l f tmps asg body) w)
  {R:Ending→World→Prop} (hc:RoundIn (FW none) 0 P l f tmps asg body w R)
  (h:∀ e w'',R e w''→∃ v,e=.returned v∧WL ro P ops Q rest (a.put o.dst v) w''):WL ro P ops Q (o::rest) a w:=by
 unfold WL wpListIn
 rw [if_pos (by simp [Region.wanted,hg])]
 refine ⟨fun _ _=>trivial,?_⟩
 rw [Oper.semAt_eq _ _ _ hnd,hr,Oper.uponIn_round]
 refine ⟨fun h=>by simp [FW,Fence.wide] at h,?_⟩
 have hc':RoundIn (FW ro) 0 P l f tmps asg body w R:=hc
 refine RoundIn.mono hc' fun e w'' hR=>?_
 obtain ⟨v,rfl,hv⟩:=h e w'' hR
 exact hv
theorem zRU (hE:Sat ds N E a) {P:Program} {w:World} {x:Operand} {xs:List Operand} {vs ts} {l:Nat} {f:FuncId} {tmps:Array Value} {asg body:Code} {d:Option Tmp} {ty:TypeId} {pos:String} {aft:Array Edge}
  (hx:ev E x=some (.func (.yield l) #[] #[])) (h:evL E xs=some vs) (hy:(Instr.yield l vs.toArray).run P w=.ok (.round l f tmps asg body) w):
  (execOp a.eval ⟨d,.call {callee:=.value x,args:=xs.toArray,argTypes:=ts},ty,pos,aft,none⟩).run P w=.ok (.round l f tmps asg body) w:=by
 rw [← hE.evA h] at hy
 have e:=hE.ev hx
 simpa [execOp,resolve,Deferred.ofValue,e,invoke] using hy
theorem Sat.callV (hE:Sat ds N E a) {x:Operand} {xs:List Operand} {v:Value} {vs:List Value} {ts} {R:Ending→World→Prop} {ty:TypeId} {pos:String} {aft:Array Edge} {d:Nat}
  (hx:Go.VB.ev E x=some v) (hxs:Go.VB.evL E xs=some vs) (H:CallV P v vs w R)
  (next:∀ e w',R e w'→∃ v,e=.returned v∧∀ a',Sat ds N ((d,v)::E) a'→WL ro P ops Q rest a' w')
  (hN:Nat.blt d N=true:=by rfl):WL ro P ops Q (⟨some d,.call {callee:=.value x,args:=xs.toArray,argTypes:=ts},ty,pos,aft,none⟩::rest) a w:=by
 rcases H with ⟨f,us,lb,rfl,he,hc⟩|⟨l,rfl,fn,tmps,asg,body,hy,hR⟩
 ·exact zQq rfl (by intro c h;cases h) (by have:=zQD hE (w:=w) (ts:=ts) (d:=some d) (ty:=ty) (pos:=pos) (aft:=aft) he hx hxs;simpa using this) hc fun e w' hR=>by
   obtain ⟨v,rfl,hv⟩:=next e w' hR
   exact ⟨v,rfl,hv _ (hE.put hN v)⟩
 ·exact zSB rfl (by intro c h;cases h) (zRU hE hx hxs hy) hR fun e w' hR=>by
   obtain ⟨v,rfl,hv⟩:=next e w' hR
   exact ⟨v,rfl,hv _ (hE.put hN v)⟩
end
theorem zRu (ro:Option Nat) (k:Nat):(FW ro).room k:=fun d h=>by simp [FW,Fence.wide] at h
theorem zNR {ro:Option Nat} {n m:Nat} {P:Program} {c:Code} {Q:Exit→Act→World→Prop} {a:Act} {w:World} (h:c.wpIn (FW ro) n P Q a w):c.wpIn (FW ro) m P Q a w:=
 fun b k cs h1 h2 _=>h b k cs h1 h2 (zRu ro _)
abbrev mark (D:Nat):Deferred:={target:=.collected D,args:=#[]}
def SeqAt {α:Type} (P:Program) (v:Value) (encs:α→List Value) (Kp:World→World→Prop) (S Sp:List α→Prop) (Num:Nat) (w:World):Prop:=
 ∃ (gf:FuncId) (lb:List Value),v=.func (.func gf) #[] lb.toArray∧Ent P gf∧SeqStopsK (FW none) 0 P gf lb.toArray (fun x=>(encs x).toArray) Kp S Sp Num w
structure zKo {α:Type} (P:Program) (v:Value) (encs:α→List Value) (Kp:World→World→Prop) (S Sp:List α→Prop) (Num:Nat) (I Ir:List α→World→Prop) (w:World):Prop where
 seq:SeqAt P v encs Kp S Sp Num w
 kt:∀ A B C:World,Kp A B→Kp B C→Kp A C
 kb:∀ (W:World) (l:Nat) (o o':Obj),w.heap.size≤l→W.heap[l]?=some o→o.isCells=false→o.isWalk=false→Kp W (W.putObj l o')
 ka:∀ pre (W:World) (o:Obj),I pre W→Kp W (W.alloc o)
 own:OwnFrom w.heap.size I
 ownr:OwnFrom w.heap.size Ir
 lo:∀ pre W,I pre W→w.heap.size≤W.heap.size
 start:I [] w
def zQN (j:Option Code) (goes leave:World→Prop):Exit→Act→World→Prop
 |.normal,_,W=>goes W
 |.ret,_,W=>j=some .ret∧leave W
 |.exit id,_,W=>j=some (.exit id)∧leave W
 |_,_,_=>False
section
variable {P:Program} {Q:Exit→Act→World→Prop} {N:Nat} {E:Env} {a:Act} {w:World}
theorem zSF {τ:Type} (enc:τ→Value) (cells:τ→List Value) (j:Option Code) {g:Operand} {p s:Nat} {t:TypeId} {v:Value} {body:Code} {id:Nat} {ty ty':TypeId} {pos pos':String} {aft aft':Array Edge}
  {Kp:World→World→Prop} {S Sp:List τ→Prop} {Num:Nat} {I Ir:List τ→World→Prop}
  (hE:Sat [] N E a) (hg:ev E g=some v) (hR:zKo P v (fun x:τ=>[enc x]) Kp S Sp Num I Ir w)
  (hnew:∀ x W (k:Option Addr→World→Prop),k (some ⟨W.heap.size,0,none⟩) (W.alloc (.cells (cells x).toArray t))→opE P Value.pointer (Instr.alloc t true (.tuple #[])) W (fun p W=>opU P (Instr.storeAt t (.pointer p) (enc x)) W (k p)))
  (hp:Nat.blt p N=true) (hs:Nat.blt s N=true) (hsp:Nat.beq s p=false)
  (hbody:∀ (l:Nat) (pre:List τ) (x:τ) (Bx:Nat) (W:World) (a:Act),w.heap.size≤Bx→W.heap[Bx]?=some (.cells (cells x).toArray t)→I pre W→pre.length<Num→
   Sat [] N ((s,.pointer (some ⟨Bx,0,none⟩))::(p,enc x)::E) a→
   WC (some l) P body (zQN j (fun W'=>KeepsFrom w.heap.size W W'∧Kp W W'∧I (pre++[x]) W') (fun W'=>KeepsFrom w.heap.size W W'∧Ir (pre++[x]) W')) a W)
  (hdone:∀ (D:Nat) (xs:List τ) (W:World) (a:Act),w.heap.size≤D→S xs→I xs W→W.heap[D]?=some (.deferred (some []))→Sat [mark D] N E a→Q .normal a W)
  (hstop:∀ (D:Nat) (c:Code) (pre:List τ) (W:World) (a:Act),j=some c→w.heap.size≤D→Sp pre→Ir pre W→W.heap[D]?=some (.deferred (some []))→Sat [mark D] N E a→WC none P c Q a W):
  WC none P (.rangeFunc g #[p] (.region id [⟨some s,.alloc t,ty,pos,aft,none⟩,⟨none,.store t (.tmp s) (.tmp p),ty',pos',aft',none⟩].toArray false) body) Q a w:=by
 obtain ⟨gf,lb,rfl,he,hseq⟩:=hR.seq
 have hd:a.defers=[]:=hE.defs
 have hmk:∀ D,Sat [mark D] N E {a with defers:={target:=.collected D,args:=#[]}::a.defers}:=fun D=>⟨hE.size,hE.vals,by simp [hd]⟩
 refine zNR (n:=1) (wpIn_rangeFunc_ownH (F:=FW none) (n:=1) rfl (Nat.le_refl 1) (gf:=gf) (lb:=lb.toArray) (hE.ev hg) trivial he hseq (fun h1 h2=>hR.kt _ _ _ h1 h2) hR.kb (Go.RowKit.Below.refl _ _) (fun _=>rfl)
  I (fun c pre W=>j=some c∧Ir pre W) hR.own (fun c s A B row hs hg' hr=>⟨hs.1,hR.ownr s A B row hs.2 hg' hr⟩) hR.start
  (fun x a' W=>∃ Bx,w.heap.size≤Bx∧W.heap[Bx]?=some (.cells (cells x).toArray t)∧Sat [] N ((s,.pointer (some ⟨Bx,0,none⟩))::(p,enc x)::E) a')
  (fun x a' _ A B row hs hg' hr=>?_) ?_ ?_ ?_ ?_)
 ·obtain ⟨Bx,h1,h2,h3⟩:=hs
  refine ⟨Bx,h1,(hg'.block Bx (Array.getElem?_eq_some_iff.1 h2).1 (fun e=>?_)).trans h2,h3⟩
  obtain ⟨_,o,ho,hc⟩:=hr Bx e.symm
  rw [h2] at ho;cases ho;simp [Obj.isCells] at hc
 ·intro l pre x W K hI hK
  have hSat:Sat [] N ((p,enc x)::E) {tmps:=((#[p]:Array Tmp).zip #[enc x]).foldl (fun t (p,v)=>t.setIfInBounds p v) a.tmps,defers:=[]}:=by
   have:=Sat.put (⟨hE.size,hE.vals,rfl⟩:Sat [] N E {a with defers:=[]}) hp (enc x)
   simpa [Act.put] using this
  refine zAA (ro:=some l) ?_
  have hop:=hnew x W (fun q W1=>∃ Bx,q=some ⟨Bx,0,none⟩∧Bx=W.heap.size∧W1=W.alloc (.cells (cells x).toArray t)) ⟨_,rfl,rfl,rfl⟩
  refine hSat.val (enc:=Value.pointer) zEH (by intro c h;cases h) hs hop fun q W1 a1 hk hS1=>?_
  have hq:ev ((s,Value.pointer q)::(p,enc x)::E) (.tmp s)=some (.pointer q):=by
   show (bif Nat.beq s s then _ else _)=_
   simp
  have hq2:ev ((s,Value.pointer q)::(p,enc x)::E) (.tmp p)=some (enc x):=by
   show (bif Nat.beq s p then _ else _)=_
   rw [hsp]
   show (bif Nat.beq p p then _ else _)=_
   simp
  refine hS1.unit (zAM hS1 hq hq2) (by intro c h;cases h) hk fun W2 a2 hk2 hS2=>?_
  obtain ⟨Bx,rfl,rfl,rfl⟩:=hk2
  refine zAG (hK _ _ ((KeepsOthers.alloc _ _).from _) (hR.ka pre W _ hI) ?_ ⟨W.heap.size,hR.lo pre W hI,World.alloc_heap_new _ _,hS2⟩)
  exact hR.own.alloc _ hI
 ·rintro l pre x a' W hl _ hI ⟨Bx,h1,h2,h3⟩ hlen
  refine wpIn_mono (hbody l pre x Bx W a' h1 h2 hI hlen h3) fun e a3 W3 h=>?_
  cases e with
  |normal=>exact h
  |ret=>exact ⟨h.2.1,h.1,h.2.2⟩
  |exit id=>exact ⟨h.2.1,h.1,h.2.2⟩
  |goto t=>exact h.elim
  |panic ch=>exact h.elim
  |outgrown=>exact h.elim
 ·exact fun D xs W hD hS hI hK=>hdone D xs W _ hD hS hI hK (hmk D)
 ·exact fun D c pre W hD hS hI hK=>zNR (hstop D c pre W _ hI.1 hD hS hI.2 hK (hmk D))
def resV (P:Program) (E:Env) (w:World):List ResultVar→List Value→Prop
 |[],[]=>True
 |.tmp t::rs,v::vs=>lk E t=some v∧resV P E w rs vs
 |.cell b t::rs,v::vs=>(∃ ad,lk E b=some (.pointer (some ad))∧(loadVar t ad).run P w=.ok v w)∧resV P E w rs vs
 |_,_=>False
def tupOf:List Value→Value
 |[v]=>v
 |vs=>.tuple vs.toArray
def resF (a:Act):ResultVar→Sem Value
 |.tmp t=>Pure.pure (a.tmps.getD t undef)
 |.cell b t=>do loadVar t (← asAddr (a.tmps.getD b undef))
theorem zOl {ds:List Deferred} (hE:Sat ds N E a):∀ {rs:List ResultVar} {vs:List Value},resV P E w rs vs→(rs.mapM (resF a)).run P w=.ok vs w
 |[],[],_=>by simp
 |.tmp t::rs,v::vs,h=>by
  have h1:=hE.vals t v h.1
  simp only [List.mapM_cons,resF,h1,Sem.run_bind,Sem.run_pure,Result.andThen_ok,zOl hE h.2]
 |.cell b t::rs,v::vs,h=>by
  obtain ⟨⟨ad,h1,h2⟩,h3⟩:=h
  have h4:=hE.vals b _ h1
  simp [resF,h4,asAddr,h2,zOl hE h3]
theorem zK3 {ds:List Deferred} (hE:Sat ds N E a) {fn:Func} {rs:List ResultVar} {vs:List Value} (hr:fn.results=rs.toArray) (h:resV P E w rs vs):(results fn a.tmps).run P w=.ok (tupOf vs) w:=by
 have h1:=zOl hE h
 have h2:results fn a.tmps=(do let vs ← rs.toArray.mapM (resF a);pure (if h:vs.size=1 then vs[0] else .tuple vs)):=by
  unfold results;rw [hr];rfl
 rw [h2,List.mapM_toArray,map_eq_pure_bind]
 simp only [Sem.run_bind,h1,Result.andThen_ok,Sem.run_pure]
 congr 1
 match vs with
 |[]=>rfl
 |[v]=>rfl
 |v::v'::vs=>simp [tupOf]
theorem zNP {f:FuncId} {fn:Func} {c:Code} {args:List Value} {R:Ending→World→Prop} (N:Nat) (E:Env)
  (hf:P.funcs[f]?=some fn) (hb:fn.body=some c) (hN:fn.ntmps=N) (hle:Nat.ble args.length N=true)
  (hz:zipE 0 args=E)
  (h:∀ a,Sat [] N E a→WC none P c (bodyPostM (FW none) 0 P fn R) a w):Cl P f args.toArray w R:=by
 subst hN
 exact callsIn_of_wp_marks hf hb trivial (h _ (Sat.enter args.toArray (by simpa using hle) (by intro t v hv;rw [← hz] at hv;simpa using (zOc args 0 t v hv).2))) rfl
theorem zOs {fn:Func} {R:Ending→World→Prop} (hE:Sat [] N E a) {rs:List ResultVar} {vs:List Value} (hr:fn.results=rs.toArray) (hv:resV P E w rs vs) (h:R (.returned (tupOf vs)) w):bodyPost P fn R .ret a w:=
 ⟨hE.defs,_,zK3 hE hr hv,h⟩
theorem zNs {fn:Func} {R:Ending→World→Prop} (hE:Sat [] N E a) {rs:List ResultVar} {vs:List Value} (hr:fn.results=rs.toArray) (hv:resV P E w rs vs) (h:R (.returned (tupOf vs)) w):bodyPostM (FW none) 0 P fn R .ret a w:=by
 show LeavesInM _ _ _ _ _ _ a.defers _ _
 rw [hE.defs]
 exact ⟨_,zK3 hE hr hv,h⟩
def zRA (D:Nat) (w:World) (k:World→Prop):Prop:=w.heap[D]?=some (.deferred (some []))∧k (w.putObj D (.deferred none))
theorem zPU {fn:Func} {R:Ending→World→Prop} {D:Nat} (hE:Sat [mark D] N E a) {rs:List ResultVar} {vs:List Value} (hr:fn.results=rs.toArray) (hD:w.heap[D]?=some (.deferred (some []))) (hv:resV P E (w.putObj D (.deferred none)) rs vs) (h:R (.returned (tupOf vs)) (w.putObj D (.deferred none))):bodyPostM (FW none) 0 P fn R .ret a w:=by
 show LeavesInM _ _ _ _ _ _ a.defers _ _
 rw [hE.defs]
 exact ⟨by simp,.inl ⟨_,_,rfl,run_takeDeferred hD,⟨_,zK3 hE hr hv,h⟩⟩⟩
end
def opR {τ:Type} (P:Program) (enc:τ→Value) (t:TypeId) (p:Option Addr) (w:World) (k:τ→Prop):Prop:=∃ x ad,p=some ad∧(loadVar t ad).run P w=.ok (enc x) w∧k x
def zT8 {τ:Type} (P:Program) (v:Value) (enc:τ→Value) (t:TypeId) (w:World) (body:τ→Option Addr→World→(World→Prop)→(World→Prop)→Prop) (rest stop:Nat→World→Prop):Prop:=
 ∃ (cells:τ→List Value) (Kp:World→World→Prop) (S Sp:List τ→Prop) (Num:Nat) (I Ir:List τ→World→Prop),zKo P v (fun x:τ=>[enc x]) Kp S Sp Num I Ir w∧
  (∀ x W (k:Option Addr→World→Prop),k (some ⟨W.heap.size,0,none⟩) (W.alloc (.cells (cells x).toArray t))→opE P Value.pointer (Instr.alloc t true (.tuple #[])) W (fun p W=>opU P (Instr.storeAt t (.pointer p) (enc x)) W (k p)))∧
  (∀ pre x Bx W,w.heap.size≤Bx→W.heap[Bx]?=some (.cells (cells x).toArray t)→I pre W→pre.length<Num→
   body x (some ⟨Bx,0,none⟩) W (fun W'=>KeepsFrom w.heap.size W W'∧Kp W W'∧I (pre++[x]) W') (fun W'=>KeepsFrom w.heap.size W W'∧Ir (pre++[x]) W'))∧
  (∀ D xs W,w.heap.size≤D→S xs→I xs W→W.heap[D]?=some (.deferred (some []))→rest D W)∧
  (∀ D pre W,w.heap.size≤D→Sp pre→Ir pre W→W.heap[D]?=some (.deferred (some []))→stop D W)
section
variable {P:Program} {Q:Exit→Act→World→Prop} {N:Nat} {E:Env} {a:Act} {w:World}
end
def CallQ (P:Program) (v:Value) (args:List Value) (w:World) (x:Value):Prop:=
 ∃ (f:FuncId) (us lb:List Value),v=.func (.func f) us.toArray lb.toArray∧Ent P f∧∀ w',Bel w w'→Cl P f (us++args++lb).toArray w' (fun e w''=>e=.returned x∧Bel w' w'')
theorem Sat.qcallV {P:Program} {ops:Array Oper} {ds:List Deferred} {N:Nat} {E:Env} {a:Act} {w:World} {rest:List Oper} {K:Act→Prop} (hE:Sat ds N E a) {x:Operand} {xs:List Operand} {v u:Value} {vs:List Value} {ts} {ty:TypeId} {pos:String} {aft:Array Edge} {d:Nat}
  (hx:Go.VB.ev E x=some v) (hxs:Go.VB.evL E xs=some vs) (H:CallQ P v vs w u)
  (next:∀ a',Sat ds N ((d,u)::E) a'→WQ P ops w K rest a') (hN:Nat.blt d N=true:=by rfl):WQ P ops w K (⟨some d,.call {callee:=.value x,args:=xs.toArray,argTypes:=ts},ty,pos,aft,none⟩::rest) a:=by
 obtain ⟨f,us,lb,rfl,he,hc⟩:=H
 refine zSq rfl (fun w'=>?_) hc (next _ (hE.put hN u))
 have:=zQD hE (w:=w') (ts:=ts) (d:=some d) (ty:=ty) (pos:=pos) (aft:=aft) he hx hxs
 simpa using this
end Go.VB
set_option linter.unusedVariables false
set_option linter.unusedSimpArgs false
namespace Go.Proofs.YtealcoghiaeiiaaGreat.VG
open Go.VB Go.Proofs
structure zAD where
 Key:ByteArray
 Val:ByteArray
 Gone:Bool
abbrev zAD.cells (x:zAD):_root_.List Value:=[(.string x.Key),(.string x.Val),(.bool x.Gone)]
abbrev zAD.v (x:zAD):Value:=.agg (zAD.cells x).toArray
structure zAr where
 Kind:Int
 Tx:Int
 Key:ByteArray
 To:ByteArray
 Val:ByteArray
abbrev zAr.cells (x:zAr):_root_.List Value:=[(.int .u8 x.Kind),(.int .i64 x.Tx),(.string x.Key),(.string x.To),(.string x.Val)]
abbrev zAr.v (x:zAr):Value:=.agg (zAr.cells x).toArray
structure zAq where
 Why:Int
 Tx:Int
 Val:ByteArray
 Is:Bool
 Pairs:Sl
 Done:Sl
 Time:Int
abbrev zAq.cells (x:zAq):_root_.List Value:=[(.int .i64 x.Why),(.int .i64 x.Tx),(.string x.Val),(.bool x.Is),(Sl.v x.Pairs),(Sl.v x.Done),(.int .u64 x.Time)]
abbrev zAq.v (x:zAq):Value:=.agg (zAq.cells x).toArray
structure zGa where
 tx:Int
 steps:Sl
 seen:Sl
abbrev zGa.cells (x:zGa):_root_.List Value:=[(.int .i64 x.tx),(Sl.v x.steps),(Sl.v x.seen)]
abbrev zGa.v (x:zGa):Value:=.agg (zGa.cells x).toArray
structure zAE where
 Key:ByteArray
 Val:ByteArray
abbrev zAE.cells (x:zAE):_root_.List Value:=[(.string x.Key),(.string x.Val)]
abbrev zAE.v (x:zAE):Value:=.agg (zAE.cells x).toArray
structure zAH where
 List:Sl
 Low:Int
abbrev zAH.cells (x:zAH):_root_.List Value:=[(Sl.v x.List),(.int .u64 x.Low)]
abbrev zAH.v (x:zAH):Value:=.agg (zAH.cells x).toArray
structure zAB where
 Key:ByteArray
 At:Int
 Val:ByteArray
 Gone:Bool
abbrev zAB.cells (x:zAB):_root_.List Value:=[(.string x.Key),(.int .u64 x.At),(.string x.Val),(.bool x.Gone)]
abbrev zAB.v (x:zAB):Value:=.agg (zAB.cells x).toArray
structure zHH where
 versions:zAH
 now:Int
 given:Int
 open_:Option Nat
abbrev zHH.cells (x:zHH):_root_.List Value:=[(Sl.v x.versions.List),(.int .u64 x.versions.Low),(.int .u64 x.now),(.int .i64 x.given),(.map x.open_)]
abbrev zHH.v (x:zHH):Value:=.agg (zHH.cells x).toArray
structure zLB where
 began:Int
 reads:Sl
 writes:Option Nat
abbrev zLB.cells (x:zLB):_root_.List Value:=[(.int .u64 x.began),(Sl.v x.reads),(.map x.writes)]
abbrev zLB.v (x:zLB):Value:=.agg (zLB.cells x).toArray
structure zAm where
 from_:ByteArray
 to_:ByteArray
 only:Bool
abbrev zAm.cells (x:zAm):_root_.List Value:=[(.string x.from_),(.string x.to_),(.bool x.only)]
abbrev zAm.v (x:zAm):Value:=.agg (zAm.cells x).toArray
structure zKs where
abbrev zKs.cells (x:zKs):_root_.List Value:=[]
abbrev zKs.v (x:zKs):Value:=.agg (zKs.cells x).toArray
structure zFw where
 x:Int
 y:Int
 signed:Bool
 code:Int
abbrev zFw.cells (x:zFw):_root_.List Value:=[(.int .i64 x.x),(.int .i64 x.y),(.bool x.signed),(.int .u8 x.code)]
abbrev zFw.v (x:zFw):Value:=.agg (zFw.cells x).toArray
structure zES where
 msg:ByteArray
 addr:Int
abbrev zES.cells (x:zES):_root_.List Value:=[(.string x.msg),(.int .u64 x.addr)]
abbrev zES.v (x:zES):Value:=.agg (zES.cells x).toArray
structure zEm where
 typ:Option Addr
abbrev zEm.cells (x:zEm):_root_.List Value:=[(.pointer x.typ)]
abbrev zEm.v (x:zEm):Value:=.agg (zEm.cells x).toArray
abbrev zLD:FuncId:=6
abbrev zLv:FuncId:=10
abbrev zQf:FuncId:=11
abbrev zKF:FuncId:=12
abbrev zJz:FuncId:=13
abbrev zKh:FuncId:=14
abbrev zJ5:FuncId:=15
abbrev zKU:FuncId:=17
abbrev zMt:FuncId:=19
abbrev zKg:FuncId:=22
abbrev zKj:FuncId:=28
abbrev zKG:FuncId:=29
abbrev zMj:FuncId:=31
abbrev zHm:FuncId:=33
abbrev zNF:FuncId:=34
abbrev zGq:FuncId:=35
abbrev zMv:FuncId:=36
abbrev zKS:FuncId:=37
abbrev zKt:FuncId:=38
abbrev zNI:FuncId:=39
abbrev zPR:FuncId:=40
abbrev zOw:FuncId:=42
abbrev zIT:FuncId:=43
abbrev zJ7:FuncId:=44
abbrev zNx:FuncId:=45
abbrev zIr:FuncId:=46
abbrev zH3:FuncId:=47
abbrev zLY:FuncId:=48
abbrev zPh:FuncId:=51
abbrev zH9:FuncId:=52
abbrev zIY:FuncId:=55
abbrev zOH:FuncId:=56
abbrev zE7:FuncId:=57
abbrev zIW:FuncId:=58
abbrev zHl:FuncId:=59
abbrev zHh:FuncId:=60
abbrev zGI:FuncId:=62
abbrev zJX:FuncId:=63
abbrev zOk:FuncId:=64
abbrev zOT:FuncId:=65
abbrev zMO:FuncId:=66
abbrev zHL:FuncId:=67
abbrev zIM:FuncId:=68
abbrev zOQ:FuncId:=69
abbrev zO1:FuncId:=70
abbrev zPC:FuncId:=71
abbrev zJS:FuncId:=72
abbrev zPk:FuncId:=73
abbrev zKX:FuncId:=80
abbrev zIU:FuncId:=81
abbrev zEM:FuncId:=82
abbrev zHN:FuncId:=83
abbrev zKV:FuncId:=84
abbrev zIo:FuncId:=85
abbrev zOZ:FuncId:=86
abbrev zLh:FuncId:=87
abbrev zLy:FuncId:=88
abbrev zFb:FuncId:=89
abbrev zHz:FuncId:=90
abbrev zJP:FuncId:=91
abbrev zHy:FuncId:=92
abbrev zIc:FuncId:=93
abbrev zIV:FuncId:=94
abbrev zGo:FuncId:=95
abbrev zHu:FuncId:=96
abbrev zI9:FuncId:=97
abbrev zOm:FuncId:=99
abbrev zJQ:FuncId:=103
abbrev zHR:FuncId:=105
abbrev zIi:FuncId:=106
abbrev zHK:FuncId:=107
abbrev zHs:FuncId:=108
abbrev zHX:FuncId:=109
abbrev zGT:FuncId:=110
abbrev zHG:FuncId:=111
abbrev zIQ:FuncId:=112
abbrev zJR:FuncId:=114
abbrev zKr:FuncId:=115
abbrev zK5:FuncId:=116
abbrev zHq:FuncId:=117
abbrev zJk:FuncId:=118
abbrev zHi:FuncId:=128
abbrev zI7:FuncId:=129
abbrev zHp:FuncId:=130
abbrev zIP:FuncId:=131
abbrev zH5:FuncId:=132
abbrev zGd:FuncId:=133
abbrev zHY:FuncId:=134
abbrev zIn:FuncId:=135
abbrev zIj:FuncId:=136
abbrev zHC:FuncId:=137
abbrev zJG:FuncId:=138
abbrev zJj:FuncId:=139
abbrev zJH:FuncId:=144
abbrev zHW:FuncId:=145
abbrev zJV:FuncId:=146
abbrev zI4:FuncId:=147
abbrev zJg:FuncId:=149
theorem ent10:Ent Tryz.prog 10:=Ent.of Tryz.func10 (by rfl) (by rfl)
theorem ent11:Ent Tryz.prog 11:=Ent.of Tryz.func11 (by rfl) (by rfl)
theorem ent12:Ent Tryz.prog 12:=Ent.of Tryz.func12 (by rfl) (by rfl)
theorem ent13:Ent Tryz.prog 13:=Ent.of Tryz.func13 (by rfl) (by rfl)
theorem ent14:Ent Tryz.prog 14:=Ent.of Tryz.func14 (by rfl) (by rfl)
theorem ent15:Ent Tryz.prog 15:=Ent.of Tryz.func15 (by rfl) (by rfl)
theorem ent17:Ent Tryz.prog 17:=Ent.of Tryz.func17 (by rfl) (by rfl)
theorem ent19:Ent Tryz.prog 19:=Ent.of Tryz.func19 (by rfl) (by rfl)
theorem ent22:Ent Tryz.prog 22:=Ent.of Tryz.func22 (by rfl) (by rfl)
theorem ent28:Ent Tryz.prog 28:=Ent.of Tryz.func28 (by rfl) (by rfl)
theorem ent29:Ent Tryz.prog 29:=Ent.of Tryz.func29 (by rfl) (by rfl)
theorem ent31:Ent Tryz.prog 31:=Ent.of Tryz.func31 (by rfl) (by rfl)
theorem ent33:Ent Tryz.prog 33:=Ent.of Tryz.func33 (by rfl) (by rfl)
theorem ent34:Ent Tryz.prog 34:=Ent.of Tryz.func34 (by rfl) (by rfl)
theorem ent35:Ent Tryz.prog 35:=Ent.of Tryz.func35 (by rfl) (by rfl)
theorem ent36:Ent Tryz.prog 36:=Ent.of Tryz.func36 (by rfl) (by rfl)
theorem ent37:Ent Tryz.prog 37:=Ent.of Tryz.func37 (by rfl) (by rfl)
theorem ent38:Ent Tryz.prog 38:=Ent.of Tryz.func38 (by rfl) (by rfl)
theorem ent39:Ent Tryz.prog 39:=Ent.of Tryz.func39 (by rfl) (by rfl)
theorem ent40:Ent Tryz.prog 40:=Ent.of Tryz.func40 (by rfl) (by rfl)
theorem ent42:Ent Tryz.prog 42:=Ent.of Tryz.func42 (by rfl) (by rfl)
theorem ent43:Ent Tryz.prog 43:=Ent.of Tryz.func43 (by rfl) (by rfl)
theorem ent44:Ent Tryz.prog 44:=Ent.of Tryz.func44 (by rfl) (by rfl)
theorem ent45:Ent Tryz.prog 45:=Ent.of Tryz.func45 (by rfl) (by rfl)
theorem ent46:Ent Tryz.prog 46:=Ent.of Tryz.func46 (by rfl) (by rfl)
theorem ent47:Ent Tryz.prog 47:=Ent.of Tryz.func47 (by rfl) (by rfl)
theorem ent48:Ent Tryz.prog 48:=Ent.of Tryz.func48 (by rfl) (by rfl)
theorem ent51:Ent Tryz.prog 51:=Ent.of Tryz.func51 (by rfl) (by rfl)
theorem ent52:Ent Tryz.prog 52:=Ent.of Tryz.func52 (by rfl) (by rfl)
theorem ent55:Ent Tryz.prog 55:=Ent.of Tryz.func55 (by rfl) (by rfl)
theorem ent56:Ent Tryz.prog 56:=Ent.of Tryz.func56 (by rfl) (by rfl)
theorem ent57:Ent Tryz.prog 57:=Ent.of Tryz.func57 (by rfl) (by rfl)
theorem ent58:Ent Tryz.prog 58:=Ent.of Tryz.func58 (by rfl) (by rfl)
theorem ent59:Ent Tryz.prog 59:=Ent.of Tryz.func59 (by rfl) (by rfl)
theorem ent60:Ent Tryz.prog 60:=Ent.of Tryz.func60 (by rfl) (by rfl)
theorem ent61:Ent Tryz.prog 61:=Ent.of Tryz.func61 (by rfl) (by rfl)
theorem ent62:Ent Tryz.prog 62:=Ent.of Tryz.func62 (by rfl) (by rfl)
theorem ent63:Ent Tryz.prog 63:=Ent.of Tryz.func63 (by rfl) (by rfl)
theorem ent64:Ent Tryz.prog 64:=Ent.of Tryz.func64 (by rfl) (by rfl)
theorem ent65:Ent Tryz.prog 65:=Ent.of Tryz.func65 (by rfl) (by rfl)
theorem ent66:Ent Tryz.prog 66:=Ent.of Tryz.func66 (by rfl) (by rfl)
theorem ent67:Ent Tryz.prog 67:=Ent.of Tryz.func67 (by rfl) (by rfl)
theorem ent68:Ent Tryz.prog 68:=Ent.of Tryz.func68 (by rfl) (by rfl)
theorem ent69:Ent Tryz.prog 69:=Ent.of Tryz.func69 (by rfl) (by rfl)
theorem ent70:Ent Tryz.prog 70:=Ent.of Tryz.func70 (by rfl) (by rfl)
theorem ent71:Ent Tryz.prog 71:=Ent.of Tryz.func71 (by rfl) (by rfl)
theorem ent72:Ent Tryz.prog 72:=Ent.of Tryz.func72 (by rfl) (by rfl)
theorem ent73:Ent Tryz.prog 73:=Ent.of Tryz.func73 (by rfl) (by rfl)
theorem ent74:Ent Tryz.prog 74:=Ent.of Tryz.func74 (by rfl) (by rfl)
theorem ent78:Ent Tryz.prog 78:=Ent.of Tryz.func78 (by rfl) (by rfl)
theorem ent79:Ent Tryz.prog 79:=Ent.of Tryz.func79 (by rfl) (by rfl)
theorem ent80:Ent Tryz.prog 80:=Ent.of Tryz.func80 (by rfl) (by rfl)
theorem ent81:Ent Tryz.prog 81:=Ent.of Tryz.func81 (by rfl) (by rfl)
theorem ent82:Ent Tryz.prog 82:=Ent.of Tryz.func82 (by rfl) (by rfl)
theorem ent83:Ent Tryz.prog 83:=Ent.of Tryz.func83 (by rfl) (by rfl)
theorem ent84:Ent Tryz.prog 84:=Ent.of Tryz.func84 (by rfl) (by rfl)
theorem ent85:Ent Tryz.prog 85:=Ent.of Tryz.func85 (by rfl) (by rfl)
theorem ent86:Ent Tryz.prog 86:=Ent.of Tryz.func86 (by rfl) (by rfl)
theorem ent87:Ent Tryz.prog 87:=Ent.of Tryz.func87 (by rfl) (by rfl)
theorem ent88:Ent Tryz.prog 88:=Ent.of Tryz.func88 (by rfl) (by rfl)
theorem ent89:Ent Tryz.prog 89:=Ent.of Tryz.func89 (by rfl) (by rfl)
theorem ent90:Ent Tryz.prog 90:=Ent.of Tryz.func90 (by rfl) (by rfl)
theorem ent91:Ent Tryz.prog 91:=Ent.of Tryz.func91 (by rfl) (by rfl)
theorem ent92:Ent Tryz.prog 92:=Ent.of Tryz.func92 (by rfl) (by rfl)
theorem ent93:Ent Tryz.prog 93:=Ent.of Tryz.func93 (by rfl) (by rfl)
theorem ent94:Ent Tryz.prog 94:=Ent.of Tryz.func94 (by rfl) (by rfl)
theorem ent95:Ent Tryz.prog 95:=Ent.of Tryz.func95 (by rfl) (by rfl)
theorem ent96:Ent Tryz.prog 96:=Ent.of Tryz.func96 (by rfl) (by rfl)
theorem ent97:Ent Tryz.prog 97:=Ent.of Tryz.func97 (by rfl) (by rfl)
theorem ent99:Ent Tryz.prog 99:=Ent.of Tryz.func99 (by rfl) (by rfl)
theorem zUA:Ent Tryz.prog 102:=Ent.of Tryz.func102 (by rfl) (by rfl)
theorem zRQ:Ent Tryz.prog 103:=Ent.of Tryz.func103 (by rfl) (by rfl)
theorem zT9:Ent Tryz.prog 104:=Ent.of Tryz.func104 (by rfl) (by rfl)
theorem zT6:Ent Tryz.prog 105:=Ent.of Tryz.func105 (by rfl) (by rfl)
theorem zTu:Ent Tryz.prog 106:=Ent.of Tryz.func106 (by rfl) (by rfl)
theorem zTs:Ent Tryz.prog 107:=Ent.of Tryz.func107 (by rfl) (by rfl)
theorem zT1:Ent Tryz.prog 108:=Ent.of Tryz.func108 (by rfl) (by rfl)
theorem zTj:Ent Tryz.prog 109:=Ent.of Tryz.func109 (by rfl) (by rfl)
theorem zUH:Ent Tryz.prog 110:=Ent.of Tryz.func110 (by rfl) (by rfl)
theorem zTm:Ent Tryz.prog 111:=Ent.of Tryz.func111 (by rfl) (by rfl)
theorem zTk:Ent Tryz.prog 112:=Ent.of Tryz.func112 (by rfl) (by rfl)
theorem zSo:Ent Tryz.prog 113:=Ent.of Tryz.func113 (by rfl) (by rfl)
theorem zSn:Ent Tryz.prog 114:=Ent.of Tryz.func114 (by rfl) (by rfl)
theorem zRh:Ent Tryz.prog 115:=Ent.of Tryz.func115 (by rfl) (by rfl)
theorem zRE:Ent Tryz.prog 116:=Ent.of Tryz.func116 (by rfl) (by rfl)
theorem zQ8:Ent Tryz.prog 117:=Ent.of Tryz.func117 (by rfl) (by rfl)
theorem zSl:Ent Tryz.prog 118:=Ent.of Tryz.func118 (by rfl) (by rfl)
theorem zT5:Ent Tryz.prog 128:=Ent.of Tryz.func128 (by rfl) (by rfl)
theorem zTl:Ent Tryz.prog 129:=Ent.of Tryz.func129 (by rfl) (by rfl)
theorem zTv:Ent Tryz.prog 130:=Ent.of Tryz.func130 (by rfl) (by rfl)
theorem zTq:Ent Tryz.prog 131:=Ent.of Tryz.func131 (by rfl) (by rfl)
theorem zTx:Ent Tryz.prog 132:=Ent.of Tryz.func132 (by rfl) (by rfl)
theorem zT0:Ent Tryz.prog 133:=Ent.of Tryz.func133 (by rfl) (by rfl)
theorem zUC:Ent Tryz.prog 134:=Ent.of Tryz.func134 (by rfl) (by rfl)
theorem zT7:Ent Tryz.prog 135:=Ent.of Tryz.func135 (by rfl) (by rfl)
theorem zSk:Ent Tryz.prog 136:=Ent.of Tryz.func136 (by rfl) (by rfl)
theorem zRM:Ent Tryz.prog 137:=Ent.of Tryz.func137 (by rfl) (by rfl)
theorem zSh:Ent Tryz.prog 138:=Ent.of Tryz.func138 (by rfl) (by rfl)
theorem zRk:Ent Tryz.prog 139:=Ent.of Tryz.func139 (by rfl) (by rfl)
theorem zSp:Ent Tryz.prog 144:=Ent.of Tryz.func144 (by rfl) (by rfl)
theorem zQn:Ent Tryz.prog 145:=Ent.of Tryz.func145 (by rfl) (by rfl)
theorem zSg:Ent Tryz.prog 146:=Ent.of Tryz.func146 (by rfl) (by rfl)
theorem zRP:Ent Tryz.prog 147:=Ent.of Tryz.func147 (by rfl) (by rfl)
theorem zRl:Ent Tryz.prog 149:=Ent.of Tryz.func149 (by rfl) (by rfl)
end Go.Proofs.YtealcoghiaeiiaaGreat.VG
set_option linter.unusedVariables false
set_option linter.unusedSimpArgs false
namespace Go.VB
section
variable {P:Program} {ops:Array Oper} {Q:Exit→Act→World→Prop} {fin:Option Nat} {C:World→Prop} {fuel:Nat} {listed l2 l3:Array Bool} {a:Act} {w:World}
def WK (fin:Option Nat) (C:World→Prop) (P:Program) (ops:Array Oper) (Q:Exit→Act→World→Prop):Nat→Array Bool→Act→World→Prop
 |0,listed,a,w=>Region.ready .any ops listed=[]∧Q .normal a w
 |fuel+1,listed,a,w=>(Region.ready .any ops listed=[]→Q .normal a w)∧∀ i∈Region.ready .any ops listed,
   wpOpIn (FW none) 0 P ops Q i (fun a' w'=>(fin=some i∨C w')∧WK fin C P ops Q fuel (listed.setIfInBounds i true) a' w') a w
def zP7 (ops:Array Oper) (i:Nat):List Nat:=(List.range ops.size).foldl (fun U u=>if u==i||(match ops[u]? with
 |some o=>o.after.toList.any fun e=>Region.binds .any e&&U.contains e.on
 |none=>false) then u::U else U) []
def finOk (fin:Option Nat) (ops:Array Oper) (listed:Array Bool) (i:Nat):Bool:=match fin with
 |none=>true
 |some f=>(zP7 ops i).contains f&&(zP7 ops i).all fun u=>(listed.getD u true==false)&&(u==i||(match ops[u]? with
  |some o=>o.after.toList.any fun e=>Region.binds .any e&&(zP7 ops i).contains e.on
  |none=>false))
def FinOk (fin:Option Nat) (ops:Array Oper) (listed:Array Bool) (i:Nat):Prop:=∀ f,fin=some f→∃ U:List Nat,f∈U∧(∀ u∈U,listed.getD u true=false)∧∀ u∈U,u=i∨∃ o,ops[u]?=some o∧∃ e∈o.after,Region.binds .any e=true∧e.on∈U
theorem zQX {fin:Option Nat} {ops:Array Oper} {listed:Array Bool} {i:Nat} (h:finOk fin ops listed i=true):FinOk fin ops listed i:=by
 intro f hf
 subst hf
 unfold finOk at h
 simp only [Bool.and_eq_true,List.all_eq_true,List.contains_iff_mem,Bool.or_eq_true,beq_iff_eq] at h
 refine ⟨zP7 ops i,h.1,fun u hu=>(h.2 u hu).1,fun u hu=>?_⟩
 rcases (h.2 u hu).2 with h1|h1
 ·exact .inl h1
 ·right
  cases ho:ops[u]? with
  |none=>rw [ho] at h1;cases h1
  |some o=>
   rw [ho] at h1
   simp only [List.any_eq_true,Bool.and_eq_true,List.contains_iff_mem] at h1
   obtain ⟨e,he,h2,h3⟩:=h1
   exact ⟨o,rfl,e,by simpa using he,h2,h3⟩
theorem WK.any:∀ (fuel:Nat) (listed:Array Bool) (a:Act) (w:World),WK fin C P ops Q fuel listed a w→WA P ops Q fuel listed a w
 |0,_,_,_,h=>h
 |fuel+1,_,_,_,h=>⟨h.1,fun i hi=>wpOpIn_mono (fun a' w' h'=>WK.any fuel _ a' w' h'.2) (h.2 i hi)⟩
theorem zSf {i:Nat} {o:Oper} {K:Act→World→Prop} (hi:ops[i]?=some o) (h:wpOpIn (FW none) 0 P ops Q i K a w):
  wpOpIn (FW none) 0 P ops Q i (fun a' w'=>(∃ u ds,a'={a.put o.dst u with defers:=ds})∧K a' w') a w:=by
 have sh:∀ u,∃ u' ds,a.put o.dst u={a.put o.dst u' with defers:=ds}:=fun u=>⟨u,(a.put o.dst u).defers,rfl⟩
 unfold wpOpIn at*
 simp only [hi] at*
 split
 ·rename_i hw
  rw [if_pos hw] at h
  unfold Oper.wpIn at*
  refine ⟨h.1,?_⟩
  have h2:=h.2
  generalize (o.semAt (FW none).round a.eval).run P w=r at h2 ⊢
  cases r with
  |halt x w'=>cases x<;>exact h2
  |ok x w'=>
   cases x with
   |value u=>exact ⟨sh u,h2⟩
   |skip=>exact ⟨sh _,h2⟩
   |defer d=>exact ⟨⟨undef,d::a.defers,by cases hd:o.dst<;>rfl⟩,h2⟩
   |enter f args=>exact ⟨h2.1,CallsIn.mono h2.2 fun e w'' he=>by cases e<;>first|exact ⟨sh _,he⟩|exact he⟩
   |row r args=>exact ⟨h2.1,RowsIn.mono h2.2 fun u w'' he=>⟨sh u,he⟩⟩
   |round l f ts as_ bd=>exact ⟨h2.1,RoundIn.mono h2.2 fun e w'' he=>by cases e<;>first|exact ⟨sh _,he⟩|exact he⟩
   |_=>exact h2
 ·rename_i hw
  rw [if_neg hw] at h
  exact ⟨h.1,sh _,h.2⟩
structure Looks (C:World→Prop) (P:Program) (o:Oper) (v:Value) (a:Act):Prop where
 run:∀ w,C w→(execOp a.eval o).run P w=.ok (.value v) w
theorem Looks.same {o:Oper} {v:Value} {a a':Act} (h:Looks C P o v a) (he:execOp a'.eval o=execOp a.eval o):Looks C P o v a':=⟨fun w hw=>by rw [he];exact h.run w hw⟩
theorem Looks.op {i:Nat} {o:Oper} {v:Value} (hi:ops[i]?=some o) (hg:o.guard=none) (h:Looks C P o v a) (hw:C w) {K:Act→World→Prop} (hK:K (a.put o.dst v) w):wpOpIn (FW none) 0 P ops Q i K a w:=by
 unfold wpOpIn
 simp only [hi]
 rw [if_pos (by simp [Region.wanted,hg])]
 unfold Oper.wpIn
 refine ⟨fun _ _=>trivial,?_⟩
 rw [show (FW none).round=none from rfl,Oper.semAt_none,h.run w hw]
 exact hK
theorem moved {oi oj:Oper} {v:Value} {j:Nat} (hj:ops[j]?=some oj) (hap:oi.apart ops oj=true) (hsi:∀ cs b,oi.op≠.select cs b) (hsj:∀ cs b,oj.op≠.select cs b)
  (hQ:∀ c a w,Q (.panic c) (a.put oi.dst v) w→Q (.panic c) a w) {K:Act→World→Prop} (hL:Looks C P oi v a) (h:wpOpIn (FW none) 0 P ops Q j K (a.put oi.dst v) w):
  wpOpIn (FW none) 0 P ops Q j (fun a' w'=>Looks C P oi v a'∧K (a'.put oi.dst v) w') a w:=by
 obtain ⟨h1,h2,h3⟩:=Oper.apart_spec hap
 have hfake:Oper.apart ops {oi with op:=.move (.const v),guard:=none} oj=true:=by
  unfold Oper.apart
  simp only [Bool.and_eq_true]
  refine ⟨?_,?_⟩
  ·cases hd:oi.dst with
   |none=>rfl
   |some d=>simpa [hd] using ⟨h1 d hd,h2 d hd⟩
  ·cases hd:oj.dst with
   |none=>rfl
   |some d=>simp [Oper.looksAt,Op.operands]
 have h4:=wpOpIn_put (oi:={oi with op:=.move (.const v),guard:=none}) (F:=FW none) rfl hj hfake (by intro cs b h;cases h) hsj hQ (a:=a) (w:=w) (K:=K)
  ⟨.inl ⟨by simp [Region.wanted],fun w=>rfl⟩,fun w=>rfl⟩ h
 refine wpOpIn_mono (fun a' w' hh=>?_) (zSf hj h4)
 obtain ⟨⟨u,ds,rfl⟩,_,hk⟩:=hh
 exact ⟨hL.same (execOp_put oi hsi a oj.dst u h3),hk⟩
theorem WK.first {i:Nat} {oi:Oper} {v:Value} (hi:ops[i]?=some oi) (hg:oi.guard=none) (hs:∀ (j:Nat) (o:Oper) cs b,ops[j]?=some o→o.op≠.select cs b)
  (hQ:∀ c a w,Q (.panic c) (a.put oi.dst v) w→Q (.panic c) a w):∀ (fuel:Nat) (listed:Array Bool) (a:Act) (w:World),
  (∀ j oj,ops[j]?=some oj→j≠i→listed.getD j true=false→(∀ e∈oj.after,Region.binds .any e=true→e.on≠i)→oi.apart ops oj=true)→
  FinOk fin ops listed i→i∈Region.ready .any ops listed→Looks C P oi v a→C w→WK fin C P ops Q fuel (listed.setIfInBounds i true) (a.put oi.dst v) w→WK fin C P ops Q (fuel+1) listed a w:=by
 intro fuel
 induction fuel with
 |zero=>
  intro listed a w _ hF hr hL hw H
  refine ⟨fun h=>(by rw [h] at hr;cases hr),fun j hj=>?_⟩
  by_cases hji:j=i
  ·subst hji;exact hL.op hi hg hw ⟨.inr hw,H⟩
  ·have h1:=ready_mono hj hji
   rw [H.1] at h1;cases h1
 |succ fuel ih=>
  intro listed a w hfree hF hr hL hw H
  refine ⟨fun h=>(by rw [h] at hr;cases hr),fun j hj=>?_⟩
  by_cases hji:j=i
  ·subst hji;exact hL.op hi hg hw ⟨.inr hw,H⟩
  obtain ⟨hjun,oj,hoj,hall⟩:=mem_ready.1 hj
  have hi0:=(mem_ready.1 hr).1
  have hnot:∀ e∈oj.after,Region.binds .any e=true→e.on≠i:=fun e he hb heq=>by
   have h1:=hall e he hb
   rw [heq] at h1
   rcases Nat.lt_or_ge i listed.size with h'|h'
   ·simp [h'] at hi0 h1;rw [hi0] at h1;cases h1
   ·simp [Array.getElem?_eq_none h'] at h1
  have h2:=moved hoj (hfree j oj hoj hji hjun hnot) (fun cs b=>hs i oi cs b hi) (fun cs b=>hs j oj cs b hoj) hQ hL (H.2 j (ready_mono hj hji))
  refine wpOpIn_mono (fun a' w' h3=>?_) h2
  obtain ⟨hL',hC',hK'⟩:=h3
  have hri:i∈Region.ready .any ops (listed.setIfInBounds j true):=ready_mono hr (Ne.symm hji)
  rw [Array.setIfInBounds_comm _ _ (Ne.symm hji)] at hK'
  have hjU:∀ U:List Nat,(∀ u∈U,listed.getD u true=false)→(∀ u∈U,u=i∨∃ o,ops[u]?=some o∧∃ e∈o.after,Region.binds .any e=true∧e.on∈U)→j∉U:=fun U h1 h2 hj=>by
   rcases h2 j hj with h3|⟨o,h3,e,h4,h5,h6⟩
   ·exact hji h3
   ·rw [hoj] at h3;cases h3
    have h7:=hall e h4 h5
    have h8:=h1 _ h6
    rw [Array.getD_eq_getD_getElem?] at h8
    rcases Nat.lt_or_ge e.on listed.size with h'|h'
    ·simp [h'] at h7 h8;rw [h8] at h7;cases h7
    ·simp [Array.getElem?_eq_none h'] at h8
  replace hC':C w':=by
   rcases hC' with h|h
   ·obtain ⟨U,h1,h2,h3⟩:=hF j h
    exact absurd h1 (hjU U h2 h3)
   ·exact h
  have hF':FinOk fin ops (listed.setIfInBounds j true) i:=fun f hf=>by
   obtain ⟨U,h1,h2,h3⟩:=hF f hf
   refine ⟨U,h1,fun u hu=>?_,h3⟩
   have h4:j≠u:=fun e=>hjU U h2 h3 (e ▸ hu)
   rw [getD_set_ne true h4];exact h2 u hu
  refine ⟨.inr hC',ih _ a' w' (fun k ok hk hki hun hno=>hfree k ok hk hki ?_ hno) hF' hri hL' hC' hK'⟩
  by_cases hjk:j=k
  ·subst hjk;exact hjun
  ·rw [getD_set_ne true hjk] at hun;exact hun
end
section
variable {P:Program} {ops:Array Oper} {ds:List Deferred} {N:Nat} {E:Env} {a:Act} {w:World} {Q:Exit→Act→World→Prop} {fuel:Nat} {listed l2 l3:Array Bool} {fin:Option Nat} {C:World→Prop}
def opC {τ:Type} (C:World→Prop) (P:Program) (enc:τ→Value) (s:Sem Value) (k:τ→Prop):Prop:=∃ x,(∀ w,C w→s.run P w=.ok (enc x) w)∧k x
def regC (w:World) (k:(World→Prop)→World→Prop):Prop:=∃ C:World→Prop,∀ w',Bel w w'→C w'∧k C w'
theorem zUN {id:Nat} {l:List Oper} {k:(World→Prop)→World→Prop} (H:regC w k) (n:Nat) (l2:Array Bool) (hm:P.follows .mixedOrders=true)
  (h:∀ C w',C w'→k C w'→WK none C P l.toArray Q n l2 a w') (hn:l.toArray.size=n:=by rfl) (hl:Array.replicate n false=l2:=by rfl):WC none P (.region id l.toArray true) Q a w:=by
 subst hn;subst hl
 obtain ⟨C,hC⟩:=H
 obtain ⟨h1,h2⟩:=hC _ (Bel.draw w)
 exact wpIn_region_any hm (WK.any _ _ _ _ (h C _ h1 h2))
theorem zTy (fin:Option Nat) {id:Nat} {l:List Oper} {k:(World→Prop)→World→Prop} (H:regC w k) (n:Nat) (l2:Array Bool) (hm:P.follows .mixedOrders=true)
  (h:∀ C w',C w'→k C w'→WK fin C P l.toArray Q n l2 a w') (hn:l.toArray.size=n:=by rfl) (hl:Array.replicate n false=l2:=by rfl):WC none P (.region id l.toArray true) Q a w:=by
 subst hn;subst hl
 obtain ⟨C,hC⟩:=H
 obtain ⟨h1,h2⟩:=hC _ (Bel.draw w)
 exact wpIn_region_any hm (WK.any _ _ _ _ (h C _ h1 h2))
theorem WK.take {i d:Nat} {o:Oper} {v:Value} (hd:o.dst=some d) (hg:o.guard=none) (hq:zL1 Q) (hs:Region.noSelect ops=true) (hi:ops[i]?=some o) (hf:Region.free .any ops listed i=true) (hr:(Region.ready .any ops listed).contains i=true)
  (hl:listed.setIfInBounds i true=l2) (hC:C w) (hL:Looks C P o v a) (h:WK fin C P ops Q fuel l2 (a.put o.dst v) w) (hF:finOk fin ops listed i=true):WK fin C P ops Q (fuel+1) listed a w:=by
 subst hl
 exact WK.first hi hg (Region.noSelect_spec hs) (fun c a w=>by rw [hd];exact hq c a w d v) fuel listed a w (Region.free_spec hi hf) (zQX hF) (by simpa using hr) hL hC h
theorem WK.nil (hr:Region.ready .any ops listed=[]) (h:Q .normal a w):WK fin C P ops Q fuel listed a w:=by
 cases fuel with
 |zero=>exact ⟨hr,h⟩
 |succ f=>exact ⟨fun _=>h,by rw [hr];simp⟩
theorem wo_op {i:Nat} {o:Oper} {K:Act→World→Prop} (hi:ops[i]?=some o) (h:WO P ops Q o K a w):wpOpIn (FW none) 0 P ops Q i K a w:=by
 unfold wpOpIn
 simp only [hi]
 unfold WO at h
 split
 ·rename_i hw;rw [if_pos hw] at h;exact h
 ·rename_i hw;rw [if_neg hw] at h;exact ⟨fun _ _=>trivial,h⟩
theorem WK.one {i:Nat} {o:Oper} (hi:ops[i]?=some o) (hr:Region.ready .any ops listed=[i]) (hl:listed.setIfInBounds i true=l2)
  (h:∀ (K:Act→World→Prop),(∀ a w,C w∧WK fin C P ops Q fuel l2 a w→K a w)→WO P ops Q o K a w):WK fin C P ops Q (fuel+1) listed a w:=by
 subst hl
 refine ⟨fun h0=>(by rw [hr] at h0;cases h0),fun j hj=>?_⟩
 rw [hr] at hj
 obtain rfl:j=i:=by simpa using hj
 exact wo_op hi (h _ fun _ _ h=>⟨.inr h.1,h.2⟩)
theorem WK.last {i:Nat} {o:Oper} (hi:ops[i]?=some o) (hr:Region.ready .any ops listed=[i]) (hl:listed.setIfInBounds i true=l2)
  (h:∀ (K:Act→World→Prop),(∀ a w,WK (some i) C P ops Q fuel l2 a w→K a w)→WO P ops Q o K a w):WK (some i) C P ops Q (fuel+1) listed a w:=by
 subst hl
 refine ⟨fun h0=>(by rw [hr] at h0;cases h0),fun j hj=>?_⟩
 rw [hr] at hj
 obtain rfl:j=i:=by simpa using hj
 exact wo_op hi (h _ fun _ _ h=>⟨.inl rfl,h⟩)
theorem WK.two {i j:Nat} {o o':Oper} (hi:ops[i]?=some o) (hj:ops[j]?=some o') (hr:Region.ready .any ops listed=[i,j]) (hl:listed.setIfInBounds i true=l2) (hl':listed.setIfInBounds j true=l3)
  (h:∀ (K:Act→World→Prop),(∀ a w,C w∧WK fin C P ops Q fuel l2 a w→K a w)→WO P ops Q o K a w)
  (h':∀ (K:Act→World→Prop),(∀ a w,C w∧WK fin C P ops Q fuel l3 a w→K a w)→WO P ops Q o' K a w):WK fin C P ops Q (fuel+1) listed a w:=by
 subst hl;subst hl'
 refine ⟨fun h0=>(by rw [hr] at h0;cases h0),fun k hk=>?_⟩
 rw [hr] at hk
 rcases List.mem_cons.1 hk with rfl|hk
 ·exact wo_op hi (h _ fun _ _ h=>⟨.inr h.1,h.2⟩)
 ·obtain rfl:k=j:=by simpa using hk
  exact wo_op hj (h' _ fun _ _ h=>⟨.inr h.1,h.2⟩)
theorem Sat.kpur (hE:Sat ds N E a) {i:Nat} {op:Op} {ty:TypeId} {pos:String} {aft:Array Edge} {d:Nat} {v:Value} (hq:zL1 Q) (hs:Region.noSelect ops=true) (hi:ops[i]?=some ⟨some d,op,ty,pos,aft,none⟩)
  (hf:Region.free .any ops listed i=true) (hr:(Region.ready .any ops listed).contains i=true) (hl:listed.setIfInBounds i true=l2) (hC:C w)
  (he:∀ w,(execOp a.eval ⟨some d,op,ty,pos,aft,none⟩).run P w=.ok (.value v) w) (next:∀ a',Sat ds N ((d,v)::E) a'→WK fin C P ops Q fuel l2 a' w)
  (hN:Nat.blt d N=true:=by rfl) (hF:finOk fin ops listed i=true:=by kernel_rfl):WK fin C P ops Q (fuel+1) listed a w:=
 WK.take rfl rfl hq hs hi hf hr hl hC ⟨fun w _=>he w⟩ (next _ (hE.put hN v)) hF
theorem Sat.kop (hE:Sat ds N E a) {i:Nat} {τ:Type} {enc:τ→Value} {s:Sem Value} {k:τ→Prop} {op:Op} {ty:TypeId} {pos:String} {aft:Array Edge} {d:Nat} (hq:zL1 Q) (hs:Region.noSelect ops=true) (hi:ops[i]?=some ⟨some d,op,ty,pos,aft,none⟩)
  (hf:Region.free .any ops listed i=true) (hr:(Region.ready .any ops listed).contains i=true) (hl:listed.setIfInBounds i true=l2) (hC:C w)
  (he:execOp a.eval ⟨some d,op,ty,pos,aft,none⟩=pv s) (H:opC C P enc s k) (next:∀ x a',k x→Sat ds N ((d,enc x)::E) a'→WK fin C P ops Q fuel l2 a' w)
  (hN:Nat.blt d N=true:=by rfl) (hF:finOk fin ops listed i=true:=by kernel_rfl):WK fin C P ops Q (fuel+1) listed a w:=by
 obtain ⟨x,hx,hk⟩:=H
 exact WK.take rfl rfl hq hs hi hf hr hl hC ⟨fun w hw=>by rw [he];simp [hx w hw]⟩ (next x _ hk (hE.put hN _)) hF
end
section
variable {P:Program} {ops:Array Oper} {ds:List Deferred} {N:Nat} {E:Env} {a:Act} {w:World} {Q:Exit→Act→World→Prop} {K:Act→World→Prop}
theorem zTM {o:Oper} (hg:o.guard=none) (hnd:∀ c,o.op≠.defer c) {f:FuncId} {args:Array Value} {w':World} (hr:(execOp a.eval o).run P w=.ok (.enter f args) w')
  {R:Ending→World→Prop} (hc:Cl P f args w' R) (h:∀ e w'',R e w''→∃ v,e=.returned v∧K (a.put o.dst v) w''):WO P ops Q o K a w:=by
 unfold WO
 rw [if_pos (by simp [Region.wanted,hg])]
 refine ⟨fun _ _=>trivial,?_⟩
 rw [Oper.semAt_eq _ _ _ hnd,hr,Oper.uponIn_enter]
 refine ⟨fun h=>by simp [FW,Fence.wide] at h,?_⟩
 have hc':CallsIn (FW none) 0 P f args w' R:=hc
 refine CallsIn.mono hc' fun e w'' hR=>?_
 obtain ⟨v,rfl,hv⟩:=h e w'' hR
 exact hv
theorem zRt {o:Oper} (hg:o.guard=none) (hnd:∀ c,o.op≠.defer c) {l:Nat} {f:FuncId} {tmps:Array Value} {asg body:Code} (hr:(execOp a.eval o).run P w=.ok (.round l f tmps asg body) w)
  {R:Ending→World→Prop} (hc:RoundIn (FW none) 0 P l f tmps asg body w R) (h:∀ e w'',R e w''→∃ v,e=.returned v∧K (a.put o.dst v) w''):WO P ops Q o K a w:=by
 unfold WO
 rw [if_pos (by simp [Region.wanted,hg])]
 refine ⟨fun _ _=>trivial,?_⟩
 rw [Oper.semAt_eq _ _ _ hnd,hr,Oper.uponIn_round]
 refine ⟨fun h=>by simp [FW,Fence.wide] at h,?_⟩
 refine RoundIn.mono hc fun e w'' hR=>?_
 obtain ⟨v,rfl,hv⟩:=h e w'' hR
 exact hv
theorem Sat.wcallV (hE:Sat ds N E a) {x:Operand} {xs:List Operand} {v:Value} {vs:List Value} {ts} {R:Ending→World→Prop} {ty:TypeId} {pos:String} {aft:Array Edge} {d:Nat}
  (hx:Go.VB.ev E x=some v) (hxs:Go.VB.evL E xs=some vs) (H:CallV P v vs w R)
  (next:∀ e w',R e w'→∃ v,e=.returned v∧∀ a',Sat ds N ((d,v)::E) a'→K a' w')
  (hN:Nat.blt d N=true:=by rfl):WO P ops Q ⟨some d,.call {callee:=.value x,args:=xs.toArray,argTypes:=ts},ty,pos,aft,none⟩ K a w:=by
 rcases H with ⟨f,us,lb,rfl,he,hc⟩|⟨l,rfl,fn,tmps,asg,body,hy,hR⟩
 ·exact zTM rfl (by intro c h;cases h) (by have:=zQD hE (w:=w) (ts:=ts) (d:=some d) (ty:=ty) (pos:=pos) (aft:=aft) he hx hxs;simpa using this) hc fun e w' hR=>by
   obtain ⟨v,rfl,hv⟩:=next e w' hR
   exact ⟨v,rfl,hv _ (hE.put hN v)⟩
 ·exact zRt rfl (by intro c h;cases h) (zRU hE hx hxs hy) hR fun e w' hR=>by
   obtain ⟨v,rfl,hv⟩:=next e w' hR
   exact ⟨v,rfl,hv _ (hE.put hN v)⟩
end
section
variable {P:Program} {Q:Exit→Act→World→Prop} {N:Nat} {E:Env} {a:Act} {w:World}
theorem zO9 {α τ σ:Type} (f:α→τ) (f':α→σ) (enc:τ→Value) (enc':σ→Value) (j:Option Code) {g:Operand} {p p' s s':Nat} {v:Value} {body:Code} {id id':Nat} {ty ty':TypeId} {pos pos':String} {aft aft':Array Edge}
  {Kp:World→World→Prop} {S Sp:List α→Prop} {Num:Nat} {I Ir:List α→World→Prop}
  (hE:Sat [] N E a) (hg:ev E g=some v) (hR:zKo P v (fun x:α=>[enc (f x),enc' (f' x)]) Kp S Sp Num I Ir w)
  (hkr:∀ W,Kp W W)
  (hp:Nat.blt p N=true) (hp':Nat.blt p' N=true) (hs:Nat.blt s N=true) (hs':Nat.blt s' N=true) (h1:Nat.beq p' p=false) (h2:Nat.beq s p'=false)
  (hbody:∀ (l:Nat) (pre:List α) (x:α) (W:World) (a:Act),I pre W→pre.length<Num→Sat [] N ((s',enc' (f' x))::(s,enc (f x))::(p',enc' (f' x))::(p,enc (f x))::E) a→
   WC (some l) P body (zQN j (fun W'=>KeepsFrom w.heap.size W W'∧Kp W W'∧I (pre++[x]) W') (fun W'=>KeepsFrom w.heap.size W W'∧Ir (pre++[x]) W')) a W)
  (hdone:∀ (D:Nat) (xs:List α) (W:World) (a:Act),w.heap.size≤D→S xs→I xs W→W.heap[D]?=some (.deferred (some []))→Sat [mark D] N E a→Q .normal a W)
  (hstop:∀ (D:Nat) (c:Code) (pre:List α) (W:World) (a:Act),j=some c→w.heap.size≤D→Sp pre→Ir pre W→W.heap[D]?=some (.deferred (some []))→Sat [mark D] N E a→WC none P c Q a W):
  WC none P (.rangeFunc g #[p,p'] (.seq (.region id [⟨some s,.assign (.tmp p),ty,pos,aft,none⟩].toArray false) (.region id' [⟨some s',.assign (.tmp p'),ty',pos',aft',none⟩].toArray false)) body) Q a w:=by
 obtain ⟨gf,lb,rfl,he,hseq⟩:=hR.seq
 have hd:a.defers=[]:=hE.defs
 have hmk:∀ D,Sat [mark D] N E {a with defers:={target:=.collected D,args:=#[]}::a.defers}:=fun D=>⟨hE.size,hE.vals,by simp [hd]⟩
 refine zNR (n:=1) (wpIn_rangeFunc_ownH (F:=FW none) (n:=1) rfl (Nat.le_refl 1) (gf:=gf) (lb:=lb.toArray) (hE.ev hg) trivial he hseq (fun h1 h2=>hR.kt _ _ _ h1 h2) hR.kb (Go.RowKit.Below.refl _ _) (fun _=>rfl)
  I (fun c pre W=>j=some c∧Ir pre W) hR.own (fun c s A B row hs hg' hr=>⟨hs.1,hR.ownr s A B row hs.2 hg' hr⟩) hR.start
  (fun x a' W=>Sat [] N ((s',enc' (f' x))::(s,enc (f x))::(p',enc' (f' x))::(p,enc (f x))::E) a')
  (fun x a' _ A B row hs hg' hr=>hs) ?_ ?_ ?_ ?_)
 ·intro l pre x W K hI hK
  have hSat:Sat [] N ((p',enc' (f' x))::(p,enc (f x))::E) {tmps:=((#[p,p']:Array Tmp).zip #[enc (f x),enc' (f' x)]).foldl (fun t (p,v)=>t.setIfInBounds p v) a.tmps,defers:=[]}:=by
   have h3:=Sat.put (⟨hE.size,hE.vals,rfl⟩:Sat [] N E {a with defers:=[]}) hp (enc (f x))
   have h4:=Sat.put h3 hp' (enc' (f' x))
   simpa [Act.put] using h4
  refine zAF (ro:=some l) (zAA (ro:=some l) ?_)
  have hq:ev ((p',enc' (f' x))::(p,enc (f x))::E) (.tmp p)=some (enc (f x)):=by
   show (bif Nat.beq p' p then _ else _)=_
   rw [h1]
   show (bif Nat.beq p p then _ else _)=_
   simp
  have hq':ev ((s,enc (f x))::(p',enc' (f' x))::(p,enc (f x))::E) (.tmp p')=some (enc' (f' x)):=by
   show (bif Nat.beq s p' then _ else _)=_
   rw [h2]
   show (bif Nat.beq p' p' then _ else _)=_
   simp
  exact hSat.pur (zEX hSat hq) (fun a1 hS1=>zAG (tn (zAA (ro:=some l) (hS1.pur (zEX hS1 hq') (fun a2 hS2=>zAG (hK _ _ (KeepsFrom.refl _ _) (hkr _) hI hS2)) (hN:=hs'))))) (hN:=hs)
 ·rintro l pre x a' W hl _ hI h3 hlen
  refine wpIn_mono (hbody l pre x W a' hI hlen h3) fun e a3 W3 h=>?_
  cases e with
  |normal=>exact h
  |ret=>exact ⟨h.2.1,h.1,h.2.2⟩
  |exit id=>exact ⟨h.2.1,h.1,h.2.2⟩
  |goto t=>exact h.elim
  |panic ch=>exact h.elim
  |outgrown=>exact h.elim
 ·exact fun D xs W hD hS hI hK=>hdone D xs W _ hD hS hI hK (hmk D)
 ·exact fun D c pre W hD hS hI hK=>zNR (hstop D c pre W _ hI.1 hD hS hI.2 hK (hmk D))
def zQ1 {τ σ:Type} (P:Program) (v:Value) (enc:τ→Value) (enc':σ→Value) (w:World) (body:τ→σ→World→(World→Prop)→(World→Prop)→Prop) (rest stop:Nat→World→Prop):Prop:=
 ∃ (α:Type) (f:α→τ) (f':α→σ) (Kp:World→World→Prop) (S Sp:List α→Prop) (Num:Nat) (I Ir:List α→World→Prop),zKo P v (fun x:α=>[enc (f x),enc' (f' x)]) Kp S Sp Num I Ir w∧(∀ W,Kp W W)∧
  (∀ pre x W,I pre W→pre.length<Num→body (f x) (f' x) W (fun W'=>KeepsFrom w.heap.size W W'∧Kp W W'∧I (pre++[x]) W') (fun W'=>KeepsFrom w.heap.size W W'∧Ir (pre++[x]) W'))∧
  (∀ D xs W,w.heap.size≤D→S xs→I xs W→W.heap[D]?=some (.deferred (some []))→rest D W)∧
  (∀ D pre W,w.heap.size≤D→Sp pre→Ir pre W→W.heap[D]?=some (.deferred (some []))→stop D W)
end
end Go.VB
set_option linter.unusedVariables false
namespace Go.VB
section
variable {P:Program} {ops:Array Oper} {ds:List Deferred} {N:Nat} {E:Env} {a:Act} {w:World} {Q:Exit→Act→World→Prop} {fuel:Nat} {listed:Array Bool} {fin:Option Nat} {C:World→Prop}
theorem zKK {id:Nat} {l:List Oper} (n:Nat) (h:∀ w',Bel w w'→WA P l.toArray Q n (Array.replicate n false) a w') (hm:P.follows .mixedOrders=true:=by kernel_rfl) (hn:l.toArray.size=n:=by rfl):
  WC none P (.region id l.toArray true) Q a w:=zUK n _ hm h hn rfl
theorem Sat.ap (hE:Sat ds N E a) (i:Nat) {op:Op} {ty:TypeId} {pos:String} {aft:Array Edge} {d:Nat} {v:Value} (hi:ops[i]?=some ⟨some d,op,ty,pos,aft,none⟩)
  (he:execOp a.eval ⟨some d,op,ty,pos,aft,none⟩=pn v) (next:∀ a',Sat ds N ((d,v)::E) a'→WA P ops Q fuel (listed.setIfInBounds i true) a' w)
  (hq:zL1 Q:=by exact fun _ _ _ _ _ h=>h) (hs:Region.noSelect ops=true:=by kernel_rfl) (hf:Region.free .any ops listed i=true:=by kernel_rfl) (hr:(Region.ready .any ops listed).contains i=true:=by kernel_rfl)
  (hN:Nat.blt d N=true:=by rfl) (hc:zMr op=true:=by rfl):WA P ops Q (fuel+1) listed a w:=hE.apur hq hs hi hf hr rfl (zEL he) next hN hc
theorem Sat.ao (hE:Sat ds N E a) (i:Nat) {τ:Type} {enc:τ→Value} {s:Sem Value} {k:τ→Prop} {op:Op} {ty:TypeId} {pos:String} {aft:Array Edge} {d:Nat} (hi:ops[i]?=some ⟨some d,op,ty,pos,aft,none⟩)
  (he:execOp a.eval ⟨some d,op,ty,pos,aft,none⟩=pv s) (H:opP P enc s k) (next:∀ x a',k x→Sat ds N ((d,enc x)::E) a'→WA P ops Q fuel (listed.setIfInBounds i true) a' w)
  (hq:zL1 Q:=by exact fun _ _ _ _ _ h=>h) (hs:Region.noSelect ops=true:=by kernel_rfl) (hf:Region.free .any ops listed i=true:=by kernel_rfl) (hr:(Region.ready .any ops listed).contains i=true:=by kernel_rfl)
  (hN:Nat.blt d N=true:=by rfl) (hc:zMr op=true:=by rfl):WA P ops Q (fuel+1) listed a w:=hE.aop hq hs hi hf hr rfl he H next hN hc
theorem Sat.o1 (hE:Sat ds N E a) (i:Nat) {τ:Type} {enc:τ→Value} {s:Sem Value} {k:τ→World→Prop} {op:Op} {ty:TypeId} {pos:String} {aft:Array Edge} {d:Nat} (hi:ops[i]?=some ⟨some d,op,ty,pos,aft,none⟩)
  (he:execOp a.eval ⟨some d,op,ty,pos,aft,none⟩=pv s) (H:opE P enc s w k) (next:∀ x w' a',k x w'→Sat ds N ((d,enc x)::E) a'→WA P ops Q fuel (listed.setIfInBounds i true) a' w')
  (hr:Region.ready .any ops listed=[i]:=by kernel_rfl) (hN:Nat.blt d N=true:=by rfl) (hnd:∀ c,op≠.defer c:=by intro c h;cases h):WA P ops Q (fuel+1) listed a w:=
 WA.one hi hr rfl fun K hK=>hE.wop he H (fun x w' a' h hS=>hK _ _ (next x w' a' h hS)) hN hnd
theorem Sat.o1u (hE:Sat ds N E a) (i:Nat) {s:Sem Unit} {k:World→Prop} {op:Op} {ty:TypeId} {pos:String} {aft:Array Edge} (hi:ops[i]?=some ⟨none,op,ty,pos,aft,none⟩)
  (he:execOp a.eval ⟨none,op,ty,pos,aft,none⟩=pu s) (H:opU P s w k) (next:∀ w' a',k w'→Sat ds N E a'→WA P ops Q fuel (listed.setIfInBounds i true) a' w')
  (hr:Region.ready .any ops listed=[i]:=by kernel_rfl) (hnd:∀ c,op≠.defer c:=by intro c h;cases h):WA P ops Q (fuel+1) listed a w:=
 WA.one hi hr rfl fun K hK=>hE.wopu he H (fun w' a' h hS=>hK _ _ (next w' a' h hS)) hnd
theorem WA.tw (i j:Nat) {o o':Oper} (hi:ops[i]?=some o) (hj:ops[j]?=some o')
  (h:∀ (K:Act→World→Prop),(∀ a w,WA P ops Q fuel (listed.setIfInBounds i true) a w→K a w)→WO P ops Q o K a w)
  (h':∀ (K:Act→World→Prop),(∀ a w,WA P ops Q fuel (listed.setIfInBounds j true) a w→K a w)→WO P ops Q o' K a w) (hr:Region.ready .any ops listed=[i,j]:=by kernel_rfl):WA P ops Q (fuel+1) listed a w:=
 WA.two hi hj hr rfl rfl h h'
theorem WA.ni (h:Q .normal a w) (hr:Region.ready .any ops listed=[]:=by kernel_rfl):WA P ops Q fuel listed a w:=WA.nil hr h
theorem zTg {id:Nat} {l:List Oper} {k:(World→Prop)→World→Prop} (H:regC w k) (n:Nat) (h:∀ C w',C w'→k C w'→WK none C P l.toArray Q n (Array.replicate n false) a w')
  (hm:P.follows .mixedOrders=true:=by kernel_rfl) (hn:l.toArray.size=n:=by rfl):WC none P (.region id l.toArray true) Q a w:=zUN H n _ hm h hn rfl
theorem zR8 (f:Nat) {id:Nat} {l:List Oper} {k:(World→Prop)→World→Prop} (H:regC w k) (n:Nat) (h:∀ C w',C w'→k C w'→WK (some f) C P l.toArray Q n (Array.replicate n false) a w')
  (hm:P.follows .mixedOrders=true:=by kernel_rfl) (hn:l.toArray.size=n:=by rfl):WC none P (.region id l.toArray true) Q a w:=zTy (some f) H n _ hm h hn rfl
theorem Sat.kp (hE:Sat ds N E a) (i:Nat) {op:Op} {ty:TypeId} {pos:String} {aft:Array Edge} {d:Nat} {v:Value} (hi:ops[i]?=some ⟨some d,op,ty,pos,aft,none⟩) (hC:C w)
  (he:∀ w,(execOp a.eval ⟨some d,op,ty,pos,aft,none⟩).run P w=.ok (.value v) w) (next:∀ a',Sat ds N ((d,v)::E) a'→WK fin C P ops Q fuel (listed.setIfInBounds i true) a' w)
  (hq:zL1 Q:=by exact fun _ _ _ _ _ h=>h) (hs:Region.noSelect ops=true:=by kernel_rfl) (hf:Region.free .any ops listed i=true:=by kernel_rfl) (hr:(Region.ready .any ops listed).contains i=true:=by kernel_rfl)
  (hN:Nat.blt d N=true:=by rfl) (hF:finOk fin ops listed i=true:=by kernel_rfl):WK fin C P ops Q (fuel+1) listed a w:=hE.kpur hq hs hi hf hr rfl hC he next hN hF
theorem Sat.ko (hE:Sat ds N E a) (i:Nat) {τ:Type} {enc:τ→Value} {s:Sem Value} {k:τ→Prop} {op:Op} {ty:TypeId} {pos:String} {aft:Array Edge} {d:Nat} (hi:ops[i]?=some ⟨some d,op,ty,pos,aft,none⟩) (hC:C w)
  (he:execOp a.eval ⟨some d,op,ty,pos,aft,none⟩=pv s) (H:opC C P enc s k) (next:∀ x a',k x→Sat ds N ((d,enc x)::E) a'→WK fin C P ops Q fuel (listed.setIfInBounds i true) a' w)
  (hq:zL1 Q:=by exact fun _ _ _ _ _ h=>h) (hs:Region.noSelect ops=true:=by kernel_rfl) (hf:Region.free .any ops listed i=true:=by kernel_rfl) (hr:(Region.ready .any ops listed).contains i=true:=by kernel_rfl)
  (hN:Nat.blt d N=true:=by rfl) (hF:finOk fin ops listed i=true:=by kernel_rfl):WK fin C P ops Q (fuel+1) listed a w:=hE.kop hq hs hi hf hr rfl hC he H next hN hF
theorem WK.on (i:Nat) {o:Oper} (hi:ops[i]?=some o) (h:∀ (K:Act→World→Prop),(∀ a w,C w∧WK fin C P ops Q fuel (listed.setIfInBounds i true) a w→K a w)→WO P ops Q o K a w) (hr:Region.ready .any ops listed=[i]:=by kernel_rfl):WK fin C P ops Q (fuel+1) listed a w:=
 WK.one hi hr rfl h
theorem WK.la (i:Nat) {o:Oper} (hi:ops[i]?=some o) (h:∀ (K:Act→World→Prop),(∀ a w,WK (some i) C P ops Q fuel (listed.setIfInBounds i true) a w→K a w)→WO P ops Q o K a w) (hr:Region.ready .any ops listed=[i]:=by kernel_rfl):WK (some i) C P ops Q (fuel+1) listed a w:=
 WK.last hi hr rfl h
theorem WK.tw (i j:Nat) {o o':Oper} (hi:ops[i]?=some o) (hj:ops[j]?=some o')
  (h:∀ (K:Act→World→Prop),(∀ a w,C w∧WK fin C P ops Q fuel (listed.setIfInBounds i true) a w→K a w)→WO P ops Q o K a w)
  (h':∀ (K:Act→World→Prop),(∀ a w,C w∧WK fin C P ops Q fuel (listed.setIfInBounds j true) a w→K a w)→WO P ops Q o' K a w) (hr:Region.ready .any ops listed=[i,j]:=by kernel_rfl):WK fin C P ops Q (fuel+1) listed a w:=
 WK.two hi hj hr rfl rfl h h'
end
section
variable {ro:Option Nat} {P:Program} {ops:Array Oper} {Q:Exit→Act→World→Prop} {ds:List Deferred} {N:Nat} {E:Env} {a:Act} {w:World} {rest:List Oper} {K:Act→Prop}
theorem Sat.mv (hE:Sat ds N E a) {x v ty pos aft} {d:Nat} (hx:Go.VB.ev E x=some v) (next:∀ a',Sat ds N ((d,v)::E) a'→WL ro P ops Q rest a' w) (hN:Nat.blt d N=true:=by rfl):WL ro P ops Q (⟨some d,.move x,ty,pos,aft,none⟩::rest) a w:=hE.pur (zAL hE hx) next hN
theorem Sat.as_ (hE:Sat ds N E a) {x v ty pos aft} {d:Nat} (hx:Go.VB.ev E x=some v) (next:∀ a',Sat ds N ((d,v)::E) a'→WL ro P ops Q rest a' w) (hN:Nat.blt d N=true:=by rfl):WL ro P ops Q (⟨some d,.assign x,ty,pos,aft,none⟩::rest) a w:=hE.pur (zEX hE hx) next hN
theorem Sat.qm (hE:Sat ds N E a) {x v ty pos aft} {d:Nat} (hx:Go.VB.ev E x=some v) (next:∀ a',Sat ds N ((d,v)::E) a'→WQ P ops w K rest a') (hN:Nat.blt d N=true:=by rfl):WQ P ops w K (⟨some d,.move x,ty,pos,aft,none⟩::rest) a:=hE.qpur (zAL hE hx) next hN
end
end Go.VB
set_option linter.unusedVariables false
set_option linter.unusedSimpArgs false
namespace Go.Proofs.YtealcoghiaeiiaaGreat.VG
open Go.VB Go.Proofs
def zCT (x9:Int) (Kl2:Int→World→Prop) (w:World):Prop:=
 Kl2 (IntKind.wrap .i64 (x9 - 1)) w
def zBH (x0:Sl) (x8:Int) (Kl1:Int→World→Prop) (x9:Int) (Kl2:Int→World→Prop) (x34:Bool) (w:World):Prop:=
 nextB w (fun w=>(x34=true→(nextB w (fun w=>opP Tryz.prog Value.pointer (Instr.indexAt 22 (Sl.v x0) (.int .i64 (IntKind.wrap .i64 (x9 - 1)))) (fun x45=>opP Tryz.prog Value.pointer (Instr.indexAt 22 (Sl.v x0) (.int .i64 x9)) (fun x49=>(opE Tryz.prog zAE.v (Instr.loadAt 66 (.pointer x45)) w (fun x46 w=>opE Tryz.prog zAE.v (Instr.loadAt 66 (.pointer x49)) w (fun x50 w=>opP Tryz.prog Value.pointer (Instr.indexAt 22 (Sl.v x0) (.int .i64 x9)) (fun x51=>opU Tryz.prog (Instr.storeAt 66 (.pointer x51) (zAE.v x46)) w (fun w=>opP Tryz.prog Value.pointer (Instr.indexAt 22 (Sl.v x0) (.int .i64 (IntKind.wrap .i64 (x9 - 1)))) (fun x52=>opU Tryz.prog (Instr.storeAt 66 (.pointer x52) (zAE.v x50)) w (fun w=>zCT x9 Kl2 w)))))))∧(opE Tryz.prog zAE.v (Instr.loadAt 66 (.pointer x49)) w (fun x50_1 w=>opE Tryz.prog zAE.v (Instr.loadAt 66 (.pointer x45)) w (fun x46_1 w=>opP Tryz.prog Value.pointer (Instr.indexAt 22 (Sl.v x0) (.int .i64 x9)) (fun x51_1=>opU Tryz.prog (Instr.storeAt 66 (.pointer x51_1) (zAE.v x46_1)) w (fun w=>opP Tryz.prog Value.pointer (Instr.indexAt 22 (Sl.v x0) (.int .i64 (IntKind.wrap .i64 (x9 - 1)))) (fun x52_1=>opU Tryz.prog (Instr.storeAt 66 (.pointer x52_1) (zAE.v x50_1)) w (fun w=>zCT x9 Kl2 w))))))))))))∧(x34=false→(Kl1 (IntKind.wrap .i64 (x8+1)) w)))
def zDV (x0:Sl) (x1:Int) (x3:Value) (x8:Int) (Kl1:Int→World→Prop) (x9:Int) (w:World) (Kl2:Int→World→Prop):Prop:=
 ((x1<x9)→(opB Tryz.prog Value.pointer (Instr.indexAt 22 (Sl.v x0) (.int .i64 x9)) w (fun x25=>opB Tryz.prog zAE.v (Instr.loadAt 66 (.pointer x25)) w (fun x26=>opB Tryz.prog Value.pointer (Instr.indexAt 22 (Sl.v x0) (.int .i64 (IntKind.wrap .i64 (x9 - 1)))) w (fun x30=>opB Tryz.prog zAE.v (Instr.loadAt 66 (.pointer x30)) w (fun x31=>∃ (r:Int),CallQ Tryz.prog x3 [(zAE.v x26),(zAE.v x31)] w (.int .i64 r)∧(zBH x0 x8 Kl1 x9 Kl2 (decide (r<0)) w)))))))∧(¬ (x1<x9)→(zBH x0 x8 Kl1 x9 Kl2 false w))
def zB3 (x0:Sl) (x1:Int) (x2:Int) (x3:Value) (Ret:World→Prop) (x8:Int) (w:World) (Kl1:Int→World→Prop):Prop:=
 ((x8<x2)→(∃ (I:Int→World→Prop) (μ:Int→World→Nat),I x8 w∧∀ (x9:Int) w,I x9 w→zDV x0 x1 x3 x8 Kl1 x9 w (fun x9' w'=>I x9' w'∧μ x9' w'<μ x9 w)))∧(¬ (x8<x2)→(Ret w))
def zDy (x0:Sl) (x1:Int) (x2:Int) (x3:Value) (w:World) (Ret:World→Prop):Prop:=
 ∃ (I:Int→World→Prop) (μ:Int→World→Nat),I (IntKind.wrap .i64 (x1+1)) w∧∀ (x8:Int) w,I x8 w→zB3 x0 x1 x2 x3 Ret x8 w (fun x8' w'=>I x8' w'∧μ x8' w'<μ x8 w)
set_option maxRecDepth 100000 in
theorem zHx (x0:Sl) (x1:Int) (x2:Int) (x3:Value) (w:World) (Ret:World→Prop) (H:zDy x0 x1 x2 x3 w Ret):Cl Tryz.prog 90 [(Sl.v x0),(.int .i64 x1),(.int .i64 x2),x3].toArray w (fun e w'=>e=.returned (.tuple [].toArray)∧Ret w'):=by
 unfold zDy at H
 refine zAY 53 (zipE 0 [(Sl.v x0),(.int .i64 x1),(.int .i64 x2),x3]) Tryz.func90 rfl rfl (by rfl) rfl ?_
 intro a g
 replace g:Sat [] 53 [(0,(Sl.v x0)),(1,(.int .i64 x1)),(2,(.int .i64 x2)),(3,x3)] a:=g
 refine zAF (zAA (g.mv rfl fun _ g=>(g.pur (zAn g rfl rfl) fun _ g=>(g.as_ rfl fun _ g=>(zAG (tn (zAN ?_)))))))
 obtain ⟨I_l1,μ_l1,h0,hb⟩:=H
 refine zBl (ds:=[]) (N:=53) (σ:=Int) (fun s=>[(8,(.int .i64 s)),(0,(Sl.v x0)),(1,(.int .i64 x1)),(2,(.int .i64 x2)),(3,x3)]) (fun s w=>I_l1 s w) (fun s w=>μ_l1 s w) (IntKind.wrap .i64 (x1+1)) h0 (g.weak ⟨rfl,rfl,rfl,rfl,rfl,trivial⟩) ?_
 intro x8 w a hI g
 try dsimp only at hI g
 obtain ⟨Kl1,hK_l1⟩:∃ K:Int→World→Prop,K=(fun x8' w'=>I_l1 x8' w'∧μ_l1 x8' w'<μ_l1 x8 w):=⟨_,rfl⟩
 have H:zB3 x0 x1 x2 x3 Ret x8 w Kl1:=by rw [hK_l1];exact hb x8 w hI
 clear hb h0 hI
 unfold zB3 at H
 refine zAF (zAF (zAA (g.mv rfl fun _ g=>(g.mv rfl fun _ g=>(g.pur (zDp g rfl rfl) fun _ g=>(zAG (tn (zAR g rfl (fun hc=>?_) (fun hc=>?_)))))))))
 ·replace H:=H.1 hc
  refine zAP (tn (zAF (zAN (zAF (zAA (g.mv rfl fun _ g=>(g.as_ rfl fun _ g=>(zAG (tn (zAN ?_))))))))))
  obtain ⟨I_l2,μ_l2,h0,hb⟩:=H
  refine zBl (ds:=[]) (N:=53) (σ:=Int) (fun s=>[(9,(.int .i64 s)),(0,(Sl.v x0)),(1,(.int .i64 x1)),(2,(.int .i64 x2)),(3,x3),(8,(.int .i64 x8))]) (fun s w=>I_l2 s w) (fun s w=>μ_l2 s w) x8 h0 (g.weak ⟨rfl,rfl,rfl,rfl,rfl,rfl,trivial⟩) ?_
  intro x9 w a hI g
  try dsimp only at hI g
  obtain ⟨Kl2,hK_l2⟩:∃ K:Int→World→Prop,K=(fun x9' w'=>I_l2 x9' w'∧μ_l2 x9' w'<μ_l2 x9 w):=⟨_,rfl⟩
  have H:zDV x0 x1 x3 x8 Kl1 x9 w Kl2:=by rw [hK_l2];exact hb x9 w hI
  clear hb h0 hI
  unfold zDV at H
  refine zAF (zAF (zEB (by kernel_rfl) (by kernel_rfl) (g.qm rfl fun _ g=>(g.qm rfl fun _ g=>(g.qpur (zIG g rfl rfl) fun _ g=>(g.qm rfl fun _ g=>(WQ.join (ds:=[]) (N:=53) (σ:=Bool) (fun s=>[(34,(.bool s)),(0,(Sl.v x0)),(1,(.int .i64 x1)),(2,(.int .i64 x2)),(3,x3),(8,(.int .i64 x8)),(9,(.int .i64 x9))]) (fun s=>zBH x0 x8 Kl1 x9 Kl2 s w) 13 ?_ (fun hr3=>?_))))))))
  ·intro x34 a H g
   try dsimp only at H g
   unfold zBH at H
   refine zED (fun w hB=>?_)
   replace H:=H w hB
   refine (tn (zAV g rfl (fun hc=>?_) (fun hc=>?_)))
   ·replace H:=H.1 hc
    refine zAP (tn (zBG (ds:=[]) (N:=53) (σ:=Unit) (fun s=>[(0,(Sl.v x0)),(1,(.int .i64 x1)),(2,(.int .i64 x2)),(3,x3),(8,(.int .i64 x8)),(9,(.int .i64 x9))]) (fun s w=>zCT x9 Kl2 w) ?_ (fun hj4=>?_)))
    ·rintro ⟨⟩ w a H g
     try dsimp only at H g
     unfold zCT at H
     refine zAA (g.mv rfl fun _ g=>(g.pur (zAv g rfl rfl) fun _ g=>(g.as_ rfl fun _ g=>?_)))
     rw [hK_l2] at H
     exact zAG (tn ⟨(IntKind.wrap .i64 (x9 - 1)),g.weak ⟨rfl,rfl,rfl,rfl,rfl,rfl,trivial⟩,H⟩)
    ·refine zAN (zKK 18 fun w hB=>?_)
     replace H:=H w hB
     refine g.ap 0 rfl (zAL g rfl) fun _ g=>g.ap 1 rfl (zAL g rfl) fun _ g=>g.ap 2 rfl (zAL g rfl) fun _ g=>g.ap 3 rfl (zAL g rfl) fun _ g=>g.ap 4 rfl (zAv g rfl rfl) fun _ g=>g.ap 5 rfl (zAL g rfl) fun _ g=>g.ap 6 rfl (zAL g rfl) fun _ g=>g.ap 7 rfl (zAv g rfl rfl) fun _ g=>g.ao 8 rfl (zAC g rfl rfl) H fun x45 a H g=>g.ap 10 rfl (zAL g rfl) fun _ g=>g.ap 11 rfl (zAL g rfl) fun _ g=>g.ao 12 rfl (zAC g rfl rfl) H fun x49 a H g=>WA.tw 9 13 rfl rfl ?_ ?_
     ·replace H:=H.1
      intro K hK
      exact g.wop (zAI g rfl) H fun x46 w a H g=>hK _ _ (g.o1 13 rfl (zAI g rfl) H fun x50 w a H g=>(g.ao 14 rfl (zAC g rfl rfl) H fun x51 a H g=>(g.o1u 15 rfl (zAM g rfl rfl) H fun w a H g=>(g.ao 16 rfl (zAC g rfl rfl) H fun x52 a H g=>(g.o1u 17 rfl (zAM g rfl rfl) H fun w a H g=>(WA.ni ((bn (tn (hj4 () _ _ H (g.weak ⟨rfl,rfl,rfl,rfl,rfl,rfl,trivial⟩)))))))))))
     ·replace H:=H.2
      intro K hK
      exact g.wop (zAI g rfl) H fun x50_1 w a H g=>hK _ _ (g.o1 9 rfl (zAI g rfl) H fun x46_1 w a H g=>(g.ao 14 rfl (zAC g rfl rfl) H fun x51_1 a H g=>(g.o1u 15 rfl (zAM g rfl rfl) H fun w a H g=>(g.ao 16 rfl (zAC g rfl rfl) H fun x52_1 a H g=>(g.o1u 17 rfl (zAM g rfl rfl) H fun w a H g=>(WA.ni ((bn (tn (hj4 () _ _ H (g.weak ⟨rfl,rfl,rfl,rfl,rfl,rfl,trivial⟩)))))))))))
   ·replace H:=H.2 hc
    refine zBJ (te (te (be (bn (tn (zAA (g.mv rfl fun _ g=>(g.pur (zAn g rfl rfl) fun _ g=>(g.as_ rfl fun _ g=>?_)))))))))
    rw [hK_l1] at H
    exact zAG (tn ⟨(IntKind.wrap .i64 (x8+1)),g.weak ⟨rfl,rfl,rfl,rfl,rfl,trivial⟩,H⟩)
  ·rcases Classical.em ((x1<x9)) with hbr3|hbr3
   ·replace H:=H.1 hbr3
    replace g:=g.bool (b:=true) (t:=21) rfl (decide_eq_true hbr3)
    refine g.qon (by rfl) (by rfl) (g.qm rfl fun _ g=>(g.qon (by rfl) (by rfl) (g.qm rfl fun _ g=>(g.qon (by rfl) (by rfl) (g.qm rfl fun _ g=>(g.qon (by rfl) (by rfl) (g.qop (zAC g rfl rfl) H fun x25 a H g=>(g.qon (by rfl) (by rfl) (g.qop (zAI g rfl) H fun x26 a H g=>(g.qon (by rfl) (by rfl) (g.qm rfl fun _ g=>(g.qon (by rfl) (by rfl) (g.qm rfl fun _ g=>(g.qon (by rfl) (by rfl) (g.qpur (zAv g rfl rfl) fun _ g=>(g.qon (by rfl) (by rfl) (g.qop (zAC g rfl rfl) H fun x30 a H g=>(g.qon (by rfl) (by rfl) (g.qop (zAI g rfl) H fun x31 a H g=>(g.qon (by rfl) (by rfl) ?_))))))))))))))))))))
    obtain ⟨r,hc,H⟩:=H
    exact g.qcallV rfl rfl hc fun _ g=>g.qon (by rfl) (by rfl) (g.qpur (zDp g rfl rfl) fun _ g=>(g.qpur (zAj g rfl rfl) fun _ g=>(hr3 (decide (r<0)) _ H (g.weak ⟨rfl,rfl,rfl,rfl,rfl,rfl,rfl,trivial⟩))))
   ·replace H:=H.2 hbr3
    replace g:=g.bool (b:=false) (t:=21) rfl (decide_eq_false hbr3)
    exact g.qoff (by rfl) (by rfl) (by decide) (fun _ g=>(g.qoff (by rfl) (by rfl) (by decide) (fun _ g=>(g.qoff (by rfl) (by rfl) (by decide) (fun _ g=>(g.qoff (by rfl) (by rfl) (by decide) (fun _ g=>(g.qoff (by rfl) (by rfl) (by decide) (fun _ g=>(g.qoff (by rfl) (by rfl) (by decide) (fun _ g=>(g.qoff (by rfl) (by rfl) (by decide) (fun _ g=>(g.qoff (by rfl) (by rfl) (by decide) (fun _ g=>(g.qoff (by rfl) (by rfl) (by decide) (fun _ g=>(g.qoff (by rfl) (by rfl) (by decide) (fun _ g=>(g.qoff (by rfl) (by rfl) (by decide) (fun _ g=>(g.qoff (by rfl) (by rfl) (by decide) (fun _ g=>(g.qpur (zAi g rfl rfl) fun _ g=>(hr3 false _ H (g.weak ⟨rfl,rfl,rfl,rfl,rfl,rfl,rfl,trivial⟩))))))))))))))))))))))))))
 ·replace H:=H.2 hc
  exact zBJ (te (te (be (zG1 g rfl ⟨rfl,H⟩))))
def zDO (x0:Sl) (x1:Int) (x3:Value) (x12:Int) (Kl2:Int→World→Prop) (w:World):Prop:=
 Cl Tryz.prog 114 [(Sl.v x0),(.int .i64 0),(.int .i64 x12),(.int .i64 x1),x3].toArray w (fun e w=>e=.returned (.tuple [].toArray)∧(Kl2 (IntKind.wrap .i64 (x12 - 1)) w))
def zD8 (x0:Sl) (x1:Int) (x3:Value) (Ret:World→Prop) (x12:Int) (w:World) (Kl2:Int→World→Prop):Prop:=
 ((0≤x12)→(nextB w (fun w=>opP Tryz.prog Value.pointer (Instr.indexAt 22 (Sl.v x0) (.int .i64 (IntKind.wrap .i64 (x1+x12)))) (fun x46=>opP Tryz.prog Value.pointer (Instr.indexAt 22 (Sl.v x0) (.int .i64 x1)) (fun x50=>(opE Tryz.prog zAE.v (Instr.loadAt 66 (.pointer x46)) w (fun x47 w=>opE Tryz.prog zAE.v (Instr.loadAt 66 (.pointer x50)) w (fun x51 w=>opP Tryz.prog Value.pointer (Instr.indexAt 22 (Sl.v x0) (.int .i64 x1)) (fun x52=>opU Tryz.prog (Instr.storeAt 66 (.pointer x52) (zAE.v x47)) w (fun w=>opP Tryz.prog Value.pointer (Instr.indexAt 22 (Sl.v x0) (.int .i64 (IntKind.wrap .i64 (x1+x12)))) (fun x53=>opU Tryz.prog (Instr.storeAt 66 (.pointer x53) (zAE.v x51)) w (fun w=>zDO x0 x1 x3 x12 Kl2 w)))))))∧(opE Tryz.prog zAE.v (Instr.loadAt 66 (.pointer x50)) w (fun x51_1 w=>opE Tryz.prog zAE.v (Instr.loadAt 66 (.pointer x46)) w (fun x47_1 w=>opP Tryz.prog Value.pointer (Instr.indexAt 22 (Sl.v x0) (.int .i64 x1)) (fun x52_1=>opU Tryz.prog (Instr.storeAt 66 (.pointer x52_1) (zAE.v x47_1)) w (fun w=>opP Tryz.prog Value.pointer (Instr.indexAt 22 (Sl.v x0) (.int .i64 (IntKind.wrap .i64 (x1+x12)))) (fun x53_1=>opU Tryz.prog (Instr.storeAt 66 (.pointer x53_1) (zAE.v x51_1)) w (fun w=>zDO x0 x1 x3 x12 Kl2 w))))))))))))∧(¬ (0≤x12)→(Ret w))
def zD6 (x0:Sl) (x1:Int) (x2:Int) (x3:Value) (Ret:World→Prop) (x11:Int) (w:World) (Kl1:Int→World→Prop):Prop:=
 ((0≤x11)→(Cl Tryz.prog 114 [(Sl.v x0),(.int .i64 x11),(.int .i64 (IntKind.wrap .i64 (x2 - x1))),(.int .i64 x1),x3].toArray w (fun e w=>e=.returned (.tuple [].toArray)∧(Kl1 (IntKind.wrap .i64 (x11 - 1)) w))))∧(¬ (0≤x11)→(∃ (I:Int→World→Prop) (μ:Int→World→Nat),I (IntKind.wrap .i64 ((IntKind.wrap .i64 (x2 - x1)) - 1)) w∧∀ (x12:Int) w,I x12 w→zD8 x0 x1 x3 Ret x12 w (fun x12' w'=>I x12' w'∧μ x12' w'<μ x12 w)))
def zFW (x0:Sl) (x1:Int) (x2:Int) (x3:Value) (w:World) (Ret:World→Prop):Prop:=
 opE Tryz.prog (Value.int .i64) (binOp .quo 3 (.int .i64 (IntKind.wrap .i64 ((IntKind.wrap .i64 (x2 - x1)) - 1))) (.int .i64 2)) w (fun x19 w=>∃ (I:Int→World→Prop) (μ:Int→World→Nat),I x19 w∧∀ (x11:Int) w,I x11 w→zD6 x0 x1 x2 x3 Ret x11 w (fun x11' w'=>I x11' w'∧μ x11' w'<μ x11 w))
set_option maxRecDepth 100000 in
theorem zJN (x0:Sl) (x1:Int) (x2:Int) (x3:Value) (w:World) (Ret:World→Prop) (H:zFW x0 x1 x2 x3 w Ret):Cl Tryz.prog 91 [(Sl.v x0),(.int .i64 x1),(.int .i64 x2),x3].toArray w (fun e w'=>e=.returned (.tuple [].toArray)∧Ret w'):=by
 unfold zFW at H
 refine zAY 60 (zipE 0 [(Sl.v x0),(.int .i64 x1),(.int .i64 x2),x3]) Tryz.func91 rfl rfl (by rfl) rfl ?_
 intro a g
 replace g:Sat [] 60 [(0,(Sl.v x0)),(1,(.int .i64 x1)),(2,(.int .i64 x2)),(3,x3)] a:=g
 refine zAF (zAA (g.mv rfl fun _ g=>(g.as_ rfl fun _ g=>(zAG (tn (zAF (zAA (g.as_ rfl fun _ g=>(zAG (tn (zAF (zAA (g.mv rfl fun _ g=>(g.mv rfl fun _ g=>(g.pur (zAv g rfl rfl) fun _ g=>(g.as_ rfl fun _ g=>(zAG (tn (zAF (zAF (zAA (g.mv rfl fun _ g=>(g.pur (zAv g rfl rfl) fun _ g=>(g.op (zFD g rfl rfl) H fun x19 w a H g=>(g.as_ rfl fun _ g=>(zAG (tn (zAN ?_))))))))))))))))))))))))))))
 obtain ⟨I_l1,μ_l1,h0,hb⟩:=H
 refine zBl (ds:=[]) (N:=60) (σ:=Int) (fun s=>[(11,(.int .i64 s)),(0,(Sl.v x0)),(3,x3),(8,(.int .i64 x1)),(9,(.int .i64 0)),(10,(.int .i64 (IntKind.wrap .i64 (x2 - x1))))]) (fun s w=>I_l1 s w) (fun s w=>μ_l1 s w) x19 h0 (g.weak ⟨rfl,rfl,rfl,rfl,rfl,rfl,trivial⟩) ?_
 intro x11 w a hI g
 try dsimp only at hI g
 obtain ⟨Kl1,hK_l1⟩:∃ K:Int→World→Prop,K=(fun x11' w'=>I_l1 x11' w'∧μ_l1 x11' w'<μ_l1 x11 w):=⟨_,rfl⟩
 have H:zD6 x0 x1 x2 x3 Ret x11 w Kl1:=by rw [hK_l1];exact hb x11 w hI
 clear hb h0 hI
 unfold zD6 at H
 refine zAF (zAF (zAA (g.mv rfl fun _ g=>(g.pur (zF7 g rfl rfl) fun _ g=>(zAG (tn (zAR g rfl (fun hc=>?_) (fun hc=>?_))))))))
 ·replace H:=H.1 hc
  refine zAP (tn (zAF (zAN (zAA (g.mv rfl fun _ g=>(g.mv rfl fun _ g=>(g.mv rfl fun _ g=>(g.mv rfl fun _ g=>(g.mv rfl fun _ g=>(g.call (zAQ g zSn rfl rfl) H fun e w H=>?_))))))))))
  obtain ⟨rfl,H⟩:=H
  refine ⟨_,rfl,fun _ g=>(zAG (bn (tn (zAA (g.mv rfl fun _ g=>(g.pur (zAv g rfl rfl) fun _ g=>(g.as_ rfl fun _ g=>?_)))))))⟩
  rw [hK_l1] at H
  exact zAG (tn ⟨(IntKind.wrap .i64 (x11 - 1)),g.weak ⟨rfl,rfl,rfl,rfl,rfl,rfl,trivial⟩,H⟩)
 ·replace H:=H.2 hc
  refine zBJ (te (te (be (tn (zAF (zAA (g.mv rfl fun _ g=>(g.pur (zAv g rfl rfl) fun _ g=>(g.as_ rfl fun _ g=>(zAG (tn (zAN ?_))))))))))))
  obtain ⟨I_l2,μ_l2,h0,hb⟩:=H
  refine zBl (ds:=[]) (N:=60) (σ:=Int) (fun s=>[(12,(.int .i64 s)),(0,(Sl.v x0)),(3,x3),(8,(.int .i64 x1)),(9,(.int .i64 0))]) (fun s w=>I_l2 s w) (fun s w=>μ_l2 s w) (IntKind.wrap .i64 ((IntKind.wrap .i64 (x2 - x1)) - 1)) h0 (g.weak ⟨rfl,rfl,rfl,rfl,rfl,trivial⟩) ?_
  intro x12 w a hI g
  try dsimp only at hI g
  obtain ⟨Kl2,hK_l2⟩:∃ K:Int→World→Prop,K=(fun x12' w'=>I_l2 x12' w'∧μ_l2 x12' w'<μ_l2 x12 w):=⟨_,rfl⟩
  have H:zD8 x0 x1 x3 Ret x12 w Kl2:=by rw [hK_l2];exact hb x12 w hI
  clear hb h0 hI
  unfold zD8 at H
  refine zAF (zAF (zAA (g.mv rfl fun _ g=>(g.pur (zF7 g rfl rfl) fun _ g=>(zAG (tn (zAR g rfl (fun hc=>?_) (fun hc=>?_))))))))
  ·replace H:=H.1 hc
   refine zAP (tn (zAF (zAN (zBG (ds:=[]) (N:=60) (σ:=Unit) (fun s=>[(0,(Sl.v x0)),(3,x3),(8,(.int .i64 x1)),(9,(.int .i64 0)),(12,(.int .i64 x12))]) (fun s w=>zDO x0 x1 x3 x12 Kl2 w) ?_ (fun hj3=>?_)))))
   ·rintro ⟨⟩ w a H g
    try dsimp only at H g
    unfold zDO at H
    refine zAA (g.mv rfl fun _ g=>(g.mv rfl fun _ g=>(g.mv rfl fun _ g=>(g.mv rfl fun _ g=>(g.mv rfl fun _ g=>(g.call (zAQ g zSn rfl rfl) H fun e w H=>?_))))))
    obtain ⟨rfl,H⟩:=H
    refine ⟨_,rfl,fun _ g=>(zAG (bn (tn (zAA (g.mv rfl fun _ g=>(g.pur (zAv g rfl rfl) fun _ g=>(g.as_ rfl fun _ g=>?_)))))))⟩
    rw [hK_l2] at H
    exact zAG (tn ⟨(IntKind.wrap .i64 (x12 - 1)),g.weak ⟨rfl,rfl,rfl,rfl,rfl,trivial⟩,H⟩)
   ·refine zKK 20 fun w hB=>?_
    replace H:=H w hB
    refine g.ap 0 rfl (zAL g rfl) fun _ g=>g.ap 1 rfl (zAL g rfl) fun _ g=>g.ap 2 rfl (zAL g rfl) fun _ g=>g.ap 3 rfl (zAL g rfl) fun _ g=>g.ap 4 rfl (zAL g rfl) fun _ g=>g.ap 5 rfl (zAn g rfl rfl) fun _ g=>g.ap 6 rfl (zAL g rfl) fun _ g=>g.ap 7 rfl (zAL g rfl) fun _ g=>g.ap 8 rfl (zAL g rfl) fun _ g=>g.ap 9 rfl (zAn g rfl rfl) fun _ g=>g.ao 10 rfl (zAC g rfl rfl) H fun x46 a H g=>g.ap 12 rfl (zAL g rfl) fun _ g=>g.ap 13 rfl (zAL g rfl) fun _ g=>g.ao 14 rfl (zAC g rfl rfl) H fun x50 a H g=>WA.tw 11 15 rfl rfl ?_ ?_
    ·replace H:=H.1
     intro K hK
     exact g.wop (zAI g rfl) H fun x47 w a H g=>hK _ _ (g.o1 15 rfl (zAI g rfl) H fun x51 w a H g=>(g.ao 16 rfl (zAC g rfl rfl) H fun x52 a H g=>(g.o1u 17 rfl (zAM g rfl rfl) H fun w a H g=>(g.ao 18 rfl (zAC g rfl rfl) H fun x53 a H g=>(g.o1u 19 rfl (zAM g rfl rfl) H fun w a H g=>(WA.ni ((tn (hj3 () _ _ H (g.weak ⟨rfl,rfl,rfl,rfl,rfl,trivial⟩))))))))))
    ·replace H:=H.2
     intro K hK
     exact g.wop (zAI g rfl) H fun x51_1 w a H g=>hK _ _ (g.o1 11 rfl (zAI g rfl) H fun x47_1 w a H g=>(g.ao 16 rfl (zAC g rfl rfl) H fun x52_1 a H g=>(g.o1u 17 rfl (zAM g rfl rfl) H fun w a H g=>(g.ao 18 rfl (zAC g rfl rfl) H fun x53_1 a H g=>(g.o1u 19 rfl (zAM g rfl rfl) H fun w a H g=>(WA.ni ((tn (hj3 () _ _ H (g.weak ⟨rfl,rfl,rfl,rfl,rfl,trivial⟩))))))))))
  ·replace H:=H.2 hc
   exact zBJ (te (te (be (zG1 g rfl ⟨rfl,H⟩))))
def zBW (Ret:Int→Int→World→Prop) (x11:Option Addr) (x13:Int) (w:World):Prop:=
 opE Tryz.prog (Value.int .i64) (Instr.loadAt 3 (.pointer x11)) w (fun x55 w=>((x55=0)→(Ret x13 1 w))∧(¬ (x55=0)→(((x55=12)→(Ret x13 2 w))∧(¬ (x55=12)→(Ret x13 0 w)))))
def zBY (x0:Sl) (x3:Value) (Ret:Int→Int→World→Prop) (x11:Option Addr) (x12:Int) (x13_1:Int) (x14:Int) (w:World):Prop:=
 Cl Tryz.prog 118 [(Sl.v x0),(.int .i64 x12),(.int .i64 x13_1),(.int .i64 x14),(.pointer x11),x3].toArray w (fun e w=>∃ (r:Int),e=.returned (.int .i64 r)∧(zBW Ret x11 r w))
def zE3 (x0:Sl) (x1:Int) (x2:Int) (x3:Value) (w:World) (Ret:Int→Int→World→Prop):Prop:=
 opE Tryz.prog Value.pointer (Instr.alloc 3 true (.tuple #[])) w (fun x11 w=>opE Tryz.prog (Value.int .i64) (binOp .quo 3 (.int .i64 (IntKind.wrap .i64 (x2 - x1))) (.int .i64 4)) w (fun x20 w=>opE Tryz.prog (Value.int .i64) (binOp .quo 3 (.int .i64 (IntKind.wrap .i64 (x2 - x1))) (.int .i64 4)) w (fun x25 w=>opE Tryz.prog (Value.int .i64) (binOp .quo 3 (.int .i64 (IntKind.wrap .i64 (x2 - x1))) (.int .i64 4)) w (fun x30 w=>((8≤(IntKind.wrap .i64 (x2 - x1)))→(((50≤(IntKind.wrap .i64 (x2 - x1)))→(Cl Tryz.prog 117 [(Sl.v x0),(.int .i64 (IntKind.wrap .i64 (x1+(IntKind.wrap .i64 (x20*1))))),(.pointer x11),x3].toArray w (fun e w=>∃ (r_1:Int),e=.returned (.int .i64 r_1)∧(Cl Tryz.prog 117 [(Sl.v x0),(.int .i64 (IntKind.wrap .i64 (x1+(IntKind.wrap .i64 (x25*2))))),(.pointer x11),x3].toArray w (fun e w=>∃ (r_2:Int),e=.returned (.int .i64 r_2)∧(Cl Tryz.prog 117 [(Sl.v x0),(.int .i64 (IntKind.wrap .i64 (x1+(IntKind.wrap .i64 (x30*3))))),(.pointer x11),x3].toArray w (fun e w=>∃ (r_3:Int),e=.returned (.int .i64 r_3)∧(zBY x0 x3 Ret x11 r_1 r_2 r_3 w))))))))∧(¬ (50≤(IntKind.wrap .i64 (x2 - x1)))→(zBY x0 x3 Ret x11 (IntKind.wrap .i64 (x1+(IntKind.wrap .i64 (x20*1)))) (IntKind.wrap .i64 (x1+(IntKind.wrap .i64 (x25*2)))) (IntKind.wrap .i64 (x1+(IntKind.wrap .i64 (x30*3)))) w))))∧(¬ (8≤(IntKind.wrap .i64 (x2 - x1)))→(zBW Ret x11 (IntKind.wrap .i64 (x1+(IntKind.wrap .i64 (x25*2)))) w))))))
set_option maxRecDepth 100000 in
theorem zIf (x0:Sl) (x1:Int) (x2:Int) (x3:Value) (w:World) (Ret:Int→Int→World→Prop) (H:zE3 x0 x1 x2 x3 w Ret):Cl Tryz.prog 93 [(Sl.v x0),(.int .i64 x1),(.int .i64 x2),x3].toArray w (fun e w'=>∃ (r0:Int) (r1:Int),e=.returned (.tuple [(.int .i64 r0),(.int .i64 r1)].toArray)∧Ret r0 r1 w'):=by
 unfold zE3 at H
 refine zAY 63 (zipE 0 [(Sl.v x0),(.int .i64 x1),(.int .i64 x2),x3]) Tryz.func93 rfl rfl (by rfl) rfl ?_
 intro a g
 replace g:Sat [] 63 [(0,(Sl.v x0)),(1,(.int .i64 x1)),(2,(.int .i64 x2)),(3,x3)] a:=g
 refine zAF (zAA (g.as_ rfl fun _ g=>(g.as_ rfl fun _ g=>(zAG (tn (zAF (zAA (g.mv rfl fun _ g=>(g.mv rfl fun _ g=>(g.pur (zAv g rfl rfl) fun _ g=>(g.as_ rfl fun _ g=>(zAG (tn (zAF (zAA (g.op (zEH) H fun x11 w a H g=>(zAG (tn (zAF (zAA (g.mv rfl fun _ g=>(g.mv rfl fun _ g=>(g.op (zFD g rfl rfl) H fun x20 w a H g=>(g.pur (zLJ g rfl rfl) fun _ g=>(g.pur (zAn g rfl rfl) fun _ g=>(g.as_ rfl fun _ g=>(zAG (tn (zAF (zAA (g.mv rfl fun _ g=>(g.mv rfl fun _ g=>(g.op (zFD g rfl rfl) H fun x25 w a H g=>(g.pur (zLJ g rfl rfl) fun _ g=>(g.pur (zAn g rfl rfl) fun _ g=>(g.as_ rfl fun _ g=>(zAG (tn (zAF (zAA (g.mv rfl fun _ g=>(g.mv rfl fun _ g=>(g.op (zFD g rfl rfl) H fun x30 w a H g=>(g.pur (zLJ g rfl rfl) fun _ g=>(g.pur (zAn g rfl rfl) fun _ g=>(g.as_ rfl fun _ g=>(zAG (tn (zBG (ds:=[]) (N:=63) (σ:=Int) (fun s=>[(13,(.int .i64 s)),(11,(.pointer x11))]) (fun s w=>zBW Ret x11 s w) ?_ (fun hj1=>?_))))))))))))))))))))))))))))))))))))))))))))))))))
 ·intro x13 w a H g
  try dsimp only at H g
  unfold zBW at H
  refine zAF (zAA (g.op (zAI g rfl) H fun x55 w a H g=>(zAG (tn (zAN (zAF (zAA (g.pur (zGX g rfl rfl) fun _ g=>(g.as_ rfl fun _ g=>(zAG (tn (zAR g rfl (fun hc=>?_) (fun hc=>?_)))))))))))))
  ·replace H:=H.1 hc
   exact zAF (zAA (g.mv rfl fun _ g=>(g.as_ rfl fun _ g=>(g.as_ rfl fun _ g=>(zAG (tn (zAf (br (zFz g rfl rfl rfl ⟨_,_,rfl,H⟩)))))))))
  ·replace H:=H.2 hc
   refine zAF (zAA (g.pur (zGX g rfl rfl) fun _ g=>(g.as_ rfl fun _ g=>(zAG (tn (zAR g rfl (fun hc=>?_) (fun hc=>?_)))))))
   ·replace H:=H.1 hc
    exact zAF (zAA (g.mv rfl fun _ g=>(g.as_ rfl fun _ g=>(g.as_ rfl fun _ g=>(zAG (tn (zAf (br (zFz g rfl rfl rfl ⟨_,_,rfl,H⟩)))))))))
   ·replace H:=H.2 hc
    exact zAF (zAA (g.mv rfl fun _ g=>(g.as_ rfl fun _ g=>(g.as_ rfl fun _ g=>(zAG (tn (zAf (br (zFz g rfl rfl rfl ⟨_,_,rfl,H⟩)))))))))
 ·refine zAF (zAA (g.mv rfl fun _ g=>(g.pur (zF7 g rfl rfl) fun _ g=>(zAG (tn (zAR g rfl (fun hc=>?_) (fun hc=>?_)))))))
  ·replace H:=H.1 hc
   refine zBG (ds:=[]) (N:=63) (σ:=Int × Int × Int) (fun s=>[(12,(.int .i64 s.1)),(13,(.int .i64 s.2.1)),(14,(.int .i64 s.2.2)),(0,(Sl.v x0)),(3,x3),(11,(.pointer x11))]) (fun s w=>zBY x0 x3 Ret x11 s.1 s.2.1 s.2.2 w) ?_ (fun hj2=>?_)
   ·rintro ⟨x12,x13_1,x14⟩ w a H g
    try dsimp only at H g
    unfold zBY at H
    refine zAA (g.mv rfl fun _ g=>(g.mv rfl fun _ g=>(g.mv rfl fun _ g=>(g.mv rfl fun _ g=>(g.mv rfl fun _ g=>(g.call (zAQ g zSl rfl rfl) H fun e w H=>?_))))))
    obtain ⟨r,rfl,H⟩:=H
    exact ⟨_,rfl,fun _ g=>(g.as_ rfl fun _ g=>(zAG (tn (hj1 r _ _ H (g.weak ⟨rfl,rfl,trivial⟩)))))⟩
   ·refine zAF (zAA (g.mv rfl fun _ g=>(g.pur (zF7 g rfl rfl) fun _ g=>(zAG (tn (zAR g rfl (fun hc=>?_) (fun hc=>?_)))))))
    ·replace H:=H.1 hc
     refine zAF (zAA (g.mv rfl fun _ g=>(g.mv rfl fun _ g=>(g.mv rfl fun _ g=>(g.call (zAQ g zQ8 rfl rfl) H fun e w H=>?_)))))
     obtain ⟨r_1,rfl,H⟩:=H
     refine ⟨_,rfl,fun _ g=>(g.as_ rfl fun _ g=>(zAG (tn (zAF (zAA (g.mv rfl fun _ g=>(g.mv rfl fun _ g=>(g.mv rfl fun _ g=>(g.call (zAQ g zQ8 rfl rfl) H fun e w H=>?_)))))))))⟩
     obtain ⟨r_2,rfl,H⟩:=H
     refine ⟨_,rfl,fun _ g=>(g.as_ rfl fun _ g=>(zAG (tn (zAA (g.mv rfl fun _ g=>(g.mv rfl fun _ g=>(g.mv rfl fun _ g=>(g.call (zAQ g zQ8 rfl rfl) H fun e w H=>?_))))))))⟩
     obtain ⟨r_3,rfl,H⟩:=H
     exact ⟨_,rfl,fun _ g=>(g.as_ rfl fun _ g=>(zAG (tn (hj2 (r_1,r_2,r_3) _ _ H (g.weak ⟨rfl,rfl,rfl,rfl,rfl,rfl,trivial⟩)))))⟩
    ·replace H:=H.2 hc
     exact zAP (tn (hj2 ((IntKind.wrap .i64 (x1+(IntKind.wrap .i64 (x20*1)))),(IntKind.wrap .i64 (x1+(IntKind.wrap .i64 (x25*2)))),(IntKind.wrap .i64 (x1+(IntKind.wrap .i64 (x30*3))))) _ _ H (g.weak ⟨rfl,rfl,rfl,rfl,rfl,rfl,trivial⟩)))
  ·replace H:=H.2 hc
   exact zAP (tn (hj1 (IntKind.wrap .i64 (x1+(IntKind.wrap .i64 (x25*2)))) _ _ H (g.weak ⟨rfl,rfl,trivial⟩)))
def zCZ (x8:Int) (x9:Int) (Kl1:Int→Int→World→Prop) (w:World):Prop:=
 Kl1 (IntKind.wrap .i64 (x8+1)) (IntKind.wrap .i64 (x9 - 1)) w
def zDe (x0:Sl) (Ret:World→Prop) (x8:Int) (x9:Int) (w:World) (Kl1:Int→Int→World→Prop):Prop:=
 ((x8<x9)→(nextB w (fun w=>opP Tryz.prog Value.pointer (Instr.indexAt 22 (Sl.v x0) (.int .i64 x9)) (fun x22=>opP Tryz.prog Value.pointer (Instr.indexAt 22 (Sl.v x0) (.int .i64 x8)) (fun x26=>(opE Tryz.prog zAE.v (Instr.loadAt 66 (.pointer x22)) w (fun x23 w=>opE Tryz.prog zAE.v (Instr.loadAt 66 (.pointer x26)) w (fun x27 w=>opP Tryz.prog Value.pointer (Instr.indexAt 22 (Sl.v x0) (.int .i64 x8)) (fun x28=>opU Tryz.prog (Instr.storeAt 66 (.pointer x28) (zAE.v x23)) w (fun w=>opP Tryz.prog Value.pointer (Instr.indexAt 22 (Sl.v x0) (.int .i64 x9)) (fun x29=>opU Tryz.prog (Instr.storeAt 66 (.pointer x29) (zAE.v x27)) w (fun w=>zCZ x8 x9 Kl1 w)))))))∧(opE Tryz.prog zAE.v (Instr.loadAt 66 (.pointer x26)) w (fun x27_1 w=>opE Tryz.prog zAE.v (Instr.loadAt 66 (.pointer x22)) w (fun x23_1 w=>opP Tryz.prog Value.pointer (Instr.indexAt 22 (Sl.v x0) (.int .i64 x8)) (fun x28_1=>opU Tryz.prog (Instr.storeAt 66 (.pointer x28_1) (zAE.v x23_1)) w (fun w=>opP Tryz.prog Value.pointer (Instr.indexAt 22 (Sl.v x0) (.int .i64 x9)) (fun x29_1=>opU Tryz.prog (Instr.storeAt 66 (.pointer x29_1) (zAE.v x27_1)) w (fun w=>zCZ x8 x9 Kl1 w))))))))))))∧(¬ (x8<x9)→(Ret w))
def zEo (x0:Sl) (x1:Int) (x2:Int) (x3:Value) (w:World) (Ret:World→Prop):Prop:=
 ∃ (I:Int→Int→World→Prop) (μ:Int→Int→World→Nat),I x1 (IntKind.wrap .i64 (x2 - 1)) w∧∀ (x8:Int) (x9:Int) w,I x8 x9 w→zDe x0 Ret x8 x9 w (fun x8' x9' w'=>I x8' x9' w'∧μ x8' x9' w'<μ x8 x9 w)
set_option maxRecDepth 100000 in
theorem zIC (x0:Sl) (x1:Int) (x2:Int) (x3:Value) (w:World) (Ret:World→Prop) (H:zEo x0 x1 x2 x3 w Ret):Cl Tryz.prog 94 [(Sl.v x0),(.int .i64 x1),(.int .i64 x2),x3].toArray w (fun e w'=>e=.returned (.tuple [].toArray)∧Ret w'):=by
 unfold zEo at H
 refine zAY 34 (zipE 0 [(Sl.v x0),(.int .i64 x1),(.int .i64 x2),x3]) Tryz.func94 rfl rfl (by rfl) rfl ?_
 intro a g
 replace g:Sat [] 34 [(0,(Sl.v x0)),(1,(.int .i64 x1)),(2,(.int .i64 x2)),(3,x3)] a:=g
 refine zAF (zAA (g.mv rfl fun _ g=>(g.as_ rfl fun _ g=>(zAG (tn (zAF (zAA (g.mv rfl fun _ g=>(g.pur (zAv g rfl rfl) fun _ g=>(g.as_ rfl fun _ g=>(zAG (tn (zAN ?_)))))))))))))
 obtain ⟨I_l1,μ_l1,h0,hb⟩:=H
 refine zBl (ds:=[]) (N:=34) (σ:=Int × Int) (fun s=>[(8,(.int .i64 s.1)),(9,(.int .i64 s.2)),(0,(Sl.v x0))]) (fun s w=>I_l1 s.1 s.2 w) (fun s w=>μ_l1 s.1 s.2 w) (x1,(IntKind.wrap .i64 (x2 - 1))) h0 (g.weak ⟨rfl,rfl,rfl,trivial⟩) ?_
 rintro ⟨x8,x9⟩ w a hI g
 try dsimp only at hI g
 obtain ⟨Kl1,hK_l1⟩:∃ K:Int→Int→World→Prop,K=(fun x8' x9' w'=>I_l1 x8' x9' w'∧μ_l1 x8' x9' w'<μ_l1 x8 x9 w):=⟨_,rfl⟩
 have H:zDe x0 Ret x8 x9 w Kl1:=by rw [hK_l1];exact hb x8 x9 w hI
 clear hb h0 hI
 unfold zDe at H
 refine zAF (zAF (zAA (g.mv rfl fun _ g=>(g.mv rfl fun _ g=>(g.pur (zDp g rfl rfl) fun _ g=>(zAG (tn (zAR g rfl (fun hc=>?_) (fun hc=>?_)))))))))
 ·replace H:=H.1 hc
  refine zAP (tn (zAN (zBG (ds:=[]) (N:=34) (σ:=Unit) (fun s=>[(0,(Sl.v x0)),(8,(.int .i64 x8)),(9,(.int .i64 x9))]) (fun s w=>zCZ x8 x9 Kl1 w) ?_ (fun hj2=>?_))))
  ·rintro ⟨⟩ w a H g
   try dsimp only at H g
   unfold zCZ at H
   refine zAF (zAA (g.mv rfl fun _ g=>(g.pur (zAn g rfl rfl) fun _ g=>(g.as_ rfl fun _ g=>(zAG (tn (zAA (g.mv rfl fun _ g=>(g.pur (zAv g rfl rfl) fun _ g=>(g.as_ rfl fun _ g=>?_))))))))))
   rw [hK_l1] at H
   exact zAG (bn (tn ⟨((IntKind.wrap .i64 (x8+1)),(IntKind.wrap .i64 (x9 - 1))),g.weak ⟨rfl,rfl,rfl,trivial⟩,H⟩))
  ·refine zKK 16 fun w hB=>?_
   replace H:=H w hB
   refine g.ap 0 rfl (zAL g rfl) fun _ g=>g.ap 1 rfl (zAL g rfl) fun _ g=>g.ap 2 rfl (zAL g rfl) fun _ g=>g.ap 3 rfl (zAL g rfl) fun _ g=>g.ap 4 rfl (zAL g rfl) fun _ g=>g.ap 5 rfl (zAL g rfl) fun _ g=>g.ao 6 rfl (zAC g rfl rfl) H fun x22 a H g=>g.ap 8 rfl (zAL g rfl) fun _ g=>g.ap 9 rfl (zAL g rfl) fun _ g=>g.ao 10 rfl (zAC g rfl rfl) H fun x26 a H g=>WA.tw 7 11 rfl rfl ?_ ?_
   ·replace H:=H.1
    intro K hK
    exact g.wop (zAI g rfl) H fun x23 w a H g=>hK _ _ (g.o1 11 rfl (zAI g rfl) H fun x27 w a H g=>(g.ao 12 rfl (zAC g rfl rfl) H fun x28 a H g=>(g.o1u 13 rfl (zAM g rfl rfl) H fun w a H g=>(g.ao 14 rfl (zAC g rfl rfl) H fun x29 a H g=>(g.o1u 15 rfl (zAM g rfl rfl) H fun w a H g=>(WA.ni ((tn (hj2 () _ _ H (g.weak ⟨rfl,rfl,rfl,trivial⟩))))))))))
   ·replace H:=H.2
    intro K hK
    exact g.wop (zAI g rfl) H fun x27_1 w a H g=>hK _ _ (g.o1 7 rfl (zAI g rfl) H fun x23_1 w a H g=>(g.ao 12 rfl (zAC g rfl rfl) H fun x28_1 a H g=>(g.o1u 13 rfl (zAM g rfl rfl) H fun w a H g=>(g.ao 14 rfl (zAC g rfl rfl) H fun x29_1 a H g=>(g.o1u 15 rfl (zAM g rfl rfl) H fun w a H g=>(WA.ni ((tn (hj2 () _ _ H (g.weak ⟨rfl,rfl,rfl,trivial⟩))))))))))
 ·replace H:=H.2 hc
  exact zBJ (te (te (be (zG1 g rfl ⟨rfl,H⟩))))
def zAe (x10:Int) (Kl1:Int→Int→World→Prop) (x9_1:Int) (w:World):Prop:=
 Kl1 x9_1 (IntKind.wrap .i64 (x10+1)) w
def zBC (x12:Int) (Kl7:Int→World→Prop) (w:World):Prop:=
 Kl7 (IntKind.wrap .i64 (x12+1)) w
def zCL (x0:Sl) (x2:Int) (x3:Value) (x10:Int) (Kl1:Int→Int→World→Prop) (x9_2:Int) (x12:Int) (w:World) (Kl7:Int→World→Prop):Prop:=
 ((x12<x2)→(opB Tryz.prog Value.pointer (Instr.indexAt 22 (Sl.v x0) (.int .i64 x12)) w (fun x115=>opB Tryz.prog zAE.v (Instr.loadAt 66 (.pointer x115)) w (fun x116=>opB Tryz.prog Value.pointer (Instr.indexAt 22 (Sl.v x0) (.int .i64 (IntKind.wrap .i64 (x12 - 1)))) w (fun x120=>opB Tryz.prog zAE.v (Instr.loadAt 66 (.pointer x120)) w (fun x121=>∃ (r:Int),CallQ Tryz.prog x3 [(zAE.v x116),(zAE.v x121)] w (.int .i64 r)∧(nextB w (fun w=>((!(decide (r<0)))=true→(zAe x10 Kl1 x9_2 w))∧((!(decide (r<0)))=false→(nextB w (fun w=>opP Tryz.prog Value.pointer (Instr.indexAt 22 (Sl.v x0) (.int .i64 (IntKind.wrap .i64 (x12 - 1)))) (fun x133=>opP Tryz.prog Value.pointer (Instr.indexAt 22 (Sl.v x0) (.int .i64 x12)) (fun x137=>(opE Tryz.prog zAE.v (Instr.loadAt 66 (.pointer x133)) w (fun x134 w=>opE Tryz.prog zAE.v (Instr.loadAt 66 (.pointer x137)) w (fun x138 w=>opP Tryz.prog Value.pointer (Instr.indexAt 22 (Sl.v x0) (.int .i64 x12)) (fun x139=>opU Tryz.prog (Instr.storeAt 66 (.pointer x139) (zAE.v x134)) w (fun w=>opP Tryz.prog Value.pointer (Instr.indexAt 22 (Sl.v x0) (.int .i64 (IntKind.wrap .i64 (x12 - 1)))) (fun x140=>opU Tryz.prog (Instr.storeAt 66 (.pointer x140) (zAE.v x138)) w (fun w=>zBC x12 Kl7 w)))))))∧(opE Tryz.prog zAE.v (Instr.loadAt 66 (.pointer x137)) w (fun x138_1 w=>opE Tryz.prog zAE.v (Instr.loadAt 66 (.pointer x133)) w (fun x134_1 w=>opP Tryz.prog Value.pointer (Instr.indexAt 22 (Sl.v x0) (.int .i64 x12)) (fun x139_1=>opU Tryz.prog (Instr.storeAt 66 (.pointer x139_1) (zAE.v x134_1)) w (fun w=>opP Tryz.prog Value.pointer (Instr.indexAt 22 (Sl.v x0) (.int .i64 (IntKind.wrap .i64 (x12 - 1)))) (fun x140_1=>opU Tryz.prog (Instr.storeAt 66 (.pointer x140_1) (zAE.v x138_1)) w (fun w=>zBC x12 Kl7 w))))))))))))))))))))∧(¬ (x12<x2)→(zAe x10 Kl1 x9_2 w))
def zAZ (x0:Sl) (x2:Int) (x3:Value) (x10:Int) (Kl1:Int→Int→World→Prop) (x9_2:Int) (w:World):Prop:=
 ((2≤(IntKind.wrap .i64 (x2 - x9_2)))→(∃ (I:Int→World→Prop) (μ:Int→World→Nat),I (IntKind.wrap .i64 (x9_2+1)) w∧∀ (x12:Int) w,I x12 w→zCL x0 x2 x3 x10 Kl1 x9_2 x12 w (fun x12' w'=>I x12' w'∧μ x12' w'<μ x12 w)))∧(¬ (2≤(IntKind.wrap .i64 (x2 - x9_2)))→(zAe x10 Kl1 x9_2 w))
def zA4 (x11:Int) (Kl9:Int→World→Prop) (w:World):Prop:=
 Kl9 (IntKind.wrap .i64 (x11 - 1)) w
def zCI (x0:Sl) (x2:Int) (x3:Value) (x10:Int) (Kl1:Int→Int→World→Prop) (x9_2:Int) (x11:Int) (w:World) (Kl9:Int→World→Prop):Prop:=
 ((1≤x11)→(opB Tryz.prog Value.pointer (Instr.indexAt 22 (Sl.v x0) (.int .i64 x11)) w (fun x75=>opB Tryz.prog zAE.v (Instr.loadAt 66 (.pointer x75)) w (fun x76=>opB Tryz.prog Value.pointer (Instr.indexAt 22 (Sl.v x0) (.int .i64 (IntKind.wrap .i64 (x11 - 1)))) w (fun x80=>opB Tryz.prog zAE.v (Instr.loadAt 66 (.pointer x80)) w (fun x81=>∃ (r_1:Int),CallQ Tryz.prog x3 [(zAE.v x76),(zAE.v x81)] w (.int .i64 r_1)∧(nextB w (fun w=>((!(decide (r_1<0)))=true→(zAZ x0 x2 x3 x10 Kl1 x9_2 w))∧((!(decide (r_1<0)))=false→(nextB w (fun w=>opP Tryz.prog Value.pointer (Instr.indexAt 22 (Sl.v x0) (.int .i64 (IntKind.wrap .i64 (x11 - 1)))) (fun x93=>opP Tryz.prog Value.pointer (Instr.indexAt 22 (Sl.v x0) (.int .i64 x11)) (fun x97=>(opE Tryz.prog zAE.v (Instr.loadAt 66 (.pointer x93)) w (fun x94 w=>opE Tryz.prog zAE.v (Instr.loadAt 66 (.pointer x97)) w (fun x98 w=>opP Tryz.prog Value.pointer (Instr.indexAt 22 (Sl.v x0) (.int .i64 x11)) (fun x99=>opU Tryz.prog (Instr.storeAt 66 (.pointer x99) (zAE.v x94)) w (fun w=>opP Tryz.prog Value.pointer (Instr.indexAt 22 (Sl.v x0) (.int .i64 (IntKind.wrap .i64 (x11 - 1)))) (fun x100=>opU Tryz.prog (Instr.storeAt 66 (.pointer x100) (zAE.v x98)) w (fun w=>zA4 x11 Kl9 w)))))))∧(opE Tryz.prog zAE.v (Instr.loadAt 66 (.pointer x97)) w (fun x98_1 w=>opE Tryz.prog zAE.v (Instr.loadAt 66 (.pointer x93)) w (fun x94_1 w=>opP Tryz.prog Value.pointer (Instr.indexAt 22 (Sl.v x0) (.int .i64 x11)) (fun x99_1=>opU Tryz.prog (Instr.storeAt 66 (.pointer x99_1) (zAE.v x94_1)) w (fun w=>opP Tryz.prog Value.pointer (Instr.indexAt 22 (Sl.v x0) (.int .i64 (IntKind.wrap .i64 (x11 - 1)))) (fun x100_1=>opU Tryz.prog (Instr.storeAt 66 (.pointer x100_1) (zAE.v x98_1)) w (fun w=>zA4 x11 Kl9 w))))))))))))))))))))∧(¬ (1≤x11)→(zAZ x0 x2 x3 x10 Kl1 x9_2 w))
def zBD (x0:Sl) (x1:Int) (x2:Int) (x3:Value) (x10:Int) (Kl1:Int→Int→World→Prop) (x9_2:Int) (w:World):Prop:=
 ((2≤(IntKind.wrap .i64 (x9_2 - x1)))→(∃ (I:Int→World→Prop) (μ:Int→World→Nat),I (IntKind.wrap .i64 (x9_2 - 1)) w∧∀ (x11:Int) w,I x11 w→zCI x0 x2 x3 x10 Kl1 x9_2 x11 w (fun x11' w'=>I x11' w'∧μ x11' w'<μ x11 w)))∧(¬ (2≤(IntKind.wrap .i64 (x9_2 - x1)))→(zAZ x0 x2 x3 x10 Kl1 x9_2 w))
def zBE (x0:Sl) (x1:Int) (x2:Int) (x3:Value) (Ret:Bool→World→Prop) (x10:Int) (Kl1:Int→Int→World→Prop) (x9_2:Int) (Kl3:Int→World→Prop) (x36:Bool) (w:World):Prop:=
 nextB w (fun w=>(x36=true→(Kl3 (IntKind.wrap .i64 (x9_2+1)) w))∧(x36=false→(((x9_2=x2)→(Ret true w))∧(¬ (x9_2=x2)→((((IntKind.wrap .i64 (x2 - x1))<50)→(Ret false w))∧(¬ ((IntKind.wrap .i64 (x2 - x1))<50)→(nextB w (fun w=>opP Tryz.prog Value.pointer (Instr.indexAt 22 (Sl.v x0) (.int .i64 (IntKind.wrap .i64 (x9_2 - 1)))) (fun x54=>opP Tryz.prog Value.pointer (Instr.indexAt 22 (Sl.v x0) (.int .i64 x9_2)) (fun x58=>(opE Tryz.prog zAE.v (Instr.loadAt 66 (.pointer x54)) w (fun x55 w=>opE Tryz.prog zAE.v (Instr.loadAt 66 (.pointer x58)) w (fun x59 w=>opP Tryz.prog Value.pointer (Instr.indexAt 22 (Sl.v x0) (.int .i64 x9_2)) (fun x60=>opU Tryz.prog (Instr.storeAt 66 (.pointer x60) (zAE.v x55)) w (fun w=>opP Tryz.prog Value.pointer (Instr.indexAt 22 (Sl.v x0) (.int .i64 (IntKind.wrap .i64 (x9_2 - 1)))) (fun x61=>opU Tryz.prog (Instr.storeAt 66 (.pointer x61) (zAE.v x59)) w (fun w=>zBD x0 x1 x2 x3 x10 Kl1 x9_2 w)))))))∧(opE Tryz.prog zAE.v (Instr.loadAt 66 (.pointer x58)) w (fun x59_1 w=>opE Tryz.prog zAE.v (Instr.loadAt 66 (.pointer x54)) w (fun x55_1 w=>opP Tryz.prog Value.pointer (Instr.indexAt 22 (Sl.v x0) (.int .i64 x9_2)) (fun x60_1=>opU Tryz.prog (Instr.storeAt 66 (.pointer x60_1) (zAE.v x55_1)) w (fun w=>opP Tryz.prog Value.pointer (Instr.indexAt 22 (Sl.v x0) (.int .i64 (IntKind.wrap .i64 (x9_2 - 1)))) (fun x61_1=>opU Tryz.prog (Instr.storeAt 66 (.pointer x61_1) (zAE.v x59_1)) w (fun w=>zBD x0 x1 x2 x3 x10 Kl1 x9_2 w)))))))))))))))))
def zCJ (x0:Sl) (x1:Int) (x2:Int) (x3:Value) (Ret:Bool→World→Prop) (x10:Int) (Kl1:Int→Int→World→Prop) (x9_2:Int) (w:World) (Kl3:Int→World→Prop):Prop:=
 ((x9_2<x2)→(opB Tryz.prog Value.pointer (Instr.indexAt 22 (Sl.v x0) (.int .i64 x9_2)) w (fun x26=>opB Tryz.prog zAE.v (Instr.loadAt 66 (.pointer x26)) w (fun x27=>opB Tryz.prog Value.pointer (Instr.indexAt 22 (Sl.v x0) (.int .i64 (IntKind.wrap .i64 (x9_2 - 1)))) w (fun x31=>opB Tryz.prog zAE.v (Instr.loadAt 66 (.pointer x31)) w (fun x32=>∃ (r_2:Int),CallQ Tryz.prog x3 [(zAE.v x27),(zAE.v x32)] w (.int .i64 r_2)∧(zBE x0 x1 x2 x3 Ret x10 Kl1 x9_2 Kl3 (!(decide (r_2<0))) w)))))))∧(¬ (x9_2<x2)→(zBE x0 x1 x2 x3 Ret x10 Kl1 x9_2 Kl3 false w))
def zCK (x0:Sl) (x1:Int) (x2:Int) (x3:Value) (Ret:Bool→World→Prop) (x9:Int) (x10:Int) (w:World) (Kl1:Int→Int→World→Prop):Prop:=
 ((x10<5)→(∃ (I:Int→World→Prop) (μ:Int→World→Nat),I x9 w∧∀ (x9_2:Int) w,I x9_2 w→zCJ x0 x1 x2 x3 Ret x10 Kl1 x9_2 w (fun x9_2' w'=>I x9_2' w'∧μ x9_2' w'<μ x9_2 w)))∧(¬ (x10<5)→(Ret false w))
def zEA (x0:Sl) (x1:Int) (x2:Int) (x3:Value) (w:World) (Ret:Bool→World→Prop):Prop:=
 ∃ (I:Int→Int→World→Prop) (μ:Int→Int→World→Nat),I (IntKind.wrap .i64 (x1+1)) 0 w∧∀ (x9:Int) (x10:Int) w,I x9 x10 w→zCK x0 x1 x2 x3 Ret x9 x10 w (fun x9' x10' w'=>I x9' x10' w'∧μ x9' x10' w'<μ x9 x10 w)
set_option maxRecDepth 100000 in
theorem zGn (x0:Sl) (x1:Int) (x2:Int) (x3:Value) (w:World) (Ret:Bool→World→Prop) (H:zEA x0 x1 x2 x3 w Ret):Cl Tryz.prog 95 [(Sl.v x0),(.int .i64 x1),(.int .i64 x2),x3].toArray w (fun e w'=>∃ (r0:Bool),e=.returned (.bool r0)∧Ret r0 w'):=by
 unfold zEA at H
 refine zAY 141 (zipE 0 [(Sl.v x0),(.int .i64 x1),(.int .i64 x2),x3]) Tryz.func95 rfl rfl (by rfl) rfl ?_
 intro a g
 replace g:Sat [] 141 [(0,(Sl.v x0)),(1,(.int .i64 x1)),(2,(.int .i64 x2)),(3,x3)] a:=g
 refine zAF (zAA (g.as_ rfl fun _ g=>(zAG (tn (zAF (zAA (g.mv rfl fun _ g=>(g.pur (zAn g rfl rfl) fun _ g=>(g.as_ rfl fun _ g=>(zAG (tn (zAF (zAF (zAA (g.as_ rfl fun _ g=>(zAG (tn (zAN ?_))))))))))))))))))
 obtain ⟨I_l1,μ_l1,h0,hb⟩:=H
 refine zBl (ds:=[]) (N:=141) (σ:=Int × Int) (fun s=>[(9,(.int .i64 s.1)),(10,(.int .i64 s.2)),(0,(Sl.v x0)),(1,(.int .i64 x1)),(2,(.int .i64 x2)),(3,x3)]) (fun s w=>I_l1 s.1 s.2 w) (fun s w=>μ_l1 s.1 s.2 w) ((IntKind.wrap .i64 (x1+1)),0) h0 (g.weak ⟨rfl,rfl,rfl,rfl,rfl,rfl,trivial⟩) ?_
 rintro ⟨x9,x10⟩ w a hI g
 try dsimp only at hI g
 obtain ⟨Kl1,hK_l1⟩:∃ K:Int→Int→World→Prop,K=(fun x9' x10' w'=>I_l1 x9' x10' w'∧μ_l1 x9' x10' w'<μ_l1 x9 x10 w):=⟨_,rfl⟩
 have H:zCK x0 x1 x2 x3 Ret x9 x10 w Kl1:=by rw [hK_l1];exact hb x9 x10 w hI
 clear hb h0 hI
 unfold zCK at H
 refine zAF (zAF (zAA (g.mv rfl fun _ g=>(g.pur (zDp g rfl rfl) fun _ g=>(zAG (tn (zAR g rfl (fun hc=>?_) (fun hc=>?_))))))))
 ·replace H:=H.1 hc
  refine zAP (tn (zBG (ds:=[]) (N:=141) (σ:=Int) (fun s=>[(9,(.int .i64 s)),(0,(Sl.v x0)),(1,(.int .i64 x1)),(2,(.int .i64 x2)),(3,x3),(10,(.int .i64 x10))]) (fun s w=>zAe x10 Kl1 s w) ?_ (fun hj2=>?_)))
  ·intro x9_1 w a H g
   try dsimp only at H g
   unfold zAe at H
   refine zAA (g.mv rfl fun _ g=>(g.pur (zAn g rfl rfl) fun _ g=>(g.as_ rfl fun _ g=>?_)))
   rw [hK_l1] at H
   exact zAG (tn ⟨(x9_1,(IntKind.wrap .i64 (x10+1))),g.weak ⟨rfl,rfl,rfl,rfl,rfl,rfl,trivial⟩,H⟩)
  ·refine zAN (zAF (zAN ?_))
   obtain ⟨I_l3,μ_l3,h0,hb⟩:=H
   refine zBl (ds:=[]) (N:=141) (σ:=Int) (fun s=>[(9,(.int .i64 s)),(0,(Sl.v x0)),(1,(.int .i64 x1)),(2,(.int .i64 x2)),(3,x3),(10,(.int .i64 x10))]) (fun s w=>I_l3 s w) (fun s w=>μ_l3 s w) x9 h0 (g.weak ⟨rfl,rfl,rfl,rfl,rfl,rfl,trivial⟩) ?_
   intro x9_2 w a hI g
   try dsimp only at hI g
   obtain ⟨Kl3,hK_l3⟩:∃ K:Int→World→Prop,K=(fun x9_2' w'=>I_l3 x9_2' w'∧μ_l3 x9_2' w'<μ_l3 x9_2 w):=⟨_,rfl⟩
   have H:zCJ x0 x1 x2 x3 Ret x10 Kl1 x9_2 w Kl3:=by rw [hK_l3];exact hb x9_2 w hI
   clear hb h0 hI
   unfold zCJ at H
   refine zAF (zAF (zEB (by kernel_rfl) (by kernel_rfl) (g.qm rfl fun _ g=>(g.qm rfl fun _ g=>(g.qpur (zDp g rfl rfl) fun _ g=>(g.qm rfl fun _ g=>(WQ.join (ds:=[]) (N:=141) (σ:=Bool) (fun s=>[(36,(.bool s)),(0,(Sl.v x0)),(1,(.int .i64 x1)),(2,(.int .i64 x2)),(3,x3),(9,(.int .i64 x9_2)),(10,(.int .i64 x10))]) (fun s=>zBE x0 x1 x2 x3 Ret x10 Kl1 x9_2 Kl3 s w) 14 ?_ (fun hr4=>?_))))))))
   ·intro x36 a H g
    try dsimp only at H g
    unfold zBE at H
    refine zED (fun w hB=>?_)
    replace H:=H w hB
    refine (tn (zAV g rfl (fun hc=>?_) (fun hc=>?_)))
    ·replace H:=H.1 hc
     refine zAP (tn (zAN (zAA (g.mv rfl fun _ g=>(g.pur (zAn g rfl rfl) fun _ g=>(g.as_ rfl fun _ g=>?_))))))
     rw [hK_l3] at H
     exact zAG (bn (tn ⟨(IntKind.wrap .i64 (x9_2+1)),g.weak ⟨rfl,rfl,rfl,rfl,rfl,rfl,trivial⟩,H⟩))
    ·replace H:=H.2 hc
     refine zBJ (te (te (be (tn (zAF (zAF (zAA (g.mv rfl fun _ g=>(g.mv rfl fun _ g=>(g.pur (zGX g rfl rfl) fun _ g=>(zAG (tn (zAR g rfl (fun hc=>?_) (fun hc=>?_))))))))))))))
     ·replace H:=H.1 hc
      exact zAF (zAA (g.as_ rfl fun _ g=>(zAG (tn (zAf (tr (br (tr (tr (br (tr (zAt g rfl rfl ⟨_,rfl,H⟩))))))))))))
     ·replace H:=H.2 hc
      refine zAP (tn (zAF (zAF (zAA (g.mv rfl fun _ g=>(g.mv rfl fun _ g=>(g.pur (zAv g rfl rfl) fun _ g=>(g.pur (zDp g rfl rfl) fun _ g=>(zAG (tn (zAR g rfl (fun hc=>?_) (fun hc=>?_))))))))))))
      ·replace H:=H.1 hc
       exact zAF (zAA (g.as_ rfl fun _ g=>(zAG (tn (zAf (tr (br (tr (tr (br (tr (zAt g rfl rfl ⟨_,rfl,H⟩))))))))))))
      ·replace H:=H.2 hc
       refine zAP (tn (zBG (ds:=[]) (N:=141) (σ:=Unit) (fun s=>[(0,(Sl.v x0)),(1,(.int .i64 x1)),(2,(.int .i64 x2)),(3,x3),(9,(.int .i64 x9_2)),(10,(.int .i64 x10))]) (fun s w=>zBD x0 x1 x2 x3 x10 Kl1 x9_2 w) ?_ (fun hj5=>?_)))
       ·rintro ⟨⟩ w a H g
        try dsimp only at H g
        unfold zBD at H
        refine zBG (ds:=[]) (N:=141) (σ:=Unit) (fun s=>[(0,(Sl.v x0)),(1,(.int .i64 x1)),(2,(.int .i64 x2)),(3,x3),(9,(.int .i64 x9_2)),(10,(.int .i64 x10))]) (fun s w=>zAZ x0 x2 x3 x10 Kl1 x9_2 w) ?_ (fun hj6=>?_)
        ·rintro ⟨⟩ w a H g
         try dsimp only at H g
         unfold zAZ at H
         refine zAF (zAA (g.mv rfl fun _ g=>(g.mv rfl fun _ g=>(g.pur (zAv g rfl rfl) fun _ g=>(g.pur (zF7 g rfl rfl) fun _ g=>(zAG (tn (zAR g rfl (fun hc=>?_) (fun hc=>?_)))))))))
         ·replace H:=H.1 hc
          refine zAF (zAA (g.mv rfl fun _ g=>(g.pur (zAn g rfl rfl) fun _ g=>(g.as_ rfl fun _ g=>(zAG (tn (zAN ?_)))))))
          obtain ⟨I_l7,μ_l7,h0,hb⟩:=H
          refine zBl (ds:=[]) (N:=141) (σ:=Int) (fun s=>[(12,(.int .i64 s)),(0,(Sl.v x0)),(1,(.int .i64 x1)),(2,(.int .i64 x2)),(3,x3),(9,(.int .i64 x9_2)),(10,(.int .i64 x10))]) (fun s w=>I_l7 s w) (fun s w=>μ_l7 s w) (IntKind.wrap .i64 (x9_2+1)) h0 (g.weak ⟨rfl,rfl,rfl,rfl,rfl,rfl,rfl,trivial⟩) ?_
          intro x12 w a hI g
          try dsimp only at hI g
          obtain ⟨Kl7,hK_l7⟩:∃ K:Int→World→Prop,K=(fun x12' w'=>I_l7 x12' w'∧μ_l7 x12' w'<μ_l7 x12 w):=⟨_,rfl⟩
          have H:zCL x0 x2 x3 x10 Kl1 x9_2 x12 w Kl7:=by rw [hK_l7];exact hb x12 w hI
          clear hb h0 hI
          unfold zCL at H
          refine zAF (zAF (zAA (g.mv rfl fun _ g=>(g.mv rfl fun _ g=>(g.pur (zDp g rfl rfl) fun _ g=>(zAG (tn (zAR g rfl (fun hc=>?_) (fun hc=>?_)))))))))
          ·replace H:=H.1 hc
           refine zAP (tn (zBG (ds:=[]) (N:=141) (σ:=Unit) (fun s=>[(0,(Sl.v x0)),(1,(.int .i64 x1)),(2,(.int .i64 x2)),(3,x3),(9,(.int .i64 x9_2)),(10,(.int .i64 x10)),(12,(.int .i64 x12))]) (fun s w=>zBC x12 Kl7 w) ?_ (fun hj8=>?_)))
           ·rintro ⟨⟩ w a H g
            try dsimp only at H g
            unfold zBC at H
            refine zAA (g.mv rfl fun _ g=>(g.pur (zAn g rfl rfl) fun _ g=>(g.as_ rfl fun _ g=>?_)))
            rw [hK_l7] at H
            exact zAG (tn ⟨(IntKind.wrap .i64 (x12+1)),g.weak ⟨rfl,rfl,rfl,rfl,rfl,rfl,rfl,trivial⟩,H⟩)
           ·refine zAN (zAF (zAF (zEB (by kernel_rfl) (by kernel_rfl) (g.qm rfl fun _ g=>(g.qm rfl fun _ g=>(g.qm rfl fun _ g=>(g.qop (zAC g rfl rfl) H fun x115 a H g=>(g.qop (zAI g rfl) H fun x116 a H g=>(g.qm rfl fun _ g=>(g.qm rfl fun _ g=>(g.qpur (zAv g rfl rfl) fun _ g=>(g.qop (zAC g rfl rfl) H fun x120 a H g=>(g.qop (zAI g rfl) H fun x121 a H g=>?_)))))))))))))
            obtain ⟨r,hc,H⟩:=H
            refine g.qcallV rfl rfl hc fun _ g=>g.qpur (zDp g rfl rfl) fun _ g=>g.qpur (zGp g rfl) fun _ g=>zED (fun w hB=>?_)
            replace H:=H w hB
            refine (tn (zAV g rfl (fun hc=>?_) (fun hc=>?_)))
            ·replace H:=H.1 hc
             exact zBJ (te (bo (te (te (be (bn (tn (hj2 x9_2 _ _ H (g.weak ⟨rfl,rfl,rfl,rfl,rfl,rfl,trivial⟩)))))))))
            ·replace H:=H.2 hc
             refine zAP (tn (zKK 18 fun w hB=>?_))
             replace H:=H w hB
             refine g.ap 0 rfl (zAL g rfl) fun _ g=>g.ap 1 rfl (zAL g rfl) fun _ g=>g.ap 2 rfl (zAL g rfl) fun _ g=>g.ap 3 rfl (zAL g rfl) fun _ g=>g.ap 4 rfl (zAv g rfl rfl) fun _ g=>g.ap 5 rfl (zAL g rfl) fun _ g=>g.ap 6 rfl (zAL g rfl) fun _ g=>g.ap 7 rfl (zAv g rfl rfl) fun _ g=>g.ao 8 rfl (zAC g rfl rfl) H fun x133 a H g=>g.ap 10 rfl (zAL g rfl) fun _ g=>g.ap 11 rfl (zAL g rfl) fun _ g=>g.ao 12 rfl (zAC g rfl rfl) H fun x137 a H g=>WA.tw 9 13 rfl rfl ?_ ?_
             ·replace H:=H.1
              intro K hK
              exact g.wop (zAI g rfl) H fun x134 w a H g=>hK _ _ (g.o1 13 rfl (zAI g rfl) H fun x138 w a H g=>(g.ao 14 rfl (zAC g rfl rfl) H fun x139 a H g=>(g.o1u 15 rfl (zAM g rfl rfl) H fun w a H g=>(g.ao 16 rfl (zAC g rfl rfl) H fun x140 a H g=>(g.o1u 17 rfl (zAM g rfl rfl) H fun w a H g=>(WA.ni ((bn (tn (hj8 () _ _ H (g.weak ⟨rfl,rfl,rfl,rfl,rfl,rfl,rfl,trivial⟩)))))))))))
             ·replace H:=H.2
              intro K hK
              exact g.wop (zAI g rfl) H fun x138_1 w a H g=>hK _ _ (g.o1 9 rfl (zAI g rfl) H fun x134_1 w a H g=>(g.ao 14 rfl (zAC g rfl rfl) H fun x139_1 a H g=>(g.o1u 15 rfl (zAM g rfl rfl) H fun w a H g=>(g.ao 16 rfl (zAC g rfl rfl) H fun x140_1 a H g=>(g.o1u 17 rfl (zAM g rfl rfl) H fun w a H g=>(WA.ni ((bn (tn (hj8 () _ _ H (g.weak ⟨rfl,rfl,rfl,rfl,rfl,rfl,rfl,trivial⟩)))))))))))
          ·replace H:=H.2 hc
           exact zBJ (te (te (be (bn (tn (hj2 x9_2 _ _ H (g.weak ⟨rfl,rfl,rfl,rfl,rfl,rfl,trivial⟩)))))))
         ·replace H:=H.2 hc
          exact zAP (bn (tn (hj2 x9_2 _ _ H (g.weak ⟨rfl,rfl,rfl,rfl,rfl,rfl,trivial⟩))))
        ·refine zAF (zAA (g.mv rfl fun _ g=>(g.mv rfl fun _ g=>(g.pur (zAv g rfl rfl) fun _ g=>(g.pur (zF7 g rfl rfl) fun _ g=>(zAG (tn (zAR g rfl (fun hc=>?_) (fun hc=>?_)))))))))
         ·replace H:=H.1 hc
          refine zAF (zAA (g.mv rfl fun _ g=>(g.pur (zAv g rfl rfl) fun _ g=>(g.as_ rfl fun _ g=>(zAG (tn (zAN ?_)))))))
          obtain ⟨I_l9,μ_l9,h0,hb⟩:=H
          refine zBl (ds:=[]) (N:=141) (σ:=Int) (fun s=>[(11,(.int .i64 s)),(0,(Sl.v x0)),(1,(.int .i64 x1)),(2,(.int .i64 x2)),(3,x3),(9,(.int .i64 x9_2)),(10,(.int .i64 x10))]) (fun s w=>I_l9 s w) (fun s w=>μ_l9 s w) (IntKind.wrap .i64 (x9_2 - 1)) h0 (g.weak ⟨rfl,rfl,rfl,rfl,rfl,rfl,rfl,trivial⟩) ?_
          intro x11 w a hI g
          try dsimp only at hI g
          obtain ⟨Kl9,hK_l9⟩:∃ K:Int→World→Prop,K=(fun x11' w'=>I_l9 x11' w'∧μ_l9 x11' w'<μ_l9 x11 w):=⟨_,rfl⟩
          have H:zCI x0 x2 x3 x10 Kl1 x9_2 x11 w Kl9:=by rw [hK_l9];exact hb x11 w hI
          clear hb h0 hI
          unfold zCI at H
          refine zAF (zAF (zAA (g.mv rfl fun _ g=>(g.pur (zF7 g rfl rfl) fun _ g=>(zAG (tn (zAR g rfl (fun hc=>?_) (fun hc=>?_))))))))
          ·replace H:=H.1 hc
           refine zAP (tn (zBG (ds:=[]) (N:=141) (σ:=Unit) (fun s=>[(0,(Sl.v x0)),(1,(.int .i64 x1)),(2,(.int .i64 x2)),(3,x3),(9,(.int .i64 x9_2)),(10,(.int .i64 x10)),(11,(.int .i64 x11))]) (fun s w=>zA4 x11 Kl9 w) ?_ (fun hj10=>?_)))
           ·rintro ⟨⟩ w a H g
            try dsimp only at H g
            unfold zA4 at H
            refine zAA (g.mv rfl fun _ g=>(g.pur (zAv g rfl rfl) fun _ g=>(g.as_ rfl fun _ g=>?_)))
            rw [hK_l9] at H
            exact zAG (tn ⟨(IntKind.wrap .i64 (x11 - 1)),g.weak ⟨rfl,rfl,rfl,rfl,rfl,rfl,rfl,trivial⟩,H⟩)
           ·refine zAN (zAF (zAF (zEB (by kernel_rfl) (by kernel_rfl) (g.qm rfl fun _ g=>(g.qm rfl fun _ g=>(g.qm rfl fun _ g=>(g.qop (zAC g rfl rfl) H fun x75 a H g=>(g.qop (zAI g rfl) H fun x76 a H g=>(g.qm rfl fun _ g=>(g.qm rfl fun _ g=>(g.qpur (zAv g rfl rfl) fun _ g=>(g.qop (zAC g rfl rfl) H fun x80 a H g=>(g.qop (zAI g rfl) H fun x81 a H g=>?_)))))))))))))
            obtain ⟨r_1,hc,H⟩:=H
            refine g.qcallV rfl rfl hc fun _ g=>g.qpur (zDp g rfl rfl) fun _ g=>g.qpur (zGp g rfl) fun _ g=>zED (fun w hB=>?_)
            replace H:=H w hB
            refine (tn (zAV g rfl (fun hc=>?_) (fun hc=>?_)))
            ·replace H:=H.1 hc
             exact zBJ (te (bo (te (te (be (tn (hj6 () _ _ H (g.weak ⟨rfl,rfl,rfl,rfl,rfl,rfl,trivial⟩))))))))
            ·replace H:=H.2 hc
             refine zAP (tn (zKK 18 fun w hB=>?_))
             replace H:=H w hB
             refine g.ap 0 rfl (zAL g rfl) fun _ g=>g.ap 1 rfl (zAL g rfl) fun _ g=>g.ap 2 rfl (zAL g rfl) fun _ g=>g.ap 3 rfl (zAL g rfl) fun _ g=>g.ap 4 rfl (zAv g rfl rfl) fun _ g=>g.ap 5 rfl (zAL g rfl) fun _ g=>g.ap 6 rfl (zAL g rfl) fun _ g=>g.ap 7 rfl (zAv g rfl rfl) fun _ g=>g.ao 8 rfl (zAC g rfl rfl) H fun x93 a H g=>g.ap 10 rfl (zAL g rfl) fun _ g=>g.ap 11 rfl (zAL g rfl) fun _ g=>g.ao 12 rfl (zAC g rfl rfl) H fun x97 a H g=>WA.tw 9 13 rfl rfl ?_ ?_
             ·replace H:=H.1
              intro K hK
              exact g.wop (zAI g rfl) H fun x94 w a H g=>hK _ _ (g.o1 13 rfl (zAI g rfl) H fun x98 w a H g=>(g.ao 14 rfl (zAC g rfl rfl) H fun x99 a H g=>(g.o1u 15 rfl (zAM g rfl rfl) H fun w a H g=>(g.ao 16 rfl (zAC g rfl rfl) H fun x100 a H g=>(g.o1u 17 rfl (zAM g rfl rfl) H fun w a H g=>(WA.ni ((bn (tn (hj10 () _ _ H (g.weak ⟨rfl,rfl,rfl,rfl,rfl,rfl,rfl,trivial⟩)))))))))))
             ·replace H:=H.2
              intro K hK
              exact g.wop (zAI g rfl) H fun x98_1 w a H g=>hK _ _ (g.o1 9 rfl (zAI g rfl) H fun x94_1 w a H g=>(g.ao 14 rfl (zAC g rfl rfl) H fun x99_1 a H g=>(g.o1u 15 rfl (zAM g rfl rfl) H fun w a H g=>(g.ao 16 rfl (zAC g rfl rfl) H fun x100_1 a H g=>(g.o1u 17 rfl (zAM g rfl rfl) H fun w a H g=>(WA.ni ((bn (tn (hj10 () _ _ H (g.weak ⟨rfl,rfl,rfl,rfl,rfl,rfl,rfl,trivial⟩)))))))))))
          ·replace H:=H.2 hc
           exact zBJ (te (te (be (tn (hj6 () _ _ H (g.weak ⟨rfl,rfl,rfl,rfl,rfl,rfl,trivial⟩))))))
         ·replace H:=H.2 hc
          exact zAP (tn (hj6 () _ _ H (g.weak ⟨rfl,rfl,rfl,rfl,rfl,rfl,trivial⟩)))
       ·refine zKK 18 fun w hB=>?_
        replace H:=H w hB
        refine g.ap 0 rfl (zAL g rfl) fun _ g=>g.ap 1 rfl (zAL g rfl) fun _ g=>g.ap 2 rfl (zAL g rfl) fun _ g=>g.ap 3 rfl (zAL g rfl) fun _ g=>g.ap 4 rfl (zAv g rfl rfl) fun _ g=>g.ap 5 rfl (zAL g rfl) fun _ g=>g.ap 6 rfl (zAL g rfl) fun _ g=>g.ap 7 rfl (zAv g rfl rfl) fun _ g=>g.ao 8 rfl (zAC g rfl rfl) H fun x54 a H g=>g.ap 10 rfl (zAL g rfl) fun _ g=>g.ap 11 rfl (zAL g rfl) fun _ g=>g.ao 12 rfl (zAC g rfl rfl) H fun x58 a H g=>WA.tw 9 13 rfl rfl ?_ ?_
        ·replace H:=H.1
         intro K hK
         exact g.wop (zAI g rfl) H fun x55 w a H g=>hK _ _ (g.o1 13 rfl (zAI g rfl) H fun x59 w a H g=>(g.ao 14 rfl (zAC g rfl rfl) H fun x60 a H g=>(g.o1u 15 rfl (zAM g rfl rfl) H fun w a H g=>(g.ao 16 rfl (zAC g rfl rfl) H fun x61 a H g=>(g.o1u 17 rfl (zAM g rfl rfl) H fun w a H g=>(WA.ni ((tn (hj5 () _ _ H (g.weak ⟨rfl,rfl,rfl,rfl,rfl,rfl,trivial⟩))))))))))
        ·replace H:=H.2
         intro K hK
         exact g.wop (zAI g rfl) H fun x59_1 w a H g=>hK _ _ (g.o1 9 rfl (zAI g rfl) H fun x55_1 w a H g=>(g.ao 14 rfl (zAC g rfl rfl) H fun x60_1 a H g=>(g.o1u 15 rfl (zAM g rfl rfl) H fun w a H g=>(g.ao 16 rfl (zAC g rfl rfl) H fun x61_1 a H g=>(g.o1u 17 rfl (zAM g rfl rfl) H fun w a H g=>(WA.ni ((tn (hj5 () _ _ H (g.weak ⟨rfl,rfl,rfl,rfl,rfl,rfl,trivial⟩))))))))))
   ·rcases Classical.em ((x9_2<x2)) with hbr4|hbr4
    ·replace H:=H.1 hbr4
     replace g:=g.bool (b:=true) (t:=22) rfl (decide_eq_true hbr4)
     refine g.qon (by rfl) (by rfl) (g.qm rfl fun _ g=>(g.qon (by rfl) (by rfl) (g.qm rfl fun _ g=>(g.qon (by rfl) (by rfl) (g.qm rfl fun _ g=>(g.qon (by rfl) (by rfl) (g.qop (zAC g rfl rfl) H fun x26 a H g=>(g.qon (by rfl) (by rfl) (g.qop (zAI g rfl) H fun x27 a H g=>(g.qon (by rfl) (by rfl) (g.qm rfl fun _ g=>(g.qon (by rfl) (by rfl) (g.qm rfl fun _ g=>(g.qon (by rfl) (by rfl) (g.qpur (zAv g rfl rfl) fun _ g=>(g.qon (by rfl) (by rfl) (g.qop (zAC g rfl rfl) H fun x31 a H g=>(g.qon (by rfl) (by rfl) (g.qop (zAI g rfl) H fun x32 a H g=>(g.qon (by rfl) (by rfl) ?_))))))))))))))))))))
     obtain ⟨r_2,hc,H⟩:=H
     exact g.qcallV rfl rfl hc fun _ g=>g.qon (by rfl) (by rfl) (g.qpur (zDp g rfl rfl) fun _ g=>(g.qon (by rfl) (by rfl) (g.qpur (zGp g rfl) fun _ g=>(g.qpur (zAj g rfl rfl) fun _ g=>(hr4 (!(decide (r_2<0))) _ H (g.weak ⟨rfl,rfl,rfl,rfl,rfl,rfl,rfl,trivial⟩))))))
    ·replace H:=H.2 hbr4
     replace g:=g.bool (b:=false) (t:=22) rfl (decide_eq_false hbr4)
     exact g.qoff (by rfl) (by rfl) (by decide) (fun _ g=>(g.qoff (by rfl) (by rfl) (by decide) (fun _ g=>(g.qoff (by rfl) (by rfl) (by decide) (fun _ g=>(g.qoff (by rfl) (by rfl) (by decide) (fun _ g=>(g.qoff (by rfl) (by rfl) (by decide) (fun _ g=>(g.qoff (by rfl) (by rfl) (by decide) (fun _ g=>(g.qoff (by rfl) (by rfl) (by decide) (fun _ g=>(g.qoff (by rfl) (by rfl) (by decide) (fun _ g=>(g.qoff (by rfl) (by rfl) (by decide) (fun _ g=>(g.qoff (by rfl) (by rfl) (by decide) (fun _ g=>(g.qoff (by rfl) (by rfl) (by decide) (fun _ g=>(g.qoff (by rfl) (by rfl) (by decide) (fun _ g=>(g.qoff (by rfl) (by rfl) (by decide) (fun _ g=>(g.qpur (zAi g rfl rfl) fun _ g=>(hr4 false _ H (g.weak ⟨rfl,rfl,rfl,rfl,rfl,rfl,rfl,trivial⟩))))))))))))))))))))))))))))
 ·replace H:=H.2 hc
  exact zBJ (te (te (be (tn (zAF (zAA (g.as_ rfl fun _ g=>(zAG (tn (zAf (zAt g rfl rfl ⟨_,rfl,H⟩)))))))))))
def zB8 (Kl2:Int→Int→World→Prop) (x11_1:Int) (x12_1:Int) (w:World):Prop:=
 Kl2 (IntKind.wrap .i64 (x11_1+1)) (IntKind.wrap .i64 (x12_1 - 1)) w
def zB7 (x0:Sl) (Ret:Int→World→Prop) (Kl2:Int→Int→World→Prop) (x11_1:Int) (x12_1:Int) (Kl5:Int→World→Prop) (x65:Bool) (w:World):Prop:=
 nextB w (fun w=>(x65=true→(Kl5 (IntKind.wrap .i64 (x12_1 - 1)) w))∧(x65=false→(((x12_1<x11_1)→(Ret x11_1 w))∧(¬ (x12_1<x11_1)→(nextB w (fun w=>opP Tryz.prog Value.pointer (Instr.indexAt 22 (Sl.v x0) (.int .i64 x12_1)) (fun x77=>opP Tryz.prog Value.pointer (Instr.indexAt 22 (Sl.v x0) (.int .i64 x11_1)) (fun x81=>(opE Tryz.prog zAE.v (Instr.loadAt 66 (.pointer x77)) w (fun x78 w=>opE Tryz.prog zAE.v (Instr.loadAt 66 (.pointer x81)) w (fun x82 w=>opP Tryz.prog Value.pointer (Instr.indexAt 22 (Sl.v x0) (.int .i64 x11_1)) (fun x83=>opU Tryz.prog (Instr.storeAt 66 (.pointer x83) (zAE.v x78)) w (fun w=>opP Tryz.prog Value.pointer (Instr.indexAt 22 (Sl.v x0) (.int .i64 x12_1)) (fun x84=>opU Tryz.prog (Instr.storeAt 66 (.pointer x84) (zAE.v x82)) w (fun w=>zB8 Kl2 x11_1 x12_1 w)))))))∧(opE Tryz.prog zAE.v (Instr.loadAt 66 (.pointer x81)) w (fun x82_1 w=>opE Tryz.prog zAE.v (Instr.loadAt 66 (.pointer x77)) w (fun x78_1 w=>opP Tryz.prog Value.pointer (Instr.indexAt 22 (Sl.v x0) (.int .i64 x11_1)) (fun x83_1=>opU Tryz.prog (Instr.storeAt 66 (.pointer x83_1) (zAE.v x78_1)) w (fun w=>opP Tryz.prog Value.pointer (Instr.indexAt 22 (Sl.v x0) (.int .i64 x12_1)) (fun x84_1=>opU Tryz.prog (Instr.storeAt 66 (.pointer x84_1) (zAE.v x82_1)) w (fun w=>zB8 Kl2 x11_1 x12_1 w)))))))))))))))
def zDH (x0:Sl) (x1:Int) (x4:Value) (Ret:Int→World→Prop) (Kl2:Int→Int→World→Prop) (x11_1:Int) (x12_1:Int) (w:World) (Kl5:Int→World→Prop):Prop:=
 ((x11_1≤x12_1)→(opB Tryz.prog Value.pointer (Instr.indexAt 22 (Sl.v x0) (.int .i64 x1)) w (fun x57=>opB Tryz.prog zAE.v (Instr.loadAt 66 (.pointer x57)) w (fun x58=>opB Tryz.prog Value.pointer (Instr.indexAt 22 (Sl.v x0) (.int .i64 x12_1)) w (fun x61=>opB Tryz.prog zAE.v (Instr.loadAt 66 (.pointer x61)) w (fun x62=>∃ (r:Int),CallQ Tryz.prog x4 [(zAE.v x58),(zAE.v x62)] w (.int .i64 r)∧(zB7 x0 Ret Kl2 x11_1 x12_1 Kl5 (decide (r<0)) w)))))))∧(¬ (x11_1≤x12_1)→(zB7 x0 Ret Kl2 x11_1 x12_1 Kl5 false w))
def zB4 (x0:Sl) (x1:Int) (x4:Value) (Ret:Int→World→Prop) (x12:Int) (Kl2:Int→Int→World→Prop) (x11_1:Int) (Kl3:Int→World→Prop) (x47:Bool) (w:World):Prop:=
 nextB w (fun w=>(x47=true→(Kl3 (IntKind.wrap .i64 (x11_1+1)) w))∧(x47=false→(∃ (I:Int→World→Prop) (μ:Int→World→Nat),I x12 w∧∀ (x12_1:Int) w,I x12_1 w→zDH x0 x1 x4 Ret Kl2 x11_1 x12_1 w (fun x12_1' w'=>I x12_1' w'∧μ x12_1' w'<μ x12_1 w))))
def zDG (x0:Sl) (x1:Int) (x4:Value) (Ret:Int→World→Prop) (x12:Int) (Kl2:Int→Int→World→Prop) (x11_1:Int) (w:World) (Kl3:Int→World→Prop):Prop:=
 ((x11_1≤x12)→(opB Tryz.prog Value.pointer (Instr.indexAt 22 (Sl.v x0) (.int .i64 x1)) w (fun x38=>opB Tryz.prog zAE.v (Instr.loadAt 66 (.pointer x38)) w (fun x39=>opB Tryz.prog Value.pointer (Instr.indexAt 22 (Sl.v x0) (.int .i64 x11_1)) w (fun x42=>opB Tryz.prog zAE.v (Instr.loadAt 66 (.pointer x42)) w (fun x43=>∃ (r_1:Int),CallQ Tryz.prog x4 [(zAE.v x39),(zAE.v x43)] w (.int .i64 r_1)∧(zB4 x0 x1 x4 Ret x12 Kl2 x11_1 Kl3 (!(decide (r_1<0))) w)))))))∧(¬ (x11_1≤x12)→(zB4 x0 x1 x4 Ret x12 Kl2 x11_1 Kl3 false w))
def zDL (x0:Sl) (x1:Int) (x4:Value) (Ret:Int→World→Prop) (x11:Int) (x12:Int) (w:World) (Kl2:Int→Int→World→Prop):Prop:=
 ∃ (I:Int→World→Prop) (μ:Int→World→Nat),I x11 w∧∀ (x11_1:Int) w,I x11_1 w→zDG x0 x1 x4 Ret x12 Kl2 x11_1 w (fun x11_1' w'=>I x11_1' w'∧μ x11_1' w'<μ x11_1 w)
def zB2 (x0:Sl) (x1:Int) (x2:Int) (x4:Value) (Ret:Int→World→Prop) (w:World):Prop:=
 ∃ (I:Int→Int→World→Prop) (μ:Int→Int→World→Nat),I (IntKind.wrap .i64 (x1+1)) (IntKind.wrap .i64 (x2 - 1)) w∧∀ (x11:Int) (x12:Int) w,I x11 x12 w→zDL x0 x1 x4 Ret x11 x12 w (fun x11' x12' w'=>I x11' x12' w'∧μ x11' x12' w'<μ x11 x12 w)
def zEY (x0:Sl) (x1:Int) (x2:Int) (x3:Int) (x4:Value) (w:World) (Ret:Int→World→Prop):Prop:=
 nextB w (fun w=>opP Tryz.prog Value.pointer (Instr.indexAt 22 (Sl.v x0) (.int .i64 x3)) (fun x19=>opP Tryz.prog Value.pointer (Instr.indexAt 22 (Sl.v x0) (.int .i64 x1)) (fun x23=>(opE Tryz.prog zAE.v (Instr.loadAt 66 (.pointer x19)) w (fun x20 w=>opE Tryz.prog zAE.v (Instr.loadAt 66 (.pointer x23)) w (fun x24 w=>opP Tryz.prog Value.pointer (Instr.indexAt 22 (Sl.v x0) (.int .i64 x1)) (fun x25=>opU Tryz.prog (Instr.storeAt 66 (.pointer x25) (zAE.v x20)) w (fun w=>opP Tryz.prog Value.pointer (Instr.indexAt 22 (Sl.v x0) (.int .i64 x3)) (fun x26=>opU Tryz.prog (Instr.storeAt 66 (.pointer x26) (zAE.v x24)) w (fun w=>zB2 x0 x1 x2 x4 Ret w)))))))∧(opE Tryz.prog zAE.v (Instr.loadAt 66 (.pointer x23)) w (fun x24_1 w=>opE Tryz.prog zAE.v (Instr.loadAt 66 (.pointer x19)) w (fun x20_1 w=>opP Tryz.prog Value.pointer (Instr.indexAt 22 (Sl.v x0) (.int .i64 x1)) (fun x25_1=>opU Tryz.prog (Instr.storeAt 66 (.pointer x25_1) (zAE.v x20_1)) w (fun w=>opP Tryz.prog Value.pointer (Instr.indexAt 22 (Sl.v x0) (.int .i64 x3)) (fun x26_1=>opU Tryz.prog (Instr.storeAt 66 (.pointer x26_1) (zAE.v x24_1)) w (fun w=>zB2 x0 x1 x2 x4 Ret w))))))))))
set_option maxRecDepth 100000 in
theorem zHo (x0:Sl) (x1:Int) (x2:Int) (x3:Int) (x4:Value) (w:World) (Ret:Int→World→Prop) (H:zEY x0 x1 x2 x3 x4 w Ret):Cl Tryz.prog 96 [(Sl.v x0),(.int .i64 x1),(.int .i64 x2),(.int .i64 x3),x4].toArray w (fun e w'=>∃ (r0:Int),e=.returned (.int .i64 r0)∧Ret r0 w'):=by
 unfold zEY at H
 refine zAY 90 (zipE 0 [(Sl.v x0),(.int .i64 x1),(.int .i64 x2),(.int .i64 x3),x4]) Tryz.func96 rfl rfl (by rfl) rfl ?_
 intro a g
 replace g:Sat [] 90 [(0,(Sl.v x0)),(1,(.int .i64 x1)),(2,(.int .i64 x2)),(3,(.int .i64 x3)),(4,x4)] a:=g
 refine zAF (zAA (g.as_ rfl fun _ g=>(zAG (tn (zBG (ds:=[]) (N:=90) (σ:=Unit) (fun s=>[(0,(Sl.v x0)),(1,(.int .i64 x1)),(2,(.int .i64 x2)),(4,x4)]) (fun s w=>zB2 x0 x1 x2 x4 Ret w) ?_ (fun hj1=>?_))))))
 ·rintro ⟨⟩ w a H g
  try dsimp only at H g
  unfold zB2 at H
  refine zAF (zAA (g.mv rfl fun _ g=>(g.pur (zAn g rfl rfl) fun _ g=>(g.mv rfl fun _ g=>(g.pur (zAv g rfl rfl) fun _ g=>(g.as_ rfl fun _ g=>(g.as_ rfl fun _ g=>(zAG (tn (zAF (zAN ?_)))))))))))
  obtain ⟨I_l2,μ_l2,h0,hb⟩:=H
  refine zBl (ds:=[]) (N:=90) (σ:=Int × Int) (fun s=>[(11,(.int .i64 s.1)),(12,(.int .i64 s.2)),(0,(Sl.v x0)),(1,(.int .i64 x1)),(4,x4)]) (fun s w=>I_l2 s.1 s.2 w) (fun s w=>μ_l2 s.1 s.2 w) ((IntKind.wrap .i64 (x1+1)),(IntKind.wrap .i64 (x2 - 1))) h0 (g.weak ⟨rfl,rfl,rfl,rfl,rfl,trivial⟩) ?_
  rintro ⟨x11,x12⟩ w a hI g
  try dsimp only at hI g
  obtain ⟨Kl2,hK_l2⟩:∃ K:Int→Int→World→Prop,K=(fun x11' x12' w'=>I_l2 x11' x12' w'∧μ_l2 x11' x12' w'<μ_l2 x11 x12 w):=⟨_,rfl⟩
  have H:zDL x0 x1 x4 Ret x11 x12 w Kl2:=by rw [hK_l2];exact hb x11 x12 w hI
  clear hb h0 hI
  unfold zDL at H
  refine zAN (zAF (zAN ?_))
  obtain ⟨I_l3,μ_l3,h0,hb⟩:=H
  refine zBl (ds:=[]) (N:=90) (σ:=Int) (fun s=>[(11,(.int .i64 s)),(0,(Sl.v x0)),(1,(.int .i64 x1)),(4,x4),(12,(.int .i64 x12))]) (fun s w=>I_l3 s w) (fun s w=>μ_l3 s w) x11 h0 (g.weak ⟨rfl,rfl,rfl,rfl,rfl,trivial⟩) ?_
  intro x11_1 w a hI g
  try dsimp only at hI g
  obtain ⟨Kl3,hK_l3⟩:∃ K:Int→World→Prop,K=(fun x11_1' w'=>I_l3 x11_1' w'∧μ_l3 x11_1' w'<μ_l3 x11_1 w):=⟨_,rfl⟩
  have H:zDG x0 x1 x4 Ret x12 Kl2 x11_1 w Kl3:=by rw [hK_l3];exact hb x11_1 w hI
  clear hb h0 hI
  unfold zDG at H
  refine zAF (zAF (zEB (by kernel_rfl) (by kernel_rfl) (g.qm rfl fun _ g=>(g.qm rfl fun _ g=>(g.qpur (zJn g rfl rfl) fun _ g=>(g.qm rfl fun _ g=>(WQ.join (ds:=[]) (N:=90) (σ:=Bool) (fun s=>[(47,(.bool s)),(0,(Sl.v x0)),(1,(.int .i64 x1)),(4,x4),(11,(.int .i64 x11_1)),(12,(.int .i64 x12))]) (fun s=>zB4 x0 x1 x4 Ret x12 Kl2 x11_1 Kl3 s w) 13 ?_ (fun hr4=>?_))))))))
  ·intro x47 a H g
   try dsimp only at H g
   unfold zB4 at H
   refine zED (fun w hB=>?_)
   replace H:=H w hB
   refine (tn (zAV g rfl (fun hc=>?_) (fun hc=>?_)))
   ·replace H:=H.1 hc
    refine zAP (tn (zAN (zAA (g.mv rfl fun _ g=>(g.pur (zAn g rfl rfl) fun _ g=>(g.as_ rfl fun _ g=>?_))))))
    rw [hK_l3] at H
    exact zAG (bn (tn ⟨(IntKind.wrap .i64 (x11_1+1)),g.weak ⟨rfl,rfl,rfl,rfl,rfl,trivial⟩,H⟩))
   ·replace H:=H.2 hc
    refine zBJ (te (te (be (tn (zAF (zAN ?_))))))
    obtain ⟨I_l5,μ_l5,h0,hb⟩:=H
    refine zBl (ds:=[]) (N:=90) (σ:=Int) (fun s=>[(12,(.int .i64 s)),(0,(Sl.v x0)),(1,(.int .i64 x1)),(4,x4),(11,(.int .i64 x11_1))]) (fun s w=>I_l5 s w) (fun s w=>μ_l5 s w) x12 h0 (g.weak ⟨rfl,rfl,rfl,rfl,rfl,trivial⟩) ?_
    intro x12_1 w a hI g
    try dsimp only at hI g
    obtain ⟨Kl5,hK_l5⟩:∃ K:Int→World→Prop,K=(fun x12_1' w'=>I_l5 x12_1' w'∧μ_l5 x12_1' w'<μ_l5 x12_1 w):=⟨_,rfl⟩
    have H:zDH x0 x1 x4 Ret Kl2 x11_1 x12_1 w Kl5:=by rw [hK_l5];exact hb x12_1 w hI
    clear hb h0 hI
    unfold zDH at H
    refine zAF (zAF (zEB (by kernel_rfl) (by kernel_rfl) (g.qm rfl fun _ g=>(g.qm rfl fun _ g=>(g.qpur (zJn g rfl rfl) fun _ g=>(g.qm rfl fun _ g=>(WQ.join (ds:=[]) (N:=90) (σ:=Bool) (fun s=>[(65,(.bool s)),(0,(Sl.v x0)),(1,(.int .i64 x1)),(4,x4),(11,(.int .i64 x11_1)),(12,(.int .i64 x12_1))]) (fun s=>zB7 x0 Ret Kl2 x11_1 x12_1 Kl5 s w) 12 ?_ (fun hr6=>?_))))))))
    ·intro x65 a H g
     try dsimp only at H g
     unfold zB7 at H
     refine zED (fun w hB=>?_)
     replace H:=H w hB
     refine (tn (zAV g rfl (fun hc=>?_) (fun hc=>?_)))
     ·replace H:=H.1 hc
      refine zAP (tn (zAN (zAA (g.mv rfl fun _ g=>(g.pur (zAv g rfl rfl) fun _ g=>(g.as_ rfl fun _ g=>?_))))))
      rw [hK_l5] at H
      exact zAG (bn (tn ⟨(IntKind.wrap .i64 (x12_1 - 1)),g.weak ⟨rfl,rfl,rfl,rfl,rfl,trivial⟩,H⟩))
     ·replace H:=H.2 hc
      refine zBJ (te (te (be (tn (zAF (zAF (zAA (g.mv rfl fun _ g=>(g.mv rfl fun _ g=>(g.pur (zIG g rfl rfl) fun _ g=>(zAG (tn (zAR g rfl (fun hc=>?_) (fun hc=>?_))))))))))))))
      ·replace H:=H.1 hc
       exact zBJ (te (bo (te (be (tn (zAF (zAA (g.mv rfl fun _ g=>(g.as_ rfl fun _ g=>(zAG (tn (zAf (zAt g rfl rfl ⟨_,rfl,H⟩)))))))))))))
      ·replace H:=H.2 hc
       refine zAP (tn (zBG (ds:=[]) (N:=90) (σ:=Unit) (fun s=>[(0,(Sl.v x0)),(1,(.int .i64 x1)),(4,x4),(11,(.int .i64 x11_1)),(12,(.int .i64 x12_1))]) (fun s w=>zB8 Kl2 x11_1 x12_1 w) ?_ (fun hj7=>?_)))
       ·rintro ⟨⟩ w a H g
        try dsimp only at H g
        unfold zB8 at H
        refine zAF (zAA (g.mv rfl fun _ g=>(g.pur (zAn g rfl rfl) fun _ g=>(g.as_ rfl fun _ g=>(zAG (tn (zAA (g.mv rfl fun _ g=>(g.pur (zAv g rfl rfl) fun _ g=>(g.as_ rfl fun _ g=>?_))))))))))
        rw [hK_l2] at H
        exact zAG (bn (tn ⟨((IntKind.wrap .i64 (x11_1+1)),(IntKind.wrap .i64 (x12_1 - 1))),g.weak ⟨rfl,rfl,rfl,rfl,rfl,trivial⟩,H⟩))
       ·refine zKK 16 fun w hB=>?_
        replace H:=H w hB
        refine g.ap 0 rfl (zAL g rfl) fun _ g=>g.ap 1 rfl (zAL g rfl) fun _ g=>g.ap 2 rfl (zAL g rfl) fun _ g=>g.ap 3 rfl (zAL g rfl) fun _ g=>g.ap 4 rfl (zAL g rfl) fun _ g=>g.ap 5 rfl (zAL g rfl) fun _ g=>g.ao 6 rfl (zAC g rfl rfl) H fun x77 a H g=>g.ap 8 rfl (zAL g rfl) fun _ g=>g.ap 9 rfl (zAL g rfl) fun _ g=>g.ao 10 rfl (zAC g rfl rfl) H fun x81 a H g=>WA.tw 7 11 rfl rfl ?_ ?_
        ·replace H:=H.1
         intro K hK
         exact g.wop (zAI g rfl) H fun x78 w a H g=>hK _ _ (g.o1 11 rfl (zAI g rfl) H fun x82 w a H g=>(g.ao 12 rfl (zAC g rfl rfl) H fun x83 a H g=>(g.o1u 13 rfl (zAM g rfl rfl) H fun w a H g=>(g.ao 14 rfl (zAC g rfl rfl) H fun x84 a H g=>(g.o1u 15 rfl (zAM g rfl rfl) H fun w a H g=>(WA.ni ((tn (hj7 () _ _ H (g.weak ⟨rfl,rfl,rfl,rfl,rfl,trivial⟩))))))))))
        ·replace H:=H.2
         intro K hK
         exact g.wop (zAI g rfl) H fun x82_1 w a H g=>hK _ _ (g.o1 7 rfl (zAI g rfl) H fun x78_1 w a H g=>(g.ao 12 rfl (zAC g rfl rfl) H fun x83_1 a H g=>(g.o1u 13 rfl (zAM g rfl rfl) H fun w a H g=>(g.ao 14 rfl (zAC g rfl rfl) H fun x84_1 a H g=>(g.o1u 15 rfl (zAM g rfl rfl) H fun w a H g=>(WA.ni ((tn (hj7 () _ _ H (g.weak ⟨rfl,rfl,rfl,rfl,rfl,trivial⟩))))))))))
    ·rcases Classical.em ((x11_1≤x12_1)) with hbr6|hbr6
     ·replace H:=H.1 hbr6
      replace g:=g.bool (b:=true) (t:=53) rfl (decide_eq_true hbr6)
      refine g.qon (by rfl) (by rfl) (g.qm rfl fun _ g=>(g.qon (by rfl) (by rfl) (g.qm rfl fun _ g=>(g.qon (by rfl) (by rfl) (g.qm rfl fun _ g=>(g.qon (by rfl) (by rfl) (g.qop (zAC g rfl rfl) H fun x57 a H g=>(g.qon (by rfl) (by rfl) (g.qop (zAI g rfl) H fun x58 a H g=>(g.qon (by rfl) (by rfl) (g.qm rfl fun _ g=>(g.qon (by rfl) (by rfl) (g.qm rfl fun _ g=>(g.qon (by rfl) (by rfl) (g.qop (zAC g rfl rfl) H fun x61 a H g=>(g.qon (by rfl) (by rfl) (g.qop (zAI g rfl) H fun x62 a H g=>(g.qon (by rfl) (by rfl) ?_))))))))))))))))))
      obtain ⟨r,hc,H⟩:=H
      exact g.qcallV rfl rfl hc fun _ g=>g.qon (by rfl) (by rfl) (g.qpur (zDp g rfl rfl) fun _ g=>(g.qpur (zAj g rfl rfl) fun _ g=>(hr6 (decide (r<0)) _ H (g.weak ⟨rfl,rfl,rfl,rfl,rfl,rfl,trivial⟩))))
     ·replace H:=H.2 hbr6
      replace g:=g.bool (b:=false) (t:=53) rfl (decide_eq_false hbr6)
      exact g.qoff (by rfl) (by rfl) (by decide) (fun _ g=>(g.qoff (by rfl) (by rfl) (by decide) (fun _ g=>(g.qoff (by rfl) (by rfl) (by decide) (fun _ g=>(g.qoff (by rfl) (by rfl) (by decide) (fun _ g=>(g.qoff (by rfl) (by rfl) (by decide) (fun _ g=>(g.qoff (by rfl) (by rfl) (by decide) (fun _ g=>(g.qoff (by rfl) (by rfl) (by decide) (fun _ g=>(g.qoff (by rfl) (by rfl) (by decide) (fun _ g=>(g.qoff (by rfl) (by rfl) (by decide) (fun _ g=>(g.qoff (by rfl) (by rfl) (by decide) (fun _ g=>(g.qoff (by rfl) (by rfl) (by decide) (fun _ g=>(g.qpur (zAi g rfl rfl) fun _ g=>(hr6 false _ H (g.weak ⟨rfl,rfl,rfl,rfl,rfl,rfl,trivial⟩))))))))))))))))))))))))
  ·rcases Classical.em ((x11_1≤x12)) with hbr4|hbr4
   ·replace H:=H.1 hbr4
    replace g:=g.bool (b:=true) (t:=34) rfl (decide_eq_true hbr4)
    refine g.qon (by rfl) (by rfl) (g.qm rfl fun _ g=>(g.qon (by rfl) (by rfl) (g.qm rfl fun _ g=>(g.qon (by rfl) (by rfl) (g.qm rfl fun _ g=>(g.qon (by rfl) (by rfl) (g.qop (zAC g rfl rfl) H fun x38 a H g=>(g.qon (by rfl) (by rfl) (g.qop (zAI g rfl) H fun x39 a H g=>(g.qon (by rfl) (by rfl) (g.qm rfl fun _ g=>(g.qon (by rfl) (by rfl) (g.qm rfl fun _ g=>(g.qon (by rfl) (by rfl) (g.qop (zAC g rfl rfl) H fun x42 a H g=>(g.qon (by rfl) (by rfl) (g.qop (zAI g rfl) H fun x43 a H g=>(g.qon (by rfl) (by rfl) ?_))))))))))))))))))
    obtain ⟨r_1,hc,H⟩:=H
    exact g.qcallV rfl rfl hc fun _ g=>g.qon (by rfl) (by rfl) (g.qpur (zDp g rfl rfl) fun _ g=>(g.qon (by rfl) (by rfl) (g.qpur (zGp g rfl) fun _ g=>(g.qpur (zAj g rfl rfl) fun _ g=>(hr4 (!(decide (r_1<0))) _ H (g.weak ⟨rfl,rfl,rfl,rfl,rfl,rfl,trivial⟩))))))
   ·replace H:=H.2 hbr4
    replace g:=g.bool (b:=false) (t:=34) rfl (decide_eq_false hbr4)
    exact g.qoff (by rfl) (by rfl) (by decide) (fun _ g=>(g.qoff (by rfl) (by rfl) (by decide) (fun _ g=>(g.qoff (by rfl) (by rfl) (by decide) (fun _ g=>(g.qoff (by rfl) (by rfl) (by decide) (fun _ g=>(g.qoff (by rfl) (by rfl) (by decide) (fun _ g=>(g.qoff (by rfl) (by rfl) (by decide) (fun _ g=>(g.qoff (by rfl) (by rfl) (by decide) (fun _ g=>(g.qoff (by rfl) (by rfl) (by decide) (fun _ g=>(g.qoff (by rfl) (by rfl) (by decide) (fun _ g=>(g.qoff (by rfl) (by rfl) (by decide) (fun _ g=>(g.qoff (by rfl) (by rfl) (by decide) (fun _ g=>(g.qoff (by rfl) (by rfl) (by decide) (fun _ g=>(g.qpur (zAi g rfl rfl) fun _ g=>(hr4 false _ H (g.weak ⟨rfl,rfl,rfl,rfl,rfl,rfl,trivial⟩))))))))))))))))))))))))))
 ·refine zKK 16 fun w hB=>?_
  replace H:=H w hB
  refine g.ap 0 rfl (zAL g rfl) fun _ g=>g.ap 1 rfl (zAL g rfl) fun _ g=>g.ap 2 rfl (zAL g rfl) fun _ g=>g.ap 3 rfl (zAL g rfl) fun _ g=>g.ap 4 rfl (zAL g rfl) fun _ g=>g.ap 5 rfl (zAL g rfl) fun _ g=>g.ao 6 rfl (zAC g rfl rfl) H fun x19 a H g=>g.ap 8 rfl (zAL g rfl) fun _ g=>g.ap 9 rfl (zAL g rfl) fun _ g=>g.ao 10 rfl (zAC g rfl rfl) H fun x23 a H g=>WA.tw 7 11 rfl rfl ?_ ?_
  ·replace H:=H.1
   intro K hK
   exact g.wop (zAI g rfl) H fun x20 w a H g=>hK _ _ (g.o1 11 rfl (zAI g rfl) H fun x24 w a H g=>(g.ao 12 rfl (zAC g rfl rfl) H fun x25 a H g=>(g.o1u 13 rfl (zAM g rfl rfl) H fun w a H g=>(g.ao 14 rfl (zAC g rfl rfl) H fun x26 a H g=>(g.o1u 15 rfl (zAM g rfl rfl) H fun w a H g=>(WA.ni ((tn (hj1 () _ _ H (g.weak ⟨rfl,rfl,rfl,rfl,trivial⟩))))))))))
  ·replace H:=H.2
   intro K hK
   exact g.wop (zAI g rfl) H fun x24_1 w a H g=>hK _ _ (g.o1 7 rfl (zAI g rfl) H fun x20_1 w a H g=>(g.ao 12 rfl (zAC g rfl rfl) H fun x25_1 a H g=>(g.o1u 13 rfl (zAM g rfl rfl) H fun w a H g=>(g.ao 14 rfl (zAC g rfl rfl) H fun x26_1 a H g=>(g.o1u 15 rfl (zAM g rfl rfl) H fun w a H g=>(WA.ni ((tn (hj1 () _ _ H (g.weak ⟨rfl,rfl,rfl,rfl,trivial⟩))))))))))
def zC9 (Ret:Int→Bool→World→Prop) (x13:Int) (w:World):Prop:=
 Ret x13 true w
def zCv (Ret:Int→Bool→World→Prop) (x13_2:Int) (w:World):Prop:=
 Ret x13_2 false w
def zC1 (Kl8:Int→Int→World→Prop) (x12_2:Int) (x13_2:Int) (w:World):Prop:=
 Kl8 (IntKind.wrap .i64 (x12_2+1)) (IntKind.wrap .i64 (x13_2 - 1)) w
def zCw (x0:Sl) (x1:Int) (Ret:Int→Bool→World→Prop) (Kl8:Int→Int→World→Prop) (x12_2:Int) (x13_2:Int) (Kl11:Int→World→Prop) (x139:Bool) (w:World):Prop:=
 nextB w (fun w=>(x139=true→(Kl11 (IntKind.wrap .i64 (x13_2 - 1)) w))∧(x139=false→(((x13_2<x12_2)→(nextB w (fun w=>opP Tryz.prog Value.pointer (Instr.indexAt 22 (Sl.v x0) (.int .i64 x1)) (fun x169=>opP Tryz.prog Value.pointer (Instr.indexAt 22 (Sl.v x0) (.int .i64 x13_2)) (fun x173=>(opE Tryz.prog zAE.v (Instr.loadAt 66 (.pointer x169)) w (fun x170 w=>opE Tryz.prog zAE.v (Instr.loadAt 66 (.pointer x173)) w (fun x174 w=>opP Tryz.prog Value.pointer (Instr.indexAt 22 (Sl.v x0) (.int .i64 x13_2)) (fun x175=>opU Tryz.prog (Instr.storeAt 66 (.pointer x175) (zAE.v x170)) w (fun w=>opP Tryz.prog Value.pointer (Instr.indexAt 22 (Sl.v x0) (.int .i64 x1)) (fun x176=>opU Tryz.prog (Instr.storeAt 66 (.pointer x176) (zAE.v x174)) w (fun w=>zCv Ret x13_2 w)))))))∧(opE Tryz.prog zAE.v (Instr.loadAt 66 (.pointer x173)) w (fun x174_1 w=>opE Tryz.prog zAE.v (Instr.loadAt 66 (.pointer x169)) w (fun x170_1 w=>opP Tryz.prog Value.pointer (Instr.indexAt 22 (Sl.v x0) (.int .i64 x13_2)) (fun x175_1=>opU Tryz.prog (Instr.storeAt 66 (.pointer x175_1) (zAE.v x170_1)) w (fun w=>opP Tryz.prog Value.pointer (Instr.indexAt 22 (Sl.v x0) (.int .i64 x1)) (fun x176_1=>opU Tryz.prog (Instr.storeAt 66 (.pointer x176_1) (zAE.v x174_1)) w (fun w=>zCv Ret x13_2 w))))))))))))∧(¬ (x13_2<x12_2)→(nextB w (fun w=>opP Tryz.prog Value.pointer (Instr.indexAt 22 (Sl.v x0) (.int .i64 x13_2)) (fun x151=>opP Tryz.prog Value.pointer (Instr.indexAt 22 (Sl.v x0) (.int .i64 x12_2)) (fun x155=>(opE Tryz.prog zAE.v (Instr.loadAt 66 (.pointer x151)) w (fun x152 w=>opE Tryz.prog zAE.v (Instr.loadAt 66 (.pointer x155)) w (fun x156 w=>opP Tryz.prog Value.pointer (Instr.indexAt 22 (Sl.v x0) (.int .i64 x12_2)) (fun x157=>opU Tryz.prog (Instr.storeAt 66 (.pointer x157) (zAE.v x152)) w (fun w=>opP Tryz.prog Value.pointer (Instr.indexAt 22 (Sl.v x0) (.int .i64 x13_2)) (fun x158=>opU Tryz.prog (Instr.storeAt 66 (.pointer x158) (zAE.v x156)) w (fun w=>zC1 Kl8 x12_2 x13_2 w)))))))∧(opE Tryz.prog zAE.v (Instr.loadAt 66 (.pointer x155)) w (fun x156_1 w=>opE Tryz.prog zAE.v (Instr.loadAt 66 (.pointer x151)) w (fun x152_1 w=>opP Tryz.prog Value.pointer (Instr.indexAt 22 (Sl.v x0) (.int .i64 x12_2)) (fun x157_1=>opU Tryz.prog (Instr.storeAt 66 (.pointer x157_1) (zAE.v x152_1)) w (fun w=>opP Tryz.prog Value.pointer (Instr.indexAt 22 (Sl.v x0) (.int .i64 x13_2)) (fun x158_1=>opU Tryz.prog (Instr.storeAt 66 (.pointer x158_1) (zAE.v x156_1)) w (fun w=>zC1 Kl8 x12_2 x13_2 w)))))))))))))))
def zDv (x0:Sl) (x1:Int) (x4:Value) (Ret:Int→Bool→World→Prop) (Kl8:Int→Int→World→Prop) (x12_2:Int) (x13_2:Int) (w:World) (Kl11:Int→World→Prop):Prop:=
 ((x12_2≤x13_2)→(opB Tryz.prog Value.pointer (Instr.indexAt 22 (Sl.v x0) (.int .i64 x13_2)) w (fun x130=>opB Tryz.prog zAE.v (Instr.loadAt 66 (.pointer x130)) w (fun x131=>opB Tryz.prog Value.pointer (Instr.indexAt 22 (Sl.v x0) (.int .i64 x1)) w (fun x134=>opB Tryz.prog zAE.v (Instr.loadAt 66 (.pointer x134)) w (fun x135=>∃ (r:Int),CallQ Tryz.prog x4 [(zAE.v x131),(zAE.v x135)] w (.int .i64 r)∧(zCw x0 x1 Ret Kl8 x12_2 x13_2 Kl11 (!(decide (r<0))) w)))))))∧(¬ (x12_2≤x13_2)→(zCw x0 x1 Ret Kl8 x12_2 x13_2 Kl11 false w))
def zCx (x0:Sl) (x1:Int) (x4:Value) (Ret:Int→Bool→World→Prop) (x13_1:Int) (Kl8:Int→Int→World→Prop) (x12_2:Int) (Kl9:Int→World→Prop) (x120:Bool) (w:World):Prop:=
 nextB w (fun w=>(x120=true→(Kl9 (IntKind.wrap .i64 (x12_2+1)) w))∧(x120=false→(∃ (I:Int→World→Prop) (μ:Int→World→Nat),I x13_1 w∧∀ (x13_2:Int) w,I x13_2 w→zDv x0 x1 x4 Ret Kl8 x12_2 x13_2 w (fun x13_2' w'=>I x13_2' w'∧μ x13_2' w'<μ x13_2 w))))
def zD4 (x0:Sl) (x1:Int) (x4:Value) (Ret:Int→Bool→World→Prop) (x13_1:Int) (Kl8:Int→Int→World→Prop) (x12_2:Int) (w:World) (Kl9:Int→World→Prop):Prop:=
 ((x12_2≤x13_1)→(opB Tryz.prog Value.pointer (Instr.indexAt 22 (Sl.v x0) (.int .i64 x12_2)) w (fun x112=>opB Tryz.prog zAE.v (Instr.loadAt 66 (.pointer x112)) w (fun x113=>opB Tryz.prog Value.pointer (Instr.indexAt 22 (Sl.v x0) (.int .i64 x1)) w (fun x116=>opB Tryz.prog zAE.v (Instr.loadAt 66 (.pointer x116)) w (fun x117=>∃ (r_1:Int),CallQ Tryz.prog x4 [(zAE.v x113),(zAE.v x117)] w (.int .i64 r_1)∧(zCx x0 x1 x4 Ret x13_1 Kl8 x12_2 Kl9 (decide (r_1<0)) w)))))))∧(¬ (x12_2≤x13_1)→(zCx x0 x1 x4 Ret x13_1 Kl8 x12_2 Kl9 false w))
def zC3 (x0:Sl) (x1:Int) (x4:Value) (Ret:Int→Bool→World→Prop) (x12_1:Int) (x13_1:Int) (w:World) (Kl8:Int→Int→World→Prop):Prop:=
 ∃ (I:Int→World→Prop) (μ:Int→World→Nat),I x12_1 w∧∀ (x12_2:Int) w,I x12_2 w→zD4 x0 x1 x4 Ret x13_1 Kl8 x12_2 w (fun x12_2' w'=>I x12_2' w'∧μ x12_2' w'<μ x12_2 w)
def zDB (x0:Sl) (x1:Int) (x4:Value) (Ret:Int→Bool→World→Prop) (x12:Int) (x13:Int) (w:World):Prop:=
 ∃ (I:Int→Int→World→Prop) (μ:Int→Int→World→Nat),I (IntKind.wrap .i64 (x12+1)) (IntKind.wrap .i64 (x13 - 1)) w∧∀ (x12_1:Int) (x13_1:Int) w,I x12_1 x13_1 w→zC3 x0 x1 x4 Ret x12_1 x13_1 w (fun x12_1' x13_1' w'=>I x12_1' x13_1' w'∧μ x12_1' x13_1' w'<μ x12_1 x13_1 w)
def zDC (x0:Sl) (x1:Int) (x4:Value) (Ret:Int→Bool→World→Prop) (x12:Int) (x13:Int) (Kl4:Int→World→Prop) (x66:Bool) (w:World):Prop:=
 nextB w (fun w=>(x66=true→(Kl4 (IntKind.wrap .i64 (x13 - 1)) w))∧(x66=false→(((x13<x12)→(nextB w (fun w=>opP Tryz.prog Value.pointer (Instr.indexAt 22 (Sl.v x0) (.int .i64 x1)) (fun x78=>opP Tryz.prog Value.pointer (Instr.indexAt 22 (Sl.v x0) (.int .i64 x13)) (fun x82=>(opE Tryz.prog zAE.v (Instr.loadAt 66 (.pointer x78)) w (fun x79 w=>opE Tryz.prog zAE.v (Instr.loadAt 66 (.pointer x82)) w (fun x83 w=>opP Tryz.prog Value.pointer (Instr.indexAt 22 (Sl.v x0) (.int .i64 x13)) (fun x84=>opU Tryz.prog (Instr.storeAt 66 (.pointer x84) (zAE.v x79)) w (fun w=>opP Tryz.prog Value.pointer (Instr.indexAt 22 (Sl.v x0) (.int .i64 x1)) (fun x85=>opU Tryz.prog (Instr.storeAt 66 (.pointer x85) (zAE.v x83)) w (fun w=>zC9 Ret x13 w)))))))∧(opE Tryz.prog zAE.v (Instr.loadAt 66 (.pointer x82)) w (fun x83_1 w=>opE Tryz.prog zAE.v (Instr.loadAt 66 (.pointer x78)) w (fun x79_1 w=>opP Tryz.prog Value.pointer (Instr.indexAt 22 (Sl.v x0) (.int .i64 x13)) (fun x84_1=>opU Tryz.prog (Instr.storeAt 66 (.pointer x84_1) (zAE.v x79_1)) w (fun w=>opP Tryz.prog Value.pointer (Instr.indexAt 22 (Sl.v x0) (.int .i64 x1)) (fun x85_1=>opU Tryz.prog (Instr.storeAt 66 (.pointer x85_1) (zAE.v x83_1)) w (fun w=>zC9 Ret x13 w))))))))))))∧(¬ (x13<x12)→(nextB w (fun w=>opP Tryz.prog Value.pointer (Instr.indexAt 22 (Sl.v x0) (.int .i64 x13)) (fun x93=>opP Tryz.prog Value.pointer (Instr.indexAt 22 (Sl.v x0) (.int .i64 x12)) (fun x97=>(opE Tryz.prog zAE.v (Instr.loadAt 66 (.pointer x93)) w (fun x94 w=>opE Tryz.prog zAE.v (Instr.loadAt 66 (.pointer x97)) w (fun x98 w=>opP Tryz.prog Value.pointer (Instr.indexAt 22 (Sl.v x0) (.int .i64 x12)) (fun x99=>opU Tryz.prog (Instr.storeAt 66 (.pointer x99) (zAE.v x94)) w (fun w=>opP Tryz.prog Value.pointer (Instr.indexAt 22 (Sl.v x0) (.int .i64 x13)) (fun x100=>opU Tryz.prog (Instr.storeAt 66 (.pointer x100) (zAE.v x98)) w (fun w=>zDB x0 x1 x4 Ret x12 x13 w)))))))∧(opE Tryz.prog zAE.v (Instr.loadAt 66 (.pointer x97)) w (fun x98_1 w=>opE Tryz.prog zAE.v (Instr.loadAt 66 (.pointer x93)) w (fun x94_1 w=>opP Tryz.prog Value.pointer (Instr.indexAt 22 (Sl.v x0) (.int .i64 x12)) (fun x99_1=>opU Tryz.prog (Instr.storeAt 66 (.pointer x99_1) (zAE.v x94_1)) w (fun w=>opP Tryz.prog Value.pointer (Instr.indexAt 22 (Sl.v x0) (.int .i64 x13)) (fun x100_1=>opU Tryz.prog (Instr.storeAt 66 (.pointer x100_1) (zAE.v x98_1)) w (fun w=>zDB x0 x1 x4 Ret x12 x13 w)))))))))))))))
def zD1 (x0:Sl) (x1:Int) (x4:Value) (Ret:Int→Bool→World→Prop) (x12:Int) (x13:Int) (w:World) (Kl4:Int→World→Prop):Prop:=
 ((x12≤x13)→(opB Tryz.prog Value.pointer (Instr.indexAt 22 (Sl.v x0) (.int .i64 x13)) w (fun x57=>opB Tryz.prog zAE.v (Instr.loadAt 66 (.pointer x57)) w (fun x58=>opB Tryz.prog Value.pointer (Instr.indexAt 22 (Sl.v x0) (.int .i64 x1)) w (fun x61=>opB Tryz.prog zAE.v (Instr.loadAt 66 (.pointer x61)) w (fun x62=>∃ (r_2:Int),CallQ Tryz.prog x4 [(zAE.v x58),(zAE.v x62)] w (.int .i64 r_2)∧(zDC x0 x1 x4 Ret x12 x13 Kl4 (!(decide (r_2<0))) w)))))))∧(¬ (x12≤x13)→(zDC x0 x1 x4 Ret x12 x13 Kl4 false w))
def zBx (x0:Sl) (x1:Int) (x2:Int) (x4:Value) (Ret:Int→Bool→World→Prop) (x12:Int) (Kl2:Int→World→Prop) (x47:Bool) (w:World):Prop:=
 nextB w (fun w=>(x47=true→(Kl2 (IntKind.wrap .i64 (x12+1)) w))∧(x47=false→(∃ (I:Int→World→Prop) (μ:Int→World→Nat),I (IntKind.wrap .i64 (x2 - 1)) w∧∀ (x13:Int) w,I x13 w→zD1 x0 x1 x4 Ret x12 x13 w (fun x13' w'=>I x13' w'∧μ x13' w'<μ x13 w))))
def zDz (x0:Sl) (x1:Int) (x2:Int) (x4:Value) (Ret:Int→Bool→World→Prop) (x12:Int) (w:World) (Kl2:Int→World→Prop):Prop:=
 ((x12≤(IntKind.wrap .i64 (x2 - 1)))→(opB Tryz.prog Value.pointer (Instr.indexAt 22 (Sl.v x0) (.int .i64 x12)) w (fun x39=>opB Tryz.prog zAE.v (Instr.loadAt 66 (.pointer x39)) w (fun x40=>opB Tryz.prog Value.pointer (Instr.indexAt 22 (Sl.v x0) (.int .i64 x1)) w (fun x43=>opB Tryz.prog zAE.v (Instr.loadAt 66 (.pointer x43)) w (fun x44=>∃ (r_3:Int),CallQ Tryz.prog x4 [(zAE.v x40),(zAE.v x44)] w (.int .i64 r_3)∧(zBx x0 x1 x2 x4 Ret x12 Kl2 (decide (r_3<0)) w)))))))∧(¬ (x12≤(IntKind.wrap .i64 (x2 - 1)))→(zBx x0 x1 x2 x4 Ret x12 Kl2 false w))
def zDD (x0:Sl) (x1:Int) (x2:Int) (x4:Value) (Ret:Int→Bool→World→Prop) (w:World):Prop:=
 ∃ (I:Int→World→Prop) (μ:Int→World→Nat),I (IntKind.wrap .i64 (x1+1)) w∧∀ (x12:Int) w,I x12 w→zDz x0 x1 x2 x4 Ret x12 w (fun x12' w'=>I x12' w'∧μ x12' w'<μ x12 w)
def zFN (x0:Sl) (x1:Int) (x2:Int) (x3:Int) (x4:Value) (w:World) (Ret:Int→Bool→World→Prop):Prop:=
 nextB w (fun w=>opP Tryz.prog Value.pointer (Instr.indexAt 22 (Sl.v x0) (.int .i64 x3)) (fun x20=>opP Tryz.prog Value.pointer (Instr.indexAt 22 (Sl.v x0) (.int .i64 x1)) (fun x24=>(opE Tryz.prog zAE.v (Instr.loadAt 66 (.pointer x20)) w (fun x21 w=>opE Tryz.prog zAE.v (Instr.loadAt 66 (.pointer x24)) w (fun x25 w=>opP Tryz.prog Value.pointer (Instr.indexAt 22 (Sl.v x0) (.int .i64 x1)) (fun x26=>opU Tryz.prog (Instr.storeAt 66 (.pointer x26) (zAE.v x21)) w (fun w=>opP Tryz.prog Value.pointer (Instr.indexAt 22 (Sl.v x0) (.int .i64 x3)) (fun x27=>opU Tryz.prog (Instr.storeAt 66 (.pointer x27) (zAE.v x25)) w (fun w=>zDD x0 x1 x2 x4 Ret w)))))))∧(opE Tryz.prog zAE.v (Instr.loadAt 66 (.pointer x24)) w (fun x25_1 w=>opE Tryz.prog zAE.v (Instr.loadAt 66 (.pointer x20)) w (fun x21_1 w=>opP Tryz.prog Value.pointer (Instr.indexAt 22 (Sl.v x0) (.int .i64 x1)) (fun x26_1=>opU Tryz.prog (Instr.storeAt 66 (.pointer x26_1) (zAE.v x21_1)) w (fun w=>opP Tryz.prog Value.pointer (Instr.indexAt 22 (Sl.v x0) (.int .i64 x3)) (fun x27_1=>opU Tryz.prog (Instr.storeAt 66 (.pointer x27_1) (zAE.v x25_1)) w (fun w=>zDD x0 x1 x2 x4 Ret w))))))))))
set_option maxRecDepth 100000 in
theorem zJD (x0:Sl) (x1:Int) (x2:Int) (x3:Int) (x4:Value) (w:World) (Ret:Int→Bool→World→Prop) (H:zFN x0 x1 x2 x3 x4 w Ret):Cl Tryz.prog 97 [(Sl.v x0),(.int .i64 x1),(.int .i64 x2),(.int .i64 x3),x4].toArray w (fun e w'=>∃ (r0:Int) (r1:Bool),e=.returned (.tuple [(.int .i64 r0),(.bool r1)].toArray)∧Ret r0 r1 w'):=by
 unfold zFN at H
 refine zAY 178 (zipE 0 [(Sl.v x0),(.int .i64 x1),(.int .i64 x2),(.int .i64 x3),x4]) Tryz.func97 rfl rfl (by rfl) rfl ?_
 intro a g
 replace g:Sat [] 178 [(0,(Sl.v x0)),(1,(.int .i64 x1)),(2,(.int .i64 x2)),(3,(.int .i64 x3)),(4,x4)] a:=g
 refine zAF (zAA (g.as_ rfl fun _ g=>(g.as_ rfl fun _ g=>(zAG (tn (zBG (ds:=[]) (N:=178) (σ:=Unit) (fun s=>[(0,(Sl.v x0)),(1,(.int .i64 x1)),(2,(.int .i64 x2)),(4,x4)]) (fun s w=>zDD x0 x1 x2 x4 Ret w) ?_ (fun hj1=>?_)))))))
 ·rintro ⟨⟩ w a H g
  try dsimp only at H g
  unfold zDD at H
  refine zAF (zAA (g.mv rfl fun _ g=>(g.pur (zAn g rfl rfl) fun _ g=>(g.mv rfl fun _ g=>(g.pur (zAv g rfl rfl) fun _ g=>(g.as_ rfl fun _ g=>(g.as_ rfl fun _ g=>(zAG (tn (zAF (zAN ?_)))))))))))
  obtain ⟨I_l2,μ_l2,h0,hb⟩:=H
  refine zBl (ds:=[]) (N:=178) (σ:=Int) (fun s=>[(12,(.int .i64 s)),(0,(Sl.v x0)),(1,(.int .i64 x1)),(4,x4),(13,(.int .i64 (IntKind.wrap .i64 (x2 - 1))))]) (fun s w=>I_l2 s w) (fun s w=>μ_l2 s w) (IntKind.wrap .i64 (x1+1)) h0 (g.weak ⟨rfl,rfl,rfl,rfl,rfl,trivial⟩) ?_
  intro x12 w a hI g
  try dsimp only at hI g
  obtain ⟨Kl2,hK_l2⟩:∃ K:Int→World→Prop,K=(fun x12' w'=>I_l2 x12' w'∧μ_l2 x12' w'<μ_l2 x12 w):=⟨_,rfl⟩
  have H:zDz x0 x1 x2 x4 Ret x12 w Kl2:=by rw [hK_l2];exact hb x12 w hI
  clear hb h0 hI
  unfold zDz at H
  refine zAF (zAF (zEB (by kernel_rfl) (by kernel_rfl) (g.qm rfl fun _ g=>(g.qm rfl fun _ g=>(g.qpur (zJn g rfl rfl) fun _ g=>(g.qm rfl fun _ g=>(WQ.join (ds:=[]) (N:=178) (σ:=Bool) (fun s=>[(47,(.bool s)),(0,(Sl.v x0)),(1,(.int .i64 x1)),(4,x4),(12,(.int .i64 x12)),(13,(.int .i64 (IntKind.wrap .i64 (x2 - 1))))]) (fun s=>zBx x0 x1 x2 x4 Ret x12 Kl2 s w) 12 ?_ (fun hr3=>?_))))))))
  ·intro x47 a H g
   try dsimp only at H g
   unfold zBx at H
   refine zED (fun w hB=>?_)
   replace H:=H w hB
   refine (tn (zAV g rfl (fun hc=>?_) (fun hc=>?_)))
   ·replace H:=H.1 hc
    refine zAP (tn (zAN (zAA (g.mv rfl fun _ g=>(g.pur (zAn g rfl rfl) fun _ g=>(g.as_ rfl fun _ g=>?_))))))
    rw [hK_l2] at H
    exact zAG (bn (tn ⟨(IntKind.wrap .i64 (x12+1)),g.weak ⟨rfl,rfl,rfl,rfl,rfl,trivial⟩,H⟩))
   ·replace H:=H.2 hc
    refine zBJ (te (te (be (tn (zAF (zAN ?_))))))
    obtain ⟨I_l4,μ_l4,h0,hb⟩:=H
    refine zBl (ds:=[]) (N:=178) (σ:=Int) (fun s=>[(13,(.int .i64 s)),(0,(Sl.v x0)),(1,(.int .i64 x1)),(4,x4),(12,(.int .i64 x12))]) (fun s w=>I_l4 s w) (fun s w=>μ_l4 s w) (IntKind.wrap .i64 (x2 - 1)) h0 (g.weak ⟨rfl,rfl,rfl,rfl,rfl,trivial⟩) ?_
    intro x13 w a hI g
    try dsimp only at hI g
    obtain ⟨Kl4,hK_l4⟩:∃ K:Int→World→Prop,K=(fun x13' w'=>I_l4 x13' w'∧μ_l4 x13' w'<μ_l4 x13 w):=⟨_,rfl⟩
    have H:zD1 x0 x1 x4 Ret x12 x13 w Kl4:=by rw [hK_l4];exact hb x13 w hI
    clear hb h0 hI
    unfold zD1 at H
    refine zAF (zAF (zEB (by kernel_rfl) (by kernel_rfl) (g.qm rfl fun _ g=>(g.qm rfl fun _ g=>(g.qpur (zJn g rfl rfl) fun _ g=>(g.qm rfl fun _ g=>(WQ.join (ds:=[]) (N:=178) (σ:=Bool) (fun s=>[(66,(.bool s)),(0,(Sl.v x0)),(1,(.int .i64 x1)),(4,x4),(12,(.int .i64 x12)),(13,(.int .i64 x13))]) (fun s=>zDC x0 x1 x4 Ret x12 x13 Kl4 s w) 13 ?_ (fun hr5=>?_))))))))
    ·intro x66 a H g
     try dsimp only at H g
     unfold zDC at H
     refine zED (fun w hB=>?_)
     replace H:=H w hB
     refine (tn (zAV g rfl (fun hc=>?_) (fun hc=>?_)))
     ·replace H:=H.1 hc
      refine zAP (tn (zAN (zAA (g.mv rfl fun _ g=>(g.pur (zAv g rfl rfl) fun _ g=>(g.as_ rfl fun _ g=>?_))))))
      rw [hK_l4] at H
      exact zAG (bn (tn ⟨(IntKind.wrap .i64 (x13 - 1)),g.weak ⟨rfl,rfl,rfl,rfl,rfl,trivial⟩,H⟩))
     ·replace H:=H.2 hc
      refine zBJ (te (te (be (tn (zAF (zAF (zAA (g.mv rfl fun _ g=>(g.mv rfl fun _ g=>(g.pur (zIG g rfl rfl) fun _ g=>(zAG (tn (zAR g rfl (fun hc=>?_) (fun hc=>?_))))))))))))))
      ·replace H:=H.1 hc
       refine zBG (ds:=[]) (N:=178) (σ:=Unit) (fun s=>[(13,(.int .i64 x13))]) (fun s w=>zC9 Ret x13 w) ?_ (fun hj6=>?_)
       ·rintro ⟨⟩ w a H g
        try dsimp only at H g
        unfold zC9 at H
        exact zAF (zAA (g.mv rfl fun _ g=>(g.as_ rfl fun _ g=>(g.as_ rfl fun _ g=>(zAG (tn (zAf (tr (zFz g rfl rfl rfl ⟨_,_,rfl,H⟩)))))))))
       ·refine zKK 16 fun w hB=>?_
        replace H:=H w hB
        refine g.ap 0 rfl (zAL g rfl) fun _ g=>g.ap 1 rfl (zAL g rfl) fun _ g=>g.ap 2 rfl (zAL g rfl) fun _ g=>g.ap 3 rfl (zAL g rfl) fun _ g=>g.ap 4 rfl (zAL g rfl) fun _ g=>g.ap 5 rfl (zAL g rfl) fun _ g=>g.ao 6 rfl (zAC g rfl rfl) H fun x78 a H g=>g.ap 8 rfl (zAL g rfl) fun _ g=>g.ap 9 rfl (zAL g rfl) fun _ g=>g.ao 10 rfl (zAC g rfl rfl) H fun x82 a H g=>WA.tw 7 11 rfl rfl ?_ ?_
        ·replace H:=H.1
         intro K hK
         exact g.wop (zAI g rfl) H fun x79 w a H g=>hK _ _ (g.o1 11 rfl (zAI g rfl) H fun x83 w a H g=>(g.ao 12 rfl (zAC g rfl rfl) H fun x84 a H g=>(g.o1u 13 rfl (zAM g rfl rfl) H fun w a H g=>(g.ao 14 rfl (zAC g rfl rfl) H fun x85 a H g=>(g.o1u 15 rfl (zAM g rfl rfl) H fun w a H g=>(WA.ni ((tn (hj6 () _ _ H (g.weak ⟨rfl,trivial⟩))))))))))
        ·replace H:=H.2
         intro K hK
         exact g.wop (zAI g rfl) H fun x83_1 w a H g=>hK _ _ (g.o1 7 rfl (zAI g rfl) H fun x79_1 w a H g=>(g.ao 12 rfl (zAC g rfl rfl) H fun x84_1 a H g=>(g.o1u 13 rfl (zAM g rfl rfl) H fun w a H g=>(g.ao 14 rfl (zAC g rfl rfl) H fun x85_1 a H g=>(g.o1u 15 rfl (zAM g rfl rfl) H fun w a H g=>(WA.ni ((tn (hj6 () _ _ H (g.weak ⟨rfl,trivial⟩))))))))))
      ·replace H:=H.2 hc
       refine zAP (tn (zBG (ds:=[]) (N:=178) (σ:=Unit) (fun s=>[(0,(Sl.v x0)),(1,(.int .i64 x1)),(4,x4),(12,(.int .i64 x12)),(13,(.int .i64 x13))]) (fun s w=>zDB x0 x1 x4 Ret x12 x13 w) ?_ (fun hj7=>?_)))
       ·rintro ⟨⟩ w a H g
        try dsimp only at H g
        unfold zDB at H
        refine zAF (zAA (g.mv rfl fun _ g=>(g.pur (zAn g rfl rfl) fun _ g=>(g.as_ rfl fun _ g=>(zAG (tn (zAF (zAA (g.mv rfl fun _ g=>(g.pur (zAv g rfl rfl) fun _ g=>(g.as_ rfl fun _ g=>(zAG (tn (zAF (zAN ?_)))))))))))))))
        obtain ⟨I_l8,μ_l8,h0,hb⟩:=H
        refine zBl (ds:=[]) (N:=178) (σ:=Int × Int) (fun s=>[(12,(.int .i64 s.1)),(13,(.int .i64 s.2)),(0,(Sl.v x0)),(1,(.int .i64 x1)),(4,x4)]) (fun s w=>I_l8 s.1 s.2 w) (fun s w=>μ_l8 s.1 s.2 w) ((IntKind.wrap .i64 (x12+1)),(IntKind.wrap .i64 (x13 - 1))) h0 (g.weak ⟨rfl,rfl,rfl,rfl,rfl,trivial⟩) ?_
        rintro ⟨x12_1,x13_1⟩ w a hI g
        try dsimp only at hI g
        obtain ⟨Kl8,hK_l8⟩:∃ K:Int→Int→World→Prop,K=(fun x12_1' x13_1' w'=>I_l8 x12_1' x13_1' w'∧μ_l8 x12_1' x13_1' w'<μ_l8 x12_1 x13_1 w):=⟨_,rfl⟩
        have H:zC3 x0 x1 x4 Ret x12_1 x13_1 w Kl8:=by rw [hK_l8];exact hb x12_1 x13_1 w hI
        clear hb h0 hI
        unfold zC3 at H
        refine zAN (zAF (zAN ?_))
        obtain ⟨I_l9,μ_l9,h0,hb⟩:=H
        refine zBl (ds:=[]) (N:=178) (σ:=Int) (fun s=>[(12,(.int .i64 s)),(0,(Sl.v x0)),(1,(.int .i64 x1)),(4,x4),(13,(.int .i64 x13_1))]) (fun s w=>I_l9 s w) (fun s w=>μ_l9 s w) x12_1 h0 (g.weak ⟨rfl,rfl,rfl,rfl,rfl,trivial⟩) ?_
        intro x12_2 w a hI g
        try dsimp only at hI g
        obtain ⟨Kl9,hK_l9⟩:∃ K:Int→World→Prop,K=(fun x12_2' w'=>I_l9 x12_2' w'∧μ_l9 x12_2' w'<μ_l9 x12_2 w):=⟨_,rfl⟩
        have H:zD4 x0 x1 x4 Ret x13_1 Kl8 x12_2 w Kl9:=by rw [hK_l9];exact hb x12_2 w hI
        clear hb h0 hI
        unfold zD4 at H
        refine zAF (zAF (zEB (by kernel_rfl) (by kernel_rfl) (g.qm rfl fun _ g=>(g.qm rfl fun _ g=>(g.qpur (zJn g rfl rfl) fun _ g=>(g.qm rfl fun _ g=>(WQ.join (ds:=[]) (N:=178) (σ:=Bool) (fun s=>[(120,(.bool s)),(0,(Sl.v x0)),(1,(.int .i64 x1)),(4,x4),(12,(.int .i64 x12_2)),(13,(.int .i64 x13_1))]) (fun s=>zCx x0 x1 x4 Ret x13_1 Kl8 x12_2 Kl9 s w) 12 ?_ (fun hr10=>?_))))))))
        ·intro x120 a H g
         try dsimp only at H g
         unfold zCx at H
         refine zED (fun w hB=>?_)
         replace H:=H w hB
         refine (tn (zAV g rfl (fun hc=>?_) (fun hc=>?_)))
         ·replace H:=H.1 hc
          refine zAP (tn (zAN (zAA (g.mv rfl fun _ g=>(g.pur (zAn g rfl rfl) fun _ g=>(g.as_ rfl fun _ g=>?_))))))
          rw [hK_l9] at H
          exact zAG (bn (tn ⟨(IntKind.wrap .i64 (x12_2+1)),g.weak ⟨rfl,rfl,rfl,rfl,rfl,trivial⟩,H⟩))
         ·replace H:=H.2 hc
          refine zBJ (te (te (be (tn (zAF (zAN ?_))))))
          obtain ⟨I_l11,μ_l11,h0,hb⟩:=H
          refine zBl (ds:=[]) (N:=178) (σ:=Int) (fun s=>[(13,(.int .i64 s)),(0,(Sl.v x0)),(1,(.int .i64 x1)),(4,x4),(12,(.int .i64 x12_2))]) (fun s w=>I_l11 s w) (fun s w=>μ_l11 s w) x13_1 h0 (g.weak ⟨rfl,rfl,rfl,rfl,rfl,trivial⟩) ?_
          intro x13_2 w a hI g
          try dsimp only at hI g
          obtain ⟨Kl11,hK_l11⟩:∃ K:Int→World→Prop,K=(fun x13_2' w'=>I_l11 x13_2' w'∧μ_l11 x13_2' w'<μ_l11 x13_2 w):=⟨_,rfl⟩
          have H:zDv x0 x1 x4 Ret Kl8 x12_2 x13_2 w Kl11:=by rw [hK_l11];exact hb x13_2 w hI
          clear hb h0 hI
          unfold zDv at H
          refine zAF (zAF (zEB (by kernel_rfl) (by kernel_rfl) (g.qm rfl fun _ g=>(g.qm rfl fun _ g=>(g.qpur (zJn g rfl rfl) fun _ g=>(g.qm rfl fun _ g=>(WQ.join (ds:=[]) (N:=178) (σ:=Bool) (fun s=>[(139,(.bool s)),(0,(Sl.v x0)),(1,(.int .i64 x1)),(4,x4),(12,(.int .i64 x12_2)),(13,(.int .i64 x13_2))]) (fun s=>zCw x0 x1 Ret Kl8 x12_2 x13_2 Kl11 s w) 13 ?_ (fun hr12=>?_))))))))
          ·intro x139 a H g
           try dsimp only at H g
           unfold zCw at H
           refine zED (fun w hB=>?_)
           replace H:=H w hB
           refine (tn (zAV g rfl (fun hc=>?_) (fun hc=>?_)))
           ·replace H:=H.1 hc
            refine zAP (tn (zAN (zAA (g.mv rfl fun _ g=>(g.pur (zAv g rfl rfl) fun _ g=>(g.as_ rfl fun _ g=>?_))))))
            rw [hK_l11] at H
            exact zAG (bn (tn ⟨(IntKind.wrap .i64 (x13_2 - 1)),g.weak ⟨rfl,rfl,rfl,rfl,rfl,trivial⟩,H⟩))
           ·replace H:=H.2 hc
            refine zBJ (te (te (be (tn (zAF (zAF (zAA (g.mv rfl fun _ g=>(g.mv rfl fun _ g=>(g.pur (zIG g rfl rfl) fun _ g=>(zAG (tn (zAR g rfl (fun hc=>?_) (fun hc=>?_))))))))))))))
            ·replace H:=H.1 hc
             refine zBJ (te (bo (te (be (tn (zBG (ds:=[]) (N:=178) (σ:=Unit) (fun s=>[(13,(.int .i64 x13_2))]) (fun s w=>zCv Ret x13_2 w) ?_ (fun hj13=>?_)))))))
             ·rintro ⟨⟩ w a H g
              try dsimp only at H g
              unfold zCv at H
              exact zAF (zAA (g.mv rfl fun _ g=>(g.as_ rfl fun _ g=>(g.as_ rfl fun _ g=>(zAG (tn (zAf (zFz g rfl rfl rfl ⟨_,_,rfl,H⟩))))))))
             ·refine zKK 16 fun w hB=>?_
              replace H:=H w hB
              refine g.ap 0 rfl (zAL g rfl) fun _ g=>g.ap 1 rfl (zAL g rfl) fun _ g=>g.ap 2 rfl (zAL g rfl) fun _ g=>g.ap 3 rfl (zAL g rfl) fun _ g=>g.ap 4 rfl (zAL g rfl) fun _ g=>g.ap 5 rfl (zAL g rfl) fun _ g=>g.ao 6 rfl (zAC g rfl rfl) H fun x169 a H g=>g.ap 8 rfl (zAL g rfl) fun _ g=>g.ap 9 rfl (zAL g rfl) fun _ g=>g.ao 10 rfl (zAC g rfl rfl) H fun x173 a H g=>WA.tw 7 11 rfl rfl ?_ ?_
              ·replace H:=H.1
               intro K hK
               exact g.wop (zAI g rfl) H fun x170 w a H g=>hK _ _ (g.o1 11 rfl (zAI g rfl) H fun x174 w a H g=>(g.ao 12 rfl (zAC g rfl rfl) H fun x175 a H g=>(g.o1u 13 rfl (zAM g rfl rfl) H fun w a H g=>(g.ao 14 rfl (zAC g rfl rfl) H fun x176 a H g=>(g.o1u 15 rfl (zAM g rfl rfl) H fun w a H g=>(WA.ni ((tn (hj13 () _ _ H (g.weak ⟨rfl,trivial⟩))))))))))
              ·replace H:=H.2
               intro K hK
               exact g.wop (zAI g rfl) H fun x174_1 w a H g=>hK _ _ (g.o1 7 rfl (zAI g rfl) H fun x170_1 w a H g=>(g.ao 12 rfl (zAC g rfl rfl) H fun x175_1 a H g=>(g.o1u 13 rfl (zAM g rfl rfl) H fun w a H g=>(g.ao 14 rfl (zAC g rfl rfl) H fun x176_1 a H g=>(g.o1u 15 rfl (zAM g rfl rfl) H fun w a H g=>(WA.ni ((tn (hj13 () _ _ H (g.weak ⟨rfl,trivial⟩))))))))))
            ·replace H:=H.2 hc
             refine zAP (tn (zBG (ds:=[]) (N:=178) (σ:=Unit) (fun s=>[(0,(Sl.v x0)),(1,(.int .i64 x1)),(4,x4),(12,(.int .i64 x12_2)),(13,(.int .i64 x13_2))]) (fun s w=>zC1 Kl8 x12_2 x13_2 w) ?_ (fun hj14=>?_)))
             ·rintro ⟨⟩ w a H g
              try dsimp only at H g
              unfold zC1 at H
              refine zAF (zAA (g.mv rfl fun _ g=>(g.pur (zAn g rfl rfl) fun _ g=>(g.as_ rfl fun _ g=>(zAG (tn (zAA (g.mv rfl fun _ g=>(g.pur (zAv g rfl rfl) fun _ g=>(g.as_ rfl fun _ g=>?_))))))))))
              rw [hK_l8] at H
              exact zAG (bn (tn ⟨((IntKind.wrap .i64 (x12_2+1)),(IntKind.wrap .i64 (x13_2 - 1))),g.weak ⟨rfl,rfl,rfl,rfl,rfl,trivial⟩,H⟩))
             ·refine zKK 16 fun w hB=>?_
              replace H:=H w hB
              refine g.ap 0 rfl (zAL g rfl) fun _ g=>g.ap 1 rfl (zAL g rfl) fun _ g=>g.ap 2 rfl (zAL g rfl) fun _ g=>g.ap 3 rfl (zAL g rfl) fun _ g=>g.ap 4 rfl (zAL g rfl) fun _ g=>g.ap 5 rfl (zAL g rfl) fun _ g=>g.ao 6 rfl (zAC g rfl rfl) H fun x151 a H g=>g.ap 8 rfl (zAL g rfl) fun _ g=>g.ap 9 rfl (zAL g rfl) fun _ g=>g.ao 10 rfl (zAC g rfl rfl) H fun x155 a H g=>WA.tw 7 11 rfl rfl ?_ ?_
              ·replace H:=H.1
               intro K hK
               exact g.wop (zAI g rfl) H fun x152 w a H g=>hK _ _ (g.o1 11 rfl (zAI g rfl) H fun x156 w a H g=>(g.ao 12 rfl (zAC g rfl rfl) H fun x157 a H g=>(g.o1u 13 rfl (zAM g rfl rfl) H fun w a H g=>(g.ao 14 rfl (zAC g rfl rfl) H fun x158 a H g=>(g.o1u 15 rfl (zAM g rfl rfl) H fun w a H g=>(WA.ni ((tn (hj14 () _ _ H (g.weak ⟨rfl,rfl,rfl,rfl,rfl,trivial⟩))))))))))
              ·replace H:=H.2
               intro K hK
               exact g.wop (zAI g rfl) H fun x156_1 w a H g=>hK _ _ (g.o1 7 rfl (zAI g rfl) H fun x152_1 w a H g=>(g.ao 12 rfl (zAC g rfl rfl) H fun x157_1 a H g=>(g.o1u 13 rfl (zAM g rfl rfl) H fun w a H g=>(g.ao 14 rfl (zAC g rfl rfl) H fun x158_1 a H g=>(g.o1u 15 rfl (zAM g rfl rfl) H fun w a H g=>(WA.ni ((tn (hj14 () _ _ H (g.weak ⟨rfl,rfl,rfl,rfl,rfl,trivial⟩))))))))))
          ·rcases Classical.em ((x12_2≤x13_2)) with hbr12|hbr12
           ·replace H:=H.1 hbr12
            replace g:=g.bool (b:=true) (t:=126) rfl (decide_eq_true hbr12)
            refine g.qon (by rfl) (by rfl) (g.qm rfl fun _ g=>(g.qon (by rfl) (by rfl) (g.qm rfl fun _ g=>(g.qon (by rfl) (by rfl) (g.qm rfl fun _ g=>(g.qon (by rfl) (by rfl) (g.qop (zAC g rfl rfl) H fun x130 a H g=>(g.qon (by rfl) (by rfl) (g.qop (zAI g rfl) H fun x131 a H g=>(g.qon (by rfl) (by rfl) (g.qm rfl fun _ g=>(g.qon (by rfl) (by rfl) (g.qm rfl fun _ g=>(g.qon (by rfl) (by rfl) (g.qop (zAC g rfl rfl) H fun x134 a H g=>(g.qon (by rfl) (by rfl) (g.qop (zAI g rfl) H fun x135 a H g=>(g.qon (by rfl) (by rfl) ?_))))))))))))))))))
            obtain ⟨r,hc,H⟩:=H
            exact g.qcallV rfl rfl hc fun _ g=>g.qon (by rfl) (by rfl) (g.qpur (zDp g rfl rfl) fun _ g=>(g.qon (by rfl) (by rfl) (g.qpur (zGp g rfl) fun _ g=>(g.qpur (zAj g rfl rfl) fun _ g=>(hr12 (!(decide (r<0))) _ H (g.weak ⟨rfl,rfl,rfl,rfl,rfl,rfl,trivial⟩))))))
           ·replace H:=H.2 hbr12
            replace g:=g.bool (b:=false) (t:=126) rfl (decide_eq_false hbr12)
            exact g.qoff (by rfl) (by rfl) (by decide) (fun _ g=>(g.qoff (by rfl) (by rfl) (by decide) (fun _ g=>(g.qoff (by rfl) (by rfl) (by decide) (fun _ g=>(g.qoff (by rfl) (by rfl) (by decide) (fun _ g=>(g.qoff (by rfl) (by rfl) (by decide) (fun _ g=>(g.qoff (by rfl) (by rfl) (by decide) (fun _ g=>(g.qoff (by rfl) (by rfl) (by decide) (fun _ g=>(g.qoff (by rfl) (by rfl) (by decide) (fun _ g=>(g.qoff (by rfl) (by rfl) (by decide) (fun _ g=>(g.qoff (by rfl) (by rfl) (by decide) (fun _ g=>(g.qoff (by rfl) (by rfl) (by decide) (fun _ g=>(g.qoff (by rfl) (by rfl) (by decide) (fun _ g=>(g.qpur (zAi g rfl rfl) fun _ g=>(hr12 false _ H (g.weak ⟨rfl,rfl,rfl,rfl,rfl,rfl,trivial⟩))))))))))))))))))))))))))
        ·rcases Classical.em ((x12_2≤x13_1)) with hbr10|hbr10
         ·replace H:=H.1 hbr10
          replace g:=g.bool (b:=true) (t:=108) rfl (decide_eq_true hbr10)
          refine g.qon (by rfl) (by rfl) (g.qm rfl fun _ g=>(g.qon (by rfl) (by rfl) (g.qm rfl fun _ g=>(g.qon (by rfl) (by rfl) (g.qm rfl fun _ g=>(g.qon (by rfl) (by rfl) (g.qop (zAC g rfl rfl) H fun x112 a H g=>(g.qon (by rfl) (by rfl) (g.qop (zAI g rfl) H fun x113 a H g=>(g.qon (by rfl) (by rfl) (g.qm rfl fun _ g=>(g.qon (by rfl) (by rfl) (g.qm rfl fun _ g=>(g.qon (by rfl) (by rfl) (g.qop (zAC g rfl rfl) H fun x116 a H g=>(g.qon (by rfl) (by rfl) (g.qop (zAI g rfl) H fun x117 a H g=>(g.qon (by rfl) (by rfl) ?_))))))))))))))))))
          obtain ⟨r_1,hc,H⟩:=H
          exact g.qcallV rfl rfl hc fun _ g=>g.qon (by rfl) (by rfl) (g.qpur (zDp g rfl rfl) fun _ g=>(g.qpur (zAj g rfl rfl) fun _ g=>(hr10 (decide (r_1<0)) _ H (g.weak ⟨rfl,rfl,rfl,rfl,rfl,rfl,trivial⟩))))
         ·replace H:=H.2 hbr10
          replace g:=g.bool (b:=false) (t:=108) rfl (decide_eq_false hbr10)
          exact g.qoff (by rfl) (by rfl) (by decide) (fun _ g=>(g.qoff (by rfl) (by rfl) (by decide) (fun _ g=>(g.qoff (by rfl) (by rfl) (by decide) (fun _ g=>(g.qoff (by rfl) (by rfl) (by decide) (fun _ g=>(g.qoff (by rfl) (by rfl) (by decide) (fun _ g=>(g.qoff (by rfl) (by rfl) (by decide) (fun _ g=>(g.qoff (by rfl) (by rfl) (by decide) (fun _ g=>(g.qoff (by rfl) (by rfl) (by decide) (fun _ g=>(g.qoff (by rfl) (by rfl) (by decide) (fun _ g=>(g.qoff (by rfl) (by rfl) (by decide) (fun _ g=>(g.qoff (by rfl) (by rfl) (by decide) (fun _ g=>(g.qpur (zAi g rfl rfl) fun _ g=>(hr10 false _ H (g.weak ⟨rfl,rfl,rfl,rfl,rfl,rfl,trivial⟩))))))))))))))))))))))))
       ·refine zKK 16 fun w hB=>?_
        replace H:=H w hB
        refine g.ap 0 rfl (zAL g rfl) fun _ g=>g.ap 1 rfl (zAL g rfl) fun _ g=>g.ap 2 rfl (zAL g rfl) fun _ g=>g.ap 3 rfl (zAL g rfl) fun _ g=>g.ap 4 rfl (zAL g rfl) fun _ g=>g.ap 5 rfl (zAL g rfl) fun _ g=>g.ao 6 rfl (zAC g rfl rfl) H fun x93 a H g=>g.ap 8 rfl (zAL g rfl) fun _ g=>g.ap 9 rfl (zAL g rfl) fun _ g=>g.ao 10 rfl (zAC g rfl rfl) H fun x97 a H g=>WA.tw 7 11 rfl rfl ?_ ?_
        ·replace H:=H.1
         intro K hK
         exact g.wop (zAI g rfl) H fun x94 w a H g=>hK _ _ (g.o1 11 rfl (zAI g rfl) H fun x98 w a H g=>(g.ao 12 rfl (zAC g rfl rfl) H fun x99 a H g=>(g.o1u 13 rfl (zAM g rfl rfl) H fun w a H g=>(g.ao 14 rfl (zAC g rfl rfl) H fun x100 a H g=>(g.o1u 15 rfl (zAM g rfl rfl) H fun w a H g=>(WA.ni ((tn (hj7 () _ _ H (g.weak ⟨rfl,rfl,rfl,rfl,rfl,trivial⟩))))))))))
        ·replace H:=H.2
         intro K hK
         exact g.wop (zAI g rfl) H fun x98_1 w a H g=>hK _ _ (g.o1 7 rfl (zAI g rfl) H fun x94_1 w a H g=>(g.ao 12 rfl (zAC g rfl rfl) H fun x99_1 a H g=>(g.o1u 13 rfl (zAM g rfl rfl) H fun w a H g=>(g.ao 14 rfl (zAC g rfl rfl) H fun x100_1 a H g=>(g.o1u 15 rfl (zAM g rfl rfl) H fun w a H g=>(WA.ni ((tn (hj7 () _ _ H (g.weak ⟨rfl,rfl,rfl,rfl,rfl,trivial⟩))))))))))
    ·rcases Classical.em ((x12≤x13)) with hbr5|hbr5
     ·replace H:=H.1 hbr5
      replace g:=g.bool (b:=true) (t:=53) rfl (decide_eq_true hbr5)
      refine g.qon (by rfl) (by rfl) (g.qm rfl fun _ g=>(g.qon (by rfl) (by rfl) (g.qm rfl fun _ g=>(g.qon (by rfl) (by rfl) (g.qm rfl fun _ g=>(g.qon (by rfl) (by rfl) (g.qop (zAC g rfl rfl) H fun x57 a H g=>(g.qon (by rfl) (by rfl) (g.qop (zAI g rfl) H fun x58 a H g=>(g.qon (by rfl) (by rfl) (g.qm rfl fun _ g=>(g.qon (by rfl) (by rfl) (g.qm rfl fun _ g=>(g.qon (by rfl) (by rfl) (g.qop (zAC g rfl rfl) H fun x61 a H g=>(g.qon (by rfl) (by rfl) (g.qop (zAI g rfl) H fun x62 a H g=>(g.qon (by rfl) (by rfl) ?_))))))))))))))))))
      obtain ⟨r_2,hc,H⟩:=H
      exact g.qcallV rfl rfl hc fun _ g=>g.qon (by rfl) (by rfl) (g.qpur (zDp g rfl rfl) fun _ g=>(g.qon (by rfl) (by rfl) (g.qpur (zGp g rfl) fun _ g=>(g.qpur (zAj g rfl rfl) fun _ g=>(hr5 (!(decide (r_2<0))) _ H (g.weak ⟨rfl,rfl,rfl,rfl,rfl,rfl,trivial⟩))))))
     ·replace H:=H.2 hbr5
      replace g:=g.bool (b:=false) (t:=53) rfl (decide_eq_false hbr5)
      exact g.qoff (by rfl) (by rfl) (by decide) (fun _ g=>(g.qoff (by rfl) (by rfl) (by decide) (fun _ g=>(g.qoff (by rfl) (by rfl) (by decide) (fun _ g=>(g.qoff (by rfl) (by rfl) (by decide) (fun _ g=>(g.qoff (by rfl) (by rfl) (by decide) (fun _ g=>(g.qoff (by rfl) (by rfl) (by decide) (fun _ g=>(g.qoff (by rfl) (by rfl) (by decide) (fun _ g=>(g.qoff (by rfl) (by rfl) (by decide) (fun _ g=>(g.qoff (by rfl) (by rfl) (by decide) (fun _ g=>(g.qoff (by rfl) (by rfl) (by decide) (fun _ g=>(g.qoff (by rfl) (by rfl) (by decide) (fun _ g=>(g.qoff (by rfl) (by rfl) (by decide) (fun _ g=>(g.qpur (zAi g rfl rfl) fun _ g=>(hr5 false _ H (g.weak ⟨rfl,rfl,rfl,rfl,rfl,rfl,trivial⟩))))))))))))))))))))))))))
  ·rcases Classical.em ((x12≤(IntKind.wrap .i64 (x2 - 1)))) with hbr3|hbr3
   ·replace H:=H.1 hbr3
    replace g:=g.bool (b:=true) (t:=35) rfl (decide_eq_true hbr3)
    refine g.qon (by rfl) (by rfl) (g.qm rfl fun _ g=>(g.qon (by rfl) (by rfl) (g.qm rfl fun _ g=>(g.qon (by rfl) (by rfl) (g.qm rfl fun _ g=>(g.qon (by rfl) (by rfl) (g.qop (zAC g rfl rfl) H fun x39 a H g=>(g.qon (by rfl) (by rfl) (g.qop (zAI g rfl) H fun x40 a H g=>(g.qon (by rfl) (by rfl) (g.qm rfl fun _ g=>(g.qon (by rfl) (by rfl) (g.qm rfl fun _ g=>(g.qon (by rfl) (by rfl) (g.qop (zAC g rfl rfl) H fun x43 a H g=>(g.qon (by rfl) (by rfl) (g.qop (zAI g rfl) H fun x44 a H g=>(g.qon (by rfl) (by rfl) ?_))))))))))))))))))
    obtain ⟨r_3,hc,H⟩:=H
    exact g.qcallV rfl rfl hc fun _ g=>g.qon (by rfl) (by rfl) (g.qpur (zDp g rfl rfl) fun _ g=>(g.qpur (zAj g rfl rfl) fun _ g=>(hr3 (decide (r_3<0)) _ H (g.weak ⟨rfl,rfl,rfl,rfl,rfl,rfl,trivial⟩))))
   ·replace H:=H.2 hbr3
    replace g:=g.bool (b:=false) (t:=35) rfl (decide_eq_false hbr3)
    exact g.qoff (by rfl) (by rfl) (by decide) (fun _ g=>(g.qoff (by rfl) (by rfl) (by decide) (fun _ g=>(g.qoff (by rfl) (by rfl) (by decide) (fun _ g=>(g.qoff (by rfl) (by rfl) (by decide) (fun _ g=>(g.qoff (by rfl) (by rfl) (by decide) (fun _ g=>(g.qoff (by rfl) (by rfl) (by decide) (fun _ g=>(g.qoff (by rfl) (by rfl) (by decide) (fun _ g=>(g.qoff (by rfl) (by rfl) (by decide) (fun _ g=>(g.qoff (by rfl) (by rfl) (by decide) (fun _ g=>(g.qoff (by rfl) (by rfl) (by decide) (fun _ g=>(g.qoff (by rfl) (by rfl) (by decide) (fun _ g=>(g.qpur (zAi g rfl rfl) fun _ g=>(hr3 false _ H (g.weak ⟨rfl,rfl,rfl,rfl,rfl,rfl,trivial⟩))))))))))))))))))))))))
 ·refine zKK 16 fun w hB=>?_
  replace H:=H w hB
  refine g.ap 0 rfl (zAL g rfl) fun _ g=>g.ap 1 rfl (zAL g rfl) fun _ g=>g.ap 2 rfl (zAL g rfl) fun _ g=>g.ap 3 rfl (zAL g rfl) fun _ g=>g.ap 4 rfl (zAL g rfl) fun _ g=>g.ap 5 rfl (zAL g rfl) fun _ g=>g.ao 6 rfl (zAC g rfl rfl) H fun x20 a H g=>g.ap 8 rfl (zAL g rfl) fun _ g=>g.ap 9 rfl (zAL g rfl) fun _ g=>g.ao 10 rfl (zAC g rfl rfl) H fun x24 a H g=>WA.tw 7 11 rfl rfl ?_ ?_
  ·replace H:=H.1
   intro K hK
   exact g.wop (zAI g rfl) H fun x21 w a H g=>hK _ _ (g.o1 11 rfl (zAI g rfl) H fun x25 w a H g=>(g.ao 12 rfl (zAC g rfl rfl) H fun x26 a H g=>(g.o1u 13 rfl (zAM g rfl rfl) H fun w a H g=>(g.ao 14 rfl (zAC g rfl rfl) H fun x27 a H g=>(g.o1u 15 rfl (zAM g rfl rfl) H fun w a H g=>(WA.ni ((tn (hj1 () _ _ H (g.weak ⟨rfl,rfl,rfl,rfl,trivial⟩))))))))))
  ·replace H:=H.2
   intro K hK
   exact g.wop (zAI g rfl) H fun x25_1 w a H g=>hK _ _ (g.o1 7 rfl (zAI g rfl) H fun x21_1 w a H g=>(g.ao 12 rfl (zAC g rfl rfl) H fun x26_1 a H g=>(g.o1u 13 rfl (zAM g rfl rfl) H fun w a H g=>(g.ao 14 rfl (zAC g rfl rfl) H fun x27_1 a H g=>(g.o1u 15 rfl (zAM g rfl rfl) H fun w a H g=>(WA.ni ((tn (hj1 () _ _ H (g.weak ⟨rfl,rfl,rfl,rfl,trivial⟩))))))))))
def zDR (Kl1:Int→World→Prop) (x11:Int) (w:World):Prop:=
 Kl1 x11 w
def zCD (x0:Sl) (x3:Int) (x4:Value) (Ret:World→Prop) (x10:Int) (Kl1:Int→World→Prop) (x11:Int) (w:World):Prop:=
 opB Tryz.prog Value.pointer (Instr.indexAt 22 (Sl.v x0) (.int .i64 (IntKind.wrap .i64 (x3+x10)))) w (fun x48=>opB Tryz.prog zAE.v (Instr.loadAt 66 (.pointer x48)) w (fun x49=>opB Tryz.prog Value.pointer (Instr.indexAt 22 (Sl.v x0) (.int .i64 (IntKind.wrap .i64 (x3+x11)))) w (fun x54=>opB Tryz.prog zAE.v (Instr.loadAt 66 (.pointer x54)) w (fun x55=>∃ (r:Int),CallQ Tryz.prog x4 [(zAE.v x49),(zAE.v x55)] w (.int .i64 r)∧(nextB w (fun w=>((!(decide (r<0)))=true→(Ret w))∧((!(decide (r<0)))=false→(nextB w (fun w=>opP Tryz.prog Value.pointer (Instr.indexAt 22 (Sl.v x0) (.int .i64 (IntKind.wrap .i64 (x3+x11)))) (fun x71=>opP Tryz.prog Value.pointer (Instr.indexAt 22 (Sl.v x0) (.int .i64 (IntKind.wrap .i64 (x3+x10)))) (fun x77=>(opE Tryz.prog zAE.v (Instr.loadAt 66 (.pointer x71)) w (fun x72 w=>opE Tryz.prog zAE.v (Instr.loadAt 66 (.pointer x77)) w (fun x78 w=>opP Tryz.prog Value.pointer (Instr.indexAt 22 (Sl.v x0) (.int .i64 (IntKind.wrap .i64 (x3+x10)))) (fun x79=>opU Tryz.prog (Instr.storeAt 66 (.pointer x79) (zAE.v x72)) w (fun w=>opP Tryz.prog Value.pointer (Instr.indexAt 22 (Sl.v x0) (.int .i64 (IntKind.wrap .i64 (x3+x11)))) (fun x80=>opU Tryz.prog (Instr.storeAt 66 (.pointer x80) (zAE.v x78)) w (fun w=>zDR Kl1 x11 w)))))))∧(opE Tryz.prog zAE.v (Instr.loadAt 66 (.pointer x77)) w (fun x78_1 w=>opE Tryz.prog zAE.v (Instr.loadAt 66 (.pointer x71)) w (fun x72_1 w=>opP Tryz.prog Value.pointer (Instr.indexAt 22 (Sl.v x0) (.int .i64 (IntKind.wrap .i64 (x3+x10)))) (fun x79_1=>opU Tryz.prog (Instr.storeAt 66 (.pointer x79_1) (zAE.v x72_1)) w (fun w=>opP Tryz.prog Value.pointer (Instr.indexAt 22 (Sl.v x0) (.int .i64 (IntKind.wrap .i64 (x3+x11)))) (fun x80_1=>opU Tryz.prog (Instr.storeAt 66 (.pointer x80_1) (zAE.v x78_1)) w (fun w=>zDR Kl1 x11 w))))))))))))))))))
def zCC (x0:Sl) (x3:Int) (x4:Value) (Ret:World→Prop) (x10:Int) (Kl1:Int→World→Prop) (x40:Bool) (w:World):Prop:=
 nextB w (fun w=>(x40=true→(zCD x0 x3 x4 Ret x10 Kl1 (IntKind.wrap .i64 ((IntKind.wrap .i64 ((IntKind.wrap .i64 (2*x10))+1))+1)) w))∧(x40=false→(zCD x0 x3 x4 Ret x10 Kl1 (IntKind.wrap .i64 ((IntKind.wrap .i64 (2*x10))+1)) w)))
def zD7 (x0:Sl) (x2:Int) (x3:Int) (x4:Value) (Ret:World→Prop) (x10:Int) (w:World) (Kl1:Int→World→Prop):Prop:=
 ((x2≤(IntKind.wrap .i64 ((IntKind.wrap .i64 (2*x10))+1)))→(Ret w))∧(¬ (x2≤(IntKind.wrap .i64 ((IntKind.wrap .i64 (2*x10))+1)))→((((IntKind.wrap .i64 ((IntKind.wrap .i64 ((IntKind.wrap .i64 (2*x10))+1))+1))<x2)→(opB Tryz.prog Value.pointer (Instr.indexAt 22 (Sl.v x0) (.int .i64 (IntKind.wrap .i64 (x3+(IntKind.wrap .i64 ((IntKind.wrap .i64 (2*x10))+1)))))) w (fun x29=>opB Tryz.prog zAE.v (Instr.loadAt 66 (.pointer x29)) w (fun x30=>opB Tryz.prog Value.pointer (Instr.indexAt 22 (Sl.v x0) (.int .i64 (IntKind.wrap .i64 ((IntKind.wrap .i64 (x3+(IntKind.wrap .i64 ((IntKind.wrap .i64 (2*x10))+1))))+1)))) w (fun x36=>opB Tryz.prog zAE.v (Instr.loadAt 66 (.pointer x36)) w (fun x37=>∃ (r_1:Int),CallQ Tryz.prog x4 [(zAE.v x30),(zAE.v x37)] w (.int .i64 r_1)∧(zCC x0 x3 x4 Ret x10 Kl1 (decide (r_1<0)) w)))))))∧(¬ ((IntKind.wrap .i64 ((IntKind.wrap .i64 ((IntKind.wrap .i64 (2*x10))+1))+1))<x2)→(zCC x0 x3 x4 Ret x10 Kl1 false w))))
def zFX (x0:Sl) (x1:Int) (x2:Int) (x3:Int) (x4:Value) (w:World) (Ret:World→Prop):Prop:=
 ∃ (I:Int→World→Prop) (μ:Int→World→Nat),I x1 w∧∀ (x10:Int) w,I x10 w→zD7 x0 x2 x3 x4 Ret x10 w (fun x10' w'=>I x10' w'∧μ x10' w'<μ x10 w)
set_option maxRecDepth 100000 in
theorem zJO (x0:Sl) (x1:Int) (x2:Int) (x3:Int) (x4:Value) (w:World) (Ret:World→Prop) (H:zFX x0 x1 x2 x3 x4 w Ret):Cl Tryz.prog 114 [(Sl.v x0),(.int .i64 x1),(.int .i64 x2),(.int .i64 x3),x4].toArray w (fun e w'=>e=.returned (.tuple [].toArray)∧Ret w'):=by
 unfold zFX at H
 refine zAY 82 (zipE 0 [(Sl.v x0),(.int .i64 x1),(.int .i64 x2),(.int .i64 x3),x4]) Tryz.func114 rfl rfl (by rfl) rfl ?_
 intro a g
 replace g:Sat [] 82 [(0,(Sl.v x0)),(1,(.int .i64 x1)),(2,(.int .i64 x2)),(3,(.int .i64 x3)),(4,x4)] a:=g
 refine zAF (zAA (g.mv rfl fun _ g=>(g.as_ rfl fun _ g=>(zAG (tn (zAN ?_))))))
 obtain ⟨I_l1,μ_l1,h0,hb⟩:=H
 refine zBl (ds:=[]) (N:=82) (σ:=Int) (fun s=>[(10,(.int .i64 s)),(0,(Sl.v x0)),(2,(.int .i64 x2)),(3,(.int .i64 x3)),(4,x4)]) (fun s w=>I_l1 s w) (fun s w=>μ_l1 s w) x1 h0 (g.weak ⟨rfl,rfl,rfl,rfl,rfl,trivial⟩) ?_
 intro x10 w a hI g
 try dsimp only at hI g
 obtain ⟨Kl1,hK_l1⟩:∃ K:Int→World→Prop,K=(fun x10' w'=>I_l1 x10' w'∧μ_l1 x10' w'<μ_l1 x10 w):=⟨_,rfl⟩
 have H:zD7 x0 x2 x3 x4 Ret x10 w Kl1:=by rw [hK_l1];exact hb x10 w hI
 clear hb h0 hI
 unfold zD7 at H
 refine zAN (zAF (zAA (g.mv rfl fun _ g=>(g.pur (zLJ g rfl rfl) fun _ g=>(g.pur (zAn g rfl rfl) fun _ g=>(g.as_ rfl fun _ g=>(zAG (tn (zAF (zAF (zAA (g.mv rfl fun _ g=>(g.mv rfl fun _ g=>(g.pur (zF7 g rfl rfl) fun _ g=>(zAG (tn (zAR g rfl (fun hc=>?_) (fun hc=>?_))))))))))))))))))
 ·replace H:=H.1 hc
  exact zBJ (te (bo (te (be (zG1 g rfl ⟨rfl,H⟩)))))
 ·replace H:=H.2 hc
  refine zAP (tn (zBG (ds:=[]) (N:=82) (σ:=Int) (fun s=>[(11,(.int .i64 s)),(0,(Sl.v x0)),(2,(.int .i64 x2)),(3,(.int .i64 x3)),(4,x4),(10,(.int .i64 x10))]) (fun s w=>zCD x0 x3 x4 Ret x10 Kl1 s w) ?_ (fun hj2=>?_)))
  ·intro x11 w a H g
   try dsimp only at H g
   unfold zCD at H
   refine zAF (zAF (zEB (by kernel_rfl) (by kernel_rfl) (g.qm rfl fun _ g=>(g.qm rfl fun _ g=>(g.qm rfl fun _ g=>(g.qm rfl fun _ g=>(g.qpur (zAn g rfl rfl) fun _ g=>(g.qop (zAC g rfl rfl) H fun x48 a H g=>(g.qop (zAI g rfl) H fun x49 a H g=>(g.qm rfl fun _ g=>(g.qm rfl fun _ g=>(g.qm rfl fun _ g=>(g.qpur (zAn g rfl rfl) fun _ g=>(g.qop (zAC g rfl rfl) H fun x54 a H g=>(g.qop (zAI g rfl) H fun x55 a H g=>?_)))))))))))))))
   obtain ⟨r,hc,H⟩:=H
   refine g.qcallV rfl rfl hc fun _ g=>g.qpur (zDp g rfl rfl) fun _ g=>g.qpur (zGp g rfl) fun _ g=>zED (fun w hB=>?_)
   replace H:=H w hB
   refine (tn (zAV g rfl (fun hc=>?_) (fun hc=>?_)))
   ·replace H:=H.1 hc
    exact zAf (tr (br (tr (br (zKH g rfl ⟨rfl,H⟩)))))
   ·replace H:=H.2 hc
    refine zAP (tn (zBG (ds:=[]) (N:=82) (σ:=Unit) (fun s=>[(0,(Sl.v x0)),(2,(.int .i64 x2)),(3,(.int .i64 x3)),(4,x4),(11,(.int .i64 x11))]) (fun s w=>zDR Kl1 x11 w) ?_ (fun hj3=>?_)))
    ·rintro ⟨⟩ w a H g
     try dsimp only at H g
     unfold zDR at H
     refine zAA (g.mv rfl fun _ g=>(g.as_ rfl fun _ g=>?_))
     rw [hK_l1] at H
     exact zAG (bn (tn ⟨x11,g.weak ⟨rfl,rfl,rfl,rfl,rfl,trivial⟩,H⟩))
    ·refine zKK 24 fun w hB=>?_
     replace H:=H w hB
     refine g.ap 0 rfl (zAL g rfl) fun _ g=>g.ap 1 rfl (zAL g rfl) fun _ g=>g.ap 2 rfl (zAL g rfl) fun _ g=>g.ap 3 rfl (zAn g rfl rfl) fun _ g=>g.ap 4 rfl (zAL g rfl) fun _ g=>g.ap 5 rfl (zAL g rfl) fun _ g=>g.ap 6 rfl (zAL g rfl) fun _ g=>g.ap 7 rfl (zAn g rfl rfl) fun _ g=>g.ap 8 rfl (zAL g rfl) fun _ g=>g.ap 9 rfl (zAL g rfl) fun _ g=>g.ap 10 rfl (zAL g rfl) fun _ g=>g.ap 11 rfl (zAn g rfl rfl) fun _ g=>g.ao 12 rfl (zAC g rfl rfl) H fun x71 a H g=>g.ap 14 rfl (zAL g rfl) fun _ g=>g.ap 15 rfl (zAL g rfl) fun _ g=>g.ap 16 rfl (zAL g rfl) fun _ g=>g.ap 17 rfl (zAn g rfl rfl) fun _ g=>g.ao 18 rfl (zAC g rfl rfl) H fun x77 a H g=>WA.tw 13 19 rfl rfl ?_ ?_
     ·replace H:=H.1
      intro K hK
      exact g.wop (zAI g rfl) H fun x72 w a H g=>hK _ _ (g.o1 19 rfl (zAI g rfl) H fun x78 w a H g=>(g.ao 20 rfl (zAC g rfl rfl) H fun x79 a H g=>(g.o1u 21 rfl (zAM g rfl rfl) H fun w a H g=>(g.ao 22 rfl (zAC g rfl rfl) H fun x80 a H g=>(g.o1u 23 rfl (zAM g rfl rfl) H fun w a H g=>(WA.ni ((tn (hj3 () _ _ H (g.weak ⟨rfl,rfl,rfl,rfl,rfl,trivial⟩))))))))))
     ·replace H:=H.2
      intro K hK
      exact g.wop (zAI g rfl) H fun x78_1 w a H g=>hK _ _ (g.o1 13 rfl (zAI g rfl) H fun x72_1 w a H g=>(g.ao 20 rfl (zAC g rfl rfl) H fun x79_1 a H g=>(g.o1u 21 rfl (zAM g rfl rfl) H fun w a H g=>(g.ao 22 rfl (zAC g rfl rfl) H fun x80_1 a H g=>(g.o1u 23 rfl (zAM g rfl rfl) H fun w a H g=>(WA.ni ((tn (hj3 () _ _ H (g.weak ⟨rfl,rfl,rfl,rfl,rfl,trivial⟩))))))))))
  ·refine zAF (zEB (by kernel_rfl) (by kernel_rfl) (g.qm rfl fun _ g=>(g.qpur (zAn g rfl rfl) fun _ g=>(g.qm rfl fun _ g=>(g.qpur (zDp g rfl rfl) fun _ g=>(g.qm rfl fun _ g=>(WQ.join (ds:=[]) (N:=82) (σ:=Bool) (fun s=>[(40,(.bool s)),(0,(Sl.v x0)),(2,(.int .i64 x2)),(3,(.int .i64 x3)),(4,x4),(10,(.int .i64 x10)),(11,(.int .i64 (IntKind.wrap .i64 ((IntKind.wrap .i64 (2*x10))+1))))]) (fun s=>zCC x0 x3 x4 Ret x10 Kl1 s w) 17 ?_ (fun hr4=>?_))))))))
   ·intro x40 a H g
    try dsimp only at H g
    unfold zCC at H
    refine zED (fun w hB=>?_)
    replace H:=H w hB
    refine (tn (zAV g rfl (fun hc=>?_) (fun hc=>?_)))
    ·replace H:=H.1 hc
     exact zAA (g.mv rfl fun _ g=>(g.pur (zAn g rfl rfl) fun _ g=>(g.as_ rfl fun _ g=>(zAG (tn (hj2 (IntKind.wrap .i64 ((IntKind.wrap .i64 ((IntKind.wrap .i64 (2*x10))+1))+1)) _ _ H (g.weak ⟨rfl,rfl,rfl,rfl,rfl,rfl,trivial⟩)))))))
    ·replace H:=H.2 hc
     exact zAP (tn (hj2 (IntKind.wrap .i64 ((IntKind.wrap .i64 (2*x10))+1)) _ _ H (g.weak ⟨rfl,rfl,rfl,rfl,rfl,rfl,trivial⟩)))
   ·rcases Classical.em (((IntKind.wrap .i64 ((IntKind.wrap .i64 ((IntKind.wrap .i64 (2*x10))+1))+1))<x2)) with hbr4|hbr4
    ·replace H:=H.1 hbr4
     replace g:=g.bool (b:=true) (t:=23) rfl (decide_eq_true hbr4)
     refine g.qon (by rfl) (by rfl) (g.qm rfl fun _ g=>(g.qon (by rfl) (by rfl) (g.qm rfl fun _ g=>(g.qon (by rfl) (by rfl) (g.qm rfl fun _ g=>(g.qon (by rfl) (by rfl) (g.qm rfl fun _ g=>(g.qon (by rfl) (by rfl) (g.qpur (zAn g rfl rfl) fun _ g=>(g.qon (by rfl) (by rfl) (g.qop (zAC g rfl rfl) H fun x29 a H g=>(g.qon (by rfl) (by rfl) (g.qop (zAI g rfl) H fun x30 a H g=>(g.qon (by rfl) (by rfl) (g.qm rfl fun _ g=>(g.qon (by rfl) (by rfl) (g.qm rfl fun _ g=>(g.qon (by rfl) (by rfl) (g.qm rfl fun _ g=>(g.qon (by rfl) (by rfl) (g.qpur (zAn g rfl rfl) fun _ g=>(g.qon (by rfl) (by rfl) (g.qpur (zAn g rfl rfl) fun _ g=>(g.qon (by rfl) (by rfl) (g.qop (zAC g rfl rfl) H fun x36 a H g=>(g.qon (by rfl) (by rfl) (g.qop (zAI g rfl) H fun x37 a H g=>(g.qon (by rfl) (by rfl) ?_))))))))))))))))))))))))))))
     obtain ⟨r_1,hc,H⟩:=H
     exact g.qcallV rfl rfl hc fun _ g=>g.qon (by rfl) (by rfl) (g.qpur (zDp g rfl rfl) fun _ g=>(g.qpur (zAj g rfl rfl) fun _ g=>(hr4 (decide (r_1<0)) _ H (g.weak ⟨rfl,rfl,rfl,rfl,rfl,rfl,rfl,trivial⟩))))
    ·replace H:=H.2 hbr4
     replace g:=g.bool (b:=false) (t:=23) rfl (decide_eq_false hbr4)
     exact g.qoff (by rfl) (by rfl) (by decide) (fun _ g=>(g.qoff (by rfl) (by rfl) (by decide) (fun _ g=>(g.qoff (by rfl) (by rfl) (by decide) (fun _ g=>(g.qoff (by rfl) (by rfl) (by decide) (fun _ g=>(g.qoff (by rfl) (by rfl) (by decide) (fun _ g=>(g.qoff (by rfl) (by rfl) (by decide) (fun _ g=>(g.qoff (by rfl) (by rfl) (by decide) (fun _ g=>(g.qoff (by rfl) (by rfl) (by decide) (fun _ g=>(g.qoff (by rfl) (by rfl) (by decide) (fun _ g=>(g.qoff (by rfl) (by rfl) (by decide) (fun _ g=>(g.qoff (by rfl) (by rfl) (by decide) (fun _ g=>(g.qoff (by rfl) (by rfl) (by decide) (fun _ g=>(g.qoff (by rfl) (by rfl) (by decide) (fun _ g=>(g.qoff (by rfl) (by rfl) (by decide) (fun _ g=>(g.qoff (by rfl) (by rfl) (by decide) (fun _ g=>(g.qoff (by rfl) (by rfl) (by decide) (fun _ g=>(g.qpur (zAi g rfl rfl) fun _ g=>(hr4 false _ H (g.weak ⟨rfl,rfl,rfl,rfl,rfl,rfl,rfl,trivial⟩))))))))))))))))))))))))))))))))))
def zEd (x0:Sl) (x1:Int) (x2:Option Addr) (x3:Value) (w:World) (Ret:Int→World→Prop):Prop:=
 Cl Tryz.prog 118 [(Sl.v x0),(.int .i64 (IntKind.wrap .i64 (x1 - 1))),(.int .i64 x1),(.int .i64 (IntKind.wrap .i64 (x1+1))),(.pointer x2),x3].toArray w (fun e w=>∃ (r:Int),e=.returned (.int .i64 r)∧(Ret r w))
set_option maxRecDepth 100000 in
theorem zHk (x0:Sl) (x1:Int) (x2:Option Addr) (x3:Value) (w:World) (Ret:Int→World→Prop) (H:zEd x0 x1 x2 x3 w Ret):Cl Tryz.prog 117 [(Sl.v x0),(.int .i64 x1),(.pointer x2),x3].toArray w (fun e w'=>∃ (r0:Int),e=.returned (.int .i64 r0)∧Ret r0 w'):=by
 unfold zEd at H
 refine zAY 18 (zipE 0 [(Sl.v x0),(.int .i64 x1),(.pointer x2),x3]) Tryz.func117 rfl rfl (by rfl) rfl ?_
 intro a g
 replace g:Sat [] 18 [(0,(Sl.v x0)),(1,(.int .i64 x1)),(2,(.pointer x2)),(3,x3)] a:=g
 refine zAF (zAA (g.as_ rfl fun _ g=>(zAG (tn (zAF (zAA (g.mv rfl fun _ g=>(g.mv rfl fun _ g=>(g.pur (zAv g rfl rfl) fun _ g=>(g.mv rfl fun _ g=>(g.mv rfl fun _ g=>(g.pur (zAn g rfl rfl) fun _ g=>(g.mv rfl fun _ g=>(g.mv rfl fun _ g=>(g.call (zAQ g zSl rfl rfl) H fun e w H=>?_)))))))))))))))
 obtain ⟨r,rfl,H⟩:=H
 exact ⟨_,rfl,fun _ g=>(g.as_ rfl fun _ g=>(zAG (tn (zAf (zAt g rfl rfl ⟨_,rfl,H⟩)))))⟩
def zFs (x0:Sl) (x1:Int) (x2:Int) (x3:Int) (x4:Option Addr) (x5:Value) (w:World) (Ret:Int→World→Prop):Prop:=
 Cl Tryz.prog 139 [(Sl.v x0),(.int .i64 x1),(.int .i64 x2),(.pointer x4),x5].toArray w (fun e w=>∃ (r:Int) (r_1:Int),e=.returned (.tuple [(.int .i64 r),(.int .i64 r_1)].toArray)∧(Cl Tryz.prog 139 [(Sl.v x0),(.int .i64 r_1),(.int .i64 x3),(.pointer x4),x5].toArray w (fun e w=>∃ (r_2:Int) (r_3:Int),e=.returned (.tuple [(.int .i64 r_2),(.int .i64 r_3)].toArray)∧(Cl Tryz.prog 139 [(Sl.v x0),(.int .i64 r),(.int .i64 r_2),(.pointer x4),x5].toArray w (fun e w=>∃ (r_4:Int) (r_5:Int),e=.returned (.tuple [(.int .i64 r_4),(.int .i64 r_5)].toArray)∧(Ret r_5 w))))))
set_option maxRecDepth 100000 in
theorem zJi (x0:Sl) (x1:Int) (x2:Int) (x3:Int) (x4:Option Addr) (x5:Value) (w:World) (Ret:Int→World→Prop) (H:zFs x0 x1 x2 x3 x4 x5 w Ret):Cl Tryz.prog 118 [(Sl.v x0),(.int .i64 x1),(.int .i64 x2),(.int .i64 x3),(.pointer x4),x5].toArray w (fun e w'=>∃ (r0:Int),e=.returned (.int .i64 r0)∧Ret r0 w'):=by
 unfold zFs at H
 refine zAY 41 (zipE 0 [(Sl.v x0),(.int .i64 x1),(.int .i64 x2),(.int .i64 x3),(.pointer x4),x5]) Tryz.func118 rfl rfl (by rfl) rfl ?_
 intro a g
 replace g:Sat [] 41 [(0,(Sl.v x0)),(1,(.int .i64 x1)),(2,(.int .i64 x2)),(3,(.int .i64 x3)),(4,(.pointer x4)),(5,x5)] a:=g
 refine zAF (zAA (g.as_ rfl fun _ g=>(zAG (tn (zAF (zAA (g.mv rfl fun _ g=>(g.mv rfl fun _ g=>(g.mv rfl fun _ g=>(g.mv rfl fun _ g=>(g.mv rfl fun _ g=>(g.call (zAQ g zRk rfl rfl) H fun e w H=>?_))))))))))))
 obtain ⟨r,r_1,rfl,H⟩:=H
 refine ⟨_,rfl,fun _ g=>(g.mv rfl fun _ g=>(g.pur (zAO g rfl rfl) fun _ g=>(g.pur (zAO g rfl rfl) fun _ g=>(g.as_ rfl fun _ g=>(g.as_ rfl fun _ g=>(zAG (tn (zAF (zAA (g.mv rfl fun _ g=>(g.mv rfl fun _ g=>(g.mv rfl fun _ g=>(g.mv rfl fun _ g=>(g.mv rfl fun _ g=>(g.call (zAQ g zRk rfl rfl) H fun e w H=>?_)))))))))))))))⟩
 obtain ⟨r_2,r_3,rfl,H⟩:=H
 refine ⟨_,rfl,fun _ g=>(g.mv rfl fun _ g=>(g.pur (zAO g rfl rfl) fun _ g=>(g.pur (zAO g rfl rfl) fun _ g=>(g.as_ rfl fun _ g=>(g.as_ rfl fun _ g=>(zAG (tn (zAF (zAA (g.mv rfl fun _ g=>(g.mv rfl fun _ g=>(g.mv rfl fun _ g=>(g.mv rfl fun _ g=>(g.mv rfl fun _ g=>(g.call (zAQ g zRk rfl rfl) H fun e w H=>?_)))))))))))))))⟩
 obtain ⟨r_4,r_5,rfl,H⟩:=H
 exact ⟨_,rfl,fun _ g=>(g.mv rfl fun _ g=>(g.pur (zAO g rfl rfl) fun _ g=>(g.pur (zAO g rfl rfl) fun _ g=>(g.as_ rfl fun _ g=>(g.as_ rfl fun _ g=>(zAG (tn (zAF (zAA (g.mv rfl fun _ g=>(g.as_ rfl fun _ g=>(zAG (tn (zAf (zAt g rfl rfl ⟨_,rfl,H⟩)))))))))))))))⟩
def zFr (x0:Sl) (x1:Int) (x2:Int) (x3:Option Addr) (x4:Value) (w:World) (Ret:Int→Int→World→Prop):Prop:=
 opB Tryz.prog Value.pointer (Instr.indexAt 22 (Sl.v x0) (.int .i64 x2)) w (fun x15=>opB Tryz.prog zAE.v (Instr.loadAt 66 (.pointer x15)) w (fun x16=>opB Tryz.prog Value.pointer (Instr.indexAt 22 (Sl.v x0) (.int .i64 x1)) w (fun x19=>opB Tryz.prog zAE.v (Instr.loadAt 66 (.pointer x19)) w (fun x20=>∃ (r:Int),CallQ Tryz.prog x4 [(zAE.v x16),(zAE.v x20)] w (.int .i64 r)∧(nextB w (fun w=>((r<0)→(nilOk (.pointer x3)∧(opE Tryz.prog (Value.int .i64) (Instr.loadAt 3 (.pointer x3)) w (fun x25 w=>nilOk (.pointer x3)∧(opU Tryz.prog (Instr.storeAt 3 (.pointer x3) (.int .i64 (IntKind.wrap .i64 (x25+1)))) w (fun w=>Ret x2 x1 w))))))∧(¬ (r<0)→(Ret x1 x2 w))))))))
set_option maxRecDepth 100000 in
theorem zJl (x0:Sl) (x1:Int) (x2:Int) (x3:Option Addr) (x4:Value) (w:World) (Ret:Int→Int→World→Prop) (H:zFr x0 x1 x2 x3 x4 w Ret):Cl Tryz.prog 139 [(Sl.v x0),(.int .i64 x1),(.int .i64 x2),(.pointer x3),x4].toArray w (fun e w'=>∃ (r0:Int) (r1:Int),e=.returned (.tuple [(.int .i64 r0),(.int .i64 r1)].toArray)∧Ret r0 r1 w'):=by
 unfold zFr at H
 refine zAY 32 (zipE 0 [(Sl.v x0),(.int .i64 x1),(.int .i64 x2),(.pointer x3),x4]) Tryz.func139 rfl rfl (by rfl) rfl ?_
 intro a g
 replace g:Sat [] 32 [(0,(Sl.v x0)),(1,(.int .i64 x1)),(2,(.int .i64 x2)),(3,(.pointer x3)),(4,x4)] a:=g
 refine zAF (zAA (g.as_ rfl fun _ g=>(g.as_ rfl fun _ g=>(zAG (tn (zAF (zAF (zEB (by kernel_rfl) (by kernel_rfl) (g.qm rfl fun _ g=>(g.qm rfl fun _ g=>(g.qm rfl fun _ g=>(g.qop (zAC g rfl rfl) H fun x15 a H g=>(g.qop (zAI g rfl) H fun x16 a H g=>(g.qm rfl fun _ g=>(g.qm rfl fun _ g=>(g.qop (zAC g rfl rfl) H fun x19 a H g=>(g.qop (zAI g rfl) H fun x20 a H g=>?_)))))))))))))))))
 obtain ⟨r,hc,H⟩:=H
 refine g.qcallV rfl rfl hc fun _ g=>g.qpur (zDp g rfl rfl) fun _ g=>zED (fun w hB=>?_)
 replace H:=H w hB
 refine (tn (zAR g rfl (fun hc=>?_) (fun hc=>?_)))
 ·replace H:=H.1 hc
  refine zAF (zAA (g.mv rfl fun _ g=>(g.pur (zAS g rfl H.1) fun _ g=>?_)))
  replace H:=H.2
  refine g.op (zAI g rfl) H fun x25 w a H g=>g.pur (zAn g rfl rfl) fun _ g=>g.pur (zAS g rfl H.1) fun _ g=>?_
  replace H:=H.2
  exact g.opu (zAM g rfl rfl) H fun w a H g=>zAG (tn (zAF (zAA (g.mv rfl fun _ g=>(g.mv rfl fun _ g=>(g.as_ rfl fun _ g=>(g.as_ rfl fun _ g=>(zAG (tn (zAf (tr (zFz g rfl rfl rfl ⟨_,_,rfl,H⟩))))))))))))
 ·replace H:=H.2 hc
  exact zAP (tn (zAF (zAA (g.mv rfl fun _ g=>(g.mv rfl fun _ g=>(g.as_ rfl fun _ g=>(g.as_ rfl fun _ g=>(zAG (tn (zAf (zFz g rfl rfl rfl ⟨_,_,rfl,H⟩)))))))))))
end Go.Proofs.YtealcoghiaeiiaaGreat.VG
