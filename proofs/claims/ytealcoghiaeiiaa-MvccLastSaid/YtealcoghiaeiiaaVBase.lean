/- The base of the calculus: rules by which a typed verification condition gives a call of a loaded function; no condition. -/
import Derived.TacticsIn
import Derived.TacticsInMore
import Derived.Deep.LoopGhost
import Derived.Sort.QuietThIn
import Derived.RangeFuncCalls
import Derived.RangeFuncNested
import Derived.RangeFuncLeaves
import Derived.WalkKit
import Derived.StillTail
set_option linter.unusedVariables false
set_option linter.unusedSimpArgs false
namespace Go.VB

/-! ### Environments: what is known of a frame's temporaries -/
abbrev Env := List (Nat × Value)
def lk : Env → Nat → Option Value
  | [], _ => none
  | (k, v) :: r, t => bif Nat.beq k t then some v else lk r t
def ev (E : Env) : Operand → Option Value
  | .tmp t => lk E t
  | .const v => some v
  | .global g => some (.pointer (some ⟨g, 0, none⟩))
  | .func f => some (.func (.func f) #[] #[])
def allIn (E : Env) : Env → Prop
  | [] => True
  | (k, v) :: r => lk E k = some v ∧ allIn E r
structure Sat (ds : List Deferred) (N : Nat) (E : Env) (a : Act) : Prop where
  size : a.tmps.size = N
  vals : ∀ t v, lk E t = some v → a.tmps.getD t undef = v
  defs : a.defers = ds

theorem beq_no {m n : Nat} (h : ¬ m = n) : Nat.beq m n = false := by
  cases hb : Nat.beq m n
  · rfl
  · exact absurd (Nat.eq_of_beq_eq_true hb) h
theorem no_beq {m n : Nat} (h : Nat.beq m n = false) : ¬ m = n := by
  rintro rfl; simp at h
theorem Sat.ev {ds : List Deferred} {N : Nat} {E : Env} {a : Act} (h : Sat ds N E a) {x : Operand} {v : Value} (hx : ev E x = some v) : a.eval x = v := by
  cases x with
  | tmp t => exact h.vals t v hx
  | const c => exact Option.some.inj hx
  | global g => exact Option.some.inj hx
  | func f => exact Option.some.inj hx
theorem Sat.put {ds : List Deferred} {N : Nat} {E : Env} {a : Act} (h : Sat ds N E a) {d : Nat} (hd : Nat.blt d N = true) (v : Value) : Sat ds N ((d, v) :: E) (a.put (some d) v) := by
  have hd' : d < N := by simpa [Nat.blt_eq] using hd
  refine ⟨by simp [Act.put, h.size], fun t u hu => ?_, h.defs⟩
  by_cases e : d = t
  · subst e
    have : u = v := by
      have h1 : (bif Nat.beq d d then some v else lk E d) = some u := hu
      rw [show Nat.beq d d = true from by simp] at h1
      exact (Option.some.inj h1).symm
    subst this
    simp [Act.put, Array.getD_eq_getD_getElem?, Array.getElem?_setIfInBounds, h.size, hd']
  · have h1 : (bif Nat.beq d t then some v else lk E t) = some u := hu
    rw [show Nat.beq d t = false from beq_no e] at h1
    have := h.vals t u h1
    simpa [Act.put, Array.getD_eq_getD_getElem?, Array.getElem?_setIfInBounds, e] using this
theorem Sat.put0 {ds : List Deferred} {N : Nat} {E : Env} {a : Act} (h : Sat ds N E a) (v : Value) : Sat ds N E (a.put none v) := h
theorem allIn_lk {E : Env} : ∀ {E' : Env}, allIn E E' → ∀ t v, lk E' t = some v → lk E t = some v
  | [], _, _, _, h => by cases h
  | (k, u) :: r, hA, t, v, h => by
    by_cases e : k = t
    · subst e
      have h1 : (bif Nat.beq k k then some u else lk r k) = some v := h
      rw [show Nat.beq k k = true from by simp] at h1
      rw [← Option.some.inj h1]; exact hA.1
    · have h1 : (bif Nat.beq k t then some u else lk r t) = some v := h
      rw [show Nat.beq k t = false from beq_no e] at h1
      exact allIn_lk hA.2 t v h1
theorem Sat.weak {ds : List Deferred} {N : Nat} {E E' : Env} {a : Act} (h : Sat ds N E a) (hA : allIn E E') : Sat ds N E' a := ⟨h.size, fun t v hv => h.vals t v (allIn_lk hA t v hv), h.defs⟩
theorem Sat.getq {ds : List Deferred} {N : Nat} {E : Env} {a : Act} (h : Sat ds N E a) {t : Nat} {v : Value} (hv : lk E t = some v) : a.tmps[t]?.getD undef = v := by
  have := h.vals t v hv
  simpa [Array.getD_eq_getD_getElem?] using this
/-- A frame as a call finds it. -/
theorem Sat.enter {N : Nat} {E : Env} (args : Array Value) (hN : args.size ≤ N) (hE : ∀ t v, lk E t = some v → args[t]? = some v) :
    Sat [] N E { tmps := args ++ Array.replicate (N - args.size) undef, defers := [] } := by
  refine ⟨by simp; omega, fun t v hv => ?_, rfl⟩
  have h := hE t v hv
  have hlt : t < args.size := by
    rw [Array.getElem?_eq_some_iff] at h; exact h.1
  simp [Array.getD_eq_getD_getElem?, Array.getElem?_append, hlt]
  exact (Array.getElem?_eq_some_iff.1 h).2

/-! ### Fences -/
abbrev FW (ro : Option Nat) : Fence := { Fence.wide with round := ro }
theorem FW_fn (ro : Option Nat) (f : FuncId) : (FW ro).fn f := trivial
/-- A call, every function let in. -/
abbrev Cl (P : Program) (f : FuncId) (args : Array Value) (w : World) (R : Ending → World → Prop) : Prop := CallsIn (FW none) 0 P f args w R
theorem Cl.calls {P : Program} {f : FuncId} {args : Array Value} {w : World} {R : Ending → World → Prop} (h : Cl P f args w R) : Calls P f args w R := callsIn_wide.1 h
theorem Cl.of_calls {P : Program} {f : FuncId} {args : Array Value} {w : World} {R : Ending → World → Prop} (h : Calls P f args w R) : Cl P f args w R := callsIn_wide.2 h

/-! ### What one operation asks -/
/-- The operation gives a value of a shape, and what follows holds of it. -/
def opE {τ : Type} (P : Program) (enc : τ → Value) (s : Sem Value) (w : World) (k : τ → World → Prop) : Prop := ∃ x w', s.run P w = .ok (enc x) w' ∧ k x w'
def opU (P : Program) (s : Sem Unit) (w : World) (k : World → Prop) : Prop := ∃ w', s.run P w = .ok () w' ∧ k w'

section
variable {ro : Option Nat} {P : Program} {ops : Array Oper} {Q : Exit → Act → World → Prop} {ds : List Deferred} {N : Nat} {E : Env} {a : Act} {w : World} {rest : List Oper} {o : Oper}
/-- The ops that are left of a region. -/
abbrev WL (ro : Option Nat) (P : Program) (ops : Array Oper) (Q : Exit → Act → World → Prop) (l : List Oper) (a : Act) (w : World) : Prop := wpListIn (FW ro) 0 P ops Q l a w
abbrev WC (ro : Option Nat) (P : Program) (c : Code) (Q : Exit → Act → World → Prop) (a : Act) (w : World) : Prop := Code.wpIn (FW ro) 0 P c Q a w

theorem wl_run (hg : o.guard = none) (hnd : ∀ c, o.op ≠ .defer c) {v : Value} {w' : World} (hr : (execOp a.eval o).run P w = .ok (.value v) w')
    (h : WL ro P ops Q rest (a.put o.dst v) w') : WL ro P ops Q (o :: rest) a w := by
  unfold WL wpListIn
  rw [if_pos (by simp [Region.wanted, hg])]
  refine ⟨fun _ _ => trivial, ?_⟩
  rw [Oper.semAt_eq _ _ _ hnd, hr]
  exact h
theorem wl_runU (hg : o.guard = none) (hnd : ∀ c, o.op ≠ .defer c) {w' : World} (hr : (execOp a.eval o).run P w = .ok .skip w')
    (h : WL ro P ops Q rest (a.put o.dst undef) w') : WL ro P ops Q (o :: rest) a w := by
  unfold WL wpListIn
  rw [if_pos (by simp [Region.wanted, hg])]
  refine ⟨fun _ _ => trivial, ?_⟩
  rw [Oper.semAt_eq _ _ _ hnd, hr]
  exact h
theorem wl_call (hg : o.guard = none) (hnd : ∀ c, o.op ≠ .defer c) {f : FuncId} {args : Array Value} {w' : World} (hr : (execOp a.eval o).run P w = .ok (.enter f args) w')
    {R : Ending → World → Prop} (hc : Cl P f args w' R)
    (h : ∀ e w'', R e w'' → ∃ v, e = .returned v ∧ WL ro P ops Q rest (a.put o.dst v) w'') : WL ro P ops Q (o :: rest) a w := by
  unfold WL wpListIn
  rw [if_pos (by simp [Region.wanted, hg])]
  refine ⟨fun _ _ => trivial, ?_⟩
  rw [Oper.semAt_eq _ _ _ hnd, hr, Oper.uponIn_enter]
  refine ⟨fun h => by simp [FW, Fence.wide] at h, ?_⟩
  have hc' : CallsIn (FW ro) 0 P f args w' R := hc
  refine CallsIn.mono hc' fun e w'' hR => ?_
  obtain ⟨v, rfl, hv⟩ := h e w'' hR
  exact hv

/-- An operation of the model that gives a value. -/
theorem Sat.val (hE : Sat ds N E a) {τ : Type} {enc : τ → Value} {s : Sem Value} {k : τ → World → Prop} {op : Op} {ty : TypeId} {pos : String} {aft : Array Edge} {d : Nat}
    (he : execOp a.eval ⟨some d, op, ty, pos, aft, none⟩ = s >>= fun v => pure (.value v)) (hnd : ∀ c, op ≠ .defer c) (hN : Nat.blt d N = true) (H : opE P enc s w k)
    (next : ∀ x w' a', k x w' → Sat ds N ((d, enc x) :: E) a' → WL ro P ops Q rest a' w') : WL ro P ops Q (⟨some d, op, ty, pos, aft, none⟩ :: rest) a w := by
  obtain ⟨x, w', hr, hk⟩ := H
  exact wl_run rfl hnd (v := enc x) (w' := w') (by rw [he]; simp [hr]) (next x w' _ hk (hE.put hN _))
theorem Sat.unit (hE : Sat ds N E a) {s : Sem Unit} {k : World → Prop} {op : Op} {ty : TypeId} {pos : String} {aft : Array Edge}
    (he : execOp a.eval ⟨none, op, ty, pos, aft, none⟩ = s >>= fun _ => pure .skip) (hnd : ∀ c, op ≠ .defer c) (H : opU P s w k)
    (next : ∀ w' a', k w' → Sat ds N E a' → WL ro P ops Q rest a' w') : WL ro P ops Q (⟨none, op, ty, pos, aft, none⟩ :: rest) a w := by
  obtain ⟨w', hr, hk⟩ := H
  exact wl_runU rfl hnd (w' := w') (by rw [he]; simp [hr]) (next w' _ hk hE)
theorem Sat.pure (hE : Sat ds N E a) {op : Op} {ty : TypeId} {pos : String} {aft : Array Edge} {d : Nat} {v : Value}
    (he : (execOp a.eval ⟨some d, op, ty, pos, aft, none⟩).run P w = .ok (.value v) w) (hnd : ∀ c, op ≠ .defer c) (hN : Nat.blt d N = true)
    (next : ∀ a', Sat ds N ((d, v) :: E) a' → WL ro P ops Q rest a' w) : WL ro P ops Q (⟨some d, op, ty, pos, aft, none⟩ :: rest) a w :=
  wl_run rfl hnd he (next _ (hE.put hN _))
end


/-! ### Evaluating operands -/
def evL (E : Env) : List Operand → Option (List Value)
  | [] => some []
  | x :: r => match VB.ev E x, evL E r with
    | some v, some l => some (v :: l)
    | _, _ => none
theorem Sat.evL {ds : List Deferred} {N : Nat} {E : Env} {a : Act} (h : Sat ds N E a) : ∀ {xs : List Operand} {vs : List Value}, VB.evL E xs = some vs → xs.map a.eval = vs
  | [], vs, hx => by simp [VB.evL] at hx; simp [hx]
  | x :: r, vs, hx => by
    unfold VB.evL at hx
    cases h1 : VB.ev E x with
    | none => rw [h1] at hx; cases hx
    | some v =>
      cases h2 : VB.evL E r with
      | none => rw [h1, h2] at hx; cases hx
      | some l =>
        rw [h1, h2] at hx
        obtain rfl := Option.some.inj hx
        simp [h.ev h1, h.evL h2]
theorem Sat.evA {ds : List Deferred} {N : Nat} {E : Env} {a : Act} (h : Sat ds N E a) {xs : List Operand} {vs : List Value} (hx : VB.evL E xs = some vs) : xs.toArray.map a.eval = vs.toArray := by
  rw [← h.evL hx]; simp

/-! ### Slices -/
structure Sl where
  a : Option Addr
  len : Nat
  cap : Nat
abbrev Sl.v (s : Sl) : Value := .slice s.a s.len s.cap
abbrev Sl.none : Sl := ⟨Option.none, 0, 0⟩
/-- A check for nil lets the value by. -/
def nilOk : Value → Prop
  | .pointer none | .nilIface | .nilFunc => False
  | .func (.method _) _ _ => False
  | _ => True
def sLt (x y : ByteArray) : Bool := Op.bytesLess x.toList y.toList
theorem beq_bytes (x y : ByteArray) : (x.toList == y.toList) = decide (x = y) := by
  by_cases h : x = y
  · subst h; simp
  · have : x.toList ≠ y.toList := by
      intro e
      apply h
      have h1 := ByteArray.toList_eq (bs := x)
      have h2 := ByteArray.toList_eq (bs := y)
      rw [h1, h2] at e
      cases x; cases y
      simp at e
      simp [e]
    simp [h, this]

/-! ### The operations, one equation each -/
section
variable {ds : List Deferred} {N : Nat} {E : Env} {a : Act} {d : Option Tmp} {ty : TypeId} {pos : String} {aft : Array Edge}
abbrev pv (s : Sem Value) : Sem Next := s >>= fun v => Pure.pure (.value v)
abbrev pn (v : Value) : Sem Next := Pure.pure (.value v)
abbrev pu (s : Sem Unit) : Sem Next := s >>= fun _ => Pure.pure .skip
theorem X.move (hE : Sat ds N E a) {x v} (hx : ev E x = some v) : execOp a.eval ⟨d, .move x, ty, pos, aft, none⟩ = pn v := by rw [← hE.ev hx]; rfl
theorem X.assign (hE : Sat ds N E a) {x v} (hx : ev E x = some v) : execOp a.eval ⟨d, .assign x, ty, pos, aft, none⟩ = pn v := by rw [← hE.ev hx]; rfl
theorem X.pickT (hE : Sat ds N E a) {c x y v} (hc : ev E c = some (.bool true)) (hx : ev E x = some v) : execOp a.eval ⟨d, .pick c x y, ty, pos, aft, none⟩ = pn v := by
  rw [← hE.ev hx]; simp [execOp, hE.ev hc, asBool]
theorem X.pickF (hE : Sat ds N E a) {c x y v} (hc : ev E c = some (.bool false)) (hx : ev E y = some v) : execOp a.eval ⟨d, .pick c x y, ty, pos, aft, none⟩ = pn v := by
  rw [← hE.ev hx]; simp [execOp, hE.ev hc, asBool]
theorem X.alloc {e : TypeId} : execOp a.eval ⟨d, .alloc e, ty, pos, aft, none⟩ = pv (Instr.alloc e true (.tuple #[])) := rfl
theorem X.box (hE : Sat ds N E a) {e x v} (hx : ev E x = some v) : execOp a.eval ⟨d, .box e x, ty, pos, aft, none⟩ = pv (Instr.box e v) := by rw [← hE.ev hx]; rfl
theorem X.load (hE : Sat ds N E a) {t x v} (hx : ev E x = some v) : execOp a.eval ⟨d, .load t x, ty, pos, aft, none⟩ = pv (Instr.loadAt t v) := by rw [← hE.ev hx]; rfl
theorem X.store (hE : Sat ds N E a) {t x y v u} (hx : ev E x = some v) (hy : ev E y = some u) : execOp a.eval ⟨d, .store t x y, ty, pos, aft, none⟩ = pu (Instr.storeAt t v u) := by rw [← hE.ev hx, ← hE.ev hy]; rfl
theorem X.nilCheck (hE : Sat ds N E a) {x v} (hx : ev E x = some v) (h : nilOk v) : execOp a.eval ⟨d, .nilCheck x, ty, pos, aft, none⟩ = pn v := by
  have e := hE.ev hx
  unfold execOp
  simp only [e]
  unfold nilOk at h
  split <;> first | (exfalso; exact h) | (simp_all; done) | rfl | skip
theorem X.makeMap {t : TypeId} : execOp a.eval ⟨d, .makeMap t none, ty, pos, aft, none⟩ = pv (Instr.makeMap t none) := rfl
theorem X.makeSlice (hE : Sat ds N E a) {t x y v u} (hx : ev E x = some v) (hy : ev E y = some u) : execOp a.eval ⟨d, .makeSlice t x y, ty, pos, aft, none⟩ = pv (Instr.makeSlice t v u) := by rw [← hE.ev hx, ← hE.ev hy]; rfl
theorem X.fieldAddr (hE : Sat ds N E a) {s x f v} (hx : ev E x = some v) : execOp a.eval ⟨d, .fieldAddr s x f, ty, pos, aft, none⟩ = pv (Instr.fieldAt s v f) := by rw [← hE.ev hx]; rfl
theorem X.field (hE : Sat ds N E a) {s x f v} (hx : ev E x = some v) : execOp a.eval ⟨d, .field s x f, ty, pos, aft, none⟩ = pv (Instr.field s v f) := by rw [← hE.ev hx]; rfl
theorem X.indexAddr (hE : Sat ds N E a) {t x y v u} (hx : ev E x = some v) (hy : ev E y = some u) : execOp a.eval ⟨d, .indexAddr t x y, ty, pos, aft, none⟩ = pv (Instr.indexAt t v u) := by rw [← hE.ev hx, ← hE.ev hy]; rfl
theorem X.index (hE : Sat ds N E a) {t x y v u} (hx : ev E x = some v) (hy : ev E y = some u) : execOp a.eval ⟨d, .index t x y, ty, pos, aft, none⟩ = pv (Instr.index t v u) := by rw [← hE.ev hx, ← hE.ev hy]; rfl
theorem X.lookup (hE : Sat ds N E a) {t x y ok v u} (hx : ev E x = some v) (hy : ev E y = some u) : execOp a.eval ⟨d, .lookup t x y ok, ty, pos, aft, none⟩ = pv (Instr.lookup t v u ok) := by rw [← hE.ev hx, ← hE.ev hy]; rfl
theorem X.mapUpdate (hE : Sat ds N E a) {t m k x vm vk vx} (hm : ev E m = some vm) (hk : ev E k = some vk) (hx : ev E x = some vx) : execOp a.eval ⟨d, .mapUpdate t m k x, ty, pos, aft, none⟩ = pu (Instr.mapUpdate t vm vk vx) := by rw [← hE.ev hm, ← hE.ev hk, ← hE.ev hx]; rfl
theorem X.insert (hE : Sat ds N E a) {t m k x vm vk vx} (hm : ev E m = some vm) (hk : ev E k = some vk) (hx : ev E x = some vx) : execOp a.eval ⟨d, .insert t m k x, ty, pos, aft, none⟩ = pu (Instr.mapUpdate t vm vk vx) := by rw [← hE.ev hm, ← hE.ev hk, ← hE.ev hx]; rfl
theorem X.mapEntry (hE : Sat ds N E a) {t x y v u} (hx : ev E x = some v) (hy : ev E y = some u) : execOp a.eval ⟨d, .mapEntry t x y, ty, pos, aft, none⟩ = pv (Instr.mapEntry t v u) := by rw [← hE.ev hx, ← hE.ev hy]; rfl
theorem X.entryStore (hE : Sat ds N E a) {t m k x vm vk vx} (hm : ev E m = some vm) (hk : ev E k = some vk) (hx : ev E x = some vx) : execOp a.eval ⟨d, .entryStore t m k x, ty, pos, aft, none⟩ = pu (Instr.entryStore t vm vk vx) := by rw [← hE.ev hm, ← hE.ev hk, ← hE.ev hx]; rfl
theorem X.range (hE : Sat ds N E a) {t x v} (hx : ev E x = some v) : execOp a.eval ⟨d, .range t x, ty, pos, aft, none⟩ = pv (Instr.range t v) := by rw [← hE.ev hx]; rfl
theorem X.next (hE : Sat ds N E a) {x s v} (hx : ev E x = some v) : execOp a.eval ⟨d, .next x s, ty, pos, aft, none⟩ = pv (Instr.next v s ty) := by rw [← hE.ev hx]; rfl
theorem X.entry (hE : Sat ds N E a) {x v} (hx : ev E x = some v) : execOp a.eval ⟨d, .entry x, ty, pos, aft, none⟩ = pv (Instr.entry v) := by rw [← hE.ev hx]; rfl
theorem X.convert (hE : Sat ds N E a) {s t x v} (hx : ev E x = some v) : execOp a.eval ⟨d, .convert s t x, ty, pos, aft, none⟩ = pv (Go.convert s t v) := by rw [← hE.ev hx]; rfl
theorem X.extract (hE : Sat ds N E a) {x i v} {vs : List Value} (hx : ev E x = some (.tuple vs.toArray)) (hi : vs[i]? = some v) : execOp a.eval ⟨d, .extract x i, ty, pos, aft, none⟩ = pn v := by
  show (Instr.extract (a.eval x) i >>= fun v => Pure.pure (Next.value v)) = _
  rw [hE.ev hx]
  simp [Instr.extract, hi]
def evO (E : Env) : Option Operand → Option (Option Value)
  | none => some none
  | some x => match VB.ev E x with
    | some v => some (some v)
    | none => none
theorem Sat.evO (hE : Sat ds N E a) {x : Option Operand} {v : Option Value} (h : VB.evO E x = some v) : x.map a.eval = v := by
  cases x with
  | none => simpa [VB.evO] using h
  | some x =>
    unfold VB.evO at h
    cases h1 : VB.ev E x with
    | none => simp [h1] at h
    | some u => simp [h1] at h; simp [hE.ev h1, h]
theorem X.slice (hE : Sat ds N E a) {t x lo hi mx v l h m} (hx : ev E x = some v) (hl : evO E lo = some l) (hh : evO E hi = some h) (hm : evO E mx = some m) :
    execOp a.eval ⟨d, .slice t x lo hi mx, ty, pos, aft, none⟩ = pv (Instr.sliceAt t v l h m) := by rw [← hE.ev hx, ← hE.evO hl, ← hE.evO hh, ← hE.evO hm]; rfl
def evP (E : Env) : List (Nat × Operand) → Option (List (Nat × Value))
  | [] => some []
  | (i, x) :: r => match VB.ev E x, evP E r with
    | some v, some l => some ((i, v) :: l)
    | _, _ => none
theorem Sat.evP (h : Sat ds N E a) : ∀ {xs : List (Nat × Operand)} {vs : List (Nat × Value)}, VB.evP E xs = some vs → xs.map (fun (i, x) => (i, a.eval x)) = vs
  | [], vs, hx => by simp [VB.evP] at hx; simp [hx]
  | (i, x) :: r, vs, hx => by
    unfold VB.evP at hx
    cases h1 : VB.ev E x with
    | none => rw [h1] at hx; cases hx
    | some v =>
      cases h2 : VB.evP E r with
      | none => rw [h1, h2] at hx; cases hx
      | some l =>
        rw [h1, h2] at hx
        obtain rfl := Option.some.inj hx
        simp [h.ev h1]
        exact h.evP h2
theorem X.build (hE : Sat ds N E a) {t} {xs : List (Nat × Operand)} {vs} (h : evP E xs = some vs) : execOp a.eval ⟨d, .build t xs.toArray, ty, pos, aft, none⟩ = pv (Instr.build t vs.toArray) := by
  show (Instr.build t (xs.toArray.map fun (i, x) => (i, a.eval x)) >>= fun v => Pure.pure (Next.value v)) = _
  rw [show xs.toArray.map (fun (i, x) => (i, a.eval x)) = vs.toArray from by rw [← hE.evP h]; simp]
theorem X.buildSlice (hE : Sat ds N E a) {t n} {xs : List (Nat × Operand)} {vs} (h : evP E xs = some vs) : execOp a.eval ⟨d, .buildSlice t n xs.toArray, ty, pos, aft, none⟩ = pv (Instr.buildSlice t n vs.toArray) := by
  show (Instr.buildSlice t n (xs.toArray.map fun (i, x) => (i, a.eval x)) >>= fun v => Pure.pure (Next.value v)) = _
  rw [show xs.toArray.map (fun (i, x) => (i, a.eval x)) = vs.toArray from by rw [← hE.evP h]; simp]
theorem X.makeFunc (hE : Sat ds N E a) {fn} {xs ys : List Operand} {us vs} (h1 : evL E xs = some us) (h2 : evL E ys = some vs) : execOp a.eval ⟨d, .makeFunc fn xs.toArray ys.toArray, ty, pos, aft, none⟩ = pn (.func fn us.toArray vs.toArray) := by
  show (Instr.makeFunc fn (xs.toArray.map a.eval) (ys.toArray.map a.eval) >>= fun v => Pure.pure (Next.value v)) = _
  rw [hE.evA h1, hE.evA h2]; rfl
/-! binary operators -/
theorem X.bin (hE : Sat ds N E a) {op t x y t2 v u} (hx : ev E x = some v) (hy : ev E y = some u) : execOp a.eval ⟨d, .binOp op t x y t2, ty, pos, aft, none⟩ = pv (do eqGuard op t x y v u; binOp op t v u) := by rw [← hE.ev hx, ← hE.ev hy]; rfl
theorem guard_int {op t x y k m k' n} : eqGuard op t x y (.int k m) (.int k' n) = Pure.pure () := by unfold eqGuard; split <;> rfl
theorem guard_str {op t x y m n} : eqGuard op t x y (.string m) (.string n) = Pure.pure () := by unfold eqGuard; split <;> rfl
theorem guard_bool {op t x y m n} : eqGuard op t x y (.bool m) (.bool n) = Pure.pure () := by unfold eqGuard; split <;> rfl
theorem guard_no {op t x y v u} (h : (!(op matches .eql | .neq)) = true) : eqGuard op t x y v u = Pure.pure () := by cases op <;> first | rfl | (simp at h)
section
variable (hE : Sat ds N E a) {t t2 : TypeId} {x y : Operand} {k : IntKind} {m n : Int} (hx : ev E x = some (.int k m)) (hy : ev E y = some (.int k n))
include hE hx hy
theorem X.add : execOp a.eval ⟨d, .binOp .add t x y t2, ty, pos, aft, none⟩ = pn (.int k (k.wrap (m + n))) := by rw [X.bin hE hx hy, guard_int]; simp [binOp, Op.intArith]
theorem X.sub : execOp a.eval ⟨d, .binOp .sub t x y t2, ty, pos, aft, none⟩ = pn (.int k (k.wrap (m - n))) := by rw [X.bin hE hx hy, guard_int]; simp [binOp, Op.intArith]
theorem X.mul : execOp a.eval ⟨d, .binOp .mul t x y t2, ty, pos, aft, none⟩ = pn (.int k (k.wrap (m * n))) := by rw [X.bin hE hx hy, guard_int]; simp [binOp, Op.intArith]
theorem X.eqI : execOp a.eval ⟨d, .binOp .eql t x y t2, ty, pos, aft, none⟩ = pn (.bool (decide (m = n))) := by rw [X.bin hE hx hy, guard_int]; simp [binOp, Op.intCmp]; rfl
theorem X.neI : execOp a.eval ⟨d, .binOp .neq t x y t2, ty, pos, aft, none⟩ = pn (.bool (decide (m ≠ n))) := by
  rw [X.bin hE hx hy, guard_int, show decide (m ≠ n) = !decide (m = n) from by simp]; simp only [binOp, ne_eq, not_true_eq_false, if_false, Op.intCmp]; rfl
theorem X.ltI : execOp a.eval ⟨d, .binOp .lss t x y t2, ty, pos, aft, none⟩ = pn (.bool (decide (m < n))) := by rw [X.bin hE hx hy, guard_int]; simp [binOp, Op.intCmp]
theorem X.leI : execOp a.eval ⟨d, .binOp .leq t x y t2, ty, pos, aft, none⟩ = pn (.bool (decide (m ≤ n))) := by rw [X.bin hE hx hy, guard_int]; simp [binOp, Op.intCmp]
theorem X.gtI : execOp a.eval ⟨d, .binOp .gtr t x y t2, ty, pos, aft, none⟩ = pn (.bool (decide (n < m))) := by rw [X.bin hE hx hy, guard_int]; simp [binOp, Op.intCmp]
theorem X.geI : execOp a.eval ⟨d, .binOp .geq t x y t2, ty, pos, aft, none⟩ = pn (.bool (decide (n ≤ m))) := by rw [X.bin hE hx hy, guard_int]; simp [binOp, Op.intCmp]
end
section
variable (hE : Sat ds N E a) {t t2 : TypeId} {x y : Operand} {p q : ByteArray} (hx : ev E x = some (.string p)) (hy : ev E y = some (.string q))
include hE hx hy
theorem X.eqS : execOp a.eval ⟨d, .binOp .eql t x y t2, ty, pos, aft, none⟩ = pn (.bool (decide (p = q))) := by rw [X.bin hE hx hy, guard_str]; simp only [binOp, Op.stringOp, beq_bytes]; rfl
theorem X.neS : execOp a.eval ⟨d, .binOp .neq t x y t2, ty, pos, aft, none⟩ = pn (.bool (decide (p ≠ q))) := by
  rw [X.bin hE hx hy, guard_str, show decide (p ≠ q) = !decide (p = q) from by simp]; simp only [binOp, Op.stringOp, beq_bytes]; rfl
theorem X.ltS : execOp a.eval ⟨d, .binOp .lss t x y t2, ty, pos, aft, none⟩ = pn (.bool (sLt p q)) := by rw [X.bin hE hx hy, guard_str]; simp only [binOp, Op.stringOp, beq_bytes]; rfl
theorem X.leS : execOp a.eval ⟨d, .binOp .leq t x y t2, ty, pos, aft, none⟩ = pn (.bool (sLt p q || decide (p = q))) := by rw [X.bin hE hx hy, guard_str]; simp only [binOp, Op.stringOp, beq_bytes]; rfl
theorem X.gtS : execOp a.eval ⟨d, .binOp .gtr t x y t2, ty, pos, aft, none⟩ = pn (.bool (!(sLt p q || decide (p = q)))) := by rw [X.bin hE hx hy, guard_str]; simp only [binOp, Op.stringOp, beq_bytes]; rfl
theorem X.geS : execOp a.eval ⟨d, .binOp .geq t x y t2, ty, pos, aft, none⟩ = pn (.bool (!sLt p q)) := by rw [X.bin hE hx hy, guard_str]; simp only [binOp, Op.stringOp, beq_bytes]; rfl
end
theorem X.not (hE : Sat ds N E a) {t x b} (hx : ev E x = some (.bool b)) : execOp a.eval ⟨d, .unOp .not t x, ty, pos, aft, none⟩ = pn (.bool (!b)) := by
  show (Op.unary .not (a.eval x) >>= fun v => Pure.pure (Next.value v)) = _
  rw [hE.ev hx]; rfl
theorem X.un (hE : Sat ds N E a) {op t x v} (hx : ev E x = some v) : execOp a.eval ⟨d, .unOp op t x, ty, pos, aft, none⟩ = pv (Op.unary op v) := by rw [← hE.ev hx]; rfl
/-! calls -/
theorem X.append (hE : Sat ds N E a) {xs : List Operand} {vs ts} (h : evL E xs = some vs) : execOp a.eval ⟨d, .call { callee := .builtin .append, args := xs.toArray, argTypes := ts }, ty, pos, aft, none⟩ = pv (Builtin.append_ ts ty vs.toArray) := by
  rw [← hE.evA h]; rfl
theorem X.copy (hE : Sat ds N E a) {xs : List Operand} {vs ts} (h : evL E xs = some vs) : execOp a.eval ⟨d, .call { callee := .builtin .copy, args := xs.toArray, argTypes := ts }, ty, pos, aft, none⟩ = pv (Builtin.copy_ ts ty vs.toArray) := by
  rw [← hE.evA h]; rfl
theorem X.clear (hE : Sat ds N E a) {xs : List Operand} {vs ts} (h : evL E xs = some vs) : execOp a.eval ⟨d, .call { callee := .builtin .clear, args := xs.toArray, argTypes := ts }, ty, pos, aft, none⟩ = pv (Builtin.clear_ ts ty vs.toArray) := by
  rw [← hE.evA h]; rfl
theorem X.delete (hE : Sat ds N E a) {xs : List Operand} {vs ts} (h : evL E xs = some vs) : execOp a.eval ⟨d, .call { callee := .builtin .delete, args := xs.toArray, argTypes := ts }, ty, pos, aft, none⟩ = pv (Builtin.delete_ ts ty vs.toArray) := by
  rw [← hE.evA h]; rfl
theorem X.len (hE : Sat ds N E a) {xs : List Operand} {vs ts} (h : evL E xs = some vs) : execOp a.eval ⟨d, .call { callee := .builtin .len, args := xs.toArray, argTypes := ts }, ty, pos, aft, none⟩ = pv (Builtin.len_ ts ty vs.toArray) := by
  rw [← hE.evA h]; rfl
theorem X.cap (hE : Sat ds N E a) {xs : List Operand} {vs ts} (h : evL E xs = some vs) : execOp a.eval ⟨d, .call { callee := .builtin .cap, args := xs.toArray, argTypes := ts }, ty, pos, aft, none⟩ = pv (Builtin.cap_ ts ty vs.toArray) := by
  rw [← hE.evA h]; rfl
theorem X.min (hE : Sat ds N E a) {xs : List Operand} {vs ts} (h : evL E xs = some vs) : execOp a.eval ⟨d, .call { callee := .builtin .min, args := xs.toArray, argTypes := ts }, ty, pos, aft, none⟩ = pv (Builtin.min_ ts ty vs.toArray) := by
  rw [← hE.evA h]; rfl
theorem X.max (hE : Sat ds N E a) {xs : List Operand} {vs ts} (h : evL E xs = some vs) : execOp a.eval ⟨d, .call { callee := .builtin .max, args := xs.toArray, argTypes := ts }, ty, pos, aft, none⟩ = pv (Builtin.max_ ts ty vs.toArray) := by
  rw [← hE.evA h]; rfl
/-- A function of the program that a call enters. -/
def Ent (P : Program) (f : FuncId) : Prop := ∀ args w, (callFunc f args).run P w = .ok (.enter f args) w
theorem Ent.of {P : Program} {f : FuncId} {fn : Func} (h : P.funcs[f]? = some fn) (h1 : (fn.name == "runtime.NumGoroutine") = false) (h2 : fn.body.isNone = false) : Ent P f := by
  intro args w
  have h3 : fn.name ≠ "runtime.NumGoroutine" := by simpa using h1
  have h4 : fn.body ≠ none := by intro e; rw [e] at h2; cases h2
  simp [callFunc, Sem.run, h, h3, h4]
theorem X.call (hE : Sat ds N E a) {P : Program} {w : World} {x : Operand} {xs : List Operand} {vs ts f} {us cs : Array Value} (he : Ent P f) (hx : ev E x = some (.func (.func f) us cs)) (h : evL E xs = some vs) :
    (execOp a.eval ⟨d, .call { callee := .value x, args := xs.toArray, argTypes := ts }, ty, pos, aft, none⟩).run P w = .ok (.enter f ((us ++ vs.toArray) ++ cs)) w := by
  rw [← hE.evA h, ← he]
  have e := hE.ev hx
  simp [execOp, resolve, Deferred.ofValue, e, invoke]
end

/-- What a step over a map tells. -/
def encNext {α β : Type} (ea : α → Value) (eb : β → Value) : Option (α × β) → Value
  | none => .tuple [.bool false].toArray
  | some (k, v) => .tuple [.bool true, ea k, eb v].toArray
section
variable {ds : List Deferred} {N : Nat} {E : Env} {a : Act} {d : Option Tmp} {ty : TypeId} {pos : String} {aft : Array Edge}
theorem X.binG (hE : Sat ds N E a) {op t x y t2 v u} (hx : ev E x = some v) (hy : ev E y = some u) (h : (!(op matches .eql | .neq)) = true := by rfl) : execOp a.eval ⟨d, .binOp op t x y t2, ty, pos, aft, none⟩ = pv (binOp op t v u) := by
  rw [X.bin hE hx hy, guard_no h]; rfl
theorem X.callF (hE : Sat ds N E a) {P : Program} {w : World} {f : FuncId} {x : Operand} {xs : List Operand} {vs ts} (he : Ent P f) (hx : ev E x = some (.func (.func f) #[] #[])) (h : evL E xs = some vs) :
    (execOp a.eval ⟨d, .call { callee := .value x, args := xs.toArray, argTypes := ts }, ty, pos, aft, none⟩).run P w = .ok (.enter f vs.toArray) w := by
  rw [X.call hE he hx h]; simp
theorem X.callFC (hE : Sat ds N E a) {P : Program} {w : World} {f : FuncId} {x : Operand} {xs : List Operand} {us cs vs ts} (he : Ent P f) (hx : ev E x = some (.func (.func f) us.toArray cs.toArray)) (h : evL E xs = some vs) :
    (execOp a.eval ⟨d, .call { callee := .value x, args := xs.toArray, argTypes := ts }, ty, pos, aft, none⟩).run P w = .ok (.enter f (us ++ vs ++ cs).toArray) w := by
  rw [X.call hE he hx h]; simp
theorem X.lenL (hE : Sat ds N E a) {P : Program} {w : World} {x : Operand} {s : Sl} {t e : TypeId} {ts : Array TypeId} (hu : P.underlying t = some (.slice e)) (hx : ev E x = some s.v) (ht : ts[0]? = some t := by rfl) :
    (execOp a.eval ⟨d, .call { callee := .builtin .len, args := [x].toArray, argTypes := ts }, ty, pos, aft, none⟩).run P w = .ok (.value (.int .i64 (s.len : Int))) w := by
  rw [X.len hE (vs := [s.v]) (by simp [evL, hx])]
  simp [Builtin.len_, ht, run_underlying hu, Sem.run, goInt]
theorem X.capL (hE : Sat ds N E a) {P : Program} {w : World} {x : Operand} {s : Sl} {t e : TypeId} {ts : Array TypeId} (hu : P.underlying t = some (.slice e)) (hx : ev E x = some s.v) (ht : ts[0]? = some t := by rfl) :
    (execOp a.eval ⟨d, .call { callee := .builtin .cap, args := [x].toArray, argTypes := ts }, ty, pos, aft, none⟩).run P w = .ok (.value (.int .i64 (s.cap : Int))) w := by
  rw [X.cap hE (vs := [s.v]) (by simp [evL, hx])]
  simp [Builtin.cap_, ht, run_underlying hu, Sem.run, goInt]
theorem X.lenS (hE : Sat ds N E a) {P : Program} {w : World} {x : Operand} {s : ByteArray} {t : TypeId} {ts : Array TypeId} (hu : P.underlying t = some .string) (hx : ev E x = some (.string s)) (ht : ts[0]? = some t := by rfl) :
    (execOp a.eval ⟨d, .call { callee := .builtin .len, args := [x].toArray, argTypes := ts }, ty, pos, aft, none⟩).run P w = .ok (.value (.int .i64 (s.size : Int))) w := by
  rw [X.len hE (vs := [.string s]) (by simp [evL, hx])]
  simp [Builtin.len_, ht, run_underlying hu, Sem.run, goInt]
theorem X.minI (hE : Sat ds N E a) {x y : Operand} {k m n ts} (hx : ev E x = some (.int k m)) (hy : ev E y = some (.int k n)) :
    execOp a.eval ⟨d, .call { callee := .builtin .min, args := [x, y].toArray, argTypes := ts }, ty, pos, aft, none⟩ = pn (.int k (if n < m then n else m)) := by
  rw [X.min hE (vs := [.int k m, .int k n]) (by simp [evL, hx, hy])]
  simp [Builtin.min_, Builtin.min2]
theorem X.maxI (hE : Sat ds N E a) {x y : Operand} {k m n ts} (hx : ev E x = some (.int k m)) (hy : ev E y = some (.int k n)) :
    execOp a.eval ⟨d, .call { callee := .builtin .max, args := [x, y].toArray, argTypes := ts }, ty, pos, aft, none⟩ = pn (.int k (if m < n then n else m)) := by
  rw [X.max hE (vs := [.int k m, .int k n]) (by simp [evL, hx, hy])]
  simp [Builtin.max_, Builtin.max2]
end
/-- What is known of a test, told as its outcome. -/
theorem Sat.bool {ds : List Deferred} {N : Nat} {E : Env} {a : Act} (hE : Sat ds N E a) {t : Nat} {c b : Bool} (hl : lk E t = some (.bool c)) (hc : c = b) : Sat ds N ((t, .bool b) :: E) a := by
  subst hc
  refine ⟨hE.size, fun t' v hv => ?_, hE.defs⟩
  by_cases e : t = t'
  · subst e
    have h1 : (bif Nat.beq t t then some (Value.bool c) else lk E t) = some v := hv
    rw [show Nat.beq t t = true from by simp] at h1
    obtain rfl := Option.some.inj h1
    exact hE.vals t _ hl
  · have h1 : (bif Nat.beq t t' then some (Value.bool c) else lk E t') = some v := hv
    rw [show Nat.beq t t' = false from beq_no e] at h1
    exact hE.vals t' v h1

/-! ### Steps -/
section
variable {ro : Option Nat} {P : Program} {ops : Array Oper} {Q : Exit → Act → World → Prop} {ds : List Deferred} {N : Nat} {E : Env} {a : Act} {w : World} {rest : List Oper}
theorem Sat.pur (hE : Sat ds N E a) {op : Op} {ty : TypeId} {pos : String} {aft : Array Edge} {d : Nat} {v : Value}
    (he : execOp a.eval ⟨some d, op, ty, pos, aft, none⟩ = pn v) (next : ∀ a', Sat ds N ((d, v) :: E) a' → WL ro P ops Q rest a' w)
    (hN : Nat.blt d N = true := by rfl) (hnd : ∀ c, op ≠ .defer c := by intro c h; cases h) : WL ro P ops Q (⟨some d, op, ty, pos, aft, none⟩ :: rest) a w :=
  hE.pure (by rw [he]; rfl) hnd hN next
theorem Sat.op (hE : Sat ds N E a) {τ : Type} {enc : τ → Value} {s : Sem Value} {k : τ → World → Prop} {op : Op} {ty : TypeId} {pos : String} {aft : Array Edge} {d : Nat}
    (he : execOp a.eval ⟨some d, op, ty, pos, aft, none⟩ = pv s) (H : opE P enc s w k)
    (next : ∀ x w' a', k x w' → Sat ds N ((d, enc x) :: E) a' → WL ro P ops Q rest a' w')
    (hN : Nat.blt d N = true := by rfl) (hnd : ∀ c, op ≠ .defer c := by intro c h; cases h) : WL ro P ops Q (⟨some d, op, ty, pos, aft, none⟩ :: rest) a w :=
  hE.val he hnd hN H next
theorem Sat.purR (hE : Sat ds N E a) {op : Op} {ty : TypeId} {pos : String} {aft : Array Edge} {d : Nat} {v : Value}
    (he : ∀ w, (execOp a.eval ⟨some d, op, ty, pos, aft, none⟩).run P w = .ok (.value v) w) (next : ∀ a', Sat ds N ((d, v) :: E) a' → WL ro P ops Q rest a' w)
    (hN : Nat.blt d N = true := by rfl) (hnd : ∀ c, op ≠ .defer c := by intro c h; cases h) : WL ro P ops Q (⟨some d, op, ty, pos, aft, none⟩ :: rest) a w :=
  hE.pure (he w) hnd hN next
/-- A value that nobody takes. -/
theorem Sat.op0 (hE : Sat ds N E a) {τ : Type} {enc : τ → Value} {s : Sem Value} {k : τ → World → Prop} {op : Op} {ty : TypeId} {pos : String} {aft : Array Edge}
    (he : execOp a.eval ⟨none, op, ty, pos, aft, none⟩ = pv s) (H : opE P enc s w k)
    (next : ∀ x w' a', k x w' → Sat ds N E a' → WL ro P ops Q rest a' w')
    (hnd : ∀ c, op ≠ .defer c := by intro c h; cases h) : WL ro P ops Q (⟨none, op, ty, pos, aft, none⟩ :: rest) a w := by
  obtain ⟨x, w', hr, hk⟩ := H
  exact wl_run rfl hnd (v := enc x) (w' := w') (by rw [he]; simp [hr]) (next x w' _ hk hE)
theorem Sat.opu (hE : Sat ds N E a) {s : Sem Unit} {k : World → Prop} {op : Op} {ty : TypeId} {pos : String} {aft : Array Edge}
    (he : execOp a.eval ⟨none, op, ty, pos, aft, none⟩ = pu s) (H : opU P s w k)
    (next : ∀ w' a', k w' → Sat ds N E a' → WL ro P ops Q rest a' w')
    (hnd : ∀ c, op ≠ .defer c := by intro c h; cases h) : WL ro P ops Q (⟨none, op, ty, pos, aft, none⟩ :: rest) a w :=
  hE.unit he hnd H next
/-- A call of a function of the program. -/
theorem Sat.call (hE : Sat ds N E a) {f : FuncId} {args : Array Value} {R : Ending → World → Prop} {op : Op} {ty : TypeId} {pos : String} {aft : Array Edge} {d : Nat}
    (he : (execOp a.eval ⟨some d, op, ty, pos, aft, none⟩).run P w = .ok (.enter f args) w) (H : Cl P f args w R)
    (next : ∀ e w', R e w' → ∃ v, e = .returned v ∧ ∀ a', Sat ds N ((d, v) :: E) a' → WL ro P ops Q rest a' w')
    (hN : Nat.blt d N = true := by rfl) (hnd : ∀ c, op ≠ .defer c := by intro c h; cases h) : WL ro P ops Q (⟨some d, op, ty, pos, aft, none⟩ :: rest) a w :=
  wl_call rfl hnd he H fun e w' hR => by
    obtain ⟨v, rfl, hv⟩ := next e w' hR
    exact ⟨v, rfl, hv _ (hE.put hN v)⟩
theorem Sat.call0 (hE : Sat ds N E a) {f : FuncId} {args : Array Value} {R : Ending → World → Prop} {op : Op} {ty : TypeId} {pos : String} {aft : Array Edge}
    (he : (execOp a.eval ⟨none, op, ty, pos, aft, none⟩).run P w = .ok (.enter f args) w) (H : Cl P f args w R)
    (next : ∀ e w', R e w' → ∃ v, e = .returned v ∧ ∀ a', Sat ds N E a' → WL ro P ops Q rest a' w')
    (hnd : ∀ c, op ≠ .defer c := by intro c h; cases h) : WL ro P ops Q (⟨none, op, ty, pos, aft, none⟩ :: rest) a w :=
  wl_call rfl hnd he H fun e w' hR => by
    obtain ⟨v, rfl, hv⟩ := next e w' hR
    exact ⟨v, rfl, hv _ hE⟩
/-- Guards. -/
theorem yielded_at (hE : Sat ds N E a) {j d : Nat} {b : Bool} (hj : (ops[j]?).bind (·.dst) = some d) (hb : lk E d = some (.bool b)) : yielded ops a.tmps j = some b := by
  unfold yielded
  have h1 := hE.vals d _ hb
  simp only [hj]
  have : d < a.tmps.size ∨ ¬ d < a.tmps.size := Nat.lt_or_ge d _ |>.imp id (by omega)
  rcases this with h | h
  · simp [Array.getD_eq_getD_getElem?, h] at h1
    simp [h, h1]
  · simp [Array.getD_eq_getD_getElem?, h, undef] at h1
theorem Sat.on (hE : Sat ds N E a) {dst : Option Tmp} {op : Op} {ty : TypeId} {pos : String} {aft : Array Edge} {j d : Nat} {b : Bool}
    (hj : (ops[j]?).bind (·.dst) = some d) (hb : lk E d = some (.bool b)) (h : WL ro P ops Q (⟨dst, op, ty, pos, aft, none⟩ :: rest) a w) : WL ro P ops Q (⟨dst, op, ty, pos, aft, some (j, b)⟩ :: rest) a w := by
  unfold WL wpListIn at *
  rw [if_pos (by simp [Region.wanted])] at h
  rw [if_pos (by simp [Region.wanted, yielded_at hE hj hb])]
  exact h
theorem Sat.off (hE : Sat ds N E a) {d0 : Nat} {op : Op} {ty : TypeId} {pos : String} {aft : Array Edge} {j d : Nat} {b b' : Bool}
    (hj : (ops[j]?).bind (·.dst) = some d) (hb : lk E d = some (.bool b')) (hne : b' ≠ b) (h : ∀ a', Sat ds N ((d0, undef) :: E) a' → WL ro P ops Q rest a' w) (hN : Nat.blt d0 N = true := by rfl) :
    WL ro P ops Q (⟨some d0, op, ty, pos, aft, some (j, b)⟩ :: rest) a w := by
  unfold WL wpListIn
  rw [if_neg (by simp [Region.wanted, yielded_at hE hj hb, hne])]
  exact ⟨fun _ _ => trivial, h _ (hE.put hN _)⟩
theorem Sat.off0 (hE : Sat ds N E a) {op : Op} {ty : TypeId} {pos : String} {aft : Array Edge} {j d : Nat} {b b' : Bool}
    (hj : (ops[j]?).bind (·.dst) = some d) (hb : lk E d = some (.bool b')) (hne : b' ≠ b) (h : WL ro P ops Q rest a w) :
    WL ro P ops Q (⟨none, op, ty, pos, aft, some (j, b)⟩ :: rest) a w := by
  unfold WL wpListIn
  rw [if_neg (by simp [Region.wanted, yielded_at hE hj hb, hne])]
  exact ⟨fun _ _ => trivial, h⟩
/-- Where ways through a region meet. -/
theorem WL.join {σ : Type} (EJ : σ → Env) (V : σ → World → Prop) (k : Nat) {l0 : List Oper} (hy : ∀ s w a, V s w → Sat ds N (EJ s) a → WL ro P ops Q (l0.drop k) a w)
    (hx : (∀ s w a, V s w → Sat ds N (EJ s) a → WL ro P ops Q (l0.drop k) a w) → WL ro P ops Q l0 a w) : WL ro P ops Q l0 a w := hx hy

/-! ### Code -/
theorem C.join {σ : Type} {x y : Code} (EJ : σ → Env) (V : σ → World → Prop) (hy : ∀ s w a, V s w → Sat ds N (EJ s) a → WC ro P y Q a w)
    (hx : (∀ s w a, V s w → Sat ds N (EJ s) a → WC ro P y Q a w) → WC ro P x (Exit.then (WC ro P y Q) Q) a w) : WC ro P (.seq x y) Q a w := wpIn_seq (hx hy)
theorem C.seq {x y : Code} (h : WC ro P x (Exit.then (WC ro P y Q) Q) a w) : WC ro P (.seq x y) Q a w := wpIn_seq h
theorem C.region {id : Nat} {l : List Oper} (h : WL ro P l.toArray Q l a w) : WC ro P (.region id l.toArray false) Q a w := wpIn_region_lit h
theorem C.nil (h : Q .normal a w) : WL ro P ops Q [] a w := h
theorem C.condP (hE : Sat ds N E a) {c : Operand} {x y : Code} {p : Prop} [Decidable p] (hc : ev E c = some (.bool (decide p))) (ht : p → WC ro P x Q a w) (hf : ¬ p → WC ro P y Q a w) : WC ro P (.cond c x y) Q a w :=
  wpIn_cond_split (hE.ev hc) (fun h => ht (of_decide_eq_true h)) (fun h => hf (of_decide_eq_false h))
theorem C.condB (hE : Sat ds N E a) {c : Operand} {x y : Code} {b : Bool} (hc : ev E c = some (.bool b)) (ht : b = true → WC ro P x Q a w) (hf : b = false → WC ro P y Q a w) : WC ro P (.cond c x y) Q a w :=
  wpIn_cond_split (hE.ev hc) ht hf
theorem C.block {id : Nat} {c : Code} (h : WC ro P c (Exit.inBlock id Q) a w) : WC ro P (.block id c) Q a w := wpIn_block h
theorem C.skip (h : Q .normal a w) : WC ro P .skip Q a w := wpIn_skip h
theorem C.exit {id : Nat} (h : Q (.exit id) a w) : WC ro P (.exit id) Q a w := wpIn_exit h
theorem C.ret (h : Q .ret a w) : WC ro P .ret Q a w := wpIn_ret h
theorem C.loop {σ : Type} (EL : σ → Env) {c : Code} (I : σ → World → Prop) (μ : σ → World → Nat) (s0 : σ) (h0 : I s0 w) (hE : Sat ds N (EL s0) a)
    (hb : ∀ s w a, I s w → Sat ds N (EL s) a → WC ro P c (Exit.then (fun a' w' => ∃ s', Sat ds N (EL s') a' ∧ I s' w' ∧ μ s' w' < μ s w) Q) a w) : WC ro P (.loop c) Q a w := by
  refine wpIn_loop (fun a w => ∃ n, ∃ s, Sat ds N (EL s) a ∧ I s w ∧ μ s w = n) (fun a w => leastOf fun n => ∃ s, Sat ds N (EL s) a ∧ I s w ∧ μ s w = n) ⟨_, s0, hE, h0, rfl⟩ ?_
  intro a w hI
  obtain ⟨⟨s, hs, hi, hm⟩, hleast⟩ := leastOf_spec hI
  refine wpIn_mono (hb s w a hi hs) ?_
  intro e a' w' hq
  cases e with
  | normal =>
    obtain ⟨s', h1, h2, h3⟩ := hq
    refine ⟨⟨_, s', h1, h2, rfl⟩, Nat.lt_of_le_of_lt ((leastOf_spec ⟨_, s', h1, h2, rfl⟩).2 _ ⟨s', h1, h2, rfl⟩) ?_⟩
    rw [← hm]; exact h3
  | exit id => exact hq
  | goto l => exact hq
  | ret => exact hq
  | panic c => exact hq
  | outgrown => exact hq
end
/-! ways out -/
section
variable {Q : Exit → Act → World → Prop} {K : Act → World → Prop} {a : Act} {w : World} {id id' : Nat}
theorem tn (h : K a w) : Exit.then K Q .normal a w := h
theorem te (h : Q (.exit id) a w) : Exit.then K Q (.exit id) a w := h
theorem tr (h : Q .ret a w) : Exit.then K Q .ret a w := h
theorem bn (h : Q .normal a w) : Exit.inBlock id Q .normal a w := h
theorem br (h : Q .ret a w) : Exit.inBlock id Q .ret a w := h
theorem be (h : Q .normal a w) : Exit.inBlock id Q (.exit id) a w := by simp only [Exit.inBlock, if_true]; exact h
theorem bo (h : Q (.exit id') a w) (hne : Nat.beq id' id = false := by rfl) : Exit.inBlock id Q (.exit id') a w := by
  have : id' ≠ id := no_beq hne
  simp only [Exit.inBlock, this, if_false]; exact h
end
def zipE : Nat → List Value → Env
  | _, [] => []
  | i, v :: r => (i, v) :: zipE (i + 1) r
theorem zipE_lk : ∀ (l : List Value) (i t : Nat) (v : Value), lk (zipE i l) t = some v → i ≤ t ∧ l[t - i]? = some v
  | [], _, _, _, h => by cases h
  | u :: r, i, t, v, h => by
    by_cases e : i = t
    · subst e
      have h1 : (bif Nat.beq i i then some u else lk (zipE (i + 1) r) i) = some v := h
      rw [show Nat.beq i i = true from by simp] at h1
      exact ⟨Nat.le_refl _, by simpa using h1⟩
    · have h1 : (bif Nat.beq i t then some u else lk (zipE (i + 1) r) t) = some v := h
      rw [show Nat.beq i t = false from beq_no e] at h1
      obtain ⟨h2, h3⟩ := zipE_lk r (i + 1) t v h1
      refine ⟨by omega, ?_⟩
      rw [show t - i = (t - (i + 1)) + 1 from by omega]
      simpa using h3
/-- A function whose results are temporaries. -/
theorem C.enter {P : Program} {f : FuncId} {fn : Func} {c : Code} {args : List Value} {w : World} {R : Ending → World → Prop} (N : Nat) (E : Env)
    (hf : P.funcs[f]? = some fn) (hb : fn.body = some c) (hN : fn.ntmps = N) (hle : Nat.ble args.length N = true)
    (hz : zipE 0 args = E)
    (h : ∀ a, Sat [] N E a → WC none P c (bodyPost P fn R) a w) : Cl P f args.toArray w R := by
  subst hN
  exact callsIn_of_wp hf hb trivial (h _ (Sat.enter args.toArray (by simpa using hle) (by intro t v hv; rw [← hz] at hv; simpa using (zipE_lk args 0 t v hv).2))) rfl
theorem C.ret1 {P : Program} {fn : Func} {R : Ending → World → Prop} {N : Nat} {E : Env} {a : Act} {w : World} (hE : Sat [] N E a) {t : Nat} {v : Value} (hr : fn.results = #[.tmp t]) (hv : lk E t = some v) (h : R (.returned v) w) :
    bodyPost P fn R .ret a w := ⟨hE.defs, v, by simp only [results, hr]; simp [hE.getq hv], h⟩
theorem C.ret0 {P : Program} {fn : Func} {R : Ending → World → Prop} {N : Nat} {E : Env} {a : Act} {w : World} (hE : Sat [] N E a) (hr : fn.results = #[]) (h : R (.returned (.tuple #[])) w) :
    bodyPost P fn R .ret a w := ⟨hE.defs, _, by simp [results, hr], h⟩
theorem C.ret2 {P : Program} {fn : Func} {R : Ending → World → Prop} {N : Nat} {E : Env} {a : Act} {w : World} (hE : Sat [] N E a) {t t' : Nat} {v v' : Value} (hr : fn.results = #[.tmp t, .tmp t']) (hv : lk E t = some v) (hv' : lk E t' = some v') (h : R (.returned (.tuple #[v, v'])) w) :
    bodyPost P fn R .ret a w := ⟨hE.defs, _, by simp only [results, hr]; simp [hE.getq hv, hE.getq hv'], h⟩
theorem C.ret3 {P : Program} {fn : Func} {R : Ending → World → Prop} {N : Nat} {E : Env} {a : Act} {w : World} (hE : Sat [] N E a) {t t' t'' : Nat} {v v' v'' : Value} (hr : fn.results = #[.tmp t, .tmp t', .tmp t'']) (hv : lk E t = some v) (hv' : lk E t' = some v') (hv'' : lk E t'' = some v'') (h : R (.returned (.tuple #[v, v', v''])) w) :
    bodyPost P fn R .ret a w := ⟨hE.defs, _, by simp only [results, hr]; simp [hE.getq hv, hE.getq hv', hE.getq hv''], h⟩

theorem C.end1 {P : Program} {fn : Func} {R : Ending → World → Prop} {N : Nat} {E : Env} {a : Act} {w : World} (hE : Sat [] N E a) {t : Nat} {v : Value} (hr : fn.results = #[.tmp t]) (hv : lk E t = some v) (h : R (.returned v) w) :
    bodyPost P fn R .normal a w := ⟨hE.defs, v, by simp only [results, hr]; simp [hE.getq hv], h⟩
theorem C.end0 {P : Program} {fn : Func} {R : Ending → World → Prop} {N : Nat} {E : Env} {a : Act} {w : World} (hE : Sat [] N E a) (hr : fn.results = #[]) (h : R (.returned (.tuple #[])) w) :
    bodyPost P fn R .normal a w := ⟨hE.defs, _, by simp [results, hr], h⟩
theorem C.end2 {P : Program} {fn : Func} {R : Ending → World → Prop} {N : Nat} {E : Env} {a : Act} {w : World} (hE : Sat [] N E a) {t t' : Nat} {v v' : Value} (hr : fn.results = #[.tmp t, .tmp t']) (hv : lk E t = some v) (hv' : lk E t' = some v') (h : R (.returned (.tuple #[v, v'])) w) :
    bodyPost P fn R .normal a w := ⟨hE.defs, _, by simp only [results, hr]; simp [hE.getq hv, hE.getq hv'], h⟩
theorem C.end3 {P : Program} {fn : Func} {R : Ending → World → Prop} {N : Nat} {E : Env} {a : Act} {w : World} (hE : Sat [] N E a) {t t' t'' : Nat} {v v' v'' : Value} (hr : fn.results = #[.tmp t, .tmp t', .tmp t'']) (hv : lk E t = some v) (hv' : lk E t' = some v') (hv'' : lk E t'' = some v'') (h : R (.returned (.tuple #[v, v', v''])) w) :
    bodyPost P fn R .normal a w := ⟨hE.defs, _, by simp only [results, hr]; simp [hE.getq hv, hE.getq hv', hE.getq hv''], h⟩

section
variable {ro : Option Nat} {P : Program} {ops : Array Oper} {Q : Exit → Act → World → Prop} {ds : List Deferred} {N : Nat} {E : Env} {a : Act} {w : World} {rest : List Oper}
theorem yielded_un (hE : Sat ds N E a) {j d : Nat} (hj : (ops[j]?).bind (·.dst) = some d) (hb : lk E d = some undef) : yielded ops a.tmps j = none := by
  unfold yielded
  have h1 := hE.vals d _ hb
  simp only [hj]
  rcases Nat.lt_or_ge d a.tmps.size with h | h
  · simp [Array.getD_eq_getD_getElem?, h] at h1
    simp [h, h1, undef]
  · have : a.tmps[d]? = none := Array.getElem?_eq_none h
    simp [this]
theorem Sat.offU (hE : Sat ds N E a) {d0 : Nat} {op : Op} {ty : TypeId} {pos : String} {aft : Array Edge} {j d : Nat} {b : Bool}
    (hj : (ops[j]?).bind (·.dst) = some d) (hb : lk E d = some undef) (h : ∀ a', Sat ds N ((d0, undef) :: E) a' → WL ro P ops Q rest a' w) (hN : Nat.blt d0 N = true := by rfl) :
    WL ro P ops Q (⟨some d0, op, ty, pos, aft, some (j, b)⟩ :: rest) a w := by
  unfold WL wpListIn
  rw [if_neg (by simp [Region.wanted, yielded_un hE hj hb])]
  exact ⟨fun _ _ => trivial, h _ (hE.put hN _)⟩
theorem Sat.offU0 (hE : Sat ds N E a) {op : Op} {ty : TypeId} {pos : String} {aft : Array Edge} {j d : Nat} {b : Bool}
    (hj : (ops[j]?).bind (·.dst) = some d) (hb : lk E d = some undef) (h : WL ro P ops Q rest a w) :
    WL ro P ops Q (⟨none, op, ty, pos, aft, some (j, b)⟩ :: rest) a w := by
  unfold WL wpListIn
  rw [if_neg (by simp [Region.wanted, yielded_un hE hj hb])]
  exact ⟨fun _ _ => trivial, h⟩
end

/-! ### Regions that draw their order: all operations look, or call what leaves old memory alone -/
/-- The worlds that a region may pass through. -/
abbrev Bel (w w' : World) : Prop := Go.RowKit.Below w.heap.size w w'
theorem Bel.refl (w : World) : Bel w w := Go.RowKit.Below.refl _ _
def nextB (w : World) (k : World → Prop) : Prop := ∀ w', Bel w w' → k w'
/-- The operation gives one value, wherever it comes up. -/
def opB {τ : Type} (P : Program) (enc : τ → Value) (s : Sem Value) (w : World) (k : τ → Prop) : Prop := ∃ x, (∀ w', Bel w w' → s.run P w' = .ok (enc x) w') ∧ k x
section
variable {P : Program} {ops : Array Oper} {ds : List Deferred} {N : Nat} {E : Env} {a : Act} {w : World} {rest : List Oper} {K : Act → Prop}
abbrev WQ (P : Program) (ops : Array Oper) (w : World) (K : Act → Prop) (l : List Oper) (a : Act) : Prop := wpQuietIn (FW none) 0 P ops (Bel w) K l a
theorem C.draw {Q : Exit → Act → World → Prop} {id : Nat} {l : List Oper} (hm : P.follows .mixedOrders = true) (hB : Region.lexB .any l.toArray = true)
    (h : WQ P l.toArray w (fun a' => ∀ w', Bel w w' → Q .normal a' w') l a) : WC none P (.region id l.toArray true) Q a w :=
  wpIn_region_quiet (C := Bel w) rfl hm hB ⟨rfl, rfl, rfl, Nat.le_refl _, fun _ _ => rfl⟩ (by simpa using h)
theorem asked_no (o : Oper) (a : Act) : o.askedIn (FW none) P a (Bel w) := fun _ _ _ _ => trivial
theorem q_run {o : Oper} (hg : o.guard = none) {v : Value} (hr : ∀ w', Bel w w' → (execOp a.eval o).run P w' = .ok (.value v) w') (h : WQ P ops w K rest (a.put o.dst v)) : WQ P ops w K (o :: rest) a := by
  unfold WQ wpQuietIn
  refine ⟨asked_no o a, ?_⟩
  rw [if_pos (by simp [Region.wanted, hg])]
  exact ⟨v, fun w' hw => by unfold Oper.quietAtIn; rw [hr w' hw]; exact ⟨rfl, rfl⟩, h⟩
theorem q_call {o : Oper} (hg : o.guard = none) {f : FuncId} {args : Array Value} {v : Value} (hr : ∀ w', (execOp a.eval o).run P w' = .ok (.enter f args) w')
    (hc : ∀ w', Bel w w' → Cl P f args w' fun e w'' => e = .returned v ∧ Bel w' w'') (h : WQ P ops w K rest (a.put o.dst v)) : WQ P ops w K (o :: rest) a := by
  unfold WQ wpQuietIn
  refine ⟨asked_no o a, ?_⟩
  rw [if_pos (by simp [Region.wanted, hg])]
  refine ⟨v, fun w' hw => ?_, h⟩
  unfold Oper.quietAtIn
  rw [hr w']
  refine ⟨rfl, fun h => by simp [FW, Fence.wide] at h, ?_⟩
  have hc' : CallsIn (FW none) 0 P f args w' (fun e w'' => e = .returned v ∧ Bel w' w'') := hc w' hw
  refine CallsIn.mono hc' fun e w'' ⟨he, hb⟩ => ⟨he, ?_⟩
  exact hw.trans ⟨hb.os, hb.tape, hb.output, hb.size, fun k hk => hb.block k (Nat.lt_of_lt_of_le hk hw.size)⟩
theorem Sat.qpur (hE : Sat ds N E a) {op : Op} {ty : TypeId} {pos : String} {aft : Array Edge} {d : Nat} {v : Value}
    (he : execOp a.eval ⟨some d, op, ty, pos, aft, none⟩ = pn v) (next : ∀ a', Sat ds N ((d, v) :: E) a' → WQ P ops w K rest a')
    (hN : Nat.blt d N = true := by rfl) : WQ P ops w K (⟨some d, op, ty, pos, aft, none⟩ :: rest) a :=
  q_run rfl (fun w' _ => by rw [he]; rfl) (next _ (hE.put hN v))
theorem Sat.qpurR (hE : Sat ds N E a) {op : Op} {ty : TypeId} {pos : String} {aft : Array Edge} {d : Nat} {v : Value}
    (he : ∀ w, (execOp a.eval ⟨some d, op, ty, pos, aft, none⟩).run P w = .ok (.value v) w) (next : ∀ a', Sat ds N ((d, v) :: E) a' → WQ P ops w K rest a')
    (hN : Nat.blt d N = true := by rfl) : WQ P ops w K (⟨some d, op, ty, pos, aft, none⟩ :: rest) a :=
  q_run rfl (fun w' _ => he w') (next _ (hE.put hN v))
theorem Sat.qop (hE : Sat ds N E a) {τ : Type} {enc : τ → Value} {s : Sem Value} {k : τ → Prop} {op : Op} {ty : TypeId} {pos : String} {aft : Array Edge} {d : Nat}
    (he : execOp a.eval ⟨some d, op, ty, pos, aft, none⟩ = pv s) (H : opB P enc s w k)
    (next : ∀ x a', k x → Sat ds N ((d, enc x) :: E) a' → WQ P ops w K rest a') (hN : Nat.blt d N = true := by rfl) : WQ P ops w K (⟨some d, op, ty, pos, aft, none⟩ :: rest) a := by
  obtain ⟨x, hr, hk⟩ := H
  exact q_run rfl (v := enc x) (fun w' hw => by rw [he]; simp [hr w' hw]) (next x _ hk (hE.put hN _))
theorem Sat.qcall (hE : Sat ds N E a) {f : FuncId} {args : Array Value} {v : Value} {op : Op} {ty : TypeId} {pos : String} {aft : Array Edge} {d : Nat}
    (he : ∀ w', (execOp a.eval ⟨some d, op, ty, pos, aft, none⟩).run P w' = .ok (.enter f args) w') (hc : ∀ w', Bel w w' → Cl P f args w' fun e w'' => e = .returned v ∧ Bel w' w'')
    (next : ∀ a', Sat ds N ((d, v) :: E) a' → WQ P ops w K rest a') (hN : Nat.blt d N = true := by rfl) : WQ P ops w K (⟨some d, op, ty, pos, aft, none⟩ :: rest) a :=
  q_call rfl he hc (next _ (hE.put hN v))
theorem Sat.qon (hE : Sat ds N E a) {dst : Option Tmp} {op : Op} {ty : TypeId} {pos : String} {aft : Array Edge} {j d : Nat} {b : Bool}
    (hj : (ops[j]?).bind (·.dst) = some d) (hb : lk E d = some (.bool b)) (h : WQ P ops w K (⟨dst, op, ty, pos, aft, none⟩ :: rest) a) : WQ P ops w K (⟨dst, op, ty, pos, aft, some (j, b)⟩ :: rest) a := by
  unfold WQ wpQuietIn at *
  refine ⟨asked_no _ a, ?_⟩
  rw [if_pos (by simp [Region.wanted, yielded_at hE hj hb])]
  have := h.2
  rw [if_pos (by simp [Region.wanted])] at this
  exact this
theorem Sat.qoff (hE : Sat ds N E a) {d0 : Nat} {op : Op} {ty : TypeId} {pos : String} {aft : Array Edge} {j d : Nat} {b b' : Bool}
    (hj : (ops[j]?).bind (·.dst) = some d) (hb : lk E d = some (.bool b')) (hne : b' ≠ b) (h : ∀ a', Sat ds N ((d0, undef) :: E) a' → WQ P ops w K rest a') (hN : Nat.blt d0 N = true := by rfl) :
    WQ P ops w K (⟨some d0, op, ty, pos, aft, some (j, b)⟩ :: rest) a := by
  unfold WQ wpQuietIn
  refine ⟨asked_no _ a, ?_⟩
  rw [if_neg (by simp [Region.wanted, yielded_at hE hj hb, hne])]
  exact h _ (hE.put hN _)
theorem Sat.qoffU (hE : Sat ds N E a) {d0 : Nat} {op : Op} {ty : TypeId} {pos : String} {aft : Array Edge} {j d : Nat} {b : Bool}
    (hj : (ops[j]?).bind (·.dst) = some d) (hb : lk E d = some undef) (h : ∀ a', Sat ds N ((d0, undef) :: E) a' → WQ P ops w K rest a') (hN : Nat.blt d0 N = true := by rfl) :
    WQ P ops w K (⟨some d0, op, ty, pos, aft, some (j, b)⟩ :: rest) a := by
  unfold WQ wpQuietIn
  refine ⟨asked_no _ a, ?_⟩
  rw [if_neg (by simp [Region.wanted, yielded_un hE hj hb])]
  exact h _ (hE.put hN _)
theorem C.qnil (h : K a) : WQ P ops w K [] a := h
theorem WQ.join {σ : Type} (EJ : σ → Env) (V : σ → Prop) (k : Nat) {l0 : List Oper} (hy : ∀ s a, V s → Sat ds N (EJ s) a → WQ P ops w K (l0.drop k) a)
    (hx : (∀ s a, V s → Sat ds N (EJ s) a → WQ P ops w K (l0.drop k) a) → WQ P ops w K l0 a) : WQ P ops w K l0 a := hx hy
end

/-! ### Regions that draw their order: what only looks stands ahead, the rest goes in the order of the text -/
/-- The operation gives one value and leaves the world. -/
def opS {τ : Type} (P : Program) (enc : τ → Value) (s : Sem Value) (w : World) (k : τ → Prop) : Prop := ∃ x, s.run P w = .ok (enc x) w ∧ k x
def plainB : Op → Bool
  | .move _ | .assign _ | .load .. | .store .. | .alloc _ | .box .. | .build .. | .buildSlice .. | .mapEntry .. | .entryStore .. | .mapUpdate .. | .insert .. | .lookup .. | .extract .. | .binOp .. | .unOp ..
  | .fieldAddr .. | .indexAddr .. | .index .. | .field .. | .slice .. | .convert .. | .makeFunc .. | .makeSlice .. | .makeMap .. => true
  | .call { callee := .builtin .append, .. } | .call { callee := .builtin .copy, .. } | .call { callee := .builtin .len, .. } | .call { callee := .builtin .clear, .. } | .call { callee := .builtin .delete, .. } => true
  | _ => false
theorem pv_round {P : Program} {s : Sem Value} {w w' : World} {l f ts as bd} : (pv s).run P w ≠ .ok (.round l f ts as bd) w' := by
  intro h
  simp only [pv, Sem.run_bind] at h
  cases hs : s.run P w <;> rw [hs] at h <;> simp [Result.andThen, Sem.run] at h
theorem pu_round {P : Program} {s : Sem Unit} {w w' : World} {l f ts as bd} : (pu s).run P w ≠ .ok (.round l f ts as bd) w' := by
  intro h
  simp only [pu, Sem.run_bind] at h
  cases hs : s.run P w <;> rw [hs] at h <;> simp [Result.andThen, Sem.run] at h
theorem plain_call {P : Program} {ρ : Operand → Value} {w w' : World} {l f ts as bd} {d : Option Tmp} {c : Call} {ty : TypeId} {pos : String} {aft : Array Edge} {g : Option (Nat × Bool)} (h : plainB (.call c) = true) :
    (execOp ρ ⟨d, .call c, ty, pos, aft, g⟩).run P w ≠ .ok (.round l f ts as bd) w' := by
  obtain ⟨cl, as_, ts_⟩ := c
  cases cl with
  | value x => exact absurd h (by simp [plainB])
  | invoke x m => exact absurd h (by simp [plainB])
  | builtin b => cases b <;> first | (exact pv_round) | (exact absurd h (by simp [plainB]))
theorem plain_round {P : Program} {o : Oper} {ρ : Operand → Value} {w w' : World} {l f ts as bd} (h : plainB o.op = true) : (execOp ρ o).run P w ≠ .ok (.round l f ts as bd) w' := by
  obtain ⟨d, op, ty, pos, aft, g⟩ := o
  cases op <;> first | (exact pv_round) | (exact pu_round) | (intro hh; simp [execOp, Sem.run] at hh; done) | (rename_i c; exact plain_call h) | (exact absurd h (by simp [plainB]))
section
variable {P : Program} {ops : Array Oper} {ds : List Deferred} {N : Nat} {E : Env} {a : Act} {w : World} {rest : List Oper} {K : Act → Prop} {Q : Exit → Act → World → Prop}
theorem wl_list : ∀ (l : List Oper) (a : Act) (w : World), l.all (fun o => plainB o.op) = true → WL none P ops Q l a w → wpList P ops Q l a w
  | [], _, _, _, h => h
  | o :: l, a, w, hp, h => by
    simp only [List.all_cons, Bool.and_eq_true] at hp
    unfold WL wpListIn at h
    unfold wpList
    split
    · rename_i hw
      rw [if_pos hw] at h
      refine .inl ?_
      have h2 := h.2
      unfold Oper.wp
      rw [Oper.semAt_none] at h2
      have hr := fun l f ts as bd w' => plain_round (P := P) (o := o) (ρ := a.eval) (w := w) (w' := w') (l := l) (f := f) (ts := ts) (as := as) (bd := bd) hp.1
      cases hx : (execOp a.eval o).run P w with
      | halt hh w' => rw [hx] at h2; cases hh <;> first | exact h2 | exact h2.elim
      | ok nx w' =>
        rw [hx] at h2
        cases nx with
        | value v => exact wl_list l _ _ hp.2 h2
        | skip => exact wl_list l _ _ hp.2 h2
        | defer d => exact wl_list l _ _ hp.2 h2
        | enter f args =>
          have h3 := callsIn_wide.1 h2.2
          refine Calls.mono h3 fun e w'' hh => ?_
          cases e with
          | returned v => exact wl_list l _ _ hp.2 hh
          | panicked c => exact hh
          | outgrown => exact hh
        | row r args =>
          have h3 := h2.2
          intro c cs
          obtain ⟨v, w'', h4, h5⟩ := h3 c cs (room_wide _)
          exact ⟨v, w'', wl_list l _ _ hp.2 h4, stepsIn_wide.1 h5⟩
        | round l f ts as bd => exact absurd hx (hr l f ts as bd w')
        | _ => exact h2.elim
    · rename_i hw
      rw [if_neg hw] at h
      exact wl_list l _ _ hp.2 h.2
abbrev WS (P : Program) (ops : Array Oper) (w : World) (K : Act → Prop) (l : List Oper) (a : Act) : Prop := wpStill P ops w K l a
theorem Bel.draw (w : World) : Bel w { w with drawn := w.drawn + 1 } := ⟨rfl, rfl, rfl, Nat.le_refl _, fun _ _ => rfl⟩
theorem C.tail {id : Nat} {l : List Oper} (n : Nat) (hm : P.follows .mixedOrders = true) (hB : Region.lexTailB .any l.toArray n = true) (hp : (l.drop n).all (fun o => plainB o.op) = true)
    (h : WS P l.toArray { w with drawn := w.drawn + 1 } (fun a' => WL none P l.toArray Q (l.drop n) a' { w with drawn := w.drawn + 1 }) (l.take n) a) : WC none P (.region id l.toArray true) Q a w := by
  refine wpIn_wide.2 (wp_region_still_tail n hm hB ?_)
  have : ∀ (l' : List Oper) (a : Act), WS P l.toArray { w with drawn := w.drawn + 1 } (fun a' => WL none P l.toArray Q (l.drop n) a' { w with drawn := w.drawn + 1 }) l' a →
      wpStill P l.toArray { w with drawn := w.drawn + 1 } (fun a' => wpList P l.toArray Q (l.drop n) a' { w with drawn := w.drawn + 1 }) l' a := by
    intro l'
    induction l' with
    | nil => exact fun a h => wl_list _ _ _ hp h
    | cons o l' ih =>
      intro a h
      unfold WS wpStill at h
      unfold wpStill
      split
      · rename_i hw
        rw [if_pos hw] at h
        unfold Oper.still at *
        cases hx : (execOp a.eval o).run P { w with drawn := w.drawn + 1 } with
        | halt hh w' => rw [hx] at h; exact h.elim
        | ok nx w' =>
          rw [hx] at h
          cases nx with
          | value v => exact ⟨h.1, ih _ h.2⟩
          | skip => exact ⟨h.1, ih _ h.2⟩
          | enter f args => obtain ⟨h1, v, h2, h3⟩ := h; exact ⟨h1, v, h2, ih _ h3⟩
          | _ => exact h.elim
      · rename_i hw
        rw [if_neg hw] at h
        exact ih _ h
  exact this _ _ h
theorem s_run {o : Oper} (hg : o.guard = none) {v : Value} (hr : (execOp a.eval o).run P w = .ok (.value v) w) (h : WS P ops w K rest (a.put o.dst v)) : WS P ops w K (o :: rest) a := by
  unfold WS wpStill
  rw [if_pos (by simp [Region.wanted, hg])]
  unfold Oper.still
  rw [hr]
  exact ⟨rfl, h⟩
theorem Sat.spur (hE : Sat ds N E a) {op : Op} {ty : TypeId} {pos : String} {aft : Array Edge} {d : Nat} {v : Value}
    (he : execOp a.eval ⟨some d, op, ty, pos, aft, none⟩ = pn v) (next : ∀ a', Sat ds N ((d, v) :: E) a' → WS P ops w K rest a')
    (hN : Nat.blt d N = true := by rfl) : WS P ops w K (⟨some d, op, ty, pos, aft, none⟩ :: rest) a :=
  s_run rfl (by rw [he]; rfl) (next _ (hE.put hN v))
theorem Sat.spurR (hE : Sat ds N E a) {op : Op} {ty : TypeId} {pos : String} {aft : Array Edge} {d : Nat} {v : Value}
    (he : ∀ w, (execOp a.eval ⟨some d, op, ty, pos, aft, none⟩).run P w = .ok (.value v) w) (next : ∀ a', Sat ds N ((d, v) :: E) a' → WS P ops w K rest a')
    (hN : Nat.blt d N = true := by rfl) : WS P ops w K (⟨some d, op, ty, pos, aft, none⟩ :: rest) a :=
  s_run rfl (he w) (next _ (hE.put hN v))
theorem Sat.sop (hE : Sat ds N E a) {τ : Type} {enc : τ → Value} {s : Sem Value} {k : τ → Prop} {op : Op} {ty : TypeId} {pos : String} {aft : Array Edge} {d : Nat}
    (he : execOp a.eval ⟨some d, op, ty, pos, aft, none⟩ = pv s) (H : opS P enc s w k)
    (next : ∀ x a', k x → Sat ds N ((d, enc x) :: E) a' → WS P ops w K rest a') (hN : Nat.blt d N = true := by rfl) : WS P ops w K (⟨some d, op, ty, pos, aft, none⟩ :: rest) a := by
  obtain ⟨x, hr, hk⟩ := H
  exact s_run rfl (v := enc x) (by rw [he]; simp [hr]) (next x _ hk (hE.put hN _))
theorem Sat.son (hE : Sat ds N E a) {dst : Option Tmp} {op : Op} {ty : TypeId} {pos : String} {aft : Array Edge} {j d : Nat} {b : Bool}
    (hj : (ops[j]?).bind (·.dst) = some d) (hb : lk E d = some (.bool b)) (h : WS P ops w K (⟨dst, op, ty, pos, aft, none⟩ :: rest) a) : WS P ops w K (⟨dst, op, ty, pos, aft, some (j, b)⟩ :: rest) a := by
  unfold WS wpStill at *
  rw [if_pos (by simp [Region.wanted, yielded_at hE hj hb])]
  rw [if_pos (by simp [Region.wanted])] at h
  exact h
theorem Sat.soff (hE : Sat ds N E a) {d0 : Nat} {op : Op} {ty : TypeId} {pos : String} {aft : Array Edge} {j d : Nat} {b b' : Bool}
    (hj : (ops[j]?).bind (·.dst) = some d) (hb : lk E d = some (.bool b')) (hne : b' ≠ b) (h : ∀ a', Sat ds N ((d0, undef) :: E) a' → WS P ops w K rest a') (hN : Nat.blt d0 N = true := by rfl) :
    WS P ops w K (⟨some d0, op, ty, pos, aft, some (j, b)⟩ :: rest) a := by
  unfold WS wpStill
  rw [if_neg (by simp [Region.wanted, yielded_at hE hj hb, hne])]
  exact h _ (hE.put hN _)
theorem Sat.soffU (hE : Sat ds N E a) {d0 : Nat} {op : Op} {ty : TypeId} {pos : String} {aft : Array Edge} {j d : Nat} {b : Bool}
    (hj : (ops[j]?).bind (·.dst) = some d) (hb : lk E d = some undef) (h : ∀ a', Sat ds N ((d0, undef) :: E) a' → WS P ops w K rest a') (hN : Nat.blt d0 N = true := by rfl) :
    WS P ops w K (⟨some d0, op, ty, pos, aft, some (j, b)⟩ :: rest) a := by
  unfold WS wpStill
  rw [if_neg (by simp [Region.wanted, yielded_un hE hj hb])]
  exact h _ (hE.put hN _)
theorem WS.join {σ : Type} (EJ : σ → Env) (V : σ → Prop) (k : Nat) {l0 : List Oper} (hy : ∀ s a, V s → Sat ds N (EJ s) a → WS P ops w K (l0.drop k) a)
    (hx : (∀ s a, V s → Sat ds N (EJ s) a → WS P ops w K (l0.drop k) a) → WS P ops w K l0 a) : WS P ops w K l0 a := hx hy
theorem C.snil (h : K a) : WS P ops w K [] a := h
end

/-! ### Regions that draw their order: any order at all -/
/-- A value that hangs on no world. -/
def opP {τ : Type} (P : Program) (enc : τ → Value) (s : Sem Value) (k : τ → Prop) : Prop := ∃ x, (∀ w, s.run P w = .ok (enc x) w) ∧ k x
def notCall : Op → Bool
  | .call _ | .go _ | .defer _ => false
  | _ => true
section
variable {P : Program} {ops : Array Oper} {ds : List Deferred} {N : Nat} {E : Env} {a : Act} {w : World} {Q : Exit → Act → World → Prop} {fuel : Nat} {listed l2 : Array Bool}
abbrev WA (P : Program) (ops : Array Oper) (Q : Exit → Act → World → Prop) (fuel : Nat) (listed : Array Bool) (a : Act) (w : World) : Prop := wpAnyIn (FW none) 0 P .any ops Q fuel listed a w
theorem C.any {id : Nat} {l : List Oper} (n : Nat) (l2 : Array Bool) (hm : P.follows .mixedOrders = true) (h : ∀ w', Bel w w' → WA P l.toArray Q n l2 a w') (hn : l.toArray.size = n := by rfl) (hl : Array.replicate n false = l2 := by rfl) :
    WC none P (.region id l.toArray true) Q a w := by
  subst hn; subst hl
  exact wpIn_region_any hm (h _ (Bel.draw w))
def PanicQ (Q : Exit → Act → World → Prop) : Prop := ∀ c a w d v, Q (.panic c) (a.put (some d) v) w → Q (.panic c) a w
theorem about_no {o : Oper} (h : notCall o.op = true) (ρ : Operand → Value) (w : World) : o.about P w ρ = none := by
  unfold Oper.about
  obtain ⟨d, op, ty, pos, aft, g⟩ := o
  cases op <;> first | rfl | (exact absurd h (by simp [notCall]))
theorem WA.take {i d : Nat} {o : Oper} {v : Value} (hd : o.dst = some d) (hq : PanicQ Q) (hs : Region.noSelect ops = true) (hi : ops[i]? = some o) (hf : Region.free .any ops listed i = true) (hr : (Region.ready .any ops listed).contains i = true)
    (hl : listed.setIfInBounds i true = l2) (hy : YieldsFenced P ops o v a) (h : WA P ops Q fuel l2 (a.put o.dst v) w) : WA P ops Q (fuel + 1) listed a w := by
  subst hl
  exact wpAnyIn_take rfl hi hs hf hr (fun c a w => by rw [hd]; exact hq c a w d v) hy h
theorem WA.one {i : Nat} {o : Oper} (hi : ops[i]? = some o) (hr : Region.ready .any ops listed = [i]) (hl : listed.setIfInBounds i true = l2)
    (h : ∀ (K : Act → World → Prop), (∀ a w, WA P ops Q fuel l2 a w → K a w) → if Region.wanted o (yielded ops a.tmps) = true then Oper.wpIn (FW none) 0 P o a w K Q else K (a.put o.dst undef) w) : WA P ops Q (fuel + 1) listed a w := by
  subst hl
  refine wpAnyIn_ready hr (by simp) (AllReadyIn.cons hi (fun K hK => ?_) AllReadyIn.nil)
  have := h K hK
  split
  · rename_i hw; rw [if_pos hw] at this; exact this
  · rename_i hw; rw [if_neg hw] at this; exact ⟨fun _ _ => trivial, this⟩
theorem WA.two {i j : Nat} {o o' : Oper} {l3 : Array Bool} (hi : ops[i]? = some o) (hj : ops[j]? = some o') (hr : Region.ready .any ops listed = [i, j]) (hl : listed.setIfInBounds i true = l2) (hl' : listed.setIfInBounds j true = l3)
    (h : ∀ (K : Act → World → Prop), (∀ a w, WA P ops Q fuel l2 a w → K a w) → if Region.wanted o (yielded ops a.tmps) = true then Oper.wpIn (FW none) 0 P o a w K Q else K (a.put o.dst undef) w)
    (h' : ∀ (K : Act → World → Prop), (∀ a w, WA P ops Q fuel l3 a w → K a w) → if Region.wanted o' (yielded ops a.tmps) = true then Oper.wpIn (FW none) 0 P o' a w K Q else K (a.put o'.dst undef) w) : WA P ops Q (fuel + 1) listed a w := by
  subst hl; subst hl'
  refine wpAnyIn_ready hr (by simp) (AllReadyIn.cons hi (fun K hK => ?_) (AllReadyIn.cons hj (fun K hK => ?_) AllReadyIn.nil))
  · have := h K hK
    split
    · rename_i hw; rw [if_pos hw] at this; exact this
    · rename_i hw; rw [if_neg hw] at this; exact ⟨fun _ _ => trivial, this⟩
  · have := h' K hK
    split
    · rename_i hw; rw [if_pos hw] at this; exact this
    · rename_i hw; rw [if_neg hw] at this; exact ⟨fun _ _ => trivial, this⟩
theorem WA.nil (hr : Region.ready .any ops listed = []) (h : Q .normal a w) : WA P ops Q fuel listed a w := wpAnyIn_done hr h fuel
/-- One operation of its own, in some order's turn. -/
abbrev WO (P : Program) (ops : Array Oper) (Q : Exit → Act → World → Prop) (o : Oper) (K : Act → World → Prop) (a : Act) (w : World) : Prop :=
  if Region.wanted o (yielded ops a.tmps) = true then Oper.wpIn (FW none) 0 P o a w K Q else K (a.put o.dst undef) w
theorem wo_run {o : Oper} {K : Act → World → Prop} (hg : o.guard = none) (hnd : ∀ c, o.op ≠ .defer c) {v : Value} {w' : World} (hr : (execOp a.eval o).run P w = .ok (.value v) w') (h : K (a.put o.dst v) w') : WO P ops Q o K a w := by
  unfold WO
  rw [if_pos (by simp [Region.wanted, hg])]
  refine ⟨fun _ _ => trivial, ?_⟩
  rw [Oper.semAt_eq _ _ _ hnd, hr]
  exact h
theorem wo_runU {o : Oper} {K : Act → World → Prop} (hg : o.guard = none) (hnd : ∀ c, o.op ≠ .defer c) {w' : World} (hr : (execOp a.eval o).run P w = .ok .skip w') (h : K (a.put o.dst undef) w') : WO P ops Q o K a w := by
  unfold WO
  rw [if_pos (by simp [Region.wanted, hg])]
  refine ⟨fun _ _ => trivial, ?_⟩
  rw [Oper.semAt_eq _ _ _ hnd, hr]
  exact h
theorem Sat.wop (hE : Sat ds N E a) {K : Act → World → Prop} {τ : Type} {enc : τ → Value} {s : Sem Value} {k : τ → World → Prop} {op : Op} {ty : TypeId} {pos : String} {aft : Array Edge} {d : Nat}
    (he : execOp a.eval ⟨some d, op, ty, pos, aft, none⟩ = pv s) (H : opE P enc s w k) (next : ∀ x w' a', k x w' → Sat ds N ((d, enc x) :: E) a' → K a' w')
    (hN : Nat.blt d N = true := by rfl) (hnd : ∀ c, op ≠ .defer c := by intro c h; cases h) : WO P ops Q ⟨some d, op, ty, pos, aft, none⟩ K a w := by
  obtain ⟨x, w', hr, hk⟩ := H
  exact wo_run rfl hnd (v := enc x) (w' := w') (by rw [he]; simp [hr]) (next x w' _ hk (hE.put hN _))
theorem Sat.wop0 (hE : Sat ds N E a) {K : Act → World → Prop} {τ : Type} {enc : τ → Value} {s : Sem Value} {k : τ → World → Prop} {op : Op} {ty : TypeId} {pos : String} {aft : Array Edge}
    (he : execOp a.eval ⟨none, op, ty, pos, aft, none⟩ = pv s) (H : opE P enc s w k) (next : ∀ x w' a', k x w' → Sat ds N E a' → K a' w')
    (hnd : ∀ c, op ≠ .defer c := by intro c h; cases h) : WO P ops Q ⟨none, op, ty, pos, aft, none⟩ K a w := by
  obtain ⟨x, w', hr, hk⟩ := H
  exact wo_run rfl hnd (v := enc x) (w' := w') (by rw [he]; simp [hr]) (next x w' _ hk hE)
theorem Sat.wopu (hE : Sat ds N E a) {K : Act → World → Prop} {s : Sem Unit} {k : World → Prop} {op : Op} {ty : TypeId} {pos : String} {aft : Array Edge}
    (he : execOp a.eval ⟨none, op, ty, pos, aft, none⟩ = pu s) (H : opU P s w k) (next : ∀ w' a', k w' → Sat ds N E a' → K a' w')
    (hnd : ∀ c, op ≠ .defer c := by intro c h; cases h) : WO P ops Q ⟨none, op, ty, pos, aft, none⟩ K a w := by
  obtain ⟨w', hr, hk⟩ := H
  exact wo_runU rfl hnd (w' := w') (by rw [he]; simp [hr]) (next w' _ hk hE)
theorem Sat.wcall (hE : Sat ds N E a) {K : Act → World → Prop} {f : FuncId} {args : Array Value} {R : Ending → World → Prop} {op : Op} {ty : TypeId} {pos : String} {aft : Array Edge} {d : Nat}
    (he : (execOp a.eval ⟨some d, op, ty, pos, aft, none⟩).run P w = .ok (.enter f args) w) (H : Cl P f args w R)
    (next : ∀ e w', R e w' → ∃ v, e = .returned v ∧ ∀ a', Sat ds N ((d, v) :: E) a' → K a' w')
    (hN : Nat.blt d N = true := by rfl) (hnd : ∀ c, op ≠ .defer c := by intro c h; cases h) : WO P ops Q ⟨some d, op, ty, pos, aft, none⟩ K a w := by
  unfold WO
  rw [if_pos (by simp [Region.wanted])]
  refine ⟨fun _ _ => trivial, ?_⟩
  rw [Oper.semAt_eq _ _ _ hnd, he, Oper.uponIn_enter]
  refine ⟨fun h => by simp [FW, Fence.wide] at h, ?_⟩
  have hc' : CallsIn (FW none) 0 P f args w R := H
  refine CallsIn.mono hc' fun e w'' hR => ?_
  obtain ⟨v, rfl, hv⟩ := next e w'' hR
  exact hv _ (hE.put hN v)
/-- What hangs on no world goes first. -/
theorem Sat.apur (hE : Sat ds N E a) {i : Nat} {op : Op} {ty : TypeId} {pos : String} {aft : Array Edge} {d : Nat} {v : Value} (hq : PanicQ Q) (hs : Region.noSelect ops = true) (hi : ops[i]? = some ⟨some d, op, ty, pos, aft, none⟩)
    (hf : Region.free .any ops listed i = true) (hr : (Region.ready .any ops listed).contains i = true) (hl : listed.setIfInBounds i true = l2)
    (he : ∀ w, (execOp a.eval ⟨some d, op, ty, pos, aft, none⟩).run P w = .ok (.value v) w) (next : ∀ a', Sat ds N ((d, v) :: E) a' → WA P ops Q fuel l2 a' w)
    (hN : Nat.blt d N = true := by rfl) (hc : notCall op = true := by rfl) : WA P ops Q (fuel + 1) listed a w :=
  WA.take rfl hq hs hi hf hr hl ⟨.inl ⟨by simp [Region.wanted], he⟩, fun w => about_no hc _ w⟩ (next _ (hE.put hN v))
theorem Sat.aop (hE : Sat ds N E a) {i : Nat} {τ : Type} {enc : τ → Value} {s : Sem Value} {k : τ → Prop} {op : Op} {ty : TypeId} {pos : String} {aft : Array Edge} {d : Nat} (hq : PanicQ Q) (hs : Region.noSelect ops = true) (hi : ops[i]? = some ⟨some d, op, ty, pos, aft, none⟩)
    (hf : Region.free .any ops listed i = true) (hr : (Region.ready .any ops listed).contains i = true) (hl : listed.setIfInBounds i true = l2)
    (he : execOp a.eval ⟨some d, op, ty, pos, aft, none⟩ = pv s) (H : opP P enc s k) (next : ∀ x a', k x → Sat ds N ((d, enc x) :: E) a' → WA P ops Q fuel l2 a' w)
    (hN : Nat.blt d N = true := by rfl) (hc : notCall op = true := by rfl) : WA P ops Q (fuel + 1) listed a w := by
  obtain ⟨x, hx, hk⟩ := H
  exact WA.take rfl hq hs hi hf hr hl ⟨.inl ⟨by simp [Region.wanted], fun w => by rw [he]; simp [hx w]⟩, fun w => about_no hc _ w⟩ (next x _ hk (hE.put hN _))
theorem pn_run {s : Sem Next} {v : Value} (h : s = pn v) (w : World) : s.run P w = .ok (.value v) w := by rw [h]; rfl
theorem Sat.alen (hE : Sat ds N E a) {i : Nat} {xs : List Operand} {ts : Array TypeId} {ty : TypeId} {pos : String} {aft : Array Edge} {d : Nat} {v : Value} (hq : PanicQ Q) (hs : Region.noSelect ops = true) (hi : ops[i]? = some ⟨some d, .call { callee := .builtin .len, args := xs.toArray, argTypes := ts }, ty, pos, aft, none⟩)
    (hf : Region.free .any ops listed i = true) (hr : (Region.ready .any ops listed).contains i = true) (hl : listed.setIfInBounds i true = l2)
    (he : ∀ w, (execOp a.eval ⟨some d, .call { callee := .builtin .len, args := xs.toArray, argTypes := ts }, ty, pos, aft, none⟩).run P w = .ok (.value v) w) (next : ∀ a', Sat ds N ((d, v) :: E) a' → WA P ops Q fuel l2 a' w)
    (hN : Nat.blt d N = true := by rfl) : WA P ops Q (fuel + 1) listed a w :=
  WA.take rfl hq hs hi hf hr hl ⟨.inl ⟨by simp [Region.wanted], he⟩, fun w => by simp [Oper.about, resolve, Target.leads, Sem.run_pure]⟩ (next _ (hE.put hN v))
end

/-! ### Calls of function values; ranges over functions -/
/-- A call of a function value: of a function, or of a loop's body. -/
def CallV (P : Program) (v : Value) (args : List Value) (w : World) (R : Ending → World → Prop) : Prop :=
  (∃ (f : FuncId) (us lb : List Value), v = .func (.func f) us.toArray lb.toArray ∧ Ent P f ∧ Cl P f (us ++ args ++ lb).toArray w R) ∨
  (∃ l, v = .func (.yield l) #[] #[] ∧ YieldAt (FW none) 0 P l args.toArray w R)
section
variable {ro : Option Nat} {P : Program} {ops : Array Oper} {Q : Exit → Act → World → Prop} {ds : List Deferred} {N : Nat} {E : Env} {a : Act} {w : World} {rest : List Oper}
theorem wl_round {o : Oper} (hg : o.guard = none) (hnd : ∀ c, o.op ≠ .defer c) {l : Nat} {f : FuncId} {tmps : Array Value} {asg body : Code} (hr : (execOp a.eval o).run P w = .ok (.round l f tmps asg body) w)
    {R : Ending → World → Prop} (hc : RoundIn (FW none) 0 P l f tmps asg body w R)
    (h : ∀ e w'', R e w'' → ∃ v, e = .returned v ∧ WL ro P ops Q rest (a.put o.dst v) w'') : WL ro P ops Q (o :: rest) a w := by
  unfold WL wpListIn
  rw [if_pos (by simp [Region.wanted, hg])]
  refine ⟨fun _ _ => trivial, ?_⟩
  rw [Oper.semAt_eq _ _ _ hnd, hr, Oper.uponIn_round]
  refine ⟨fun h => by simp [FW, Fence.wide] at h, ?_⟩
  have hc' : RoundIn (FW ro) 0 P l f tmps asg body w R := hc
  refine RoundIn.mono hc' fun e w'' hR => ?_
  obtain ⟨v, rfl, hv⟩ := h e w'' hR
  exact hv
theorem X.yield (hE : Sat ds N E a) {P : Program} {w : World} {x : Operand} {xs : List Operand} {vs ts} {l : Nat} {f : FuncId} {tmps : Array Value} {asg body : Code} {d : Option Tmp} {ty : TypeId} {pos : String} {aft : Array Edge}
    (hx : ev E x = some (.func (.yield l) #[] #[])) (h : evL E xs = some vs) (hy : (Instr.yield l vs.toArray).run P w = .ok (.round l f tmps asg body) w) :
    (execOp a.eval ⟨d, .call { callee := .value x, args := xs.toArray, argTypes := ts }, ty, pos, aft, none⟩).run P w = .ok (.round l f tmps asg body) w := by
  rw [← hE.evA h] at hy
  have e := hE.ev hx
  simpa [execOp, resolve, Deferred.ofValue, e, invoke] using hy
theorem Sat.callV (hE : Sat ds N E a) {x : Operand} {xs : List Operand} {v : Value} {vs : List Value} {ts} {R : Ending → World → Prop} {ty : TypeId} {pos : String} {aft : Array Edge} {d : Nat}
    (hx : Go.VB.ev E x = some v) (hxs : Go.VB.evL E xs = some vs) (H : CallV P v vs w R)
    (next : ∀ e w', R e w' → ∃ v, e = .returned v ∧ ∀ a', Sat ds N ((d, v) :: E) a' → WL ro P ops Q rest a' w')
    (hN : Nat.blt d N = true := by rfl) : WL ro P ops Q (⟨some d, .call { callee := .value x, args := xs.toArray, argTypes := ts }, ty, pos, aft, none⟩ :: rest) a w := by
  rcases H with ⟨f, us, lb, rfl, he, hc⟩ | ⟨l, rfl, fn, tmps, asg, body, hy, hR⟩
  · exact wl_call rfl (by intro c h; cases h) (by have := X.call hE (w := w) (ts := ts) (d := some d) (ty := ty) (pos := pos) (aft := aft) he hx hxs; simpa using this) hc fun e w' hR => by
      obtain ⟨v, rfl, hv⟩ := next e w' hR
      exact ⟨v, rfl, hv _ (hE.put hN v)⟩
  · exact wl_round rfl (by intro c h; cases h) (X.yield hE hx hxs hy) hR fun e w' hR => by
      obtain ⟨v, rfl, hv⟩ := next e w' hR
      exact ⟨v, rfl, hv _ (hE.put hN v)⟩
theorem Sat.callV0 (hE : Sat ds N E a) {x : Operand} {xs : List Operand} {v : Value} {vs : List Value} {ts} {R : Ending → World → Prop} {ty : TypeId} {pos : String} {aft : Array Edge}
    (hx : Go.VB.ev E x = some v) (hxs : Go.VB.evL E xs = some vs) (H : CallV P v vs w R)
    (next : ∀ e w', R e w' → ∃ v, e = .returned v ∧ ∀ a', Sat ds N E a' → WL ro P ops Q rest a' w') : WL ro P ops Q (⟨none, .call { callee := .value x, args := xs.toArray, argTypes := ts }, ty, pos, aft, none⟩ :: rest) a w := by
  rcases H with ⟨f, us, lb, rfl, he, hc⟩ | ⟨l, rfl, fn, tmps, asg, body, hy, hR⟩
  · exact wl_call rfl (by intro c h; cases h) (by have := X.call hE (w := w) (ts := ts) (d := none) (ty := ty) (pos := pos) (aft := aft) he hx hxs; simpa using this) hc fun e w' hR => by
      obtain ⟨v, rfl, hv⟩ := next e w' hR
      exact ⟨v, rfl, hv _ hE⟩
  · exact wl_round rfl (by intro c h; cases h) (X.yield hE hx hxs hy) hR fun e w' hR => by
      obtain ⟨v, rfl, hv⟩ := next e w' hR
      exact ⟨v, rfl, hv _ hE⟩
end

/-- Where no depth is asked the figures are one. -/
theorem room_any (ro : Option Nat) (k : Nat) : (FW ro).room k := fun d h => by simp [FW, Fence.wide] at h
theorem wpIn_any {ro : Option Nat} {n m : Nat} {P : Program} {c : Code} {Q : Exit → Act → World → Prop} {a : Act} {w : World} (h : c.wpIn (FW ro) n P Q a w) : c.wpIn (FW ro) m P Q a w :=
  fun b k cs h1 h2 _ => h b k cs h1 h2 (room_any ro _)
abbrev mark (D : Nat) : Deferred := { target := .collected D, args := #[] }
/-- What an iterator's value gives. -/
def SeqAt {α : Type} (P : Program) (v : Value) (encs : α → List Value) (Kp : World → World → Prop) (S Sp : List α → Prop) (Num : Nat) (w : World) : Prop :=
  ∃ (gf : FuncId) (lb : List Value), v = .func (.func gf) #[] lb.toArray ∧ Ent P gf ∧ SeqStopsK (FW none) 0 P gf lb.toArray (fun x => (encs x).toArray) Kp S Sp Num w
structure RangeOk {α : Type} (P : Program) (v : Value) (encs : α → List Value) (Kp : World → World → Prop) (S Sp : List α → Prop) (Num : Nat) (I Ir : List α → World → Prop) (w : World) : Prop where
  seq : SeqAt P v encs Kp S Sp Num w
  kt : ∀ A B C : World, Kp A B → Kp B C → Kp A C
  kb : ∀ (W : World) (l : Nat) (o o' : Obj), w.heap.size ≤ l → W.heap[l]? = some o → o.isCells = false → o.isWalk = false → Kp W (W.putObj l o')
  ka : ∀ pre (W : World) (o : Obj), I pre W → Kp W (W.alloc o)
  own : OwnFrom w.heap.size I
  ownr : OwnFrom w.heap.size Ir
  lo : ∀ pre W, I pre W → w.heap.size ≤ W.heap.size
  start : I [] w
/-- How a round's body is left. -/
def roundOut (j : Option Code) (goes leave : World → Prop) : Exit → Act → World → Prop
  | .normal, _, W => goes W
  | .ret, _, W => j = some .ret ∧ leave W
  | .exit id, _, W => j = some (.exit id) ∧ leave W
  | _, _, _ => False
section
variable {P : Program} {Q : Exit → Act → World → Prop} {N : Nat} {E : Env} {a : Act} {w : World}
/-- One loop variable, in a block of its own each round; the body goes on, or leaves by the jump j. -/
theorem C.range1 {τ : Type} (enc : τ → Value) (cells : τ → List Value) (j : Option Code) {g : Operand} {p s : Nat} {t : TypeId} {v : Value} {body : Code} {id : Nat} {ty ty' : TypeId} {pos pos' : String} {aft aft' : Array Edge}
    {Kp : World → World → Prop} {S Sp : List τ → Prop} {Num : Nat} {I Ir : List τ → World → Prop}
    (hE : Sat [] N E a) (hg : ev E g = some v) (hR : RangeOk P v (fun x : τ => [enc x]) Kp S Sp Num I Ir w)
    (hnew : ∀ x W (k : Option Addr → World → Prop), k (some ⟨W.heap.size, 0, none⟩) (W.alloc (.cells (cells x).toArray t)) → opE P Value.pointer (Instr.alloc t true (.tuple #[])) W (fun p W => opU P (Instr.storeAt t (.pointer p) (enc x)) W (k p)))
    (hp : Nat.blt p N = true) (hs : Nat.blt s N = true) (hsp : Nat.beq s p = false)
    (hbody : ∀ (l : Nat) (pre : List τ) (x : τ) (Bx : Nat) (W : World) (a : Act), w.heap.size ≤ Bx → W.heap[Bx]? = some (.cells (cells x).toArray t) → I pre W → pre.length < Num →
      Sat [] N ((s, .pointer (some ⟨Bx, 0, none⟩)) :: (p, enc x) :: E) a →
      WC (some l) P body (roundOut j (fun W' => KeepsFrom w.heap.size W W' ∧ Kp W W' ∧ I (pre ++ [x]) W') (fun W' => KeepsFrom w.heap.size W W' ∧ Ir (pre ++ [x]) W')) a W)
    (hdone : ∀ (D : Nat) (xs : List τ) (W : World) (a : Act), w.heap.size ≤ D → S xs → I xs W → W.heap[D]? = some (.deferred (some [])) → Sat [mark D] N E a → Q .normal a W)
    (hstop : ∀ (D : Nat) (c : Code) (pre : List τ) (W : World) (a : Act), j = some c → w.heap.size ≤ D → Sp pre → Ir pre W → W.heap[D]? = some (.deferred (some [])) → Sat [mark D] N E a → WC none P c Q a W) :
    WC none P (.rangeFunc g #[p] (.region id [⟨some s, .alloc t, ty, pos, aft, none⟩, ⟨none, .store t (.tmp s) (.tmp p), ty', pos', aft', none⟩].toArray false) body) Q a w := by
  obtain ⟨gf, lb, rfl, he, hseq⟩ := hR.seq
  have hd : a.defers = [] := hE.defs
  have hmk : ∀ D, Sat [mark D] N E { a with defers := { target := .collected D, args := #[] } :: a.defers } := fun D => ⟨hE.size, hE.vals, by simp [hd]⟩
  refine wpIn_any (n := 1) (wpIn_rangeFunc_ownH (F := FW none) (n := 1) rfl (Nat.le_refl 1) (gf := gf) (lb := lb.toArray) (hE.ev hg) trivial he hseq (fun h1 h2 => hR.kt _ _ _ h1 h2) hR.kb (Go.RowKit.Below.refl _ _) (fun _ => rfl)
    I (fun c pre W => j = some c ∧ Ir pre W) hR.own (fun c s A B row hs hg' hr => ⟨hs.1, hR.ownr s A B row hs.2 hg' hr⟩) hR.start
    (fun x a' W => ∃ Bx, w.heap.size ≤ Bx ∧ W.heap[Bx]? = some (.cells (cells x).toArray t) ∧ Sat [] N ((s, .pointer (some ⟨Bx, 0, none⟩)) :: (p, enc x) :: E) a')
    (fun x a' _ A B row hs hg' hr => ?_) ?_ ?_ ?_ ?_)
  · obtain ⟨Bx, h1, h2, h3⟩ := hs
    refine ⟨Bx, h1, (hg'.block Bx (Array.getElem?_eq_some_iff.1 h2).1 (fun e => ?_)).trans h2, h3⟩
    obtain ⟨_, o, ho, hc⟩ := hr Bx e.symm
    rw [h2] at ho; cases ho; simp [Obj.isCells] at hc
  · intro l pre x W K hI hK
    have hSat : Sat [] N ((p, enc x) :: E) { tmps := ((#[p] : Array Tmp).zip #[enc x]).foldl (fun t (p, v) => t.setIfInBounds p v) a.tmps, defers := [] } := by
      have := Sat.put (⟨hE.size, hE.vals, rfl⟩ : Sat [] N E { a with defers := [] }) hp (enc x)
      simpa [Act.put] using this
    refine C.region (ro := some l) ?_
    have hop := hnew x W (fun q W1 => ∃ Bx, q = some ⟨Bx, 0, none⟩ ∧ Bx = W.heap.size ∧ W1 = W.alloc (.cells (cells x).toArray t)) ⟨_, rfl, rfl, rfl⟩
    refine hSat.val (enc := Value.pointer) X.alloc (by intro c h; cases h) hs hop fun q W1 a1 hk hS1 => ?_
    have hq : ev ((s, Value.pointer q) :: (p, enc x) :: E) (.tmp s) = some (.pointer q) := by
      show (bif Nat.beq s s then _ else _) = _
      simp
    have hq2 : ev ((s, Value.pointer q) :: (p, enc x) :: E) (.tmp p) = some (enc x) := by
      show (bif Nat.beq s p then _ else _) = _
      rw [hsp]
      show (bif Nat.beq p p then _ else _) = _
      simp
    refine hS1.unit (X.store hS1 hq hq2) (by intro c h; cases h) hk fun W2 a2 hk2 hS2 => ?_
    obtain ⟨Bx, rfl, rfl, rfl⟩ := hk2
    refine C.nil (hK _ _ ((KeepsOthers.alloc _ _).from _) (hR.ka pre W _ hI) ?_ ⟨W.heap.size, hR.lo pre W hI, World.alloc_heap_new _ _, hS2⟩)
    exact hR.own.alloc _ hI
  · rintro l pre x a' W hl _ hI ⟨Bx, h1, h2, h3⟩ hlen
    refine wpIn_mono (hbody l pre x Bx W a' h1 h2 hI hlen h3) fun e a3 W3 h => ?_
    cases e with
    | normal => exact h
    | ret => exact ⟨h.2.1, h.1, h.2.2⟩
    | exit id => exact ⟨h.2.1, h.1, h.2.2⟩
    | goto t => exact h.elim
    | panic ch => exact h.elim
    | outgrown => exact h.elim
  · exact fun D xs W hD hS hI hK => hdone D xs W _ hD hS hI hK (hmk D)
  · exact fun D c pre W hD hS hI hK => wpIn_any (hstop D c pre W _ hI.1 hD hS hI.2 hK (hmk D))
/-- What is handed back: temporaries, or what lies in cells. -/
def resV (P : Program) (E : Env) (w : World) : List ResultVar → List Value → Prop
  | [], [] => True
  | .tmp t :: rs, v :: vs => lk E t = some v ∧ resV P E w rs vs
  | .cell b t :: rs, v :: vs => (∃ ad, lk E b = some (.pointer (some ad)) ∧ (loadVar t ad).run P w = .ok v w) ∧ resV P E w rs vs
  | _, _ => False
def tupOf : List Value → Value
  | [v] => v
  | vs => .tuple vs.toArray
def resF (a : Act) : ResultVar → Sem Value
  | .tmp t => Pure.pure (a.tmps.getD t undef)
  | .cell b t => do loadVar t (← asAddr (a.tmps.getD b undef))
theorem run_resV {ds : List Deferred} (hE : Sat ds N E a) : ∀ {rs : List ResultVar} {vs : List Value}, resV P E w rs vs → (rs.mapM (resF a)).run P w = .ok vs w
  | [], [], _ => by simp
  | .tmp t :: rs, v :: vs, h => by
    have h1 := hE.vals t v h.1
    simp only [List.mapM_cons, resF, h1, Sem.run_bind, Sem.run_pure, Result.andThen_ok, run_resV hE h.2]
  | .cell b t :: rs, v :: vs, h => by
    obtain ⟨⟨ad, h1, h2⟩, h3⟩ := h
    have h4 := hE.vals b _ h1
    simp [resF, h4, asAddr, h2, run_resV hE h3]
theorem run_results {ds : List Deferred} (hE : Sat ds N E a) {fn : Func} {rs : List ResultVar} {vs : List Value} (hr : fn.results = rs.toArray) (h : resV P E w rs vs) : (results fn a.tmps).run P w = .ok (tupOf vs) w := by
  have h1 := run_resV hE h
  have h2 : results fn a.tmps = (do let vs ← rs.toArray.mapM (resF a); pure (if h : vs.size = 1 then vs[0] else .tuple vs)) := by
    unfold results; rw [hr]; rfl
  rw [h2, List.mapM_toArray, map_eq_pure_bind]
  simp only [Sem.run_bind, h1, Result.andThen_ok, Sem.run_pure]
  congr 1
  match vs with
  | [] => rfl
  | [v] => rfl
  | v :: v' :: vs => simp [tupOf]
/-- A function with a range over a function. -/
theorem C.enterM {f : FuncId} {fn : Func} {c : Code} {args : List Value} {R : Ending → World → Prop} (N : Nat) (E : Env)
    (hf : P.funcs[f]? = some fn) (hb : fn.body = some c) (hN : fn.ntmps = N) (hle : Nat.ble args.length N = true)
    (hz : zipE 0 args = E)
    (h : ∀ a, Sat [] N E a → WC none P c (bodyPostM (FW none) 0 P fn R) a w) : Cl P f args.toArray w R := by
  subst hN
  exact callsIn_of_wp_marks hf hb trivial (h _ (Sat.enter args.toArray (by simpa using hle) (by intro t v hv; rw [← hz] at hv; simpa using (zipE_lk args 0 t v hv).2))) rfl
theorem C.retC {fn : Func} {R : Ending → World → Prop} (hE : Sat [] N E a) {rs : List ResultVar} {vs : List Value} (hr : fn.results = rs.toArray) (hv : resV P E w rs vs) (h : R (.returned (tupOf vs)) w) : bodyPost P fn R .ret a w :=
  ⟨hE.defs, _, run_results hE hr hv, h⟩
theorem C.retM0 {fn : Func} {R : Ending → World → Prop} (hE : Sat [] N E a) {rs : List ResultVar} {vs : List Value} (hr : fn.results = rs.toArray) (hv : resV P E w rs vs) (h : R (.returned (tupOf vs)) w) : bodyPostM (FW none) 0 P fn R .ret a w := by
  show LeavesInM _ _ _ _ _ _ a.defers _ _
  rw [hE.defs]
  exact ⟨_, run_results hE hr hv, h⟩
/-- Behind a loop's mark. -/
def afterM (D : Nat) (w : World) (k : World → Prop) : Prop := w.heap[D]? = some (.deferred (some [])) ∧ k (w.putObj D (.deferred none))
theorem C.retM1 {fn : Func} {R : Ending → World → Prop} {D : Nat} (hE : Sat [mark D] N E a) {rs : List ResultVar} {vs : List Value} (hr : fn.results = rs.toArray) (hD : w.heap[D]? = some (.deferred (some []))) (hv : resV P E (w.putObj D (.deferred none)) rs vs) (h : R (.returned (tupOf vs)) (w.putObj D (.deferred none))) : bodyPostM (FW none) 0 P fn R .ret a w := by
  show LeavesInM _ _ _ _ _ _ a.defers _ _
  rw [hE.defs]
  exact ⟨by simp, .inl ⟨_, _, rfl, run_takeDeferred hD, ⟨_, run_results hE hr hv, h⟩⟩⟩
end

/-- A result's cell is read. -/
def opR {τ : Type} (P : Program) (enc : τ → Value) (t : TypeId) (p : Option Addr) (w : World) (k : τ → Prop) : Prop := ∃ x ad, p = some ad ∧ (loadVar t ad).run P w = .ok (enc x) w ∧ k x
/-- A range over a function with one loop variable. -/
def RangeV {τ : Type} (P : Program) (v : Value) (enc : τ → Value) (t : TypeId) (w : World) (body : τ → Option Addr → World → (World → Prop) → (World → Prop) → Prop) (rest stop : Nat → World → Prop) : Prop :=
  ∃ (cells : τ → List Value) (Kp : World → World → Prop) (S Sp : List τ → Prop) (Num : Nat) (I Ir : List τ → World → Prop), RangeOk P v (fun x : τ => [enc x]) Kp S Sp Num I Ir w ∧
    (∀ x W (k : Option Addr → World → Prop), k (some ⟨W.heap.size, 0, none⟩) (W.alloc (.cells (cells x).toArray t)) → opE P Value.pointer (Instr.alloc t true (.tuple #[])) W (fun p W => opU P (Instr.storeAt t (.pointer p) (enc x)) W (k p))) ∧
    (∀ pre x Bx W, w.heap.size ≤ Bx → W.heap[Bx]? = some (.cells (cells x).toArray t) → I pre W → pre.length < Num →
      body x (some ⟨Bx, 0, none⟩) W (fun W' => KeepsFrom w.heap.size W W' ∧ Kp W W' ∧ I (pre ++ [x]) W') (fun W' => KeepsFrom w.heap.size W W' ∧ Ir (pre ++ [x]) W')) ∧
    (∀ D xs W, w.heap.size ≤ D → S xs → I xs W → W.heap[D]? = some (.deferred (some [])) → rest D W) ∧
    (∀ D pre W, w.heap.size ≤ D → Sp pre → Ir pre W → W.heap[D]? = some (.deferred (some [])) → stop D W)

section
variable {P : Program} {Q : Exit → Act → World → Prop} {N : Nat} {E : Env} {a : Act} {w : World}
/-- One loop variable, in no block. -/
theorem C.range1m {τ : Type} (enc : τ → Value) (j : Option Code) {g : Operand} {p s : Nat} {v : Value} {body : Code} {id : Nat} {ty : TypeId} {pos : String} {aft : Array Edge}
    {Kp : World → World → Prop} {S Sp : List τ → Prop} {Num : Nat} {I Ir : List τ → World → Prop}
    (hE : Sat [] N E a) (hg : ev E g = some v) (hR : RangeOk P v (fun x : τ => [enc x]) Kp S Sp Num I Ir w)
    (hkr : ∀ W, Kp W W)
    (hp : Nat.blt p N = true) (hs : Nat.blt s N = true)
    (hbody : ∀ (l : Nat) (pre : List τ) (x : τ) (W : World) (a : Act), I pre W → pre.length < Num → Sat [] N ((s, enc x) :: (p, enc x) :: E) a →
      WC (some l) P body (roundOut j (fun W' => KeepsFrom w.heap.size W W' ∧ Kp W W' ∧ I (pre ++ [x]) W') (fun W' => KeepsFrom w.heap.size W W' ∧ Ir (pre ++ [x]) W')) a W)
    (hdone : ∀ (D : Nat) (xs : List τ) (W : World) (a : Act), w.heap.size ≤ D → S xs → I xs W → W.heap[D]? = some (.deferred (some [])) → Sat [mark D] N E a → Q .normal a W)
    (hstop : ∀ (D : Nat) (c : Code) (pre : List τ) (W : World) (a : Act), j = some c → w.heap.size ≤ D → Sp pre → Ir pre W → W.heap[D]? = some (.deferred (some [])) → Sat [mark D] N E a → WC none P c Q a W) :
    WC none P (.rangeFunc g #[p] (.region id [⟨some s, .assign (.tmp p), ty, pos, aft, none⟩].toArray false) body) Q a w := by
  obtain ⟨gf, lb, rfl, he, hseq⟩ := hR.seq
  have hd : a.defers = [] := hE.defs
  have hmk : ∀ D, Sat [mark D] N E { a with defers := { target := .collected D, args := #[] } :: a.defers } := fun D => ⟨hE.size, hE.vals, by simp [hd]⟩
  refine wpIn_any (n := 1) (wpIn_rangeFunc_ownH (F := FW none) (n := 1) rfl (Nat.le_refl 1) (gf := gf) (lb := lb.toArray) (hE.ev hg) trivial he hseq (fun h1 h2 => hR.kt _ _ _ h1 h2) hR.kb (Go.RowKit.Below.refl _ _) (fun _ => rfl)
    I (fun c pre W => j = some c ∧ Ir pre W) hR.own (fun c s A B row hs hg' hr => ⟨hs.1, hR.ownr s A B row hs.2 hg' hr⟩) hR.start
    (fun x a' W => Sat [] N ((s, enc x) :: (p, enc x) :: E) a')
    (fun x a' _ A B row hs hg' hr => hs) ?_ ?_ ?_ ?_)
  · intro l pre x W K hI hK
    have hSat : Sat [] N ((p, enc x) :: E) { tmps := ((#[p] : Array Tmp).zip #[enc x]).foldl (fun t (p, v) => t.setIfInBounds p v) a.tmps, defers := [] } := by
      have := Sat.put (⟨hE.size, hE.vals, rfl⟩ : Sat [] N E { a with defers := [] }) hp (enc x)
      simpa [Act.put] using this
    refine C.region (ro := some l) ?_
    have hq : ev ((p, enc x) :: E) (.tmp p) = some (enc x) := by
      show (bif Nat.beq p p then _ else _) = _
      simp
    refine hSat.pur (X.assign hSat hq) (fun a1 hS1 => C.nil (hK _ _ (KeepsFrom.refl _ _) (hkr _) hI hS1)) (hN := hs)
  · rintro l pre x a' W hl _ hI h3 hlen
    refine wpIn_mono (hbody l pre x W a' hI hlen h3) fun e a3 W3 h => ?_
    cases e with
    | normal => exact h
    | ret => exact ⟨h.2.1, h.1, h.2.2⟩
    | exit id => exact ⟨h.2.1, h.1, h.2.2⟩
    | goto t => exact h.elim
    | panic ch => exact h.elim
    | outgrown => exact h.elim
  · exact fun D xs W hD hS hI hK => hdone D xs W _ hD hS hI hK (hmk D)
  · exact fun D c pre W hD hS hI hK => wpIn_any (hstop D c pre W _ hI.1 hD hS hI.2 hK (hmk D))
end
def RangeVm {τ : Type} (P : Program) (v : Value) (enc : τ → Value) (w : World) (body : τ → World → (World → Prop) → (World → Prop) → Prop) (rest stop : Nat → World → Prop) : Prop :=
  ∃ (Kp : World → World → Prop) (S Sp : List τ → Prop) (Num : Nat) (I Ir : List τ → World → Prop), RangeOk P v (fun x : τ => [enc x]) Kp S Sp Num I Ir w ∧ (∀ W, Kp W W) ∧
    (∀ pre x W, I pre W → pre.length < Num → body x W (fun W' => KeepsFrom w.heap.size W W' ∧ Kp W W' ∧ I (pre ++ [x]) W') (fun W' => KeepsFrom w.heap.size W W' ∧ Ir (pre ++ [x]) W')) ∧
    (∀ D xs W, w.heap.size ≤ D → S xs → I xs W → W.heap[D]? = some (.deferred (some [])) → rest D W) ∧
    (∀ D pre W, w.heap.size ≤ D → Sp pre → Ir pre W → W.heap[D]? = some (.deferred (some [])) → stop D W)

/-- A call of a function value in a region that draws its order. -/
def CallQ (P : Program) (v : Value) (args : List Value) (w : World) (x : Value) : Prop :=
  ∃ (f : FuncId) (us lb : List Value), v = .func (.func f) us.toArray lb.toArray ∧ Ent P f ∧ ∀ w', Bel w w' → Cl P f (us ++ args ++ lb).toArray w' (fun e w'' => e = .returned x ∧ Bel w' w'')
theorem Sat.qcallV {P : Program} {ops : Array Oper} {ds : List Deferred} {N : Nat} {E : Env} {a : Act} {w : World} {rest : List Oper} {K : Act → Prop} (hE : Sat ds N E a) {x : Operand} {xs : List Operand} {v u : Value} {vs : List Value} {ts} {ty : TypeId} {pos : String} {aft : Array Edge} {d : Nat}
    (hx : Go.VB.ev E x = some v) (hxs : Go.VB.evL E xs = some vs) (H : CallQ P v vs w u)
    (next : ∀ a', Sat ds N ((d, u) :: E) a' → WQ P ops w K rest a') (hN : Nat.blt d N = true := by rfl) : WQ P ops w K (⟨some d, .call { callee := .value x, args := xs.toArray, argTypes := ts }, ty, pos, aft, none⟩ :: rest) a := by
  obtain ⟨f, us, lb, rfl, he, hc⟩ := H
  refine q_call rfl (fun w' => ?_) hc (next _ (hE.put hN u))
  have := X.call hE (w := w') (ts := ts) (d := some d) (ty := ty) (pos := pos) (aft := aft) he hx hxs
  simpa using this

end Go.VB
