/- Regions that draw their order, where some operations only look at what the region leaves alone; ranges over a function with two loop variables; no condition. -/
import Derived.Test.YtealcoghiaeiiaaVBase
set_option linter.unusedVariables false
set_option linter.unusedSimpArgs false
namespace Go.VB

section
variable {P : Program} {ops : Array Oper} {Q : Exit → Act → World → Prop} {C : World → Prop} {fuel : Nat} {listed l2 l3 : Array Bool} {a : Act} {w : World}
/-- Every order, and between two operations the world is one of a class. -/
def WK (C : World → Prop) (P : Program) (ops : Array Oper) (Q : Exit → Act → World → Prop) : Nat → Array Bool → Act → World → Prop
  | 0, listed, a, w => Region.ready .any ops listed = [] ∧ Q .normal a w
  | fuel + 1, listed, a, w => (Region.ready .any ops listed = [] → Q .normal a w) ∧ ∀ i ∈ Region.ready .any ops listed,
      wpOpIn (FW none) 0 P ops Q i (fun a' w' => C w' ∧ WK C P ops Q fuel (listed.setIfInBounds i true) a' w') a w
theorem WK.any : ∀ (fuel : Nat) (listed : Array Bool) (a : Act) (w : World), WK C P ops Q fuel listed a w → WA P ops Q fuel listed a w
  | 0, _, _, _, h => h
  | fuel + 1, _, _, _, h => ⟨h.1, fun i hi => wpOpIn_mono (fun a' w' h' => WK.any fuel _ a' w' h'.2) (h.2 i hi)⟩
/-- How an operation may turn the frame. -/
theorem op_shape {i : Nat} {o : Oper} {K : Act → World → Prop} (hi : ops[i]? = some o) (h : wpOpIn (FW none) 0 P ops Q i K a w) :
    wpOpIn (FW none) 0 P ops Q i (fun a' w' => (∃ u ds, a' = { a.put o.dst u with defers := ds }) ∧ K a' w') a w := by
  have sh : ∀ u, ∃ u' ds, a.put o.dst u = { a.put o.dst u' with defers := ds } := fun u => ⟨u, (a.put o.dst u).defers, rfl⟩
  unfold wpOpIn at *
  simp only [hi] at *
  split
  · rename_i hw
    rw [if_pos hw] at h
    unfold Oper.wpIn at *
    refine ⟨h.1, ?_⟩
    have h2 := h.2
    generalize (o.semAt (FW none).round a.eval).run P w = r at h2 ⊢
    cases r with
    | halt x w' => cases x <;> exact h2
    | ok x w' =>
      cases x with
      | value u => exact ⟨sh u, h2⟩
      | skip => exact ⟨sh _, h2⟩
      | defer d => exact ⟨⟨undef, d :: a.defers, by cases hd : o.dst <;> rfl⟩, h2⟩
      | enter f args => exact ⟨h2.1, CallsIn.mono h2.2 fun e w'' he => by cases e <;> first | exact ⟨sh _, he⟩ | exact he⟩
      | row r args => exact ⟨h2.1, RowsIn.mono h2.2 fun u w'' he => ⟨sh u, he⟩⟩
      | round l f ts as bd => exact ⟨h2.1, RoundIn.mono h2.2 fun e w'' he => by cases e <;> first | exact ⟨sh _, he⟩ | exact he⟩
      | _ => exact h2
  · rename_i hw
    rw [if_neg hw] at h
    exact ⟨h.1, sh _, h.2⟩
/-- In each world of the class the operation gives one value, and it leaves the world as it is. -/
structure Looks (C : World → Prop) (P : Program) (o : Oper) (v : Value) (a : Act) : Prop where
  run : ∀ w, C w → (execOp a.eval o).run P w = .ok (.value v) w
theorem Looks.same {o : Oper} {v : Value} {a a' : Act} (h : Looks C P o v a) (he : execOp a'.eval o = execOp a.eval o) : Looks C P o v a' := ⟨fun w hw => by rw [he]; exact h.run w hw⟩
theorem Looks.op {i : Nat} {o : Oper} {v : Value} (hi : ops[i]? = some o) (hg : o.guard = none) (h : Looks C P o v a) (hw : C w) {K : Act → World → Prop} (hK : K (a.put o.dst v) w) : wpOpIn (FW none) 0 P ops Q i K a w := by
  unfold wpOpIn
  simp only [hi]
  rw [if_pos (by simp [Region.wanted, hg])]
  unfold Oper.wpIn
  refine ⟨fun _ _ => trivial, ?_⟩
  rw [show (FW none).round = none from rfl, Oper.semAt_none, h.run w hw]
  exact hK
theorem moved {oi oj : Oper} {v : Value} {j : Nat} (hj : ops[j]? = some oj) (hap : oi.apart ops oj = true) (hsi : ∀ cs b, oi.op ≠ .select cs b) (hsj : ∀ cs b, oj.op ≠ .select cs b)
    (hQ : ∀ c a w, Q (.panic c) (a.put oi.dst v) w → Q (.panic c) a w) {K : Act → World → Prop} (hL : Looks C P oi v a) (h : wpOpIn (FW none) 0 P ops Q j K (a.put oi.dst v) w) :
    wpOpIn (FW none) 0 P ops Q j (fun a' w' => Looks C P oi v a' ∧ K (a'.put oi.dst v) w') a w := by
  obtain ⟨h1, h2, h3⟩ := Oper.apart_spec hap
  have hfake : Oper.apart ops { oi with op := .move (.const v), guard := none } oj = true := by
    unfold Oper.apart
    simp only [Bool.and_eq_true]
    refine ⟨?_, ?_⟩
    · cases hd : oi.dst with
      | none => rfl
      | some d => simpa [hd] using ⟨h1 d hd, h2 d hd⟩
    · cases hd : oj.dst with
      | none => rfl
      | some d => simp [Oper.looksAt, Op.operands]
  have h4 := wpOpIn_put (oi := { oi with op := .move (.const v), guard := none }) (F := FW none) rfl hj hfake (by intro cs b h; cases h) hsj hQ (a := a) (w := w) (K := K)
    ⟨.inl ⟨by simp [Region.wanted], fun w => rfl⟩, fun w => rfl⟩ h
  refine wpOpIn_mono (fun a' w' hh => ?_) (op_shape hj h4)
  obtain ⟨⟨u, ds, rfl⟩, _, hk⟩ := hh
  exact ⟨hL.same (execOp_put oi hsi a oj.dst u h3), hk⟩
theorem WK.first {i : Nat} {oi : Oper} {v : Value} (hi : ops[i]? = some oi) (hg : oi.guard = none) (hs : ∀ (j : Nat) (o : Oper) cs b, ops[j]? = some o → o.op ≠ .select cs b)
    (hQ : ∀ c a w, Q (.panic c) (a.put oi.dst v) w → Q (.panic c) a w) : ∀ (fuel : Nat) (listed : Array Bool) (a : Act) (w : World),
    (∀ j oj, ops[j]? = some oj → j ≠ i → listed.getD j true = false → (∀ e ∈ oj.after, Region.binds .any e = true → e.on ≠ i) → oi.apart ops oj = true) →
    i ∈ Region.ready .any ops listed → Looks C P oi v a → C w → WK C P ops Q fuel (listed.setIfInBounds i true) (a.put oi.dst v) w → WK C P ops Q (fuel + 1) listed a w := by
  intro fuel
  induction fuel with
  | zero =>
    intro listed a w _ hr hL hw H
    refine ⟨fun h => (by rw [h] at hr; cases hr), fun j hj => ?_⟩
    by_cases hji : j = i
    · subst hji; exact hL.op hi hg hw ⟨hw, H⟩
    · have h1 := ready_mono hj hji
      rw [H.1] at h1; cases h1
  | succ fuel ih =>
    intro listed a w hfree hr hL hw H
    refine ⟨fun h => (by rw [h] at hr; cases hr), fun j hj => ?_⟩
    by_cases hji : j = i
    · subst hji; exact hL.op hi hg hw ⟨hw, H⟩
    obtain ⟨hjun, oj, hoj, hall⟩ := mem_ready.1 hj
    have hi0 := (mem_ready.1 hr).1
    have hnot : ∀ e ∈ oj.after, Region.binds .any e = true → e.on ≠ i := fun e he hb heq => by
      have h1 := hall e he hb
      rw [heq] at h1
      rcases Nat.lt_or_ge i listed.size with h' | h'
      · simp [h'] at hi0 h1; rw [hi0] at h1; cases h1
      · simp [Array.getElem?_eq_none h'] at h1
    have h2 := moved hoj (hfree j oj hoj hji hjun hnot) (fun cs b => hs i oi cs b hi) (fun cs b => hs j oj cs b hoj) hQ hL (H.2 j (ready_mono hj hji))
    refine wpOpIn_mono (fun a' w' h3 => ?_) h2
    obtain ⟨hL', hC', hK'⟩ := h3
    have hri : i ∈ Region.ready .any ops (listed.setIfInBounds j true) := ready_mono hr (Ne.symm hji)
    rw [Array.setIfInBounds_comm _ _ (Ne.symm hji)] at hK'
    refine ⟨hC', ih _ a' w' (fun k ok hk hki hun hno => hfree k ok hk hki ?_ hno) hri hL' hC' hK'⟩
    by_cases hjk : j = k
    · subst hjk; exact hjun
    · rw [getD_set_ne true hjk] at hun; exact hun
end

section
variable {P : Program} {ops : Array Oper} {ds : List Deferred} {N : Nat} {E : Env} {a : Act} {w : World} {Q : Exit → Act → World → Prop} {fuel : Nat} {listed l2 l3 : Array Bool} {C : World → Prop}
/-- A value that every world of the class gives alike. -/
def opC {τ : Type} (C : World → Prop) (P : Program) (enc : τ → Value) (s : Sem Value) (k : τ → Prop) : Prop := ∃ x, (∀ w, C w → s.run P w = .ok (enc x) w) ∧ k x
/-- A region of this kind begins: its class is named. -/
def regC (w : World) (k : (World → Prop) → World → Prop) : Prop := ∃ C : World → Prop, ∀ w', Bel w w' → C w' ∧ k C w'
theorem C.cls {id : Nat} {l : List Oper} {k : (World → Prop) → World → Prop} (H : regC w k) (n : Nat) (l2 : Array Bool) (hm : P.follows .mixedOrders = true)
    (h : ∀ C w', C w' → k C w' → WK C P l.toArray Q n l2 a w') (hn : l.toArray.size = n := by rfl) (hl : Array.replicate n false = l2 := by rfl) : WC none P (.region id l.toArray true) Q a w := by
  subst hn; subst hl
  obtain ⟨C, hC⟩ := H
  obtain ⟨h1, h2⟩ := hC _ (Bel.draw w)
  exact wpIn_region_any hm (WK.any _ _ _ _ (h C _ h1 h2))
theorem WK.take {i d : Nat} {o : Oper} {v : Value} (hd : o.dst = some d) (hg : o.guard = none) (hq : PanicQ Q) (hs : Region.noSelect ops = true) (hi : ops[i]? = some o) (hf : Region.free .any ops listed i = true) (hr : (Region.ready .any ops listed).contains i = true)
    (hl : listed.setIfInBounds i true = l2) (hC : C w) (hL : Looks C P o v a) (h : WK C P ops Q fuel l2 (a.put o.dst v) w) : WK C P ops Q (fuel + 1) listed a w := by
  subst hl
  exact WK.first hi hg (Region.noSelect_spec hs) (fun c a w => by rw [hd]; exact hq c a w d v) fuel listed a w (Region.free_spec hi hf) (by simpa using hr) hL hC h
theorem WK.nil (hr : Region.ready .any ops listed = []) (h : Q .normal a w) : WK C P ops Q fuel listed a w := by
  cases fuel with
  | zero => exact ⟨hr, h⟩
  | succ f => exact ⟨fun _ => h, by rw [hr]; simp⟩
theorem wo_op {i : Nat} {o : Oper} {K : Act → World → Prop} (hi : ops[i]? = some o) (h : WO P ops Q o K a w) : wpOpIn (FW none) 0 P ops Q i K a w := by
  unfold wpOpIn
  simp only [hi]
  unfold WO at h
  split
  · rename_i hw; rw [if_pos hw] at h; exact h
  · rename_i hw; rw [if_neg hw] at h; exact ⟨fun _ _ => trivial, h⟩
theorem WK.one {i : Nat} {o : Oper} (hi : ops[i]? = some o) (hr : Region.ready .any ops listed = [i]) (hl : listed.setIfInBounds i true = l2)
    (h : ∀ (K : Act → World → Prop), (∀ a w, C w ∧ WK C P ops Q fuel l2 a w → K a w) → WO P ops Q o K a w) : WK C P ops Q (fuel + 1) listed a w := by
  subst hl
  refine ⟨fun h0 => (by rw [hr] at h0; cases h0), fun j hj => ?_⟩
  rw [hr] at hj
  obtain rfl : j = i := by simpa using hj
  exact wo_op hi (h _ fun _ _ h => h)
theorem WK.two {i j : Nat} {o o' : Oper} (hi : ops[i]? = some o) (hj : ops[j]? = some o') (hr : Region.ready .any ops listed = [i, j]) (hl : listed.setIfInBounds i true = l2) (hl' : listed.setIfInBounds j true = l3)
    (h : ∀ (K : Act → World → Prop), (∀ a w, C w ∧ WK C P ops Q fuel l2 a w → K a w) → WO P ops Q o K a w)
    (h' : ∀ (K : Act → World → Prop), (∀ a w, C w ∧ WK C P ops Q fuel l3 a w → K a w) → WO P ops Q o' K a w) : WK C P ops Q (fuel + 1) listed a w := by
  subst hl; subst hl'
  refine ⟨fun h0 => (by rw [hr] at h0; cases h0), fun k hk => ?_⟩
  rw [hr] at hk
  rcases List.mem_cons.1 hk with rfl | hk
  · exact wo_op hi (h _ fun _ _ h => h)
  · obtain rfl : k = j := by simpa using hk
    exact wo_op hj (h' _ fun _ _ h => h)
theorem Sat.kpur (hE : Sat ds N E a) {i : Nat} {op : Op} {ty : TypeId} {pos : String} {aft : Array Edge} {d : Nat} {v : Value} (hq : PanicQ Q) (hs : Region.noSelect ops = true) (hi : ops[i]? = some ⟨some d, op, ty, pos, aft, none⟩)
    (hf : Region.free .any ops listed i = true) (hr : (Region.ready .any ops listed).contains i = true) (hl : listed.setIfInBounds i true = l2) (hC : C w)
    (he : ∀ w, (execOp a.eval ⟨some d, op, ty, pos, aft, none⟩).run P w = .ok (.value v) w) (next : ∀ a', Sat ds N ((d, v) :: E) a' → WK C P ops Q fuel l2 a' w)
    (hN : Nat.blt d N = true := by rfl) : WK C P ops Q (fuel + 1) listed a w :=
  WK.take rfl rfl hq hs hi hf hr hl hC ⟨fun w _ => he w⟩ (next _ (hE.put hN v))
theorem Sat.kop (hE : Sat ds N E a) {i : Nat} {τ : Type} {enc : τ → Value} {s : Sem Value} {k : τ → Prop} {op : Op} {ty : TypeId} {pos : String} {aft : Array Edge} {d : Nat} (hq : PanicQ Q) (hs : Region.noSelect ops = true) (hi : ops[i]? = some ⟨some d, op, ty, pos, aft, none⟩)
    (hf : Region.free .any ops listed i = true) (hr : (Region.ready .any ops listed).contains i = true) (hl : listed.setIfInBounds i true = l2) (hC : C w)
    (he : execOp a.eval ⟨some d, op, ty, pos, aft, none⟩ = pv s) (H : opC C P enc s k) (next : ∀ x a', k x → Sat ds N ((d, enc x) :: E) a' → WK C P ops Q fuel l2 a' w)
    (hN : Nat.blt d N = true := by rfl) : WK C P ops Q (fuel + 1) listed a w := by
  obtain ⟨x, hx, hk⟩ := H
  exact WK.take rfl rfl hq hs hi hf hr hl hC ⟨fun w hw => by rw [he]; simp [hx w hw]⟩ (next x _ hk (hE.put hN _))
end

section
variable {P : Program} {ops : Array Oper} {ds : List Deferred} {N : Nat} {E : Env} {a : Act} {w : World} {Q : Exit → Act → World → Prop} {K : Act → World → Prop}
theorem wo_call {o : Oper} (hg : o.guard = none) (hnd : ∀ c, o.op ≠ .defer c) {f : FuncId} {args : Array Value} {w' : World} (hr : (execOp a.eval o).run P w = .ok (.enter f args) w')
    {R : Ending → World → Prop} (hc : Cl P f args w' R) (h : ∀ e w'', R e w'' → ∃ v, e = .returned v ∧ K (a.put o.dst v) w'') : WO P ops Q o K a w := by
  unfold WO
  rw [if_pos (by simp [Region.wanted, hg])]
  refine ⟨fun _ _ => trivial, ?_⟩
  rw [Oper.semAt_eq _ _ _ hnd, hr, Oper.uponIn_enter]
  refine ⟨fun h => by simp [FW, Fence.wide] at h, ?_⟩
  have hc' : CallsIn (FW none) 0 P f args w' R := hc
  refine CallsIn.mono hc' fun e w'' hR => ?_
  obtain ⟨v, rfl, hv⟩ := h e w'' hR
  exact hv
theorem wo_round {o : Oper} (hg : o.guard = none) (hnd : ∀ c, o.op ≠ .defer c) {l : Nat} {f : FuncId} {tmps : Array Value} {asg body : Code} (hr : (execOp a.eval o).run P w = .ok (.round l f tmps asg body) w)
    {R : Ending → World → Prop} (hc : RoundIn (FW none) 0 P l f tmps asg body w R) (h : ∀ e w'', R e w'' → ∃ v, e = .returned v ∧ K (a.put o.dst v) w'') : WO P ops Q o K a w := by
  unfold WO
  rw [if_pos (by simp [Region.wanted, hg])]
  refine ⟨fun _ _ => trivial, ?_⟩
  rw [Oper.semAt_eq _ _ _ hnd, hr, Oper.uponIn_round]
  refine ⟨fun h => by simp [FW, Fence.wide] at h, ?_⟩
  refine RoundIn.mono hc fun e w'' hR => ?_
  obtain ⟨v, rfl, hv⟩ := h e w'' hR
  exact hv
theorem Sat.wcallV (hE : Sat ds N E a) {x : Operand} {xs : List Operand} {v : Value} {vs : List Value} {ts} {R : Ending → World → Prop} {ty : TypeId} {pos : String} {aft : Array Edge} {d : Nat}
    (hx : Go.VB.ev E x = some v) (hxs : Go.VB.evL E xs = some vs) (H : CallV P v vs w R)
    (next : ∀ e w', R e w' → ∃ v, e = .returned v ∧ ∀ a', Sat ds N ((d, v) :: E) a' → K a' w')
    (hN : Nat.blt d N = true := by rfl) : WO P ops Q ⟨some d, .call { callee := .value x, args := xs.toArray, argTypes := ts }, ty, pos, aft, none⟩ K a w := by
  rcases H with ⟨f, us, lb, rfl, he, hc⟩ | ⟨l, rfl, fn, tmps, asg, body, hy, hR⟩
  · exact wo_call rfl (by intro c h; cases h) (by have := X.call hE (w := w) (ts := ts) (d := some d) (ty := ty) (pos := pos) (aft := aft) he hx hxs; simpa using this) hc fun e w' hR => by
      obtain ⟨v, rfl, hv⟩ := next e w' hR
      exact ⟨v, rfl, hv _ (hE.put hN v)⟩
  · exact wo_round rfl (by intro c h; cases h) (X.yield hE hx hxs hy) hR fun e w' hR => by
      obtain ⟨v, rfl, hv⟩ := next e w' hR
      exact ⟨v, rfl, hv _ (hE.put hN v)⟩
end

/-! ### A range over a function with two loop variables -/
section
variable {P : Program} {Q : Exit → Act → World → Prop} {N : Nat} {E : Env} {a : Act} {w : World}
theorem C.range2m {α τ σ : Type} (f : α → τ) (f' : α → σ) (enc : τ → Value) (enc' : σ → Value) (j : Option Code) {g : Operand} {p p' s s' : Nat} {v : Value} {body : Code} {id id' : Nat} {ty ty' : TypeId} {pos pos' : String} {aft aft' : Array Edge}
    {Kp : World → World → Prop} {S Sp : List α → Prop} {Num : Nat} {I Ir : List α → World → Prop}
    (hE : Sat [] N E a) (hg : ev E g = some v) (hR : RangeOk P v (fun x : α => [enc (f x), enc' (f' x)]) Kp S Sp Num I Ir w)
    (hkr : ∀ W, Kp W W)
    (hp : Nat.blt p N = true) (hp' : Nat.blt p' N = true) (hs : Nat.blt s N = true) (hs' : Nat.blt s' N = true) (h1 : Nat.beq p' p = false) (h2 : Nat.beq s p' = false)
    (hbody : ∀ (l : Nat) (pre : List α) (x : α) (W : World) (a : Act), I pre W → pre.length < Num → Sat [] N ((s', enc' (f' x)) :: (s, enc (f x)) :: (p', enc' (f' x)) :: (p, enc (f x)) :: E) a →
      WC (some l) P body (roundOut j (fun W' => KeepsFrom w.heap.size W W' ∧ Kp W W' ∧ I (pre ++ [x]) W') (fun W' => KeepsFrom w.heap.size W W' ∧ Ir (pre ++ [x]) W')) a W)
    (hdone : ∀ (D : Nat) (xs : List α) (W : World) (a : Act), w.heap.size ≤ D → S xs → I xs W → W.heap[D]? = some (.deferred (some [])) → Sat [mark D] N E a → Q .normal a W)
    (hstop : ∀ (D : Nat) (c : Code) (pre : List α) (W : World) (a : Act), j = some c → w.heap.size ≤ D → Sp pre → Ir pre W → W.heap[D]? = some (.deferred (some [])) → Sat [mark D] N E a → WC none P c Q a W) :
    WC none P (.rangeFunc g #[p, p'] (.seq (.region id [⟨some s, .assign (.tmp p), ty, pos, aft, none⟩].toArray false) (.region id' [⟨some s', .assign (.tmp p'), ty', pos', aft', none⟩].toArray false)) body) Q a w := by
  obtain ⟨gf, lb, rfl, he, hseq⟩ := hR.seq
  have hd : a.defers = [] := hE.defs
  have hmk : ∀ D, Sat [mark D] N E { a with defers := { target := .collected D, args := #[] } :: a.defers } := fun D => ⟨hE.size, hE.vals, by simp [hd]⟩
  refine wpIn_any (n := 1) (wpIn_rangeFunc_ownH (F := FW none) (n := 1) rfl (Nat.le_refl 1) (gf := gf) (lb := lb.toArray) (hE.ev hg) trivial he hseq (fun h1 h2 => hR.kt _ _ _ h1 h2) hR.kb (Go.RowKit.Below.refl _ _) (fun _ => rfl)
    I (fun c pre W => j = some c ∧ Ir pre W) hR.own (fun c s A B row hs hg' hr => ⟨hs.1, hR.ownr s A B row hs.2 hg' hr⟩) hR.start
    (fun x a' W => Sat [] N ((s', enc' (f' x)) :: (s, enc (f x)) :: (p', enc' (f' x)) :: (p, enc (f x)) :: E) a')
    (fun x a' _ A B row hs hg' hr => hs) ?_ ?_ ?_ ?_)
  · intro l pre x W K hI hK
    have hSat : Sat [] N ((p', enc' (f' x)) :: (p, enc (f x)) :: E) { tmps := ((#[p, p'] : Array Tmp).zip #[enc (f x), enc' (f' x)]).foldl (fun t (p, v) => t.setIfInBounds p v) a.tmps, defers := [] } := by
      have h3 := Sat.put (⟨hE.size, hE.vals, rfl⟩ : Sat [] N E { a with defers := [] }) hp (enc (f x))
      have h4 := Sat.put h3 hp' (enc' (f' x))
      simpa [Act.put] using h4
    refine C.seq (ro := some l) (C.region (ro := some l) ?_)
    have hq : ev ((p', enc' (f' x)) :: (p, enc (f x)) :: E) (.tmp p) = some (enc (f x)) := by
      show (bif Nat.beq p' p then _ else _) = _
      rw [h1]
      show (bif Nat.beq p p then _ else _) = _
      simp
    have hq' : ev ((s, enc (f x)) :: (p', enc' (f' x)) :: (p, enc (f x)) :: E) (.tmp p') = some (enc' (f' x)) := by
      show (bif Nat.beq s p' then _ else _) = _
      rw [h2]
      show (bif Nat.beq p' p' then _ else _) = _
      simp
    exact hSat.pur (X.assign hSat hq) (fun a1 hS1 => C.nil (tn (C.region (ro := some l) (hS1.pur (X.assign hS1 hq') (fun a2 hS2 => C.nil (hK _ _ (KeepsFrom.refl _ _) (hkr _) hI hS2)) (hN := hs'))))) (hN := hs)
  · rintro l pre x a' W hl _ hI h3 hlen
    refine wpIn_mono (hbody l pre x W a' hI hlen h3) fun e a3 W3 h => ?_
    cases e with
    | normal => exact h
    | ret => exact ⟨h.2.1, h.1, h.2.2⟩
    | exit id => exact ⟨h.2.1, h.1, h.2.2⟩
    | goto t => exact h.elim
    | panic ch => exact h.elim
    | outgrown => exact h.elim
  · exact fun D xs W hD hS hI hK => hdone D xs W _ hD hS hI hK (hmk D)
  · exact fun D c pre W hD hS hI hK => wpIn_any (hstop D c pre W _ hI.1 hD hS hI.2 hK (hmk D))
def RangeV2 {τ σ : Type} (P : Program) (v : Value) (enc : τ → Value) (enc' : σ → Value) (w : World) (body : τ → σ → World → (World → Prop) → (World → Prop) → Prop) (rest stop : Nat → World → Prop) : Prop :=
  ∃ (α : Type) (f : α → τ) (f' : α → σ) (Kp : World → World → Prop) (S Sp : List α → Prop) (Num : Nat) (I Ir : List α → World → Prop), RangeOk P v (fun x : α => [enc (f x), enc' (f' x)]) Kp S Sp Num I Ir w ∧ (∀ W, Kp W W) ∧
    (∀ pre x W, I pre W → pre.length < Num → body (f x) (f' x) W (fun W' => KeepsFrom w.heap.size W W' ∧ Kp W W' ∧ I (pre ++ [x]) W') (fun W' => KeepsFrom w.heap.size W W' ∧ Ir (pre ++ [x]) W')) ∧
    (∀ D xs W, w.heap.size ≤ D → S xs → I xs W → W.heap[D]? = some (.deferred (some [])) → rest D W) ∧
    (∀ D pre W, w.heap.size ≤ D → Sp pre → Ir pre W → W.heap[D]? = some (.deferred (some [])) → stop D W)
end
end Go.VB
