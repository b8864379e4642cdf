/- Texts by which the law's calls are walked (part 7): rules, printed conditions, contracts; no condition. -/
import Derived.TacticsIn
import Derived.TacticsInMore
import Derived.Deep.LoopGhost
import Derived.Sort.QuietThIn
import Derived.RangeFuncCalls
import Derived.RangeFuncNested
import Derived.RangeFuncLeaves
import Derived.WalkKit
import Derived.StillTail
import Derived.Test.YtealcoghiaeiiaaGreatProg
import Derived.KernelRfl
import Derived.Deep.WholeRow
import Derived.Laws.StructEq
import Derived.MapFrom
import Derived.Laws.CopyRow
import Derived.Maps.RangeRun
import Derived.Sort.Walk0
import Derived.RangeFuncBound
import Derived.Test.YtealcoghiaeiiaaGreatPkTxnNilF
set_option linter.unusedVariables false
namespace Go.Proofs.YtealcoghiaeiiaaGreat.VG
open Go.VB Go.Proofs Go.RowKit
abbrev ptrA (x : Nat) : Option Addr := some ⟨x, 0, none⟩
theorem K.look {κ ν : Type} {ek : κ → Value} {ev : ν → Value} {P : Program} {kt et mt : TypeId} {b : Nat} {f : κ → Option ν} {C : World → Prop} (h : ∀ w, C w → MapIs ek ev w b f) (K : KeyOk P kt ek) (hm : P.underlying mt = some (.map kt et)) {z : ν} (hz : ∀ w, (zeroValue et).run P w = .ok (ev z) w) (x : κ) {k : ν → Prop} (H : k ((f x).getD z)) :
    opC C P ev (Instr.lookup mt (.map (some b)) (ek x) false) k := ⟨_, fun w' hb => (h w' hb).run_look K hm hz x, H⟩
theorem at_nil (n : Int) (w : World) {k : Option Addr → Int → World → Prop} (H : k none 1 w) :
    Cl Tryz.prog fn_txn_Manager_at [.pointer none, .int .i64 n].toArray w (fun e w' => ∃ (r0 : Option Addr) (r1 : Int), e = .returned (.tuple [.pointer r0, .int .i64 r1].toArray) ∧ k r0 r1 w') := by
  refine L1_txn_Manager_at none n w k ?_
  unfold V_txn_Manager_at
  exact pnilM none ⟨fun _ => H, fun h => (nomatch h)⟩
section
variable {ρ : Own} {w : World} {b : Nat} {s : St} {vs : Sl} {mb : Nat} {g : Int → Gh}
theorem at_ok (h : MgrAt ρ w b s vs mb g) (n : Int) {k : Option Addr → Int → World → Prop} (H0 : s.tx n = none → k none 11 w) (H1 : ∀ t, s.tx n = some t → k (ptrA (g n).tb) 0 w) :
    Cl Tryz.prog fn_txn_Manager_at [.pointer (ptrA b), .int .i64 n].toArray w (fun e w' => ∃ (r0 : Option Addr) (r1 : Int), e = .returned (.tuple [.pointer r0, .int .i64 r1].toArray) ∧ k r0 r1 w') := by
  refine L1_txn_Manager_at (ptrA b) n w k ?_
  unfold V_txn_Manager_at
  refine pnilM _ ⟨fun h => (nomatch h), fun _ => ⟨trivial, ?_⟩⟩
  refine S.fld fld_txn_Manager_open one_map_int_P_txn_tx h.row.at (some mb) rfl ?_
  refine S.look h.mp key_int und_map_int_P_txn_tx zv_P_txn_tx n ?_
  cases ht : s.tx n with
  | none => exact pnilT _ ⟨fun _ => H0 ht, fun h => (nomatch h)⟩
  | some t => exact pnilT _ ⟨fun h => (nomatch h), fun _ => H1 t ht⟩
theorem now_nil (w : World) {k : Int → World → Prop} (H : k 0 w) : Cl Tryz.prog fn_txn_Manager_Now [.pointer none].toArray w (fun e w' => ∃ r0 : Int, e = .returned (.int .u64 r0) ∧ k r0 w') := by
  refine L1_txn_Manager_Now none w k ?_
  unfold V_txn_Manager_Now
  exact pnilM none ⟨fun _ => H, fun h => (nomatch h)⟩
theorem now_ok (h : MgrAt ρ w b s vs mb g) {k : Int → World → Prop} (H : k s.now w) : Cl Tryz.prog fn_txn_Manager_Now [.pointer (ptrA b)].toArray w (fun e w' => ∃ r0 : Int, e = .returned (.int .u64 r0) ∧ k r0 w') := by
  refine L1_txn_Manager_Now (ptrA b) w k ?_
  unfold V_txn_Manager_Now
  refine pnilM _ ⟨fun h => (nomatch h), fun _ => ⟨trivial, ?_⟩⟩
  exact S.fld fld_txn_Manager_now one_uint64 h.row.at s.now rfl H
theorem begin_nil (w : World) {k : Int → Int → World → Prop} (H : k 0 1 w) : Cl Tryz.prog fn_txn_Manager_Begin [.pointer none].toArray w (fun e w' => ∃ (r0 r1 : Int), e = .returned (.tuple [.int .i64 r0, .int .i64 r1].toArray) ∧ k r0 r1 w') := by
  refine L1_txn_Manager_Begin none w k ?_
  unfold V_txn_Manager_Begin
  exact pnilM none ⟨fun _ => H, fun h => (nomatch h)⟩
end
def newTx (s : St) : Tx := ⟨s.now, [], fun _ => none⟩
open Classical in
noncomputable def begun (s : St) : St := { s with given := s.given + 1, tx := upd s.tx (s.given + 1) (newTx s) }
def ownTx (ρ : Own) (n : Int) (tb wb : Nat) : Own := fun k => if k = tb then some (.tb n) else if k = wb then some (.wb n) else ρ k
theorem begin_ok {ρ : Own} {w : World} {b : Nat} {s : St} (h : Mgr ρ w b s) (hg0 : 0 ≤ s.given) (hg : s.given < 4611686018427387904) (hfree : s.tx (s.given + 1) = none) {k : Int → Int → World → Prop}
    (H0 : ∀ ks, Doms s.tx ks → 16 ≤ ks.length → k 0 3 w)
    (H1 : ∀ ks ρ' w', Doms s.tx ks → ks.length < 16 → Mgr ρ' w' b (begun s) → Ext ρ w ρ' w' → k (s.given + 1) 0 w') :
    Cl Tryz.prog fn_txn_Manager_Begin [.pointer (ptrA b)].toArray w (fun e w' => ∃ (r0 r1 : Int), e = .returned (.tuple [.int .i64 r0, .int .i64 r1].toArray) ∧ k r0 r1 w') := by
  obtain ⟨vs, mb, g, m⟩ := h
  refine L1_txn_Manager_Begin (ptrA b) w k ?_
  unfold V_txn_Manager_Begin
  refine pnilM _ ⟨fun h => (nomatch h), fun _ => ⟨trivial, ?_⟩⟩
  refine S.fld fld_txn_Manager_open one_map_int_P_txn_tx m.row.at (some mb) rfl ?_
  refine S.mlen m.mp inj_int und_map_int_P_txn_tx fun ks hks => ?_
  have hks' : Doms s.tx ks := ⟨hks.1, fun n => by
    rw [hks.2]
    show (∃ v, (s.tx n).map (fun _ => (some ⟨(g n).tb, 0, none⟩ : Option Addr)) = some v) ↔ _
    constructor
    · rintro ⟨v, hv⟩
      cases ht : s.tx n with
      | none => rw [ht] at hv; cases hv
      | some t => exact ⟨t, rfl⟩
    · rintro ⟨t, ht⟩; rw [ht]; exact ⟨_, rfl⟩⟩
  refine ⟨fun hc => H0 ks hks' (by omega), fun hc => ⟨trivial, ?_⟩⟩
  refine S.fld fld_txn_Manager_given one_int m.row.at s.given rfl ⟨trivial, ?_⟩
  rw [wr64 (by omega) (by omega)]
  refine ⟨_, w, fld_txn_Manager_given _ _, ?_⟩
  refine S.st1 one_int m.row rfl (by simp) rfl fun w1 hR g1 => ?_
  replace hR : Row w1 b [Sl.v vs, .int .u64 s.low, .int .u64 s.now, .int .i64 (s.given + 1), .map (some mb)] ty_txn_Manager := hR
  have hb1 := Ext.grown g1 m.rmg
  have m1 : w.heap.size ≤ w1.heap.size := g1.size
  refine ⟨fun W => Row W b [Sl.v vs, .int .u64 s.low, .int .u64 s.now, .int .i64 (s.given + 1), .map (some mb)] ty_txn_Manager, fun w2 b2 => ⟨hR.bel b2, trivial, ?_⟩⟩
  refine K.fa fld_txn_Manager_open ⟨trivial, ?_⟩
  refine K.fa fld_txn_Manager_given ⟨trivial, ?_⟩
  refine K.fa fld_txn_Manager_now ?_
  refine K.ld1 one_map_int_P_txn_tx (some mb) (fun W hW => hW.at.fld rfl) ?_
  refine K.ld1 one_int (s.given + 1) (fun W hW => hW.at.fld rfl) ?_
  refine K.ld1 one_uint64 s.now (fun W hW => hW.at.fld rfl) ?_
  refine S.make (ek := Value.string) (ev := T_api_Write.v) fun hM => ?_
  have b3 := Bel.alloc w2 (.map #[] 0)
  generalize hw3 : w2.alloc (.map #[] 0) = w3 at hM b3 ⊢
  have s3 : w3.heap.size = w2.heap.size + 1 := by rw [← hw3]; exact size_alloc' _ _
  refine ⟨(hR.bel b2).bel b3, ?_⟩
  refine ⟨⟨s.now, Sl.none, some w2.heap.size⟩, fun W _ => by kernel_rfl, ?_⟩
  refine S.boxA (cs := [.int .u64 s.now, Sl.v Sl.none, .map (some w2.heap.size)]) rfl ?_
  have hT : Row (w3.alloc (.cells [.int .u64 s.now, Sl.v Sl.none, .map (some w2.heap.size)].toArray ty_txn_tx)) w3.heap.size [.int .u64 s.now, Sl.v Sl.none, .map (some w2.heap.size)] ty_txn_tx := Row.new _ _ _
  have b4 := Bel.alloc w3 (.cells [.int .u64 s.now, Sl.v Sl.none, .map (some w2.heap.size)].toArray ty_txn_tx)
  generalize hw4 : w3.alloc (.cells [.int .u64 s.now, Sl.v Sl.none, .map (some w2.heap.size)].toArray ty_txn_tx) = w4 at hT b4 ⊢
  have s4 : w4.heap.size = w3.heap.size + 1 := by rw [← hw4]; exact size_alloc' _ _
  have hR4 := ((hR.bel b2).bel b3).bel b4
  refine ⟨hR4, ?_⟩
  have b24 := (b2.trans b3).trans b4
  have hlt := m.lt
  have s2 := b2.le
  have hmne : mb ≠ b := fun e => by have := m.rom; rw [e, m.rmg] at this; cases this
  have hmp4 : MapIs (Value.int .i64) Value.pointer w4 mb (fun n => (s.tx n).map fun _ => some ⟨(g n).tb, 0, none⟩) := (m.mp.grown g1 (by simpa using hmne.symm)).bel b24
  refine S.put hmp4 key_int und_map_int_P_txn_tx (s.given + 1) (ptrA w3.heap.size) fun w5 hM5 g5 => ?_
  have hR5 := hR4.grown g5 (by simpa using hmne)
  refine ⟨hR5, trivial, ?_⟩
  have hE : Ext ρ w ρ w5 := (hb1.trans (Ext.bel b24)).trans (Ext.grown g5 m.rom)
  have s5 := g5.size
  have hlow : ∀ k, ρ k ≠ none → k ≠ w3.heap.size ∧ k ≠ w2.heap.size := fun k hk => by have := hlt k hk; omega
  have hρ : ∀ k, k < w.heap.size → ownTx ρ (s.given + 1) w3.heap.size w2.heap.size k = ρ k := fun k hk => by
    unfold ownTx; rw [if_neg (by omega), if_neg (by omega)]
  have hkeep : ∀ k r, ρ k = some r → r ≠ .mg → r ≠ .om → w5.heap[k]? = w.heap[k]? := fun k r hk h1 h2 => by
    have hkl := hlt k (by rw [hk]; simp)
    have e1 : k ≠ b := fun e => by rw [e, m.rmg] at hk; cases hk; exact h1 rfl
    have e2 : k ≠ mb := fun e => by rw [e, m.rom] at hk; cases hk; exact h2 rfl
    rw [g5.block k (by have := b24.le; omega) (by simpa using e2), b24.block k (by omega), g1.block k hkl (by simpa using e1)]
  refine S.fld fld_txn_Manager_given one_int hR5.at (s.given + 1) rfl ?_
  refine H1 ks (ownTx ρ (s.given + 1) w3.heap.size w2.heap.size) w5 hks' (by omega) ⟨vs, mb, fun n => if n = s.given + 1 then ⟨w3.heap.size, w2.heap.size, Sl.none⟩ else g n, ?_⟩ ⟨hE.out, hρ⟩
  exact {
    row := hR5
    rmg := (hρ b (hlt b (by rw [m.rmg]; simp))).trans m.rmg
    vers := m.vers.keep fun k hk => hkeep k .ve (m.rve k hk) (by simp) (by simp)
    rve := fun k hk => (hρ k (hlt k (by rw [m.rve k hk]; simp))).trans (m.rve k hk)
    mp := by
      have : (fun n => ((begun s).tx n).map fun _ => (some ⟨(if n = s.given + 1 then ⟨w3.heap.size, w2.heap.size, Sl.none⟩ else g n : Gh).tb, 0, none⟩ : Option Addr)) = upd (fun n => (s.tx n).map fun _ => (some ⟨(g n).tb, 0, none⟩ : Option Addr)) (s.given + 1) (ptrA w3.heap.size) := by
        funext n
        unfold begun
        by_cases hn : n = s.given + 1
        · subst hn; simp [upd_same]
        · simp [upd_other _ _ hn, hn]
      rw [this]; exact hM5
    rom := (hρ mb (hlt mb (by rw [m.rom]; simp))).trans m.rom
    tx := fun n t ht => by
      unfold begun at ht
      by_cases hn : n = s.given + 1
      · subst hn
        simp only [upd_same] at ht
        cases ht
        simp only [if_true]
        have e3 : w3.heap.size ≠ mb := by have := hlt mb (by rw [m.rom]; simp); omega
        have e2 : w2.heap.size ≠ mb := by have := hlt mb (by rw [m.rom]; simp); omega
        exact {
          row := hT.grown g5 (by simpa using e3.symm)
          rtb := by simp [ownTx]
          rd := OwnS.nil _ _ _ _ _
          rrd := fun k hk => by cases hk
          wr := (hM.bel b4).grown g5 (by simpa using e2.symm)
          rwb := by simp only [ownTx]; rw [if_neg (by omega), if_pos trivial] }
      · simp only [upd_other _ _ hn] at ht
        simp only [if_neg hn]
        exact (m.tx n t ht).keep hlt hρ (fun k hk => hkeep k _ hk (by simp) (by simp)) (fun k hk => hkeep k _ hk (by simp) (by simp)) (fun k hk => hkeep k _ hk (by simp) (by simp))
    lt := fun k hk => by
      unfold ownTx at hk
      split at hk
      · rename_i e; subst e; omega
      · split at hk
        · rename_i e; subst e; omega
        · have := hlt k hk; have := b24.le; omega }
end Go.Proofs.YtealcoghiaeiiaaGreat.VG
set_option linter.unusedVariables false
namespace Go.Proofs.YtealcoghiaeiiaaGreat.VG
open Go.VB Go.Proofs Go.RowKit
theorem K.lookOk {κ ν : Type} {ek : κ → Value} {ev : ν → Value} {P : Program} {kt et mt : TypeId} {b : Nat} {f : κ → Option ν} {C : World → Prop} (h : ∀ w, C w → MapIs ek ev w b f) (K : KeyOk P kt ek) (hm : P.underlying mt = some (.map kt et)) {z : ν} (hz : ∀ w, (zeroValue et).run P w = .ok (ev z) w) (x : κ) {k : ν × Bool → Prop} (H : k ((f x).getD z, (f x).isSome)) :
    opC C P (fun p : ν × Bool => .tuple [ev p.1, .bool p.2].toArray) (Instr.lookup mt (.map (some b)) (ek x) true) k := ⟨_, fun w' hb => (h w' hb).run_lookOk K hm hz x, H⟩
theorem S.lookOk {κ ν : Type} {ek : κ → Value} {ev : ν → Value} {P : Program} {kt et mt : TypeId} {b : Nat} {f : κ → Option ν} {w : World} (h : MapIs ek ev w b f) (K : KeyOk P kt ek) (hm : P.underlying mt = some (.map kt et)) {z : ν} (hz : ∀ w, (zeroValue et).run P w = .ok (ev z) w) (x : κ) {k : ν × Bool → World → Prop} (H : k ((f x).getD z, (f x).isSome) w) :
    opE P (fun p : ν × Bool => .tuple [ev p.1, .bool p.2].toArray) (Instr.lookup mt (.map (some b)) (ek x) true) w k := ⟨_, w, h.run_lookOk K hm hz x, H⟩
abbrev zeroW : Wri := ⟨noB, noB, false⟩
open Classical in
noncomputable def setTx (s : St) (n : Int) (t : Tx) : St := { s with tx := upd s.tx n t }
open Classical in
theorem MgrAt.setTx {ρ ρ' : Own} {w w' : World} {b : Nat} {s : St} {vs : Sl} {mb : Nat} {g : Int → Gh} (h : MgrAt ρ w b s vs mb g) {n : Int} {t t' : Tx} (ht : s.tx n = some t) {g' : Gh} (hg : g'.tb = (g n).tb)
    (hρ : ∀ k, k < w.heap.size → ρ' k = ρ k) (hlt : ∀ k, ρ' k ≠ none → k < w'.heap.size) (hk : ∀ k r, ρ k = some r → r ≠ .tb n → r ≠ .wb n → r ≠ .rb n → w'.heap[k]? = w.heap[k]?) (ht' : TxAt ρ' w' n t' g') :
    MgrAt ρ' w' b (setTx s n t') vs mb (fun m => if m = n then g' else g m) where
  row := h.row.keep (hk b _ h.rmg (by simp) (by simp) (by simp))
  rmg := (hρ b (h.lt b (by rw [h.rmg]; simp))).trans h.rmg
  vers := h.vers.keep fun k h1 => hk k _ (h.rve k h1) (by simp) (by simp) (by simp)
  rve k h1 := (hρ k (h.lt k (by rw [h.rve k h1]; simp))).trans (h.rve k h1)
  mp := by
    have : (fun m => ((VG.setTx s n t').tx m).map fun _ => (some ⟨(if m = n then g' else g m : Gh).tb, 0, none⟩ : Option Addr)) = (fun m => (s.tx m).map fun _ => (some ⟨(g m).tb, 0, none⟩ : Option Addr)) := by
      funext m
      unfold VG.setTx
      by_cases hm : m = n
      · subst hm; simp [upd_same, ht, hg]
      · simp [upd_other _ _ hm, hm]
    rw [this]
    exact h.mp.keep (hk mb _ h.rom (by simp) (by simp) (by simp))
  rom := (hρ mb (h.lt mb (by rw [h.rom]; simp))).trans h.rom
  tx m u hu := by
    by_cases hm : m = n
    · subst hm
      simp only [VG.setTx, upd_same] at hu; cases hu
      simp only [if_true]; exact ht'
    · simp only [VG.setTx, upd_other _ _ hm] at hu
      simp only [if_neg hm]
      exact (h.tx m u hu).keep h.lt hρ (fun k h1 => hk k _ h1 (by simp [hm]) (by simp) (by simp)) (fun k h1 => hk k _ h1 (by simp) (by simp [hm]) (by simp)) (fun k h1 => hk k _ h1 (by simp) (by simp) (by simp [hm]))
  lt := hlt
noncomputable def putW (t : Tx) (x : Wri) : Tx := { t with wr := upd t.wr x.Key x }
theorem write_nil (n : Int) (x : Wri) (w : World) {k : Int → World → Prop} (H : ∀ w', Bel w w' → k 1 w') : Cl Tryz.prog fn_txn_Manager_write [.pointer none, .int .i64 n, T_api_Write.v x].toArray w (fun e w' => ∃ r0 : Int, e = .returned (.int .i64 r0) ∧ k r0 w') := by
  refine L1_txn_Manager_write none n x w k ?_
  unfold V_txn_Manager_write
  refine S.boxW (cs := x.cells) rfl fun B w1 b1 hX _ => ?_
  refine at_nil n w1 ⟨fun _ => H w1 b1, fun h => absurd (by decide) h⟩
theorem write_ok {ρ : Own} {w : World} {b : Nat} {s : St} (h : Mgr ρ w b s) (n : Int) (x : Wri) {k : Int → World → Prop}
    (H0 : s.tx n = none → ∀ w', Bel w w' → k 11 w')
    (H1 : ∀ t, s.tx n = some t → TooLong x → ∀ w', Bel w w' → k 4 w')
    (H2 : ∀ t ks, s.tx n = some t → ¬ TooLong x → t.wr x.Key = none → Doms t.wr ks → 256 ≤ ks.length → ∀ w', Bel w w' → k 3 w')
    (H3 : ∀ t w', s.tx n = some t → ¬ TooLong x → (t.wr x.Key = none → ∃ ks, Doms t.wr ks ∧ ks.length < 256) → Mgr ρ w' b (setTx s n (putW t x)) → Ext ρ w ρ w' → k 0 w') :
    Cl Tryz.prog fn_txn_Manager_write [.pointer (ptrA b), .int .i64 n, T_api_Write.v x].toArray w (fun e w' => ∃ r0 : Int, e = .returned (.int .i64 r0) ∧ k r0 w') := by
  obtain ⟨vs, mb, g, m⟩ := h
  refine L1_txn_Manager_write (ptrA b) n x w k ?_
  unfold V_txn_Manager_write
  refine S.boxW (cs := x.cells) rfl fun B w1 b1 hX hB => ?_
  refine at_ok (m.bel b1) n (fun ht => ⟨fun _ => H0 ht w1 b1, fun h => absurd (by decide) h⟩) fun t ht => ⟨fun h => absurd rfl h, fun _ => ?_⟩
  have mt := m.tx n t ht
  have hrow := mt.row.bel b1
  have hwr := mt.wr.bel b1
  refine ⟨Bel w1, fun u bu => ⟨bu, trivial, ?_⟩⟩
  refine K.fa fld_txn_tx_writes ?_
  refine K.fa fld_api_Write_Key ?_
  refine K.ld1 one_map_string_api_Write (some (g n).wb) (fun W hW => (hrow.bel hW).at.fld rfl) ?_
  refine K.ld1 one_string x.Key (fun W hW => (hX.bel hW).at.fld rfl) ?_
  refine K.lookOk (z := zeroW) (fun W hW => hwr.bel hW) key_str und_map_string_api_Write zv_api_Write x.Key ?_
  refine S.new1W new_api_Write fun C w2 b2 hZ hC => ?_
  refine ⟨bu.trans b2, ?_⟩
  refine S.stA agg_api_Write hZ rfl rfl rfl fun w3 hZ3 g3 => ?_
  have b13 : Bel w1 w3 := (bu.trans b2).grown g3 fun r hr => by cases hr; have := bu.le; omega
  refine ⟨b13, ?_⟩
  have hX3 := hX.bel b13
  refine S.fld fld_api_Write_Key one_string hX3.at x.Key rfl ?_
  have b03 := b1.trans b13
  have J3 : ∀ W (c : Bool), Bel w W → Row W B x.cells ty_api_Write → ¬ TooLong x → (c = true → ∃ ks, t.wr x.Key = none ∧ Doms t.wr ks ∧ 256 ≤ ks.length) → (c = false → t.wr x.Key = none → ∃ ks, Doms t.wr ks ∧ ks.length < 256) → V_txn_Manager_write_r3 k (ptrA B) (ptrA (g n).tb) c W := by
    intro W c hb hXW hl hc1 hc0
    unfold V_txn_Manager_write_r3
    refine ⟨fun hc => ?_, fun hc => ?_⟩
    · obtain ⟨ks, h1, h2, h3⟩ := hc1 hc
      exact H2 t ks ht hl h1 h2 h3 W hb
    · refine ⟨fun W' => Row W' (g n).tb [.int .u64 t.began, Sl.v (g n).rs, .map (some (g n).wb)] ty_txn_tx ∧ Row W' B x.cells ty_api_Write, fun u bu2 => ?_⟩
      have hbu := hb.trans bu2
      have hT := mt.row.bel hbu
      refine ⟨⟨hT, hXW.bel bu2⟩, trivial, ?_⟩
      refine K.fa fld_txn_tx_writes ?_
      refine K.fa fld_api_Write_Key ?_
      refine K.ld1 one_map_string_api_Write (some (g n).wb) (fun W hW => hW.1.at.fld rfl) ?_
      refine K.ld1 one_string x.Key (fun W hW => hW.2.at.fld rfl) ?_
      refine K.ldA agg_api_Write x rfl (fun W hW => hW.2.at) rfl ?_
      refine S.put (mt.wr.bel hbu) key_str und_map_string_api_Write x.Key x fun w5 hM5 g5 => ?_
      have htw : (g n).tb ≠ (g n).wb := fun e => by have := mt.rtb; rw [e, mt.rwb] at this; cases this
      have hltw := m.lt (g n).wb (by rw [mt.rwb]; simp)
      have hBw : B ≠ (g n).wb := by omega
      have hT5 := hT.grown g5 (by simpa using htw.symm)
      refine ⟨⟨hT5, (hXW.bel bu2).grown g5 (by simpa using hBw.symm)⟩, ?_⟩
      have hE := (Ext.bel hbu).trans (Ext.grown g5 mt.rwb)
      have hkeep : ∀ k, ρ k ≠ none → k ≠ (g n).wb → w5.heap[k]? = w.heap[k]? := fun k hk hne => by
        have := m.lt k hk
        rw [g5.block k (by have := hbu.le; omega) (by simpa using hne), hbu.block k this]
      refine H3 t w5 ht hl (hc0 hc) ⟨vs, mb, _, m.setTx ht (g' := g n) rfl (fun _ _ => rfl) (fun k hk => by have := m.lt k hk; have := hE.out.size; omega) (fun k r hk h1 h2 h3 => hkeep k (by rw [hk]; simp) fun e => ?_) ?_⟩ hE
      · rw [e, mt.rwb] at hk; cases hk; exact h2 rfl
      · exact {
          row := hT5
          rtb := mt.rtb
          rd := mt.rd.keep fun k hk => hkeep k (by rw [mt.rrd k hk]; simp) fun e => by have := mt.rrd k hk; rw [e, mt.rwb] at this; cases this
          rrd := mt.rrd
          wr := hM5
          rwb := mt.rwb }
  have J2 : ∀ W (c : Bool), Bel w W → Row W B x.cells ty_api_Write → (c = true ↔ TooLong x) → V_txn_Manager_write_r2 k (ptrA B) (ptrA (g n).tb) ((t.wr x.Key).getD zeroW, (t.wr x.Key).isSome) c W := by
    intro W c hb hXW hc
    unfold V_txn_Manager_write_r2
    refine ⟨fun h1 => H1 t ht (hc.1 h1) W hb, fun h1 => ?_⟩
    have hl : ¬ TooLong x := fun h2 => by rw [hc.2 h2] at h1; cases h1
    refine ⟨fun h2 => ⟨trivial, ?_⟩, fun h2 => ?_⟩
    · have hno : t.wr x.Key = none := by
        cases hx : t.wr x.Key with
        | none => rfl
        | some y => rw [hx] at h2; simp at h2
      refine S.fld fld_txn_tx_writes one_map_string_api_Write (mt.row.bel hb).at (some (g n).wb) rfl ?_
      refine S.mlen (mt.wr.bel hb) inj_str und_map_string_api_Write fun ks hks => ?_
      refine J3 W _ hb hXW hl (fun h3 => ⟨ks, hno, hks, by have := of_decide_eq_true h3; omega⟩) fun h3 _ => ⟨ks, hks, by have := of_decide_eq_false h3; omega⟩
    · refine J3 W false hb hXW hl (fun h => (nomatch h)) fun _ hno => ?_
      rw [hno] at h2; simp at h2
  refine ⟨fun hc => J2 w3 true b03 hX3 ⟨fun _ => .inl (by omega), fun _ => rfl⟩, fun hc => ?_⟩
  refine S.fld fld_api_Write_Val one_string hX3.at x.Val rfl ?_
  refine J2 w3 _ b03 hX3 ?_
  unfold TooLong
  simp only [decide_eq_true_eq]
  omega
section
variable {ρ : Own} {w : World} {b : Nat} {s : St}
theorem put_nil (n : Int) (key val : ByteArray) (w : World) {k : Int → World → Prop} (H : ∀ w', Bel w w' → k 1 w') : Cl Tryz.prog fn_txn_Manager_Put [.pointer none, .int .i64 n, .string key, .string val].toArray w (fun e w' => ∃ r0 : Int, e = .returned (.int .i64 r0) ∧ k r0 w') := by
  refine L1_txn_Manager_Put none n key val w k ?_
  unfold V_txn_Manager_Put
  exact ⟨⟨key, val, false⟩, w, by kernel_rfl, write_nil n _ w H⟩
theorem delete_nil (n : Int) (key : ByteArray) (w : World) {k : Int → World → Prop} (H : ∀ w', Bel w w' → k 1 w') : Cl Tryz.prog fn_txn_Manager_Delete [.pointer none, .int .i64 n, .string key].toArray w (fun e w' => ∃ r0 : Int, e = .returned (.int .i64 r0) ∧ k r0 w') := by
  refine L1_txn_Manager_Delete none n key w k ?_
  unfold V_txn_Manager_Delete
  exact ⟨⟨key, noB, true⟩, w, by kernel_rfl, write_nil n _ w H⟩
theorem put_of (n : Int) (key val : ByteArray) {p : Option Addr} {k : Int → World → Prop} (H : Cl Tryz.prog fn_txn_Manager_write [.pointer p, .int .i64 n, T_api_Write.v ⟨key, val, false⟩].toArray w (fun e w' => ∃ r0 : Int, e = .returned (.int .i64 r0) ∧ k r0 w')) :
    Cl Tryz.prog fn_txn_Manager_Put [.pointer p, .int .i64 n, .string key, .string val].toArray w (fun e w' => ∃ r0 : Int, e = .returned (.int .i64 r0) ∧ k r0 w') := by
  refine L1_txn_Manager_Put p n key val w k ?_
  unfold V_txn_Manager_Put
  exact ⟨⟨key, val, false⟩, w, by kernel_rfl, H⟩
end
end Go.Proofs.YtealcoghiaeiiaaGreat.VG
set_option linter.unusedVariables false
namespace Go.Proofs.YtealcoghiaeiiaaGreat.VG
open Go.VB Go.Proofs Go.RowKit
def addR (t : Tx) (x : Spn) : Tx := { t with reads := t.reads ++ [x] }
theorem span_push {ρ : Own} {w : World} {b : Nat} {s : St} {vs : Sl} {mb : Nat} {g : Int → Gh} (m : MgrAt ρ w b s vs mb g) {n : Int} {t : Tx} (ht : s.tx n = some t) (hroom : t.reads.length < 1000) (x : Spn) {k : World → Prop}
    (H : ∀ ρ' w' g', (g' n).tb = (g n).tb → (g' n).wb = (g n).wb → MgrAt ρ' w' b (setTx s n (addR t x)) vs mb g' → Ext ρ w ρ' w' → k w') :
    opE Tryz.prog Sl.v (Instr.buildSlice ty_L_txn_span 1 [(0, T_txn_span.v x)].toArray) w (fun y w => opE Tryz.prog Sl.v (Builtin.append_ #[ty_L_txn_span, ty_L_txn_span] ty_L_txn_span [Sl.v (g n).rs, Sl.v y].toArray) w (fun z w =>
      nilOk (.pointer (ptrA (g n).tb)) ∧ opE Tryz.prog Value.pointer (Instr.fieldAt ty_txn_tx (.pointer (ptrA (g n).tb)) 1) w (fun q w => opU Tryz.prog (Instr.storeAt ty_L_txn_span (.pointer q) (Sl.v z)) w k))) := by
  have mt := m.tx n t ht
  refine S.app1B mt.rd (fun _ => rfl) (fun _ => rfl) (by decide) und_L_txn_span einf_L_txn_span rfl (by decide) (bs1_L_txn_span x) (Nat.zero_le _) (by omega) fun z w1 hO g1 hq => ⟨trivial, ?_⟩
  have hrow1 : Row w1 (g n).tb [.int .u64 t.began, Sl.v (g n).rs, .map (some (g n).wb)] ty_txn_tx := mt.row.grown g1 fun e => by
    have := mt.rrd _ e; rw [mt.rtb] at this; cases this
  refine ⟨_, w1, fld_txn_tx_reads _ _, ?_⟩
  refine S.st1 one_L_txn_span hrow1 (by cases z with | mk a l c => cases a <;> rfl) (by simp) (by cases z with | mk a l c => cases a <;> rfl) fun w2 hR g2 => ?_
  replace hR : Row w2 (g n).tb [.int .u64 t.began, Sl.v z, .map (some (g n).wb)] ty_txn_tx := hR
  have hzt : (Sl.v z).ownBlock ≠ some (g n).tb := OwnS.ne_row hO hrow1 (by decide)
  have hO2 := hO.kept g2 (.inr hzt)
  let ρ' : Own := fun k => if (Sl.v z).ownBlock = some k then some (.rb n) else ρ k
  have hρ : ∀ k, k < w.heap.size → ρ' k = ρ k := fun k hk => by
    show (if (Sl.v z).ownBlock = some k then _ else _) = _
    split
    · rename_i e
      rcases hq k e with h1 | h1
      · exact (mt.rrd k h1).symm
      · omega
    · rfl
  have hs1 := g1.size
  have hs2 := g2.size
  have hkeep : ∀ k r, ρ k = some r → r ≠ .tb n → r ≠ .rb n → w2.heap[k]? = w.heap[k]? := fun k r hk h1 h2 => by
    have hkl := m.lt k (by rw [hk]; simp)
    rw [g2.block k (by omega) fun e => by injection e with e; rw [e, mt.rtb] at hk; cases hk; exact h1 rfl, g1.block k hkl fun e => by
      have := mt.rrd k e.symm; rw [hk] at this; cases this; exact h2 rfl]
  have hE : Ext ρ w ρ' w2 := ⟨(Out.row (S := fun k => ρ k ≠ none) g1 fun k hk => .inl (by show ρ k ≠ none; rw [mt.rrd k hk]; simp)).trans (Out.row (S := fun k => ρ k ≠ none) g2 fun k hk => by cases hk; exact .inl (by show ρ _ ≠ none; rw [mt.rtb]; simp)) fun _ _ h => h, hρ⟩
  refine H ρ' w2 (fun m => if m = n then ⟨(g n).tb, (g n).wb, z⟩ else g m) (by simp) (by simp) (m.setTx ht rfl hρ (fun k hk => ?_) (fun k r hk h1 h2 h3 => hkeep k r hk h1 h3) ?_) hE
  · by_cases e : (Sl.v z).ownBlock = some k
    · exact hO2.lt e
    · have : ρ k ≠ none := by
        have h1 : (if (Sl.v z).ownBlock = some k then some (Role.rb n) else ρ k) ≠ none := hk
        rw [if_neg e] at h1; exact h1
      have := m.lt k this; omega
  · exact {
      row := hR
      rtb := (hρ _ (m.lt _ (by rw [mt.rtb]; simp))).trans mt.rtb
      rd := hO2
      rrd := fun k hk => by show (if (Sl.v z).ownBlock = some k then _ else _) = _; rw [if_pos hk]
      wr := mt.wr.keep (hkeep _ _ mt.rwb (by simp) (by simp))
      rwb := (hρ _ (m.lt _ (by rw [mt.rwb]; simp))).trans mt.rwb }
noncomputable def tget (s : St) (t : Tx) (key : ByteArray) : ByteArray × Bool × Int := match t.wr key with
  | some x => (x.Val, !x.Gone, 0)
  | none => vget s.l s.low key t.began
theorem get_nil (n : Int) (key : ByteArray) (w : World) {k : ByteArray → Bool → Int → World → Prop} (H : k noB false 1 w) :
    Cl Tryz.prog fn_txn_Manager_Get [.pointer none, .int .i64 n, .string key].toArray w (fun e w' => ∃ (r0 : ByteArray) (r1 : Bool) (r2 : Int), e = .returned (.tuple [.string r0, .bool r1, .int .i64 r2].toArray) ∧ k r0 r1 r2 w') := by
  refine L1_txn_Manager_Get none n key w k ?_
  unfold V_txn_Manager_Get
  exact at_nil n w ⟨fun _ => H, fun h => absurd (by decide) h⟩
abbrev spanK (key : ByteArray) : Spn := ⟨key, noB, true⟩
theorem get_ok {ρ : Own} {w : World} {b : Nat} {s : St} (h : Mgr ρ w b s) (n : Int) (key : ByteArray) {k : ByteArray → Bool → Int → World → Prop}
    (H0 : s.tx n = none → k noB false 11 w)
    (H1 : ∀ t, s.tx n = some t → 256 < key.size → k noB false 4 w)
    (H2 : ∀ t, s.tx n = some t → ¬ 256 < key.size → 256 ≤ t.reads.length → k noB false 3 w)
    (H3 : ∀ t ρ' w', s.tx n = some t → ¬ 256 < key.size → t.reads.length < 256 → Mgr ρ' w' b (setTx s n (addR t (spanK key))) → Ext ρ w ρ' w' → k (tget s t key).1 (tget s t key).2.1 (tget s t key).2.2 w') :
    Cl Tryz.prog fn_txn_Manager_Get [.pointer (ptrA b), .int .i64 n, .string key].toArray w (fun e w' => ∃ (r0 : ByteArray) (r1 : Bool) (r2 : Int), e = .returned (.tuple [.string r0, .bool r1, .int .i64 r2].toArray) ∧ k r0 r1 r2 w') := by
  obtain ⟨vs, mb, g, m⟩ := h
  refine L1_txn_Manager_Get (ptrA b) n key w k ?_
  unfold V_txn_Manager_Get
  refine at_ok m n (fun ht => ⟨fun _ => H0 ht, fun h => absurd (by decide) h⟩) fun t ht => ⟨fun h => absurd rfl h, fun _ => ⟨fun hl => H1 t ht (by omega), fun hl => ⟨trivial, ?_⟩⟩⟩
  have mt := m.tx n t ht
  have hrl := mt.rd.len
  refine S.fld fld_txn_tx_reads one_L_txn_span mt.row.at (g n).rs rfl ?_
  refine ⟨fun hc => H2 t ht (by omega) (by omega), fun hc => ⟨trivial, ?_⟩⟩
  refine S.fld fld_txn_tx_reads one_L_txn_span mt.row.at (g n).rs rfl ?_
  refine ⟨spanK key, w, by kernel_rfl, ?_⟩
  refine span_push m ht (by omega) (spanK key) fun ρ' w1 g' eg ew m1 hE => ⟨trivial, ?_⟩
  have ht1 : (setTx s n (addR t (spanK key))).tx n = some (addR t (spanK key)) := by simp [setTx, upd_same]
  have mt1 := m1.tx n _ ht1
  have fin : ∀ W, Bel w1 W → k (tget s t key).1 (tget s t key).2.1 (tget s t key).2.2 W := fun W hW => H3 t ρ' W ht (by omega) (by omega) ⟨vs, mb, g', m1.bel hW⟩ (hE.trans (Ext.bel hW))
  have hT1 : Row w1 (g n).tb [.int .u64 t.began, Sl.v (g' n).rs, .map (some (g n).wb)] ty_txn_tx := by have := mt1.row; rw [eg, ew] at this; exact this
  have hM1 : MapIs Value.string T_api_Write.v w1 (g n).wb t.wr := by have := mt1.wr; rw [ew] at this; exact this
  refine S.fld fld_txn_tx_writes one_map_string_api_Write hT1.at (some (g n).wb) rfl ?_
  refine S.lookOk (z := zeroW) hM1 key_str und_map_string_api_Write zv_api_Write key ?_
  refine S.newW new_api_Write rfl agg_api_Write (cs := ((t.wr key).getD zeroW).cells) rfl rfl rfl fun C w2 b2 hX _ => ?_
  refine ⟨fun hi => ?_, fun hi => ⟨trivial, ?_⟩⟩
  · obtain ⟨x, hx⟩ := Option.isSome_iff_exists.1 hi
    have hv : tget s t key = (x.Val, !x.Gone, 0) := by unfold tget; rw [hx]
    rw [hx] at hX
    refine Q.fld fld_api_Write_Val one_string hX.at x.Val rfl ?_
    refine Q.fld fld_api_Write_Gone one_bool hX.at x.Gone rfl ?_
    intro w3 b3
    have := fin w3 (b2.trans b3)
    rw [hv] at this; exact this
  · have hno : t.wr key = none := by
      cases hx : t.wr key with
      | none => rfl
      | some y => rw [hx] at hi; simp at hi
    have hv : tget s t key = vget s.l s.low key t.began := by unfold tget; rw [hno]
    have m2 := m1.bel b2
    refine ⟨_, fun W hW => fld_txn_Manager_versions _ _, ?_⟩
    refine Q.ldA agg_api_Versions (cs := [Sl.v vs, .int .u64 s.low]) ⟨vs, s.low⟩ rfl (fun j v hj => by
      have h1 := m2.row.at
      rw [add_add]
      refine h1 (0 + j) v ?_
      match j, hj with
      | 0, hj => exact hj
      | 1, hj => exact hj) rfl ⟨trivial, ?_⟩
    refine Q.fld fld_txn_tx_began one_uint64 (hT1.bel b2).at t.began rfl ?_
    refine ⟨(vget s.l s.low key t.began).1, (vget s.l s.low key t.began).2.1, (vget s.l s.low key t.began).2.2, fun W hW => ?_, ?_⟩
    · refine (mget_ok (x0 := ⟨vs, s.low⟩) (m2.vers.bel hW) key t.began (k := fun a c d w' => a = (vget s.l s.low key t.began).1 ∧ c = (vget s.l s.low key t.began).2.1 ∧ d = (vget s.l s.low key t.began).2.2 ∧ Bel W w') fun w' hb => ⟨rfl, rfl, rfl, hb⟩).mono fun e w' ⟨a, c, d, he, h1, h2, h3, h4⟩ => ?_
      subst h1; subst h2; subst h3
      exact ⟨he, h4⟩
    · intro w3 b3
      have := fin w3 (b2.trans b3)
      rw [hv] at this; exact this
end Go.Proofs.YtealcoghiaeiiaaGreat.VG
set_option linter.unusedVariables false
namespace Go.Proofs.YtealcoghiaeiiaaGreat.VG
open Go.VB Go.Proofs Go.RowKit
theorem nodup_le {α : Type} : ∀ {l m : List α}, l.Nodup → (∀ x ∈ l, x ∈ m) → l.length ≤ m.length := by
  intro l m hl h
  classical
  induction l generalizing m with
  | nil => simp
  | cons a l ih =>
    obtain ⟨h1, h2⟩ := List.nodup_cons.1 hl
    have ha : a ∈ m := h a (by simp)
    have := ih (m := m.erase a) h2 fun x hx => (List.mem_erase_of_ne (fun e => h1 (by rw [← e]; exact hx))).2 (h x (by simp [hx]))
    rw [List.length_erase_of_mem ha] at this
    have : 0 < m.length := List.length_pos_of_mem ha
    simp only [List.length_cons]; omega
noncomputable def delTx (s : St) (n : Int) : St := { s with tx := del s.tx n }
structure IsLow (s : St) (lo : Int) : Prop where
  now : lo ≤ s.now
  all : ∀ n t, s.tx n = some t → lo ≤ t.began
  hit : lo = s.now ∨ ∃ n t, s.tx n = some t ∧ lo = t.began
theorem IsLow.le {s : St} {a c : Int} (h : IsLow s a) (k : IsLow s c) : a ≤ c := by
  rcases k.hit with e | ⟨n, t, h1, e⟩
  · rw [e]; exact h.now
  · rw [e]; exact h.all n t h1
theorem IsLow.one {s : St} {a c : Int} (h : IsLow s a) (k : IsLow s c) : a = c := Int.le_antisymm (h.le k) (k.le h)
open Classical in
noncomputable def lowOf (s : St) : Int := if h : ∃ lo, IsLow s lo then h.choose else 0
theorem IsLow.eq {s : St} {lo : Int} (h : IsLow s lo) : lo = lowOf s := by
  have : ∃ lo, IsLow s lo := ⟨lo, h⟩
  unfold lowOf; rw [dif_pos this]
  exact h.one this.choose_spec
noncomputable def swept (s : St) : St := if (vsweep s.l s.low (lowOf s)).2.2 = 0 then { s with l := (vsweep s.l s.low (lowOf s)).1, low := (vsweep s.l s.low (lowOf s)).2.1 } else s
noncomputable def overS (s : St) (n : Int) : St := swept (delTx s n)
section
variable {ρ : Own} {w w' : World} {b : Nat} {s : St} {vs : Sl} {mb : Nat} {g : Int → Gh}
theorem MgrAt.versAt (m : MgrAt ρ w b s vs mb g) : At w ((⟨b, 0, none⟩ : Addr).add 0) [Sl.v vs, .int .u64 s.low] := fun j v hj => by
  have h1 := m.row.at
  rw [add_add]
  refine h1 (0 + j) v ?_
  match j, hj with
  | 0, hj => exact hj
  | 1, hj => exact hj
theorem MgrAt.delTx (m : MgrAt ρ w b s vs mb g) (n : Int) (hM : MapIs (Value.int .i64) Value.pointer w' mb (del (fun n => (s.tx n).map fun _ => (some ⟨(g n).tb, 0, none⟩ : Option Addr)) n)) (hg : w.grownBy w' (some mb)) : MgrAt ρ w' b (delTx s n) vs mb g := by
  have hkeep : ∀ k r, ρ k = some r → r ≠ .om → w'.heap[k]? = w.heap[k]? := fun k r hk h1 => hg.block k (m.lt k (by rw [hk]; simp)) fun e => by injection e with e; rw [e, m.rom] at hk; cases hk; exact h1 rfl
  exact {
    row := m.row.keep (hkeep _ _ m.rmg (by simp))
    rmg := m.rmg
    vers := m.vers.keep fun k hk => hkeep k _ (m.rve k hk) (by simp)
    rve := m.rve
    mp := by
      have : (fun k => ((VG.delTx s n).tx k).map fun _ => (some ⟨(g k).tb, 0, none⟩ : Option Addr)) = del (fun n => (s.tx n).map fun _ => (some ⟨(g n).tb, 0, none⟩ : Option Addr)) n := by
        funext k
        unfold VG.delTx
        by_cases hk : k = n
        · subst hk; simp [del_same]
        · simp [del_other _ hk]
      rw [this]; exact hM
    rom := m.rom
    tx := fun k t ht => by
      have hk : k ≠ n := fun e => by subst e; simp [VG.delTx, del_same] at ht
      have ht' : s.tx k = some t := by simpa [VG.delTx, del_other _ hk] using ht
      exact (m.tx k t ht').keep m.lt (fun _ _ => rfl) (fun j h1 => hkeep j _ h1 (by simp)) (fun j h1 => hkeep j _ h1 (by simp)) (fun j h1 => hkeep j _ h1 (by simp))
    lt := fun k hk => Nat.lt_of_lt_of_le (m.lt k hk) hg.size }
theorem MgrAt.setVers (m : MgrAt ρ w b s vs mb g) {r : Sl} {l : List Ver} {low now : Int} (hr : VerRd w r l) (hnew : ∀ k, (Sl.v r).ownBlock = some k → k < w.heap.size ∧ ρ k = none) (hg : w.grownBy w' (some b))
    (hR : Row w' b [Sl.v r, .int .u64 low, .int .u64 now, .int .i64 s.given, .map (some mb)] ty_txn_Manager) :
    MgrAt (fun k => if (Sl.v r).ownBlock = some k then some .ve else ρ k) w' b { s with l := l, low := low, now := now } r mb g := by
  have hsz := hg.size
  have hold : ∀ k r', ρ k = some r' → (if (Sl.v r).ownBlock = some k then some Role.ve else ρ k) = some r' := fun k r' hk => by
    split
    · rename_i e; rw [(hnew k e).2] at hk; cases hk
    · exact hk
  have hkeep : ∀ k r, ρ k = some r → r ≠ .mg → w'.heap[k]? = w.heap[k]? := fun k r hk h1 => hg.block k (m.lt k (by rw [hk]; simp)) fun e => by injection e with e; rw [e, m.rmg] at hk; cases hk; exact h1 rfl
  exact {
    row := hR
    rmg := hold _ _ m.rmg
    vers := hr.keep fun k hk => hg.block k (hnew k hk).1 fun e => by injection e with e; have := (hnew k hk).2; rw [e, m.rmg] at this; cases this
    rve := fun k hk => if_pos hk
    mp := m.mp.keep (hkeep _ _ m.rom (by simp))
    rom := hold _ _ m.rom
    tx := fun k t ht => by
      have h := m.tx k t ht
      exact {
        row := h.row.keep (hkeep _ _ h.rtb (by simp))
        rtb := hold _ _ h.rtb
        rd := h.rd.keep fun j hj => hkeep j _ (h.rrd j hj) (by simp)
        rrd := fun j hj => hold _ _ (h.rrd j hj)
        wr := h.wr.keep (hkeep _ _ h.rwb (by simp))
        rwb := hold _ _ h.rwb }
    lt := fun k hk => by
      by_cases e : (Sl.v r).ownBlock = some k
      · have := (hnew k e).1; omega
      · have h1 : (if (Sl.v r).ownBlock = some k then some Role.ve else ρ k) ≠ none := hk
        rw [if_neg e] at h1
        have := m.lt k h1; omega }
theorem over_v (h : Mgr ρ w b s) (n : Int) {Ret : World → Prop} (H : ∀ ρ' w', Mgr ρ' w' b (overS s n) → Ext ρ w ρ' w' → Ret w') : V_txn_Manager_over (ptrA b) n w Ret := by
  obtain ⟨vs, mb, g, m⟩ := h
  unfold V_txn_Manager_over
  refine ⟨trivial, ?_⟩
  refine S.fld fld_txn_Manager_open one_map_int_P_txn_tx m.row.at (some mb) rfl ?_
  refine S.del m.mp key_int und_map_int_P_txn_tx n fun w1 hM g1 => ?_
  have m1 := m.delTx n hM g1
  have hE1 : Ext ρ w ρ w1 := Ext.grown g1 m.rom
  unfold overS at H
  generalize VG.delTx s n = s1 at m1 H
  refine ⟨trivial, ?_⟩
  refine S.fld fld_txn_Manager_now one_uint64 m1.row.at s1.now rfl ⟨trivial, ?_⟩
  refine S.fld fld_txn_Manager_open one_map_int_P_txn_tx m1.row.at (some mb) rfl ?_
  obtain ⟨es, c, mAt⟩ := m1.mp
  obtain ⟨dom, hdom, _⟩ := mAt.doms inj_int
  clear mAt
  refine S.rng m1.mp und_map_int_P_txn_tx fun w2 hi b2 => ?_
  have hmb : mb < w1.heap.size := m1.mp.lt
  generalize hR : w1.heap.size = R at hi hmb ⊢
  refine ⟨fun x W => ∃ ks, IterIs (Value.int .i64) Value.pointer W mb R (fun n => (s1.tx n).map fun _ => some ⟨(g n).tb, 0, none⟩) ks ∧ Bel w1 W ∧ x ≤ s1.now ∧ (∀ k ∈ ks, ∀ t, s1.tx k = some t → x ≤ t.began) ∧ (x = s1.now ∨ ∃ k t, k ∈ ks ∧ s1.tx k = some t ∧ x = t.began), fun _ W => dom.length - iterLen W R, ⟨[], hi, b2, Int.le_refl _, by simp, .inl rfl⟩, ?_⟩
  rintro x W ⟨ks, hi1, hb1, hx1, hx2, hx3⟩
  unfold V_txn_Manager_over_l1b
  refine S.next hi1 (by omega) inj_int (fun hall => ?_) fun y v W2 hy hn hi2 hg => ?_
  · refine ⟨fun _ => ⟨trivial, ?_⟩, fun k v e => by cases e⟩
    have hlow : x = lowOf s1 := IsLow.eq ⟨hx1, fun k t ht => hx2 k (hall k (some ⟨(g k).tb, 0, none⟩) (by rw [ht]; rfl)) t ht, by
      rcases hx3 with h | ⟨k, t, _, h1, h2⟩
      · exact .inl h
      · exact .inr ⟨k, t, h1, h2⟩⟩
    have mW := m1.bel hb1
    have hEW := hE1.trans (Ext.bel hb1)
    refine ⟨_, W, fld_txn_Manager_versions _ _, ?_⟩
    refine S.ldA agg_api_Versions (cs := [Sl.v vs, .int .u64 s1.low]) ⟨vs, s1.low⟩ rfl mW.versAt rfl ?_
    refine msweep_ok (x0 := ⟨vs, s1.low⟩) mW.vers x fun r W3 base h1 hO b3 => ?_
    refine S.newW new_api_Versions rfl agg_api_Versions (cs := [Sl.v r, .int .u64 (vsweep s1.l s1.low x).2.1]) rfl (by cases r with | mk a l c => cases a <;> rfl) rfl fun C W4 b4 hX _ => ?_
    have m4 := (mW.bel b3).bel b4
    have hE4 := hEW.trans (Ext.bel (b3.trans b4))
    unfold swept at H
    rw [← hlow] at H
    refine ⟨fun hz => ?_, fun hz => ?_⟩
    · rw [if_pos hz] at H
      refine S.ldA agg_api_Versions (cs := [Sl.v r, .int .u64 (vsweep s1.l s1.low x).2.1]) ⟨r, (vsweep s1.l s1.low x).2.1⟩ rfl hX.at rfl ⟨trivial, ?_⟩
      refine ⟨_, W4, fld_txn_Manager_versions _ _, ?_⟩
      refine S.stP agg_api_Versions (vs := [Sl.v r, .int .u64 (vsweep s1.l s1.low x).2.1]) (off := 0) m4.row rfl (by simp) (by cases r with | mk a l c => cases a <;> rfl) fun W5 hR5 g5 => ?_
      have hO4 := hO.bel b4
      have hnew : ∀ k, (Sl.v r).ownBlock = some k → k < W4.heap.size ∧ ρ k = none := fun k hk => by
        refine ⟨hO4.lt hk, ?_⟩
        have h2 := hO.lo hk
        cases hρ : ρ k with
        | none => rfl
        | some r0 =>
          have h3 := m.lt k (by rw [hρ]; simp)
          have h4 := hEW.out.size
          omega
      have m5 := m4.setVers (VerOwn.rd hO4) hnew g5 hR5
      refine H _ W5 ⟨_, _, _, m5⟩ ⟨hE4.out.trans (Out.row (S := fun k => ρ k ≠ none) g5 fun k hk => by cases hk; exact .inl (by show ρ _ ≠ none; rw [m.rmg]; simp)) fun _ _ h => h, fun k hk => if_neg fun e => ?_⟩
      have h2 := hO.lo e
      have h4 := hEW.out.size
      omega
    · rw [if_neg hz] at H
      exact H ρ W4 ⟨_, _, _, m4⟩ hE4
  · refine ⟨fun e => (nomatch e), fun k v' e => ?_⟩
    cases e
    have hb2 : Bel w1 W2 := hb1.grown hg fun r e => by cases e; omega
    cases ht : s1.tx y with
    | none => rw [ht] at hy; cases hy
    | some t =>
      have hv : v = ptrA (g y).tb := by rw [ht] at hy; simpa using hy.symm
      subst hv
      have hcl : (ks ++ [y]).length ≤ dom.length := nodup_le hi2.nd fun z hz => (hdom.2 z).2 (hi2.dom z hz)
      rw [List.length_append, List.length_singleton] at hcl
      have hl1 := hi1.size
      have hl2 := hi2.size
      rw [List.length_append, List.length_singleton] at hl2
      refine S.iterEntry hi2 hy inj_int ⟨trivial, ?_⟩
      refine S.fld fld_txn_tx_began one_uint64 ((m1.bel hb2).tx y t ht).row.at t.began rfl ?_
      refine ⟨⟨ks ++ [y], hi2, hb2, ?_, fun k hk u hu => ?_, ?_⟩, by dsimp only; omega⟩
      · split <;> omega
      · rcases List.mem_append.1 hk with hk | hk
        · have := hx2 k hk u hu
          split <;> omega
        · simp at hk; subst hk
          rw [ht] at hu; cases hu
          split <;> omega
      · split
        · exact .inr ⟨y, t, by simp, ht, rfl⟩
        · rcases hx3 with h | ⟨k, u, h1, h2, h3⟩
          · exact .inl h
          · exact .inr ⟨k, u, by simp [h1], h2, h3⟩
theorem over_d (h : Mgr ρ w b s) (n : Int) {k : World → Prop} (H : ∀ ρ' w', Mgr ρ' w' b (overS s n) → Ext ρ w ρ' w' → k w') :
    opD Tryz.prog fn_txn_Manager_over [.pointer (ptrA b), .int .i64 n] w k := ClD.mono (L1D_txn_Manager_over (ptrA b) n w k (over_v h n H)) fun e w' h => ⟨⟨_, h.1⟩, h.2⟩
end
end Go.Proofs.YtealcoghiaeiiaaGreat.VG
set_option linter.unusedVariables false
namespace Go.Proofs.YtealcoghiaeiiaaGreat.VG
open Go.VB Go.Proofs Go.RowKit
theorem getE {α : Type} {l : List α} {n : Nat} (h : n < l.length) : ∃ x, l[n]? = some x := ⟨l[n]'h, by simp⟩
theorem any_take {α : Type} {l : List α} {n : Nat} {x : α} (h : l[n]? = some x) (p : α → Bool) (hn : (l.take n).any p = false) : (l.take (n + 1)).any p = p x := by
  rw [take_one h, List.any_append, hn]; simp
theorem any_hit {α : Type} {l : List α} {n : Nat} {x : α} (h : l[n]? = some x) (p : α → Bool) (hp : p x = true) : l.any p = true := List.any_eq_true.2 ⟨x, List.mem_of_getElem? h, hp⟩
def Preds_api_Version (fv : Value) (p : T_api_Version → Bool) (l : List T_api_Version) (w : World) : Prop := ∀ d ∈ l, ∀ w' (k : Bool → World → Prop), Bel w w' → (∀ w'', Bel w' w'' → k (p d) w'') → CallV Tryz.prog fv [T_api_Version.v d] w' (fun e w'' => ∃ r : Bool, e = .returned (.bool r) ∧ k r w'')
theorem has_api_Version_ok {w : World} {x : Sl} {l : List T_api_Version} (hd : Rd T_api_Version.cells 4 w x l) {fv : Value} {p : T_api_Version → Bool} (hp : Preds_api_Version fv p l w) {k : Bool → World → Prop} (H : ∀ w', Bel w w' → k (l.any p) w') :
    Cl Tryz.prog fn_slices_ContainsFunc_api_Version_api_Version [Sl.v x, fv].toArray w (fun e w' => ∃ r0 : Bool, e = .returned (.bool r0) ∧ k r0 w') := by
  have dbig := hd.big; have dcap := hd.cap; have dlen := hd.len
  refine L1_slices_ContainsFunc_api_Version_api_Version x _ w k ?_
  unfold V_slices_ContainsFunc_api_Version_api_Version
  refine L1_slices_IndexFunc_api_Version_api_Version x _ w _ ?_
  unfold V_slices_IndexFunc_api_Version_api_Version
  refine ⟨fun i w1 => ∃ n : Nat, i = (n : Int) ∧ n ≤ l.length ∧ Bel w w1 ∧ (l.take n).any p = false, fun i _ => (x.len - i).toNat, ⟨0, rfl, by omega, Bel.refl _, by simp⟩, ?_⟩
  rintro i w1 ⟨n, rfl, hn, hb, hno⟩
  unfold V_slices_IndexFunc_api_Version_api_Version_l1b
  refine ⟨fun hc => ?_, fun hc => ?_⟩
  · obtain ⟨d, hdn⟩ := getE (l := l) (n := n) (by omega)
    refine S.idx (hd.bel hb) und_L_api_Version esz_L_api_Version (by omega) (x := d) (by simpa using hdn) fun ad hA => ?_
    refine S.ldA agg_api_Version d rfl hA rfl ?_
    refine hp d (List.mem_of_getElem? hdn) w1 _ hb fun w2 b2 => ⟨fun ht => ?_, fun hf => ?_⟩
    · dsimp only
      rw [decide_eq_true (p := 0 ≤ (n : Int)) (by omega), ← any_hit hdn p ht]
      exact H w2 (hb.trans b2)
    · rw [wr64 (by omega) (by omega)]
      exact ⟨⟨n + 1, by omega, by omega, hb.trans b2, by rw [any_take hdn p hno]; exact hf⟩, by dsimp only; omega⟩
  · obtain rfl : n = l.length := by omega
    rw [List.take_length] at hno
    have := H w1 hb
    rw [hno] at this
    exact this
def Preds_txn_span (fv : Value) (p : T_txn_span → Bool) (l : List T_txn_span) (w : World) : Prop := ∀ d ∈ l, ∀ w' (k : Bool → World → Prop), Bel w w' → (∀ w'', Bel w' w'' → k (p d) w'') → CallV Tryz.prog fv [T_txn_span.v d] w' (fun e w'' => ∃ r : Bool, e = .returned (.bool r) ∧ k r w'')
theorem has_txn_span_ok {w : World} {x : Sl} {l : List T_txn_span} (hd : Rd T_txn_span.cells 3 w x l) {fv : Value} {p : T_txn_span → Bool} (hp : Preds_txn_span fv p l w) {k : Bool → World → Prop} (H : ∀ w', Bel w w' → k (l.any p) w') :
    Cl Tryz.prog fn_slices_ContainsFunc_txn_span_txn_span [Sl.v x, fv].toArray w (fun e w' => ∃ r0 : Bool, e = .returned (.bool r0) ∧ k r0 w') := by
  have dbig := hd.big; have dcap := hd.cap; have dlen := hd.len
  refine L1_slices_ContainsFunc_txn_span_txn_span x _ w k ?_
  unfold V_slices_ContainsFunc_txn_span_txn_span
  refine L1_slices_IndexFunc_txn_span_txn_span x _ w _ ?_
  unfold V_slices_IndexFunc_txn_span_txn_span
  refine ⟨fun i w1 => ∃ n : Nat, i = (n : Int) ∧ n ≤ l.length ∧ Bel w w1 ∧ (l.take n).any p = false, fun i _ => (x.len - i).toNat, ⟨0, rfl, by omega, Bel.refl _, by simp⟩, ?_⟩
  rintro i w1 ⟨n, rfl, hn, hb, hno⟩
  unfold V_slices_IndexFunc_txn_span_txn_span_l1b
  refine ⟨fun hc => ?_, fun hc => ?_⟩
  · obtain ⟨d, hdn⟩ := getE (l := l) (n := n) (by omega)
    refine S.idx (hd.bel hb) und_L_txn_span esz_L_txn_span (by omega) (x := d) (by simpa using hdn) fun ad hA => ?_
    refine S.ldA agg_txn_span d rfl hA rfl ?_
    refine hp d (List.mem_of_getElem? hdn) w1 _ hb fun w2 b2 => ⟨fun ht => ?_, fun hf => ?_⟩
    · dsimp only
      rw [decide_eq_true (p := 0 ≤ (n : Int)) (by omega), ← any_hit hdn p ht]
      exact H w2 (hb.trans b2)
    · rw [wr64 (by omega) (by omega)]
      exact ⟨⟨n + 1, by omega, by omega, hb.trans b2, by rw [any_take hdn p hno]; exact hf⟩, by dsimp only; omega⟩
  · obtain rfl : n = l.length := by omega
    rw [List.take_length] at hno
    have := H w1 hb
    rw [hno] at this
    exact this
def Preds_api_Pair (fv : Value) (p : T_api_Pair → Bool) (l : List T_api_Pair) (w : World) : Prop := ∀ d ∈ l, ∀ w' (k : Bool → World → Prop), Bel w w' → (∀ w'', Bel w' w'' → k (p d) w'') → CallV Tryz.prog fv [T_api_Pair.v d] w' (fun e w'' => ∃ r : Bool, e = .returned (.bool r) ∧ k r w'')
theorem has_api_Pair_ok {w : World} {x : Sl} {l : List T_api_Pair} (hd : Rd T_api_Pair.cells 2 w x l) {fv : Value} {p : T_api_Pair → Bool} (hp : Preds_api_Pair fv p l w) {k : Bool → World → Prop} (H : ∀ w', Bel w w' → k (l.any p) w') :
    Cl Tryz.prog fn_slices_ContainsFunc_api_Pair_api_Pair [Sl.v x, fv].toArray w (fun e w' => ∃ r0 : Bool, e = .returned (.bool r0) ∧ k r0 w') := by
  have dbig := hd.big; have dcap := hd.cap; have dlen := hd.len
  refine L1_slices_ContainsFunc_api_Pair_api_Pair x _ w k ?_
  unfold V_slices_ContainsFunc_api_Pair_api_Pair
  refine L1_slices_IndexFunc_api_Pair_api_Pair x _ w _ ?_
  unfold V_slices_IndexFunc_api_Pair_api_Pair
  refine ⟨fun i w1 => ∃ n : Nat, i = (n : Int) ∧ n ≤ l.length ∧ Bel w w1 ∧ (l.take n).any p = false, fun i _ => (x.len - i).toNat, ⟨0, rfl, by omega, Bel.refl _, by simp⟩, ?_⟩
  rintro i w1 ⟨n, rfl, hn, hb, hno⟩
  unfold V_slices_IndexFunc_api_Pair_api_Pair_l1b
  refine ⟨fun hc => ?_, fun hc => ?_⟩
  · obtain ⟨d, hdn⟩ := getE (l := l) (n := n) (by omega)
    refine S.idx (hd.bel hb) und_L_api_Pair esz_L_api_Pair (by omega) (x := d) (by simpa using hdn) fun ad hA => ?_
    refine S.ldA agg_api_Pair d rfl hA rfl ?_
    refine hp d (List.mem_of_getElem? hdn) w1 _ hb fun w2 b2 => ⟨fun ht => ?_, fun hf => ?_⟩
    · dsimp only
      rw [decide_eq_true (p := 0 ≤ (n : Int)) (by omega), ← any_hit hdn p ht]
      exact H w2 (hb.trans b2)
    · rw [wr64 (by omega) (by omega)]
      exact ⟨⟨n + 1, by omega, by omega, hb.trans b2, by rw [any_take hdn p hno]; exact hf⟩, by dsimp only; omega⟩
  · obtain rfl : n = l.length := by omega
    rw [List.take_length] at hno
    have := H w1 hb
    rw [hno] at this
    exact this
def spanHas (x : Spn) (key : ByteArray) : Bool := if x.only = true then decide (key = x.from_) else (!sLt key x.from_) && (decide (x.to_ = noB) || sLt key x.to_)
theorem span_ok (x : Spn) (key : ByteArray) (w : World) {k : Bool → World → Prop} (H : ∀ w', Bel w w' → k (spanHas x key) w') :
    Cl Tryz.prog fn_txn_span_has [T_txn_span.v x, .string key].toArray w (fun e w' => ∃ r0 : Bool, e = .returned (.bool r0) ∧ k r0 w') := by
  refine L1_txn_span_has x key w k ?_
  unfold V_txn_span_has V_txn_span_has_r2 V_txn_span_has_r1
  refine S.boxW (cs := x.cells) rfl fun B w1 b1 hX _ => ?_
  refine S.fld fld_txn_span_only one_bool hX.at x.only rfl ?_
  have h := H w1 b1
  unfold spanHas at h
  refine ⟨fun ho => ?_, fun ho => ?_⟩
  · rw [if_pos ho] at h
    exact S.fld fld_txn_span_from one_string hX.at x.from_ rfl h
  · rw [if_neg (by simp [ho])] at h
    refine S.fld fld_txn_span_from one_string hX.at x.from_ rfl ⟨fun h1 => ?_, fun h1 => ?_⟩
    · rw [h1] at h
      refine S.fld fld_txn_span_to one_string hX.at x.to_ rfl ⟨fun h2 => ?_, fun h2 => ?_⟩
      · rw [show decide (x.to_ = noB) = true from decide_eq_true h2] at h
        exact h
      · rw [show decide (x.to_ = noB) = false from decide_eq_false h2] at h
        exact S.fld fld_txn_span_to one_string hX.at x.to_ rfl h
    · rw [h1] at h
      exact h
def conf (t : Tx) (v : Ver) : Bool := decide (t.began < v.At) && t.reads.any (fun x => spanHas x v.Key)
theorem conf11_ok (x : Spn) {w : World} {B : Nat} {v : Ver} (hB : Row w B v.cells ty_api_Version) {k : Bool → World → Prop} (H : ∀ w', Bel w w' → k (spanHas x v.Key) w') :
    Cl Tryz.prog fn_txn_Manager_conflicts_1_1 [T_txn_span.v x, .pointer (ptrA B)].toArray w (fun e w' => ∃ r0 : Bool, e = .returned (.bool r0) ∧ k r0 w') := by
  refine L1_txn_Manager_conflicts_1_1 x (ptrA B) w k ?_
  unfold V_txn_Manager_conflicts_1_1
  refine S.boxW (cs := x.cells) rfl fun C w1 b1 hX _ => ?_
  refine S.ldA agg_txn_span x rfl hX.at rfl ?_
  refine S.fld fld_api_Version_Key one_string (hB.bel b1).at v.Key rfl ?_
  exact span_ok x v.Key w1 fun w2 b2 => H w2 (b1.trans b2)
theorem conf1_ok (v : Ver) {w : World} {B tb wb : Nat} {rs : Sl} {t : Tx} (hB : Row w B [.pointer (ptrA tb)] ty_P_txn_tx) (hT : Row w tb [.int .u64 t.began, Sl.v rs, .map (some wb)] ty_txn_tx) (hR : Rd T_txn_span.cells 3 w rs t.reads) {k : Bool → World → Prop} (H : ∀ w', Bel w w' → k (conf t v) w') :
    Cl Tryz.prog fn_txn_Manager_conflicts_1 [T_api_Version.v v, .pointer (ptrA B)].toArray w (fun e w' => ∃ r0 : Bool, e = .returned (.bool r0) ∧ k r0 w') := by
  refine L1_txn_Manager_conflicts_1 v (ptrA B) w k ?_
  unfold V_txn_Manager_conflicts_1 V_txn_Manager_conflicts_1_r1
  refine S.boxW (cs := v.cells) rfl fun C w1 b1 hX _ => ?_
  have hB1 := hB.bel b1
  have hT1 := hT.bel b1
  refine Q.fld fld_api_Version_At one_uint64 hX.at v.At rfl ?_
  refine Q.ld1 one_P_txn_tx (ptrA tb) hB1.cell ⟨trivial, ?_⟩
  refine Q.fld fld_txn_tx_began one_uint64 hT1.at t.began rfl ⟨fun hc => ?_, fun hc => ?_⟩
  · refine Q.ld1 one_P_txn_tx (ptrA tb) hB1.cell ⟨trivial, ?_⟩
    refine Q.fld fld_txn_tx_reads one_L_txn_span hT1.at rs rfl ?_
    refine ⟨t.reads.any (fun x => spanHas x v.Key), fun W hW => ?_, fun W hW => ?_⟩
    · refine (has_txn_span_ok (hR.bel (b1.trans hW)) (p := fun x => spanHas x v.Key) (fun d _ w' k' hb hk => .inl ⟨fn_txn_Manager_conflicts_1_1, [], [.pointer (ptrA C)], rfl, ent60, conf11_ok d ((hX.bel hW).bel hb) hk⟩) (k := fun r w' => r = t.reads.any (fun x => spanHas x v.Key) ∧ Bel W w') fun w' hb => ⟨rfl, hb⟩).mono fun e w' ⟨r, he, hr, hb⟩ => ⟨by rw [he, hr], hb⟩
    · have := H W (b1.trans hW)
      unfold conf at this
      rw [decide_eq_true hc, Bool.true_and] at this
      exact this
  · intro W hW
    have := H W (b1.trans hW)
    unfold conf at this
    rw [decide_eq_false hc, Bool.false_and] at this
    exact this
theorem conflicts_ok {ρ : Own} {w : World} {b : Nat} {s : St} {vs : Sl} {mb : Nat} {g : Int → Gh} (m : MgrAt ρ w b s vs mb g) {n : Int} {t : Tx} (ht : s.tx n = some t) {k : Bool → World → Prop} (H : ∀ w', Bel w w' → k (s.l.any (conf t)) w') :
    Cl Tryz.prog fn_txn_Manager_conflicts [.pointer (ptrA b), .pointer (ptrA (g n).tb)].toArray w (fun e w' => ∃ r0 : Bool, e = .returned (.bool r0) ∧ k r0 w') := by
  refine L1_txn_Manager_conflicts (ptrA b) (ptrA (g n).tb) w k ?_
  unfold V_txn_Manager_conflicts
  refine S.boxW (cs := [.pointer (ptrA (g n).tb)]) rfl fun B w1 b1 hB _ => ⟨trivial, ?_⟩
  have m1 := m.bel b1
  have mt := m1.tx n t ht
  refine ⟨_, w1, fld_txn_Manager_versions _ _, ?_⟩
  refine S.fld fld_api_Versions_List one_L_api_Version m1.versAt vs rfl ?_
  exact has_api_Version_ok m1.vers (p := conf t) (fun d _ w' k' hb hk => .inl ⟨fn_txn_Manager_conflicts_1, [], [.pointer (ptrA B)], rfl, ent58, conf1_ok d (hB.bel hb) (mt.row.bel hb) ((mt.rd.rd fun _ => rfl).bel hb) hk⟩) fun w2 b2 => H w2 (b1.trans b2)
end Go.Proofs.YtealcoghiaeiiaaGreat.VG
set_option linter.unusedVariables false
namespace Go.Proofs.YtealcoghiaeiiaaGreat.VG
open Go.VB Go.VB.Srt Go.Proofs Go.RowKit
abbrev WriOwn (base : Nat) (w : World) (s : Sl) (l : List Wri) : Prop := OwnS T_api_Write.cells 3 ty_api_Write base w s l
theorem WriOwn.rd {base : Nat} {w : World} {s : Sl} {l : List Wri} (h : WriOwn base w s l) : WriRd w s l := OwnS.rd h (fun _ => rfl)
abbrev encW (x : Wri) : List Value := [T_api_Write.v x]
theorem walkIter {κ ν : Type} {w w' : World} {ek : κ → Value} {ev : ν → Value} {b r : Nat} {f : κ → Option ν} {ks : List κ} (h : IterIs ek ev w b r f ks) (hk : KeepsWalks w w') : IterIs ek ev w' b r f ks := by
  obtain ⟨c, sb, h1⟩ := h.blk
  obtain ⟨es, c', h2⟩ := h.mapLt
  exact h.keep ((hk.same b _ h2 rfl).trans h2.symm) ((hk.same r _ h1 rfl).trans h1.symm)
theorem KeepsWalks.row {w w' : World} {row : Option Nat} (hg : w.grownBy w' row) (hr : ∀ r, row = some r → ∃ cs t fr, w.heap[r]? = some (.cells cs t fr)) : KeepsWalks w w' :=
  ⟨hg.size, fun k o hk ho => (hg.block k (Array.getElem?_eq_some_iff.1 hk).1 (fun e => by
    obtain ⟨cs, t, fr, h⟩ := hr k e.symm
    rw [h] at hk; cases hk; cases ho)).trans hk⟩
def ValsOf (f : ByteArray → Option Wri) (xs : List Wri) : Prop := ∃ ks, Doms f ks ∧ xs = ks.filterMap f
theorem filterMap_len {α β : Type} (f : α → Option β) (ks : List α) (h : ∀ k ∈ ks, ∃ v, f k = some v) : (ks.filterMap f).length = ks.length := by
  induction ks with
  | nil => rfl
  | cons a ks ih =>
    obtain ⟨v, hv⟩ := h a (by simp)
    rw [List.filterMap_cons_some hv, List.length_cons, List.length_cons, ih fun k hk => h k (by simp [hk])]
theorem values1_ok {w : World} {f : ByteArray → Option Wri} {b b1 : Nat} (h : MapIs Value.string T_api_Write.v w b f) (h1 : Row w b1 [.map (some b)] ty_map_string_api_Write) {dom : List ByteArray} (hd : Doms f dom) :
    SeqStopsK (FW none) 0 Tryz.prog fn_maps_Values_map_string_api_Write_string_api_Write_1 [.pointer (some ⟨b1, 0, none⟩)].toArray (fun x => (encW x).toArray) KeepsWalks (ValsOf f) (fun _ => True) dom.length w := by
  intro l' J Jx W hW hJ hJx hY h0
  have C := L1_maps_Values_map_string_api_Write_string_api_Write_1 (.func (.yield l') #[] #[]) (some ⟨b1, 0, none⟩) W (fun w' => (∃ xs, ValsOf f xs ∧ J xs w') ∨ (∃ pre, True ∧ Jx pre w')) ?_
  · exact CallsIn.mono C fun e w' hr => ⟨⟨_, hr.1⟩, hr.2⟩
  unfold V_maps_Values_map_string_api_Write_string_api_Write_1
  refine S.ld1 one_map_string_api_Write (some b) (h1.bel hW).cell ?_
  refine S.rng (h.bel hW) und_map_string_api_Write fun W1 hi hb1 => ?_
  have hblt : b < W.heap.size := (h.bel hW).lt
  have hj0 : J [] W1 := hJ _ _ _ none h0 (grown_bel hb1 none) (fun r e => by cases e)
  generalize hR : W.heap.size = R at hi hblt ⊢
  refine ⟨fun w1 => ∃ ks, IterIs Value.string T_api_Write.v w1 b R f ks ∧ J (ks.filterMap f) w1, fun w1 => dom.length - iterLen w1 R, ⟨[], hi, hj0⟩, ?_⟩
  rintro w1 ⟨ks, hi1, hj1⟩
  unfold V_maps_Values_map_string_api_Write_string_api_Write_1_l1b
  refine S.next hi1 (by omega) inj_str (fun hall => ?_) fun x v w2 hx hn hi2 hg => ?_
  · exact ⟨fun _ => .inl ⟨_, ⟨ks, ⟨hi1.nd, fun x => ⟨hi1.dom x, fun ⟨v, hv⟩ => hall x v hv⟩⟩, rfl⟩, hj1⟩, fun k v e => by cases e⟩
  · refine ⟨fun e => (nomatch e), fun k v' e => ?_⟩
    cases e
    have hj2 : J (ks.filterMap f) w2 := hJ _ _ _ (some R) hj1 hg (fun r e => by
      cases e
      obtain ⟨c, sb, hb⟩ := hi1.blk
      exact ⟨by omega, _, hb, rfl⟩)
    have hcl : (ks ++ [x]).length ≤ dom.length := nodup_le hi2.nd fun y hy => (hd.2 y).2 (hi2.dom y hy)
    have hl1 := hi1.size
    rw [List.length_append, List.length_singleton] at hcl
    have hfl := filterMap_len f ks hi1.dom
    refine S.iterEntry hi2 hx inj_str ?_
    refine S.newW new_api_Write rfl agg_api_Write (cs := v.cells) rfl rfl rfl fun C w3 b3 hX _ => ?_
    have hj3 : J (ks.filterMap f) w3 := hJ _ _ _ none hj2 (grown_bel b3 none) (fun r e => by cases e)
    have hi3 := hi2.bel b3
    refine S.ldA agg_api_Write v rfl hX.at rfl ?_
    refine .inr ⟨l', rfl, YieldAt.mono (hY _ v w3 hj3 (by omega)) fun e' w4 hr => ?_⟩
    rcases hr with ⟨rfl, hj4, hk⟩ | ⟨rfl, hj4⟩
    · refine ⟨true, rfl, fun h => (nomatch h), fun _ => ?_⟩
      have hi4 := walkIter hi3 hk
      refine ⟨⟨_, hi4, by rw [List.filterMap_append, List.filterMap_cons_some hx]; exact hj4⟩, ?_⟩
      have hl3 := hi4.size
      rw [List.length_append, List.length_singleton] at hl3
      dsimp only
      omega
    · exact ⟨false, rfl, fun _ => .inr ⟨_, trivial, hj4⟩, fun h => (nomatch h)⟩
theorem values_ok {w : World} {f : ByteArray → Option Wri} {b : Nat} (h : MapIs Value.string T_api_Write.v w b f) {dom : List ByteArray} (hd : Doms f dom) {k : Value → World → Prop}
    (H : ∀ v w', SeqAt Tryz.prog v encW KeepsWalks (ValsOf f) (fun _ => True) dom.length w' → Bel w w' → k v w') :
    Cl Tryz.prog fn_maps_Values_map_string_api_Write_string_api_Write [.map (some b)].toArray w (fun e w' => ∃ v : Value, e = .returned v ∧ k v w') := by
  refine L1_maps_Values_map_string_api_Write_string_api_Write (some b) w k ?_
  unfold V_maps_Values_map_string_api_Write_string_api_Write
  refine S.boxW (cs := [.map (some b)]) rfl fun B w1 b1 hr1 _ => ?_
  exact H _ _ ⟨fn_maps_Values_map_string_api_Write_string_api_Write_1, _, rfl, ent82, values1_ok (h.bel b1) hr1 hd⟩ b1
theorem wri_app1 {base : Nat} {w0 w : World} {s : Sl} {l : List Wri} {x : Wri} {k : Sl → World → Prop} (hO : WriOwn base w s l) (hB : Bel w0 w) (hb : w0.heap.size ≤ base) (hbw : base ≤ w.heap.size) (room : l.length + 1 ≤ 1000000000)
    (H : ∀ s' w', WriOwn base w' s' (l ++ [x]) → Bel w0 w' → w.grownBy w' (Sl.v s).ownBlock → k s' w') :
    opE Tryz.prog Sl.v (Instr.buildSlice ty_L_api_Write 1 [(0, T_api_Write.v x)].toArray) w (fun y w => opE Tryz.prog Sl.v (Builtin.append_ #[ty_L_api_Write, ty_L_api_Write] ty_L_api_Write [Sl.v s, Sl.v y].toArray) w k) :=
  S.app1 hO (fun _ => rfl) (fun _ => rfl) (by decide) und_L_api_Write einf_L_api_Write rfl (by decide) (bs1_L_api_Write x) hB hb hbw (by omega) H
theorem collectW_ok {v : Value} {Sq Sp : List Wri → Prop} {Num : Nat} {w : World} (hs : SeqAt Tryz.prog v encW KeepsWalks Sq Sp Num w) (hN : Num ≤ 100000000) {k : Sl → World → Prop}
    (H : ∀ r w' xs base, w.heap.size ≤ base → Sq xs → WriOwn base w' r xs → Bel w w' → k r w') : Cl Tryz.prog fn_slices_Collect_api_Write [v].toArray w (fun e w' => ∃ r0 : Sl, e = .returned (Sl.v r0) ∧ k r0 w') := by
  refine L1_slices_Collect_api_Write v w k ?_
  unfold V_slices_Collect_api_Write
  refine L1_slices_AppendSeq_api_Write_api_Write Sl.none v w k ?_
  unfold V_slices_AppendSeq_api_Write_api_Write
  refine S.box rfl ?_
  have hb0 : Bel w (w.alloc (.cells [Sl.v Sl.none].toArray ty_L_api_Write)) := Bel.alloc _ _
  have hr0 := Row.new w [Sl.v Sl.none] ty_L_api_Write
  have hsz : (w.alloc (.cells [Sl.v Sl.none].toArray ty_L_api_Write)).heap.size = w.heap.size + 1 := size_alloc' _ _
  have hlo0 := hr0.lt
  generalize hB : w.heap.size = B at hr0 hsz hlo0 ⊢
  generalize (w.alloc (.cells [Sl.v Sl.none].toArray ty_L_api_Write)) = w1 at hb0 hr0 hsz hlo0 ⊢
  refine ⟨T_api_Write.cells, KeepsWalks, Sq, Sp, Num, fun pre W => ∃ sl, Row W B [Sl.v sl] ty_L_api_Write ∧ WriOwn w1.heap.size W sl pre ∧ Bel w W ∧ w1.heap.size ≤ W.heap.size, fun _ _ => False,
    ⟨hs.later hb0, fun _ _ _ => KeepsWalks.trans, fun W l o o' h1 h2 h3 h4 => KeepsWalks.putObj o' h2 h4, fun pre W o _ => KeepsWalks.alloc W o, fun s W W' row hi hg hr => ?_, fun s W W' row hi hg hr => hi, fun pre W hi => hi.elim fun _ h => h.2.2.2, ⟨Sl.none, hr0, OwnS.nil _ _ _ _ _, hb0, Nat.le_refl _⟩⟩,
    fun x W k hk => S.new new_api_Write rfl agg_api_Write (cs := x.cells) rfl rfl rfl hk, ?_, ?_, ?_⟩
  · obtain ⟨sl, h1, h2, h3, h4⟩ := hi
    exact ⟨sl, h1.notwalk hg hr, h2.notwalk hg hr, h3.notwalk (by omega) hg hr, Nat.le_trans h4 hg.size⟩
  · rintro pre x Bx W hBx hx ⟨sl, h1, h2, h3, h4⟩ hlen
    unfold V_slices_AppendSeq_api_Write_api_Write_f1b
    have hx' : Row W Bx x.cells ty_api_Write := hx
    refine S.ld1 one_L_api_Write sl h1.cell ?_
    refine S.ldA agg_api_Write x rfl hx'.at rfl ?_
    refine wri_app1 (w0 := w) (w := W) h2 h3 (by omega) h4 (by omega) fun s' w' h5 h6 h7 => ?_
    have hne : (Sl.v sl).ownBlock ≠ some B := fun e => by have := h2.lo e; omega
    have hr1 := h1.grown h7 hne
    refine S.st0 one_L_api_Write hr1 (by cases s' with | mk a l c => cases a <;> rfl) (by cases s' with | mk a l c => cases a <;> rfl) fun w'' hr2 hg2 => ?_
    refine ⟨(KeepsFrom.row h7 fun r hr => h2.isRow hr).trans (KeepsFrom.row hg2 fun r hr => by cases hr; exact ⟨_, _, _, hr1⟩), (KeepsWalks.row h7 fun r hr => h2.isRow hr).trans (KeepsWalks.row hg2 fun r hr => by cases hr; exact ⟨_, _, _, hr1⟩), s', hr2, h5.kept hg2 ?_, ?_, Nat.le_trans h4 (Nat.le_trans h7.size hg2.size)⟩
    · cases hq : (Sl.v s').ownBlock with
      | none => exact .inl rfl
      | some q =>
        refine .inr fun e => ?_
        have h8 := h5.lo hq
        have h9 := Option.some.inj e
        omega
    · exact h6.grown hg2 fun r hr => by cases hr; omega
  · rintro D xs W hD hS ⟨sl, h1, h2, h3, h4⟩ hK
    refine S.ld1 one_L_api_Write sl h1.cell ?_
    refine ⟨hK, ?_⟩
    have hg := shut_grown W D
    have hr : ∀ r, some D = some r → w1.heap.size ≤ r ∧ ∃ o : Obj, W.heap[r]? = some o ∧ o.isCells = false := fun r e => by cases e; exact ⟨hD, _, hK, rfl⟩
    exact H sl _ xs _ (by omega) hS (h2.notwalk hg hr) (h3.notwalk (by omega) hg hr)
  · exact fun D pre W h1 h2 h3 h4 => trivial
def kltB (a b : Wri) : Bool := sLt a.Key b.Key
theorem kltB_swo : Srt.SWO kltB where
  irr x := by
    cases h : kltB x x with
    | false => rfl
    | true => exact absurd h (sLt_irr x.Key)
  neg x y z h := by
    unfold kltB at *
    by_cases h1 : sLt x.Key y.Key = true
    · exact .inl h1
    · right
      by_cases h2 : x.Key = y.Key
      · rw [← h2]; exact h
      · exact sLt_tr (sLt_tot h1 h2) h
  asy x y h := by
    cases h1 : kltB y x with
    | false => rfl
    | true => exact absurd h1 (sLt_asy h)
theorem sorted1_ok (a b : Wri) (w : World) {k : Int → World → Prop} (H : ∀ w', Bel w w' → k (cmpS a.Key b.Key) w') : Cl Tryz.prog fn_txn_tx_sorted_1 [T_api_Write.v a, T_api_Write.v b].toArray w (fun e w' => ∃ r0 : Int, e = .returned (.int .i64 r0) ∧ k r0 w') := by
  refine L1_txn_tx_sorted_1 a b w k ?_
  unfold V_txn_tx_sorted_1
  refine S.boxW (cs := a.cells) rfl fun B w1 b1 hA _ => ?_
  refine S.boxW (cs := b.cells) rfl fun C w2 b2 hB _ => ?_
  refine S.fld fld_api_Write_Key one_string (hA.bel b2).at a.Key rfl ?_
  refine S.fld fld_api_Write_Key one_string hB.at b.Key rfl ?_
  exact compareS_ok a.Key b.Key w2 (H w2 (b1.trans b2))
theorem sorted1_cmps : SoCmpFunc_api_Write.Cmps (.func (.func fn_txn_tx_sorted_1) #[] #[]) kltB := fun w x y =>
  ⟨cmpS x.Key y.Key, ⟨fn_txn_tx_sorted_1, [], [], rfl, ent63, fun w' _ => (sorted1_ok x y w' (k := fun r W => r = cmpS x.Key y.Key ∧ Bel w' W) fun W hb => ⟨rfl, hb⟩).mono fun e W ⟨r, he, hr, hb⟩ => ⟨by rw [he, hr], hb⟩⟩, by rw [cmpS_lt]; exact Iff.rfl⟩
def Sorts (f : ByteArray → Option Wri) (ys : List Wri) : Prop := ys.Pairwise (fun a b => sLt a.Key b.Key = true) ∧ ∀ x, x ∈ ys ↔ f x.Key = some x
theorem Sorts.one {f : ByteArray → Option Wri} {xs ys : List Wri} (h : Sorts f xs) (k : Sorts f ys) : xs = ys := by
  have hm : ∀ x, x ∈ xs ↔ x ∈ ys := fun x => by rw [h.2, k.2]
  have h1 := h.1
  have k1 := k.1
  clear h k
  induction xs generalizing ys with
  | nil => cases ys with
    | nil => rfl
    | cons b ys => exact absurd ((hm b).2 (by simp)) (by simp)
  | cons a xs ih =>
    cases ys with
    | nil => exact absurd ((hm a).1 (by simp)) (by simp)
    | cons b ys =>
      obtain ⟨h2, h3⟩ := List.pairwise_cons.1 h1
      obtain ⟨k2, k3⟩ := List.pairwise_cons.1 k1
      have hab : a = b := by
        rcases List.mem_cons.1 ((hm a).1 (by simp)) with e | e
        · exact e
        · rcases List.mem_cons.1 ((hm b).2 (by simp)) with e' | e'
          · exact e'.symm
          · exact absurd (h2 b e') (sLt_asy (k2 a e))
      subst hab
      rw [ih (fun x => ?_) h3 k3]
      constructor
      · intro hx
        rcases List.mem_cons.1 ((hm x).1 (by simp [hx])) with e | e
        · subst e; exact absurd (h2 x hx) (sLt_irr _)
        · exact e
      · intro hx
        rcases List.mem_cons.1 ((hm x).2 (by simp [hx])) with e | e
        · subst e; exact absurd (k2 x hx) (sLt_irr _)
        · exact e
theorem sorts_of {f : ByteArray → Option Wri} (hk : ∀ k x, f k = some x → x.Key = k) {xs ys : List Wri} (hx : ValsOf f xs) (hp : ys.Perm xs) (hl : ys.Pairwise (fun x y => Le kltB x y)) : Sorts f ys ∧ ∃ ks, Doms f ks ∧ ks.length = ys.length := by
  obtain ⟨ks, hd, rfl⟩ := hx
  have hmem : ∀ x, x ∈ ys ↔ f x.Key = some x := fun x => by
    rw [hp.mem_iff, List.mem_filterMap]
    constructor
    · rintro ⟨k, _, h⟩
      rw [hk k x h]; exact h
    · exact fun h => ⟨x.Key, (hd.2 _).2 ⟨x, h⟩, h⟩
  have hnd : (ks.filterMap f).Pairwise (fun x y => x.Key ≠ y.Key) := by
    rw [List.pairwise_filterMap]
    refine hd.1.imp fun {a b} hab x hx y hy e => hab ?_
    rw [← hk a x hx, ← hk b y hy, e]
  have hnd' : ys.Pairwise (fun x y => x.Key ≠ y.Key) := (hp.pairwise_iff (fun {x y} h => h.symm)).2 hnd
  have hstr : ys.Pairwise (fun a b => sLt a.Key b.Key = true) := (hl.and hnd').imp fun {x y} h12 => by
    cases h : sLt x.Key y.Key with
    | true => rfl
    | false =>
      have h3 : sLt y.Key x.Key = true := sLt_tot (by rw [h]; decide) h12.2
      have h4 : sLt y.Key x.Key = false := h12.1
      rw [h3] at h4; cases h4
  exact ⟨⟨hstr, hmem⟩, ks, hd, by rw [hp.length_eq, filterMap_len f ks fun k hk' => (hd.2 k).1 hk']⟩
theorem sortedW_ok {ρ : Own} {w : World} {n : Int} {t : Tx} {g : Gh} (mt : TxAt ρ w n t g) (hk : ∀ k x, t.wr k = some x → x.Key = k) {dom : List ByteArray} (hd : Doms t.wr dom) (hN : dom.length ≤ 100000000) {k : Sl → World → Prop}
    (H : ∀ r w' ys base, w.heap.size ≤ base → Sorts t.wr ys → WriOwn base w' r ys → Bel w w' → k r w') :
    Cl Tryz.prog fn_txn_tx_sorted [.pointer (ptrA g.tb)].toArray w (fun e w' => ∃ r0 : Sl, e = .returned (Sl.v r0) ∧ k r0 w') := by
  refine L1_txn_tx_sorted (ptrA g.tb) w k ?_
  unfold V_txn_tx_sorted
  refine ⟨trivial, ?_⟩
  refine S.fld fld_txn_tx_writes one_map_string_api_Write mt.row.at (some g.wb) rfl ?_
  refine values_ok mt.wr hd fun v w1 hs b1 => ?_
  refine L1_slices_SortedFunc_api_Write v _ w1 k ?_
  unfold V_slices_SortedFunc_api_Write
  refine collectW_ok hs hN fun r w2 xs base hb hS hO hbel => ?_
  refine SoCmpFunc_api_Write.sort_ok kltB_swo sorted1_cmps hO fun ys w3 hp hpw hO2 hg => ?_
  exact H r w3 ys base (Nat.le_trans b1.le hb) (sorts_of hk hS hp hpw).1 hO2 ((b1.trans hbel).grown hg fun q hq => Nat.le_trans (Nat.le_trans b1.le hb) (hO.lo hq))
end Go.Proofs.YtealcoghiaeiiaaGreat.VG
set_option linter.unusedVariables false
namespace Go.Proofs.YtealcoghiaeiiaaGreat.VG
open Go.VB Go.Proofs Go.RowKit
def putS (s : St) (p : List Ver × Int × Int) : St := { s with l := p.1, low := p.2.1, now := s.now + 1 }
def Few (t : Tx) : Prop := ∃ ks, Doms t.wr ks ∧ ks.length ≤ 256
def Keyed (t : Tx) : Prop := ∀ k x, t.wr k = some x → x.Key = k
theorem wu64 {n : Int} (h0 : 0 ≤ n) (h1 : n ≤ 18446744073709551615) : IntKind.wrap .u64 n = n := IntWalk.u64_in _ ⟨h0, h1⟩
section
variable {ρ : Own} {w : World} {b : Nat} {s : St}
theorem abort_nil (n : Int) (w : World) {k : Int → World → Prop} (H : k 1 w) : Cl Tryz.prog fn_txn_Manager_Abort [.pointer none, .int .i64 n].toArray w (fun e w' => ∃ r0 : Int, e = .returned (.int .i64 r0) ∧ k r0 w') := by
  refine L1_txn_Manager_Abort none n w k ?_
  unfold V_txn_Manager_Abort
  exact at_nil n w ⟨fun _ => H, fun h => absurd (by decide) h⟩
theorem peek_nil (n : Int) (w : World) {k : Sl → Bool → Int → World → Prop} (H : k Sl.none false 1 w) : Cl Tryz.prog fn_txn_Manager_Peek [.pointer none, .int .i64 n].toArray w (fun e w' => ∃ (r0 : Sl) (r1 : Bool) (r2 : Int), e = .returned (.tuple [Sl.v r0, .bool r1, .int .i64 r2].toArray) ∧ k r0 r1 r2 w') := by
  refine L1_txn_Manager_Peek none n w k ?_
  unfold V_txn_Manager_Peek
  exact at_nil n w ⟨fun _ => H, fun h => absurd (by decide) h⟩
theorem commit_nil (n : Int) (w : World) {k : Sl → Int → Int → World → Prop} (H : k Sl.none 0 1 w) : Cl Tryz.prog fn_txn_Manager_Commit [.pointer none, .int .i64 n].toArray w (fun e w' => ∃ (r0 : Sl) (r1 : Int) (r2 : Int), e = .returned (.tuple [Sl.v r0, .int .u64 r1, .int .i64 r2].toArray) ∧ k r0 r1 r2 w') := by
  refine L1_txn_Manager_Commit none n w k ?_
  unfold V_txn_Manager_Commit
  exact at_nil n w ⟨fun _ => H, fun h => absurd (by decide) h⟩
theorem commit_ok (h : Mgr ρ w b s) (n : Int) (hF : ∀ t, s.tx n = some t → Few t ∧ Keyed t) (hn0 : 0 ≤ s.now) (hn1 : s.now < 4611686018427387904) {k : Sl → Int → Int → World → Prop}
    (H0 : s.tx n = none → k Sl.none 0 11 w)
    (H1 : ∀ t ρ' w', s.tx n = some t → s.l.any (conf t) = true → Mgr ρ' w' b (overS s n) → Ext ρ w ρ' w' → k Sl.none 0 10 w')
    (H2 : ∀ t ρ' w', s.tx n = some t → s.l.any (conf t) = false → (∀ x, t.wr x = none) → Mgr ρ' w' b (overS s n) → Ext ρ w ρ' w' → k Sl.none s.now 0 w')
    (H3 : ∀ t ys ρ' w', s.tx n = some t → s.l.any (conf t) = false → Sorts t.wr ys → (∃ x, t.wr x ≠ none) → (vput s.l s.low ys (s.now + 1)).2.2 ≠ 0 → Mgr ρ' w' b (overS s n) → Ext ρ w ρ' w' → k Sl.none 0 (vput s.l s.low ys (s.now + 1)).2.2 w')
    (H4 : ∀ t ys r ρ' w', s.tx n = some t → s.l.any (conf t) = false → Sorts t.wr ys → (∃ x, t.wr x ≠ none) → (vput s.l s.low ys (s.now + 1)).2.2 = 0 → Mgr ρ' w' b (overS (putS s (vput s.l s.low ys (s.now + 1))) n) → Ext ρ w ρ' w' →
      WriRd w' r ys → (∀ q, (Sl.v r).ownBlock = some q → w.heap.size ≤ q ∧ q < w'.heap.size ∧ ρ' q = none) → k r (s.now + 1) 0 w') :
    Cl Tryz.prog fn_txn_Manager_Commit [.pointer (ptrA b), .int .i64 n].toArray w (fun e w' => ∃ (r0 : Sl) (r1 : Int) (r2 : Int), e = .returned (.tuple [Sl.v r0, .int .u64 r1, .int .i64 r2].toArray) ∧ k r0 r1 r2 w') := by
  obtain ⟨vs, mb, g, m⟩ := h
  refine L1_txn_Manager_Commit (ptrA b) n w k ?_
  unfold V_txn_Manager_Commit
  refine at_ok m n (fun ht => ⟨fun _ => H0 ht, fun h => absurd (by decide) h⟩) fun t ht => ⟨fun h => absurd rfl h, fun _ => ?_⟩
  refine conflicts_ok m ht fun w1 b1 => ?_
  have m1 := m.bel b1
  refine ⟨fun hc => over_d ⟨_, _, _, m1⟩ n fun ρ' w' hM hE => H1 t ρ' w' ht hc hM ((Ext.bel b1).trans hE), fun hc => ⟨trivial, ?_⟩⟩
  have mt1 := m1.tx n t ht
  refine S.fld fld_txn_tx_writes one_map_string_api_Write mt1.row.at (some (g n).wb) rfl ?_
  refine S.mlen mt1.wr inj_str und_map_string_api_Write fun ks hks => ⟨fun hz => ⟨trivial, ?_⟩, fun hz => ?_⟩
  · have hks0 : ks = [] := List.eq_nil_of_length_eq_zero (by omega)
    have hno : ∀ x, t.wr x = none := fun x => by
      cases hx : t.wr x with
      | none => rfl
      | some y => have := (hks.2 x).2 ⟨y, hx⟩; rw [hks0] at this; cases this
    refine Q.fld fld_txn_Manager_now one_uint64 m1.row.at s.now rfl fun w2 b2 => ?_
    exact over_d ⟨_, _, _, m1.bel b2⟩ n fun ρ' w' hM hE => H2 t ρ' w' ht hc hno hM ((Ext.bel (b1.trans b2)).trans hE)
  obtain ⟨⟨dom, hd, hl⟩, hk⟩ := hF t ht
  have hex : ∃ x, t.wr x ≠ none := by
    cases ks with
    | nil => exact absurd rfl hz
    | cons x ks => obtain ⟨y, hy⟩ := (hks.2 x).1 (by simp); exact ⟨x, by rw [hy]; simp⟩
  refine sortedW_ok mt1 hk hd (by omega) fun r w2 ys base hb hS hO b2 => ?_
  have b02 := b1.trans b2
  have m2 := m1.bel b2
  have J1 : ∀ W C r4 base4, Bel w2 W → Row W C [Sl.v r4, .int .u64 (vput s.l s.low ys (s.now + 1)).2.1] ty_api_Versions → w2.heap.size ≤ base4 → VerOwn base4 W r4 (vput s.l s.low ys (s.now + 1)).1 →
      V_txn_Manager_Commit_j1 (ptrA b) n k r (vput s.l s.low ys (s.now + 1)).2.2 (ptrA C) W := by
    intro W C r4 base4 hb2 hC hb4 hO4
    unfold V_txn_Manager_Commit_j1
    have b0W := b02.trans hb2
    have mW := m.bel b0W
    refine ⟨fun hne => over_d ⟨_, _, _, mW⟩ n fun ρ' w' hM hE => H3 t ys ρ' w' ht hc hS hex hne hM ((Ext.bel b0W).trans hE), fun hz0 => ?_⟩
    have hz0 := Classical.not_not.1 hz0
    refine S.ldA agg_api_Versions ⟨r4, (vput s.l s.low ys (s.now + 1)).2.1⟩ rfl hC.at rfl ⟨trivial, ?_⟩
    refine ⟨_, W, fld_txn_Manager_versions _ _, ?_⟩
    refine S.stP agg_api_Versions (vs := [Sl.v r4, .int .u64 (vput s.l s.low ys (s.now + 1)).2.1]) (off := 0) mW.row rfl (by simp) (by cases r4 with | mk a l c => cases a <;> rfl) fun W1 hR1 g1 => ⟨trivial, ?_⟩
    replace hR1 : Row W1 b [Sl.v r4, .int .u64 (vput s.l s.low ys (s.now + 1)).2.1, .int .u64 s.now, .int .i64 s.given, .map (some mb)] ty_txn_Manager := hR1
    refine S.fld fld_txn_Manager_now one_uint64 hR1.at s.now rfl ⟨trivial, ?_⟩
    rw [wu64 (by omega) (by omega)]
    refine ⟨_, W1, fld_txn_Manager_now _ _, ?_⟩
    refine S.st1 one_uint64 hR1 rfl (by simp) rfl fun W2 hR2 g2 => ⟨trivial, ?_⟩
    replace hR2 : Row W2 b [Sl.v r4, .int .u64 (vput s.l s.low ys (s.now + 1)).2.1, .int .u64 (s.now + 1), .int .i64 s.given, .map (some mb)] ty_txn_Manager := hR2
    have hg := grown_trans g1 g2
    have hs2 := b02.le
    have hsW := hb2.le
    have hsg := hg.size
    have hnew : ∀ q, (Sl.v r4).ownBlock = some q → q < W.heap.size ∧ ρ q = none := fun q hq => by
      refine ⟨hO4.lt hq, ?_⟩
      have h2 := hO4.lo hq
      cases hρ : ρ q with
      | none => rfl
      | some r0 => have h3 := m.lt q (by rw [hρ]; simp); omega
    have m3 := mW.setVers (VerOwn.rd hO4) hnew hg hR2
    have hE3 : Ext ρ w (fun q => if (Sl.v r4).ownBlock = some q then some .ve else ρ q) W2 := ⟨(Ext.bel b0W).out.trans (Out.row (S := fun q => ρ q ≠ none) hg fun q hq => by cases hq; exact .inl (by show ρ _ ≠ none; rw [m.rmg]; simp)) fun _ _ h => h, fun q hq => if_neg fun e => by have := hO4.lo e; omega⟩
    refine Q.fld fld_txn_Manager_now one_uint64 hR2.at (s.now + 1) rfl fun W3 b3 => ?_
    refine over_d (s := putS s (vput s.l s.low ys (s.now + 1))) ⟨_, _, _, m3.bel b3⟩ n fun ρ' w' hM hE => ?_
    have hrq : ∀ q, (Sl.v r).ownBlock = some q → w.heap.size ≤ q ∧ q < w2.heap.size ∧ ρ q = none ∧ (if (Sl.v r4).ownBlock = some q then some Role.ve else ρ q) = none := fun q hq => by
      have h1 := hO.lo hq
      have h2 := hO.lt hq
      have h3 : ρ q = none := by
        cases hρ : ρ q with
        | none => rfl
        | some r0 => have h3 := m.lt q (by rw [hρ]; simp); have := b1.le; omega
      refine ⟨by have := b1.le; omega, h2, h3, ?_⟩
      rw [if_neg fun e => by have := hO4.lo e; omega]; exact h3
    have hs3 := b3.le
    refine H4 t ys r ρ' w' ht hc hS hex hz0 hM ((hE3.trans (Ext.bel b3)).trans hE) ((WriOwn.rd hO).keep fun q hq => ?_) fun q hq => ?_
    · obtain ⟨h1, h2, h3, h4⟩ := hrq q hq
      rw [hE.blk (by omega) h4, b3.block q (by omega), hg.block q (by omega) (fun e => by cases e; rw [m.rmg] at h3; cases h3), hb2.block q h2]
    · obtain ⟨h1, h2, h3, h4⟩ := hrq q hq
      have := hE.out.size
      exact ⟨h1, by omega, (hE.same q (by omega)).trans h4⟩
  refine ⟨Bel w2, fun u bu => ⟨bu, trivial, ?_⟩⟩
  refine K.fa fld_txn_Manager_versions ⟨trivial, ?_⟩
  refine K.fa fld_txn_Manager_now ?_
  refine K.ldA agg_api_Versions (cs := [Sl.v vs, .int .u64 s.low]) ⟨vs, s.low⟩ rfl (fun W hW => (m2.bel hW).versAt) rfl ?_
  refine K.ld1 one_uint64 s.now (fun W hW => (m2.bel hW).row.at.fld rfl) ?_
  rw [wu64 (by omega) (by omega)]
  constructor
  · refine mput_ok (x0 := ⟨vs, s.low⟩) (m2.bel bu).vers ((WriOwn.rd hO).bel bu) (s.now + 1) fun r4 w3 base4 hb4 hO4 b3 => ?_
    refine ⟨bu.trans b3, ?_⟩
    refine S.new1W new_api_Versions fun C w4 b4 hC hC0 => ⟨(bu.trans b3).trans b4, ?_⟩
    refine S.stA agg_api_Versions (cs' := [Sl.v r4, .int .u64 (vput s.l s.low ys (s.now + 1)).2.1]) hC rfl rfl (by cases r4 with | mk a l c => cases a <;> rfl) fun w5 hC5 g5 => ?_
    have b3l := b3.le
    have bul := bu.le
    have b5 : Bel w2 w5 := ((bu.trans b3).trans b4).grown g5 fun q hq => by cases hq; omega
    exact ⟨b5, J1 w5 C r4 base4 b5 hC5 (by omega) ((hO4.bel b4).kept g5 (OwnS.ne_row (hO4.bel b4) hC (by decide) |> Or.inr))⟩
  · refine S.new1W new_api_Versions fun C w3 b3 hC hC0 => ⟨bu.trans b3, ?_⟩
    refine mput_ok (x0 := ⟨vs, s.low⟩) (m2.bel (bu.trans b3)).vers ((WriOwn.rd hO).bel (bu.trans b3)) (s.now + 1) fun r4 w4 base4 hb4 hO4 b4 => ?_
    refine ⟨(bu.trans b3).trans b4, ?_⟩
    refine S.stA agg_api_Versions (cs' := [Sl.v r4, .int .u64 (vput s.l s.low ys (s.now + 1)).2.1]) (hC.bel b4) rfl rfl (by cases r4 with | mk a l c => cases a <;> rfl) fun w5 hC5 g5 => ?_
    have b3l := b3.le
    have bul := bu.le
    have b5 : Bel w2 w5 := ((bu.trans b3).trans b4).grown g5 fun q hq => by cases hq; omega
    exact ⟨b5, J1 w5 C r4 base4 b5 hC5 (by omega) (hO4.kept g5 (OwnS.ne_row hO4 (hC.bel b4) (by decide) |> Or.inr))⟩
end
end Go.Proofs.YtealcoghiaeiiaaGreat.VG
set_option linter.unusedVariables false
set_option linter.unusedSimpArgs false
namespace Go.Proofs.YtealcoghiaeiiaaGreat.VG
open Go.VB Go.Proofs
def V_txn_New_r2 (Ret : (Option Addr) → Int → World → Prop) (x14 : Option Addr) (x21 : Int) (Kl1 : Int → World → Prop) (x6 : Option Addr) (x38 : Bool) (w : World) : Prop :=
  nextB w (fun w => (x38 = true → (Ret none 2 w)) ∧ (x38 = false → (regC w (fun C3 w => nilOk (.pointer x14) ∧ (opC C3 Tryz.prog Value.pointer (Instr.fieldAt 87 (.pointer x14) 0) (fun x42 => opC C3 Tryz.prog Value.pointer (Instr.fieldAt 69 (.pointer x42) 0) (fun x43 => opC C3 Tryz.prog Value.pointer (Instr.fieldAt 66 (.pointer x6) 0) (fun x45 => opC C3 Tryz.prog Value.pointer (Instr.fieldAt 66 (.pointer x6) 1) (fun x47 => opC C3 Tryz.prog Sl.v (Instr.loadAt 67 (.pointer x43)) (fun x44 => opC C3 Tryz.prog Value.string (Instr.loadAt 9 (.pointer x45)) (fun x46 => opC C3 Tryz.prog Value.string (Instr.loadAt 9 (.pointer x47)) (fun x48 => opC C3 Tryz.prog T_api_Version.v (Instr.build 72 [(0, (.string x46)), (1, (.int .u64 1)), (2, (.string x48))].toArray) (fun x49 => opE Tryz.prog Sl.v (Instr.buildSlice 67 1 [(0, (T_api_Version.v x49))].toArray) w (fun x50 w => C3 w ∧ (opE Tryz.prog Sl.v (Builtin.append_ #[67, 67] 67 [(Sl.v x44), (Sl.v x50)].toArray) w (fun x51 w => C3 w ∧ (nilOk (.pointer x14) ∧ (opC C3 Tryz.prog Value.pointer (Instr.fieldAt 87 (.pointer x14) 0) (fun x53 => opC C3 Tryz.prog Value.pointer (Instr.fieldAt 69 (.pointer x53) 0) (fun x54 => opU Tryz.prog (Instr.storeAt 67 (.pointer x54) (Sl.v x51)) w (fun w => (Kl1 (IntKind.wrap .i64 (x21 + 1)) w))))))))))))))))))))))
def V_txn_New_l1b (x0 : Sl) (Ret : (Option Addr) → Int → World → Prop) (x14 : Option Addr) (x21 : Int) (w : World) (Kl1 : Int → World → Prop) : Prop :=
  ((x21 < (x0.len : Int)) → (opE Tryz.prog Value.pointer (Instr.indexAt 22 (Sl.v x0) (.int .i64 x21)) w (fun x24 w => opE Tryz.prog T_api_Pair.v (Instr.loadAt 66 (.pointer x24)) w (fun x25 w => opE Tryz.prog Value.pointer (Instr.alloc 66 true (.tuple #[])) w (fun x6 w => opU Tryz.prog (Instr.storeAt 66 (.pointer x6) (T_api_Pair.v x25)) w (fun w => ((0 < x21) → (opB Tryz.prog Value.pointer (Instr.indexAt 22 (Sl.v x0) (.int .i64 (IntKind.wrap .i64 (x21 - 1)))) w (fun x32 => opB Tryz.prog Value.pointer (Instr.fieldAt 66 (.pointer x32) 0) w (fun x33 => opB Tryz.prog Value.string (Instr.loadAt 9 (.pointer x33)) w (fun x34 => opB Tryz.prog Value.pointer (Instr.fieldAt 66 (.pointer x6) 0) w (fun x35 => opB Tryz.prog Value.string (Instr.loadAt 9 (.pointer x35)) w (fun x36 => V_txn_New_r2 Ret x14 x21 Kl1 x6 (!sLt x34 x36) w))))))) ∧ (¬ (0 < x21) → (V_txn_New_r2 Ret x14 x21 Kl1 x6 false w)))))))) ∧ (¬ (x21 < (x0.len : Int)) → (Ret x14 0 w))
def V_txn_New (x0 : Sl) (w : World) (Ret : (Option Addr) → Int → World → Prop) : Prop :=
  ((4096 < (x0.len : Int)) → (Ret none 3 w)) ∧ (¬ (4096 < (x0.len : Int)) → (Cl Tryz.prog 33 [(Sl.v x0), (.func (.func 34) #[] #[])].toArray w (fun e w => ∃ (r : Bool), e = .returned (.bool r) ∧ ((r = true → (Ret none 4 w)) ∧ (r = false → (opE Tryz.prog Value.map (Instr.makeMap 85 none) w (fun x12 w => opE Tryz.prog T_txn_Manager.v (Instr.build 87 [(1, (.int .u64 1)), (3, (.map x12))].toArray) w (fun x13 w => opE Tryz.prog Value.pointer (Instr.box 87 (T_txn_Manager.v x13)) w (fun x14 w => nilOk (.pointer x14) ∧ (opE Tryz.prog Value.pointer (Instr.fieldAt 87 (.pointer x14) 0) w (fun x17 w => opE Tryz.prog Value.pointer (Instr.fieldAt 69 (.pointer x17) 1) w (fun x18 w => opU Tryz.prog (Instr.storeAt 37 (.pointer x18) (.int .u64 1)) w (fun w => ∃ (I : Int → World → Prop) (μ : Int → World → Nat), I 0 w ∧ ∀ (x21 : Int) w, I x21 w → V_txn_New_l1b x0 Ret x14 x21 w (fun x21' w' => I x21' w' ∧ μ x21' w' < μ x21 w))))))))))))))
set_option maxRecDepth 100000 in
theorem L1_txn_New (x0 : Sl) (w : World) (Ret : (Option Addr) → Int → World → Prop) (H : V_txn_New x0 w Ret) : Cl Tryz.prog 11 [(Sl.v x0)].toArray w (fun e w' => ∃ (r0 : Option Addr) (r1 : Int), e = .returned (.tuple [(.pointer r0), (.int .i64 r1)].toArray) ∧ Ret r0 r1 w') := by
  unfold V_txn_New at H
  refine C.enter 57 (zipE 0 [(Sl.v x0)]) Tryz.func11 rfl rfl (by rfl) rfl ?_
  intro a hE
  replace hE : Sat [] 57 [(0, (Sl.v x0))] a := hE
  refine C.seq (C.region (hE.as_ rfl fun _ hE => (hE.as_ rfl fun _ hE => (C.nil (tn (C.seq (C.seq (C.region (hE.mv rfl fun _ hE => (hE.purR (fun w => X.lenL hE Tryz.underlying22 rfl) fun _ hE => (hE.pur (X.gtI hE rfl rfl) fun _ hE => (C.nil (tn (C.condP hE rfl (fun hc => ?_) (fun hc => ?_)))))))))))))))
  · replace H := H.1 hc
    exact C.seq (C.region (hE.as_ rfl fun _ hE => (hE.as_ rfl fun _ hE => (C.nil (tn (C.ret (tr (C.ret2 hE rfl rfl rfl ⟨_, _, rfl, H⟩))))))))
  · replace H := H.2 hc
    refine C.skip (tn (C.seq (C.seq (C.region (hE.mv rfl fun _ hE => (hE.call (X.callF hE ent33 rfl rfl) H fun e w H => ?_))))))
    obtain ⟨r, rfl, H⟩ := H
    refine ⟨_, rfl, fun _ hE => (C.nil (tn (C.condB hE rfl (fun hc => ?_) (fun hc => ?_))))⟩
    · replace H := H.1 hc
      exact C.seq (C.region (hE.as_ rfl fun _ hE => (hE.as_ rfl fun _ hE => (C.nil (tn (C.ret (tr (C.ret2 hE rfl rfl rfl ⟨_, _, rfl, H⟩))))))))
    · replace H := H.2 hc
      refine C.skip (tn (C.seq (C.region (hE.op (X.makeMap) H fun x12 w a H hE => (hE.op (X.build hE rfl) H fun x13 w a H hE => (hE.op (X.box hE rfl) H fun x14 w a H hE => (hE.as_ rfl fun _ hE => (C.nil (tn (C.seq (C.region (hE.mv rfl fun _ hE => (hE.pur (X.nilCheck hE rfl H.1) fun _ hE => ?_)))))))))))))
      replace H := H.2
      refine hE.op (X.fieldAddr hE rfl) H fun x17 w a H hE => hE.op (X.fieldAddr hE rfl) H fun x18 w a H hE => hE.opu (X.store hE rfl rfl) H fun w a H hE => C.nil (tn (C.seq (C.seq (C.region (hE.mv rfl fun _ hE => (hE.purR (fun w => X.lenL hE Tryz.underlying22 rfl) fun _ hE => (hE.mv rfl fun _ hE => (C.nil (tn (C.block ?_))))))))))
      obtain ⟨I_l1, μ_l1, h0, hb⟩ := H
      refine C.loop (ds := []) (N := 57) (σ := Int) (fun s => [(21, (.int .i64 s)), (0, (Sl.v x0)), (4, (.pointer x14)), (19, (Sl.v x0)), (20, (.int .i64 (x0.len : Int)))]) (fun s w => I_l1 s w) (fun s w => μ_l1 s w) 0 h0 (hE.weak ⟨rfl, rfl, rfl, rfl, rfl, trivial⟩) ?_
      intro x21 w a hI hE
      try dsimp only at hI hE
      obtain ⟨Kl1, hK_l1⟩ : ∃ K : Int → World → Prop, K = (fun x21' w' => I_l1 x21' w' ∧ μ_l1 x21' w' < μ_l1 x21 w) := ⟨_, rfl⟩
      have H : V_txn_New_l1b x0 Ret x14 x21 w Kl1 := by rw [hK_l1]; exact hb x21 w hI
      clear hb h0 hI
      unfold V_txn_New_l1b at H
      refine C.seq (C.region (hE.pur (X.ltI hE rfl rfl) fun _ hE => (C.nil (tn (C.seq (C.condP hE rfl (fun hc => ?_) (fun hc => ?_)))))))
      · replace H := H.1 hc
        refine C.skip (tn (C.seq (C.block (C.seq (C.region (hE.mv rfl fun _ hE => (hE.op (X.indexAddr hE rfl rfl) H fun x24 w a H hE => (hE.op (X.load hE rfl) H fun x25 w a H hE => (hE.op (X.alloc) H fun x6 w a H hE => (hE.as_ rfl fun _ hE => (hE.opu (X.store hE rfl rfl) H fun w a H hE => (C.nil (tn (C.seq (C.seq (C.draw (by kernel_rfl) (by kernel_rfl) (hE.qm rfl fun _ hE => (hE.qpur (X.gtI hE rfl rfl) fun _ hE => (hE.qm rfl fun _ hE => (WQ.join (ds := []) (N := 57) (σ := Bool) (fun s => [(38, (.bool s)), (0, (Sl.v x0)), (4, (.pointer x14)), (6, (.pointer x6)), (19, (Sl.v x0)), (20, (.int .i64 (x0.len : Int))), (21, (.int .i64 x21))]) (fun s => V_txn_New_r2 Ret x14 x21 Kl1 x6 s w) 10 ?_ (fun hr2 => ?_)))))))))))))))))))))
        · intro x38 a H hE
          try dsimp only at H hE
          unfold V_txn_New_r2 at H
          refine C.qnil (fun w hB => ?_)
          replace H := H w hB
          refine (tn (C.condB hE rfl (fun hc => ?_) (fun hc => ?_)))
          · replace H := H.1 hc
            exact C.seq (C.region (hE.as_ rfl fun _ hE => (hE.as_ rfl fun _ hE => (C.nil (tn (C.ret (tr (br (tr (tr (br (tr (C.ret2 hE rfl rfl rfl ⟨_, _, rfl, H⟩)))))))))))))
          · replace H := H.2 hc
            refine C.skip (tn (C.clF 16 H 17 (fun C3 w hC0 H => (hE.kp 0 rfl hC0 (pn_run (X.move hE rfl)) fun _ hE => (hE.kp 1 rfl hC0 (pn_run (X.move hE rfl)) fun _ hE => (hE.kp 2 rfl hC0 (pn_run (X.nilCheck hE rfl H.1)) fun _ hE => ?_))))))
            replace H := H.2
            refine hE.ko 3 rfl hC0 (X.fieldAddr hE rfl) H fun x42 a H hE => hE.ko 4 rfl hC0 (X.fieldAddr hE rfl) H fun x43 a H hE => hE.ko 6 rfl hC0 (X.fieldAddr hE rfl) H fun x45 a H hE => hE.ko 8 rfl hC0 (X.fieldAddr hE rfl) H fun x47 a H hE => hE.ko 5 rfl hC0 (X.load hE rfl) H fun x44 a H hE => hE.ko 7 rfl hC0 (X.load hE rfl) H fun x46 a H hE => hE.ko 9 rfl hC0 (X.load hE rfl) H fun x48 a H hE => hE.ko 10 rfl hC0 (X.build hE rfl) H fun x49 a H hE => WK.on 11 rfl ?_
            intro K hK
            refine hE.wop (X.buildSlice hE rfl) H fun x50 w a H hE => hK _ _ ⟨H.1, ?_⟩
            have hC1 := H.1
            replace H := H.2
            refine WK.on 12 rfl ?_
            intro K hK
            refine hE.wop (X.append hE rfl) H fun x51 w a H hE => hK _ _ ⟨H.1, ?_⟩
            have hC2 := H.1
            replace H := H.2
            refine hE.kp 13 rfl hC2 (pn_run (X.nilCheck hE rfl H.1)) fun _ hE => ?_
            replace H := H.2
            refine hE.ko 14 rfl hC2 (X.fieldAddr hE rfl) H fun x53 a H hE => hE.ko 15 rfl hC2 (X.fieldAddr hE rfl) H fun x54 a H hE => WK.la 16 rfl ?_
            intro K hK
            refine hE.wopu (X.store hE rfl rfl) H fun w a H hE => hK _ _ (WK.nil (by kernel_rfl) ((bn (tn (C.region (hE.pur (X.add hE rfl rfl) fun _ hE => (hE.mv rfl fun _ hE => ?_)))))))
            rw [hK_l1] at H
            exact C.nil (tn ⟨(IntKind.wrap .i64 (x21 + 1)), hE.weak ⟨rfl, rfl, rfl, rfl, rfl, trivial⟩, H⟩)
        · rcases Classical.em ((0 < x21)) with hbr2 | hbr2
          · replace H := H.1 hbr2
            replace hE := hE.bool (b := true) (t := 28) rfl (decide_eq_true hbr2)
            exact hE.qon (by rfl) (by rfl) (hE.qm rfl fun _ hE => (hE.qon (by rfl) (by rfl) (hE.qm rfl fun _ hE => (hE.qon (by rfl) (by rfl) (hE.qpur (X.sub hE rfl rfl) fun _ hE => (hE.qon (by rfl) (by rfl) (hE.qop (X.indexAddr hE rfl rfl) H fun x32 a H hE => (hE.qon (by rfl) (by rfl) (hE.qop (X.fieldAddr hE rfl) H fun x33 a H hE => (hE.qon (by rfl) (by rfl) (hE.qop (X.load hE rfl) H fun x34 a H hE => (hE.qon (by rfl) (by rfl) (hE.qop (X.fieldAddr hE rfl) H fun x35 a H hE => (hE.qon (by rfl) (by rfl) (hE.qop (X.load hE rfl) H fun x36 a H hE => (hE.qon (by rfl) (by rfl) (hE.qpur (X.geS hE rfl rfl) fun _ hE => (hE.qpur (X.pickT hE rfl rfl) fun _ hE => (hr2 (!sLt x34 x36) _ H (hE.weak ⟨rfl, rfl, rfl, rfl, rfl, rfl, rfl, trivial⟩))))))))))))))))))))
          · replace H := H.2 hbr2
            replace hE := hE.bool (b := false) (t := 28) rfl (decide_eq_false hbr2)
            exact hE.qoff (by rfl) (by rfl) (by decide) (fun _ hE => (hE.qoff (by rfl) (by rfl) (by decide) (fun _ hE => (hE.qoff (by rfl) (by rfl) (by decide) (fun _ hE => (hE.qoff (by rfl) (by rfl) (by decide) (fun _ hE => (hE.qoff (by rfl) (by rfl) (by decide) (fun _ hE => (hE.qoff (by rfl) (by rfl) (by decide) (fun _ hE => (hE.qoff (by rfl) (by rfl) (by decide) (fun _ hE => (hE.qoff (by rfl) (by rfl) (by decide) (fun _ hE => (hE.qoff (by rfl) (by rfl) (by decide) (fun _ hE => (hE.qpur (X.pickF hE rfl rfl) fun _ hE => (hr2 false _ H (hE.weak ⟨rfl, rfl, rfl, rfl, rfl, rfl, rfl, trivial⟩))))))))))))))))))))
      · replace H := H.2 hc
        exact C.exit (te (te (be (tn (C.seq (C.region (hE.mv rfl fun _ hE => (hE.as_ rfl fun _ hE => (hE.as_ rfl fun _ hE => (C.nil (tn (C.ret (C.ret2 hE rfl rfl rfl ⟨_, _, rfl, H⟩)))))))))))))
def V_txn_New_1_r1 (Ret : Bool → World → Prop) (x12 : Bool) (w : World) : Prop :=
  Ret x12 w
def V_txn_New_1 (x0 : T_api_Pair) (w : World) (Ret : Bool → World → Prop) : Prop :=
  opE Tryz.prog Value.pointer (Instr.box 66 (T_api_Pair.v x0)) w (fun x1 w => opE Tryz.prog Value.pointer (Instr.fieldAt 66 (.pointer x1) 0) w (fun x3 w => opE Tryz.prog Value.string (Instr.loadAt 9 (.pointer x3)) w (fun x4 w => ((256 < (x4.size : Int)) → (V_txn_New_1_r1 Ret true w)) ∧ (¬ (256 < (x4.size : Int)) → (opE Tryz.prog Value.pointer (Instr.fieldAt 66 (.pointer x1) 1) w (fun x8 w => opE Tryz.prog Value.string (Instr.loadAt 9 (.pointer x8)) w (fun x9 w => V_txn_New_1_r1 Ret (decide (512 < (x9.size : Int))) w)))))))
set_option maxRecDepth 100000 in
theorem L1_txn_New_1 (x0 : T_api_Pair) (w : World) (Ret : Bool → World → Prop) (H : V_txn_New_1 x0 w Ret) : Cl Tryz.prog 34 [(T_api_Pair.v x0)].toArray w (fun e w' => ∃ (r0 : Bool), e = .returned (.bool r0) ∧ Ret r0 w') := by
  unfold V_txn_New_1 at H
  refine C.enter 13 (zipE 0 [(T_api_Pair.v x0)]) Tryz.func34 rfl rfl (by rfl) rfl ?_
  intro a hE
  replace hE : Sat [] 13 [(0, (T_api_Pair.v x0))] a := hE
  refine C.seq (C.region (hE.op (X.box hE rfl) H fun x1 w a H hE => (hE.as_ rfl fun _ hE => (C.nil (tn (C.seq (C.region (hE.op (X.fieldAddr hE rfl) H fun x3 w a H hE => (hE.op (X.load hE rfl) H fun x4 w a H hE => (hE.purR (fun w => X.lenS hE Tryz.underlying9 rfl) fun _ hE => (hE.pur (X.gtI hE rfl rfl) fun _ hE => (hE.mv rfl fun _ hE => (WL.join (ds := []) (N := 13) (σ := Bool) (fun s => [(12, (.bool s))]) (fun s w => V_txn_New_1_r1 Ret s w) 5 ?_ (fun hr1 => ?_))))))))))))))
  · intro x12 w a H hE
    try dsimp only at H hE
    unfold V_txn_New_1_r1 at H
    exact hE.as_ rfl fun _ hE => C.nil (tn (C.ret (C.ret1 hE rfl rfl ⟨_, rfl, H⟩)))
  · rcases Classical.em ((256 < (x4.size : Int))) with hbr1 | hbr1
    · replace H := H.1 hbr1
      replace hE := hE.bool (b := true) (t := 7) rfl (decide_eq_true hbr1)
      exact hE.off (by rfl) (by rfl) (by decide) (fun _ hE => (hE.off (by rfl) (by rfl) (by decide) (fun _ hE => (hE.off (by rfl) (by rfl) (by decide) (fun _ hE => (hE.off (by rfl) (by rfl) (by decide) (fun _ hE => (hE.pur (X.pickT hE rfl rfl) fun _ hE => (hr1 true _ _ H (hE.weak ⟨rfl, trivial⟩))))))))))
    · replace H := H.2 hbr1
      replace hE := hE.bool (b := false) (t := 7) rfl (decide_eq_false hbr1)
      exact hE.on (by rfl) (by rfl) (hE.op (X.fieldAddr hE rfl) H fun x8 w a H hE => (hE.on (by rfl) (by rfl) (hE.op (X.load hE rfl) H fun x9 w a H hE => (hE.on (by rfl) (by rfl) (hE.purR (fun w => X.lenS hE Tryz.underlying9 rfl) fun _ hE => (hE.on (by rfl) (by rfl) (hE.pur (X.gtI hE rfl rfl) fun _ hE => (hE.pur (X.pickF hE rfl rfl) fun _ hE => (hr1 (decide (512 < (x9.size : Int))) _ _ H (hE.weak ⟨rfl, trivial⟩))))))))))
end Go.Proofs.YtealcoghiaeiiaaGreat.VG
set_option linter.unusedVariables false
namespace Go.Proofs.YtealcoghiaeiiaaGreat.VG
open Go.VB Go.Proofs Go.RowKit
def verP (p : Pai) : Ver := ⟨p.Key, 1, p.Val, false⟩
def newS (l : List Pai) : St := ⟨l.map verP, 1, 1, 0, fun _ => none⟩
def plong (p : Pai) : Bool := decide (256 < (p.Key.size : Int)) || decide (512 < (p.Val.size : Int))
def RiseTo (l : List Pai) (n : Nat) : Prop := ∀ j x y, j + 1 < n → l[j]? = some x → l[j + 1]? = some y → sLt x.Key y.Key = true
theorem new1_ok (p : Pai) (w : World) {k : Bool → World → Prop} (H : ∀ w', Bel w w' → k (plong p) w') : Cl Tryz.prog fn_txn_New_1 [T_api_Pair.v p].toArray w (fun e w' => ∃ r0 : Bool, e = .returned (.bool r0) ∧ k r0 w') := by
  refine L1_txn_New_1 p w k ?_
  unfold V_txn_New_1 V_txn_New_1_r1
  refine S.boxW (cs := p.cells) rfl fun B w1 b1 hX _ => ?_
  have h := H w1 b1
  unfold plong at h
  refine S.fld fld_api_Pair_Key one_string hX.at p.Key rfl ⟨fun hc => ?_, fun hc => ?_⟩
  · rw [decide_eq_true hc] at h; exact h
  · rw [decide_eq_false hc] at h
    exact S.fld fld_api_Pair_Val one_string hX.at p.Val rfl h
abbrev mcells (sl : Sl) (low : Int) (mb : Nat) : List Value := [Sl.v sl, .int .u64 low, .int .u64 1, .int .i64 0, .map (some mb)]
theorem new_ok {w : World} {x : Sl} {l : List Pai} (hd : PaiRd w x l) {k : Option Addr → Int → World → Prop}
    (H0 : 4096 < l.length → k none 3 w)
    (H1 : l.length ≤ 4096 → l.any plong = true → ∀ w', Bel w w' → k none 4 w')
    (H2 : l.length ≤ 4096 → l.any plong = false → ¬ RiseTo l l.length → ∀ w', Bel w w' → k none 2 w')
    (H3 : l.length ≤ 4096 → l.any plong = false → RiseTo l l.length → ∀ b ρ w', Bel w w' → Mgr ρ w' b (newS l) → (∀ k, k < w.heap.size → ρ k = none) → k (ptrA b) 0 w') :
    Cl Tryz.prog fn_txn_New [Sl.v x].toArray w (fun e w' => ∃ (r0 : Option Addr) (r1 : Int), e = .returned (.tuple [.pointer r0, .int .i64 r1].toArray) ∧ k r0 r1 w') := by
  have dbig := hd.big; have dcap := hd.cap; have dlen := hd.len
  refine L1_txn_New x w k ?_
  unfold V_txn_New
  refine ⟨fun hc => H0 (by omega), fun hc => ?_⟩
  have hl : l.length ≤ 4096 := by omega
  refine has_api_Pair_ok hd (p := plong) (fun d _ w' k' hb hk => .inl ⟨fn_txn_New_1, [], [], rfl, ent34, new1_ok d w' hk⟩) fun w1 b1 => ⟨fun hc => H1 hl hc w1 b1, fun hno => ?_⟩
  refine S.make (ek := Value.int .i64) (ev := Value.pointer) fun hM => ?_
  have hB2 := Bel.alloc w1 (.map #[] 0)
  have s2 := size_alloc' w1 (.map #[] 0)
  generalize hmb : w1.heap.size = mb at hM s2 ⊢
  generalize w1.alloc (.map #[] 0) = w2 at hM hB2 s2 ⊢
  refine ⟨⟨⟨Sl.none, 0⟩, 1, 0, some mb⟩, w2, by kernel_rfl, ?_⟩
  refine S.boxW (cs := mcells Sl.none 0 mb) rfl fun B w3 b3 hR hB0 => ⟨trivial, ?_⟩
  have hmb2 : mb < w2.heap.size := by omega
  refine ⟨_, w3, fld_txn_Manager_versions _ _, ?_⟩
  refine ⟨_, w3, fld_api_Versions_Low _ _, ?_⟩
  rw [add_add]
  refine S.st1 (off := 0 + 1) one_uint64 hR rfl (by simp) rfl fun w4 hR4 g4 => ?_
  replace hR4 : Row w4 B (mcells Sl.none 1 mb) ty_txn_Manager := hR4
  have s3 := b3.le
  have s4 := g4.size
  have hBm : B ≠ mb := by omega
  have hM4 := (hM.bel b3).grown g4 (by simpa using hBm)
  have b12 := b1.trans hB2
  have s12 := b12.le
  have b04 : Bel w w4 := (b12.trans b3).grown g4 fun r hr => by cases hr; omega
  have hBl : B < w4.heap.size := hR4.lt
  refine ⟨fun i W => ∃ (n : Nat) (sl : Sl), i = (n : Int) ∧ n ≤ l.length ∧ Row W B (mcells sl 1 mb) ty_txn_Manager ∧ VerOwn w4.heap.size W sl ((l.take n).map verP) ∧ MapIs (Value.int .i64) Value.pointer W mb (fun _ => none) ∧ Bel w W ∧ w4.heap.size ≤ W.heap.size ∧ RiseTo l n, fun i _ => (x.len - i).toNat,
    ⟨0, Sl.none, rfl, by omega, hR4, OwnS.nil _ _ _ _ _, hM4, b04, Nat.le_refl _, fun j _ _ h => by omega⟩, ?_⟩
  rintro i W ⟨n, sl, rfl, hn, hRW, hOW, hMW, hbW, hsW, hrise⟩
  unfold V_txn_New_l1b
  refine ⟨fun hc => ?_, fun hc => ?_⟩
  · obtain ⟨p, hp⟩ := getE (l := l) (n := n) (by omega)
    refine S.idx (hd.bel hbW) und_L_api_Pair esz_L_api_Pair (by omega) (x := p) (by simpa using hp) fun ad hA => ?_
    refine S.ldA agg_api_Pair p rfl hA rfl ?_
    refine S.newW new_api_Pair rfl agg_api_Pair (cs := p.cells) rfl rfl rfl fun X W1 b5 hX hX0 => ?_
    have J : ∀ (c : Bool), (c = true → ¬ RiseTo l l.length) → (c = false → RiseTo l (n + 1)) → V_txn_New_r2 k (ptrA B) (n : Int) (fun x21' w' => (∃ (n : Nat) (sl : Sl), x21' = (n : Int) ∧ n ≤ l.length ∧ Row w' B (mcells sl 1 mb) ty_txn_Manager ∧ VerOwn w4.heap.size w' sl ((l.take n).map verP) ∧ MapIs (Value.int .i64) Value.pointer w' mb (fun _ => none) ∧ Bel w w' ∧ w4.heap.size ≤ w'.heap.size ∧ RiseTo l n) ∧ (x.len - x21').toNat < (x.len - (n : Int)).toNat) (ptrA X) c W1 := by
      intro c hc1 hc0
      unfold V_txn_New_r2
      intro W2 b6
      refine ⟨fun h1 => H2 hl hno (hc1 h1) W2 ((hbW.trans b5).trans b6), fun h1 => ?_⟩
      have hR2 := (hRW.bel b5).bel b6
      have hX2 := hX.bel b6
      have b56 := b5.trans b6
      refine ⟨fun W' => Row W' B (mcells sl 1 mb) ty_txn_Manager ∧ Row W' X p.cells ty_api_Pair, fun W3 b7 => ⟨⟨hR2.bel b7, hX2.bel b7⟩, trivial, ?_⟩⟩
      refine K.fa fld_txn_Manager_versions ?_
      refine K.fa fld_api_Versions_List ?_
      refine K.fa fld_api_Pair_Key ?_
      refine K.fa fld_api_Pair_Val ?_
      refine K.ld1 one_L_api_Version sl (fun W hW => by rw [add_add]; exact hW.1.at.fld rfl) ?_
      refine K.ld1 one_string p.Key (fun W hW => hW.2.at.fld rfl) ?_
      refine K.ld1 one_string p.Val (fun W hW => hW.2.at.fld rfl) ?_
      refine ⟨verP p, fun W hW => by kernel_rfl, ?_⟩
      refine ⟨_, _, bs1_L_api_Version (verP p) W3, ?_⟩
      have b8 := Bel.alloc W3 (.cells (verP p).cells.toArray ty_api_Version)
      have hlit : VerRd (W3.alloc (.cells (verP p).cells.toArray ty_api_Version)) ⟨some ⟨W3.heap.size, 0, none⟩, 1, 1⟩ [verP p] := by
        have := Rd.lit (c := T_api_Version.cells) (n := 4) (fun _ => rfl) [verP p] (by simp) W3 ty_api_Version
        simpa using this
      have s8 := size_alloc' W3 (.cells (verP p).cells.toArray ty_api_Version)
      generalize W3.alloc (.cells (verP p).cells.toArray ty_api_Version) = W4 at b8 hlit s8 ⊢
      have b58 := (b56.trans b7).trans b8
      have hR8 := (hR2.bel b7).bel b8
      have hX8 := (hX2.bel b7).bel b8
      refine ⟨⟨hR8, hX8⟩, ?_⟩
      have hO8 := hOW.bel b58
      have hs8 := b58.le
      refine ver_app (w0 := w) hO8 hlit (hbW.trans b58) b04.le (by omega) (by simp; omega) fun sl' W5 hO9 b9 g9 => ?_
      have hne : (Sl.v sl).ownBlock ≠ some B := fun e => by have := hO8.lo e; omega
      have hneX : (Sl.v sl).ownBlock ≠ some X := fun e => by have := hOW.lt e; omega
      have hnem : (Sl.v sl).ownBlock ≠ some mb := fun e => by have := hO8.lo e; omega
      have hR9 := hR8.grown g9 hne
      refine ⟨⟨hR9, hX8.grown g9 hneX⟩, trivial, ?_⟩
      refine K.fa fld_txn_Manager_versions ?_
      refine K.fa fld_api_Versions_List ?_
      rw [add_add]
      refine S.st1 (off := 0 + 0) one_L_api_Version hR9 (by cases sl' with | mk a l c => cases a <;> rfl) (by simp) (by cases sl' with | mk a l c => cases a <;> rfl) fun W6 hR10 g10 => ?_
      replace hR10 : Row W6 B (mcells sl' 1 mb) ty_txn_Manager := hR10
      rw [wr64 (by omega) (by omega)]
      have hlast : (l.take (n + 1)).map verP = (l.take n).map verP ++ [verP p] := by rw [take_one hp, List.map_append]; rfl
      refine ⟨⟨n + 1, sl', by omega, by omega, hR10, ?_, ((hMW.bel b58).grown g9 hnem).grown g10 (by simpa using hBm), b9.grown g10 fun r hr => by cases hr; omega, by have := g9.size; have := g10.size; omega, hc0 h1⟩, by omega⟩
      rw [hlast]
      refine hO9.kept g10 (.inr fun e => ?_)
      have := hO9.lo e; omega
    refine ⟨fun h0 => ?_, fun h0 => ?_⟩
    · obtain ⟨q, hq⟩ := getE (l := l) (n := n - 1) (by omega)
      have hdW := (hd.bel hbW).bel b5
      rw [wr64 (by omega) (by omega)]
      refine Q.idx hdW und_L_api_Pair esz_L_api_Pair (by omega) (x := q) (by rw [show ((n : Int) - 1).toNat = n - 1 from by omega]; exact hq) fun ad hA => ?_
      refine Q.fld fld_api_Pair_Key one_string hA q.Key rfl ?_
      refine Q.fld fld_api_Pair_Key one_string hX.at p.Key rfl ?_
      refine J _ (fun h1 h2 => ?_) fun h1 => ?_
      · have := h2 (n - 1) q p (by omega) hq (by rw [show n - 1 + 1 = n from by omega]; exact hp)
        rw [this] at h1; cases h1
      · intro j y z hj hy hz
        by_cases hjn : j + 1 < n
        · exact hrise j y z hjn hy hz
        · obtain rfl : j = n - 1 := by omega
          rw [hq] at hy; cases hy
          rw [show n - 1 + 1 = n from by omega, hp] at hz; cases hz
          simpa using h1
    · refine J false (fun h => (nomatch h)) fun _ j y z hj hy hz => by omega
  · obtain rfl : n = l.length := by omega
    rw [List.take_length] at hOW
    have hold : ∀ q, q < w.heap.size → q ≠ B ∧ q ≠ mb ∧ (Sl.v sl).ownBlock ≠ some q := fun q hq => by
      have := b1.le
      have := b04.le
      exact ⟨by omega, by omega, fun e => by have := hOW.lo e; omega⟩
    refine H3 hl hno hrise B (fun q => if q = B then some .mg else if q = mb then some .om else if (Sl.v sl).ownBlock = some q then some .ve else none) W hbW ⟨sl, mb, fun _ => ⟨0, 0, Sl.none⟩, ?_⟩ fun q hq => ?_
    · exact {
        row := hRW
        rmg := if_pos rfl
        vers := VerOwn.rd hOW
        rve := fun q hq => by
          have := hOW.lo hq
          rw [if_neg (by omega), if_neg (by omega), if_pos hq]
        mp := hMW
        rom := by rw [if_neg hBm.symm, if_pos rfl]
        tx := fun n t ht => by cases ht
        lt := fun q hq => by
          split at hq
          · rename_i e; subst e; exact hRW.lt
          · split at hq
            · rename_i e; subst e; exact hMW.lt
            · split at hq
              · rename_i e; exact hOW.lt e
              · exact absurd rfl hq }
    · obtain ⟨h1, h2, h3⟩ := hold q hq
      rw [if_neg h1, if_neg h2, if_neg h3]
end Go.Proofs.YtealcoghiaeiiaaGreat.VG
set_option linter.unusedVariables false
namespace Go.Proofs.YtealcoghiaeiiaaGreat.VG
open Go.VB Go.Proofs Go.RowKit
theorem Q.neqW {w : World} {x y : Wri} {o1 o2 : Operand} {k : Bool → Prop} (H : ∀ b : Bool, (b = true ↔ ¬ x = y) → k b) :
    opB Tryz.prog Value.bool (do eqGuard .neq ty_api_Write o1 o2 (T_api_Write.v x) (T_api_Write.v y); binOp .neq ty_api_Write (T_api_Write.v x) (T_api_Write.v y)) w k := by
  obtain ⟨r, h1, h2⟩ := neq_api_Write x y o1 o2
  exact ⟨r, fun w' _ => h1 w', H r h2⟩
theorem wsame_ok {w : World} {x0 x1 : Sl} {l m : List Wri} (h : WriRd w x0 l) (h' : WriRd w x1 m) {k : Bool → World → Prop} (H : ∀ r w', (r = true ↔ l = m) → Bel w w' → k r w') :
    Cl Tryz.prog fn_ladingref10_SameWrites [Sl.v x0, Sl.v x1].toArray w (fun e w' => ∃ r0 : Bool, e = .returned (.bool r0) ∧ k r0 w') := by
  refine L1_ladingref10_SameWrites x0 x1 w k ?_
  have hbig := h.big; have hcap := h.cap; have hlen := h.len; have hlen' := h'.len
  unfold V_ladingref10_SameWrites
  refine ⟨fun hc => H false w ⟨fun h => (nomatch h), fun h => ?_⟩ (Bel.refl _), fun hc => ?_⟩
  · subst h; omega
  have hc' : (x0.len : Int) = x1.len := Classical.not_not.1 hc
  refine ⟨fun x w1 => ∃ n : Nat, x = (n : Int) ∧ n ≤ l.length ∧ Bel w w1 ∧ l.take n = m.take n, fun x _ => (x0.len - x).toNat, ⟨0, rfl, by omega, Bel.refl _, rfl⟩, ?_⟩
  rintro x w1 ⟨n, rfl, hn, hb, hq⟩
  unfold V_ladingref10_SameWrites_l1b
  refine ⟨fun hc => ?_, fun hc => ?_⟩
  · obtain ⟨e, he⟩ : ∃ e, l[n]? = some e := ⟨l[n]'(by omega), by simp⟩
    obtain ⟨f, hf⟩ : ∃ f, m[n]? = some f := ⟨m[n]'(by omega), by simp⟩
    refine Q.idx (h.bel hb) und_L_api_Write esz_L_api_Write (by omega) (x := e) (by simpa using he) fun ad hA => ?_
    refine Q.ldA agg_api_Write e rfl hA rfl ?_
    refine Q.idx (h'.bel hb) und_L_api_Write esz_L_api_Write (by omega) (x := f) (by simpa using hf) fun ad' hA' => ?_
    refine Q.ldA agg_api_Write f rfl hA' rfl ?_
    refine Q.neqW fun b hbb => ?_
    intro w2 hb2
    refine ⟨fun ht => H false w2 ⟨fun h => (nomatch h), fun h => ?_⟩ (hb.trans hb2), fun hf0 => ?_⟩
    · subst h; rw [he] at hf; exact absurd (Option.some.inj hf) (hbb.1 ht)
    · have hef : e = f := Classical.not_not.1 fun h => by rw [hbb.2 h] at hf0; cases hf0
      subst hef
      rw [wr64 (by omega) (by omega)]
      exact ⟨⟨n + 1, by omega, by omega, hb.trans hb2, take_eq_succ hq he hf⟩, by dsimp only; omega⟩
  · obtain rfl : n = l.length := by omega
    refine H true w1 ⟨fun _ => ?_, fun _ => rfl⟩ hb
    rw [List.take_length, List.take_of_length_le (by omega)] at hq
    exact hq
theorem eqB_e (a b : Bool) {w : World} {o1 o2 : Operand} {k : Bool → World → Prop} (H : k (decide (a = b)) w) : opE Tryz.prog Value.bool (do eqGuard .eql ty_bool o1 o2 (.bool a) (.bool b); binOp .eql ty_bool (.bool a) (.bool b)) w k :=
  ⟨decide (a = b), w, by cases a <;> cases b <;> kernel_rfl, H⟩
structure Ans where
  why : Int
  tx : Int
  val : ByteArray
  is : Bool
  pairs : List Pai
  done : List Wri
  time : Int
def AnsRd (w : World) (x : T_api_TxAnswer) (a : Ans) : Prop := x.Why = a.why ∧ x.Tx = a.tx ∧ x.Val = a.val ∧ x.Is = a.is ∧ PaiRd w x.Pairs a.pairs ∧ WriRd w x.Done a.done ∧ x.Time = a.time
theorem AnsRd.bel {w w' : World} {x : T_api_TxAnswer} {a : Ans} (h : AnsRd w x a) (hb : Bel w w') : AnsRd w' x a := ⟨h.1, h.2.1, h.2.2.1, h.2.2.2.1, h.2.2.2.2.1.bel hb, h.2.2.2.2.2.1.bel hb, h.2.2.2.2.2.2⟩
theorem ans_same {w : World} {x y : T_api_TxAnswer} {a b : Ans} (h : AnsRd w x a) (h' : AnsRd w y b) {k : Bool → World → Prop} (H : ∀ r w', (r = true ↔ a = b) → Bel w w' → k r w') :
    Cl Tryz.prog fn_ladingref10_Same [T_api_TxAnswer.v x, T_api_TxAnswer.v y].toArray w (fun e w' => ∃ r0 : Bool, e = .returned (.bool r0) ∧ k r0 w') := by
  obtain ⟨e1, e2, e3, e4, e5, e6, e7⟩ := h
  obtain ⟨f1, f2, f3, f4, f5, f6, f7⟩ := h'
  refine L1_ladingref10_Same x y w k ?_
  unfold V_ladingref10_Same
  refine S.boxW (cs := x.cells) rfl fun B w1 b1 hX _ => ?_
  refine S.boxW (cs := y.cells) rfl fun C w2 b2 hY _ => ?_
  replace hX := hX.bel b2
  have b02 := b1.trans b2
  have j6 : ∀ (c : Bool) W, Bel w2 W → (c = true ↔ a = b) → V_ladingref10_Same_r6 k c W := fun c W hb hc => H c W hc (b02.trans hb)
  have j5 : ∀ (c : Bool) W, Bel w2 W → (c = true ↔ a.why = b.why ∧ a.tx = b.tx ∧ a.val = b.val ∧ a.is = b.is ∧ a.pairs = b.pairs ∧ a.done = b.done) → V_ladingref10_Same_r5 k (ptrA B) (ptrA C) c W := by
    intro c W hb hc
    unfold V_ladingref10_Same_r5
    refine ⟨fun h => ?_, fun h => j6 false W hb ⟨fun h => (nomatch h), fun e => ?_⟩⟩
    · refine S.fld fld_api_TxAnswer_Time one_uint64 (hX.bel hb).at x.Time rfl ?_
      refine S.fld fld_api_TxAnswer_Time one_uint64 (hY.bel hb).at y.Time rfl ?_
      obtain ⟨g1, g2, g3, g4, g5, g6⟩ := hc.1 h
      refine j6 _ W hb ⟨fun h => ?_, fun e => ?_⟩
      · have := of_decide_eq_true h
        cases a; cases b; simp_all
      · subst e; exact decide_eq_true (e7.trans f7.symm)
    · subst e; have := hc.2 ⟨rfl, rfl, rfl, rfl, rfl, rfl⟩; rw [h] at this; cases this
  have j4 : ∀ (c : Bool) W, Bel w2 W → (c = true ↔ a.why = b.why ∧ a.tx = b.tx ∧ a.val = b.val ∧ a.is = b.is ∧ a.pairs = b.pairs) → V_ladingref10_Same_r4 k (ptrA B) (ptrA C) c W := by
    intro c W hb hc
    unfold V_ladingref10_Same_r4
    refine ⟨fun h => ?_, fun h => j5 false W hb ⟨fun h => (nomatch h), fun e => ?_⟩⟩
    · refine S.fld fld_api_TxAnswer_Done one_L_api_Write (hX.bel hb).at x.Done rfl ?_
      refine S.fld fld_api_TxAnswer_Done one_L_api_Write (hY.bel hb).at y.Done rfl ?_
      obtain ⟨g1, g2, g3, g4, g5⟩ := hc.1 h
      refine wsame_ok (e6.bel (b02.trans hb)) (f6.bel (b02.trans hb)) fun r w' hr hb' => j5 r w' (hb.trans hb') ⟨fun h => ⟨g1, g2, g3, g4, g5, hr.1 h⟩, fun e => hr.2 e.2.2.2.2.2⟩
    · have := hc.2 ⟨e.1, e.2.1, e.2.2.1, e.2.2.2.1, e.2.2.2.2.1⟩; rw [h] at this; cases this
  have j3 : ∀ (c : Bool) W, Bel w2 W → (c = true ↔ a.why = b.why ∧ a.tx = b.tx ∧ a.val = b.val ∧ a.is = b.is) → V_ladingref10_Same_r3 k (ptrA B) (ptrA C) c W := by
    intro c W hb hc
    unfold V_ladingref10_Same_r3
    refine ⟨fun h => ?_, fun h => j4 false W hb ⟨fun h => (nomatch h), fun e => ?_⟩⟩
    · refine S.fld fld_api_TxAnswer_Pairs one_L_api_Pair (hX.bel hb).at x.Pairs rfl ?_
      refine S.fld fld_api_TxAnswer_Pairs one_L_api_Pair (hY.bel hb).at y.Pairs rfl ?_
      obtain ⟨g1, g2, g3, g4⟩ := hc.1 h
      refine psame_ok (e5.bel (b02.trans hb)) (f5.bel (b02.trans hb)) fun r w' hr hb' => j4 r w' (hb.trans hb') ⟨fun h => ⟨g1, g2, g3, g4, hr.1 h⟩, fun e => hr.2 e.2.2.2.2⟩
    · have := hc.2 ⟨e.1, e.2.1, e.2.2.1, e.2.2.2.1⟩; rw [h] at this; cases this
  have j2 : ∀ (c : Bool) W, Bel w2 W → (c = true ↔ a.why = b.why ∧ a.tx = b.tx ∧ a.val = b.val) → V_ladingref10_Same_r2 k (ptrA B) (ptrA C) c W := by
    intro c W hb hc
    unfold V_ladingref10_Same_r2
    refine ⟨fun h => ?_, fun h => j3 false W hb ⟨fun h => (nomatch h), fun e => ?_⟩⟩
    · refine S.fld fld_api_TxAnswer_Is one_bool (hX.bel hb).at x.Is rfl ?_
      refine S.fld fld_api_TxAnswer_Is one_bool (hY.bel hb).at y.Is rfl ?_
      obtain ⟨g1, g2, g3⟩ := hc.1 h
      refine eqB_e _ _ (j3 _ W hb ⟨fun h => ⟨g1, g2, g3, by rw [← e4, ← f4]; exact of_decide_eq_true h⟩, fun e => decide_eq_true (by rw [e4, f4]; exact e.2.2.2)⟩)
    · have := hc.2 ⟨e.1, e.2.1, e.2.2.1⟩; rw [h] at this; cases this
  have j1 : ∀ (c : Bool) W, Bel w2 W → (c = true ↔ a.why = b.why ∧ a.tx = b.tx) → V_ladingref10_Same_r1 k (ptrA B) (ptrA C) c W := by
    intro c W hb hc
    unfold V_ladingref10_Same_r1
    refine ⟨fun h => ?_, fun h => j2 false W hb ⟨fun h => (nomatch h), fun e => ?_⟩⟩
    · refine S.fld fld_api_TxAnswer_Val one_string (hX.bel hb).at x.Val rfl ?_
      refine S.fld fld_api_TxAnswer_Val one_string (hY.bel hb).at y.Val rfl ?_
      obtain ⟨g1, g2⟩ := hc.1 h
      refine j2 _ W hb ⟨fun h => ⟨g1, g2, by rw [← e3, ← f3]; exact of_decide_eq_true h⟩, fun e => decide_eq_true (by rw [e3, f3]; exact e.2.2)⟩
    · have := hc.2 ⟨e.1, e.2.1⟩; rw [h] at this; cases this
  refine S.fld fld_api_TxAnswer_Why one_api_Errno hX.at x.Why rfl ?_
  refine S.fld fld_api_TxAnswer_Why one_api_Errno hY.at y.Why rfl ?_
  refine ⟨fun h => ?_, fun h => j1 false w2 (Bel.refl _) ⟨fun h => (nomatch h), fun e => absurd (by rw [e1, f1]; exact e.1) h⟩⟩
  refine S.fld fld_api_TxAnswer_Tx one_int hX.at x.Tx rfl ?_
  refine S.fld fld_api_TxAnswer_Tx one_int hY.at y.Tx rfl ?_
  exact j1 _ w2 (Bel.refl _) ⟨fun h2 => ⟨by rw [← e1, ← f1]; exact h, by rw [← e2, ← f2]; exact of_decide_eq_true h2⟩, fun e => decide_eq_true (by rw [e2, f2]; exact e.2)⟩
end Go.Proofs.YtealcoghiaeiiaaGreat.VG
set_option linter.unusedVariables false
set_option linter.unusedSimpArgs false
namespace Go.Proofs.YtealcoghiaeiiaaGreat.VG
open Go.VB Go.Proofs
def V_ladinglaw10_lives_r12 (Ret : Bool → World → Prop) (x117 : Bool) (w : World) : Prop :=
  Ret x117 w
def V_ladinglaw10_lives_r11 (Ret : Bool → World → Prop) (r : Option Addr) (x112 : Bool) (w : World) : Prop :=
  (x112 = true → (Cl Tryz.prog 31 [(.pointer r)].toArray w (fun e w => ∃ (r_20 : Int), e = .returned (.int .u64 r_20) ∧ (V_ladinglaw10_lives_r12 Ret (decide (r_20 = 2)) w)))) ∧ (x112 = false → (V_ladinglaw10_lives_r12 Ret false w))
def V_ladinglaw10_lives_r10 (Ret : Bool → World → Prop) (r : Option Addr) (r_19 : Int) (x108 : Bool) (w : World) : Prop :=
  (x108 = true → (V_ladinglaw10_lives_r11 Ret r (decide (r_19 = 10)) w)) ∧ (x108 = false → (V_ladinglaw10_lives_r11 Ret r false w))
def V_ladinglaw10_lives_r9 (Ret : Bool → World → Prop) (r : Option Addr) (r_16 : Int) (r_19 : Int) (x104 : Bool) (w : World) : Prop :=
  (x104 = true → (V_ladinglaw10_lives_r10 Ret r r_19 (decide (r_16 = 0)) w)) ∧ (x104 = false → (V_ladinglaw10_lives_r10 Ret r r_19 false w))
def V_ladinglaw10_lives_r8 (Ret : Bool → World → Prop) (r : Option Addr) (r_15 : Int) (r_16 : Int) (r_19 : Int) (x100 : Bool) (w : World) : Prop :=
  (x100 = true → (V_ladinglaw10_lives_r9 Ret r r_16 r_19 (decide (r_15 = 2)) w)) ∧ (x100 = false → (V_ladinglaw10_lives_r9 Ret r r_16 r_19 false w))
def V_ladinglaw10_lives_r7 (Ret : Bool → World → Prop) (r : Option Addr) (r_14 : Sl) (r_15 : Int) (r_16 : Int) (r_19 : Int) (x94 : Bool) (w : World) : Prop :=
  (x94 = true → (opE Tryz.prog T_api_Write.v (Instr.build 34 [(0, (.string (ByteArray.mk #[97]))), (1, (.string (ByteArray.mk #[50])))].toArray) w (fun x97 w => opE Tryz.prog Sl.v (Instr.buildSlice 30 1 [(0, (T_api_Write.v x97))].toArray) w (fun x98 w => Cl Tryz.prog 28 [(Sl.v r_14), (Sl.v x98)].toArray w (fun e w => ∃ (r_21 : Bool), e = .returned (.bool r_21) ∧ (V_ladinglaw10_lives_r8 Ret r r_15 r_16 r_19 r_21 w)))))) ∧ (x94 = false → (V_ladinglaw10_lives_r8 Ret r r_15 r_16 r_19 false w))
def V_ladinglaw10_lives_r6 (Ret : Bool → World → Prop) (r : Option Addr) (r_13 : Int) (r_14 : Sl) (r_15 : Int) (r_16 : Int) (r_19 : Int) (x90 : Bool) (w : World) : Prop :=
  (x90 = true → (V_ladinglaw10_lives_r7 Ret r r_14 r_15 r_16 r_19 (decide (r_13 = 0)) w)) ∧ (x90 = false → (V_ladinglaw10_lives_r7 Ret r r_14 r_15 r_16 r_19 false w))
def V_ladinglaw10_lives_r5 (Ret : Bool → World → Prop) (r : Option Addr) (r_12 : Int) (r_13 : Int) (r_14 : Sl) (r_15 : Int) (r_16 : Int) (r_19 : Int) (x86 : Bool) (w : World) : Prop :=
  (x86 = true → (V_ladinglaw10_lives_r6 Ret r r_13 r_14 r_15 r_16 r_19 (decide (r_12 = 0)) w)) ∧ (x86 = false → (V_ladinglaw10_lives_r6 Ret r r_13 r_14 r_15 r_16 r_19 false w))
def V_ladinglaw10_lives_r4 (Ret : Bool → World → Prop) (r : Option Addr) (r_8 : Int) (r_12 : Int) (r_13 : Int) (r_14 : Sl) (r_15 : Int) (r_16 : Int) (r_19 : Int) (x82 : Bool) (w : World) : Prop :=
  (x82 = true → (V_ladinglaw10_lives_r5 Ret r r_12 r_13 r_14 r_15 r_16 r_19 (decide (r_8 = 0)) w)) ∧ (x82 = false → (V_ladinglaw10_lives_r5 Ret r r_12 r_13 r_14 r_15 r_16 r_19 false w))
def V_ladinglaw10_lives_r3 (Ret : Bool → World → Prop) (r : Option Addr) (r_7 : Bool) (r_8 : Int) (r_12 : Int) (r_13 : Int) (r_14 : Sl) (r_15 : Int) (r_16 : Int) (r_19 : Int) (x79 : Bool) (w : World) : Prop :=
  (x79 = true → (V_ladinglaw10_lives_r4 Ret r r_8 r_12 r_13 r_14 r_15 r_16 r_19 r_7 w)) ∧ (x79 = false → (V_ladinglaw10_lives_r4 Ret r r_8 r_12 r_13 r_14 r_15 r_16 r_19 false w))
def V_ladinglaw10_lives_r2 (Ret : Bool → World → Prop) (r : Option Addr) (r_6 : ByteArray) (r_7 : Bool) (r_8 : Int) (r_12 : Int) (r_13 : Int) (r_14 : Sl) (r_15 : Int) (r_16 : Int) (r_19 : Int) (x75 : Bool) (w : World) : Prop :=
  (x75 = true → (V_ladinglaw10_lives_r3 Ret r r_7 r_8 r_12 r_13 r_14 r_15 r_16 r_19 (decide (r_6 = (ByteArray.mk #[49]))) w)) ∧ (x75 = false → (V_ladinglaw10_lives_r3 Ret r r_7 r_8 r_12 r_13 r_14 r_15 r_16 r_19 false w))
def V_ladinglaw10_lives_r1 (Ret : Bool → World → Prop) (r : Option Addr) (r_4 : Int) (r_6 : ByteArray) (r_7 : Bool) (r_8 : Int) (r_12 : Int) (r_13 : Int) (r_14 : Sl) (r_15 : Int) (r_16 : Int) (r_19 : Int) (x71 : Bool) (w : World) : Prop :=
  (x71 = true → (V_ladinglaw10_lives_r2 Ret r r_6 r_7 r_8 r_12 r_13 r_14 r_15 r_16 r_19 (decide (r_4 = 2)) w)) ∧ (x71 = false → (V_ladinglaw10_lives_r2 Ret r r_6 r_7 r_8 r_12 r_13 r_14 r_15 r_16 r_19 false w))
def V_ladinglaw10_lives (w : World) (Ret : Bool → World → Prop) : Prop :=
  opE Tryz.prog T_api_Pair.v (Instr.build 66 [(0, (.string (ByteArray.mk #[97]))), (1, (.string (ByteArray.mk #[49])))].toArray) w (fun x19 w => opE Tryz.prog Sl.v (Instr.buildSlice 22 1 [(0, (T_api_Pair.v x19))].toArray) w (fun x20 w => Cl Tryz.prog 11 [(Sl.v x20)].toArray w (fun e w => ∃ (r : Option Addr) (r_1 : Int), e = .returned (.tuple [(.pointer r), (.int .i64 r_1)].toArray) ∧ (opE Tryz.prog Value.bool (do eqGuard .eql 26 (.tmp 24) (.const (.pointer none)) (.pointer r) (.pointer none); binOp .eql 26 (.pointer r) (.pointer none)) w (fun x25 w => (x25 = true → (Ret false w)) ∧ (x25 = false → (Cl Tryz.prog 12 [(.pointer r)].toArray w (fun e w => ∃ (r_2 : Int) (r_3 : Int), e = .returned (.tuple [(.int .i64 r_2), (.int .i64 r_3)].toArray) ∧ (Cl Tryz.prog 12 [(.pointer r)].toArray w (fun e w => ∃ (r_4 : Int) (r_5 : Int), e = .returned (.tuple [(.int .i64 r_4), (.int .i64 r_5)].toArray) ∧ (Cl Tryz.prog 22 [(.pointer r), (.int .i64 r_2), (.string (ByteArray.mk #[97]))].toArray w (fun e w => ∃ (r_6 : ByteArray) (r_7 : Bool) (r_8 : Int), e = .returned (.tuple [(.string r_6), (.bool r_7), (.int .i64 r_8)].toArray) ∧ (Cl Tryz.prog 22 [(.pointer r), (.int .i64 r_4), (.string (ByteArray.mk #[97]))].toArray w (fun e w => ∃ (r_9 : ByteArray) (r_10 : Bool) (r_11 : Int), e = .returned (.tuple [(.string r_9), (.bool r_10), (.int .i64 r_11)].toArray) ∧ (Cl Tryz.prog 14 [(.pointer r), (.int .i64 r_2), (.string (ByteArray.mk #[97])), (.string (ByteArray.mk #[50]))].toArray w (fun e w => ∃ (r_12 : Int), e = .returned (.int .i64 r_12) ∧ (Cl Tryz.prog 14 [(.pointer r), (.int .i64 r_4), (.string (ByteArray.mk #[97])), (.string (ByteArray.mk #[51]))].toArray w (fun e w => ∃ (r_13 : Int), e = .returned (.int .i64 r_13) ∧ (Cl Tryz.prog 15 [(.pointer r), (.int .i64 r_2)].toArray w (fun e w => ∃ (r_14 : Sl) (r_15 : Int) (r_16 : Int), e = .returned (.tuple [(Sl.v r_14), (.int .u64 r_15), (.int .i64 r_16)].toArray) ∧ (Cl Tryz.prog 15 [(.pointer r), (.int .i64 r_4)].toArray w (fun e w => ∃ (r_17 : Sl) (r_18 : Int) (r_19 : Int), e = .returned (.tuple [(Sl.v r_17), (.int .u64 r_18), (.int .i64 r_19)].toArray) ∧ (((r_1 = 0) → (V_ladinglaw10_lives_r1 Ret r r_4 r_6 r_7 r_8 r_12 r_13 r_14 r_15 r_16 r_19 (decide (r_2 = 1)) w)) ∧ (¬ (r_1 = 0) → (V_ladinglaw10_lives_r1 Ret r r_4 r_6 r_7 r_8 r_12 r_13 r_14 r_15 r_16 r_19 false w)))))))))))))))))))))))))
set_option maxRecDepth 100000 in
theorem L1_ladinglaw10_lives (w : World) (Ret : Bool → World → Prop) (H : V_ladinglaw10_lives w Ret) : Cl Tryz.prog 10 [].toArray w (fun e w' => ∃ (r0 : Bool), e = .returned (.bool r0) ∧ Ret r0 w') := by
  unfold V_ladinglaw10_lives at H
  refine C.enter 118 (zipE 0 []) Tryz.func10 rfl rfl (by rfl) rfl ?_
  intro a hE
  replace hE : Sat [] 118 [] a := hE
  refine C.seq (C.region (hE.as_ rfl fun _ hE => (C.nil (tn (C.seq (C.region (hE.op (X.build hE rfl) H fun x19 w a H hE => (hE.op (X.buildSlice hE rfl) H fun x20 w a H hE => (hE.call (X.callF hE ent11 rfl rfl) H fun e w H => ?_)))))))))
  obtain ⟨r, r_1, rfl, H⟩ := H
  refine ⟨_, rfl, fun _ hE => (hE.mv rfl fun _ hE => (hE.pur (X.extract hE rfl rfl) fun _ hE => (hE.pur (X.extract hE rfl rfl) fun _ hE => (hE.as_ rfl fun _ hE => (hE.as_ rfl fun _ hE => (C.nil (tn (C.seq (C.seq (C.region (hE.mv rfl fun _ hE => (hE.op (X.bin hE rfl rfl) H fun x25 w a H hE => (C.nil (tn (C.condB hE rfl (fun hc => ?_) (fun hc => ?_))))))))))))))))⟩
  · replace H := H.1 hc
    exact C.seq (C.region (hE.as_ rfl fun _ hE => (C.nil (tn (C.ret (tr (C.ret1 hE rfl rfl ⟨_, rfl, H⟩)))))))
  · replace H := H.2 hc
    refine C.skip (tn (C.seq (C.region (hE.mv rfl fun _ hE => (hE.call (X.callF hE ent12 rfl rfl) H fun e w H => ?_)))))
    obtain ⟨r_2, r_3, rfl, H⟩ := H
    refine ⟨_, rfl, fun _ hE => (hE.mv rfl fun _ hE => (hE.pur (X.extract hE rfl rfl) fun _ hE => (hE.pur (X.extract hE rfl rfl) fun _ hE => (hE.as_ rfl fun _ hE => (hE.as_ rfl fun _ hE => (C.nil (tn (C.seq (C.region (hE.mv rfl fun _ hE => (hE.call (X.callF hE ent12 rfl rfl) H fun e w H => ?_)))))))))))⟩
    obtain ⟨r_4, r_5, rfl, H⟩ := H
    refine ⟨_, rfl, fun _ hE => (hE.mv rfl fun _ hE => (hE.pur (X.extract hE rfl rfl) fun _ hE => (hE.pur (X.extract hE rfl rfl) fun _ hE => (hE.as_ rfl fun _ hE => (hE.as_ rfl fun _ hE => (C.nil (tn (C.seq (C.region (hE.mv rfl fun _ hE => (hE.mv rfl fun _ hE => (hE.call (X.callF hE ent22 rfl rfl) H fun e w H => ?_))))))))))))⟩
    obtain ⟨r_6, r_7, r_8, rfl, H⟩ := H
    refine ⟨_, rfl, fun _ hE => (hE.mv rfl fun _ hE => (hE.pur (X.extract hE rfl rfl) fun _ hE => (hE.pur (X.extract hE rfl rfl) fun _ hE => (hE.pur (X.extract hE rfl rfl) fun _ hE => (hE.as_ rfl fun _ hE => (hE.as_ rfl fun _ hE => (hE.as_ rfl fun _ hE => (C.nil (tn (C.seq (C.region (hE.mv rfl fun _ hE => (hE.mv rfl fun _ hE => (hE.call (X.callF hE ent22 rfl rfl) H fun e w H => ?_))))))))))))))⟩
    obtain ⟨r_9, r_10, r_11, rfl, H⟩ := H
    refine ⟨_, rfl, fun _ hE => (C.nil (tn (C.seq (C.region (hE.mv rfl fun _ hE => (hE.mv rfl fun _ hE => (hE.call (X.callF hE ent14 rfl rfl) H fun e w H => ?_)))))))⟩
    obtain ⟨r_12, rfl, H⟩ := H
    refine ⟨_, rfl, fun _ hE => (hE.mv rfl fun _ hE => (hE.mv rfl fun _ hE => (hE.call (X.callF hE ent14 rfl rfl) H fun e w H => ?_)))⟩
    obtain ⟨r_13, rfl, H⟩ := H
    refine ⟨_, rfl, fun _ hE => (hE.as_ rfl fun _ hE => (hE.as_ rfl fun _ hE => (C.nil (tn (C.seq (C.region (hE.mv rfl fun _ hE => (hE.mv rfl fun _ hE => (hE.call (X.callF hE ent15 rfl rfl) H fun e w H => ?_)))))))))⟩
    obtain ⟨r_14, r_15, r_16, rfl, H⟩ := H
    refine ⟨_, rfl, fun _ hE => (hE.mv rfl fun _ hE => (hE.pur (X.extract hE rfl rfl) fun _ hE => (hE.pur (X.extract hE rfl rfl) fun _ hE => (hE.pur (X.extract hE rfl rfl) fun _ hE => (hE.as_ rfl fun _ hE => (hE.as_ rfl fun _ hE => (hE.as_ rfl fun _ hE => (C.nil (tn (C.seq (C.region (hE.mv rfl fun _ hE => (hE.mv rfl fun _ hE => (hE.call (X.callF hE ent15 rfl rfl) H fun e w H => ?_))))))))))))))⟩
    obtain ⟨r_17, r_18, r_19, rfl, H⟩ := H
    refine ⟨_, rfl, fun _ hE => (hE.mv rfl fun _ hE => (hE.pur (X.extract hE rfl rfl) fun _ hE => (hE.pur (X.extract hE rfl rfl) fun _ hE => (hE.pur (X.extract hE rfl rfl) fun _ hE => (hE.as_ rfl fun _ hE => (hE.as_ rfl fun _ hE => (hE.as_ rfl fun _ hE => (C.nil (tn (C.seq (C.region (hE.mv rfl fun _ hE => (hE.pur (X.eqI hE rfl rfl) fun _ hE => (hE.mv rfl fun _ hE => (WL.join (ds := []) (N := 118) (σ := Bool) (fun s => [(71, (.bool s)), (1, (.pointer r)), (5, (.int .i64 r_4)), (7, (.string r_6)), (8, (.bool r_7)), (9, (.int .i64 r_8)), (10, (.int .i64 r_12)), (11, (.int .i64 r_13)), (12, (Sl.v r_14)), (13, (.int .u64 r_15)), (14, (.int .i64 r_16)), (17, (.int .i64 r_19))]) (fun s w => V_ladinglaw10_lives_r1 Ret r r_4 r_6 r_7 r_8 r_12 r_13 r_14 r_15 r_16 r_19 s w) 3 ?_ (fun hr1 => ?_))))))))))))))))⟩
    · intro x71 w a H hE
      try dsimp only at H hE
      unfold V_ladinglaw10_lives_r1 at H
      refine hE.mv rfl fun _ hE => WL.join (ds := []) (N := 118) (σ := Bool) (fun s => [(75, (.bool s)), (1, (.pointer r)), (7, (.string r_6)), (8, (.bool r_7)), (9, (.int .i64 r_8)), (10, (.int .i64 r_12)), (11, (.int .i64 r_13)), (12, (Sl.v r_14)), (13, (.int .u64 r_15)), (14, (.int .i64 r_16)), (17, (.int .i64 r_19))]) (fun s w => V_ladinglaw10_lives_r2 Ret r r_6 r_7 r_8 r_12 r_13 r_14 r_15 r_16 r_19 s w) 3 ?_ (fun hr2 => ?_)
      · intro x75 w a H hE
        try dsimp only at H hE
        unfold V_ladinglaw10_lives_r2 at H
        refine hE.mv rfl fun _ hE => WL.join (ds := []) (N := 118) (σ := Bool) (fun s => [(79, (.bool s)), (1, (.pointer r)), (8, (.bool r_7)), (9, (.int .i64 r_8)), (10, (.int .i64 r_12)), (11, (.int .i64 r_13)), (12, (Sl.v r_14)), (13, (.int .u64 r_15)), (14, (.int .i64 r_16)), (17, (.int .i64 r_19))]) (fun s w => V_ladinglaw10_lives_r3 Ret r r_7 r_8 r_12 r_13 r_14 r_15 r_16 r_19 s w) 3 ?_ (fun hr3 => ?_)
        · intro x79 w a H hE
          try dsimp only at H hE
          unfold V_ladinglaw10_lives_r3 at H
          refine hE.mv rfl fun _ hE => WL.join (ds := []) (N := 118) (σ := Bool) (fun s => [(82, (.bool s)), (1, (.pointer r)), (9, (.int .i64 r_8)), (10, (.int .i64 r_12)), (11, (.int .i64 r_13)), (12, (Sl.v r_14)), (13, (.int .u64 r_15)), (14, (.int .i64 r_16)), (17, (.int .i64 r_19))]) (fun s w => V_ladinglaw10_lives_r4 Ret r r_8 r_12 r_13 r_14 r_15 r_16 r_19 s w) 2 ?_ (fun hr4 => ?_)
          · intro x82 w a H hE
            try dsimp only at H hE
            unfold V_ladinglaw10_lives_r4 at H
            refine hE.mv rfl fun _ hE => WL.join (ds := []) (N := 118) (σ := Bool) (fun s => [(86, (.bool s)), (1, (.pointer r)), (10, (.int .i64 r_12)), (11, (.int .i64 r_13)), (12, (Sl.v r_14)), (13, (.int .u64 r_15)), (14, (.int .i64 r_16)), (17, (.int .i64 r_19))]) (fun s w => V_ladinglaw10_lives_r5 Ret r r_12 r_13 r_14 r_15 r_16 r_19 s w) 3 ?_ (fun hr5 => ?_)
            · intro x86 w a H hE
              try dsimp only at H hE
              unfold V_ladinglaw10_lives_r5 at H
              refine hE.mv rfl fun _ hE => WL.join (ds := []) (N := 118) (σ := Bool) (fun s => [(90, (.bool s)), (1, (.pointer r)), (11, (.int .i64 r_13)), (12, (Sl.v r_14)), (13, (.int .u64 r_15)), (14, (.int .i64 r_16)), (17, (.int .i64 r_19))]) (fun s w => V_ladinglaw10_lives_r6 Ret r r_13 r_14 r_15 r_16 r_19 s w) 3 ?_ (fun hr6 => ?_)
              · intro x90 w a H hE
                try dsimp only at H hE
                unfold V_ladinglaw10_lives_r6 at H
                refine hE.mv rfl fun _ hE => WL.join (ds := []) (N := 118) (σ := Bool) (fun s => [(94, (.bool s)), (1, (.pointer r)), (12, (Sl.v r_14)), (13, (.int .u64 r_15)), (14, (.int .i64 r_16)), (17, (.int .i64 r_19))]) (fun s w => V_ladinglaw10_lives_r7 Ret r r_14 r_15 r_16 r_19 s w) 3 ?_ (fun hr7 => ?_)
                · intro x94 w a H hE
                  try dsimp only at H hE
                  unfold V_ladinglaw10_lives_r7 at H
                  refine hE.mv rfl fun _ hE => WL.join (ds := []) (N := 118) (σ := Bool) (fun s => [(100, (.bool s)), (1, (.pointer r)), (13, (.int .u64 r_15)), (14, (.int .i64 r_16)), (17, (.int .i64 r_19))]) (fun s w => V_ladinglaw10_lives_r8 Ret r r_15 r_16 r_19 s w) 5 ?_ (fun hr8 => ?_)
                  · intro x100 w a H hE
                    try dsimp only at H hE
                    unfold V_ladinglaw10_lives_r8 at H
                    refine hE.mv rfl fun _ hE => WL.join (ds := []) (N := 118) (σ := Bool) (fun s => [(104, (.bool s)), (1, (.pointer r)), (14, (.int .i64 r_16)), (17, (.int .i64 r_19))]) (fun s w => V_ladinglaw10_lives_r9 Ret r r_16 r_19 s w) 3 ?_ (fun hr9 => ?_)
                    · intro x104 w a H hE
                      try dsimp only at H hE
                      unfold V_ladinglaw10_lives_r9 at H
                      refine hE.mv rfl fun _ hE => WL.join (ds := []) (N := 118) (σ := Bool) (fun s => [(108, (.bool s)), (1, (.pointer r)), (17, (.int .i64 r_19))]) (fun s w => V_ladinglaw10_lives_r10 Ret r r_19 s w) 3 ?_ (fun hr10 => ?_)
                      · intro x108 w a H hE
                        try dsimp only at H hE
                        unfold V_ladinglaw10_lives_r10 at H
                        refine hE.mv rfl fun _ hE => WL.join (ds := []) (N := 118) (σ := Bool) (fun s => [(112, (.bool s)), (1, (.pointer r))]) (fun s w => V_ladinglaw10_lives_r11 Ret r s w) 3 ?_ (fun hr11 => ?_)
                        · intro x112 w a H hE
                          try dsimp only at H hE
                          unfold V_ladinglaw10_lives_r11 at H
                          refine hE.mv rfl fun _ hE => WL.join (ds := []) (N := 118) (σ := Bool) (fun s => [(117, (.bool s))]) (fun s w => V_ladinglaw10_lives_r12 Ret s w) 4 ?_ (fun hr12 => ?_)
                          · intro x117 w a H hE
                            try dsimp only at H hE
                            unfold V_ladinglaw10_lives_r12 at H
                            exact hE.as_ rfl fun _ hE => C.nil (tn (C.ret (C.ret1 hE rfl rfl ⟨_, rfl, H⟩)))
                          · rcases Bool.eq_false_or_eq_true (x112) with hbr12 | hbr12
                            · replace H := H.1 hbr12
                              replace hE := hE.bool (b := true) (t := 113) rfl (hbr12)
                              refine hE.on (by rfl) (by rfl) (hE.mv rfl fun _ hE => (hE.on (by rfl) (by rfl) (hE.call (X.callF hE ent31 rfl rfl) H fun e w H => ?_)))
                              obtain ⟨r_20, rfl, H⟩ := H
                              exact ⟨_, rfl, fun _ hE => (hE.on (by rfl) (by rfl) (hE.pur (X.eqI hE rfl rfl) fun _ hE => (hE.pur (X.pickT hE rfl rfl) fun _ hE => (hr12 (decide (r_20 = 2)) _ _ H (hE.weak ⟨rfl, trivial⟩)))))⟩
                            · replace H := H.2 hbr12
                              replace hE := hE.bool (b := false) (t := 113) rfl (hbr12)
                              exact hE.off (by rfl) (by rfl) (by decide) (fun _ hE => (hE.off (by rfl) (by rfl) (by decide) (fun _ hE => (hE.off (by rfl) (by rfl) (by decide) (fun _ hE => (hE.pur (X.pickF hE rfl rfl) fun _ hE => (hr12 false _ _ H (hE.weak ⟨rfl, trivial⟩))))))))
                        · rcases Bool.eq_false_or_eq_true (x108) with hbr11 | hbr11
                          · replace H := H.1 hbr11
                            replace hE := hE.bool (b := true) (t := 109) rfl (hbr11)
                            exact hE.on (by rfl) (by rfl) (hE.mv rfl fun _ hE => (hE.on (by rfl) (by rfl) (hE.pur (X.eqI hE rfl rfl) fun _ hE => (hE.pur (X.pickT hE rfl rfl) fun _ hE => (hr11 (decide (r_19 = 10)) _ _ H (hE.weak ⟨rfl, rfl, trivial⟩))))))
                          · replace H := H.2 hbr11
                            replace hE := hE.bool (b := false) (t := 109) rfl (hbr11)
                            exact hE.off (by rfl) (by rfl) (by decide) (fun _ hE => (hE.off (by rfl) (by rfl) (by decide) (fun _ hE => (hE.pur (X.pickF hE rfl rfl) fun _ hE => (hr11 false _ _ H (hE.weak ⟨rfl, rfl, trivial⟩))))))
                      · rcases Bool.eq_false_or_eq_true (x104) with hbr10 | hbr10
                        · replace H := H.1 hbr10
                          replace hE := hE.bool (b := true) (t := 105) rfl (hbr10)
                          exact hE.on (by rfl) (by rfl) (hE.mv rfl fun _ hE => (hE.on (by rfl) (by rfl) (hE.pur (X.eqI hE rfl rfl) fun _ hE => (hE.pur (X.pickT hE rfl rfl) fun _ hE => (hr10 (decide (r_16 = 0)) _ _ H (hE.weak ⟨rfl, rfl, rfl, trivial⟩))))))
                        · replace H := H.2 hbr10
                          replace hE := hE.bool (b := false) (t := 105) rfl (hbr10)
                          exact hE.off (by rfl) (by rfl) (by decide) (fun _ hE => (hE.off (by rfl) (by rfl) (by decide) (fun _ hE => (hE.pur (X.pickF hE rfl rfl) fun _ hE => (hr10 false _ _ H (hE.weak ⟨rfl, rfl, rfl, trivial⟩))))))
                    · rcases Bool.eq_false_or_eq_true (x100) with hbr9 | hbr9
                      · replace H := H.1 hbr9
                        replace hE := hE.bool (b := true) (t := 101) rfl (hbr9)
                        exact hE.on (by rfl) (by rfl) (hE.mv rfl fun _ hE => (hE.on (by rfl) (by rfl) (hE.pur (X.eqI hE rfl rfl) fun _ hE => (hE.pur (X.pickT hE rfl rfl) fun _ hE => (hr9 (decide (r_15 = 2)) _ _ H (hE.weak ⟨rfl, rfl, rfl, rfl, trivial⟩))))))
                      · replace H := H.2 hbr9
                        replace hE := hE.bool (b := false) (t := 101) rfl (hbr9)
                        exact hE.off (by rfl) (by rfl) (by decide) (fun _ hE => (hE.off (by rfl) (by rfl) (by decide) (fun _ hE => (hE.pur (X.pickF hE rfl rfl) fun _ hE => (hr9 false _ _ H (hE.weak ⟨rfl, rfl, rfl, rfl, trivial⟩))))))
                  · rcases Bool.eq_false_or_eq_true (x94) with hbr8 | hbr8
                    · replace H := H.1 hbr8
                      replace hE := hE.bool (b := true) (t := 95) rfl (hbr8)
                      refine hE.on (by rfl) (by rfl) (hE.mv rfl fun _ hE => (hE.on (by rfl) (by rfl) (hE.op (X.build hE rfl) H fun x97 w a H hE => (hE.on (by rfl) (by rfl) (hE.op (X.buildSlice hE rfl) H fun x98 w a H hE => (hE.on (by rfl) (by rfl) (hE.call (X.callF hE ent28 rfl rfl) H fun e w H => ?_)))))))
                      obtain ⟨r_21, rfl, H⟩ := H
                      exact ⟨_, rfl, fun _ hE => (hE.pur (X.pickT hE rfl rfl) fun _ hE => (hr8 r_21 _ _ H (hE.weak ⟨rfl, rfl, rfl, rfl, rfl, trivial⟩)))⟩
                    · replace H := H.2 hbr8
                      replace hE := hE.bool (b := false) (t := 95) rfl (hbr8)
                      exact hE.off (by rfl) (by rfl) (by decide) (fun _ hE => (hE.off (by rfl) (by rfl) (by decide) (fun _ hE => (hE.off (by rfl) (by rfl) (by decide) (fun _ hE => (hE.off (by rfl) (by rfl) (by decide) (fun _ hE => (hE.pur (X.pickF hE rfl rfl) fun _ hE => (hr8 false _ _ H (hE.weak ⟨rfl, rfl, rfl, rfl, rfl, trivial⟩))))))))))
                · rcases Bool.eq_false_or_eq_true (x90) with hbr7 | hbr7
                  · replace H := H.1 hbr7
                    replace hE := hE.bool (b := true) (t := 91) rfl (hbr7)
                    exact hE.on (by rfl) (by rfl) (hE.mv rfl fun _ hE => (hE.on (by rfl) (by rfl) (hE.pur (X.eqI hE rfl rfl) fun _ hE => (hE.pur (X.pickT hE rfl rfl) fun _ hE => (hr7 (decide (r_13 = 0)) _ _ H (hE.weak ⟨rfl, rfl, rfl, rfl, rfl, rfl, trivial⟩))))))
                  · replace H := H.2 hbr7
                    replace hE := hE.bool (b := false) (t := 91) rfl (hbr7)
                    exact hE.off (by rfl) (by rfl) (by decide) (fun _ hE => (hE.off (by rfl) (by rfl) (by decide) (fun _ hE => (hE.pur (X.pickF hE rfl rfl) fun _ hE => (hr7 false _ _ H (hE.weak ⟨rfl, rfl, rfl, rfl, rfl, rfl, trivial⟩))))))
              · rcases Bool.eq_false_or_eq_true (x86) with hbr6 | hbr6
                · replace H := H.1 hbr6
                  replace hE := hE.bool (b := true) (t := 87) rfl (hbr6)
                  exact hE.on (by rfl) (by rfl) (hE.mv rfl fun _ hE => (hE.on (by rfl) (by rfl) (hE.pur (X.eqI hE rfl rfl) fun _ hE => (hE.pur (X.pickT hE rfl rfl) fun _ hE => (hr6 (decide (r_12 = 0)) _ _ H (hE.weak ⟨rfl, rfl, rfl, rfl, rfl, rfl, rfl, trivial⟩))))))
                · replace H := H.2 hbr6
                  replace hE := hE.bool (b := false) (t := 87) rfl (hbr6)
                  exact hE.off (by rfl) (by rfl) (by decide) (fun _ hE => (hE.off (by rfl) (by rfl) (by decide) (fun _ hE => (hE.pur (X.pickF hE rfl rfl) fun _ hE => (hr6 false _ _ H (hE.weak ⟨rfl, rfl, rfl, rfl, rfl, rfl, rfl, trivial⟩))))))
            · rcases Bool.eq_false_or_eq_true (x82) with hbr5 | hbr5
              · replace H := H.1 hbr5
                replace hE := hE.bool (b := true) (t := 83) rfl (hbr5)
                exact hE.on (by rfl) (by rfl) (hE.mv rfl fun _ hE => (hE.on (by rfl) (by rfl) (hE.pur (X.eqI hE rfl rfl) fun _ hE => (hE.pur (X.pickT hE rfl rfl) fun _ hE => (hr5 (decide (r_8 = 0)) _ _ H (hE.weak ⟨rfl, rfl, rfl, rfl, rfl, rfl, rfl, rfl, trivial⟩))))))
              · replace H := H.2 hbr5
                replace hE := hE.bool (b := false) (t := 83) rfl (hbr5)
                exact hE.off (by rfl) (by rfl) (by decide) (fun _ hE => (hE.off (by rfl) (by rfl) (by decide) (fun _ hE => (hE.pur (X.pickF hE rfl rfl) fun _ hE => (hr5 false _ _ H (hE.weak ⟨rfl, rfl, rfl, rfl, rfl, rfl, rfl, rfl, trivial⟩))))))
          · rcases Bool.eq_false_or_eq_true (x79) with hbr4 | hbr4
            · replace H := H.1 hbr4
              replace hE := hE.bool (b := true) (t := 80) rfl (hbr4)
              exact hE.on (by rfl) (by rfl) (hE.mv rfl fun _ hE => (hE.pur (X.pickT hE rfl rfl) fun _ hE => (hr4 r_7 _ _ H (hE.weak ⟨rfl, rfl, rfl, rfl, rfl, rfl, rfl, rfl, rfl, trivial⟩))))
            · replace H := H.2 hbr4
              replace hE := hE.bool (b := false) (t := 80) rfl (hbr4)
              exact hE.off (by rfl) (by rfl) (by decide) (fun _ hE => (hE.pur (X.pickF hE rfl rfl) fun _ hE => (hr4 false _ _ H (hE.weak ⟨rfl, rfl, rfl, rfl, rfl, rfl, rfl, rfl, rfl, trivial⟩))))
        · rcases Bool.eq_false_or_eq_true (x75) with hbr3 | hbr3
          · replace H := H.1 hbr3
            replace hE := hE.bool (b := true) (t := 76) rfl (hbr3)
            exact hE.on (by rfl) (by rfl) (hE.mv rfl fun _ hE => (hE.on (by rfl) (by rfl) (hE.pur (X.eqS hE rfl rfl) fun _ hE => (hE.pur (X.pickT hE rfl rfl) fun _ hE => (hr3 (decide (r_6 = (ByteArray.mk #[49]))) _ _ H (hE.weak ⟨rfl, rfl, rfl, rfl, rfl, rfl, rfl, rfl, rfl, rfl, trivial⟩))))))
          · replace H := H.2 hbr3
            replace hE := hE.bool (b := false) (t := 76) rfl (hbr3)
            exact hE.off (by rfl) (by rfl) (by decide) (fun _ hE => (hE.off (by rfl) (by rfl) (by decide) (fun _ hE => (hE.pur (X.pickF hE rfl rfl) fun _ hE => (hr3 false _ _ H (hE.weak ⟨rfl, rfl, rfl, rfl, rfl, rfl, rfl, rfl, rfl, rfl, trivial⟩))))))
      · rcases Bool.eq_false_or_eq_true (x71) with hbr2 | hbr2
        · replace H := H.1 hbr2
          replace hE := hE.bool (b := true) (t := 72) rfl (hbr2)
          exact hE.on (by rfl) (by rfl) (hE.mv rfl fun _ hE => (hE.on (by rfl) (by rfl) (hE.pur (X.eqI hE rfl rfl) fun _ hE => (hE.pur (X.pickT hE rfl rfl) fun _ hE => (hr2 (decide (r_4 = 2)) _ _ H (hE.weak ⟨rfl, rfl, rfl, rfl, rfl, rfl, rfl, rfl, rfl, rfl, rfl, trivial⟩))))))
        · replace H := H.2 hbr2
          replace hE := hE.bool (b := false) (t := 72) rfl (hbr2)
          exact hE.off (by rfl) (by rfl) (by decide) (fun _ hE => (hE.off (by rfl) (by rfl) (by decide) (fun _ hE => (hE.pur (X.pickF hE rfl rfl) fun _ hE => (hr2 false _ _ H (hE.weak ⟨rfl, rfl, rfl, rfl, rfl, rfl, rfl, rfl, rfl, rfl, rfl, trivial⟩))))))
    · rcases Classical.em ((r_1 = 0)) with hbr1 | hbr1
      · replace H := H.1 hbr1
        replace hE := hE.bool (b := true) (t := 68) rfl (decide_eq_true hbr1)
        exact hE.on (by rfl) (by rfl) (hE.mv rfl fun _ hE => (hE.on (by rfl) (by rfl) (hE.pur (X.eqI hE rfl rfl) fun _ hE => (hE.pur (X.pickT hE rfl rfl) fun _ hE => (hr1 (decide (r_2 = 1)) _ _ H (hE.weak ⟨rfl, rfl, rfl, rfl, rfl, rfl, rfl, rfl, rfl, rfl, rfl, rfl, trivial⟩))))))
      · replace H := H.2 hbr1
        replace hE := hE.bool (b := false) (t := 68) rfl (decide_eq_false hbr1)
        exact hE.off (by rfl) (by rfl) (by decide) (fun _ hE => (hE.off (by rfl) (by rfl) (by decide) (fun _ hE => (hE.pur (X.pickF hE rfl rfl) fun _ hE => (hr1 false _ _ H (hE.weak ⟨rfl, rfl, rfl, rfl, rfl, rfl, rfl, rfl, rfl, rfl, rfl, rfl, trivial⟩))))))
end Go.Proofs.YtealcoghiaeiiaaGreat.VG
set_option linter.unusedVariables false
namespace Go.Proofs.YtealcoghiaeiiaaGreat.VG
open Go.VB Go.Proofs Go.RowKit
theorem doms_le {κ ν : Type} {f : κ → Option ν} {ks D : List κ} (h : Doms f ks) (hD : ∀ k v, f k = some v → k ∈ D) : ks.length ≤ D.length := nodup_le h.1 fun k hk => by
  obtain ⟨v, hv⟩ := (h.2 k).1 hk; exact hD k v hv
theorem overS_now (s : St) (n : Int) : (overS s n).now = s.now := by unfold overS swept; split <;> rfl
theorem overS_tx (s : St) (n : Int) : (overS s n).tx = del s.tx n := by unfold overS swept; split <;> rfl
abbrev t3 : ByteArray := ByteArray.mk #[51]
abbrev l1 : List Pai := [⟨tA, t1⟩]
abbrev v1 : Ver := ⟨tA, 1, t1, false⟩
abbrev wX : Wri := ⟨tA, t2, false⟩
theorem good1 : GoodV [v1] 1 := good_of (by decide) (by decide) (by intro x hx; simp at hx; subst hx; exact ⟨by decide, by decide, fun h => (nomatch h), by decide, by decide⟩) (by simp)
theorem pwhy1 : pwhy [v1] 1 [wX] 2 = 0 := pwhy_zero.2 ⟨good1, wwrong_zero.2 ⟨by decide, by intro w hw; simp at hw; subst hw; unfold TooLong; decide, by simp [wkeys]⟩, by decide, by decide, by decide, by intro x hx; simp at hx; subst hx; decide, by decide⟩
theorem put1 : vput [v1] 1 [wX] 2 = (putL [v1] 2 [wX], 1, 0) := by unfold vput; rw [if_neg (by rw [pwhy1]; decide)]
theorem isLow_of {s : St} {ks : List Int} (hd : Doms s.tx ks) : ∃ lo, IsLow s lo := by
  have : ∀ ks : List Int, ∃ lo, lo ≤ s.now ∧ (∀ k ∈ ks, ∀ t, s.tx k = some t → lo ≤ t.began) ∧ (lo = s.now ∨ ∃ k t, s.tx k = some t ∧ lo = t.began) := by
    intro ks
    induction ks with
    | nil => exact ⟨s.now, Int.le_refl _, by simp, .inl rfl⟩
    | cons k ks ih =>
      obtain ⟨lo, h1, h2, h3⟩ := ih
      cases ht : s.tx k with
      | none => exact ⟨lo, h1, fun j hj t hjt => by
          rcases List.mem_cons.1 hj with e | e
          · subst e; rw [ht] at hjt; cases hjt
          · exact h2 j e t hjt, h3⟩
      | some u =>
        by_cases hu : u.began < lo
        · exact ⟨u.began, by omega, fun j hj t hjt => by
            rcases List.mem_cons.1 hj with e | e
            · subst e; rw [ht] at hjt; cases hjt; exact Int.le_refl _
            · have := h2 j e t hjt; omega, .inr ⟨k, u, ht, rfl⟩⟩
        · exact ⟨lo, h1, fun j hj t hjt => by
            rcases List.mem_cons.1 hj with e | e
            · subst e; rw [ht] at hjt; cases hjt; omega
            · exact h2 j e t hjt, h3⟩
  obtain ⟨lo, h1, h2, h3⟩ := this ks
  exact ⟨lo, h1, fun n t ht => h2 n ((hd.2 n).2 ⟨t, ht⟩) t ht, h3⟩
theorem over_mem {s : St} {n : Int} {v : Ver} (hv : v ∈ s.l) (hs : s.l.Pairwise vlt) {m : Int} {t : Tx} (ht : s.tx m = some t) (hm : m ≠ n) (ha : t.began < v.At) (hlow : ∃ lo, IsLow (delTx s n) lo) : v ∈ (overS s n).l := by
  unfold overS swept
  split
  · rename_i h
    obtain ⟨h1, h2, h3, h4⟩ := vsweep_ok h
    show v ∈ (vsweep (delTx s n).l (delTx s n).low (lowOf (delTx s n))).1
    rw [h4]
    obtain ⟨lo, hlo⟩ := hlow
    have h5 : lo ≤ t.began := hlo.all m t (by show del s.tx n m = _; rw [del_other _ hm]; exact ht)
    have h6 := hlo.eq
    exact (swp_mem hs).2 ⟨hv, fun y _ _ h => by omega, fun h => by omega⟩
  · exact hv
theorem lives_ok (w : World) {k : Bool → World → Prop} (H : ∀ w', Bel w w' → k true w') : Cl Tryz.prog fn_ladinglaw10_lives [].toArray w (fun e w' => ∃ r0 : Bool, e = .returned (.bool r0) ∧ k r0 w') := by
  refine L1_ladinglaw10_lives w k ?_
  unfold V_ladinglaw10_lives
  refine ⟨⟨tA, t1⟩, w, by kernel_rfl, ?_⟩
  have hl1 := Rd.lit (c := T_api_Pair.cells) (n := 2) (fun _ => rfl) l1 (by decide) w ty_api_Pair
  have b1 : Bel w (w.alloc (.cells (l1.flatMap T_api_Pair.cells).toArray ty_api_Pair)) := Bel.alloc _ _
  refine ⟨⟨some ⟨w.heap.size, 0, none⟩, 1, 1⟩, (w.alloc (.cells (l1.flatMap T_api_Pair.cells).toArray ty_api_Pair)), by kernel_rfl, ?_⟩
  generalize (w.alloc (.cells (l1.flatMap T_api_Pair.cells).toArray ty_api_Pair)) = w1 at hl1 b1 ⊢
  have hnl : l1.any plong = false := by decide
  refine new_ok (l := l1) hl1 (fun h => absurd h (by decide)) (fun _ h => absurd h (by rw [hnl]; decide)) (fun _ _ h => absurd (fun j x y hj hx hy => by simp at hj) h) fun _ _ _ b ρ w2 b2 m2 hρ => ?_
  have b02 := b1.trans b2
  have hρ0 : ∀ q, q < w.heap.size → ρ q = none := fun q hq => hρ q (Nat.lt_of_lt_of_le hq b1.le)
  refine pnilM _ ⟨fun h => (nomatch h), fun _ => ?_⟩
  have hd0 : ∀ {ks}, Doms (newS l1).tx ks → ks.length ≤ ([] : List Int).length := fun h => doms_le h fun q v hv => by cases hv
  refine begin_ok m2 (by decide) (by decide) rfl (fun ks hks h => by exfalso; have := hd0 hks; simp only [List.length_nil] at this; omega) fun ks ρ3 w3 _ _ m3 e3 => ?_
  let T0 : Tx := newTx (newS l1)
  have tx1 : (begun (newS l1)).tx = upd (fun _ => none) 1 T0 := rfl
  have hd1 : ∀ {ks}, Doms (begun (newS l1)).tx ks → ks.length ≤ ([1] : List Int).length := fun h => doms_le h fun q v hv => by
    by_cases hq : q = 1
    · subst hq; simp
    · rw [tx1, upd_other _ _ hq] at hv; cases hv
  refine begin_ok m3 (by show (0 : Int) ≤ 0 + 1; decide) (by show (0 : Int) + 1 < _; decide) (by rw [tx1]; exact upd_other _ _ (by show (0 : Int) + 1 + 1 ≠ 1; decide)) (fun ks hks h => by exfalso; have := hd1 hks; simp only [List.length_cons, List.length_nil] at this; omega) fun ks ρ4 w4 _ _ m4 e4 => ?_
  have e24 := e3.trans e4
  generalize hS2 : begun (begun (newS l1)) = S2 at m4
  have n2 : S2.now = 1 := by rw [← hS2]; rfl
  have l2 : S2.l = [v1] := by rw [← hS2]; rfl
  have lo2 : S2.low = 1 := by rw [← hS2]; rfl
  have x21 : S2.tx 1 = some T0 := by rw [← hS2]; show upd (begun (newS l1)).tx 2 _ 1 = _; rw [upd_other _ _ (by decide), tx1, upd_same]
  have x22 : S2.tx 2 = some T0 := by rw [← hS2]; show upd (begun (newS l1)).tx 2 _ 2 = _; rw [upd_same]; rfl
  have x2o : ∀ q, q ≠ 1 → q ≠ 2 → S2.tx q = none := fun q h1 h2 => by rw [← hS2]; show upd (begun (newS l1)).tx 2 _ q = _; rw [upd_other _ _ h2, tx1, upd_other _ _ h1]
  clear hS2
  -- the first gets, and the second
  refine get_ok m4 1 tA (fun h => by rw [x21] at h; cases h) (fun t _ h => absurd h (by decide)) (fun t ht _ h => by rw [x21] at ht; cases ht; simp [T0, newTx] at h) fun t ρ5 w5 ht _ _ m5 e5 => ?_
  rw [x21] at ht; cases ht
  have hget : tget S2 T0 tA = (t1, true, 0) := by
    show vget S2.l S2.low tA 1 = _
    rw [l2, lo2, vget_ok good1 (by decide), show ([v1] : List Ver) = [v1] from rfl, sees_one, if_pos ⟨rfl, by decide⟩]; rfl
  rw [hget]
  let T1 : Tx := addR T0 (spanK tA)
  have x31 : (setTx S2 1 T1).tx 1 = some T1 := by simp [setTx, upd_same]
  have x32 : (setTx S2 1 T1).tx 2 = some T0 := by simp only [setTx]; rw [upd_other _ _ (by decide)]; exact x22
  refine get_ok m5 2 tA (fun h => by rw [x32] at h; cases h) (fun t _ h => absurd h (by decide)) (fun t ht _ h => by rw [x32] at ht; cases ht; simp [T0, newTx] at h) fun t ρ6 w6 ht _ _ m6 e6 => ?_
  rw [x32] at ht; cases ht
  have e26 := (e24.trans e5).trans e6
  generalize hS4 : setTx (setTx S2 1 T1) 2 (addR T0 (spanK tA)) = S4 at m6
  have x41 : S4.tx 1 = some T1 := by rw [← hS4]; simp only [setTx]; rw [upd_other _ _ (by decide), upd_same]
  have x42 : S4.tx 2 = some T1 := by rw [← hS4]; simp only [setTx]; rw [upd_same]
  have x4o : ∀ q, q ≠ 1 → q ≠ 2 → S4.tx q = none := fun q h1 h2 => by rw [← hS4]; simp only [setTx]; rw [upd_other _ _ h2, upd_other _ _ h1]; exact x2o q h1 h2
  have n4 : S4.now = 1 := by rw [← hS4]; exact n2
  have l4 : S4.l = [v1] := by rw [← hS4]; exact l2
  have lo4 : S4.low = 1 := by rw [← hS4]; exact lo2
  clear hS4
  have hnoW : ∀ {ks}, Doms T1.wr ks → ks.length ≤ ([] : List ByteArray).length := fun h => doms_le h fun q v hv => by cases hv
  -- both write
  refine put_of 1 tA t2 (write_ok m6 1 ⟨tA, t2, false⟩ (fun h => by rw [x41] at h; cases h) (fun t _ h => absurd h (by unfold TooLong; decide)) (fun t ks ht _ _ hks h => by rw [x41] at ht; cases ht; have := hnoW hks; simp only [List.length_nil] at this; exfalso; omega) fun t w7 ht _ _ m7 e7 => ?_)
  rw [x41] at ht; cases ht
  let P1 : Tx := putW T1 wX
  let P2 : Tx := putW T1 ⟨tA, t3, false⟩
  have x52 : (setTx S4 1 P1).tx 2 = some T1 := by simp only [setTx]; rw [upd_other _ _ (by decide)]; exact x42
  refine put_of 2 tA t3 (write_ok m7 2 ⟨tA, t3, false⟩ (fun h => by rw [x52] at h; cases h) (fun t _ h => absurd h (by unfold TooLong; decide)) (fun t ks ht _ _ hks h => by rw [x52] at ht; cases ht; have := hnoW hks; simp only [List.length_nil] at this; exfalso; omega) fun t w8 ht _ _ m8 e8 => ?_)
  rw [x52] at ht; cases ht
  have e28 := (e26.trans e7).trans e8
  generalize hS6 : setTx (setTx S4 1 P1) 2 (putW T1 ⟨tA, t3, false⟩) = S6 at m8
  have x61 : S6.tx 1 = some P1 := by rw [← hS6]; simp only [setTx]; rw [upd_other _ _ (by decide), upd_same]
  have x62 : S6.tx 2 = some P2 := by rw [← hS6]; simp only [setTx]; rw [upd_same]
  have x6o : ∀ q, q ≠ 1 → q ≠ 2 → S6.tx q = none := fun q h1 h2 => by rw [← hS6]; simp only [setTx]; rw [upd_other _ _ h2, upd_other _ _ h1]; exact x4o q h1 h2
  have n6 : S6.now = 1 := by rw [← hS6]; exact n4
  have l6 : S6.l = [v1] := by rw [← hS6]; exact l4
  have lo6 : S6.low = 1 := by rw [← hS6]; exact lo4
  clear hS6
  have few : ∀ x : Wri, x.Key = tA → Few (putW T1 x) ∧ Keyed (putW T1 x) := fun x hx => by
    have hw : (putW T1 x).wr = upd (fun _ => none) tA x := by show upd _ x.Key x = _; rw [hx]; rfl
    refine ⟨⟨[tA], ⟨by simp, fun q => ?_⟩, by decide⟩, fun q y hy => ?_⟩
    · rw [hw]
      by_cases hq : q = tA
      · subst hq; simp [upd_same]
      · simp [upd_other _ _ hq, hq]
    · rw [hw] at hy
      by_cases hq : q = tA
      · subst hq; rw [upd_same] at hy; cases hy; exact hx
      · rw [upd_other _ _ hq] at hy; cases hy
  have w1 : P1.wr = upd (fun _ => none) tA wX := rfl
  have srt : Sorts P1.wr [wX] := ⟨by simp, fun z => by
    rw [w1]
    by_cases hq : z.Key = tA
    · rw [hq, upd_same]; simp; exact eq_comm
    · rw [upd_other _ _ hq]; simp; intro e; subst e; exact hq rfl⟩
  have noc : S6.l.any (conf P1) = false := by rw [l6]; show (decide ((1 : Int) < 1) && _ || false) = false; rw [show decide ((1 : Int) < 1) = false from by decide]; rfl
  -- the first commits
  refine commit_ok m8 1 (fun t ht => by rw [x61] at ht; cases ht; exact few wX rfl) (by rw [n6]; decide) (by rw [n6]; decide) (fun h => by rw [x61] at h; cases h) (fun t ρ' w' ht h => by rw [x61] at ht; cases ht; rw [noc] at h; cases h) (fun t ρ' w' ht _ h => by rw [x61] at ht; cases ht; have := h tA; rw [w1, upd_same] at this; cases this)
    (fun t ys ρ' w' ht _ hS _ h => by
      rw [x61] at ht; cases ht
      rw [hS.one srt, n6, l6, lo6, show (1 : Int) + 1 = 2 from rfl, put1] at h
      exact absurd rfl h) fun t ys r ρ9 w9 ht _ hS _ _ m9 e9 hr hq => ?_
  rw [x61] at ht; cases ht
  obtain rfl := hS.one srt
  rw [n6, l6, lo6, show (1 : Int) + 1 = 2 from rfl, put1] at m9
  rw [n6, show (1 : Int) + 1 = 2 from rfl]
  have hdm : Doms (delTx (putS S6 (putL [v1] 2 [wX], 1, 0)) 1).tx [2] := ⟨by simp, fun q => by
    show q ∈ [2] ↔ ∃ v, del S6.tx 1 q = some v
    by_cases h1 : q = 1
    · subst h1; simp [del_same]
    · rw [del_other _ h1]
      by_cases h2 : q = 2
      · subst h2; simp [x62]
      · simp [x6o q h1 h2, h2]⟩
  have hmem : mk 2 wX ∈ (overS (putS S6 (putL [v1] 2 [wX], 1, 0)) 1).l := over_mem (m := 2) (t := P2) (putL_mem.2 (.inr ⟨wX, by simp, rfl⟩)) (put_sorted pwhy1) x62 (by decide) (by show (1 : Int) < 2; decide) (isLow_of hdm)
  generalize hS7 : overS (putS S6 (putL [v1] 2 [wX], 1, 0)) 1 = S7 at m9 hmem
  have n7 : S7.now = 2 := by rw [← hS7, overS_now]; show S6.now + 1 = 2; rw [n6]; rfl
  have x72 : S7.tx 2 = some P2 := by rw [← hS7, overS_tx, del_other _ (by decide)]; exact x62
  clear hS7
  have con : S7.l.any (conf P2) = true := List.any_eq_true.2 ⟨_, hmem, by decide⟩
  have e29 := e28.trans e9
  -- the second does not
  refine commit_ok m9 2 (fun t ht => by rw [x72] at ht; cases ht; exact few _ rfl) (by rw [n7]; decide) (by rw [n7]; decide) (fun h => by rw [x72] at h; cases h) (fun t ρ10 w10 ht _ m10 e10 => ?_) (fun t ρ' w' ht h => by rw [x72] at ht; cases ht; rw [con] at h; cases h) (fun t ys ρ' w' ht h => by rw [x72] at ht; cases ht; rw [con] at h; cases h) (fun t ys r ρ' w' ht h => by rw [x72] at ht; cases ht; rw [con] at h; cases h)
  have hr10 : WriRd w10 r [wX] := hr.keep fun q h => by obtain ⟨_, h1, h2⟩ := hq q h; exact e10.blk h1 h2
  have b10 : Bel w w10 := (e29.trans e10).base b02 hρ0
  obtain ⟨vs, mb, g, m10⟩ := m10
  have n10 : (overS S7 2).now = 2 := by rw [overS_now]; exact n7
  refine ⟨fun _ => ?_, fun h => absurd rfl h⟩
  unfold V_ladinglaw10_lives_r1
  refine ⟨fun _ => ?_, fun h => absurd h (by decide)⟩
  unfold V_ladinglaw10_lives_r2
  refine ⟨fun _ => ?_, fun h => absurd h (by decide)⟩
  unfold V_ladinglaw10_lives_r3
  refine ⟨fun _ => ?_, fun h => absurd h (by decide)⟩
  unfold V_ladinglaw10_lives_r4
  refine ⟨fun _ => ?_, fun h => (nomatch h)⟩
  unfold V_ladinglaw10_lives_r5
  refine ⟨fun _ => ?_, fun h => absurd h (by decide)⟩
  unfold V_ladinglaw10_lives_r6
  refine ⟨fun _ => ?_, fun h => absurd h (by decide)⟩
  unfold V_ladinglaw10_lives_r7
  refine ⟨fun _ => ?_, fun h => absurd h (by decide)⟩
  refine ⟨wX, w10, by kernel_rfl, ?_⟩
  have hl2 := Rd.lit (c := T_api_Write.cells) (n := 3) (fun _ => rfl) [wX] (by decide) w10 ty_api_Write
  have b11 : Bel w10 (w10.alloc (.cells ([wX].flatMap T_api_Write.cells).toArray ty_api_Write)) := Bel.alloc _ _
  refine ⟨⟨some ⟨w10.heap.size, 0, none⟩, 1, 1⟩, (w10.alloc (.cells ([wX].flatMap T_api_Write.cells).toArray ty_api_Write)), by kernel_rfl, ?_⟩
  generalize (w10.alloc (.cells ([wX].flatMap T_api_Write.cells).toArray ty_api_Write)) = w11 at hl2 b11 ⊢
  refine wsame_ok (hr10.bel b11) hl2 fun c w12 hc b12 => ?_
  obtain rfl : c = true := hc.2 rfl
  unfold V_ladinglaw10_lives_r8
  refine ⟨fun _ => ?_, fun h => (nomatch h)⟩
  unfold V_ladinglaw10_lives_r9
  refine ⟨fun _ => ?_, fun h => absurd h (by decide)⟩
  unfold V_ladinglaw10_lives_r10
  refine ⟨fun _ => ?_, fun h => absurd h (by decide)⟩
  unfold V_ladinglaw10_lives_r11
  refine ⟨fun _ => ?_, fun h => absurd h (by decide)⟩
  refine now_ok ((m10.bel b11).bel b12) ?_
  unfold V_ladinglaw10_lives_r12
  rw [n10]
  exact H w12 ((b10.trans b11).trans b12)
end Go.Proofs.YtealcoghiaeiiaaGreat.VG
set_option linter.unusedVariables false
set_option linter.unusedSimpArgs false
namespace Go.Proofs.YtealcoghiaeiiaaGreat.VG
open Go.VB Go.Proofs
def V_ladinglaw10_TxnNil_r18 (Ret : Bool → World → Prop) (x150 : Bool) (w : World) : Prop :=
  Ret x150 w
def V_ladinglaw10_TxnNil_r17 (Ret : Bool → World → Prop) (x143 : Bool) (w : World) : Prop :=
  (x143 = true → (Cl Tryz.prog 25 [(.pointer none)].toArray w (fun e w => ∃ (r_11 : T_api_Versions), e = .returned (T_api_Versions.v r_11) ∧ (opE Tryz.prog Sl.v (Instr.field 69 (T_api_Versions.v r_11) 0) w (fun x147 w => V_ladinglaw10_TxnNil_r18 Ret (decide ((x147.len : Int) = 0)) w))))) ∧ (x143 = false → (V_ladinglaw10_TxnNil_r18 Ret false w))
def V_ladinglaw10_TxnNil_r16 (Ret : Bool → World → Prop) (x137 : Bool) (w : World) : Prop :=
  (x137 = true → (Cl Tryz.prog 32 [(.pointer none)].toArray w (fun e w => ∃ (r_12 : Sl), e = .returned (Sl.v r_12) ∧ (V_ladinglaw10_TxnNil_r17 Ret (decide ((r_12.len : Int) = 0)) w)))) ∧ (x137 = false → (V_ladinglaw10_TxnNil_r17 Ret false w))
def V_ladinglaw10_TxnNil_r15 (Ret : Bool → World → Prop) (x132 : Bool) (w : World) : Prop :=
  (x132 = true → (Cl Tryz.prog 31 [(.pointer none)].toArray w (fun e w => ∃ (r_13 : Int), e = .returned (.int .u64 r_13) ∧ (V_ladinglaw10_TxnNil_r16 Ret (decide (r_13 = 0)) w)))) ∧ (x132 = false → (V_ladinglaw10_TxnNil_r16 Ret false w))
def V_ladinglaw10_TxnNil_r14 (Ret : Bool → World → Prop) (x1 : Option Addr) (x124 : Bool) (w : World) : Prop :=
  (x124 = true → (opE Tryz.prog Value.pointer (Instr.fieldAt 49 (.pointer x1) 1) w (fun x127 w => opE Tryz.prog (Value.int .i64) (Instr.loadAt 3 (.pointer x127)) w (fun x128 w => Cl Tryz.prog 30 [(.pointer none), (.int .i64 x128)].toArray w (fun e w => ∃ (r_14 : Sl), e = .returned (Sl.v r_14) ∧ (V_ladinglaw10_TxnNil_r15 Ret (decide ((r_14.len : Int) = 0)) w)))))) ∧ (x124 = false → (V_ladinglaw10_TxnNil_r15 Ret false w))
def V_ladinglaw10_TxnNil_r13 (Ret : Bool → World → Prop) (x1 : Option Addr) (x117 : Bool) (w : World) : Prop :=
  (x117 = true → (opE Tryz.prog Value.pointer (Instr.fieldAt 49 (.pointer x1) 1) w (fun x120 w => opE Tryz.prog (Value.int .i64) (Instr.loadAt 3 (.pointer x120)) w (fun x121 w => Cl Tryz.prog 29 [(.pointer none), (.int .i64 x121)].toArray w (fun e w => ∃ (r_15 : Int), e = .returned (.int .i64 r_15) ∧ (V_ladinglaw10_TxnNil_r14 Ret x1 (decide (r_15 = 1)) w)))))) ∧ (x117 = false → (V_ladinglaw10_TxnNil_r14 Ret x1 false w))
def V_ladinglaw10_TxnNil_r12 (Ret : Bool → World → Prop) (x1 : Option Addr) (x108 : Bool) (w : World) : Prop :=
  (x108 = true → (opE Tryz.prog Value.pointer (Instr.fieldAt 49 (.pointer x1) 1) w (fun x111 w => opE Tryz.prog (Value.int .i64) (Instr.loadAt 3 (.pointer x111)) w (fun x112 w => opE Tryz.prog Value.pointer (Instr.fieldAt 49 (.pointer x1) 2) w (fun x113 w => opE Tryz.prog Value.string (Instr.loadAt 9 (.pointer x113)) w (fun x114 w => Cl Tryz.prog 13 [(.pointer none), (.int .i64 x112), (.string x114)].toArray w (fun e w => ∃ (r_16 : Int), e = .returned (.int .i64 r_16) ∧ (V_ladinglaw10_TxnNil_r13 Ret x1 (decide (r_16 = 1)) w)))))))) ∧ (x108 = false → (V_ladinglaw10_TxnNil_r13 Ret x1 false w))
def V_ladinglaw10_TxnNil_r11 (Ret : Bool → World → Prop) (x1 : Option Addr) (x97 : Bool) (w : World) : Prop :=
  (x97 = true → (opE Tryz.prog Value.pointer (Instr.fieldAt 49 (.pointer x1) 1) w (fun x100 w => opE Tryz.prog (Value.int .i64) (Instr.loadAt 3 (.pointer x100)) w (fun x101 w => opE Tryz.prog Value.pointer (Instr.fieldAt 49 (.pointer x1) 2) w (fun x102 w => opE Tryz.prog Value.string (Instr.loadAt 9 (.pointer x102)) w (fun x103 w => opE Tryz.prog Value.pointer (Instr.fieldAt 49 (.pointer x1) 4) w (fun x104 w => opE Tryz.prog Value.string (Instr.loadAt 9 (.pointer x104)) w (fun x105 w => Cl Tryz.prog 14 [(.pointer none), (.int .i64 x101), (.string x103), (.string x105)].toArray w (fun e w => ∃ (r_17 : Int), e = .returned (.int .i64 r_17) ∧ (V_ladinglaw10_TxnNil_r12 Ret x1 (decide (r_17 = 1)) w)))))))))) ∧ (x97 = false → (V_ladinglaw10_TxnNil_r12 Ret x1 false w))
def V_ladinglaw10_TxnNil_r10 (Ret : Bool → World → Prop) (x1 : Option Addr) (r_9 : Int) (x93 : Bool) (w : World) : Prop :=
  (x93 = true → (V_ladinglaw10_TxnNil_r11 Ret x1 (decide (r_9 = 1)) w)) ∧ (x93 = false → (V_ladinglaw10_TxnNil_r11 Ret x1 false w))
def V_ladinglaw10_TxnNil_r9 (Ret : Bool → World → Prop) (x1 : Option Addr) (r_8 : Sl) (r_9 : Int) (x88 : Bool) (w : World) : Prop :=
  (x88 = true → (V_ladinglaw10_TxnNil_r10 Ret x1 r_9 (decide ((r_8.len : Int) = 0)) w)) ∧ (x88 = false → (V_ladinglaw10_TxnNil_r10 Ret x1 r_9 false w))
def V_ladinglaw10_TxnNil_r8 (Ret : Bool → World → Prop) (x1 : Option Addr) (r_7 : Int) (r_8 : Sl) (r_9 : Int) (x84 : Bool) (w : World) : Prop :=
  (x84 = true → (V_ladinglaw10_TxnNil_r9 Ret x1 r_8 r_9 (decide (r_7 = 1)) w)) ∧ (x84 = false → (V_ladinglaw10_TxnNil_r9 Ret x1 r_8 r_9 false w))
def V_ladinglaw10_TxnNil_r7 (Ret : Bool → World → Prop) (x1 : Option Addr) (r_6 : Bool) (r_7 : Int) (r_8 : Sl) (r_9 : Int) (x80 : Bool) (w : World) : Prop :=
  (x80 = true → (V_ladinglaw10_TxnNil_r8 Ret x1 r_7 r_8 r_9 (!r_6) w)) ∧ (x80 = false → (V_ladinglaw10_TxnNil_r8 Ret x1 r_7 r_8 r_9 false w))
def V_ladinglaw10_TxnNil_r6 (Ret : Bool → World → Prop) (x1 : Option Addr) (r_5 : ByteArray) (r_6 : Bool) (r_7 : Int) (r_8 : Sl) (r_9 : Int) (x76 : Bool) (w : World) : Prop :=
  (x76 = true → (V_ladinglaw10_TxnNil_r7 Ret x1 r_6 r_7 r_8 r_9 (decide (r_5 = (ByteArray.mk #[]))) w)) ∧ (x76 = false → (V_ladinglaw10_TxnNil_r7 Ret x1 r_6 r_7 r_8 r_9 false w))
def V_ladinglaw10_TxnNil_r5 (Ret : Bool → World → Prop) (x1 : Option Addr) (r_4 : Int) (r_5 : ByteArray) (r_6 : Bool) (r_7 : Int) (r_8 : Sl) (r_9 : Int) (x72 : Bool) (w : World) : Prop :=
  (x72 = true → (V_ladinglaw10_TxnNil_r6 Ret x1 r_5 r_6 r_7 r_8 r_9 (decide (r_4 = 1)) w)) ∧ (x72 = false → (V_ladinglaw10_TxnNil_r6 Ret x1 r_5 r_6 r_7 r_8 r_9 false w))
def V_ladinglaw10_TxnNil_r4 (Ret : Bool → World → Prop) (x1 : Option Addr) (r_3 : Int) (r_4 : Int) (r_5 : ByteArray) (r_6 : Bool) (r_7 : Int) (r_8 : Sl) (r_9 : Int) (x68 : Bool) (w : World) : Prop :=
  (x68 = true → (V_ladinglaw10_TxnNil_r5 Ret x1 r_4 r_5 r_6 r_7 r_8 r_9 (decide (r_3 = 0)) w)) ∧ (x68 = false → (V_ladinglaw10_TxnNil_r5 Ret x1 r_4 r_5 r_6 r_7 r_8 r_9 false w))
def V_ladinglaw10_TxnNil_r3 (Ret : Bool → World → Prop) (x1 : Option Addr) (r_2 : Sl) (r_3 : Int) (r_4 : Int) (r_5 : ByteArray) (r_6 : Bool) (r_7 : Int) (r_8 : Sl) (r_9 : Int) (x63 : Bool) (w : World) : Prop :=
  (x63 = true → (V_ladinglaw10_TxnNil_r4 Ret x1 r_3 r_4 r_5 r_6 r_7 r_8 r_9 (decide ((r_2.len : Int) = 0)) w)) ∧ (x63 = false → (V_ladinglaw10_TxnNil_r4 Ret x1 r_3 r_4 r_5 r_6 r_7 r_8 r_9 false w))
def V_ladinglaw10_TxnNil_r2 (Ret : Bool → World → Prop) (x1 : Option Addr) (r_1 : Int) (r_2 : Sl) (r_3 : Int) (r_4 : Int) (r_5 : ByteArray) (r_6 : Bool) (r_7 : Int) (r_8 : Sl) (r_9 : Int) (x59 : Bool) (w : World) : Prop :=
  (x59 = true → (V_ladinglaw10_TxnNil_r3 Ret x1 r_2 r_3 r_4 r_5 r_6 r_7 r_8 r_9 (decide (r_1 = 1)) w)) ∧ (x59 = false → (V_ladinglaw10_TxnNil_r3 Ret x1 r_2 r_3 r_4 r_5 r_6 r_7 r_8 r_9 false w))
def V_ladinglaw10_TxnNil_r1 (Ret : Bool → World → Prop) (x1 : Option Addr) (r : Int) (r_1 : Int) (r_2 : Sl) (r_3 : Int) (r_4 : Int) (r_5 : ByteArray) (r_6 : Bool) (r_7 : Int) (r_8 : Sl) (r_9 : Int) (x55 : Bool) (w : World) : Prop :=
  (x55 = true → (V_ladinglaw10_TxnNil_r2 Ret x1 r_1 r_2 r_3 r_4 r_5 r_6 r_7 r_8 r_9 (decide (r = 0)) w)) ∧ (x55 = false → (V_ladinglaw10_TxnNil_r2 Ret x1 r_1 r_2 r_3 r_4 r_5 r_6 r_7 r_8 r_9 false w))
def V_ladinglaw10_TxnNil (x0 : T_api_TxStep) (w : World) (Ret : Bool → World → Prop) : Prop :=
  opE Tryz.prog Value.pointer (Instr.box 49 (T_api_TxStep.v x0)) w (fun x1 w => Cl Tryz.prog 12 [(.pointer none)].toArray w (fun e w => ∃ (r : Int) (r_1 : Int), e = .returned (.tuple [(.int .i64 r), (.int .i64 r_1)].toArray) ∧ (opE Tryz.prog Value.pointer (Instr.fieldAt 49 (.pointer x1) 1) w (fun x21 w => opE Tryz.prog (Value.int .i64) (Instr.loadAt 3 (.pointer x21)) w (fun x22 w => Cl Tryz.prog 15 [(.pointer none), (.int .i64 x22)].toArray w (fun e w => ∃ (r_2 : Sl) (r_3 : Int) (r_4 : Int), e = .returned (.tuple [(Sl.v r_2), (.int .u64 r_3), (.int .i64 r_4)].toArray) ∧ (opE Tryz.prog Value.pointer (Instr.fieldAt 49 (.pointer x1) 1) w (fun x29 w => opE Tryz.prog (Value.int .i64) (Instr.loadAt 3 (.pointer x29)) w (fun x30 w => opE Tryz.prog Value.pointer (Instr.fieldAt 49 (.pointer x1) 2) w (fun x31 w => opE Tryz.prog Value.string (Instr.loadAt 9 (.pointer x31)) w (fun x32 w => Cl Tryz.prog 22 [(.pointer none), (.int .i64 x30), (.string x32)].toArray w (fun e w => ∃ (r_5 : ByteArray) (r_6 : Bool) (r_7 : Int), e = .returned (.tuple [(.string r_5), (.bool r_6), (.int .i64 r_7)].toArray) ∧ (opE Tryz.prog Value.pointer (Instr.fieldAt 49 (.pointer x1) 1) w (fun x39 w => opE Tryz.prog (Value.int .i64) (Instr.loadAt 3 (.pointer x39)) w (fun x40 w => opE Tryz.prog Value.pointer (Instr.fieldAt 49 (.pointer x1) 2) w (fun x41 w => opE Tryz.prog Value.string (Instr.loadAt 9 (.pointer x41)) w (fun x42 w => opE Tryz.prog Value.pointer (Instr.fieldAt 49 (.pointer x1) 3) w (fun x43 w => opE Tryz.prog Value.string (Instr.loadAt 9 (.pointer x43)) w (fun x44 w => Cl Tryz.prog 17 [(.pointer none), (.int .i64 x40), (.string x42), (.string x44)].toArray w (fun e w => ∃ (r_8 : Sl) (r_9 : Int), e = .returned (.tuple [(Sl.v r_8), (.int .i64 r_9)].toArray) ∧ (Cl Tryz.prog 10 [].toArray w (fun e w => ∃ (r_10 : Bool), e = .returned (.bool r_10) ∧ ((r_10 = true → (opE Tryz.prog T_api_TxStep.v (Instr.loadAt 49 (.pointer x1)) w (fun x51 w => Cl Tryz.prog 19 [(.pointer none), (T_api_TxStep.v x51)].toArray w (fun e w => ∃ (r_18 : T_api_TxAnswer), e = .returned (T_api_TxAnswer.v r_18) ∧ (opE Tryz.prog T_api_TxAnswer.v (Instr.build 51 [(0, (.int .i64 1))].toArray) w (fun x53 w => Cl Tryz.prog 24 [(T_api_TxAnswer.v r_18), (T_api_TxAnswer.v x53)].toArray w (fun e w => ∃ (r_19 : Bool), e = .returned (.bool r_19) ∧ (V_ladinglaw10_TxnNil_r1 Ret x1 r r_1 r_2 r_3 r_4 r_5 r_6 r_7 r_8 r_9 r_19 w)))))))) ∧ (r_10 = false → (V_ladinglaw10_TxnNil_r1 Ret x1 r r_1 r_2 r_3 r_4 r_5 r_6 r_7 r_8 r_9 false w)))))))))))))))))))))))))
set_option maxRecDepth 100000 in
theorem L1_ladinglaw10_TxnNil (x0 : T_api_TxStep) (w : World) (Ret : Bool → World → Prop) (H : V_ladinglaw10_TxnNil x0 w Ret) : Cl Tryz.prog 9 [(T_api_TxStep.v x0)].toArray w (fun e w' => ∃ (r0 : Bool), e = .returned (.bool r0) ∧ Ret r0 w') := by
  unfold V_ladinglaw10_TxnNil at H
  refine C.enter 151 (zipE 0 [(T_api_TxStep.v x0)]) Tryz.func9 rfl rfl (by rfl) rfl ?_
  intro a hE
  replace hE : Sat [] 151 [(0, (T_api_TxStep.v x0))] a := hE
  refine C.seq (C.region (hE.op (X.box hE rfl) H fun x1 w a H hE => (hE.as_ rfl fun _ hE => (C.nil (tn (C.seq (C.region (hE.as_ rfl fun _ hE => (C.nil (tn (C.seq (C.region (hE.mv rfl fun _ hE => (hE.call (X.callF hE ent12 rfl rfl) H fun e w H => ?_))))))))))))))
  obtain ⟨r, r_1, rfl, H⟩ := H
  refine ⟨_, rfl, fun _ hE => (hE.mv rfl fun _ hE => (hE.pur (X.extract hE rfl rfl) fun _ hE => (hE.pur (X.extract hE rfl rfl) fun _ hE => (hE.as_ rfl fun _ hE => (hE.as_ rfl fun _ hE => (C.nil (tn (C.seq (C.region (hE.mv rfl fun _ hE => (hE.op (X.fieldAddr hE rfl) H fun x21 w a H hE => (hE.op (X.load hE rfl) H fun x22 w a H hE => (hE.call (X.callF hE ent15 rfl rfl) H fun e w H => ?_)))))))))))))⟩
  obtain ⟨r_2, r_3, r_4, rfl, H⟩ := H
  refine ⟨_, rfl, fun _ hE => (hE.mv rfl fun _ hE => (hE.pur (X.extract hE rfl rfl) fun _ hE => (hE.pur (X.extract hE rfl rfl) fun _ hE => (hE.pur (X.extract hE rfl rfl) fun _ hE => (hE.as_ rfl fun _ hE => (hE.as_ rfl fun _ hE => (hE.as_ rfl fun _ hE => (C.nil (tn (C.seq (C.region (hE.mv rfl fun _ hE => (hE.op (X.fieldAddr hE rfl) H fun x29 w a H hE => (hE.op (X.load hE rfl) H fun x30 w a H hE => (hE.op (X.fieldAddr hE rfl) H fun x31 w a H hE => (hE.op (X.load hE rfl) H fun x32 w a H hE => (hE.call (X.callF hE ent22 rfl rfl) H fun e w H => ?_)))))))))))))))))⟩
  obtain ⟨r_5, r_6, r_7, rfl, H⟩ := H
  refine ⟨_, rfl, fun _ hE => (hE.mv rfl fun _ hE => (hE.pur (X.extract hE rfl rfl) fun _ hE => (hE.pur (X.extract hE rfl rfl) fun _ hE => (hE.pur (X.extract hE rfl rfl) fun _ hE => (hE.as_ rfl fun _ hE => (hE.as_ rfl fun _ hE => (hE.as_ rfl fun _ hE => (C.nil (tn (C.seq (C.region (hE.mv rfl fun _ hE => (hE.op (X.fieldAddr hE rfl) H fun x39 w a H hE => (hE.op (X.load hE rfl) H fun x40 w a H hE => (hE.op (X.fieldAddr hE rfl) H fun x41 w a H hE => (hE.op (X.load hE rfl) H fun x42 w a H hE => (hE.op (X.fieldAddr hE rfl) H fun x43 w a H hE => (hE.op (X.load hE rfl) H fun x44 w a H hE => (hE.call (X.callF hE ent17 rfl rfl) H fun e w H => ?_)))))))))))))))))))⟩
  obtain ⟨r_8, r_9, rfl, H⟩ := H
  refine ⟨_, rfl, fun _ hE => (hE.mv rfl fun _ hE => (hE.pur (X.extract hE rfl rfl) fun _ hE => (hE.pur (X.extract hE rfl rfl) fun _ hE => (hE.as_ rfl fun _ hE => (hE.as_ rfl fun _ hE => (C.nil (tn (C.seq (C.region (hE.call (X.callF hE ent10 rfl rfl) H fun e w H => ?_))))))))))⟩
  obtain ⟨r_10, rfl, H⟩ := H
  refine ⟨_, rfl, fun _ hE => (hE.mv rfl fun _ hE => (WL.join (ds := []) (N := 151) (σ := Bool) (fun s => [(55, (.bool s)), (1, (.pointer x1)), (3, (.pointer none)), (4, (.int .i64 r)), (5, (.int .i64 r_1)), (6, (Sl.v r_2)), (7, (.int .u64 r_3)), (8, (.int .i64 r_4)), (9, (.string r_5)), (10, (.bool r_6)), (11, (.int .i64 r_7)), (12, (Sl.v r_8)), (13, (.int .i64 r_9))]) (fun s w => V_ladinglaw10_TxnNil_r1 Ret x1 r r_1 r_2 r_3 r_4 r_5 r_6 r_7 r_8 r_9 s w) 6 ?_ (fun hr1 => ?_)))⟩
  · intro x55 w a H hE
    try dsimp only at H hE
    unfold V_ladinglaw10_TxnNil_r1 at H
    refine hE.mv rfl fun _ hE => WL.join (ds := []) (N := 151) (σ := Bool) (fun s => [(59, (.bool s)), (1, (.pointer x1)), (3, (.pointer none)), (5, (.int .i64 r_1)), (6, (Sl.v r_2)), (7, (.int .u64 r_3)), (8, (.int .i64 r_4)), (9, (.string r_5)), (10, (.bool r_6)), (11, (.int .i64 r_7)), (12, (Sl.v r_8)), (13, (.int .i64 r_9))]) (fun s w => V_ladinglaw10_TxnNil_r2 Ret x1 r_1 r_2 r_3 r_4 r_5 r_6 r_7 r_8 r_9 s w) 3 ?_ (fun hr2 => ?_)
    · intro x59 w a H hE
      try dsimp only at H hE
      unfold V_ladinglaw10_TxnNil_r2 at H
      refine hE.mv rfl fun _ hE => WL.join (ds := []) (N := 151) (σ := Bool) (fun s => [(63, (.bool s)), (1, (.pointer x1)), (3, (.pointer none)), (6, (Sl.v r_2)), (7, (.int .u64 r_3)), (8, (.int .i64 r_4)), (9, (.string r_5)), (10, (.bool r_6)), (11, (.int .i64 r_7)), (12, (Sl.v r_8)), (13, (.int .i64 r_9))]) (fun s w => V_ladinglaw10_TxnNil_r3 Ret x1 r_2 r_3 r_4 r_5 r_6 r_7 r_8 r_9 s w) 3 ?_ (fun hr3 => ?_)
      · intro x63 w a H hE
        try dsimp only at H hE
        unfold V_ladinglaw10_TxnNil_r3 at H
        refine hE.mv rfl fun _ hE => WL.join (ds := []) (N := 151) (σ := Bool) (fun s => [(68, (.bool s)), (1, (.pointer x1)), (3, (.pointer none)), (7, (.int .u64 r_3)), (8, (.int .i64 r_4)), (9, (.string r_5)), (10, (.bool r_6)), (11, (.int .i64 r_7)), (12, (Sl.v r_8)), (13, (.int .i64 r_9))]) (fun s w => V_ladinglaw10_TxnNil_r4 Ret x1 r_3 r_4 r_5 r_6 r_7 r_8 r_9 s w) 4 ?_ (fun hr4 => ?_)
        · intro x68 w a H hE
          try dsimp only at H hE
          unfold V_ladinglaw10_TxnNil_r4 at H
          refine hE.mv rfl fun _ hE => WL.join (ds := []) (N := 151) (σ := Bool) (fun s => [(72, (.bool s)), (1, (.pointer x1)), (3, (.pointer none)), (8, (.int .i64 r_4)), (9, (.string r_5)), (10, (.bool r_6)), (11, (.int .i64 r_7)), (12, (Sl.v r_8)), (13, (.int .i64 r_9))]) (fun s w => V_ladinglaw10_TxnNil_r5 Ret x1 r_4 r_5 r_6 r_7 r_8 r_9 s w) 3 ?_ (fun hr5 => ?_)
          · intro x72 w a H hE
            try dsimp only at H hE
            unfold V_ladinglaw10_TxnNil_r5 at H
            refine hE.mv rfl fun _ hE => WL.join (ds := []) (N := 151) (σ := Bool) (fun s => [(76, (.bool s)), (1, (.pointer x1)), (3, (.pointer none)), (9, (.string r_5)), (10, (.bool r_6)), (11, (.int .i64 r_7)), (12, (Sl.v r_8)), (13, (.int .i64 r_9))]) (fun s w => V_ladinglaw10_TxnNil_r6 Ret x1 r_5 r_6 r_7 r_8 r_9 s w) 3 ?_ (fun hr6 => ?_)
            · intro x76 w a H hE
              try dsimp only at H hE
              unfold V_ladinglaw10_TxnNil_r6 at H
              refine hE.mv rfl fun _ hE => WL.join (ds := []) (N := 151) (σ := Bool) (fun s => [(80, (.bool s)), (1, (.pointer x1)), (3, (.pointer none)), (10, (.bool r_6)), (11, (.int .i64 r_7)), (12, (Sl.v r_8)), (13, (.int .i64 r_9))]) (fun s w => V_ladinglaw10_TxnNil_r7 Ret x1 r_6 r_7 r_8 r_9 s w) 3 ?_ (fun hr7 => ?_)
              · intro x80 w a H hE
                try dsimp only at H hE
                unfold V_ladinglaw10_TxnNil_r7 at H
                refine hE.mv rfl fun _ hE => WL.join (ds := []) (N := 151) (σ := Bool) (fun s => [(84, (.bool s)), (1, (.pointer x1)), (3, (.pointer none)), (11, (.int .i64 r_7)), (12, (Sl.v r_8)), (13, (.int .i64 r_9))]) (fun s w => V_ladinglaw10_TxnNil_r8 Ret x1 r_7 r_8 r_9 s w) 3 ?_ (fun hr8 => ?_)
                · intro x84 w a H hE
                  try dsimp only at H hE
                  unfold V_ladinglaw10_TxnNil_r8 at H
                  refine hE.mv rfl fun _ hE => WL.join (ds := []) (N := 151) (σ := Bool) (fun s => [(88, (.bool s)), (1, (.pointer x1)), (3, (.pointer none)), (12, (Sl.v r_8)), (13, (.int .i64 r_9))]) (fun s w => V_ladinglaw10_TxnNil_r9 Ret x1 r_8 r_9 s w) 3 ?_ (fun hr9 => ?_)
                  · intro x88 w a H hE
                    try dsimp only at H hE
                    unfold V_ladinglaw10_TxnNil_r9 at H
                    refine hE.mv rfl fun _ hE => WL.join (ds := []) (N := 151) (σ := Bool) (fun s => [(93, (.bool s)), (1, (.pointer x1)), (3, (.pointer none)), (13, (.int .i64 r_9))]) (fun s w => V_ladinglaw10_TxnNil_r10 Ret x1 r_9 s w) 4 ?_ (fun hr10 => ?_)
                    · intro x93 w a H hE
                      try dsimp only at H hE
                      unfold V_ladinglaw10_TxnNil_r10 at H
                      refine hE.mv rfl fun _ hE => WL.join (ds := []) (N := 151) (σ := Bool) (fun s => [(97, (.bool s)), (1, (.pointer x1)), (3, (.pointer none))]) (fun s w => V_ladinglaw10_TxnNil_r11 Ret x1 s w) 3 ?_ (fun hr11 => ?_)
                      · intro x97 w a H hE
                        try dsimp only at H hE
                        unfold V_ladinglaw10_TxnNil_r11 at H
                        refine hE.mv rfl fun _ hE => WL.join (ds := []) (N := 151) (σ := Bool) (fun s => [(108, (.bool s)), (1, (.pointer x1)), (3, (.pointer none))]) (fun s w => V_ladinglaw10_TxnNil_r12 Ret x1 s w) 10 ?_ (fun hr12 => ?_)
                        · intro x108 w a H hE
                          try dsimp only at H hE
                          unfold V_ladinglaw10_TxnNil_r12 at H
                          refine hE.mv rfl fun _ hE => WL.join (ds := []) (N := 151) (σ := Bool) (fun s => [(117, (.bool s)), (1, (.pointer x1)), (3, (.pointer none))]) (fun s w => V_ladinglaw10_TxnNil_r13 Ret x1 s w) 8 ?_ (fun hr13 => ?_)
                          · intro x117 w a H hE
                            try dsimp only at H hE
                            unfold V_ladinglaw10_TxnNil_r13 at H
                            refine hE.mv rfl fun _ hE => WL.join (ds := []) (N := 151) (σ := Bool) (fun s => [(124, (.bool s)), (1, (.pointer x1)), (3, (.pointer none))]) (fun s w => V_ladinglaw10_TxnNil_r14 Ret x1 s w) 6 ?_ (fun hr14 => ?_)
                            · intro x124 w a H hE
                              try dsimp only at H hE
                              unfold V_ladinglaw10_TxnNil_r14 at H
                              refine hE.mv rfl fun _ hE => WL.join (ds := []) (N := 151) (σ := Bool) (fun s => [(132, (.bool s)), (3, (.pointer none))]) (fun s w => V_ladinglaw10_TxnNil_r15 Ret s w) 7 ?_ (fun hr15 => ?_)
                              · intro x132 w a H hE
                                try dsimp only at H hE
                                unfold V_ladinglaw10_TxnNil_r15 at H
                                refine hE.mv rfl fun _ hE => WL.join (ds := []) (N := 151) (σ := Bool) (fun s => [(137, (.bool s)), (3, (.pointer none))]) (fun s w => V_ladinglaw10_TxnNil_r16 Ret s w) 4 ?_ (fun hr16 => ?_)
                                · intro x137 w a H hE
                                  try dsimp only at H hE
                                  unfold V_ladinglaw10_TxnNil_r16 at H
                                  refine hE.mv rfl fun _ hE => WL.join (ds := []) (N := 151) (σ := Bool) (fun s => [(143, (.bool s)), (3, (.pointer none))]) (fun s w => V_ladinglaw10_TxnNil_r17 Ret s w) 5 ?_ (fun hr17 => ?_)
                                  · intro x143 w a H hE
                                    try dsimp only at H hE
                                    unfold V_ladinglaw10_TxnNil_r17 at H
                                    refine hE.mv rfl fun _ hE => WL.join (ds := []) (N := 151) (σ := Bool) (fun s => [(150, (.bool s))]) (fun s w => V_ladinglaw10_TxnNil_r18 Ret s w) 6 ?_ (fun hr18 => ?_)
                                    · intro x150 w a H hE
                                      try dsimp only at H hE
                                      unfold V_ladinglaw10_TxnNil_r18 at H
                                      exact hE.as_ rfl fun _ hE => C.nil (tn (C.ret (C.ret1 hE rfl rfl ⟨_, rfl, H⟩)))
                                    · rcases Bool.eq_false_or_eq_true (x143) with hbr18 | hbr18
                                      · replace H := H.1 hbr18
                                        replace hE := hE.bool (b := true) (t := 144) rfl (hbr18)
                                        refine hE.on (by rfl) (by rfl) (hE.mv rfl fun _ hE => (hE.on (by rfl) (by rfl) (hE.call (X.callF hE ent25 rfl rfl) H fun e w H => ?_)))
                                        obtain ⟨r_11, rfl, H⟩ := H
                                        exact ⟨_, rfl, fun _ hE => (hE.on (by rfl) (by rfl) (hE.op (X.field hE rfl) H fun x147 w a H hE => (hE.on (by rfl) (by rfl) (hE.purR (fun w => X.lenL hE Tryz.underlying67 rfl) fun _ hE => (hE.on (by rfl) (by rfl) (hE.pur (X.eqI hE rfl rfl) fun _ hE => (hE.pur (X.pickT hE rfl rfl) fun _ hE => (hr18 (decide ((x147.len : Int) = 0)) _ _ H (hE.weak ⟨rfl, trivial⟩)))))))))⟩
                                      · replace H := H.2 hbr18
                                        replace hE := hE.bool (b := false) (t := 144) rfl (hbr18)
                                        exact hE.off (by rfl) (by rfl) (by decide) (fun _ hE => (hE.off (by rfl) (by rfl) (by decide) (fun _ hE => (hE.off (by rfl) (by rfl) (by decide) (fun _ hE => (hE.off (by rfl) (by rfl) (by decide) (fun _ hE => (hE.off (by rfl) (by rfl) (by decide) (fun _ hE => (hE.pur (X.pickF hE rfl rfl) fun _ hE => (hr18 false _ _ H (hE.weak ⟨rfl, trivial⟩))))))))))))
                                  · rcases Bool.eq_false_or_eq_true (x137) with hbr17 | hbr17
                                    · replace H := H.1 hbr17
                                      replace hE := hE.bool (b := true) (t := 138) rfl (hbr17)
                                      refine hE.on (by rfl) (by rfl) (hE.mv rfl fun _ hE => (hE.on (by rfl) (by rfl) (hE.call (X.callF hE ent32 rfl rfl) H fun e w H => ?_)))
                                      obtain ⟨r_12, rfl, H⟩ := H
                                      exact ⟨_, rfl, fun _ hE => (hE.on (by rfl) (by rfl) (hE.purR (fun w => X.lenL hE Tryz.underlying24 rfl) fun _ hE => (hE.on (by rfl) (by rfl) (hE.pur (X.eqI hE rfl rfl) fun _ hE => (hE.pur (X.pickT hE rfl rfl) fun _ hE => (hr17 (decide ((r_12.len : Int) = 0)) _ _ H (hE.weak ⟨rfl, rfl, trivial⟩)))))))⟩
                                    · replace H := H.2 hbr17
                                      replace hE := hE.bool (b := false) (t := 138) rfl (hbr17)
                                      exact hE.off (by rfl) (by rfl) (by decide) (fun _ hE => (hE.off (by rfl) (by rfl) (by decide) (fun _ hE => (hE.off (by rfl) (by rfl) (by decide) (fun _ hE => (hE.off (by rfl) (by rfl) (by decide) (fun _ hE => (hE.pur (X.pickF hE rfl rfl) fun _ hE => (hr17 false _ _ H (hE.weak ⟨rfl, rfl, trivial⟩))))))))))
                                · rcases Bool.eq_false_or_eq_true (x132) with hbr16 | hbr16
                                  · replace H := H.1 hbr16
                                    replace hE := hE.bool (b := true) (t := 133) rfl (hbr16)
                                    refine hE.on (by rfl) (by rfl) (hE.mv rfl fun _ hE => (hE.on (by rfl) (by rfl) (hE.call (X.callF hE ent31 rfl rfl) H fun e w H => ?_)))
                                    obtain ⟨r_13, rfl, H⟩ := H
                                    exact ⟨_, rfl, fun _ hE => (hE.on (by rfl) (by rfl) (hE.pur (X.eqI hE rfl rfl) fun _ hE => (hE.pur (X.pickT hE rfl rfl) fun _ hE => (hr16 (decide (r_13 = 0)) _ _ H (hE.weak ⟨rfl, rfl, trivial⟩)))))⟩
                                  · replace H := H.2 hbr16
                                    replace hE := hE.bool (b := false) (t := 133) rfl (hbr16)
                                    exact hE.off (by rfl) (by rfl) (by decide) (fun _ hE => (hE.off (by rfl) (by rfl) (by decide) (fun _ hE => (hE.off (by rfl) (by rfl) (by decide) (fun _ hE => (hE.pur (X.pickF hE rfl rfl) fun _ hE => (hr16 false _ _ H (hE.weak ⟨rfl, rfl, trivial⟩))))))))
                              · rcases Bool.eq_false_or_eq_true (x124) with hbr15 | hbr15
                                · replace H := H.1 hbr15
                                  replace hE := hE.bool (b := true) (t := 125) rfl (hbr15)
                                  refine hE.on (by rfl) (by rfl) (hE.mv rfl fun _ hE => (hE.on (by rfl) (by rfl) (hE.op (X.fieldAddr hE rfl) H fun x127 w a H hE => (hE.on (by rfl) (by rfl) (hE.op (X.load hE rfl) H fun x128 w a H hE => (hE.on (by rfl) (by rfl) (hE.call (X.callF hE ent30 rfl rfl) H fun e w H => ?_)))))))
                                  obtain ⟨r_14, rfl, H⟩ := H
                                  exact ⟨_, rfl, fun _ hE => (hE.on (by rfl) (by rfl) (hE.purR (fun w => X.lenL hE Tryz.underlying30 rfl) fun _ hE => (hE.on (by rfl) (by rfl) (hE.pur (X.eqI hE rfl rfl) fun _ hE => (hE.pur (X.pickT hE rfl rfl) fun _ hE => (hr15 (decide ((r_14.len : Int) = 0)) _ _ H (hE.weak ⟨rfl, rfl, trivial⟩)))))))⟩
                                · replace H := H.2 hbr15
                                  replace hE := hE.bool (b := false) (t := 125) rfl (hbr15)
                                  exact hE.off (by rfl) (by rfl) (by decide) (fun _ hE => (hE.off (by rfl) (by rfl) (by decide) (fun _ hE => (hE.off (by rfl) (by rfl) (by decide) (fun _ hE => (hE.off (by rfl) (by rfl) (by decide) (fun _ hE => (hE.off (by rfl) (by rfl) (by decide) (fun _ hE => (hE.off (by rfl) (by rfl) (by decide) (fun _ hE => (hE.pur (X.pickF hE rfl rfl) fun _ hE => (hr15 false _ _ H (hE.weak ⟨rfl, rfl, trivial⟩))))))))))))))
                            · rcases Bool.eq_false_or_eq_true (x117) with hbr14 | hbr14
                              · replace H := H.1 hbr14
                                replace hE := hE.bool (b := true) (t := 118) rfl (hbr14)
                                refine hE.on (by rfl) (by rfl) (hE.mv rfl fun _ hE => (hE.on (by rfl) (by rfl) (hE.op (X.fieldAddr hE rfl) H fun x120 w a H hE => (hE.on (by rfl) (by rfl) (hE.op (X.load hE rfl) H fun x121 w a H hE => (hE.on (by rfl) (by rfl) (hE.call (X.callF hE ent29 rfl rfl) H fun e w H => ?_)))))))
                                obtain ⟨r_15, rfl, H⟩ := H
                                exact ⟨_, rfl, fun _ hE => (hE.on (by rfl) (by rfl) (hE.pur (X.eqI hE rfl rfl) fun _ hE => (hE.pur (X.pickT hE rfl rfl) fun _ hE => (hr14 (decide (r_15 = 1)) _ _ H (hE.weak ⟨rfl, rfl, rfl, trivial⟩)))))⟩
                              · replace H := H.2 hbr14
                                replace hE := hE.bool (b := false) (t := 118) rfl (hbr14)
                                exact hE.off (by rfl) (by rfl) (by decide) (fun _ hE => (hE.off (by rfl) (by rfl) (by decide) (fun _ hE => (hE.off (by rfl) (by rfl) (by decide) (fun _ hE => (hE.off (by rfl) (by rfl) (by decide) (fun _ hE => (hE.off (by rfl) (by rfl) (by decide) (fun _ hE => (hE.pur (X.pickF hE rfl rfl) fun _ hE => (hr14 false _ _ H (hE.weak ⟨rfl, rfl, rfl, trivial⟩))))))))))))
                          · rcases Bool.eq_false_or_eq_true (x108) with hbr13 | hbr13
                            · replace H := H.1 hbr13
                              replace hE := hE.bool (b := true) (t := 109) rfl (hbr13)
                              refine hE.on (by rfl) (by rfl) (hE.mv rfl fun _ hE => (hE.on (by rfl) (by rfl) (hE.op (X.fieldAddr hE rfl) H fun x111 w a H hE => (hE.on (by rfl) (by rfl) (hE.op (X.load hE rfl) H fun x112 w a H hE => (hE.on (by rfl) (by rfl) (hE.op (X.fieldAddr hE rfl) H fun x113 w a H hE => (hE.on (by rfl) (by rfl) (hE.op (X.load hE rfl) H fun x114 w a H hE => (hE.on (by rfl) (by rfl) (hE.call (X.callF hE ent13 rfl rfl) H fun e w H => ?_)))))))))))
                              obtain ⟨r_16, rfl, H⟩ := H
                              exact ⟨_, rfl, fun _ hE => (hE.on (by rfl) (by rfl) (hE.pur (X.eqI hE rfl rfl) fun _ hE => (hE.pur (X.pickT hE rfl rfl) fun _ hE => (hr13 (decide (r_16 = 1)) _ _ H (hE.weak ⟨rfl, rfl, rfl, trivial⟩)))))⟩
                            · replace H := H.2 hbr13
                              replace hE := hE.bool (b := false) (t := 109) rfl (hbr13)
                              exact hE.off (by rfl) (by rfl) (by decide) (fun _ hE => (hE.off (by rfl) (by rfl) (by decide) (fun _ hE => (hE.off (by rfl) (by rfl) (by decide) (fun _ hE => (hE.off (by rfl) (by rfl) (by decide) (fun _ hE => (hE.off (by rfl) (by rfl) (by decide) (fun _ hE => (hE.off (by rfl) (by rfl) (by decide) (fun _ hE => (hE.off (by rfl) (by rfl) (by decide) (fun _ hE => (hE.pur (X.pickF hE rfl rfl) fun _ hE => (hr13 false _ _ H (hE.weak ⟨rfl, rfl, rfl, trivial⟩))))))))))))))))
                        · rcases Bool.eq_false_or_eq_true (x97) with hbr12 | hbr12
                          · replace H := H.1 hbr12
                            replace hE := hE.bool (b := true) (t := 98) rfl (hbr12)
                            refine hE.on (by rfl) (by rfl) (hE.mv rfl fun _ hE => (hE.on (by rfl) (by rfl) (hE.op (X.fieldAddr hE rfl) H fun x100 w a H hE => (hE.on (by rfl) (by rfl) (hE.op (X.load hE rfl) H fun x101 w a H hE => (hE.on (by rfl) (by rfl) (hE.op (X.fieldAddr hE rfl) H fun x102 w a H hE => (hE.on (by rfl) (by rfl) (hE.op (X.load hE rfl) H fun x103 w a H hE => (hE.on (by rfl) (by rfl) (hE.op (X.fieldAddr hE rfl) H fun x104 w a H hE => (hE.on (by rfl) (by rfl) (hE.op (X.load hE rfl) H fun x105 w a H hE => (hE.on (by rfl) (by rfl) (hE.call (X.callF hE ent14 rfl rfl) H fun e w H => ?_)))))))))))))))
                            obtain ⟨r_17, rfl, H⟩ := H
                            exact ⟨_, rfl, fun _ hE => (hE.on (by rfl) (by rfl) (hE.pur (X.eqI hE rfl rfl) fun _ hE => (hE.pur (X.pickT hE rfl rfl) fun _ hE => (hr12 (decide (r_17 = 1)) _ _ H (hE.weak ⟨rfl, rfl, rfl, trivial⟩)))))⟩
                          · replace H := H.2 hbr12
                            replace hE := hE.bool (b := false) (t := 98) rfl (hbr12)
                            exact hE.off (by rfl) (by rfl) (by decide) (fun _ hE => (hE.off (by rfl) (by rfl) (by decide) (fun _ hE => (hE.off (by rfl) (by rfl) (by decide) (fun _ hE => (hE.off (by rfl) (by rfl) (by decide) (fun _ hE => (hE.off (by rfl) (by rfl) (by decide) (fun _ hE => (hE.off (by rfl) (by rfl) (by decide) (fun _ hE => (hE.off (by rfl) (by rfl) (by decide) (fun _ hE => (hE.off (by rfl) (by rfl) (by decide) (fun _ hE => (hE.off (by rfl) (by rfl) (by decide) (fun _ hE => (hE.pur (X.pickF hE rfl rfl) fun _ hE => (hr12 false _ _ H (hE.weak ⟨rfl, rfl, rfl, trivial⟩))))))))))))))))))))
                      · rcases Bool.eq_false_or_eq_true (x93) with hbr11 | hbr11
                        · replace H := H.1 hbr11
                          replace hE := hE.bool (b := true) (t := 94) rfl (hbr11)
                          exact hE.on (by rfl) (by rfl) (hE.mv rfl fun _ hE => (hE.on (by rfl) (by rfl) (hE.pur (X.eqI hE rfl rfl) fun _ hE => (hE.pur (X.pickT hE rfl rfl) fun _ hE => (hr11 (decide (r_9 = 1)) _ _ H (hE.weak ⟨rfl, rfl, rfl, trivial⟩))))))
                        · replace H := H.2 hbr11
                          replace hE := hE.bool (b := false) (t := 94) rfl (hbr11)
                          exact hE.off (by rfl) (by rfl) (by decide) (fun _ hE => (hE.off (by rfl) (by rfl) (by decide) (fun _ hE => (hE.pur (X.pickF hE rfl rfl) fun _ hE => (hr11 false _ _ H (hE.weak ⟨rfl, rfl, rfl, trivial⟩))))))
                    · rcases Bool.eq_false_or_eq_true (x88) with hbr10 | hbr10
                      · replace H := H.1 hbr10
                        replace hE := hE.bool (b := true) (t := 89) rfl (hbr10)
                        exact hE.on (by rfl) (by rfl) (hE.mv rfl fun _ hE => (hE.on (by rfl) (by rfl) (hE.purR (fun w => X.lenL hE Tryz.underlying22 rfl) fun _ hE => (hE.on (by rfl) (by rfl) (hE.pur (X.eqI hE rfl rfl) fun _ hE => (hE.pur (X.pickT hE rfl rfl) fun _ hE => (hr10 (decide ((r_8.len : Int) = 0)) _ _ H (hE.weak ⟨rfl, rfl, rfl, rfl, trivial⟩))))))))
                      · replace H := H.2 hbr10
                        replace hE := hE.bool (b := false) (t := 89) rfl (hbr10)
                        exact hE.off (by rfl) (by rfl) (by decide) (fun _ hE => (hE.off (by rfl) (by rfl) (by decide) (fun _ hE => (hE.off (by rfl) (by rfl) (by decide) (fun _ hE => (hE.pur (X.pickF hE rfl rfl) fun _ hE => (hr10 false _ _ H (hE.weak ⟨rfl, rfl, rfl, rfl, trivial⟩))))))))
                  · rcases Bool.eq_false_or_eq_true (x84) with hbr9 | hbr9
                    · replace H := H.1 hbr9
                      replace hE := hE.bool (b := true) (t := 85) rfl (hbr9)
                      exact hE.on (by rfl) (by rfl) (hE.mv rfl fun _ hE => (hE.on (by rfl) (by rfl) (hE.pur (X.eqI hE rfl rfl) fun _ hE => (hE.pur (X.pickT hE rfl rfl) fun _ hE => (hr9 (decide (r_7 = 1)) _ _ H (hE.weak ⟨rfl, rfl, rfl, rfl, rfl, trivial⟩))))))
                    · replace H := H.2 hbr9
                      replace hE := hE.bool (b := false) (t := 85) rfl (hbr9)
                      exact hE.off (by rfl) (by rfl) (by decide) (fun _ hE => (hE.off (by rfl) (by rfl) (by decide) (fun _ hE => (hE.pur (X.pickF hE rfl rfl) fun _ hE => (hr9 false _ _ H (hE.weak ⟨rfl, rfl, rfl, rfl, rfl, trivial⟩))))))
                · rcases Bool.eq_false_or_eq_true (x80) with hbr8 | hbr8
                  · replace H := H.1 hbr8
                    replace hE := hE.bool (b := true) (t := 81) rfl (hbr8)
                    exact hE.on (by rfl) (by rfl) (hE.mv rfl fun _ hE => (hE.on (by rfl) (by rfl) (hE.pur (X.not hE rfl) fun _ hE => (hE.pur (X.pickT hE rfl rfl) fun _ hE => (hr8 (!r_6) _ _ H (hE.weak ⟨rfl, rfl, rfl, rfl, rfl, rfl, trivial⟩))))))
                  · replace H := H.2 hbr8
                    replace hE := hE.bool (b := false) (t := 81) rfl (hbr8)
                    exact hE.off (by rfl) (by rfl) (by decide) (fun _ hE => (hE.off (by rfl) (by rfl) (by decide) (fun _ hE => (hE.pur (X.pickF hE rfl rfl) fun _ hE => (hr8 false _ _ H (hE.weak ⟨rfl, rfl, rfl, rfl, rfl, rfl, trivial⟩))))))
              · rcases Bool.eq_false_or_eq_true (x76) with hbr7 | hbr7
                · replace H := H.1 hbr7
                  replace hE := hE.bool (b := true) (t := 77) rfl (hbr7)
                  exact hE.on (by rfl) (by rfl) (hE.mv rfl fun _ hE => (hE.on (by rfl) (by rfl) (hE.pur (X.eqS hE rfl rfl) fun _ hE => (hE.pur (X.pickT hE rfl rfl) fun _ hE => (hr7 (decide (r_5 = (ByteArray.mk #[]))) _ _ H (hE.weak ⟨rfl, rfl, rfl, rfl, rfl, rfl, rfl, trivial⟩))))))
                · replace H := H.2 hbr7
                  replace hE := hE.bool (b := false) (t := 77) rfl (hbr7)
                  exact hE.off (by rfl) (by rfl) (by decide) (fun _ hE => (hE.off (by rfl) (by rfl) (by decide) (fun _ hE => (hE.pur (X.pickF hE rfl rfl) fun _ hE => (hr7 false _ _ H (hE.weak ⟨rfl, rfl, rfl, rfl, rfl, rfl, rfl, trivial⟩))))))
            · rcases Bool.eq_false_or_eq_true (x72) with hbr6 | hbr6
              · replace H := H.1 hbr6
                replace hE := hE.bool (b := true) (t := 73) rfl (hbr6)
                exact hE.on (by rfl) (by rfl) (hE.mv rfl fun _ hE => (hE.on (by rfl) (by rfl) (hE.pur (X.eqI hE rfl rfl) fun _ hE => (hE.pur (X.pickT hE rfl rfl) fun _ hE => (hr6 (decide (r_4 = 1)) _ _ H (hE.weak ⟨rfl, rfl, rfl, rfl, rfl, rfl, rfl, rfl, trivial⟩))))))
              · replace H := H.2 hbr6
                replace hE := hE.bool (b := false) (t := 73) rfl (hbr6)
                exact hE.off (by rfl) (by rfl) (by decide) (fun _ hE => (hE.off (by rfl) (by rfl) (by decide) (fun _ hE => (hE.pur (X.pickF hE rfl rfl) fun _ hE => (hr6 false _ _ H (hE.weak ⟨rfl, rfl, rfl, rfl, rfl, rfl, rfl, rfl, trivial⟩))))))
          · rcases Bool.eq_false_or_eq_true (x68) with hbr5 | hbr5
            · replace H := H.1 hbr5
              replace hE := hE.bool (b := true) (t := 69) rfl (hbr5)
              exact hE.on (by rfl) (by rfl) (hE.mv rfl fun _ hE => (hE.on (by rfl) (by rfl) (hE.pur (X.eqI hE rfl rfl) fun _ hE => (hE.pur (X.pickT hE rfl rfl) fun _ hE => (hr5 (decide (r_3 = 0)) _ _ H (hE.weak ⟨rfl, rfl, rfl, rfl, rfl, rfl, rfl, rfl, rfl, trivial⟩))))))
            · replace H := H.2 hbr5
              replace hE := hE.bool (b := false) (t := 69) rfl (hbr5)
              exact hE.off (by rfl) (by rfl) (by decide) (fun _ hE => (hE.off (by rfl) (by rfl) (by decide) (fun _ hE => (hE.pur (X.pickF hE rfl rfl) fun _ hE => (hr5 false _ _ H (hE.weak ⟨rfl, rfl, rfl, rfl, rfl, rfl, rfl, rfl, rfl, trivial⟩))))))
        · rcases Bool.eq_false_or_eq_true (x63) with hbr4 | hbr4
          · replace H := H.1 hbr4
            replace hE := hE.bool (b := true) (t := 64) rfl (hbr4)
            exact hE.on (by rfl) (by rfl) (hE.mv rfl fun _ hE => (hE.on (by rfl) (by rfl) (hE.purR (fun w => X.lenL hE Tryz.underlying30 rfl) fun _ hE => (hE.on (by rfl) (by rfl) (hE.pur (X.eqI hE rfl rfl) fun _ hE => (hE.pur (X.pickT hE rfl rfl) fun _ hE => (hr4 (decide ((r_2.len : Int) = 0)) _ _ H (hE.weak ⟨rfl, rfl, rfl, rfl, rfl, rfl, rfl, rfl, rfl, rfl, trivial⟩))))))))
          · replace H := H.2 hbr4
            replace hE := hE.bool (b := false) (t := 64) rfl (hbr4)
            exact hE.off (by rfl) (by rfl) (by decide) (fun _ hE => (hE.off (by rfl) (by rfl) (by decide) (fun _ hE => (hE.off (by rfl) (by rfl) (by decide) (fun _ hE => (hE.pur (X.pickF hE rfl rfl) fun _ hE => (hr4 false _ _ H (hE.weak ⟨rfl, rfl, rfl, rfl, rfl, rfl, rfl, rfl, rfl, rfl, trivial⟩))))))))
      · rcases Bool.eq_false_or_eq_true (x59) with hbr3 | hbr3
        · replace H := H.1 hbr3
          replace hE := hE.bool (b := true) (t := 60) rfl (hbr3)
          exact hE.on (by rfl) (by rfl) (hE.mv rfl fun _ hE => (hE.on (by rfl) (by rfl) (hE.pur (X.eqI hE rfl rfl) fun _ hE => (hE.pur (X.pickT hE rfl rfl) fun _ hE => (hr3 (decide (r_1 = 1)) _ _ H (hE.weak ⟨rfl, rfl, rfl, rfl, rfl, rfl, rfl, rfl, rfl, rfl, rfl, trivial⟩))))))
        · replace H := H.2 hbr3
          replace hE := hE.bool (b := false) (t := 60) rfl (hbr3)
          exact hE.off (by rfl) (by rfl) (by decide) (fun _ hE => (hE.off (by rfl) (by rfl) (by decide) (fun _ hE => (hE.pur (X.pickF hE rfl rfl) fun _ hE => (hr3 false _ _ H (hE.weak ⟨rfl, rfl, rfl, rfl, rfl, rfl, rfl, rfl, rfl, rfl, rfl, trivial⟩))))))
    · rcases Bool.eq_false_or_eq_true (x55) with hbr2 | hbr2
      · replace H := H.1 hbr2
        replace hE := hE.bool (b := true) (t := 56) rfl (hbr2)
        exact hE.on (by rfl) (by rfl) (hE.mv rfl fun _ hE => (hE.on (by rfl) (by rfl) (hE.pur (X.eqI hE rfl rfl) fun _ hE => (hE.pur (X.pickT hE rfl rfl) fun _ hE => (hr2 (decide (r = 0)) _ _ H (hE.weak ⟨rfl, rfl, rfl, rfl, rfl, rfl, rfl, rfl, rfl, rfl, rfl, rfl, trivial⟩))))))
      · replace H := H.2 hbr2
        replace hE := hE.bool (b := false) (t := 56) rfl (hbr2)
        exact hE.off (by rfl) (by rfl) (by decide) (fun _ hE => (hE.off (by rfl) (by rfl) (by decide) (fun _ hE => (hE.pur (X.pickF hE rfl rfl) fun _ hE => (hr2 false _ _ H (hE.weak ⟨rfl, rfl, rfl, rfl, rfl, rfl, rfl, rfl, rfl, rfl, rfl, rfl, trivial⟩))))))
  · rcases Bool.eq_false_or_eq_true (r_10) with hbr1 | hbr1
    · replace H := H.1 hbr1
      replace hE := hE.bool (b := true) (t := 49) rfl (hbr1)
      refine hE.on (by rfl) (by rfl) (hE.mv rfl fun _ hE => (hE.on (by rfl) (by rfl) (hE.op (X.load hE rfl) H fun x51 w a H hE => (hE.on (by rfl) (by rfl) (hE.call (X.callF hE ent19 rfl rfl) H fun e w H => ?_)))))
      obtain ⟨r_18, rfl, H⟩ := H
      refine ⟨_, rfl, fun _ hE => (hE.on (by rfl) (by rfl) (hE.op (X.build hE rfl) H fun x53 w a H hE => (hE.on (by rfl) (by rfl) (hE.call (X.callF hE ent24 rfl rfl) H fun e w H => ?_))))⟩
      obtain ⟨r_19, rfl, H⟩ := H
      exact ⟨_, rfl, fun _ hE => (hE.pur (X.pickT hE rfl rfl) fun _ hE => (hr1 r_19 _ _ H (hE.weak ⟨rfl, rfl, rfl, rfl, rfl, rfl, rfl, rfl, rfl, rfl, rfl, rfl, rfl, trivial⟩)))⟩
    · replace H := H.2 hbr1
      replace hE := hE.bool (b := false) (t := 49) rfl (hbr1)
      exact hE.off (by rfl) (by rfl) (by decide) (fun _ hE => (hE.off (by rfl) (by rfl) (by decide) (fun _ hE => (hE.off (by rfl) (by rfl) (by decide) (fun _ hE => (hE.off (by rfl) (by rfl) (by decide) (fun _ hE => (hE.off (by rfl) (by rfl) (by decide) (fun _ hE => (hE.pur (X.pickF hE rfl rfl) fun _ hE => (hr1 false _ _ H (hE.weak ⟨rfl, rfl, rfl, rfl, rfl, rfl, rfl, rfl, rfl, rfl, rfl, rfl, rfl, trivial⟩))))))))))))
def V_ladinglaw10_peek_r1 (Ret : Sl → World → Prop) (r : Sl) (x19 : Bool) (w : World) : Prop :=
  (x19 = true → (opE Tryz.prog T_api_Write.v (Instr.build 34 [].toArray) w (fun x20 w => opE Tryz.prog Sl.v (Instr.buildSlice 30 1 [(0, (T_api_Write.v x20))].toArray) w (fun x21 w => Ret x21 w)))) ∧ (x19 = false → (Ret r w))
def V_ladinglaw10_peek (x0 : Option Addr) (x1 : Int) (w : World) (Ret : Sl → World → Prop) : Prop :=
  Cl Tryz.prog 27 [(.pointer x0), (.int .i64 x1)].toArray w (fun e w => ∃ (r : Sl) (r_1 : Bool) (r_2 : Int), e = .returned (.tuple [(Sl.v r), (.bool r_1), (.int .i64 r_2)].toArray) ∧ ((r_1 = true → (V_ladinglaw10_peek_r1 Ret r true w)) ∧ (r_1 = false → (V_ladinglaw10_peek_r1 Ret r (decide (r_2 ≠ 1)) w))))
set_option maxRecDepth 100000 in
theorem L1_ladinglaw10_peek (x0 : Option Addr) (x1 : Int) (w : World) (Ret : Sl → World → Prop) (H : V_ladinglaw10_peek x0 x1 w Ret) : Cl Tryz.prog 30 [(.pointer x0), (.int .i64 x1)].toArray w (fun e w' => ∃ (r0 : Sl), e = .returned (Sl.v r0) ∧ Ret r0 w') := by
  unfold V_ladinglaw10_peek at H
  refine C.enter 23 (zipE 0 [(.pointer x0), (.int .i64 x1)]) Tryz.func30 rfl rfl (by rfl) rfl ?_
  intro a hE
  replace hE : Sat [] 23 [(0, (.pointer x0)), (1, (.int .i64 x1))] a := hE
  refine C.seq (C.region (hE.as_ rfl fun _ hE => (C.nil (tn (C.seq (C.region (hE.mv rfl fun _ hE => (hE.mv rfl fun _ hE => (hE.call (X.callF hE ent27 rfl rfl) H fun e w H => ?_)))))))))
  obtain ⟨r, r_1, r_2, rfl, H⟩ := H
  refine ⟨_, rfl, fun _ hE => (hE.mv rfl fun _ hE => (hE.pur (X.extract hE rfl rfl) fun _ hE => (hE.pur (X.extract hE rfl rfl) fun _ hE => (hE.pur (X.extract hE rfl rfl) fun _ hE => (hE.as_ rfl fun _ hE => (hE.as_ rfl fun _ hE => (hE.as_ rfl fun _ hE => (C.nil (tn (C.seq (C.seq (C.region (hE.mv rfl fun _ hE => (hE.mv rfl fun _ hE => (WL.join (ds := []) (N := 23) (σ := Bool) (fun s => [(19, (.bool s)), (5, (Sl.v r))]) (fun s w => V_ladinglaw10_peek_r1 Ret r s w) 3 ?_ (fun hr1 => ?_))))))))))))))))⟩
  · intro x19 w a H hE
    try dsimp only at H hE
    unfold V_ladinglaw10_peek_r1 at H
    refine C.nil (tn (C.condB hE rfl (fun hc => ?_) (fun hc => ?_)))
    · replace H := H.1 hc
      exact C.seq (C.region (hE.op (X.build hE rfl) H fun x20 w a H hE => (hE.op (X.buildSlice hE rfl) H fun x21 w a H hE => (hE.as_ rfl fun _ hE => (C.nil (tn (C.ret (tr (C.ret1 hE rfl rfl ⟨_, rfl, H⟩)))))))))
    · replace H := H.2 hc
      exact C.skip (tn (C.seq (C.region (hE.mv rfl fun _ hE => (hE.as_ rfl fun _ hE => (C.nil (tn (C.ret (C.ret1 hE rfl rfl ⟨_, rfl, H⟩)))))))))
  · rcases Bool.eq_false_or_eq_true (r_1) with hbr1 | hbr1
    · replace H := H.1 hbr1
      replace hE := hE.bool (b := true) (t := 16) rfl (hbr1)
      exact hE.off (by rfl) (by rfl) (by decide) (fun _ hE => (hE.off (by rfl) (by rfl) (by decide) (fun _ hE => (hE.pur (X.pickT hE rfl rfl) fun _ hE => (hr1 true _ _ H (hE.weak ⟨rfl, rfl, trivial⟩))))))
    · replace H := H.2 hbr1
      replace hE := hE.bool (b := false) (t := 16) rfl (hbr1)
      exact hE.on (by rfl) (by rfl) (hE.mv rfl fun _ hE => (hE.on (by rfl) (by rfl) (hE.pur (X.neI hE rfl rfl) fun _ hE => (hE.pur (X.pickF hE rfl rfl) fun _ hE => (hr1 (decide (r_2 ≠ 1)) _ _ H (hE.weak ⟨rfl, rfl, trivial⟩))))))
def V_txn_Manager_Open (x0 : Option Addr) (w : World) (Ret : Sl → World → Prop) : Prop :=
  opE Tryz.prog Value.bool (do eqGuard .eql 26 (.tmp 3) (.const (.pointer none)) (.pointer x0) (.pointer none); binOp .eql 26 (.pointer x0) (.pointer none)) w (fun x4 w => (x4 = true → (Ret Sl.none w)) ∧ (x4 = false → (nilOk (.pointer x0) ∧ (opE Tryz.prog Value.pointer (Instr.fieldAt 87 (.pointer x0) 3) w (fun x7 w => opE Tryz.prog Value.map (Instr.loadAt 85 (.pointer x7)) w (fun x8 w => Cl Tryz.prog 54 [(.map x8)].toArray w (fun e w => ∃ (r : Value), e = .returned r ∧ (Cl Tryz.prog 53 [r].toArray w (fun e w => ∃ (r_1 : Sl), e = .returned (Sl.v r_1) ∧ (Ret r_1 w))))))))))
set_option maxRecDepth 100000 in
theorem L1_txn_Manager_Open (x0 : Option Addr) (w : World) (Ret : Sl → World → Prop) (H : V_txn_Manager_Open x0 w Ret) : Cl Tryz.prog 32 [(.pointer x0)].toArray w (fun e w' => ∃ (r0 : Sl), e = .returned (Sl.v r0) ∧ Ret r0 w') := by
  unfold V_txn_Manager_Open at H
  refine C.enter 11 (zipE 0 [(.pointer x0)]) Tryz.func32 rfl rfl (by rfl) rfl ?_
  intro a hE
  replace hE : Sat [] 11 [(0, (.pointer x0))] a := hE
  refine C.seq (C.region (hE.as_ rfl fun _ hE => (C.nil (tn (C.seq (C.seq (C.region (hE.mv rfl fun _ hE => (hE.op (X.bin hE rfl rfl) H fun x4 w a H hE => (C.nil (tn (C.condB hE rfl (fun hc => ?_) (fun hc => ?_)))))))))))))
  · replace H := H.1 hc
    exact C.seq (C.region (hE.as_ rfl fun _ hE => (C.nil (tn (C.ret (tr (C.ret1 hE rfl rfl ⟨_, rfl, H⟩)))))))
  · replace H := H.2 hc
    refine C.skip (tn (C.seq (C.region (hE.mv rfl fun _ hE => (hE.pur (X.nilCheck hE rfl H.1) fun _ hE => ?_)))))
    replace H := H.2
    refine hE.op (X.fieldAddr hE rfl) H fun x7 w a H hE => hE.op (X.load hE rfl) H fun x8 w a H hE => hE.call (X.callF hE ent54 rfl rfl) H fun e w H => ?_
    obtain ⟨r, rfl, H⟩ := H
    refine ⟨_, rfl, fun _ hE => (hE.call (X.callF hE ent53 rfl rfl) H fun e w H => ?_)⟩
    obtain ⟨r_1, rfl, H⟩ := H
    exact ⟨_, rfl, fun _ hE => (hE.as_ rfl fun _ hE => (C.nil (tn (C.ret (C.ret1 hE rfl rfl ⟨_, rfl, H⟩)))))⟩
end Go.Proofs.YtealcoghiaeiiaaGreat.VG
set_option linter.unusedVariables false
namespace Go.Proofs.YtealcoghiaeiiaaGreat.VG
open Go.VB Go.Proofs Go.RowKit
theorem scan_nil (n : Int) (fr to : ByteArray) (w : World) {k : Sl → Int → World → Prop} (H : ∀ w', Bel w w' → k Sl.none 1 w') :
    Cl Tryz.prog fn_txn_Manager_Scan [.pointer none, .int .i64 n, .string fr, .string to].toArray w (fun e w' => ∃ (r0 : Sl) (r1 : Int), e = .returned (.tuple [Sl.v r0, .int .i64 r1].toArray) ∧ k r0 r1 w') := by
  refine L1_txn_Manager_Scan none n fr to w k ?_
  unfold V_txn_Manager_Scan
  refine at_nil n w ?_
  refine S.new1W new_P_txn_tx fun B w1 b1 hB hB0 => ?_
  refine S.st0 one_P_txn_tx hB rfl rfl fun w2 hB2 g2 => ?_
  have b2 : Bel w w2 := b1.grown g2 fun r hr => by cases hr; exact hB0
  exact ⟨fun _ => H w2 b2, fun h => absurd (by decide) h⟩
theorem open_nil (w : World) {k : Sl → World → Prop} (H : k Sl.none w) : Cl Tryz.prog fn_txn_Manager_Open [.pointer none].toArray w (fun e w' => ∃ r0 : Sl, e = .returned (Sl.v r0) ∧ k r0 w') := by
  refine L1_txn_Manager_Open none w k ?_
  unfold V_txn_Manager_Open
  exact pnilM none ⟨fun _ => H, fun h => (nomatch h)⟩
theorem versions_nil (w : World) {k : T_api_Versions → World → Prop} (H : ∀ w', Bel w w' → k zeroVs w') : Cl Tryz.prog fn_txn_Manager_Versions [.pointer none].toArray w (fun e w' => ∃ r0 : T_api_Versions, e = .returned (T_api_Versions.v r0) ∧ k r0 w') := by
  refine L1_txn_Manager_Versions none w k ?_
  unfold V_txn_Manager_Versions
  refine S.new1W new_api_Versions fun B w1 b1 hB hB0 => ?_
  refine pnilM none ⟨fun _ => ?_, fun h => (nomatch h)⟩
  refine ⟨zeroVs, w1, by kernel_rfl, ?_⟩
  refine ret_ok hB rfl fun w2 g2 => H w2 (b1.grown g2 fun r hr => by cases hr; exact hB0)
abbrev nilAns : T_api_TxAnswer := ⟨1, 0, noB, false, Sl.none, Sl.none, 0⟩
theorem do_nil (x : T_api_TxStep) (w : World) {k : T_api_TxAnswer → World → Prop} (H : ∀ w', Bel w w' → k nilAns w') : Cl Tryz.prog fn_txn_Manager_Do [.pointer none, T_api_TxStep.v x].toArray w (fun e w' => ∃ r0 : T_api_TxAnswer, e = .returned (T_api_TxAnswer.v r0) ∧ k r0 w') := by
  refine L1_txn_Manager_Do none x w k ?_
  unfold V_txn_Manager_Do
  refine S.boxW (cs := x.cells) rfl fun X w1 b1 hX _ => ?_
  refine S.new1W new_api_TxAnswer fun A w2 b2 hA hA0 => ?_
  refine ⟨⟨15, 0, noB, false, Sl.none, Sl.none, 0⟩, w2, by kernel_rfl, ?_⟩
  refine S.newW new_api_TxAnswer rfl agg_api_TxAnswer (cs := (⟨15, 0, noB, false, Sl.none, Sl.none, 0⟩ : T_api_TxAnswer).cells) rfl rfl rfl fun C w3 b3 hC hC0 => ?_
  have b1l := b1.le
  have b2l := b2.le
  refine pnilM none ⟨fun _ => ?_, fun h => (nomatch h)⟩
  refine ⟨_, w3, fld_api_TxAnswer_Why _ _, ?_⟩
  refine S.st1 (off := 0) one_api_Errno hC rfl (by simp) rfl fun w4 hC4 g4 => ?_
  replace hC4 : Row w4 C nilAns.cells ty_api_TxAnswer := hC4
  have b4 : Bel w w4 := ((b1.trans b2).trans b3).grown g4 fun r hr => by cases hr; omega
  have hAl := hA.lt
  have hA4 := (hA.bel b3).grown g4 (fun e => by cases e; omega)
  unfold V_txn_Manager_Do_j1
  refine S.ldA agg_api_TxAnswer nilAns rfl hC4.at rfl ?_
  refine S.stA agg_api_TxAnswer hA4 rfl rfl rfl fun w5 hA5 g5 => ?_
  exact R.agg agg_api_TxAnswer nilAns rfl hA5.at rfl (H w5 (b4.grown g5 fun r hr => by cases hr; omega))
theorem peekf_nil (n : Int) (w : World) {k : Sl → World → Prop} (H : k Sl.none w) : Cl Tryz.prog fn_ladinglaw10_peek [.pointer none, .int .i64 n].toArray w (fun e w' => ∃ r0 : Sl, e = .returned (Sl.v r0) ∧ k r0 w') := by
  refine L1_ladinglaw10_peek none n w k ?_
  unfold V_ladinglaw10_peek V_ladinglaw10_peek_r1
  refine peek_nil n w ⟨fun h => (nomatch h), fun _ => ⟨fun h => absurd h (by decide), fun _ => H⟩⟩
theorem nil_ok {w : World} (x : T_api_TxStep) : Cl Tryz.prog fn_ladinglaw10_TxnNil [T_api_TxStep.v x].toArray w (fun e w' => ∃ r0 : Bool, e = .returned (.bool r0) ∧ (r0 = true ∧ Bel w w')) := by
  refine L1_ladinglaw10_TxnNil x w (fun b w' => b = true ∧ Bel w w') ?_
  unfold V_ladinglaw10_TxnNil
  refine S.boxW (cs := x.cells) rfl fun X w1 b1 hX _ => ?_
  refine begin_nil w1 ?_
  refine S.fld fld_api_TxStep_Tx one_int hX.at x.Tx rfl ?_
  refine commit_nil x.Tx w1 ?_
  refine S.fld fld_api_TxStep_Tx one_int hX.at x.Tx rfl ?_
  refine S.fld fld_api_TxStep_Key one_string hX.at x.Key rfl ?_
  refine get_nil x.Tx x.Key w1 ?_
  refine S.fld fld_api_TxStep_Tx one_int hX.at x.Tx rfl ?_
  refine S.fld fld_api_TxStep_Key one_string hX.at x.Key rfl ?_
  refine S.fld fld_api_TxStep_To one_string hX.at x.To rfl ?_
  refine scan_nil x.Tx x.Key x.To w1 fun w2 b2 => ?_
  refine lives_ok w2 fun w3 b3 => ⟨fun _ => ?_, fun h => (nomatch h)⟩
  have b13 := b2.trans b3
  refine S.ldA agg_api_TxStep x rfl (hX.bel b13).at rfl ?_
  refine do_nil x w3 fun w4 b4 => ?_
  refine ⟨nilAns, w4, by kernel_rfl, ?_⟩
  have hA : AnsRd w4 nilAns ⟨1, 0, noB, false, [], [], 0⟩ := ⟨rfl, rfl, rfl, rfl, Rd.nil _ _ _, Rd.nil _ _ _, rfl⟩
  refine ans_same hA hA fun r w5 hr b5 => ?_
  obtain rfl : r = true := hr.2 rfl
  have hX5 := ((hX.bel b13).bel b4).bel b5
  have b05 := ((b1.trans b13).trans b4).trans b5
  unfold V_ladinglaw10_TxnNil_r1
  refine ⟨fun _ => ?_, fun h => (nomatch h)⟩
  unfold V_ladinglaw10_TxnNil_r2
  refine ⟨fun _ => ?_, fun h => absurd h (by decide)⟩
  unfold V_ladinglaw10_TxnNil_r3
  refine ⟨fun _ => ?_, fun h => absurd h (by decide)⟩
  unfold V_ladinglaw10_TxnNil_r4
  refine ⟨fun _ => ?_, fun h => absurd h (by decide)⟩
  unfold V_ladinglaw10_TxnNil_r5
  refine ⟨fun _ => ?_, fun h => absurd h (by decide)⟩
  unfold V_ladinglaw10_TxnNil_r6
  refine ⟨fun _ => ?_, fun h => absurd h (by decide)⟩
  unfold V_ladinglaw10_TxnNil_r7
  refine ⟨fun _ => ?_, fun h => absurd h (by decide)⟩
  unfold V_ladinglaw10_TxnNil_r8
  refine ⟨fun _ => ?_, fun h => absurd h (by decide)⟩
  unfold V_ladinglaw10_TxnNil_r9
  refine ⟨fun _ => ?_, fun h => absurd h (by decide)⟩
  unfold V_ladinglaw10_TxnNil_r10
  refine ⟨fun _ => ?_, fun h => absurd h (by decide)⟩
  unfold V_ladinglaw10_TxnNil_r11
  refine ⟨fun _ => ?_, fun h => absurd h (by decide)⟩
  refine S.fld fld_api_TxStep_Tx one_int hX5.at x.Tx rfl ?_
  refine S.fld fld_api_TxStep_Key one_string hX5.at x.Key rfl ?_
  refine S.fld fld_api_TxStep_Val one_string hX5.at x.Val rfl ?_
  refine put_nil x.Tx x.Key x.Val w5 fun w6 b6 => ?_
  have hX6 := hX5.bel b6
  unfold V_ladinglaw10_TxnNil_r12
  refine ⟨fun _ => ?_, fun h => absurd h (by decide)⟩
  refine S.fld fld_api_TxStep_Tx one_int hX6.at x.Tx rfl ?_
  refine S.fld fld_api_TxStep_Key one_string hX6.at x.Key rfl ?_
  refine delete_nil x.Tx x.Key w6 fun w7 b7 => ?_
  have hX7 := hX6.bel b7
  have b07 := (b05.trans b6).trans b7
  unfold V_ladinglaw10_TxnNil_r13
  refine ⟨fun _ => ?_, fun h => absurd h (by decide)⟩
  refine S.fld fld_api_TxStep_Tx one_int hX7.at x.Tx rfl ?_
  refine abort_nil x.Tx w7 ?_
  unfold V_ladinglaw10_TxnNil_r14
  refine ⟨fun _ => ?_, fun h => absurd h (by decide)⟩
  refine S.fld fld_api_TxStep_Tx one_int hX7.at x.Tx rfl ?_
  refine peekf_nil x.Tx w7 ?_
  unfold V_ladinglaw10_TxnNil_r15
  refine ⟨fun _ => ?_, fun h => absurd h (by decide)⟩
  refine now_nil w7 ?_
  unfold V_ladinglaw10_TxnNil_r16
  refine ⟨fun _ => ?_, fun h => absurd h (by decide)⟩
  refine open_nil w7 ?_
  unfold V_ladinglaw10_TxnNil_r17
  refine ⟨fun _ => ?_, fun h => absurd h (by decide)⟩
  refine versions_nil w7 fun w8 b8 => ?_
  refine ⟨Sl.none, w8, by kernel_rfl, ?_⟩
  unfold V_ladinglaw10_TxnNil_r18
  exact ⟨by decide, b07.trans b8⟩
end Go.Proofs.YtealcoghiaeiiaaGreat.VG
