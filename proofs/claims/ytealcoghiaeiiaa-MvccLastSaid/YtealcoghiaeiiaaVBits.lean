/- Whole numbers' lengths in bits, a power of two, a draw of the library's own: as calls; no condition. -/
import Derived.Test.YtealcoghiaeiiaaVSb
import Derived.Test.YtealcoghiaeiiaaVT
import Derived.Test.YtealcoghiaeiiaaVCell
set_option linter.unusedVariables false
namespace Go.VB
theorem wru64 {n : Int} (h0 : 0 ≤ n) (h1 : n < 18446744073709551616) : IntKind.wrap .u64 n = n := by
  unfold IntKind.wrap
  have h2 : (2 : Int) ^ IntKind.u64.bits = 18446744073709551616 := by decide
  rw [h2]
  simp [IntKind.signed]; omega
section
variable {P : Program} {w : World}
theorem S.conv {src dst : TypeId} {q k : IntKind} {n : Int} (hs : (P.underlying src).isSome = true) (hd : P.underlying dst = some (.int k)) {K : Int → World → Prop} (H : K (k.wrap n) w) : opE P (Value.int k) (Go.convert src dst (.int q n)) w K := by
  obtain ⟨d, hd'⟩ := Option.isSome_iff_exists.mp hs
  refine ⟨_, w, ?_, H⟩
  simp [convert, run_underlying hd', run_underlying hd, Conv.intToInt]
theorem run_shl {t : TypeId} {k q : IntKind} {x y : Int} (hy : ¬ y < 0) (w : World) : (binOp .shl t (.int k x) (.int q y)).run P w = .ok (.int k (k.wrap (x * 2 ^ (min y.toNat k.bits)))) w := by
  rw [binOp_shl]; simp [Op.shift, hy]
theorem run_shr {t : TypeId} {k q : IntKind} {x y : Int} (hy : ¬ y < 0) (w : World) : (binOp .shr t (.int k x) (.int q y)).run P w = .ok (.int k (x.fdiv (2 ^ (min y.toNat k.bits)))) w := by
  rw [binOp_shr]; simp [Op.shift, hy]
theorem run_xor {t : TypeId} {k : IntKind} {x y : Int} (w : World) : (binOp .xor t (.int k x) (.int k y)).run P w = .ok (.int k (k.wrap ((BitVec.ofInt k.bits x) ^^^ (BitVec.ofInt k.bits y)).toNat)) w := by
  rw [binOp_xor]; simp [Op.intBits]
theorem S.and {t : TypeId} {x y : Int} (h0 : 0 ≤ y) (h1 : y < 18446744073709551616) {K : Int → World → Prop} (H : ∀ r : Int, 0 ≤ r → r ≤ y → K r w) : opE P (Value.int .u64) (binOp .and t (.int .u64 x) (.int .u64 y)) w K := by
  have hb : ((BitVec.ofInt 64 x) &&& (BitVec.ofInt 64 y)).toNat ≤ y.toNat := by
    rw [BitVec.toNat_and]
    refine Nat.le_trans Nat.and_le_right ?_
    rw [BitVec.toNat_ofInt]
    have : (y % ((2 ^ 64 : Nat) : Int)).toNat = y.toNat := by
      rw [Int.emod_eq_of_lt h0 (by exact h1)]
    rw [this]; exact Nat.le_refl _
  refine ⟨((((BitVec.ofInt 64 x) &&& (BitVec.ofInt 64 y)).toNat : Nat) : Int), w, ?_, H _ (by omega) (by omega)⟩
  rw [binOp_and]
  show Result.ok (Value.int .u64 (IntKind.wrap .u64 ((((BitVec.ofInt 64 x) &&& (BitVec.ofInt 64 y)).toNat : Nat) : Int))) w = _
  rw [wru64 (by omega) (by omega)]
/-- One step of the library's draw: x ^= x << n, whichever is read first. -/
theorem S.xs {t : Nat} {m : Int} {op : BinOp} {B : Nat} {v : Int} {e : TypeId} (hA : One P t) (hB : Row w B [.int .u64 v] e) (hsh : ∀ x : Int, ∃ y : Int, ∀ w, (binOp op t (.int .u64 x) (.int .u64 m)).run P w = .ok (.int .u64 y) w) {K : World → Prop}
    (H : ∀ v' w', Row w' B [.int .u64 v'] e → w.grownBy w' (some B) → K w') :
    nextB w (fun w => nilOk (.pointer (some ⟨B, 0, none⟩)) ∧ (nilOk (.pointer (some ⟨B, 0, none⟩)) ∧
      ((opE P (Value.int .u64) (Instr.loadAt t (.pointer (some ⟨B, 0, none⟩))) w (fun x5 w => opE P (Value.int .u64) (Instr.loadAt t (.pointer (some ⟨B, 0, none⟩))) w (fun x8 w => opP P (Value.int .u64) (binOp op t (.int .u64 x8) (.int .u64 m)) (fun x9 => opP P (Value.int .u64) (binOp .xor t (.int .u64 x5) (.int .u64 x9)) (fun x10 => nilOk (.pointer (some ⟨B, 0, none⟩)) ∧ (opU P (Instr.storeAt t (.pointer (some ⟨B, 0, none⟩)) (.int .u64 x10)) w (fun w => K w))))))) ∧
       (opE P (Value.int .u64) (Instr.loadAt t (.pointer (some ⟨B, 0, none⟩))) w (fun x8 w => opP P (Value.int .u64) (binOp op t (.int .u64 x8) (.int .u64 m)) (fun x9 => opE P (Value.int .u64) (Instr.loadAt t (.pointer (some ⟨B, 0, none⟩))) w (fun x5 w => opP P (Value.int .u64) (binOp .xor t (.int .u64 x5) (.int .u64 x9)) (fun x10 => nilOk (.pointer (some ⟨B, 0, none⟩)) ∧ (opU P (Instr.storeAt t (.pointer (some ⟨B, 0, none⟩)) (.int .u64 x10)) w (fun w => K w))))))))))  := by
  intro w1 hb1
  have hB1 := hB.bel hb1
  obtain ⟨y, hy⟩ := hsh v
  have fin : nilOk (.pointer (some ⟨B, 0, none⟩)) ∧ (opU P (Instr.storeAt t (.pointer (some ⟨B, 0, none⟩)) (.int .u64 (IntKind.wrap .u64 ((BitVec.ofInt IntKind.u64.bits v) ^^^ (BitVec.ofInt IntKind.u64.bits y)).toNat))) w1 (fun w => K w)) := by
    refine ⟨trivial, ?_⟩
    exact S.st0 hA hB1 rfl rfl fun w2 h2 g2 => H _ w2 h2 (grown_trans (grown_bel hb1 _) g2)
  refine ⟨trivial, trivial, ?_, ?_⟩
  · refine S.ld1 hA v hB1.cell ?_
    refine S.ld1 hA v hB1.cell ?_
    exact ⟨y, hy, _, fun w => run_xor w, fin⟩
  · refine S.ld1 hA v hB1.cell ?_
    refine ⟨y, hy, ?_⟩
    refine S.ld1 hA v hB1.cell ?_
    exact ⟨_, fun w => run_xor w, fin⟩
end
end Go.VB
namespace Go.Proofs.Ytealcoghiaeiiaa.VG
open Go.VB Go.Proofs
abbrev len8 : ByteArray := ByteArray.mk #[0, 1, 2, 2, 3, 3, 3, 3, 4, 4, 4, 4, 4, 4, 4, 4, 5, 5, 5, 5, 5, 5, 5, 5, 5, 5, 5, 5, 5, 5, 5, 5, 6, 6, 6, 6, 6, 6, 6, 6, 6, 6, 6, 6, 6, 6, 6, 6, 6, 6, 6, 6, 6, 6, 6, 6, 6, 6, 6, 6, 6, 6, 6, 6, 7, 7, 7, 7, 7, 7, 7, 7, 7, 7, 7, 7, 7, 7, 7, 7, 7, 7, 7, 7, 7, 7, 7, 7, 7, 7, 7, 7, 7, 7, 7, 7, 7, 7, 7, 7, 7, 7, 7, 7, 7, 7, 7, 7, 7, 7, 7, 7, 7, 7, 7, 7, 7, 7, 7, 7, 7, 7, 7, 7, 7, 7, 7, 7, 8, 8, 8, 8, 8, 8, 8, 8, 8, 8, 8, 8, 8, 8, 8, 8, 8, 8, 8, 8, 8, 8, 8, 8, 8, 8, 8, 8, 8, 8, 8, 8, 8, 8, 8, 8, 8, 8, 8, 8, 8, 8, 8, 8, 8, 8, 8, 8, 8, 8, 8, 8, 8, 8, 8, 8, 8, 8, 8, 8, 8, 8, 8, 8, 8, 8, 8, 8, 8, 8, 8, 8, 8, 8, 8, 8, 8, 8, 8, 8, 8, 8, 8, 8, 8, 8, 8, 8, 8, 8, 8, 8, 8, 8, 8, 8, 8, 8, 8, 8, 8, 8, 8, 8, 8, 8, 8, 8, 8, 8, 8, 8, 8, 8, 8, 8, 8, 8, 8, 8, 8, 8, 8, 8, 8, 8, 8, 8]
theorem len8_ok : ∀ i : Fin 256, (match len8[i.1]? with | some b => decide (i.1 < 2 ^ b.toNat) && (decide (i.1 = 0) || decide (2 ^ b.toNat ≤ 2 * i.1)) && decide (b.toNat ≤ 8) | none => false) = true := by decide +kernel
/-- The length in bits. -/
def LenOk (x : Nat) (r : Nat) : Prop := r ≤ 64 ∧ x < 2 ^ r ∧ (1 ≤ x → 2 ^ r ≤ 2 * x)
set_option maxRecDepth 100000 in
theorem len64_ok {x : Nat} (hx : x < 18446744073709551616) {w : World} {k : Int → World → Prop} (H : ∀ r : Nat, LenOk x r → k r w) :
    Cl Try.prog fn_bits_Len64 [.int .u64 (x : Int)].toArray w (fun e w' => ∃ r0 : Int, e = .returned (.int .i64 r0) ∧ k r0 w') := by
  refine L1_bits_Len64 x w k ?_
  have j3 : ∀ (y a : Nat), y < 256 → y = x / 2 ^ a → a ≤ 56 → (a = 0 ∨ 2 ^ a ≤ x) → V_bits_Len64_j3 k (y : Int) (a : Int) w := by
    intro y a hy hya ha hax
    unfold V_bits_Len64_j3
    refine S.conv (by kernel_rfl) (by kernel_rfl) ?_
    have hw : IntKind.wrap .u8 (y : Int) = (y : Int) := by
      unfold IntKind.wrap
      have h2 : (2 : Int) ^ IntKind.u8.bits = 256 := by decide
      rw [h2]
      simp [IntKind.signed]; omega
    rw [hw]
    have h8 := len8_ok ⟨y, hy⟩
    cases hb : len8[y]? with
    | none => rw [hb] at h8; cases h8
    | some b =>
      rw [hb] at h8
      simp only [Bool.and_eq_true, Bool.or_eq_true, decide_eq_true_eq] at h8
      refine ⟨(b.toNat : Int), w, ?_, ?_⟩
      · simp [Instr.index, asIntOf, run_underlying Try.underlying9, hb]
      refine S.conv (by kernel_rfl) (by kernel_rfl) ?_
      rw [wr64 (n := ((b.toNat : Nat) : Int)) (by omega) (by omega), wr64 (by omega) (by omega)]
      have e : (a : Int) + ((b.toNat : Nat) : Int) = ((a + b.toNat : Nat) : Int) := by omega
      rw [e]
      obtain ⟨⟨h1, h2⟩, h3⟩ := h8
      refine H _ ⟨by omega, ?_, fun hx1 => ?_⟩
      · rw [Nat.pow_add]
        rw [hya] at h1
        have := Nat.lt_mul_of_div_lt h1 (Nat.two_pow_pos a)
        rw [Nat.mul_comm]; exact this
      · rw [Nat.pow_add]
        have hy1 : 1 ≤ y := by
          rcases hax with rfl | hax
          · rw [hya]; simpa using hx1
          · rw [hya]; exact (Nat.le_div_iff_mul_le (Nat.two_pow_pos a)).2 (by omega)
        have h4 : 2 ^ b.toNat ≤ 2 * y := by omega
        calc 2 ^ a * 2 ^ b.toNat ≤ 2 ^ a * (2 * y) := Nat.mul_le_mul_left _ h4
          _ = 2 * (2 ^ a * y) := by rw [Nat.mul_left_comm]
          _ ≤ 2 * x := Nat.mul_le_mul_left _ (by rw [hya]; exact Nat.mul_div_le x _)
  have sh : ∀ (y n : Nat), ((y : Int)).fdiv (2 ^ n) = ((y / 2 ^ n : Nat) : Int) := fun y n => by
    have e : (2 : Int) ^ n = ((2 ^ n : Nat) : Int) := by simp
    rw [e, Int.fdiv_eq_ediv_of_nonneg _ (Int.natCast_nonneg _), Int.natCast_ediv]
  have j2 : ∀ (y a : Nat), y < 65536 → y = x / 2 ^ a → a ≤ 48 → (a = 0 ∨ 2 ^ a ≤ x) → V_bits_Len64_j2 k (y : Int) (a : Int) w := by
    intro y a hy hya ha hax
    unfold V_bits_Len64_j2
    refine ⟨fun hc => ⟨_, w, run_shr (by decide) w, ?_⟩, fun hc => j3 y a (by omega) hya (by omega) hax⟩
    rw [wr64 (by omega) (by omega), show min (8 : Int).toNat IntKind.u64.bits = 8 by decide, sh, show (a : Int) + 8 = ((a + 8 : Nat) : Int) by omega]
    have e : y / 2 ^ 8 = x / 2 ^ (a + 8) := by rw [hya, Nat.div_div_eq_div_mul, Nat.pow_add]
    refine j3 _ (a + 8) (by omega) e (by omega) (.inr ?_)
    have h5 : 1 ≤ x / 2 ^ (a + 8) := by rw [← e]; omega
    have := (Nat.le_div_iff_mul_le (Nat.two_pow_pos (a + 8))).1 h5
    omega
  have j1 : ∀ (y a : Nat), y < 4294967296 → y = x / 2 ^ a → a ≤ 32 → (a = 0 ∨ 2 ^ a ≤ x) → V_bits_Len64_j1 k (y : Int) (a : Int) w := by
    intro y a hy hya ha hax
    unfold V_bits_Len64_j1
    refine ⟨fun hc => ⟨_, w, run_shr (by decide) w, ?_⟩, fun hc => j2 y a (by omega) hya (by omega) hax⟩
    rw [wr64 (by omega) (by omega), show min (16 : Int).toNat IntKind.u64.bits = 16 by decide, sh, show (a : Int) + 16 = ((a + 16 : Nat) : Int) by omega]
    have e : y / 2 ^ 16 = x / 2 ^ (a + 16) := by rw [hya, Nat.div_div_eq_div_mul, Nat.pow_add]
    refine j2 _ (a + 16) (by omega) e (by omega) (.inr ?_)
    have h5 : 1 ≤ x / 2 ^ (a + 16) := by rw [← e]; omega
    have := (Nat.le_div_iff_mul_le (Nat.two_pow_pos (a + 16))).1 h5
    omega
  unfold V_bits_Len64
  refine ⟨fun hc => ⟨_, w, run_shr (by decide) w, ?_⟩, fun hc => j1 x 0 (by omega) (by simp) (by omega) (.inl rfl)⟩
  rw [show min (32 : Int).toNat IntKind.u64.bits = 32 by decide, sh, show (32 : Int) = ((32 : Nat) : Int) by omega]
  exact j1 _ 32 (by omega) rfl (by omega) (.inr (by omega))
theorem len_ok {x : Nat} (hx : x < 18446744073709551616) {w : World} {k : Int → World → Prop} (H : ∀ r : Nat, LenOk x r → k r w) :
    Cl Try.prog fn_bits_Len [.int .u64 (x : Int)].toArray w (fun e w' => ∃ r0 : Int, e = .returned (.int .i64 r0) ∧ k r0 w') := by
  refine L1_bits_Len x w k ?_
  unfold V_bits_Len
  exact len64_ok hx H
/-- A power of two above. -/
theorem pow2_ok {n : Nat} (h0 : 1 ≤ n) (hn : n ≤ 140737488355328) {w : World} {k : Int → World → Prop} (H : ∀ m : Nat, n < m → m ≤ 2 * n → k m w) :
    Cl Try.prog fn_slices_nextPowerOfTwo [.int .i64 (n : Int)].toArray w (fun e w' => ∃ r0 : Int, e = .returned (.int .u64 r0) ∧ k r0 w') := by
  refine L1_slices_nextPowerOfTwo n w k ?_
  unfold V_slices_nextPowerOfTwo
  refine S.conv (by kernel_rfl) (by kernel_rfl) ?_
  rw [wru64 (by omega) (by omega)]
  refine len_ok (by omega) fun r hr => ?_
  obtain ⟨h1, h2, h3⟩ := hr
  have h4 := h3 h0
  have hr48 : r ≤ 49 := by
    rcases Nat.lt_or_ge 49 r with h | h
    · have : 2 ^ 50 ≤ 2 ^ r := Nat.pow_le_pow_right (by decide) h
      omega
    · exact h
  have hmin : min ((r : Int)).toNat IntKind.u64.bits = r := by
    show min r 64 = r; omega
  refine ⟨_, w, run_shl (by omega) w, ?_⟩
  rw [hmin, show (1 : Int) * 2 ^ r = ((2 ^ r : Nat) : Int) by simp, wru64 (by omega) (by omega)]
  exact H _ h2 h4
theorem draw_ok {w : World} {B : Nat} {v : Int} {e : TypeId} (hB : Row w B [.int .u64 v] e) {k : Int → World → Prop} (H : ∀ (r v' : Int) w', Row w' B [.int .u64 v'] e → w.grownBy w' (some B) → k r w') :
    Cl Try.prog fn_slices_xorshift_Next [.pointer (some ⟨B, 0, none⟩)].toArray w (fun e w' => ∃ r0 : Int, e = .returned (.int .u64 r0) ∧ k r0 w') := by
  refine L1_slices_xorshift_Next (some ⟨B, 0, none⟩) w k ?_
  unfold V_slices_xorshift_Next
  refine S.xs one_slices_xorshift hB (fun x => ⟨_, fun w => run_shl (by decide) w⟩) fun v1 w1 h1 g1 => ?_
  unfold V_slices_xorshift_Next_j1
  refine S.xs one_slices_xorshift h1 (fun x => ⟨_, fun w => run_shr (by decide) w⟩) fun v2 w2 h2 g2 => ?_
  unfold V_slices_xorshift_Next_j2
  refine S.xs one_slices_xorshift h2 (fun x => ⟨_, fun w => run_shl (by decide) w⟩) fun v3 w3 h3 g3 => ?_
  unfold V_slices_xorshift_Next_j3
  refine ⟨trivial, ?_⟩
  refine S.ld1 one_slices_xorshift v3 h3.cell ?_
  exact H v3 v3 w3 h3 (grown_trans (grown_trans g1 g2) g3)
end Go.Proofs.Ytealcoghiaeiiaa.VG
