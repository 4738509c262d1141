/-
  The school division of two figures by one and a half: plain numbers. No condition.
-/
import Derived.Test.YtedlfkklkoihjaaC
import Derived.Lib.ItoaNum
import Derived.Laws.Bits64b
set_option linter.unusedVariables false
set_option linter.unusedSimpArgs false
namespace Go.Proofs.Ytedlfkklkoihjaa

/-! ### The divisor made great -/
theorem norm_y (y : Nat) (h0 : y ≠ 0) (h : y < 18446744073709551616) : 9223372036854775808 ≤ y * 2 ^ (64 - Lib.bitLen y) ∧ y * 2 ^ (64 - Lib.bitLen y) < 18446744073709551616 := by
  have hb := Lib.bitLenAux_bounds 64 y (by omega) h0
  have hs : Lib.bitLen y ≤ 64 := Lib.bitLen_le y 64 (by omega) (by omega)
  change 1 ≤ Lib.bitLen y ∧ 2 ^ (Lib.bitLen y - 1) ≤ y ∧ y < 2 ^ Lib.bitLen y at hb
  obtain ⟨h1, h2, h3⟩ := hb
  have e1 : 2 ^ (Lib.bitLen y - 1) * 2 ^ (64 - Lib.bitLen y) = 9223372036854775808 := by rw [← Nat.pow_add, show Lib.bitLen y - 1 + (64 - Lib.bitLen y) = 63 by omega]
  have e2 : 2 ^ Lib.bitLen y * 2 ^ (64 - Lib.bitLen y) = 18446744073709551616 := by rw [← Nat.pow_add, show Lib.bitLen y + (64 - Lib.bitLen y) = 64 by omega]
  refine ⟨e1 ▸ Nat.mul_le_mul_right _ h2, e2 ▸ Nat.mul_lt_mul_of_pos_right h3 (Nat.two_pow_pos _)⟩
/-- The dividend, moved as the divisor is. -/
theorem moved (hi lo y p r : Nat) (hp : 0 < p) (hr : p * r = 18446744073709551616) (hy : hi < y) (hlo : lo < 18446744073709551616) (hY : y * p < 18446744073709551616) :
    hi * p < 18446744073709551616 ∧ lo / r < p ∧ hi * p + lo / r < y * p ∧ (hi * p + lo / r) * 18446744073709551616 + lo * p % 18446744073709551616 = (hi * 18446744073709551616 + lo) * p := by
  have hr0 : 0 < r := by rcases Nat.eq_zero_or_pos r with e | e; · subst e; omega
                         · exact e
  have h1 : (hi + 1) * p ≤ y * p := Nat.mul_le_mul_right _ hy
  rw [Nat.add_mul, Nat.one_mul] at h1
  have h2 : lo / r < p := (Nat.div_lt_iff_lt_mul hr0).2 (by omega)
  have h3 : lo * p / 18446744073709551616 = lo / r := by rw [← hr, Nat.mul_comm p r]; exact Nat.mul_div_mul_right _ _ hp
  have h4 := Nat.div_add_mod (lo * p) 18446744073709551616
  rw [h3] at h4
  refine ⟨by omega, h2, by omega, ?_⟩
  have e : (hi * 18446744073709551616 + lo) * p = hi * p * 18446744073709551616 + lo * p := by rw [Nat.add_mul, Nat.mul_right_comm]
  rw [e]
  omega

/-! ### A figure -/
section
variable {u d y1 y0 q r : Nat}
theorem fig_start (hy : 0 < y1) (hd : d < 4294967296) : (u * 4294967296 + d) / (y1 * 4294967296 + y0) ≤ u / y1 := by
  rw [Nat.le_div_iff_mul_le hy]
  have h := Nat.div_mul_le_self (u * 4294967296 + d) (y1 * 4294967296 + y0)
  generalize (u * 4294967296 + d) / (y1 * 4294967296 + y0) = Q at *
  rw [Nat.mul_add, ← Nat.mul_assoc] at h
  generalize Q * y1 = X at *
  generalize Q * y0 = Z at *
  omega
theorem fig_lt (hu : u < y1 * 4294967296 + y0) (hd : d < 4294967296) : (u * 4294967296 + d) / (y1 * 4294967296 + y0) < 4294967296 := by
  rw [Nat.div_lt_iff_lt_mul (by omega)]
  obtain ⟨Y, hY⟩ : ∃ Y, y1 * 4294967296 + y0 = Y := ⟨_, rfl⟩
  rw [hY] at hu ⊢
  omega
theorem fig_done (hy : 0 < y1) (h : q * y1 + r = u) (hQ : (u * 4294967296 + d) / (y1 * 4294967296 + y0) ≤ q) (hz : q * y0 ≤ 4294967296 * r + d) : q = (u * 4294967296 + d) / (y1 * 4294967296 + y0) := by
  apply Nat.le_antisymm _ hQ
  rw [Nat.le_div_iff_mul_le (by omega), Nat.mul_add, ← Nat.mul_assoc]
  obtain ⟨X, hX⟩ : ∃ X, q * y1 = X := ⟨_, rfl⟩
  obtain ⟨Z, hZ⟩ : ∃ Z, q * y0 = Z := ⟨_, rfl⟩
  rw [hX] at h ⊢
  rw [hZ] at hz ⊢
  clear hQ hX hZ
  omega
theorem fig_step (hy : 0 < y1) (h : q * y1 + r = u) (hu : u < y1 * 4294967296 + y0) (hd : d < 4294967296) (hQ : (u * 4294967296 + d) / (y1 * 4294967296 + y0) ≤ q)
    (hz : 4294967296 ≤ q ∨ 4294967296 * r + d < q * y0) : 0 < q ∧ (q - 1) * y1 + (r + y1) = u ∧ (u * 4294967296 + d) / (y1 * 4294967296 + y0) ≤ q - 1 := by
  have hlt := fig_lt hu hd
  have h1 : (u * 4294967296 + d) / (y1 * 4294967296 + y0) < q := by
    rcases hz with hz | hz
    · omega
    · rw [Nat.div_lt_iff_lt_mul (by omega), Nat.mul_add, ← Nat.mul_assoc]
      obtain ⟨X, hX⟩ : ∃ X, q * y1 = X := ⟨_, rfl⟩
      obtain ⟨Z, hZ⟩ : ∃ Z, q * y0 = Z := ⟨_, rfl⟩
      rw [hX] at h ⊢
      rw [hZ] at hz ⊢
      clear hQ hX hZ hlt
      omega
  refine ⟨Nat.lt_of_le_of_lt (Nat.zero_le _) h1, ?_, Nat.le_sub_one_of_lt h1⟩
  have h2 : 0 < q := Nat.lt_of_le_of_lt (Nat.zero_le _) h1
  clear hQ hlt h1 hz
  obtain ⟨k, rfl⟩ : ∃ k, q = k + 1 := ⟨q - 1, by omega⟩
  rw [Nat.add_mul, Nat.one_mul] at h
  rw [Nat.add_sub_cancel]
  omega
theorem fig_break (hy : 0 < y1) (hy0 : y0 < 4294967296) (h : q * y1 + r = u) (hu : u < y1 * 4294967296 + y0) (hQ : (u * 4294967296 + d) / (y1 * 4294967296 + y0) ≤ q) (hr : 4294967296 ≤ r) :
    q = (u * 4294967296 + d) / (y1 * 4294967296 + y0) := by
  have h1 : q < 4294967296 := by
    apply Nat.lt_of_mul_lt_mul_right (a := y1)
    omega
  have h2 : q * y0 ≤ 4294967295 * 4294967295 := Nat.mul_le_mul (by omega) (by omega)
  exact fig_done hy h hQ (by omega)
theorem fig_small (h1 : q < 4294967296) (h2 : y0 < 4294967296) : q * y0 < 18446744073709551616 := by
  have : q * y0 ≤ 4294967295 * 4294967295 := Nat.mul_le_mul (by omega) (by omega)
  omega
end
/-- What is left behind a figure, gone round. -/
theorem fig_rest (n q Y : Nat) (hY : 0 < Y) (hY2 : Y < 18446744073709551616) (hq : q = n / Y) : ((n : Int) - ((q * Y : Nat) : Int)) % 18446744073709551616 = ((n % Y : Nat) : Int) := by
  have h := Nat.div_add_mod n Y
  have hl := Nat.mod_lt n hY
  rw [← hq, Nat.mul_comm] at h
  omega
theorem whole_eq {U l1 l0 X Z : Nat} (e : X + Z = U * 4294967296 + l1) : U * 18446744073709551616 + (l1 * 4294967296 + l0) = X * 4294967296 + (Z * 4294967296 + l0) := by omega
/-- The whole. -/
theorem whole (hi lo y p U l1 l0 : Nat) (hp : 0 < p) (hy : 0 < y) (h0 : l0 < 4294967296) (h1 : l1 < 4294967296) (h : U * 18446744073709551616 + (l1 * 4294967296 + l0) = (hi * 18446744073709551616 + lo) * p) :
    (U * 4294967296 + l1) / (y * p) * 4294967296 + ((U * 4294967296 + l1) % (y * p) * 4294967296 + l0) / (y * p) = (hi * 18446744073709551616 + lo) / y ∧
    ((U * 4294967296 + l1) % (y * p) * 4294967296 + l0) % (y * p) / p = (hi * 18446744073709551616 + lo) % y := by
  have hY : 0 < y * p := Nat.mul_pos hy hp
  have e := Nat.div_add_mod (U * 4294967296 + l1) (y * p)
  obtain ⟨n, hn⟩ : ∃ n, hi * 18446744073709551616 + lo = n := ⟨_, rfl⟩
  rw [hn] at h ⊢
  have h2 : n * p = (y * p) * ((U * 4294967296 + l1) / (y * p) * 4294967296) + ((U * 4294967296 + l1) % (y * p) * 4294967296 + l0) := by
    rw [← Nat.mul_assoc (y * p)]
    obtain ⟨X, hX⟩ : ∃ X, (y * p) * ((U * 4294967296 + l1) / (y * p)) = X := ⟨_, rfl⟩
    obtain ⟨Z, hZ⟩ : ∃ Z, (U * 4294967296 + l1) % (y * p) = Z := ⟨_, rfl⟩
    rw [hX, hZ] at e ⊢
    rw [← h]
    exact whole_eq e
  have h3 : n * p / (y * p) = n / y := Nat.mul_div_mul_right _ _ hp
  have h4 : n * p % (y * p) = n % y * p := Nat.mul_mod_mul_right _ _ _
  rw [← h3]
  constructor
  · rw [h2, Nat.mul_add_div hY]
  · have h5 : ((U * 4294967296 + l1) % (y * p) * 4294967296 + l0) % (y * p) = n % y * p := by rw [← h4, h2, Nat.mul_add_mod]
    rw [h5]
    exact Nat.mul_div_cancel _ hp
end Go.Proofs.Ytedlfkklkoihjaa
