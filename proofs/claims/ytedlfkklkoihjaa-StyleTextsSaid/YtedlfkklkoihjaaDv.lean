/-
  The library's Div64, of numbers of which the upper half is less than the divisor. No condition.
-/
import Derived.Test.YtedlfkklkoihjaaDm
import Derived.Deep.DeepCutAuto
import Derived.Deep.CutBlock
set_option linter.unusedVariables false
set_option linter.unusedSimpArgs false
namespace Go.Proofs.Ytedlfkklkoihjaa
open Go.RowKit Go.BigFrame

theorem dv_rest (U l X : Int) : (((U * 4294967296) % 18446744073709551616 + l) % 18446744073709551616 - X % 18446744073709551616) % 18446744073709551616 = (U * 4294967296 + l - X) % 18446744073709551616 := by omega
theorem last_eq {Q S : Nat} (h : Q < 4294967296) (k : S < 4294967296) : IntKind.u64.wrap (IntKind.u64.wrap ((Q : Int) * 4294967296) + (S : Int)) = ((Q * 4294967296 + S : Nat) : Int) := by rw [IntKind.wrap_u64, IntKind.wrap_u64]; omega
set_option maxRecDepth 20000 in
set_option maxHeartbeats 4000000 in
theorem div64_any (hi lo y : Nat) (w : World) (hy : hi < y) (h0 : hi ≠ 0) (hlo : lo < 18446744073709551616) (hy2 : y < 18446744073709551616) :
    Calls Try.prog 51 #[.int .u64 hi, .int .u64 lo, .int .u64 y] w fun e w' => e = .returned (.tuple #[.int .u64 (((hi * 18446744073709551616 + lo) / y : Nat) : Int), .int .u64 (((hi * 18446744073709551616 + lo) % y : Nat) : Int)]) ∧ Below w.heap.size w w' := by
  have y0 : ¬ (y : Int) = 0 := by omega
  have y1 : ¬ (y : Int) ≤ hi := by omega
  have h1 : ¬ (hi : Int) = 0 := by omega
  have hlz := Try.bits_LeadingZeros64 (y : Int) w (by omega) (by omega)
  have hnm := norm_y y (by omega) hy2
  rw [Int.toNat_natCast] at hlz
  generalize hs : Lib.bitLen y = s at hlz hnm
  have hs64 : s ≤ 64 := by rw [← hs]; exact Lib.bitLen_le y 64 (by omega) (by omega)
  rw [show (64 - (s : Int)) = ((64 - s : Nat) : Int) by omega] at hlz
  obtain ⟨t, ht⟩ : ∃ t, 64 - s = t := ⟨_, rfl⟩
  rw [ht] at hlz hnm
  have ht2 : t ≤ 64 := by omega
  have hpr : 2 ^ t * 2 ^ (64 - t) = 18446744073709551616 := by rw [← Nat.pow_add, show t + (64 - t) = 64 by omega]
  have hp0 : 0 < 2 ^ t := Nat.two_pow_pos _
  obtain ⟨m1, m2, m3, m4⟩ := moved hi lo y (2 ^ t) (2 ^ (64 - t)) hp0 hpr hy hlo hnm.2
  have eY : IntKind.u64.wrap ((y : Int) * 2 ^ t) = ((y * 2 ^ t : Nat) : Int) := by
    rw [show (y : Int) * 2 ^ t = ((y * 2 ^ t : Nat) : Int) by simp]; exact wrapN _ hnm.2
  have eL : IntKind.u64.wrap ((lo : Int) * 2 ^ t) = ((lo * 2 ^ t % 18446744073709551616 : Nat) : Int) := by
    rw [show (lo : Int) * 2 ^ t = ((lo * 2 ^ t : Nat) : Int) by simp]; exact Mul64.wrapM _
  have eU : bits .or .u64 (IntKind.u64.wrap ((hi : Int) * 2 ^ t)) ((lo : Int) / 2 ^ (64 - t)) = ((hi * 2 ^ t + lo / 2 ^ (64 - t) : Nat) : Int) := by
    rw [show (hi : Int) * 2 ^ t = ((hi * 2 ^ t : Nat) : Int) by simp, wrapN _ m1, show (lo : Int) / 2 ^ (64 - t) = ((lo / 2 ^ (64 - t) : Nat) : Int) by simp,
      bits_or_u64_nat _ _ m1 (by omega), Nat.mul_comm hi, Nat.two_pow_add_eq_or_of_lt m2]
  generalize hU : hi * 2 ^ t + lo / 2 ^ (64 - t) = U at m3 m4 eU
  generalize hL : lo * 2 ^ t % 18446744073709551616 = L at m4 eL
  have hL2 : L < 18446744073709551616 := by rw [← hL]; exact Nat.mod_lt _ (by omega)
  have eF : (2 : Int) ^ t = ((2 ^ t : Nat) : Int) := by simp
  obtain ⟨p, hp⟩ : ∃ p, 2 ^ t = p := ⟨_, rfl⟩
  have hWh := whole hi lo y p U (L / 4294967296) (L % 4294967296) (by omega) (by omega) (by omega) (by omega) (by rw [Nat.div_add_mod' L 4294967296, ← hp]; exact m4)
  have HW := Lib.hid hWh
  rw [hp] at hnm m3 eY
  generalize hY : y * p = Y at hnm m3 eY HW
  clear hWh hs m1 m2 m4 hU hL hpr
  have HE := Lib.hid (And.intro eY (And.intro eU (And.intro eL eF)))
  rw [hp] at HE
  have HP := Lib.hid hp
  have HN := Lib.hid (And.intro hnm (And.intro m3 hL2))
  clear eY eU eL eF hp hnm m3 hL2 hY
  go_enter Try.func51, Try.ntmps51
  go_upto_region 15 with ((go_at_call 56; (with_reducible refine (hlz).mono ?_)); rintro e w1 ⟨rfl, rfl⟩)
  obtain ⟨eY, eU, eL, eF⟩ := HE.out
  obtain ⟨hnm, m3, hL2⟩ := HN.out
  simp only [eY, eU, eL, Mul64.maskN Y hnm.2, Mul64.maskN L hL2, Mul64.divN]
  obtain ⟨y1, hy1⟩ : ∃ x, Y / 4294967296 = x := ⟨_, rfl⟩
  obtain ⟨y0', hy0⟩ : ∃ x, Y % 4294967296 = x := ⟨_, rfl⟩
  obtain ⟨l1, hl1⟩ : ∃ x, L / 4294967296 = x := ⟨_, rfl⟩
  obtain ⟨l0, hl0⟩ : ∃ x, L % 4294967296 = x := ⟨_, rfl⟩
  rw [hy1, hy0, hl1, hl0]
  rw [hl1, hl0] at HW
  have b1 : 0 < y1 := by omega
  have b0 : y0' < 4294967296 := by omega
  have c1 : l1 < 4294967296 := by omega
  have c0 : l0 < 4294967296 := by omega
  have bY : Y = y1 * 4294967296 + y0' := by omega
  have by1 : ¬ (y1 : Int) = 0 := by omega
  clear eY eU eL eF
  go_upto_block 0 with fail
  have b11 : y1 < 4294967296 := by omega
  have hUy := m3
  rw [bY] at hUy
  have e15 : IntKind.u64.wrap ((U : Int) / (y1 : Int)) = ((U / y1 : Nat) : Int) := by
    rw [← Int.natCast_ediv]; exact wrapN _ (Nat.lt_of_le_of_lt (Nat.div_le_self _ _) (by omega))
  have e16 : IntKind.u64.wrap (((U / y1 : Nat) : Int) * (y1 : Int)) = ((U / y1 * y1 : Nat) : Int) := by
    rw [← Int.natCast_mul]; exact wrapN _ (Nat.lt_of_le_of_lt (Nat.div_mul_le_self _ _) (by omega))
  have e17 : IntKind.u64.wrap ((U : Int) - ((U / y1 * y1 : Nat) : Int)) = ((U % y1 : Nat) : Int) := by
    have := Nat.div_add_mod' U y1
    have := Nat.mod_lt U b1
    rw [show (U : Int) - ((U / y1 * y1 : Nat) : Int) = ((U % y1 : Nat) : Int) by omega]
    exact wrapN _ (by omega)
  have q1 := Nat.div_add_mod' U y1
  have q2 := Nat.mod_lt U b1
  have q3 := fig_start (u := U) (d := l1) (y0 := y0') b1 c1
  have q4 := fig_rest (U * 4294967296 + l1) _ Y (by omega) hnm.2 rfl
  have hm1 := Nat.mod_lt (U * 4294967296 + l1) (show 0 < Y by omega)
  simp only [e15, e16, e17]
  clear e15 e16 e17
  generalize U / y1 = q at q1 q3
  generalize U % y1 = r at q1 q2
  obtain ⟨Q, hQ⟩ : ∃ Q, (U * 4294967296 + l1) / (y1 * 4294967296 + y0') = Q := ⟨_, rfl⟩
  have HQ := Lib.hid hQ
  rw [bY] at q4
  rw [hQ] at q3 q4
  have HB := Lib.hid bY
  have HQ4 := Lib.hid q4
  have HUY := Lib.hid hUy
  have HM1 := Lib.hid hm1
  clear hm1 hQ bY q4 hy1 hy0 hl1 hl0 hUy
  go_cut [15] from 67 to 85 (fun x wx => x = .int .u64 (Q : Nat) ∧ w1 = wx)
  case first =>
    go_wp2_with fail
    go_loopw [15, 16, 67, 68, 69, 70, 71, 72, 73, 74, 75, 76, 77, 78, 79, 80, 81, 82, 83, 84, 85] (fun x z _ _ _ _ _ _ _ _ _ _ _ _ _ _ _ _ _ _ _ wr => ∃ q r : Nat, x = .int .u64 q ∧ z = .int .u64 r ∧ q * y1 + r = U ∧ r < 4294967296 ∧ Q ≤ q ∧ w1 = wr) (fun x _ _ _ _ _ _ _ _ _ _ _ _ _ _ _ _ _ _ _ _ _ => (intOf x).toNat)
    case atStart => exact ⟨q, r, rfl, rfl, q1, by omega, q3, rfl⟩
    case round =>
      clear q1 q2 q3
      obtain ⟨q, r, rfl, rfl, g1, g2, g3, rfl⟩ := hrel
      have HG := Lib.hid g1
      obtain ⟨x, hx⟩ : ∃ x : Int, (q : Int) = x := ⟨_, rfl⟩
      obtain ⟨z, hzz⟩ : ∃ z : Int, (r : Int) = z := ⟨_, rfl⟩
      have x0 : 0 ≤ x := by omega
      have z0 : 0 ≤ z := by omega
      have z1 : z < 4294967296 := by omega
      have HX := Lib.hid (And.intro hx hzz)
      by_cases hq : 4294967296 ≤ q
      · obtain ⟨k1, k2, k3⟩ := fig_step b1 g1 HUY.out c1 (by rw [HQ.out]; exact g3) (.inl hq)
        have hqx : 4294967296 ≤ x := by omega
        have x1 : x < 18446744073709551616 := by have := Nat.le_mul_of_pos_right q b1; omega
        rw [hx, hzz]
        clear hq
        have HK := Lib.hid k2
        rw [HQ.out] at k3
        have HK3 := Lib.hid k3
        have HK1 := Lib.hid k1
        have x2 : 0 < x := by omega
        by_cases hbr : 4294967296 ≤ r + y1
        · have hd := fig_break (d := l1) b1 b0 HK.out HUY.out (by rw [HQ.out]; exact k3) hbr
          rw [HQ.out] at hd
          have HD := Lib.hid hd
          have hbx : 4294967296 ≤ z + (y1 : Int) := by omega
          clear hd hx hzz k1 k2 k3 g1 g2 g3 hbr
          go_wp2_with fail
          go_meet
          exact ⟨by rw [← HD.out]; have := HX.out; have := HK1.out; exact congrArg _ (by omega), rfl⟩
        · have hbx : ¬ 4294967296 ≤ z + (y1 : Int) := by omega
          have HR := Lib.hid hbr
          clear hx hzz k1 k2 k3 g1 g2 g3 hbr
          go_wp2_with fail
          go_roundw
          case rel => have := HX.out; have := HK1.out; exact ⟨q - 1, r + y1, congrArg _ (by omega), congrArg _ (by omega), HK.out, by have := HR.out; omega, HK3.out, trivial⟩
          case measure => have := HX.out; have := HK1.out; simp [intOf]; omega
      · obtain ⟨Z, hZ⟩ : ∃ Z, q * y0' = Z := ⟨_, rfl⟩
        obtain ⟨zz, hZz⟩ : ∃ z : Int, (Z : Int) = z := ⟨_, rfl⟩
        have eZ : x * (y0' : Int) = zz := by rw [← hZz, ← hZ, ← hx]; simp
        have hZs : Z < 18446744073709551616 := by rw [← hZ]; exact fig_small (by omega) b0
        have hZs1 : zz < 18446744073709551616 := by omega
        have hZs0 : 0 ≤ zz := by omega
        have hqx : ¬ 4294967296 ≤ x := by omega
        by_cases hz : 4294967296 * r + l1 < Z
        · obtain ⟨k1, k2, k3⟩ := fig_step b1 g1 HUY.out c1 (by rw [HQ.out]; exact g3) (.inr (by rw [hZ]; exact hz))
          have hzx : 4294967296 * z + (l1 : Int) < zz := by omega
          rw [hx, hzz]
          clear hZ hq hz hZz hZs
          have HK := Lib.hid k2
          rw [HQ.out] at k3
          have HK3 := Lib.hid k3
          have HK1 := Lib.hid k1
          have x2 : 0 < x := by omega
          by_cases hbr : 4294967296 ≤ r + y1
          · have hd := fig_break (d := l1) b1 b0 HK.out HUY.out (by rw [HQ.out]; exact k3) hbr
            rw [HQ.out] at hd
            have HD := Lib.hid hd
            have hbx : 4294967296 ≤ z + (y1 : Int) := by omega
            clear hd hx hzz k1 k2 k3 g1 g2 g3 hbr
            go_wp2_with fail
            go_meet
            exact ⟨by rw [← HD.out]; have := HX.out; have := HK1.out; exact congrArg _ (by omega), rfl⟩
          · have hbx : ¬ 4294967296 ≤ z + (y1 : Int) := by omega
            have HR := Lib.hid hbr
            clear hx hzz k1 k2 k3 g1 g2 g3 hbr
            go_wp2_with fail
            go_roundw
            case rel => have := HX.out; have := HK1.out; exact ⟨q - 1, r + y1, congrArg _ (by omega), congrArg _ (by omega), HK.out, by have := HR.out; omega, HK3.out, trivial⟩
            case measure => have := HX.out; have := HK1.out; simp [intOf]; omega
        · have hd := fig_done (d := l1) b1 g1 (by rw [HQ.out]; exact g3) (by rw [hZ]; omega)
          rw [HQ.out] at hd
          have hzx : ¬ 4294967296 * z + (l1 : Int) < zz := by omega
          rw [hx, hzz]
          have HD := Lib.hid hd
          clear hZ hd g1 g2 g3 hx hzz hq hz hZz hZs
          go_wp2_with fail
          go_meet
          exact ⟨by rw [← HX.out.1, HD.out], rfl⟩
  case rest =>
    obtain ⟨rfl, rfl⟩ := hcut
    clear q1 q2 q3
    have eR : IntKind.u64.wrap (IntKind.u64.wrap (IntKind.u64.wrap ((U : Int) * 4294967296) + (l1 : Int)) - IntKind.u64.wrap ((Q : Int) * (Y : Int))) = (((U * 4294967296 + l1) % Y : Nat) : Int) := by
      have h4 := HQ4.out
      rw [← HB.out] at h4
      rw [← h4]
      simp only [IntKind.wrap_u64, Int.natCast_add, Int.natCast_mul]
      generalize (Q : Int) * (Y : Int) = X
      exact dv_rest _ _ _
    obtain ⟨R, hR⟩ : ∃ R, (U * 4294967296 + l1) % Y = R := ⟨_, rfl⟩
    rw [hR] at eR
    have hRY : R < Y := by rw [← hR]; exact HM1.out
    have hRu := hRY
    rw [HB.out] at hRu
    have HRY := Lib.hid hRY
    have HUR := Lib.hid hRu
    have HR := Lib.hid hR
    have HER := Lib.hid eR
    clear hR eR hRY hRu
    go_upto_region 22 with fail
    rw [HER.out]
    go_upto_block 2 with fail
    have q1 := Nat.div_add_mod' R y1
    have q2 := Nat.mod_lt R b1
    have q3 := fig_start (u := R) (d := l0) (y0 := y0') b1 c0
    have q4 := fig_rest (R * 4294967296 + l0) _ Y (by omega) hnm.2 rfl
    have hRs : R < 18446744073709551616 := by have := HRY.out; omega
    have e15 : IntKind.u64.wrap ((R : Int) / (y1 : Int)) = ((R / y1 : Nat) : Int) := by
      rw [← Int.natCast_ediv]; exact wrapN _ (Nat.lt_of_le_of_lt (Nat.div_le_self _ _) hRs)
    have e16 : IntKind.u64.wrap (((R / y1 : Nat) : Int) * (y1 : Int)) = ((R / y1 * y1 : Nat) : Int) := by
      rw [← Int.natCast_mul]; exact wrapN _ (Nat.lt_of_le_of_lt (Nat.div_mul_le_self _ _) hRs)
    have e17 : IntKind.u64.wrap ((R : Int) - ((R / y1 * y1 : Nat) : Int)) = ((R % y1 : Nat) : Int) := by
      rw [show (R : Int) - ((R / y1 * y1 : Nat) : Int) = ((R % y1 : Nat) : Int) by omega]
      exact wrapN _ (by omega)
    simp only [e15, e16, e17]
    clear e15 e16 e17
    generalize R / y1 = q at q1 q3
    generalize R % y1 = r at q1 q2
    obtain ⟨S, hS⟩ : ∃ S, (R * 4294967296 + l0) / (y1 * 4294967296 + y0') = S := ⟨_, rfl⟩
    have HS := Lib.hid hS
    rw [HB.out] at q4
    rw [hS] at q3 q4
    have HS4 := Lib.hid q4
    clear hS q4
    go_cut [18] from 102 to 120 (fun x wx => x = .int .u64 (S : Nat) ∧ w1 = wx)
    case first =>
      go_wp2_with fail
      go_loopw [16, 18, 102, 103, 104, 105, 106, 107, 108, 109, 110, 111, 112, 113, 114, 115, 116, 117, 118, 119, 120] (fun z x _ _ _ _ _ _ _ _ _ _ _ _ _ _ _ _ _ _ _ wr => ∃ q r : Nat, x = .int .u64 q ∧ z = .int .u64 r ∧ q * y1 + r = R ∧ r < 4294967296 ∧ S ≤ q ∧ w1 = wr) (fun _ x _ _ _ _ _ _ _ _ _ _ _ _ _ _ _ _ _ _ _ _ => (intOf x).toNat)
      case atStart => exact ⟨q, r, rfl, rfl, q1, by omega, q3, rfl⟩
      case round =>
        clear q1 q2 q3
        obtain ⟨q, r, rfl, rfl, g1, g2, g3, rfl⟩ := hrel
        have HG := Lib.hid g1
        obtain ⟨x, hx⟩ : ∃ x : Int, (q : Int) = x := ⟨_, rfl⟩
        obtain ⟨z, hzz⟩ : ∃ z : Int, (r : Int) = z := ⟨_, rfl⟩
        have x0 : 0 ≤ x := by omega
        have z0 : 0 ≤ z := by omega
        have z1 : z < 4294967296 := by omega
        have HX := Lib.hid (And.intro hx hzz)
        by_cases hq : 4294967296 ≤ q
        · obtain ⟨k1, k2, k3⟩ := fig_step b1 g1 HUR.out c0 (by rw [HS.out]; exact g3) (.inl hq)
          have hqx : 4294967296 ≤ x := by omega
          have x1 : x < 18446744073709551616 := by have := Nat.le_mul_of_pos_right q b1; omega
          rw [hx, hzz]
          clear hq
          have HK := Lib.hid k2
          rw [HS.out] at k3
          have HK3 := Lib.hid k3
          have HK1 := Lib.hid k1
          have x2 : 0 < x := by omega
          by_cases hbr : 4294967296 ≤ r + y1
          · have hd := fig_break (d := l0) b1 b0 HK.out HUR.out (by rw [HS.out]; exact k3) hbr
            rw [HS.out] at hd
            have HD := Lib.hid hd
            have hbx : 4294967296 ≤ z + (y1 : Int) := by omega
            clear hd hx hzz k1 k2 k3 g1 g2 g3 hbr
            go_wp2_with fail
            go_meet
            exact ⟨by rw [← HD.out]; have := HX.out; have := HK1.out; exact congrArg _ (by omega), rfl⟩
          · have hbx : ¬ 4294967296 ≤ z + (y1 : Int) := by omega
            have HR := Lib.hid hbr
            clear hx hzz k1 k2 k3 g1 g2 g3 hbr
            go_wp2_with fail
            go_roundw
            case rel => have := HX.out; have := HK1.out; exact ⟨q - 1, r + y1, congrArg _ (by omega), congrArg _ (by omega), HK.out, by have := HR.out; omega, HK3.out, trivial⟩
            case measure => have := HX.out; have := HK1.out; simp [intOf]; omega
        · obtain ⟨Z, hZ⟩ : ∃ Z, q * y0' = Z := ⟨_, rfl⟩
          obtain ⟨zz, hZz⟩ : ∃ z : Int, (Z : Int) = z := ⟨_, rfl⟩
          have eZ : x * (y0' : Int) = zz := by rw [← hZz, ← hZ, ← hx]; simp
          have hZs : Z < 18446744073709551616 := by rw [← hZ]; exact fig_small (by omega) b0
          have hZs1 : zz < 18446744073709551616 := by omega
          have hZs0 : 0 ≤ zz := by omega
          have hqx : ¬ 4294967296 ≤ x := by omega
          by_cases hz : 4294967296 * r + l0 < Z
          · obtain ⟨k1, k2, k3⟩ := fig_step b1 g1 HUR.out c0 (by rw [HS.out]; exact g3) (.inr (by rw [hZ]; exact hz))
            have hzx : 4294967296 * z + (l0 : Int) < zz := by omega
            rw [hx, hzz]
            clear hZ hq hz hZz hZs
            have HK := Lib.hid k2
            rw [HS.out] at k3
            have HK3 := Lib.hid k3
            have HK1 := Lib.hid k1
            have x2 : 0 < x := by omega
            by_cases hbr : 4294967296 ≤ r + y1
            · have hd := fig_break (d := l0) b1 b0 HK.out HUR.out (by rw [HS.out]; exact k3) hbr
              rw [HS.out] at hd
              have HD := Lib.hid hd
              have hbx : 4294967296 ≤ z + (y1 : Int) := by omega
              clear hd hx hzz k1 k2 k3 g1 g2 g3 hbr
              go_wp2_with fail
              go_meet
              exact ⟨by rw [← HD.out]; have := HX.out; have := HK1.out; exact congrArg _ (by omega), rfl⟩
            · have hbx : ¬ 4294967296 ≤ z + (y1 : Int) := by omega
              have HR := Lib.hid hbr
              clear hx hzz k1 k2 k3 g1 g2 g3 hbr
              go_wp2_with fail
              go_roundw
              case rel => have := HX.out; have := HK1.out; exact ⟨q - 1, r + y1, congrArg _ (by omega), congrArg _ (by omega), HK.out, by have := HR.out; omega, HK3.out, trivial⟩
              case measure => have := HX.out; have := HK1.out; simp [intOf]; omega
          · have hd := fig_done (d := l0) b1 g1 (by rw [HS.out]; exact g3) (by rw [hZ]; omega)
            rw [HS.out] at hd
            have hzx : ¬ 4294967296 * z + (l0 : Int) < zz := by omega
            rw [hx, hzz]
            have HD := Lib.hid hd
            clear hZ hd g1 g2 g3 hx hzz hq hz hZz hZs
            go_wp2_with fail
            go_meet
            exact ⟨by rw [← HX.out.1, HD.out], rfl⟩
    case rest =>
      obtain ⟨rfl, rfl⟩ := hcut
      clear q1 q2 q3
      go_wp2_with fail
      have hw := HW.out
      have hQB : Q < 4294967296 := by rw [← HQ.out]; exact fig_lt HUY.out c1
      have hSB : S < 4294967296 := by rw [← HS.out]; exact fig_lt HUR.out c0
      have hq1 := HQ.out
      have hs1 := HS.out
      rw [← HB.out] at hq1 hs1
      rw [hq1, HR.out, hs1] at hw
      rw [← hw.1, ← hw.2]
      have f1 : IntKind.u64.wrap (IntKind.u64.wrap ((Q : Int) * 4294967296) + (S : Int)) = ((Q * 4294967296 + S : Nat) : Int) := last_eq hQB hSB
      have f2 : IntKind.u64.wrap (IntKind.u64.wrap (IntKind.u64.wrap ((R : Int) * 4294967296) + (l0 : Int)) - IntKind.u64.wrap ((S : Int) * (Y : Int))) / 2 ^ t = (((R * 4294967296 + l0) % Y / p : Nat) : Int) := by
        have h4 := HS4.out
        rw [← HB.out] at h4
        rw [HE.out.2.2.2, Int.natCast_ediv, ← h4]
        simp only [IntKind.wrap_u64, Int.natCast_add, Int.natCast_mul]
        generalize (S : Int) * (Y : Int) = X
        rw [dv_rest]
        rfl
      rw [f1, f2]
      go_ret2
      exact ⟨rfl, Below.refl _ _⟩
end Go.Proofs.Ytedlfkklkoihjaa
