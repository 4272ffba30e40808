-- printed by a patched print.sh 35421559b90ae4d0a3588c463048766b98c2df88dd9212a6774a882060cdf62d: written by this session's patched copy (wip/pr/patch.py)
import Derived.Test.YtjlnpgehfgonpaaPReviseStaysx0
import Derived.Test.YtjlnpgehfgonpaaPReviseStaysx1
namespace Go.Proofs.Ytjlnpgehfgonpaa.PReviseStays
open Go.Proofs
open Go.Proofs.Ytjlnpgehfgonpaa.X
open Go.RowKit Go.Proofs.YtjlnpgehfgonpaaW.PrintWords Go.Proofs.YtjlnpgehfgonpaaW.PrintLast Go.Proofs.YtjlnpgehfgonpaaW.PrintMore
attribute [local go_sem] max2_int min2_int max_two min_two max_three min_three max_four min_four   -- for this text's walks alone
set_option linter.unusedVariables false
set_option linter.unusedSimpArgs false

/-! ### start_run__hostByte: function 47 -/
def start_run__hostByte.p (c : UInt8) : Bool := (start_hostByte.f (c.toNat : Int)).getD false
def start_run__hostByte.f (a0 : ByteArray) : Option (Int) := if a0.size ≤ 4611686018427387904 then some (runL start_run__hostByte.p a0.data.toList : Int) else none
theorem start_run__hostByte.calls (a0 : ByteArray) (r : Int) (w : World) (h : start_run__hostByte.f a0 = some r) :
    Calls Try.prog 47 #[.string a0, .func (.func 48) #[] #[]] w fun e w' => e = .returned (.int .i64 r) ∧ Drawn0 w w' := by
  obtain ⟨hs, rfl⟩ := some_if h
  refine start_run_any 48 start_run__hostByte.p a0 w hs (enters_of Try.func48 (by kernel_rfl) rfl) (fun W c => ?_)
  have hf : ∃ b, start_hostByte.f (c.toNat : Int) = some b := by
    unfold start_hostByte.f
    unfold start_digit.f strings_IndexByte.f
    repeat' (first | exact ⟨_, rfl⟩ | split | simp only [Option.bind_some])
  obtain ⟨b, hb⟩ := hf
  have e1 : start_run__hostByte.p c = b := by unfold start_run__hostByte.p; rw [hb]; rfl
  rw [e1]
  exact start_hostByte.calls _ b W hb

/-! ### start_port: function 35 -/
mutual
def start_port.j0 : Nat → ByteArray → Int → Option (Int × Bool)
  | 0, _, _ => none
  | k + 1, x0, x4 => if x4 = 0 then (start_port.j1 k x0 x4 true) else (start_port.j1 k x0 x4 (x4 == (x0.size : Int)))
def start_port.j1 : Nat → ByteArray → Int → Bool → Option (Int × Bool)
  | 0, _, _, _ => none
  | k + 1, x0, x4, x43 => if x43 = true then (some (0, decide (x4 > 0))) else (if 0 ≤ x4 then (if x4 ≤ (x0.size : Int) then ((strings_CutPrefix.f (x0.extract (x4 : Int).toNat x0.size) (⟨#[58]⟩ : ByteArray)).bind fun bt128 => (if bt128.2 = true then (if (bt128.1.size : Int) ≤ 5 then ((start_run__digit.f bt128.1).bind fun t130 => (some ((bt128.1.size : Int), (t130 == (bt128.1.size : Int))))) else (some ((bt128.1.size : Int), false))) else (some ((bt128.1.size : Int), false)))) else (none)) else (none))
end
def start_port.f (k : Nat) (a0 : ByteArray) : Option (Int × Bool) := (start_run__hostByte.f a0).bind fun t124 => ((strings_CutPrefix.f a0 (⟨#[91]⟩ : ByteArray)).bind fun bt125 => (if bt125.2 = true then ((start_run__address.f bt125.1).bind fun t127 => (if t127 = 0 then (some (0, false)) else (if t127 = (bt125.1.size : Int) then (some (0, false)) else (if 0 ≤ t127 then (if t127 < (bt125.1.size : Int) then (if (bt bt125.1 t127) = 93 then (start_port.j0 k a0 (wrap64 (t127 + 2))) else (some (0, false))) else (none)) else (none))))) else (start_port.j0 k a0 t124)))
theorem start_port.mono_l : ∀ k, (∀ y0 y1, LeO (start_port.j0 k y0 y1) (start_port.j0 (k + 1) y0 y1)) ∧ (∀ y0 y1 y2, LeO (start_port.j1 k y0 y1 y2) (start_port.j1 (k + 1) y0 y1 y2))
  | 0 => ⟨fun _ _ r h => by simp [start_port.j0] at h, fun _ _ _ r h => by simp [start_port.j1] at h⟩
  | k + 1 => by
    obtain ⟨ih0, ih1⟩ := start_port.mono_l k
    refine ⟨?_, ?_⟩
    · intro y0 y1
      unfold start_port.j0
      repeat' first
      | (with_reducible exact ih0 _ _)
      | (with_reducible exact ih1 _ _ _)
      | (with_reducible exact LeO.refl _)
      | (with_reducible exact LeO.none _)
      | (with_reducible refine LeO.ite ?_ ?_)
      | (with_reducible refine LeO.bind ?_ (fun _ => ?_))
      | exact ih0 _ _
      | exact ih1 _ _ _
      | exact LeO.none _
      | refine LeO.ite ?_ ?_
      | refine LeO.bind ?_ (fun _ => ?_)
    · intro y0 y1 y2
      unfold start_port.j1
      repeat' first
      | (with_reducible exact ih0 _ _)
      | (with_reducible exact ih1 _ _ _)
      | (with_reducible exact LeO.refl _)
      | (with_reducible exact LeO.none _)
      | (with_reducible refine LeO.ite ?_ ?_)
      | (with_reducible refine LeO.bind ?_ (fun _ => ?_))
      | exact ih0 _ _
      | exact ih1 _ _ _
      | exact LeO.none _
      | refine LeO.ite ?_ ?_
      | refine LeO.bind ?_ (fun _ => ?_)
theorem start_port.mono : ∀ a0 k, LeO (start_port.f k a0) (start_port.f (k + 1) a0) := by
  intro a0 k
  obtain ⟨ih0, ih1⟩ := start_port.mono_l k
  unfold start_port.f
  repeat' first
      | (with_reducible exact ih0 _ _)
      | (with_reducible exact ih1 _ _ _)
      | (with_reducible exact LeO.refl _)
      | (with_reducible exact LeO.none _)
      | (with_reducible refine LeO.ite ?_ ?_)
      | (with_reducible refine LeO.bind ?_ (fun _ => ?_))
      | exact ih0 _ _
      | exact ih1 _ _ _
      | exact LeO.none _
      | refine LeO.ite ?_ ?_
      | refine LeO.bind ?_ (fun _ => ?_)
set_option maxHeartbeats 8000000 in
set_option maxRecDepth 100000 in
theorem start_port.calls (k : Nat) (a0 : ByteArray) (r1 : Int) (r2 : Bool) (w : World) (h : start_port.f k a0 = some (r1, r2)) :
    Calls Try.prog 35 #[.string a0] w fun e w' => e = .returned (.tuple #[.int .i64 r1, .bool r2]) ∧ Drawn0 w w' := by
  have H : ((start_run__hostByte.f a0).bind fun t124 => ((strings_CutPrefix.f a0 (⟨#[91]⟩ : ByteArray)).bind fun bt125 => (if bt125.2 = true then ((start_run__address.f bt125.1).bind fun t127 => (if t127 = 0 then (some (0, false)) else (if t127 = (bt125.1.size : Int) then (some (0, false)) else (if 0 ≤ t127 then (if t127 < (bt125.1.size : Int) then (if (bt bt125.1 t127) = 93 then (start_port.j0 k a0 (wrap64 (t127 + 2))) else (some (0, false))) else (none)) else (none))))) else (start_port.j0 k a0 t124)))) = some (r1, r2) := h
  clear h
  replace H := Option.bind_eq_some_iff.mp H
  obtain ⟨t124, A20, H⟩ := H
  replace H : ((strings_CutPrefix.f a0 (⟨#[91]⟩ : ByteArray)).bind fun bt125 => (if bt125.2 = true then ((start_run__address.f bt125.1).bind fun t127 => (if t127 = 0 then (some (0, false)) else (if t127 = (bt125.1.size : Int) then (some (0, false)) else (if 0 ≤ t127 then (if t127 < (bt125.1.size : Int) then (if (bt bt125.1 t127) = 93 then (start_port.j0 k a0 (wrap64 (t127 + 2))) else (some (0, false))) else (none)) else (none))))) else (start_port.j0 k a0 t124))) = some (r1, r2) := H
  have A2 := Aside0.mk A20
  clear A20
  replace H := Option.bind_eq_some_iff.mp H
  obtain ⟨⟨t125, t126⟩, A30, H⟩ := H
  replace H : (if t126 = true then ((start_run__address.f t125).bind fun t127 => (if t127 = 0 then (some (0, false)) else (if t127 = (t125.size : Int) then (some (0, false)) else (if 0 ≤ t127 then (if t127 < (t125.size : Int) then (if (bt t125 t127) = 93 then (start_port.j0 k a0 (wrap64 (t127 + 2))) else (some (0, false))) else (none)) else (none))))) else (start_port.j0 k a0 t124)) = some (r1, r2) := H
  have A3 := Aside0.mk A30
  clear A30
  have HC4 := Aside0.mk H
  clear H
  go_enter Try.func35, Try.ntmps35
  go_upto_if 17 with (first | ((with_reducible refine gate_callee (f := 47) rfl ?_); refine goesL_ (some 11) rfl rfl Try.func47 (by kernel_rfl) rfl #[.string a0, .func (.func 48) #[] #[]] rfl (by (try simp only [List.map_toArray, List.map_cons, List.map_nil]); first | done | rfl | (simp only [List.length_drop, List.length_take]; rfl)) ?_; (with_reducible refine (start_run__hostByte.calls a0  t124 _ A2.out).mono ?_); rintro e w' ⟨rfl, ⟨nd, rfl⟩⟩; refine ⟨_, rfl, ?_⟩) | ((with_reducible refine gate_callee (f := 49) rfl ?_); refine goesL_ (some 14) rfl rfl Try.func49 (by kernel_rfl) rfl #[.string a0, .string (⟨#[91]⟩ : ByteArray)] rfl (by (try simp only [List.map_toArray, List.map_cons, List.map_nil]); first | done | rfl | (simp only [List.length_drop, List.length_take]; rfl)) ?_; (with_reducible refine (strings_CutPrefix.calls a0 (⟨#[91]⟩ : ByteArray) t125 t126 _ A3.out).mono ?_); rintro e w' ⟨rfl, ⟨nd, rfl⟩⟩; refine ⟨_, rfl, ?_⟩))
  (try simp only [Act.put, List.setIfInBounds_toArray, List.set_cons_zero, List.set_cons_succ])
  go_cut [4] (fun v4 wc => ∃ (kq : Nat) (x4_3 : Int), v4 = .int .i64 x4_3 ∧ Aside0 (start_port.j0 kq a0 x4_3 = some (r1, r2)) ∧ Aside0 (kq ≤ k) ∧ Drawn0 w wc)
  case first =>
    have H := HC4.out
    clear HC4
    by_cases c5 : t126 = true
    · subst c5
      have H1 : ((start_run__address.f t125).bind fun t127 => (if t127 = 0 then (some (0, false)) else (if t127 = (t125.size : Int) then (some (0, false)) else (if 0 ≤ t127 then (if t127 < (t125.size : Int) then (if (bt t125 t127) = 93 then (start_port.j0 k a0 (wrap64 (t127 + 2))) else (some (0, false))) else (none)) else (none))))) = some (r1, r2) := by rw [if_pos rfl] at H; exact H
      clear H
      have H := H1
      clear H1
      replace H := Option.bind_eq_some_iff.mp H
      obtain ⟨t127, A60, H⟩ := H
      replace H : (if t127 = 0 then (some (0, false)) else (if t127 = (t125.size : Int) then (some (0, false)) else (if 0 ≤ t127 then (if t127 < (t125.size : Int) then (if (bt t125 t127) = 93 then (start_port.j0 k a0 (wrap64 (t127 + 2))) else (some (0, false))) else (none)) else (none)))) = some (r1, r2) := H
      have A6 := Aside0.mk A60
      clear A60
      by_cases c7 : t127 = 0
      · rw [if_pos c7] at H
        have c7b0 : (t127 == 0) = true := beq_iff_eq.mpr c7
        have c7b1 : (t127 != 0) = false := bne_eq_false_iff_eq.mpr c7
        clear c7
        (first | rw [c7b0] | (simp only [i64_w, i32_w]; rw [c7b0]) | skip)
        simp only [Option.some.injEq, Prod.mk.injEq] at H
        obtain ⟨rfl, rfl⟩ := H
        go_wp2_with (first | ((with_reducible refine gate_callee (f := 47) rfl ?_); refine goesL_ (some 19) rfl rfl Try.func47 (by kernel_rfl) rfl #[.string t125, .func (.func 50) #[] #[]] rfl (by (try simp only [List.map_toArray, List.map_cons, List.map_nil]); first | done | rfl | (simp only [List.length_drop, List.length_take]; rfl)) ?_; (with_reducible refine (start_run__address.calls t125  t127 _ A6.out).mono ?_); rintro e w' ⟨rfl, ⟨nd, rfl⟩⟩; refine ⟨_, rfl, ?_⟩))
        go_ret2
        exact ⟨by first | rfl | (simp; done) | (simp [*]; done), by repeat (first | exact Drawn0.refl _ | apply Drawn0.step)⟩
      · rw [if_neg c7] at H
        have c7b0 : (t127 == 0) = false := beq_eq_false_iff_ne.mpr c7
        have c7b1 : (t127 != 0) = true := bne_iff_ne.mpr c7
        (first | rw [c7b0] | (simp only [i64_w, i32_w]; rw [c7b0]) | skip)
        by_cases c8 : t127 = (t125.size : Int)
        · rw [if_pos c8] at H
          have c8b0 : (t127 == (t125.size : Int)) = true := beq_iff_eq.mpr c8
          have c8b1 : (t127 != (t125.size : Int)) = false := bne_eq_false_iff_eq.mpr c8
          clear c8
          simp only [Option.some.injEq, Prod.mk.injEq] at H
          obtain ⟨rfl, rfl⟩ := H
          go_wp2_with (first | ((with_reducible refine gate_callee (f := 47) rfl ?_); refine goesL_ (some 19) rfl rfl Try.func47 (by kernel_rfl) rfl #[.string t125, .func (.func 50) #[] #[]] rfl (by (try simp only [List.map_toArray, List.map_cons, List.map_nil]); first | done | rfl | (simp only [List.length_drop, List.length_take]; rfl)) ?_; (with_reducible refine (start_run__address.calls t125  t127 _ A6.out).mono ?_); rintro e w' ⟨rfl, ⟨nd, rfl⟩⟩; refine ⟨_, rfl, ?_⟩))
          go_ret2
          exact ⟨by first | rfl | (simp; done) | (simp [*]; done), by repeat (first | exact Drawn0.refl _ | apply Drawn0.step)⟩
        · rw [if_neg c8] at H
          have c8b0 : (t127 == (t125.size : Int)) = false := beq_eq_false_iff_ne.mpr c8
          have c8b1 : (t127 != (t125.size : Int)) = true := bne_iff_ne.mpr c8
          by_cases c9 : 0 ≤ t127
          · rw [if_pos c9] at H
            have c9b0 : decide (0 ≤ t127) = true := decide_eq_true c9
            clear c9
            by_cases c10 : t127 < (t125.size : Int)
            · rw [if_pos c10] at H
              have c10b0 : decide (t127 < (t125.size : Int)) = true := decide_eq_true c10
              clear c10
              by_cases c12 : (bt t125 t127) = 93
              · rw [if_pos c12] at H
                have c12b0 : ((bt t125 t127) == 93) = true := beq_iff_eq.mpr c12
                have c12b1 : ((bt t125 t127) != 93) = false := bne_eq_false_iff_eq.mpr c12
                clear c12
                have H' := Aside0.mk H
                clear H
                go_wp2_with (first | ((with_reducible refine gate_callee (f := 47) rfl ?_); refine goesL_ (some 19) rfl rfl Try.func47 (by kernel_rfl) rfl #[.string t125, .func (.func 50) #[] #[]] rfl (by (try simp only [List.map_toArray, List.map_cons, List.map_nil]); first | done | rfl | (simp only [List.length_drop, List.length_take]; rfl)) ?_; (with_reducible refine (start_run__address.calls t125  t127 _ A6.out).mono ?_); rintro e w' ⟨rfl, ⟨nd, rfl⟩⟩; refine ⟨_, rfl, ?_⟩; have p11 : 0 ≤ (t127 : Int) := of_decide_eq_true (by first | (with_reducible assumption) | assumption); have q11 : t127 < (t125.size : Int) := of_decide_eq_true (by first | (with_reducible assumption) | assumption); have hx11 := bt_at t125 t127; replace p11 := eq_true p11; replace q11 := eq_true q11))
                go_meet
                case rel => exact ⟨_, (wrap64 (t127 + 2)), (by first | rfl | (simp; done) | (simp [*]; done)), H', ⟨by first | omega | exact Nat.le_refl _⟩, by repeat (first | exact Drawn0.refl _ | apply Drawn0.step)⟩
              · rw [if_neg c12] at H
                have c12b0 : ((bt t125 t127) == 93) = false := beq_eq_false_iff_ne.mpr c12
                have c12b1 : ((bt t125 t127) != 93) = true := bne_iff_ne.mpr c12
                simp only [Option.some.injEq, Prod.mk.injEq] at H
                obtain ⟨rfl, rfl⟩ := H
                go_wp2_with (first | ((with_reducible refine gate_callee (f := 47) rfl ?_); refine goesL_ (some 19) rfl rfl Try.func47 (by kernel_rfl) rfl #[.string t125, .func (.func 50) #[] #[]] rfl (by (try simp only [List.map_toArray, List.map_cons, List.map_nil]); first | done | rfl | (simp only [List.length_drop, List.length_take]; rfl)) ?_; (with_reducible refine (start_run__address.calls t125  t127 _ A6.out).mono ?_); rintro e w' ⟨rfl, ⟨nd, rfl⟩⟩; refine ⟨_, rfl, ?_⟩; have p11 : 0 ≤ (t127 : Int) := of_decide_eq_true (by first | (with_reducible assumption) | assumption); have q11 : t127 < (t125.size : Int) := of_decide_eq_true (by first | (with_reducible assumption) | assumption); have hx11 := bt_at t125 t127; replace p11 := eq_true p11; replace q11 := eq_true q11))
                go_ret2
                exact ⟨by first | rfl | (simp; done) | (simp [*]; done), by repeat (first | exact Drawn0.refl _ | apply Drawn0.step)⟩
            · rw [if_neg c10] at H
              exact absurd H (by simp)
          · rw [if_neg c9] at H
            exact absurd H (by simp)
    · replace c5 := Bool.eq_false_iff.mpr c5
      subst c5
      have H1 : (start_port.j0 k a0 t124) = some (r1, r2) := by rw [if_neg (show ¬ (false = true) by decide)] at H; exact H
      clear H
      have H := H1
      clear H1
      have H' := Aside0.mk H
      clear H
      go_wp2
      go_meet
      case rel => exact ⟨_, (t124), (by first | rfl | (simp; done) | (simp [*]; done)), H', ⟨by first | omega | exact Nat.le_refl _⟩, by repeat (first | exact Drawn0.refl _ | apply Drawn0.step)⟩
  case rest =>
    clear HC4
    try clear c1
    try clear p1
    try clear q1
    try clear hx1
    try clear p2
    try clear c3
    try clear c4
    try clear c5
    try clear p6
    try clear c7
    try clear c7b0
    try clear c7b1
    try clear c8
    try clear c8b0
    try clear c8b1
    try clear c9
    try clear c9b0
    try clear c10
    try clear c10b0
    try clear p11
    try clear q11
    try clear hx11
    try clear c12
    try clear c12b0
    try clear c12b1
    try clear p11
    try clear q11
    obtain ⟨kq, x4_3, rfl, HA, HJ3, ⟨mc3, rfl⟩⟩ := hcut
    cases kq with
    | zero => exact absurd HA.out (by simp [start_port.j0])
    | succ kj3 =>
      have H := HA.out
      clear HA
      simp only [start_port.j0] at H
      have HC13 := Aside0.mk H
      clear H
      go_upto_region 8 with (fail)
      go_cut [43] (fun v43 wc => ∃ (kq : Nat) (x43_12 : Bool), v43 = .bool x43_12 ∧ Aside0 (start_port.j1 kq a0 x4_3 x43_12 = some (r1, r2)) ∧ Aside0 (kq ≤ kj3) ∧ Drawn0 w wc)
      case first =>
        have H := HC13.out
        clear HC13
        by_cases c14 : x4_3 = 0
        · rw [if_pos c14] at H
          have c14b0 : (x4_3 == 0) = true := beq_iff_eq.mpr c14
          have c14b1 : (x4_3 != 0) = false := bne_eq_false_iff_eq.mpr c14
          clear c14
          (first | rw [c14b0] | (simp only [i64_w, i32_w]; rw [c14b0]) | skip)
          have H' := Aside0.mk H
          clear H
          go_wp2
          go_meet
          case rel => exact ⟨_, (true), (by first | rfl | (simp; done) | (simp [*]; done)), H', ⟨by have := HJ3.out; first | omega | exact Nat.le_refl _⟩, by repeat (first | exact Drawn0.refl _ | apply Drawn0.step)⟩
        · rw [if_neg c14] at H
          have c14b0 : (x4_3 == 0) = false := beq_eq_false_iff_ne.mpr c14
          have c14b1 : (x4_3 != 0) = true := bne_iff_ne.mpr c14
          (first | rw [c14b0] | (simp only [i64_w, i32_w]; rw [c14b0]) | skip)
          have H' := Aside0.mk H
          clear H
          go_wp2
          go_meet
          case rel => exact ⟨_, ((x4_3 == (a0.size : Int))), (by first | rfl | (simp; done) | (simp [*]; done)), H', ⟨by have := HJ3.out; first | omega | exact Nat.le_refl _⟩, by repeat (first | exact Drawn0.refl _ | apply Drawn0.step)⟩
      case rest =>
        clear HC13
        try clear c1
        try clear p1
        try clear q1
        try clear hx1
        try clear p2
        try clear c3
        try clear c4
        try clear c5
        try clear p6
        try clear c7
        try clear c7b0
        try clear c7b1
        try clear c8
        try clear c8b0
        try clear c8b1
        try clear c9
        try clear c9b0
        try clear c10
        try clear c10b0
        try clear p11
        try clear q11
        try clear hx11
        try clear c12
        try clear c12b0
        try clear c12b1
        try clear c14
        try clear c14b0
        try clear c14b1
        try clear p1
        try clear p11
        try clear p2
        try clear p6
        try clear q1
        try clear q11
        obtain ⟨kq, x43_12, rfl, HA, HJ12, ⟨mc12, rfl⟩⟩ := hcut
        cases kq with
        | zero => exact absurd HA.out (by simp [start_port.j1])
        | succ kj12 =>
          have H := HA.out
          clear HA
          simp only [start_port.j1] at H
          by_cases c15 : x43_12 = true
          · subst c15
            have H1 : (some (0, decide (x4_3 > 0))) = some (r1, r2) := by rw [if_pos rfl] at H; exact H
            clear H
            have H := H1
            clear H1
            simp only [Option.some.injEq, Prod.mk.injEq] at H
            obtain ⟨rfl, rfl⟩ := H
            go_wp2
            go_ret2
            exact ⟨by first | rfl | (simp; done) | (simp [*]; done), by repeat (first | exact Drawn0.refl _ | apply Drawn0.step)⟩
          · replace c15 := Bool.eq_false_iff.mpr c15
            subst c15
            have H1 : (if 0 ≤ x4_3 then (if x4_3 ≤ (a0.size : Int) then ((strings_CutPrefix.f (a0.extract (x4_3 : Int).toNat a0.size) (⟨#[58]⟩ : ByteArray)).bind fun bt128 => (if bt128.2 = true then (if (bt128.1.size : Int) ≤ 5 then ((start_run__digit.f bt128.1).bind fun t130 => (some ((bt128.1.size : Int), (t130 == (bt128.1.size : Int))))) else (some ((bt128.1.size : Int), false))) else (some ((bt128.1.size : Int), false)))) else (none)) else (none)) = some (r1, r2) := by rw [if_neg (show ¬ (false = true) by decide)] at H; exact H
            clear H
            have H := H1
            clear H1
            by_cases c16 : 0 ≤ x4_3
            · rw [if_pos c16] at H
              have c16b0 := eq_true c16
              have c16b1 : decide (0 ≤ x4_3) = true := decide_eq_true c16
              clear c16
              by_cases c17 : x4_3 ≤ (a0.size : Int)
              · rw [if_pos c17] at H
                have c17b0 := eq_true c17
                have c17b1 : decide (x4_3 ≤ (a0.size : Int)) = true := decide_eq_true c17
                clear c17
                replace H := Option.bind_eq_some_iff.mp H
                obtain ⟨⟨t128, t129⟩, A180, H⟩ := H
                replace H : (if t129 = true then (if (t128.size : Int) ≤ 5 then ((start_run__digit.f t128).bind fun t130 => (some ((t128.size : Int), (t130 == (t128.size : Int))))) else (some ((t128.size : Int), false))) else (some ((t128.size : Int), false))) = some (r1, r2) := H
                have A18 := Aside0.mk A180
                clear A180
                by_cases c19 : t129 = true
                · subst c19
                  have H1 : (if (t128.size : Int) ≤ 5 then ((start_run__digit.f t128).bind fun t130 => (some ((t128.size : Int), (t130 == (t128.size : Int))))) else (some ((t128.size : Int), false))) = some (r1, r2) := by rw [if_pos rfl] at H; exact H
                  clear H
                  have H := H1
                  clear H1
                  by_cases c20 : (t128.size : Int) ≤ 5
                  · rw [if_pos c20] at H
                    have c20b0 : decide ((t128.size : Int) ≤ 5) = true := decide_eq_true c20
                    have c20b1 : decide (t128.size ≤ 5) = true := decide_eq_true (by omega)
                    clear c20
                    replace H := Option.bind_eq_some_iff.mp H
                    obtain ⟨t130, A210, H⟩ := H
                    replace H : (some ((t128.size : Int), (t130 == (t128.size : Int)))) = some (r1, r2) := H
                    have A21 := Aside0.mk A210
                    clear A210
                    simp only [Option.some.injEq, Prod.mk.injEq] at H
                    obtain ⟨rfl, rfl⟩ := H
                    go_wp2_with (first | ((with_reducible refine gate_callee (f := 49) rfl ?_); refine goesL_ (some 50) rfl rfl Try.func49 (by kernel_rfl) rfl #[.string (a0.extract (x4_3 : Int).toNat a0.size), .string (⟨#[58]⟩ : ByteArray)] rfl (by (try simp only [List.map_toArray, List.map_cons, List.map_nil]); first | done | rfl | (simp only [List.length_drop, List.length_take]; rfl)) ?_; (with_reducible refine (strings_CutPrefix.calls (a0.extract (x4_3 : Int).toNat a0.size) (⟨#[58]⟩ : ByteArray) t128 true _ A18.out).mono ?_); rintro e w' ⟨rfl, ⟨nd, rfl⟩⟩; refine ⟨_, rfl, ?_⟩) | (go_at_call 47; (with_reducible refine (start_run__digit.calls t128  t130 _ A21.out).mono ?_); rintro e w' ⟨rfl, ⟨nd, rfl⟩⟩))
                    go_ret2
                    exact ⟨by first | rfl | (simp; done) | (simp [*]; done), by repeat (first | exact Drawn0.refl _ | apply Drawn0.step)⟩
                  · rw [if_neg c20] at H
                    have c20b0 : decide ((t128.size : Int) ≤ 5) = false := decide_eq_false c20
                    have c20b1 : decide (t128.size ≤ 5) = false := decide_eq_false (by omega)
                    clear c20
                    simp only [Option.some.injEq, Prod.mk.injEq] at H
                    obtain ⟨rfl, rfl⟩ := H
                    go_wp2_with (first | ((with_reducible refine gate_callee (f := 49) rfl ?_); refine goesL_ (some 50) rfl rfl Try.func49 (by kernel_rfl) rfl #[.string (a0.extract (x4_3 : Int).toNat a0.size), .string (⟨#[58]⟩ : ByteArray)] rfl (by (try simp only [List.map_toArray, List.map_cons, List.map_nil]); first | done | rfl | (simp only [List.length_drop, List.length_take]; rfl)) ?_; (with_reducible refine (strings_CutPrefix.calls (a0.extract (x4_3 : Int).toNat a0.size) (⟨#[58]⟩ : ByteArray) t128 true _ A18.out).mono ?_); rintro e w' ⟨rfl, ⟨nd, rfl⟩⟩; refine ⟨_, rfl, ?_⟩))
                    go_ret2
                    exact ⟨by first | rfl | (simp; done) | (simp [*]; done), by repeat (first | exact Drawn0.refl _ | apply Drawn0.step)⟩
                · replace c19 := Bool.eq_false_iff.mpr c19
                  subst c19
                  have H1 : (some ((t128.size : Int), false)) = some (r1, r2) := by rw [if_neg (show ¬ (false = true) by decide)] at H; exact H
                  clear H
                  have H := H1
                  clear H1
                  simp only [Option.some.injEq, Prod.mk.injEq] at H
                  obtain ⟨rfl, rfl⟩ := H
                  go_wp2_with (first | ((with_reducible refine gate_callee (f := 49) rfl ?_); refine goesL_ (some 50) rfl rfl Try.func49 (by kernel_rfl) rfl #[.string (a0.extract (x4_3 : Int).toNat a0.size), .string (⟨#[58]⟩ : ByteArray)] rfl (by (try simp only [List.map_toArray, List.map_cons, List.map_nil]); first | done | rfl | (simp only [List.length_drop, List.length_take]; rfl)) ?_; (with_reducible refine (strings_CutPrefix.calls (a0.extract (x4_3 : Int).toNat a0.size) (⟨#[58]⟩ : ByteArray) t128 false _ A18.out).mono ?_); rintro e w' ⟨rfl, ⟨nd, rfl⟩⟩; refine ⟨_, rfl, ?_⟩))
                  go_ret2
                  exact ⟨by first | rfl | (simp; done) | (simp [*]; done), by repeat (first | exact Drawn0.refl _ | apply Drawn0.step)⟩
              · rw [if_neg c17] at H
                exact absurd H (by simp)
            · rw [if_neg c16] at H
              exact absurd H (by simp)

-- NOT PRINTED: function 63 (strings_indexFunc)

-- NOT PRINTED: function 52 (strings_IndexFunc)

/-! ### strings_IndexFunc__seen: function 52 -/
def strings_IndexFunc__seen.f (a0 : ByteArray) : Option (Int) := some (Lib.idxFunc seenP true a0)
set_option maxHeartbeats 400000 in
theorem strings_IndexFunc__seen.pred (W : World) (x : Nat) : FnGives Try.prog 53 #[] #[encR x] (.bool (seenP x)) W := by
  unfold FnGives
  go_enter Try.func53, Try.ntmps53
  go_wp2
  all_goals
    go_ret
    refine ⟨?_, 0, rfl⟩
    first
    | (show Ending.returned (.bool (decide ((x : Int) < 33) || decide (126 < (x : Int)))) = _
       rw [show decide ((x : Int) < 33) = decide (x < 33) from decide_eq_decide.2 (by omega), show decide (126 < (x : Int)) = decide (126 < x) from decide_eq_decide.2 (by omega)]
       rfl)
    | (show Ending.returned (.bool true) = _
       rw [show seenP x = true by unfold seenP; rw [decide_eq_true (show x < 33 by omega)]; rfl])
theorem strings_IndexFunc__seen.calls (a0 : ByteArray) (r : Int) (w : World) (h : strings_IndexFunc__seen.f a0 = some r) :
    Calls Try.prog 52 #[.string a0, .func (.func 53) #[] #[]] w fun e w' => e = .returned (.int .i64 r) ∧ Below w.heap.size w w' := by
  obtain rfl := Option.some.inj h
  exact Try.strings_IndexFunc 53 #[] (enters_of Try.func53 (by kernel_rfl) rfl) seenP a0 w (fun W x _ => strings_IndexFunc__seen.pred W x)

/-! ### start_seen: function 36 -/
def start_seen.f (a0 : ByteArray) : Option (Bool) := if a0.toList = ([] : List UInt8) then (some false) else ((strings_IndexFunc__seen.f a0).bind fun t131 => (some (decide (t131 < 0))))
set_option maxHeartbeats 8000000 in
set_option maxRecDepth 100000 in
theorem start_seen.calls (a0 : ByteArray) (r : Bool) (w : World) (h : start_seen.f a0 = some r) :
    Calls Try.prog 36 #[.string a0] w fun e w' => e = .returned (.bool r) ∧ Below w.heap.size w w' := by
  have HB := Aside0.mk (Below.refl w.heap.size w)
  have H : (if a0.toList = ([] : List UInt8) then (some false) else ((strings_IndexFunc__seen.f a0).bind fun t131 => (some (decide (t131 < 0))))) = some r := h
  clear h
  by_cases c2 : a0.toList = ([] : List UInt8)
  · rw [if_pos c2] at H
    have c2b0 : (a0.toList == ([] : List UInt8)) = true := beq_iff_eq.mpr c2
    have c2b1 : (a0.toList != ([] : List UInt8)) = false := bne_eq_false_iff_eq.mpr c2
    clear c2
    obtain rfl := Option.some.inj H
    go_enter Try.func36, Try.ntmps36
    go_wp2
    go_ret
    exact ⟨by first | rfl | (simp [errW_none, errW_some] <;> rfl) | (simp [*, errW_none, errW_some] <;> rfl), by repeat (first | (with_reducible first | exact HB.out | apply below_alloc | apply pw_below_drewN | apply below_drew1) | exact HB.out)⟩
  · rw [if_neg c2] at H
    have c2b0 : (a0.toList == ([] : List UInt8)) = false := beq_eq_false_iff_ne.mpr c2
    have c2b1 : (a0.toList != ([] : List UInt8)) = true := bne_iff_ne.mpr c2
    replace H := Option.bind_eq_some_iff.mp H
    obtain ⟨t131, A30, H⟩ := H
    replace H : (some (decide (t131 < 0))) = some r := H
    have A3 := Aside0.mk A30
    clear A30
    obtain rfl := Option.some.inj H
    go_enter Try.func36, Try.ntmps36
    go_wp2_with (first | (go_at_call 52; (with_reducible refine (strings_IndexFunc__seen.calls a0  t131 _ A3.out).mono ?_); rintro e w4 ⟨rfl, hb⟩; have n0_ := Aside0.mk (below_step (by repeat (first | (with_reducible first | exact HB.out | apply below_alloc | apply pw_below_drewN | apply below_drew1) | exact HB.out)) hb); clear HB; have HB := n0_; clear n0_; (try clear hb); (try clear hb2); (try clear hk); (try clear hi)))
    go_ret
    exact ⟨by first | rfl | (simp [errW_none, errW_some] <;> rfl) | (simp [*, errW_none, errW_some] <;> rfl), by repeat (first | (with_reducible first | exact HB.out | apply below_alloc | apply pw_below_drewN | apply below_drew1) | exact HB.out)⟩

/-! ### strings_IndexAny: function 38 -/
def strings_IndexAny.f (a0 : ByteArray) (a1 : ByteArray) : Option (Int) := if (a0.size < 4294967281 ∧ a1.size < 4294967281) ∧ (a0.data.toList.all (fun b => decide (b.toNat < 128)) = true ∧ a1.data.toList.all (fun b => decide (b.toNat < 128)) = true) then some (Lib.indexAny a0.data.toList a1.data.toList) else none
theorem strings_IndexAny.calls (a0 : ByteArray) (a1 : ByteArray) (r : Int) (w : World) (h : strings_IndexAny.f a0 a1 = some r) :
    Calls Try.prog 38 #[.string a0, .string a1] w fun e w' => e = .returned (.int .i64 r) ∧ Below w.heap.size w w' := by
  obtain ⟨⟨⟨h1, h2⟩, h3, h4⟩, rfl⟩ := some_if h
  exact Try.strings_IndexAny_laid a0 a1 w h1 h2 (fun j b hb => of_decide_eq_true (List.all_eq_true.1 h3 b (List.mem_of_getElem? hb))) (fun j b hb => of_decide_eq_true (List.all_eq_true.1 h4 b (List.mem_of_getElem? hb)))

/-! ### strings_HasPrefix: function 39 -/
def strings_HasPrefix.f (a0 : ByteArray) (a1 : ByteArray) : Option (Bool) := (stringslite_HasPrefix.f a0 a1).bind fun t132 => (some t132)
set_option maxHeartbeats 8000000 in
set_option maxRecDepth 100000 in
theorem strings_HasPrefix.calls (a0 : ByteArray) (a1 : ByteArray) (r : Bool) (w : World) (h : strings_HasPrefix.f a0 a1 = some r) :
    Calls Try.prog 39 #[.string a0, .string a1] w fun e w' => e = .returned (.bool r) ∧ Drawn0 w w' := by
  have H : ((stringslite_HasPrefix.f a0 a1).bind fun t132 => (some t132)) = some r := h
  clear h
  replace H := Option.bind_eq_some_iff.mp H
  obtain ⟨t132, A30, H⟩ := H
  replace H : (some t132) = some r := H
  have A3 := Aside0.mk A30
  clear A30
  obtain rfl := Option.some.inj H
  go_enter Try.func39, Try.ntmps39
  go_wp2_with (first | ((with_reducible refine gate_callee (f := 59) rfl ?_); refine goesL_ (some 7) rfl rfl Try.func59 (by kernel_rfl) rfl #[.string a0, .string a1] rfl (by (try simp only [List.map_toArray, List.map_cons, List.map_nil]); first | done | rfl | (simp only [List.length_drop, List.length_take]; rfl)) ?_; (with_reducible refine (stringslite_HasPrefix.calls a0 a1 t132 _ A3.out).mono ?_); rintro e w' ⟨rfl, ⟨nd, rfl⟩⟩; refine ⟨_, rfl, ?_⟩))
  go_ret
  exact ⟨by first | rfl | (simp; done) | (simp [*]; done), by repeat (first | exact Drawn0.refl _ | apply Drawn0.step)⟩

/-! ### start_Host: function 40 -/
def start_Host.f (k : Nat) (a0 : ByteArray) : Option (Bool) := (start_port.f k a0).bind fun bt133 => (some bt133.2)
theorem start_Host.mono : ∀ a0 k, LeO (start_Host.f k a0) (start_Host.f (k + 1) a0) := by
  intro a0 k
  unfold start_Host.f
  repeat' first
      | (with_reducible exact start_port.mono _ _)
      | (with_reducible exact LeO.refl _)
      | (with_reducible exact LeO.none _)
      | (with_reducible refine LeO.ite ?_ ?_)
      | (with_reducible refine LeO.bind ?_ (fun _ => ?_))
      | exact start_port.mono _ _
      | exact LeO.none _
      | refine LeO.ite ?_ ?_
      | refine LeO.bind ?_ (fun _ => ?_)
set_option maxHeartbeats 8000000 in
set_option maxRecDepth 100000 in
theorem start_Host.calls (k : Nat) (a0 : ByteArray) (r : Bool) (w : World) (h : start_Host.f k a0 = some r) :
    Calls Try.prog 40 #[.string a0] w fun e w' => e = .returned (.bool r) ∧ Drawn0 w w' := by
  have H : ((start_port.f k a0).bind fun bt133 => (some bt133.2)) = some r := h
  clear h
  replace H := Option.bind_eq_some_iff.mp H
  obtain ⟨⟨t133, t134⟩, A20, H⟩ := H
  replace H : (some t134) = some r := H
  have A2 := Aside0.mk A20
  clear A20
  obtain rfl := Option.some.inj H
  go_enter Try.func40, Try.ntmps40
  go_wp2_with (first | ((with_reducible refine gate_callee (f := 35) rfl ?_); refine goesL_ (some 7) rfl rfl Try.func35 (by kernel_rfl) rfl #[.string a0] rfl (by (try simp only [List.map_toArray, List.map_cons, List.map_nil]); first | done | rfl | (simp only [List.length_drop, List.length_take]; rfl)) ?_; (with_reducible refine (start_port.calls k a0 t133 t134 _ A2.out).mono ?_); rintro e w' ⟨rfl, ⟨nd, rfl⟩⟩; refine ⟨_, rfl, ?_⟩))
  go_ret
  exact ⟨by first | rfl | (simp; done) | (simp [*]; done), by repeat (first | exact Drawn0.refl _ | apply Drawn0.step)⟩

end Go.Proofs.Ytjlnpgehfgonpaa.PReviseStays
