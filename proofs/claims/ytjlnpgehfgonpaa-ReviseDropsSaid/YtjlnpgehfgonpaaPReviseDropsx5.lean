-- printed by a patched print.sh 35421559b90ae4d0a3588c463048766b98c2df88dd9212a6774a882060cdf62d: written by this session's patched copy (wip/pr/patch.py)
import Derived.Test.YtjlnpgehfgonpaaPReviseDropsx0
namespace Go.Proofs.Ytjlnpgehfgonpaa.PReviseDrops
open Go.Proofs
open Go.Proofs.Ytjlnpgehfgonpaa.X
open Go.RowKit Go.Proofs.YtjlnpgehfgonpaaW.PrintWords Go.Proofs.YtjlnpgehfgonpaaW.PrintLast Go.Proofs.YtjlnpgehfgonpaaW.PrintMore
attribute [local go_sem] max2_int min2_int max_two min_two max_three min_three max_four min_four   -- for this text's walks alone
set_option linter.unusedVariables false
set_option linter.unusedSimpArgs false

/-! ### halfwayhousekit_FewFields: function 6 -/
def halfwayhousekit_FewFields.l0 : Nat → List (S39) → Int → Option (Bool)
  | 0, _, _ => none
  | k + 1, x0, x3 => if x3 < (x0.length : Int) then (if 0 ≤ x3 then (if (((rd_T39 x0 x3).f0).size : Int) > 300 then (some false) else (if (((rd_T39 x0 x3).f1).size : Int) > 300 then (some false) else (halfwayhousekit_FewFields.l0 k x0 (wrap64 (x3 + 1))))) else (none)) else (some (decide ((x0.length : Int) ≤ 30)))
def halfwayhousekit_FewFields.f (k : Nat) (l0 : List (S39)) : Option (Bool) := halfwayhousekit_FewFields.l0 k l0 0
theorem halfwayhousekit_FewFields.mono_l : ∀ k, (∀ y0 y1, LeO (halfwayhousekit_FewFields.l0 k y0 y1) (halfwayhousekit_FewFields.l0 (k + 1) y0 y1))
  | 0 => fun _ _ r h => by simp [halfwayhousekit_FewFields.l0] at h
  | k + 1 => by
    have ih0 := halfwayhousekit_FewFields.mono_l k
    · intro y0 y1
      unfold halfwayhousekit_FewFields.l0
      repeat' first
      | (with_reducible exact ih0 _ _)
      | (with_reducible exact LeO.refl _)
      | (with_reducible exact LeO.none _)
      | (with_reducible refine LeO.ite ?_ ?_)
      | (with_reducible refine LeO.bind ?_ (fun _ => ?_))
      | exact ih0 _ _
      | exact LeO.none _
      | refine LeO.ite ?_ ?_
      | refine LeO.bind ?_ (fun _ => ?_)
theorem halfwayhousekit_FewFields.mono : ∀ a0 k, LeO (halfwayhousekit_FewFields.f k a0) (halfwayhousekit_FewFields.f (k + 1) a0) := by
  intro a0 k
  have ih0 := halfwayhousekit_FewFields.mono_l k
  unfold halfwayhousekit_FewFields.f
  repeat' first
      | (with_reducible exact ih0 _ _)
      | (with_reducible exact LeO.refl _)
      | (with_reducible exact LeO.none _)
      | (with_reducible refine LeO.ite ?_ ?_)
      | (with_reducible refine LeO.bind ?_ (fun _ => ?_))
      | exact ih0 _ _
      | exact LeO.none _
      | refine LeO.ite ?_ ?_
      | refine LeO.bind ?_ (fun _ => ?_)
set_option maxHeartbeats 8000000 in
set_option maxRecDepth 100000 in
theorem halfwayhousekit_FewFields.calls (k : Nat) (A0 : Option Addr) (c0 : Nat) (l0 : List (S39)) (r : Bool) (w : World) (hr0 : Kd.C k39 w A0 l0.length l0) (hc0 : l0.length ≤ c0) (h : halfwayhousekit_FewFields.f k l0 = some r) :
    Calls Try.prog 6 #[.slice A0 l0.length c0] w fun e w' => e = .returned (.bool r) ∧ Drawn0 w w' := by
  have HR0 := Aside0.mk hr0
  have HC0 := Aside0.mk hc0
  clear hr0 hc0
  have H : (halfwayhousekit_FewFields.l0 k l0 0) = some r := h
  clear h
  have H' := Aside0.mk H
  clear H
  go_enter Try.func6, Try.ntmps6
  go_wp2
  go_loopg [3] k (fun kq v3 w' => ∃ (x3_1 : Int), v3 = .int .i64 x3_1 ∧ Aside0 (halfwayhousekit_FewFields.l0 kq l0 x3_1 = some r) ∧ Aside0 (kq ≤ k) ∧ Drawn0 w w')
  case atStart => exact ⟨(0), (by first | rfl | (simp; done) | (simp [*]; done)), H', ⟨Nat.le_refl _⟩, by repeat (first | exact Drawn0.refl _ | apply Drawn0.step)⟩
  case round =>
    clear H'
    obtain ⟨x3_1, rfl, HA, HK1, ⟨m1, rfl⟩⟩ := hrel
    cases gk with
    | zero => exact absurd HA.out (by simp [halfwayhousekit_FewFields.l0])
    | succ k1 =>
      have H := HA.out
      clear HA
      simp only [halfwayhousekit_FewFields.l0] at H
      by_cases c2 : x3_1 < (l0.length : Int)
      · rw [if_pos c2] at H
        have c2b0 : decide (x3_1 < (l0.length : Int)) = true := decide_eq_true c2
        clear c2
        by_cases c3 : 0 ≤ x3_1
        · rw [if_pos c3] at H
          have c3b0 : decide (0 ≤ x3_1) = true := decide_eq_true c3
          clear c3
          by_cases c4 : (((rd_T39 l0 x3_1).f0).size : Int) > 300
          · rw [if_pos c4] at H
            have c4b0 : decide (300 < (((rd_T39 l0 x3_1).f0).size : Int)) = true := decide_eq_true c4
            have c4b1 : decide (300 < ((rd_T39 l0 x3_1).f0).size) = true := decide_eq_true (by omega)
            clear c4
            obtain rfl := Option.some.inj H
            have p183 : 0 ≤ (x3_1 : Int) := of_decide_eq_true (by first | (with_reducible assumption) | assumption)
            have q183 : x3_1 < (l0.length : Int) := of_decide_eq_true (by first | (with_reducible assumption) | assumption)
            obtain ⟨ad183, e183, hx183_0, hx183_1⟩ := at_T39 HR0.out x3_1 p183 q183
            cases e183
            replace p183 := eq_true p183
            replace q183 := eq_true q183
            go_wp2
            go_ret
            exact ⟨by first | rfl | (simp; done) | (simp [*]; done), by repeat (first | exact Drawn0.refl _ | apply Drawn0.step)⟩
          · rw [if_neg c4] at H
            have c4b0 : decide (300 < (((rd_T39 l0 x3_1).f0).size : Int)) = false := decide_eq_false c4
            have c4b1 : decide (300 < ((rd_T39 l0 x3_1).f0).size) = false := decide_eq_false (by omega)
            clear c4
            by_cases c5 : (((rd_T39 l0 x3_1).f1).size : Int) > 300
            · rw [if_pos c5] at H
              have c5b0 : decide (300 < (((rd_T39 l0 x3_1).f1).size : Int)) = true := decide_eq_true c5
              have c5b1 : decide (300 < ((rd_T39 l0 x3_1).f1).size) = true := decide_eq_true (by omega)
              clear c5
              obtain rfl := Option.some.inj H
              have p183 : 0 ≤ (x3_1 : Int) := of_decide_eq_true (by first | (with_reducible assumption) | assumption)
              have q183 : x3_1 < (l0.length : Int) := of_decide_eq_true (by first | (with_reducible assumption) | assumption)
              obtain ⟨ad183, e183, hx183_0, hx183_1⟩ := at_T39 HR0.out x3_1 p183 q183
              cases e183
              replace p183 := eq_true p183
              replace q183 := eq_true q183
              have p184 : 0 ≤ (x3_1 : Int) := of_decide_eq_true (by first | (with_reducible assumption) | assumption)
              have q184 : x3_1 < (l0.length : Int) := of_decide_eq_true (by first | (with_reducible assumption) | assumption)
              obtain ⟨ad184, e184, hx184_0, hx184_1⟩ := at_T39 HR0.out x3_1 p184 q184
              obtain rfl : ad183 = ad184 := (by injection e184)
              replace p184 := eq_true p184
              replace q184 := eq_true q184
              go_wp2
              go_ret
              exact ⟨by first | rfl | (simp; done) | (simp [*]; done), by repeat (first | exact Drawn0.refl _ | apply Drawn0.step)⟩
            · rw [if_neg c5] at H
              have c5b0 : decide (300 < (((rd_T39 l0 x3_1).f1).size : Int)) = false := decide_eq_false c5
              have c5b1 : decide (300 < ((rd_T39 l0 x3_1).f1).size) = false := decide_eq_false (by omega)
              clear c5
              have H' := Aside0.mk H
              clear H
              have p183 : 0 ≤ (x3_1 : Int) := of_decide_eq_true (by first | (with_reducible assumption) | assumption)
              have q183 : x3_1 < (l0.length : Int) := of_decide_eq_true (by first | (with_reducible assumption) | assumption)
              obtain ⟨ad183, e183, hx183_0, hx183_1⟩ := at_T39 HR0.out x3_1 p183 q183
              cases e183
              replace p183 := eq_true p183
              replace q183 := eq_true q183
              have p184 : 0 ≤ (x3_1 : Int) := of_decide_eq_true (by first | (with_reducible assumption) | assumption)
              have q184 : x3_1 < (l0.length : Int) := of_decide_eq_true (by first | (with_reducible assumption) | assumption)
              obtain ⟨ad184, e184, hx184_0, hx184_1⟩ := at_T39 HR0.out x3_1 p184 q184
              obtain rfl : ad183 = ad184 := (by injection e184)
              replace p184 := eq_true p184
              replace q184 := eq_true q184
              go_wp2
              go_roundg k1
              case measure => have := HK1.out; omega
              case rel => exact ⟨(wrap64 (x3_1 + 1)), (by first | rfl | (simp; done) | (simp [*]; done)), H', ⟨by have := HK1.out; omega⟩, by repeat (first | exact Drawn0.refl _ | apply Drawn0.step)⟩
        · rw [if_neg c3] at H
          exact absurd H (by simp)
      · rw [if_neg c2] at H
        have c2b0 : decide (x3_1 < (l0.length : Int)) = false := decide_eq_false c2
        clear c2
        obtain rfl := Option.some.inj H
        go_wp2
        go_ret
        exact ⟨by first | rfl | (simp; done) | (simp [*]; done), by repeat (first | exact Drawn0.refl _ | apply Drawn0.step)⟩

/-! ### halfwayhouseref01_Lower: function 21 -/
def halfwayhouseref01_Lower.f (a0 : ByteArray) : Option (ByteArray) := if a0.size ≤ 4611686018427387904 then some (lowS a0) else none
set_option maxHeartbeats 400000 in
set_option maxRecDepth 100000 in
theorem halfwayhouseref01_Lower.calls (a0 : ByteArray) (r : ByteArray) (w : World) (h : halfwayhouseref01_Lower.f a0 = some r) :
    Calls Try.prog 21 #[.string a0] w fun e w' => e = .returned (.string r) ∧ Below w.heap.size w w' := by
  obtain ⟨hs, rfl⟩ := some_if h
  clear h
  have hc := Lib.run_convert_string_bytes (P := Try.prog) w 9 66 5 a0 Try.underlying9 Try.underlying66 Try.underlying5
  have hb : BytesAt (Lib.bytesWorld w 5 a0) w.heap.size a0.size (byN a0) := fun j hj => ⟨Lib.bytesWorld_cell w 5 a0 j hj, bytesWorld_frozen w 5 a0 j hj⟩
  have HBW := bytesWorld_below w 5 a0
  generalize Lib.bytesWorld w 5 a0 = W at hc hb HBW
  generalize grownCap w a0.size 0 5 = C at hc
  have hb' := Aside0.mk hb
  clear hb
  go_enter Try.func21, Try.ntmps21
  go_wp2
  go_loopw [4] (fun i wr => ∃ k : Nat, k ≤ a0.size ∧ i = .int .i64 k ∧ Aside0 (BytesAt wr w.heap.size a0.size (lowPart a0 k)) ∧ Below w.heap.size w wr) (fun i _ => a0.size - (intOf i).toNat)
  case atStart => exact ⟨0, Nat.zero_le _, rfl, hb', HBW⟩
  case round =>
    obtain ⟨k, hk, rfl, hB, hW⟩ := hrel
    by_cases hlt : k < a0.size
    · have h1 := (hB.out k hlt).1
      have h2 := (hB.out k hlt).2
      have h3 : lowPart a0 k k = byN a0 k := by unfold lowPart; simp
      rw [h3] at h1
      have h4 := byN_lt a0 k
      clear h3
      by_cases hu : 65 ≤ byN a0 k ∧ byN a0 k ≤ 90
      · obtain ⟨hu1, hu2⟩ := hu
        go_wp2
        go_roundw
        case rel => exact ⟨k + 1, by omega, by go_num, ⟨hB.out.set hlt (lowPart_ne a0 k) (by rw [lowPart_up a0 k hu1 hu2]; omega)⟩, hW.setCell (Nat.le_refl _) _⟩
        case measure => simp [intOf]; omega
      · have hpe := Aside0.mk (lowPart_no a0 k hu)
        rcases Nat.lt_or_ge (byN a0 k) 65 with hu1 | hu1
        · clear hu
          go_wp2
          go_roundw
          case rel => exact ⟨k + 1, by omega, by go_num, ⟨by rw [hpe.out]; exact hB.out⟩, hW⟩
          case measure => simp [intOf]; omega
        · have hu2 : 91 ≤ byN a0 k := by omega
          clear hu
          go_wp2
          go_roundw
          case rel => exact ⟨k + 1, by omega, by go_num, ⟨by rw [hpe.out]; exact hB.out⟩, hW⟩
          case measure => simp [intOf]; omega
    · have hk' : k = a0.size := by omega
      subst hk'
      have hx := run_convert_bytes_arg (P := Try.prog) wr 66 5 Try.underlying66 Try.underlying5 w.heap.size 0 a0.size C (lowL a0) (lowL_length a0) (fun i hi => by rw [Nat.zero_add]; exact (hB.out i hi).1.trans (by rw [lowL_get a0 i hi])) 9 Try.underlying9
      rw [lowL_str] at hx
      go_wp2
      go_ret
      exact ⟨rfl, hW⟩

/-! ### halfwayhouseref12_Primary: function 8 -/
def halfwayhouseref12_Primary.f (a0 : ByteArray) (a1 : ByteArray) : Option (ByteArray) := (halfwayhouseref01_Lower.f a0).bind fun t185 => (if t185.size + 1 ≤ 9223372036854775807 then (if (t185 ++ (⟨#[32]⟩ : ByteArray)).size + a1.size ≤ 9223372036854775807 then (some ((t185 ++ (⟨#[32]⟩ : ByteArray)) ++ a1)) else (none)) else (none))
set_option maxHeartbeats 8000000 in
set_option maxRecDepth 100000 in
theorem halfwayhouseref12_Primary.calls (a0 : ByteArray) (a1 : ByteArray) (r : ByteArray) (w : World) (h : halfwayhouseref12_Primary.f a0 a1 = some r) :
    Calls Try.prog 8 #[.string a0, .string a1] w fun e w' => e = .returned (.string r) ∧ Below w.heap.size w w' := by
  have HB := Aside0.mk (Below.refl w.heap.size w)
  have H : ((halfwayhouseref01_Lower.f a0).bind fun t185 => (if t185.size + 1 ≤ 9223372036854775807 then (if (t185 ++ (⟨#[32]⟩ : ByteArray)).size + a1.size ≤ 9223372036854775807 then (some ((t185 ++ (⟨#[32]⟩ : ByteArray)) ++ a1)) else (none)) else (none))) = some r := h
  clear h
  replace H := Option.bind_eq_some_iff.mp H
  obtain ⟨t185, A30, H⟩ := H
  replace H : (if t185.size + 1 ≤ 9223372036854775807 then (if (t185 ++ (⟨#[32]⟩ : ByteArray)).size + a1.size ≤ 9223372036854775807 then (some ((t185 ++ (⟨#[32]⟩ : ByteArray)) ++ a1)) else (none)) else (none)) = some r := H
  have A3 := Aside0.mk A30
  clear A30
  by_cases c4 : t185.size + 1 ≤ 9223372036854775807
  · rw [if_pos c4] at H
    have c4b0 := eq_true c4
    have c4b1 : decide (t185.size + 1 ≤ 9223372036854775807) = true := decide_eq_true c4
    try have c4b2 : (9223372036854775807 < t185.size + 1) = False := eq_false (Nat.not_lt.2 c4)
    try (have c4b3 := c4; simp only [ByteArray.size_extract, Nat.min_self] at c4b3)
    by_cases c5 : (t185 ++ (⟨#[32]⟩ : ByteArray)).size + a1.size ≤ 9223372036854775807
    · rw [if_pos c5] at H
      have c5b0 := eq_true c5
      have c5b1 : decide ((t185 ++ (⟨#[32]⟩ : ByteArray)).size + a1.size ≤ 9223372036854775807) = true := decide_eq_true c5
      try have c5b2 : (9223372036854775807 < (t185 ++ (⟨#[32]⟩ : ByteArray)).size + a1.size) = False := eq_false (Nat.not_lt.2 c5)
      try (have c5b3 := c5; simp only [ByteArray.size_extract, Nat.min_self] at c5b3)
      obtain rfl := Option.some.inj H
      go_enter Try.func8, Try.ntmps8
      go_wp2_with (first | ((with_reducible refine gate_callee (f := 21) rfl ?_); refine goesL_ (some 6) rfl rfl Try.func21 (by kernel_rfl) rfl #[.string a0] rfl (by (try simp only [List.map_toArray, List.map_cons, List.map_nil]); first | done | rfl | (simp only [List.length_drop, List.length_take]; rfl)) ?_; (with_reducible refine (halfwayhouseref01_Lower.calls a0 t185 _ A3.out).mono ?_); rintro e w6 ⟨rfl, hb⟩; refine ⟨_, rfl, ?_⟩; have n0_ := Aside0.mk (below_step (by repeat (first | (with_reducible first | exact HB.out | apply below_alloc | apply pw_below_drewN | apply below_drew1) | exact HB.out)) hb); clear HB; have HB := n0_; clear n0_; (try clear hb); (try clear hb2); (try clear hk); (try clear hi)))
      go_ret
      exact ⟨by first | rfl | (simp [errW_none, errW_some] <;> rfl) | (simp [*, errW_none, errW_some] <;> rfl), by repeat (first | (with_reducible first | exact HB.out | apply below_alloc | apply pw_below_drewN | apply below_drew1) | exact HB.out)⟩
    · rw [if_neg c5] at H
      exact absurd H (by simp)
  · rw [if_neg c4] at H
    exact absurd H (by simp)

end Go.Proofs.Ytjlnpgehfgonpaa.PReviseDrops
