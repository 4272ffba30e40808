-- printed by a patched print.sh 35421559b90ae4d0a3588c463048766b98c2df88dd9212a6774a882060cdf62d: written by this session's patched copy (wip/pr/patch.py)
import Derived.Test.YtjlnpgehfgonpaaPReviseStaysx0
import Derived.Test.YtjlnpgehfgonpaaPReviseStaysx1
import Derived.Test.YtjlnpgehfgonpaaPReviseStaysx5
namespace Go.Proofs.Ytjlnpgehfgonpaa.PReviseStays
open Go.Proofs
open Go.Proofs.Ytjlnpgehfgonpaa.X
open Go.RowKit Go.Proofs.YtjlnpgehfgonpaaW.PrintWords Go.Proofs.YtjlnpgehfgonpaaW.PrintLast Go.Proofs.YtjlnpgehfgonpaaW.PrintMore
attribute [local go_sem] max2_int min2_int max_two min_two max_three min_three max_four min_four   -- for this text's walks alone
set_option linter.unusedVariables false
set_option linter.unusedSimpArgs false

/-! ### revise_Keep: function 12 -/
def revise_Keep.f (a0 : ByteArray) : Option (Bool) := (hop_Hop.f a0).bind fun t196 => (if t196 = true then (some true) else ((revise_named.f a0 (([(⟨#[67, 111, 110, 116, 101, 110, 116, 45, 76, 101, 110, 103, 116, 104]⟩ : ByteArray), (⟨#[67, 111, 110, 116, 101, 110, 116, 45, 69, 110, 99, 111, 100, 105, 110, 103]⟩ : ByteArray), (⟨#[67, 111, 110, 116, 101, 110, 116, 45, 84, 121, 112, 101]⟩ : ByteArray), (⟨#[67, 111, 110, 116, 101, 110, 116, 45, 82, 97, 110, 103, 101]⟩ : ByteArray)] : List ByteArray))).bind fun t200 => (some t200)))
set_option maxHeartbeats 8000000 in
set_option maxRecDepth 100000 in
theorem revise_Keep.calls (a0 : ByteArray) (r : Bool) (w : World) (h : revise_Keep.f a0 = some r) :
    Calls Try.prog 12 #[.string a0] w fun e w' => e = .returned (.bool r) ∧ Below w.heap.size w w' := by
  have HB := Aside0.mk (Below.refl w.heap.size w)
  have H : ((hop_Hop.f a0).bind fun t196 => (if t196 = true then (some true) else ((revise_named.f a0 (([(⟨#[67, 111, 110, 116, 101, 110, 116, 45, 76, 101, 110, 103, 116, 104]⟩ : ByteArray), (⟨#[67, 111, 110, 116, 101, 110, 116, 45, 69, 110, 99, 111, 100, 105, 110, 103]⟩ : ByteArray), (⟨#[67, 111, 110, 116, 101, 110, 116, 45, 84, 121, 112, 101]⟩ : ByteArray), (⟨#[67, 111, 110, 116, 101, 110, 116, 45, 82, 97, 110, 103, 101]⟩ : ByteArray)] : List ByteArray))).bind fun t200 => (some t200)))) = some r := h
  clear h
  replace H := Option.bind_eq_some_iff.mp H
  obtain ⟨t196, A20, H⟩ := H
  replace H : (if t196 = true then (some true) else ((revise_named.f a0 (([(⟨#[67, 111, 110, 116, 101, 110, 116, 45, 76, 101, 110, 103, 116, 104]⟩ : ByteArray), (⟨#[67, 111, 110, 116, 101, 110, 116, 45, 69, 110, 99, 111, 100, 105, 110, 103]⟩ : ByteArray), (⟨#[67, 111, 110, 116, 101, 110, 116, 45, 84, 121, 112, 101]⟩ : ByteArray), (⟨#[67, 111, 110, 116, 101, 110, 116, 45, 82, 97, 110, 103, 101]⟩ : ByteArray)] : List ByteArray))).bind fun t200 => (some t200))) = some r := H
  have A2 := Aside0.mk A20
  clear A20
  by_cases c3 : t196 = true
  · subst c3
    have H1 : (some true) = some r := by rw [if_pos rfl] at H; exact H
    clear H
    have H := H1
    clear H1
    obtain rfl := Option.some.inj H
    go_enter Try.func12, Try.ntmps12
    go_wp2_with (first | ((with_reducible refine gate_callee (f := 31) rfl ?_); refine goesL_ (some 4) rfl rfl Try.func31 (by kernel_rfl) rfl #[.string a0] rfl (by (try simp only [List.map_toArray, List.map_cons, List.map_nil]); first | done | rfl | (simp only [List.length_drop, List.length_take]; rfl)) ?_; (with_reducible refine (hop_Hop.calls a0 true _ A2.out).mono ?_); rintro e w4 ⟨rfl, hb⟩; refine ⟨_, rfl, ?_⟩; have n0_ := Aside0.mk (below_step (by repeat (first | (with_reducible first | exact HB.out | apply below_alloc | apply pw_below_drewN | apply below_drew1) | exact HB.out)) hb); clear HB; have HB := n0_; clear n0_; (try clear hb); (try clear hb2); (try clear hk); (try clear hi)))
    go_ret
    exact ⟨by first | rfl | (simp [errW_none, errW_some] <;> rfl) | (simp [*, errW_none, errW_some] <;> rfl), by repeat (first | (with_reducible first | exact HB.out | apply below_alloc | apply pw_below_drewN | apply below_drew1) | exact HB.out)⟩
  · replace c3 := Bool.eq_false_iff.mpr c3
    subst c3
    have H1 : ((revise_named.f a0 (([(⟨#[67, 111, 110, 116, 101, 110, 116, 45, 76, 101, 110, 103, 116, 104]⟩ : ByteArray), (⟨#[67, 111, 110, 116, 101, 110, 116, 45, 69, 110, 99, 111, 100, 105, 110, 103]⟩ : ByteArray), (⟨#[67, 111, 110, 116, 101, 110, 116, 45, 84, 121, 112, 101]⟩ : ByteArray), (⟨#[67, 111, 110, 116, 101, 110, 116, 45, 82, 97, 110, 103, 101]⟩ : ByteArray)] : List ByteArray))).bind fun t200 => (some t200)) = some r := by rw [if_neg (show ¬ (false = true) by decide)] at H; exact H
    clear H
    have H := H1
    clear H1
    obtain ⟨y197, hy197⟩ : ∃ y_ : List ByteArray, y_ = (([(⟨#[67, 111, 110, 116, 101, 110, 116, 45, 76, 101, 110, 103, 116, 104]⟩ : ByteArray), (⟨#[67, 111, 110, 116, 101, 110, 116, 45, 69, 110, 99, 111, 100, 105, 110, 103]⟩ : ByteArray), (⟨#[67, 111, 110, 116, 101, 110, 116, 45, 84, 121, 112, 101]⟩ : ByteArray), (⟨#[67, 111, 110, 116, 101, 110, 116, 45, 82, 97, 110, 103, 101]⟩ : ByteArray)] : List ByteArray)) := ⟨_, rfl⟩
    replace H : ((revise_named.f a0 y197).bind fun t200 => (some t200)) = some r := by first | (rw [hy197]; with_reducible exact H) | (have H2_ := (Option.bind_some _ _).symm.trans H; rw [hy197]; with_reducible exact H2_) | (have H2_ := (Option.bind_some _ _).symm.trans H; with_reducible exact H2_) | with_reducible exact H | (rw [hy197]; exact H) | exact H
    have Ny197 := Aside0.mk hy197
    clear hy197
    replace H := Option.bind_eq_some_iff.mp H
    obtain ⟨t200, A50, H⟩ := H
    replace H : (some t200) = some r := H
    have A5 := Aside0.mk A50
    clear A50
    obtain rfl := Option.some.inj H
    go_enter Try.func12, Try.ntmps12
    go_wp2_with (first | ((with_reducible refine gate_callee (f := 31) rfl ?_); refine goesL_ (some 4) rfl rfl Try.func31 (by kernel_rfl) rfl #[.string a0] rfl (by (try simp only [List.map_toArray, List.map_cons, List.map_nil]); first | done | rfl | (simp only [List.length_drop, List.length_take]; rfl)) ?_; (with_reducible refine (hop_Hop.calls a0 false _ A2.out).mono ?_); rintro e w6 ⟨rfl, hb⟩; refine ⟨_, rfl, ?_⟩; have n0_ := Aside0.mk (below_step (by repeat (first | (with_reducible first | exact HB.out | apply below_alloc | apply pw_below_drewN | apply below_drew1) | exact HB.out)) hb); clear HB; have HB := n0_; clear n0_; (try clear hb); (try clear hb2); (try clear hk); (try clear hi)) | ((with_reducible refine gate_dst (N := 7) rfl ?_); (try (refine gate_guard (by rfl) ?_; dsimp only)); refine Kd.R_lit Kd.string _ 9 ?hg (N := 7) ?hd (xs := ([(⟨#[67, 111, 110, 116, 101, 110, 116, 45, 76, 101, 110, 103, 116, 104]⟩ : ByteArray), (⟨#[67, 111, 110, 116, 101, 110, 116, 45, 69, 110, 99, 111, 100, 105, 110, 103]⟩ : ByteArray), (⟨#[67, 111, 110, 116, 101, 110, 116, 45, 84, 121, 112, 101]⟩ : ByteArray), (⟨#[67, 111, 110, 116, 101, 110, 116, 45, 82, 97, 110, 103, 101]⟩ : ByteArray)] : List ByteArray)) (inner := [.string (⟨#[67, 111, 110, 116, 101, 110, 116, 45, 76, 101, 110, 103, 116, 104]⟩ : ByteArray), .string (⟨#[67, 111, 110, 116, 101, 110, 116, 45, 69, 110, 99, 111, 100, 105, 110, 103]⟩ : ByteArray), .string (⟨#[67, 111, 110, 116, 101, 110, 116, 45, 84, 121, 112, 101]⟩ : ByteArray), .string (⟨#[67, 111, 110, 116, 101, 110, 116, 45, 82, 97, 110, 103, 101]⟩ : ByteArray)]) (ok := fun _ => True) (okp := fun _ => True) ?hr ?hp (fun _ hk => hk) trivial (Below.refl _ _) (Nat.le_refl _) (by simp) ?_; (case hd => rfl); (case hg => rfl); (case hr => first | (go_simp; done) | (go_simp; rfl)); (case hp => exact (Reps.one (show Kd.M Kd.string _ _ _ (⟨#[67, 111, 110, 116, 101, 110, 116, 45, 76, 101, 110, 103, 116, 104]⟩ : ByteArray) [.string (⟨#[67, 111, 110, 116, 101, 110, 116, 45, 76, 101, 110, 103, 116, 104]⟩ : ByteArray)] from rfl) (Reps.one (show Kd.M Kd.string _ _ _ (⟨#[67, 111, 110, 116, 101, 110, 116, 45, 69, 110, 99, 111, 100, 105, 110, 103]⟩ : ByteArray) [.string (⟨#[67, 111, 110, 116, 101, 110, 116, 45, 69, 110, 99, 111, 100, 105, 110, 103]⟩ : ByteArray)] from rfl) (Reps.one (show Kd.M Kd.string _ _ _ (⟨#[67, 111, 110, 116, 101, 110, 116, 45, 84, 121, 112, 101]⟩ : ByteArray) [.string (⟨#[67, 111, 110, 116, 101, 110, 116, 45, 84, 121, 112, 101]⟩ : ByteArray)] from rfl) (Reps.one (show Kd.M Kd.string _ _ _ (⟨#[67, 111, 110, 116, 101, 110, 116, 45, 82, 97, 110, 103, 101]⟩ : ByteArray) [.string (⟨#[67, 111, 110, 116, 101, 110, 116, 45, 82, 97, 110, 103, 101]⟩ : ByteArray)] from rfl) (Reps.none _ _)))))); intro v198 w7 ho8 hb hg_ hnew_; clear hg_ hnew_; (first | rw [← Ny197.out] at ho8 | (simp only [Int.reduceToNat] at ho8; rw [← Ny197.out] at ho8)); have n0_ := Aside0.mk (Kd.R_lower ho8 (below_size (by repeat (first | (with_reducible first | exact HB.out | apply below_alloc | apply pw_below_drewN | apply below_drew1) | exact HB.out)))); have n1_ := Aside0.mk (below_step (by repeat (first | (with_reducible first | exact HB.out | apply below_alloc | apply pw_below_drewN | apply below_drew1) | exact HB.out)) hb); clear HB; have HO199 := n0_; have HB := n1_; clear n0_ n1_; clear hb ho8; obtain ⟨Ao9, co9, eo9⟩ := Kd.R_slice HO199.out; subst eo9) | (go_at_call 32; (with_reducible refine (revise_named.calls a0 _ _ y197 t200 _ ?side1 ?side2 A5.out).mono ?_); (case side1 => repeat (first | exact (Kd.R_reads' HO199.out).2.2 | (with_reducible refine Kd.C_alloc ?_ _) | (with_reducible refine Kd.C_drewN ?_ _) | (with_reducible refine Kd.C_drew ?_))); (case side2 => exact (Kd.R_reads' HO199.out).2.1); rintro e w10 ⟨rfl, hb⟩; have n0_ := Aside0.mk (Kd.R_below (by (with_reducible repeat (first | apply Kd.R_alloc | apply Kd.R_drewN | apply Kd.R_drew)); exact HO199.out) hb); have n1_ := Aside0.mk (below_step (by repeat (first | (with_reducible first | exact HB.out | apply below_alloc | apply pw_below_drewN | apply below_drew1) | exact HB.out)) hb); clear HO199; clear HB; have HO199 := n0_; have HB := n1_; clear n0_ n1_; (try clear hb); (try clear hb2); (try clear hk); (try clear hi)))
    go_ret
    exact ⟨by first | rfl | (simp [errW_none, errW_some] <;> rfl) | (simp [*, errW_none, errW_some] <;> rfl), by repeat (first | (with_reducible first | exact HB.out | apply below_alloc | apply pw_below_drewN | apply below_drew1) | exact HB.out)⟩

/-! ### slices_Clone_api_Field_api_Field: function 26 -/
def slices_Clone_api_Field_api_Field.f (l0 : List S39) : Option (List S39) := if l0.length < 4398046511104 then some l0 else none
set_option maxHeartbeats 8000000 in
set_option maxRecDepth 100000 in
theorem slices_Clone_api_Field_api_Field.calls (A0 : Option Addr) (c0 : Nat) (l0 : List S39) (r : List S39) (w : World) (hr0 : Kd.C k39 w A0 l0.length l0) (hc0 : l0.length ≤ c0) (h : slices_Clone_api_Field_api_Field.f l0 = some r) :
    Calls Try.prog 26 #[.slice A0 l0.length c0] w fun e w' => ∃ v0_ : Value, e = .returned (v0_) ∧ Kd.R k39 39 w' w.heap.size (fun _ => True) v0_ r ∧ Below w.heap.size w w' := by
  obtain ⟨hl, er⟩ := some_if h
  replace er := er.symm
  subst er
  clear h
  have HR0 := Aside0.mk hr0
  have LM := Aside0.mk hl
  have HB := Aside0.mk (Below.refl w.heap.size w)
  clear hr0 hl hc0
  cases A0 with
  | none =>
    have hz : l0 = [] := by
      rcases Nat.eq_zero_or_pos l0.length with h | h
      · exact List.eq_nil_of_length_eq_zero h
      · obtain ⟨ad, e, _⟩ := HR0.out.2.2 h; cases e
    subst hz
    have he := fun W => (Lib.run_eql_slice_nil (P := Try.prog) W 22 39 none 0 c0 0 0 Try.underlying22).trans (by rfl : _ = Result.ok (Value.bool true) W)
    go_enter Try.func26, Try.ntmps26
    go_wp2
    go_ret
    exact ⟨_, rfl, Kd.R_nil _ _ _ _ _, HB.out⟩
  | some a =>
    obtain ⟨y_, hy_⟩ : ∃ y_ : List S39, y_ = [] := ⟨_, rfl⟩
    have Ny := Aside0.mk hy_
    clear hy_
    have he := fun W => (Lib.run_eql_slice_nil (P := Try.prog) W 22 39 (some a) l0.length c0 0 0 Try.underlying22).trans (by rfl : _ = Result.ok (Value.bool false) W)
    go_enter Try.func26, Try.ntmps26
    go_wp2_with (first | ((with_reducible refine gate_dst (N := 5) rfl ?_); refine Kd.R_lit k39 _ 39 ?hg (N := 5) ?hd (xs := ([] : List S39)) (inner := []) (ok := fun _ => True) (okp := fun _ => True) ?hr ?hp (fun _ hk => hk) trivial (Below.refl _ _) (Nat.le_refl _) (by simp) ?_; (case hd => rfl); (case hg => rfl); (case hr => first | (go_simp; done) | (go_simp; rfl)); (case hp => exact (Reps.none _ _)); intro v7 w7 ho hb hg_ hnew_; clear hg_ hnew_; rw [← Ny.out] at ho; have n0_ := Aside0.mk (Kd.R_lower ho (below_size HB.out)); have n1_ := Aside0.mk (below_step HB.out hb); clear HB ho hb; have HO := n0_; have HB := n1_; clear n0_ n1_) | ((with_reducible refine gate_builtin (b := .append) (xs := #[.tmp 5, .tmp 6]) rfl ?_); at_builtin; refine Kd.R_append_rows k39 (w0 := w) w.heap.size rfl (.tmp 5) (.tmp 6) 22 39 (.agg #[.string ⟨#[]⟩, .string ⟨#[]⟩]) 32 rfl Try.underlying22 info39 rfl (by decide) (by omega) v7 y_ l0 _ _ _ (fun _ => True) (fun _ => False) rfl rfl ?aO ?aR (fun _ _ h => h) (fun _ h => h.elim) ?aF ?aB ?aS ?aL ?_; (case aR => repeat (first | exact (Kd.C_below HR0.out HB.out) | (with_reducible refine Kd.C_alloc ?_ _) | (with_reducible refine Kd.C_drewN ?_ _) | (with_reducible refine Kd.C_drew ?_))); (case aB => exact HB.out); (case aF => exact (fun _ _ => trivial)); (case aO => exact HO.out); (case aS => exact (below_size HB.out)); (case aL => have := LM.out; have := Ny.out; subst this; simp only [List.length_nil]; omega); intro v9 w9 ho hb hg hat; rw [Ny.out, List.nil_append] at ho; have n2_ := Aside0.mk (hb); have n3_ := Aside0.mk (ho); clear HB HO ho hb hg hat; have HB := n2_; have HO := n3_; clear n2_ n3_))
    go_ret
    exact ⟨_, rfl, HO.out, HB.out⟩

/-! ### slices_Clone_string_string: function 42 -/
def slices_Clone_string_string.f (l0 : List ByteArray) : Option (List ByteArray) := if l0.length < 8796093022208 then some l0 else none
set_option maxHeartbeats 8000000 in
set_option maxRecDepth 100000 in
theorem slices_Clone_string_string.calls (A0 : Option Addr) (c0 : Nat) (l0 : List ByteArray) (r : List ByteArray) (w : World) (hr0 : Kd.C Kd.string w A0 l0.length l0) (hc0 : l0.length ≤ c0) (h : slices_Clone_string_string.f l0 = some r) :
    Calls Try.prog 42 #[.slice A0 l0.length c0] w fun e w' => ∃ v0_ : Value, e = .returned (v0_) ∧ Kd.R Kd.string 9 w' w.heap.size (fun _ => True) v0_ r ∧ Below w.heap.size w w' := by
  obtain ⟨hl, er⟩ := some_if h
  replace er := er.symm
  subst er
  clear h
  have HR0 := Aside0.mk hr0
  have LM := Aside0.mk hl
  have HB := Aside0.mk (Below.refl w.heap.size w)
  clear hr0 hl hc0
  cases A0 with
  | none =>
    have hz : l0 = [] := by
      rcases Nat.eq_zero_or_pos l0.length with h | h
      · exact List.eq_nil_of_length_eq_zero h
      · obtain ⟨ad, e, _⟩ := HR0.out.2.2 h; cases e
    subst hz
    have he := fun W => (Lib.run_eql_slice_nil (P := Try.prog) W 25 9 none 0 c0 0 0 Try.underlying25).trans (by rfl : _ = Result.ok (Value.bool true) W)
    go_enter Try.func42, Try.ntmps42
    go_wp2
    go_ret
    exact ⟨_, rfl, Kd.R_nil _ _ _ _ _, HB.out⟩
  | some a =>
    obtain ⟨y_, hy_⟩ : ∃ y_ : List ByteArray, y_ = [] := ⟨_, rfl⟩
    have Ny := Aside0.mk hy_
    clear hy_
    have he := fun W => (Lib.run_eql_slice_nil (P := Try.prog) W 25 9 (some a) l0.length c0 0 0 Try.underlying25).trans (by rfl : _ = Result.ok (Value.bool false) W)
    go_enter Try.func42, Try.ntmps42
    go_wp2_with (first | ((with_reducible refine gate_dst (N := 5) rfl ?_); refine Kd.R_lit Kd.string _ 9 ?hg (N := 5) ?hd (xs := ([] : List ByteArray)) (inner := []) (ok := fun _ => True) (okp := fun _ => True) ?hr ?hp (fun _ hk => hk) trivial (Below.refl _ _) (Nat.le_refl _) (by simp) ?_; (case hd => rfl); (case hg => rfl); (case hr => first | (go_simp; done) | (go_simp; rfl)); (case hp => exact (Reps.none _ _)); intro v7 w7 ho hb hg_ hnew_; clear hg_ hnew_; rw [← Ny.out] at ho; have n0_ := Aside0.mk (Kd.R_lower ho (below_size HB.out)); have n1_ := Aside0.mk (below_step HB.out hb); clear HB ho hb; have HO := n0_; have HB := n1_; clear n0_ n1_) | ((with_reducible refine gate_builtin (b := .append) (xs := #[.tmp 5, .tmp 6]) rfl ?_); at_builtin; refine Kd.R_append_rows Kd.string (w0 := w) w.heap.size rfl (.tmp 5) (.tmp 6) 25 9 (.string ⟨#[]⟩) 16 rfl Try.underlying25 info9 rfl (by decide) (by omega) v7 y_ l0 _ _ _ (fun _ => True) (fun _ => False) rfl rfl ?aO ?aR (fun _ _ h => h) (fun _ h => h.elim) ?aF ?aB ?aS ?aL ?_; (case aR => repeat (first | exact (Kd.C_below HR0.out HB.out) | (with_reducible refine Kd.C_alloc ?_ _) | (with_reducible refine Kd.C_drewN ?_ _) | (with_reducible refine Kd.C_drew ?_))); (case aB => exact HB.out); (case aF => exact (fun _ _ => trivial)); (case aO => exact HO.out); (case aS => exact (below_size HB.out)); (case aL => have := LM.out; have := Ny.out; subst this; simp only [List.length_nil]; omega); intro v9 w9 ho hb hg hat; rw [Ny.out, List.nil_append] at ho; have n2_ := Aside0.mk (hb); have n3_ := Aside0.mk (ho); clear HB HO ho hb hg hat; have HB := n2_; have HO := n3_; clear n2_ n3_))
    go_ret
    exact ⟨_, rfl, HO.out, HB.out⟩

/-! ### store_Copy: function 24 -/
def store_Copy.f (a0_0 : ByteArray) (l0_1 : List ByteArray) (a0_2 : ByteArray) (a0_3 : ByteArray) (a0_4 : ByteArray) (a0_5 : Int) (a0_6 : ByteArray) (a0_7 : Int) (l0_8 : List (S39)) (a0_9 : ByteArray) (l0_10 : List (S39)) (a0_11 : Int) (a0_12 : Int) (a0_13 : Int) (a0_14 : Int) : Option (ByteArray × List ByteArray × ByteArray × ByteArray × ByteArray × Int × ByteArray × Int × (List (S39)) × ByteArray × (List (S39)) × Int × Int × Int × Int) := (slices_Clone_string_string.f l0_1).bind fun t203 => ((slices_Clone_api_Field_api_Field.f l0_8).bind fun t206 => ((slices_Clone_api_Field_api_Field.f l0_10).bind fun t209 => (some (a0_0, t203, a0_2, a0_3, a0_4, a0_5, a0_6, a0_7, t206, a0_9, t209, a0_11, a0_12, a0_13, a0_14))))
def store_Copy.T2 : Bool × List (List Nat × List Nat) := (true, [([], []), ([0], [0]), ([1], [1]), ([2], [2]), ([], []), ([4], [4]), ([5], [5]), ([6, 3], [6]), ([0, 1, 2, 3, 4, 5, 6], []), ([8, 0, 1, 2, 3, 4, 5, 6], [8]), ([9, 3, 7, 0, 1, 2, 3, 4, 5, 6], [3, 9]), ([0, 1, 2, 3, 4, 5, 6, 7, 8, 9, 10], []), ([11, 0, 1, 2, 3, 4, 5, 6, 7, 8, 9, 10], [11]), ([12, 7, 10, 0, 1, 2, 3, 4, 5, 6, 7, 8, 9, 10], [7, 12])])
def store_Copy.B2 : List Nat := [0, 1, 3, 7, 0, 16, 48, 127, 127, 383, 1023, 2047, 4095, 8191]
theorem store_Copy.tab2 : rtab .any (opsOf Try.f24 2) = store_Copy.T2 := by kernel_rfl
theorem store_Copy.bits2 : waitsOk store_Copy.T2.2 store_Copy.B2 = true := by kernel_rfl
set_option maxHeartbeats 8000000 in
set_option maxRecDepth 100000 in
theorem store_Copy.calls (a0_0 : ByteArray) (A0_1 : Option Addr) (c0_1 : Nat) (l0_1 : List ByteArray) (a0_2 : ByteArray) (a0_3 : ByteArray) (a0_4 : ByteArray) (a0_5 : Int) (a0_6 : ByteArray) (a0_7 : Int) (A0_8 : Option Addr) (c0_8 : Nat) (l0_8 : List (S39)) (a0_9 : ByteArray) (A0_10 : Option Addr) (c0_10 : Nat) (l0_10 : List (S39)) (a0_11 : Int) (a0_12 : Int) (a0_13 : Int) (a0_14 : Int) (r1 : ByteArray) (r2 : List ByteArray) (r3 : ByteArray) (r4 : ByteArray) (r5 : ByteArray) (r6 : Int) (r7 : ByteArray) (r8 : Int) (r9 : List (S39)) (r10 : ByteArray) (r11 : List (S39)) (r12 : Int) (r13 : Int) (r14 : Int) (r15 : Int) (w : World) (hr0_1 : Kd.C Kd.string w A0_1 l0_1.length l0_1) (hc0_1 : l0_1.length ≤ c0_1) (hr0_8 : Kd.C k39 w A0_8 l0_8.length l0_8) (hc0_8 : l0_8.length ≤ c0_8) (hr0_10 : Kd.C k39 w A0_10 l0_10.length l0_10) (hc0_10 : l0_10.length ≤ c0_10) (h : store_Copy.f a0_0 l0_1 a0_2 a0_3 a0_4 a0_5 a0_6 a0_7 l0_8 a0_9 l0_10 a0_11 a0_12 a0_13 a0_14 = some (r1, r2, r3, r4, r5, r6, r7, r8, r9, r10, r11, r12, r13, r14, r15)) :
    Calls Try.prog 24 #[.agg #[.string a0_0, .slice A0_1 l0_1.length c0_1, .string a0_2, .string a0_3, .string a0_4, .int .i64 a0_5, .string a0_6, .int .i64 a0_7, .slice A0_8 l0_8.length c0_8, .string a0_9, .slice A0_10 l0_10.length c0_10, .int .i64 a0_11, .int .i64 a0_12, .int .i64 a0_13, .int .i64 a0_14]] w fun e w' => ∃ v1_ v8_ v10_ : Value, e = .returned (.agg #[.string r1, v1_, .string r3, .string r4, .string r5, .int .i64 r6, .string r7, .int .i64 r8, v8_, .string r10, v10_, .int .i64 r12, .int .i64 r13, .int .i64 r14, .int .i64 r15]) ∧ Kd.R Kd.string 9 w' w.heap.size (fun _ => True) v1_ r2 ∧ Kd.R k39 39 w' w.heap.size (fun k_ => some k_ ≠ (v10_ : Value).ownBlock) v8_ r9 ∧ Kd.R k39 39 w' w.heap.size (fun k_ => some k_ ≠ (v8_ : Value).ownBlock) v10_ r11 ∧ Below w.heap.size w w' := by
  have hu34 := Try.underlying34
  have HR0_1 := Aside0.mk hr0_1
  have HC0_1 := Aside0.mk hc0_1
  clear hr0_1 hc0_1
  have HR0_8 := Aside0.mk hr0_8
  have HC0_8 := Aside0.mk hc0_8
  clear hr0_8 hc0_8
  have HR0_10 := Aside0.mk hr0_10
  have HC0_10 := Aside0.mk hc0_10
  clear hr0_10 hc0_10
  have HB := Aside0.mk (Below.refl w.heap.size w)
  have H : ((slices_Clone_string_string.f l0_1).bind fun t203 => ((slices_Clone_api_Field_api_Field.f l0_8).bind fun t206 => ((slices_Clone_api_Field_api_Field.f l0_10).bind fun t209 => (some (a0_0, t203, a0_2, a0_3, a0_4, a0_5, a0_6, a0_7, t206, a0_9, t209, a0_11, a0_12, a0_13, a0_14))))) = some (r1, r2, r3, r4, r5, r6, r7, r8, r9, r10, r11, r12, r13, r14, r15) := h
  clear h
  replace H := Option.bind_eq_some_iff.mp H
  obtain ⟨t203, A20, H⟩ := H
  replace H : ((slices_Clone_api_Field_api_Field.f l0_8).bind fun t206 => ((slices_Clone_api_Field_api_Field.f l0_10).bind fun t209 => (some (a0_0, t203, a0_2, a0_3, a0_4, a0_5, a0_6, a0_7, t206, a0_9, t209, a0_11, a0_12, a0_13, a0_14)))) = some (r1, r2, r3, r4, r5, r6, r7, r8, r9, r10, r11, r12, r13, r14, r15) := H
  have A2 := Aside0.mk A20
  clear A20
  replace H := Option.bind_eq_some_iff.mp H
  obtain ⟨t206, A30, H⟩ := H
  replace H : ((slices_Clone_api_Field_api_Field.f l0_10).bind fun t209 => (some (a0_0, t203, a0_2, a0_3, a0_4, a0_5, a0_6, a0_7, t206, a0_9, t209, a0_11, a0_12, a0_13, a0_14))) = some (r1, r2, r3, r4, r5, r6, r7, r8, r9, r10, r11, r12, r13, r14, r15) := H
  have A3 := Aside0.mk A30
  clear A30
  replace H := Option.bind_eq_some_iff.mp H
  obtain ⟨t209, A40, H⟩ := H
  replace H : (some (a0_0, t203, a0_2, a0_3, a0_4, a0_5, a0_6, a0_7, t206, a0_9, t209, a0_11, a0_12, a0_13, a0_14)) = some (r1, r2, r3, r4, r5, r6, r7, r8, r9, r10, r11, r12, r13, r14, r15) := H
  have A4 := Aside0.mk A40
  clear A40
  simp only [Option.some.injEq, Prod.mk.injEq] at H
  obtain ⟨rfl, rfl, rfl, rfl, rfl, rfl, rfl, rfl, rfl, rfl, rfl, rfl, rfl, rfl, rfl⟩ := H
  go_enter Try.func24, Try.ntmps24
  try go_wp2_with (first | ((with_reducible refine gate_dst (N := 1) rfl ?_); refine box_event ?hg (N := 1) ?hd (cs := #[.string a0_0, .slice A0_1 l0_1.length c0_1, .string a0_2, .string a0_3, .string a0_4, .int .i64 a0_5, .string a0_6, .int .i64 a0_7, .slice A0_8 l0_8.length c0_8, .string a0_9, .slice A0_10 l0_10.length c0_10, .int .i64 a0_11, .int .i64 a0_12, .int .i64 a0_13, .int .i64 a0_14]) (t := 34) ?hr ?_; (case hd => rfl); (case hg => rfl); (case hr => first | (go_simp; done) | (go_simp; rfl)); intro gb201 hg w5 hbox hb; have n0_ := Aside0.mk (below_step (by repeat (first | (with_reducible first | exact HB.out | apply below_alloc | apply pw_below_drewN | apply below_drew1) | exact HB.out)) hb); have n1_ := Aside0.mk (hbox); have n2_ := Aside0.mk ((by rw [hg]; exact (below_size (by repeat (first | (with_reducible first | exact HB.out | apply below_alloc | apply pw_below_drewN | apply below_drew1) | exact HB.out))) : w.heap.size ≤ gb201)); have n3_ := Aside0.mk ((by rw [hg]; exact (below_size (by repeat (first | (with_reducible first | exact HB.out | apply below_alloc | apply pw_below_drewN | apply below_drew1) | exact HB.out))) : w.heap.size ≤ gb201)); clear HB; have HB := n0_; have BK201 := n1_; have GW201 := n2_; have GE201 := n3_; clear n0_ n1_ n2_ n3_; clear hb hbox hg) | ((with_reducible refine gate_dst (N := 2) rfl ?_); refine box_event ?hg (N := 2) ?hd (cs := #[.string (⟨#[]⟩ : ByteArray), .slice none 0 0, .string (⟨#[]⟩ : ByteArray), .string (⟨#[]⟩ : ByteArray), .string (⟨#[]⟩ : ByteArray), .int .i64 0, .string (⟨#[]⟩ : ByteArray), .int .i64 0, .slice none 0 0, .string (⟨#[]⟩ : ByteArray), .slice none 0 0, .int .i64 0, .int .i64 0, .int .i64 0, .int .i64 0]) (t := 34) ?hr ?_; (case hd => rfl); (case hg => rfl); (case hr => first | (go_simp; done) | (go_simp; rfl)); intro gb202 hg w6 hbox hb; have n0_ := Aside0.mk (blk_below (g := gb201) (o := .cells #[.string a0_0, .slice A0_1 l0_1.length c0_1, .string a0_2, .string a0_3, .string a0_4, .int .i64 a0_5, .string a0_6, .int .i64 a0_7, .slice A0_8 l0_8.length c0_8, .string a0_9, .slice A0_10 l0_10.length c0_10, .int .i64 a0_11, .int .i64 a0_12, .int .i64 a0_13, .int .i64 a0_14] 34 (0, 0)) (by (with_reducible repeat (first | refine blk_drewN ?_ _ | refine blk_drew ?_ | refine blk_alloc ?_ _)); exact BK201.out) hb); have n1_ := Aside0.mk (below_step (by repeat (first | (with_reducible first | exact HB.out | apply below_alloc | apply pw_below_drewN | apply below_drew1 | refine below_set ?_ GE201.out) | exact HB.out)) hb); have n2_ := Aside0.mk (hbox); have n3_ := Aside0.mk ((by rw [hg]; exact (below_size (by repeat (first | (with_reducible first | exact HB.out | apply below_alloc | apply pw_below_drewN | apply below_drew1 | refine below_set ?_ GE201.out) | exact HB.out))) : w.heap.size ≤ gb202)); have n4_ := Aside0.mk ((by rw [hg]; exact (below_size (by repeat (first | (with_reducible first | exact HB.out | apply below_alloc | apply pw_below_drewN | apply below_drew1 | refine below_set ?_ GE201.out) | exact HB.out))) : w.heap.size ≤ gb202)); have n5_ := Aside0.mk ((by rw [hg]; exact Nat.ne_of_lt (blk_lt (g := gb201) (o := .cells #[.string a0_0, .slice A0_1 l0_1.length c0_1, .string a0_2, .string a0_3, .string a0_4, .int .i64 a0_5, .string a0_6, .int .i64 a0_7, .slice A0_8 l0_8.length c0_8, .string a0_9, .slice A0_10 l0_10.length c0_10, .int .i64 a0_11, .int .i64 a0_12, .int .i64 a0_13, .int .i64 a0_14] 34 (0, 0)) (by (with_reducible repeat (first | refine blk_drewN ?_ _ | refine blk_drew ?_ | refine blk_alloc ?_ _)); exact BK201.out)) : gb201 ≠ gb202)); have n6_ := Aside0.mk ((by rw [hg]; exact Nat.ne_of_gt (blk_lt (g := gb201) (o := .cells #[.string a0_0, .slice A0_1 l0_1.length c0_1, .string a0_2, .string a0_3, .string a0_4, .int .i64 a0_5, .string a0_6, .int .i64 a0_7, .slice A0_8 l0_8.length c0_8, .string a0_9, .slice A0_10 l0_10.length c0_10, .int .i64 a0_11, .int .i64 a0_12, .int .i64 a0_13, .int .i64 a0_14] 34 (0, 0)) (by (with_reducible repeat (first | refine blk_drewN ?_ _ | refine blk_drew ?_ | refine blk_alloc ?_ _)); exact BK201.out)) : gb202 ≠ gb201)); clear BK201; clear HB; have BK201 := n0_; have HB := n1_; have BK202 := n2_; have GW202 := n3_; have GE202 := n4_; have NB201_202 := n5_; have NB202_201 := n6_; clear n0_ n1_ n2_ n3_ n4_ n5_ n6_; clear hb hbox hg; have hnb7 := NB201_202.out; have hnc7 := NB202_201.out; have hcz8_0 : w6.cell? ⟨gb201, 0, none⟩ = some (.string a0_0) := (blk_cell BK201.out 0).trans rfl; have hcz8_1 : w6.cell? ⟨gb201, 1, none⟩ = some (.slice A0_1 l0_1.length c0_1) := (blk_cell BK201.out 1).trans rfl; have hcz8_2 : w6.cell? ⟨gb201, 2, none⟩ = some (.string a0_2) := (blk_cell BK201.out 2).trans rfl; have hcz8_3 : w6.cell? ⟨gb201, 3, none⟩ = some (.string a0_3) := (blk_cell BK201.out 3).trans rfl; have hcz8_4 : w6.cell? ⟨gb201, 4, none⟩ = some (.string a0_4) := (blk_cell BK201.out 4).trans rfl; have hcz8_5 : w6.cell? ⟨gb201, 5, none⟩ = some (.int .i64 a0_5) := (blk_cell BK201.out 5).trans rfl; have hcz8_6 : w6.cell? ⟨gb201, 6, none⟩ = some (.string a0_6) := (blk_cell BK201.out 6).trans rfl; have hcz8_7 : w6.cell? ⟨gb201, 7, none⟩ = some (.int .i64 a0_7) := (blk_cell BK201.out 7).trans rfl; have hcz8_8 : w6.cell? ⟨gb201, 8, none⟩ = some (.slice A0_8 l0_8.length c0_8) := (blk_cell BK201.out 8).trans rfl; have hcz8_9 : w6.cell? ⟨gb201, 9, none⟩ = some (.string a0_9) := (blk_cell BK201.out 9).trans rfl; have hcz8_10 : w6.cell? ⟨gb201, 10, none⟩ = some (.slice A0_10 l0_10.length c0_10) := (blk_cell BK201.out 10).trans rfl; have hcz8_11 : w6.cell? ⟨gb201, 11, none⟩ = some (.int .i64 a0_11) := (blk_cell BK201.out 11).trans rfl; have hcz8_12 : w6.cell? ⟨gb201, 12, none⟩ = some (.int .i64 a0_12) := (blk_cell BK201.out 12).trans rfl; have hcz8_13 : w6.cell? ⟨gb201, 13, none⟩ = some (.int .i64 a0_13) := (blk_cell BK201.out 13).trans rfl; have hcz8_14 : w6.cell? ⟨gb201, 14, none⟩ = some (.int .i64 a0_14) := (blk_cell BK201.out 14).trans rfl; have hfz8_0 := blk_frozen BK201.out 0; have hfz8_1 := blk_frozen BK201.out 1; have hfz8_2 := blk_frozen BK201.out 2; have hfz8_3 := blk_frozen BK201.out 3; have hfz8_4 := blk_frozen BK201.out 4; have hfz8_5 := blk_frozen BK201.out 5; have hfz8_6 := blk_frozen BK201.out 6; have hfz8_7 := blk_frozen BK201.out 7; have hfz8_8 := blk_frozen BK201.out 8; have hfz8_9 := blk_frozen BK201.out 9; have hfz8_10 := blk_frozen BK201.out 10; have hfz8_11 := blk_frozen BK201.out 11; have hfz8_12 := blk_frozen BK201.out 12; have hfz8_13 := blk_frozen BK201.out 13; have hfz8_14 := blk_frozen BK201.out 14) | ((with_reducible refine gate_callee (f := 42) rfl ?_); refine goesL_ (some 5) rfl rfl Try.func42 (by kernel_rfl) rfl #[.slice A0_1 l0_1.length c0_1] rfl (by (try simp only [List.map_toArray, List.map_cons, List.map_nil]); first | done | rfl | (simp only [List.length_drop, List.length_take]; rfl)) ?_; (with_reducible refine (slices_Clone_string_string.calls _ _ l0_1 t203 _ ?side1 ?side2 A2.out).mono ?_); (case side1 => repeat (first | exact (Kd.C_below HR0_1.out HB.out) | (with_reducible refine Kd.C_alloc ?_ _) | (with_reducible refine Kd.C_drewN ?_ _) | (with_reducible refine Kd.C_drew ?_))); (case side2 => exact HC0_1.out); rintro e w9 ⟨v204, rfl, ho0, hb⟩; refine ⟨_, rfl, ?_⟩; have n0_ := Aside0.mk (Kd.R_lower ho0 (below_size (by repeat (first | (with_reducible first | exact HB.out | apply below_alloc | apply pw_below_drewN | apply below_drew1 | refine below_set ?_ GE201.out | refine below_set ?_ GE202.out) | exact HB.out)))); have n1_ := Aside0.mk (blk_below (g := gb201) (o := .cells #[.string a0_0, .slice A0_1 l0_1.length c0_1, .string a0_2, .string a0_3, .string a0_4, .int .i64 a0_5, .string a0_6, .int .i64 a0_7, .slice A0_8 l0_8.length c0_8, .string a0_9, .slice A0_10 l0_10.length c0_10, .int .i64 a0_11, .int .i64 a0_12, .int .i64 a0_13, .int .i64 a0_14] 34 (0, 0)) (by (with_reducible repeat (first | refine blk_drewN ?_ _ | refine blk_drew ?_ | refine blk_alloc ?_ _)); exact BK201.out) hb); have n2_ := Aside0.mk (blk_below (g := gb202) (o := .cells #[.string (⟨#[]⟩ : ByteArray), .slice none 0 0, .string (⟨#[]⟩ : ByteArray), .string (⟨#[]⟩ : ByteArray), .string (⟨#[]⟩ : ByteArray), .int .i64 0, .string (⟨#[]⟩ : ByteArray), .int .i64 0, .slice none 0 0, .string (⟨#[]⟩ : ByteArray), .slice none 0 0, .int .i64 0, .int .i64 0, .int .i64 0, .int .i64 0] 34 (0, 0)) (by (with_reducible repeat (first | refine blk_drewN ?_ _ | refine blk_drew ?_ | refine blk_alloc ?_ _)); exact BK202.out) hb); have n3_ := Aside0.mk (below_step (by repeat (first | (with_reducible first | exact HB.out | apply below_alloc | apply pw_below_drewN | apply below_drew1 | refine below_set ?_ GE201.out | refine below_set ?_ GE202.out) | exact HB.out)) hb); clear BK201; clear BK202; clear HB; have HO205 := n0_; have BK201 := n1_; have BK202 := n2_; have HB := n3_; clear n0_ n1_ n2_ n3_; (try clear hb); (try clear hb2); (try clear hk); (try clear hi); (try clear ho0); obtain ⟨Ao10, co10, eo10⟩ := Kd.R_slice HO205.out; subst eo10; have hcz11_0 : w9.cell? ⟨gb201, 0, none⟩ = some (.string a0_0) := (blk_cell BK201.out 0).trans rfl; have hcz11_1 : w9.cell? ⟨gb201, 1, none⟩ = some (.slice A0_1 l0_1.length c0_1) := (blk_cell BK201.out 1).trans rfl; have hcz11_2 : w9.cell? ⟨gb201, 2, none⟩ = some (.string a0_2) := (blk_cell BK201.out 2).trans rfl; have hcz11_3 : w9.cell? ⟨gb201, 3, none⟩ = some (.string a0_3) := (blk_cell BK201.out 3).trans rfl; have hcz11_4 : w9.cell? ⟨gb201, 4, none⟩ = some (.string a0_4) := (blk_cell BK201.out 4).trans rfl; have hcz11_5 : w9.cell? ⟨gb201, 5, none⟩ = some (.int .i64 a0_5) := (blk_cell BK201.out 5).trans rfl; have hcz11_6 : w9.cell? ⟨gb201, 6, none⟩ = some (.string a0_6) := (blk_cell BK201.out 6).trans rfl; have hcz11_7 : w9.cell? ⟨gb201, 7, none⟩ = some (.int .i64 a0_7) := (blk_cell BK201.out 7).trans rfl; have hcz11_8 : w9.cell? ⟨gb201, 8, none⟩ = some (.slice A0_8 l0_8.length c0_8) := (blk_cell BK201.out 8).trans rfl; have hcz11_9 : w9.cell? ⟨gb201, 9, none⟩ = some (.string a0_9) := (blk_cell BK201.out 9).trans rfl; have hcz11_10 : w9.cell? ⟨gb201, 10, none⟩ = some (.slice A0_10 l0_10.length c0_10) := (blk_cell BK201.out 10).trans rfl; have hcz11_11 : w9.cell? ⟨gb201, 11, none⟩ = some (.int .i64 a0_11) := (blk_cell BK201.out 11).trans rfl; have hcz11_12 : w9.cell? ⟨gb201, 12, none⟩ = some (.int .i64 a0_12) := (blk_cell BK201.out 12).trans rfl; have hcz11_13 : w9.cell? ⟨gb201, 13, none⟩ = some (.int .i64 a0_13) := (blk_cell BK201.out 13).trans rfl; have hcz11_14 : w9.cell? ⟨gb201, 14, none⟩ = some (.int .i64 a0_14) := (blk_cell BK201.out 14).trans rfl; have hfz11_0 := blk_frozen BK201.out 0; have hfz11_1 := blk_frozen BK201.out 1; have hfz11_2 := blk_frozen BK201.out 2; have hfz11_3 := blk_frozen BK201.out 3; have hfz11_4 := blk_frozen BK201.out 4; have hfz11_5 := blk_frozen BK201.out 5; have hfz11_6 := blk_frozen BK201.out 6; have hfz11_7 := blk_frozen BK201.out 7; have hfz11_8 := blk_frozen BK201.out 8; have hfz11_9 := blk_frozen BK201.out 9; have hfz11_10 := blk_frozen BK201.out 10; have hfz11_11 := blk_frozen BK201.out 11; have hfz11_12 := blk_frozen BK201.out 12; have hfz11_13 := blk_frozen BK201.out 13; have hfz11_14 := blk_frozen BK201.out 14))
  have n0_ : Aside0 (Kd.R Kd.string 9 (w9.setCell ⟨gb201, 1, none⟩ (.slice Ao10 t203.length co10)) w.heap.size (fun _ => True) (.slice Ao10 t203.length co10) t203) := ⟨by (with_reducible repeat (first | apply Kd.R_alloc | apply Kd.R_drewN | apply Kd.R_drew)); exact Kd.R_mono (Kd.R_far (p := ⟨gb201, 1, none⟩) (Kd.R_types HO205.out BK201.out (by decide)) (fun _ hk => hk.2) (.slice Ao10 t203.length co10)) (fun _ hk => trivial)⟩
  have n1_ : Aside0 ((w9.setCell ⟨gb201, 1, none⟩ (.slice Ao10 t203.length co10)).heap[gb201]? = some (.cells #[.string a0_0, .slice Ao10 t203.length co10, .string a0_2, .string a0_3, .string a0_4, .int .i64 a0_5, .string a0_6, .int .i64 a0_7, .slice A0_8 l0_8.length c0_8, .string a0_9, .slice A0_10 l0_10.length c0_10, .int .i64 a0_11, .int .i64 a0_12, .int .i64 a0_13, .int .i64 a0_14] 34 (0, 0))) := ⟨by (with_reducible repeat (first | refine blk_drewN ?_ _ | refine blk_drew ?_ | refine blk_alloc ?_ _)); refine blk_put (cs := #[.string a0_0, .slice A0_1 l0_1.length c0_1, .string a0_2, .string a0_3, .string a0_4, .int .i64 a0_5, .string a0_6, .int .i64 a0_7, .slice A0_8 l0_8.length c0_8, .string a0_9, .slice A0_10 l0_10.length c0_10, .int .i64 a0_11, .int .i64 a0_12, .int .i64 a0_13, .int .i64 a0_14]) ?_ 1 _ rfl; (with_reducible repeat (first | refine blk_drewN ?_ _ | refine blk_drew ?_ | refine blk_alloc ?_ _)); exact BK201.out⟩
  have n2_ : Aside0 ((w9.setCell ⟨gb201, 1, none⟩ (.slice Ao10 t203.length co10)).heap[gb202]? = some (.cells #[.string (⟨#[]⟩ : ByteArray), .slice none 0 0, .string (⟨#[]⟩ : ByteArray), .string (⟨#[]⟩ : ByteArray), .string (⟨#[]⟩ : ByteArray), .int .i64 0, .string (⟨#[]⟩ : ByteArray), .int .i64 0, .slice none 0 0, .string (⟨#[]⟩ : ByteArray), .slice none 0 0, .int .i64 0, .int .i64 0, .int .i64 0, .int .i64 0] 34 (0, 0))) := ⟨by (with_reducible repeat (first | refine blk_drewN ?_ _ | refine blk_drew ?_ | refine blk_alloc ?_ _)); refine blk_far ?_ NB202_201.out _; (with_reducible repeat (first | refine blk_drewN ?_ _ | refine blk_drew ?_ | refine blk_alloc ?_ _)); exact BK202.out⟩
  have n3_ : Aside0 (Below w.heap.size w (w9.setCell ⟨gb201, 1, none⟩ (.slice Ao10 t203.length co10))) := ⟨by repeat (first | (with_reducible first | exact HB.out | apply below_alloc | apply pw_below_drewN | apply below_drew1 | refine below_set ?_ GE201.out | refine below_set ?_ GE202.out) | exact HB.out)⟩
  (try clear HO205)
  (try clear BK201)
  (try clear BK202)
  (try clear HB)
  generalize (w9.setCell ⟨gb201, 1, none⟩ (.slice Ao10 t203.length co10)) = w12 at n0_ n1_ n2_ n3_ ⊢
  have HO205 := n0_
  have BK201 := n1_
  have BK202 := n2_
  have HB := n3_
  clear n0_ n1_ n2_ n3_
  have n0_ := Aside0.mk (Kd.R_drew HO205.out)
  have n1_ := Aside0.mk (blk_drew BK201.out)
  have n2_ := Aside0.mk (blk_drew BK202.out)
  have n3_ := Aside0.mk (below_drew1 HB.out)
  clear HO205
  clear BK201
  clear BK202
  clear HB
  have HO205 := n0_
  have BK201 := n1_
  have BK202 := n2_
  have HB := n3_
  clear n0_ n1_ n2_ n3_
  refine start_ (n := 14) (S := fun w' => w'.cell? ⟨gb201, 0, none⟩ = some (.string a0_0) ∧ w'.cell? ⟨gb201, 1, none⟩ = some (.slice Ao10 t203.length co10) ∧ w'.cell? ⟨gb201, 2, none⟩ = some (.string a0_2) ∧ w'.cell? ⟨gb201, 3, none⟩ = some (.string a0_3) ∧ w'.cell? ⟨gb201, 4, none⟩ = some (.string a0_4) ∧ w'.cell? ⟨gb201, 5, none⟩ = some (.int .i64 a0_5) ∧ w'.cell? ⟨gb201, 6, none⟩ = some (.string a0_6) ∧ w'.cell? ⟨gb201, 7, none⟩ = some (.int .i64 a0_7) ∧ w'.cell? ⟨gb201, 8, none⟩ = some (.slice A0_8 l0_8.length c0_8) ∧ w'.cell? ⟨gb201, 9, none⟩ = some (.string a0_9) ∧ w'.cell? ⟨gb201, 10, none⟩ = some (.slice A0_10 l0_10.length c0_10) ∧ w'.cell? ⟨gb201, 11, none⟩ = some (.int .i64 a0_11) ∧ w'.cell? ⟨gb201, 12, none⟩ = some (.int .i64 a0_12) ∧ w'.cell? ⟨gb201, 13, none⟩ = some (.int .i64 a0_13) ∧ w'.cell? ⟨gb201, 14, none⟩ = some (.int .i64 a0_14)) (ds := [10, 13]) #[false, false, false, false, false, false, false, false, false, false, false, false, false, false] (by kernel_rfl) rfl rfl ⟨(blk_cell BK201.out 0).trans rfl, (blk_cell BK201.out 1).trans rfl, (blk_cell BK201.out 2).trans rfl, (blk_cell BK201.out 3).trans rfl, (blk_cell BK201.out 4).trans rfl, (blk_cell BK201.out 5).trans rfl, (blk_cell BK201.out 6).trans rfl, (blk_cell BK201.out 7).trans rfl, (blk_cell BK201.out 8).trans rfl, (blk_cell BK201.out 9).trans rfl, (blk_cell BK201.out 10).trans rfl, (blk_cell BK201.out 11).trans rfl, (blk_cell BK201.out 12).trans rfl, (blk_cell BK201.out 13).trans rfl, (blk_cell BK201.out 14).trans rfl⟩ (fun hHeld => ?_); refine with_tabW store_Copy.tab2 store_Copy.bits2 (fun HT_ HW_ => ?_)
  generalize w12.drew = w13 at HO205 BK201 BK202 HB hHeld ⊢
  refine pure_ (i := 0) (N := some 7) (v := ?_) (a' := ?_) #[true, false, false, false, false, false, false, false, false, false, false, false, false, false] rfl rfl (any_of HT_.out (by kernel_rfl)) (fun _ _ _ h => h) (Or.inl ⟨by rfl, ?_⟩) ?_ ?_
  rotate_left
  · intro w'
    go_simp
    with_reducible rfl
  rotate_left
  · simp only [Act.put, List.setIfInBounds_toArray, List.set_cons_zero, List.set_cons_succ, i64_w, i32_w]
    rfl
  refine pure_ (i := 1) (N := some 8) (v := ?_) (a' := ?_) #[true, true, false, false, false, false, false, false, false, false, false, false, false, false] rfl rfl (any_of HT_.out (by kernel_rfl)) (fun _ _ _ h => h) (Or.inl ⟨by rfl, ?_⟩) ?_ ?_
  rotate_left
  · intro w'
    go_simp
    with_reducible rfl
  rotate_left
  · simp only [Act.put, List.setIfInBounds_toArray, List.set_cons_zero, List.set_cons_succ, i64_w, i32_w]
    rfl
  refine pure_ (i := 4) (N := some 11) (v := ?_) (a' := ?_) #[true, true, false, false, true, false, false, false, false, false, false, false, false, false] rfl rfl (any_of HT_.out (by kernel_rfl)) (fun _ _ _ h => h) (Or.inl ⟨by rfl, ?_⟩) ?_ ?_
  rotate_left
  · intro w'
    go_simp
    with_reducible rfl
  rotate_left
  · simp only [Act.put, List.setIfInBounds_toArray, List.set_cons_zero, List.set_cons_succ, i64_w, i32_w]
    rfl
  refine pure_ (i := 5) (N := some 12) (v := ?_) (a' := ?_) #[true, true, false, false, true, true, false, false, false, false, false, false, false, false] rfl rfl (any_of HT_.out (by kernel_rfl)) (fun _ _ _ h => h) (Or.inl ⟨by rfl, ?_⟩) ?_ ?_
  rotate_left
  · intro w'
    go_simp
    with_reducible rfl
  rotate_left
  · simp only [Act.put, List.setIfInBounds_toArray, List.set_cons_zero, List.set_cons_succ, i64_w, i32_w]
    rfl
  refine take_ (i := 2) (N := some 9) (v := ?_) (a' := ?_) #[true, true, true, false, true, true, false, false, false, false, false, false, false, false] rfl rfl (take_ofW HT_.out HW_.out (by kernel_rfl)) (fun _ _ _ h => h) (Or.inl ⟨by rfl, ?_⟩) hHeld ?_ ?_
  rotate_left
  · rintro w' ⟨s0, s1, s2, s3, s4, s5, s6, s7, s8, s9, s10, s11, s12, s13, s14⟩
    go_simp
    with_reducible rfl
  rotate_left
  · simp only [Act.put, List.setIfInBounds_toArray, List.set_cons_zero, List.set_cons_succ, i64_w, i32_w]
    rfl
  refine take_ (i := 6) (N := some 13) (v := ?_) (a' := ?_) #[true, true, true, false, true, true, true, false, false, false, false, false, false, false] rfl rfl (take_ofW HT_.out HW_.out (by kernel_rfl)) (fun _ _ _ h => h) (Or.inl ⟨by rfl, ?_⟩) hHeld ?_ ?_
  rotate_left
  · rintro w' ⟨s0, s1, s2, s3, s4, s5, s6, s7, s8, s9, s10, s11, s12, s13, s14⟩
    go_simp
    with_reducible rfl
  rotate_left
  · simp only [Act.put, List.setIfInBounds_toArray, List.set_cons_zero, List.set_cons_succ, i64_w, i32_w]
    rfl
  refine one_ (i := 3) (N := some 10) #[true, true, true, true, true, true, true, false, false, false, false, false, false, false] rfl rfl (one_of HT_.out (by kernel_rfl)) (by decide) (fun K hK => ?_)
  refine goes_ Try.func26 (by kernel_rfl) rfl #[.slice A0_8 l0_8.length c0_8] (by rfl) rfl rfl (by (try simp only [List.map_toArray, List.map_cons, List.map_nil]); first | done | rfl | (simp only [List.length_drop, List.length_take]; rfl)) ?_
  with_reducible refine (slices_Clone_api_Field_api_Field.calls _ _ l0_8 t206 _ ?side1 ?side2 A3.out).mono ?_
  (case side1 => repeat (first | exact (Kd.C_below HR0_8.out HB.out) | (with_reducible refine Kd.C_alloc ?_ _) | (with_reducible refine Kd.C_drewN ?_ _) | (with_reducible refine Kd.C_drew ?_)))
  (case side2 => exact HC0_8.out)
  rintro e w14 ⟨v207, rfl, ho0, hb⟩
  refine ⟨_, rfl, ?_⟩
  have n0_ := Aside0.mk (Kd.R_below (by (with_reducible repeat (first | apply Kd.R_alloc | apply Kd.R_drewN | apply Kd.R_drew)); exact HO205.out) hb)
  have n1_ := Aside0.mk (Kd.R_lower ho0 (below_size (by repeat (first | (with_reducible first | exact HB.out | apply below_alloc | apply pw_below_drewN | apply below_drew1 | refine below_set ?_ GE201.out | refine below_set ?_ GE202.out) | exact HB.out))))
  have n2_ := Aside0.mk (blk_below (g := gb201) (o := .cells #[.string a0_0, .slice Ao10 t203.length co10, .string a0_2, .string a0_3, .string a0_4, .int .i64 a0_5, .string a0_6, .int .i64 a0_7, .slice A0_8 l0_8.length c0_8, .string a0_9, .slice A0_10 l0_10.length c0_10, .int .i64 a0_11, .int .i64 a0_12, .int .i64 a0_13, .int .i64 a0_14] 34 (0, 0)) (by (with_reducible repeat (first | refine blk_drewN ?_ _ | refine blk_drew ?_ | refine blk_alloc ?_ _)); exact BK201.out) hb)
  have n3_ := Aside0.mk (blk_below (g := gb202) (o := .cells #[.string (⟨#[]⟩ : ByteArray), .slice none 0 0, .string (⟨#[]⟩ : ByteArray), .string (⟨#[]⟩ : ByteArray), .string (⟨#[]⟩ : ByteArray), .int .i64 0, .string (⟨#[]⟩ : ByteArray), .int .i64 0, .slice none 0 0, .string (⟨#[]⟩ : ByteArray), .slice none 0 0, .int .i64 0, .int .i64 0, .int .i64 0, .int .i64 0] 34 (0, 0)) (by (with_reducible repeat (first | refine blk_drewN ?_ _ | refine blk_drew ?_ | refine blk_alloc ?_ _)); exact BK202.out) hb)
  have n4_ := Aside0.mk (below_step (by repeat (first | (with_reducible first | exact HB.out | apply below_alloc | apply pw_below_drewN | apply below_drew1 | refine below_set ?_ GE201.out | refine below_set ?_ GE202.out) | exact HB.out)) hb)
  clear HO205
  clear BK201
  clear BK202
  clear HB
  have HO205 := n0_
  have HO208 := n1_
  have BK201 := n2_
  have BK202 := n3_
  have HB := n4_
  clear n0_ n1_ n2_ n3_ n4_
  (try clear hb)
  (try clear hb2)
  (try clear hk)
  (try clear hi)
  (try clear ho0)
  refine hK.out _ _ ⟨(blk_cell BK201.out 0).trans rfl, (blk_cell BK201.out 1).trans rfl, (blk_cell BK201.out 2).trans rfl, (blk_cell BK201.out 3).trans rfl, (blk_cell BK201.out 4).trans rfl, (blk_cell BK201.out 5).trans rfl, (blk_cell BK201.out 6).trans rfl, (blk_cell BK201.out 7).trans rfl, (blk_cell BK201.out 8).trans rfl, (blk_cell BK201.out 9).trans rfl, (blk_cell BK201.out 10).trans rfl, (blk_cell BK201.out 11).trans rfl, (blk_cell BK201.out 12).trans rfl, (blk_cell BK201.out 13).trans rfl, (blk_cell BK201.out 14).trans rfl⟩ (fun hHeld => ?_)
  clear hK K
  refine norm_ (a' := ?_) ?_ ?_
  rotate_left
  · show Act.put _ (some 10) _ = _
    simp only [Act.put, List.setIfInBounds_toArray, List.set_cons_zero, List.set_cons_succ, i64_w, i32_w]
    rfl
  refine pure_ (i := 8) (N := some 15) (v := ?_) (a' := ?_) #[true, true, true, true, true, true, true, false, true, false, false, false, false, false] rfl rfl (any_of HT_.out (by kernel_rfl)) (fun _ _ _ h => h) (Or.inl ⟨by rfl, ?_⟩) ?_ ?_
  rotate_left
  · intro w'
    go_simp
    with_reducible rfl
  rotate_left
  · simp only [Act.put, List.setIfInBounds_toArray, List.set_cons_zero, List.set_cons_succ, i64_w, i32_w]
    rfl
  refine pure_ (i := 9) (N := some 16) (v := ?_) (a' := ?_) #[true, true, true, true, true, true, true, false, true, true, false, false, false, false] rfl rfl (any_of HT_.out (by kernel_rfl)) (fun _ _ _ h => h) (Or.inl ⟨by rfl, ?_⟩) ?_ ?_
  rotate_left
  · intro w'
    go_simp
    with_reducible rfl
  rotate_left
  · simp only [Act.put, List.setIfInBounds_toArray, List.set_cons_zero, List.set_cons_succ, i64_w, i32_w]
    rfl
  refine one_ (i := 7) (N := some 14) #[true, true, true, true, true, true, true, true, true, true, false, false, false, false] rfl rfl (one_of HT_.out (by kernel_rfl)) (by decide) (fun K hK => ?_)
  refine goes_ Try.func26 (by kernel_rfl) rfl #[.slice A0_10 l0_10.length c0_10] (by rfl) rfl rfl (by (try simp only [List.map_toArray, List.map_cons, List.map_nil]); first | done | rfl | (simp only [List.length_drop, List.length_take]; rfl)) ?_
  with_reducible refine (slices_Clone_api_Field_api_Field.calls _ _ l0_10 t209 _ ?side1 ?side2 A4.out).mono ?_
  (case side1 => repeat (first | exact (Kd.C_below HR0_10.out HB.out) | (with_reducible refine Kd.C_alloc ?_ _) | (with_reducible refine Kd.C_drewN ?_ _) | (with_reducible refine Kd.C_drew ?_)))
  (case side2 => exact HC0_10.out)
  rintro e w15 ⟨v210, rfl, ho0, hb⟩
  refine ⟨_, rfl, ?_⟩
  have n0_ := Aside0.mk (Kd.R_below (by (with_reducible repeat (first | apply Kd.R_alloc | apply Kd.R_drewN | apply Kd.R_drew)); exact HO205.out) hb)
  have n1_ := Aside0.mk (Kd.R_elder' (by (with_reducible repeat (first | apply Kd.R_alloc | apply Kd.R_drewN | apply Kd.R_drew)); exact HO208.out) (Kd.R_base ho0) hb)
  have n2_ := Aside0.mk (Kd.R_lower (Kd.R_new' ho0 (Kd.R_lt (by (with_reducible repeat (first | apply Kd.R_alloc | apply Kd.R_drewN | apply Kd.R_drew)); exact HO208.out))) (below_size (by repeat (first | (with_reducible first | exact HB.out | apply below_alloc | apply pw_below_drewN | apply below_drew1 | refine below_set ?_ GE201.out | refine below_set ?_ GE202.out) | exact HB.out))))
  have n3_ := Aside0.mk (blk_below (g := gb201) (o := .cells #[.string a0_0, .slice Ao10 t203.length co10, .string a0_2, .string a0_3, .string a0_4, .int .i64 a0_5, .string a0_6, .int .i64 a0_7, .slice A0_8 l0_8.length c0_8, .string a0_9, .slice A0_10 l0_10.length c0_10, .int .i64 a0_11, .int .i64 a0_12, .int .i64 a0_13, .int .i64 a0_14] 34 (0, 0)) (by (with_reducible repeat (first | refine blk_drewN ?_ _ | refine blk_drew ?_ | refine blk_alloc ?_ _)); exact BK201.out) hb)
  have n4_ := Aside0.mk (blk_below (g := gb202) (o := .cells #[.string (⟨#[]⟩ : ByteArray), .slice none 0 0, .string (⟨#[]⟩ : ByteArray), .string (⟨#[]⟩ : ByteArray), .string (⟨#[]⟩ : ByteArray), .int .i64 0, .string (⟨#[]⟩ : ByteArray), .int .i64 0, .slice none 0 0, .string (⟨#[]⟩ : ByteArray), .slice none 0 0, .int .i64 0, .int .i64 0, .int .i64 0, .int .i64 0] 34 (0, 0)) (by (with_reducible repeat (first | refine blk_drewN ?_ _ | refine blk_drew ?_ | refine blk_alloc ?_ _)); exact BK202.out) hb)
  have n5_ := Aside0.mk (below_step (by repeat (first | (with_reducible first | exact HB.out | apply below_alloc | apply pw_below_drewN | apply below_drew1 | refine below_set ?_ GE201.out | refine below_set ?_ GE202.out) | exact HB.out)) hb)
  clear HO205
  clear HO208
  clear BK201
  clear BK202
  clear HB
  have HO205 := n0_
  have HO208 := n1_
  have HO211 := n2_
  have BK201 := n3_
  have BK202 := n4_
  have HB := n5_
  clear n0_ n1_ n2_ n3_ n4_ n5_
  (try clear hb)
  (try clear hb2)
  (try clear hk)
  (try clear hi)
  (try clear ho0)
  obtain ⟨Ao16, co16, eo16⟩ := Kd.R_slice HO208.out
  (first | subst eo16 | (injection eo16 with f1_ f2_ f3_; have f4_ := f1_.symm; have f5_ := f3_.symm; clear f1_ f2_ f3_; subst f4_; subst f5_))
  obtain ⟨Ao18, co18, eo18⟩ := Kd.R_slice HO211.out
  (first | subst eo18 | (injection eo18 with f1_ f2_ f3_; have f4_ := f1_.symm; have f5_ := f3_.symm; clear f1_ f2_ f3_; subst f4_; subst f5_))
  refine hK.out _ _ ⟨(blk_cell BK201.out 0).trans rfl, (blk_cell BK201.out 1).trans rfl, (blk_cell BK201.out 2).trans rfl, (blk_cell BK201.out 3).trans rfl, (blk_cell BK201.out 4).trans rfl, (blk_cell BK201.out 5).trans rfl, (blk_cell BK201.out 6).trans rfl, (blk_cell BK201.out 7).trans rfl, (blk_cell BK201.out 8).trans rfl, (blk_cell BK201.out 9).trans rfl, (blk_cell BK201.out 10).trans rfl, (blk_cell BK201.out 11).trans rfl, (blk_cell BK201.out 12).trans rfl, (blk_cell BK201.out 13).trans rfl, (blk_cell BK201.out 14).trans rfl⟩ (fun hHeld => ?_)
  clear hK K
  refine norm_ (a' := ?_) ?_ ?_
  rotate_left
  · show Act.put _ (some 14) _ = _
    simp only [Act.put, List.setIfInBounds_toArray, List.set_cons_zero, List.set_cons_succ, i64_w, i32_w]
    rfl
  refine last_ (i := 10) (N := none) #[true, true, true, true, true, true, true, true, true, true, true, false, false, false] rfl rfl (one_of HT_.out (by kernel_rfl)) (by decide) (fun K hK => ?_)
  have hs17 : w15.cell? ⟨gb201, 8, none⟩ = some (.slice A0_8 l0_8.length c0_8) := (blk_cell BK201.out 8).trans rfl
  have hfs17 := blk_frozen BK201.out 8
  have hns17_1 := NB202_201.out
  have hms17_1 := NB201_202.out
  refine skip_ (w1 := ?_) (by rfl) rfl ?_ ?_
  rotate_left
  · go_simp
    rfl
  refine hK.out _ _ ?_
  clear hK K
  refine pure_ (i := 11) (N := some 17) (v := ?_) (a' := ?_) #[true, true, true, true, true, true, true, true, true, true, true, true, false, false] rfl rfl (any_of HT_.out (by kernel_rfl)) (fun _ _ _ h => h) (Or.inl ⟨by rfl, ?_⟩) ?_ ?_
  rotate_left
  · intro w'
    go_simp
    with_reducible rfl
  rotate_left
  · simp only [Act.put, List.setIfInBounds_toArray, List.set_cons_zero, List.set_cons_succ, i64_w, i32_w]
    rfl
  refine pure_ (i := 12) (N := some 18) (v := ?_) (a' := ?_) #[true, true, true, true, true, true, true, true, true, true, true, true, true, false] rfl rfl (any_of HT_.out (by kernel_rfl)) (fun _ _ _ h => h) (Or.inl ⟨by rfl, ?_⟩) ?_ ?_
  rotate_left
  · intro w'
    go_simp
    with_reducible rfl
  rotate_left
  · simp only [Act.put, List.setIfInBounds_toArray, List.set_cons_zero, List.set_cons_succ, i64_w, i32_w]
    rfl
  refine last_ (i := 13) (N := none) #[true, true, true, true, true, true, true, true, true, true, true, true, true, true] rfl rfl (one_of HT_.out (by kernel_rfl)) (by decide) (fun K hK => ?_)
  have hs19 : w15.cell? ⟨gb201, 10, none⟩ = some (.slice A0_10 l0_10.length c0_10) := (blk_cell BK201.out 10).trans rfl
  have hfs19 := blk_frozen BK201.out 10
  have hns19_1 := NB202_201.out
  have hms19_1 := NB201_202.out
  refine skip_ (w1 := ?_) (by rfl) rfl ?_ ?_
  rotate_left
  · go_simp
    rfl
  refine hK.out _ _ ?_
  clear hK K
  refine done_ (done_of HT_.out (by kernel_rfl)) ?_
  have hcz20_0 : w15.cell? ⟨gb201, 0, none⟩ = some (.string a0_0) := (blk_cell BK201.out 0).trans rfl
  have hcz20_1 : w15.cell? ⟨gb201, 1, none⟩ = some (.slice Ao10 t203.length co10) := (blk_cell BK201.out 1).trans rfl
  have hcz20_2 : w15.cell? ⟨gb201, 2, none⟩ = some (.string a0_2) := (blk_cell BK201.out 2).trans rfl
  have hcz20_3 : w15.cell? ⟨gb201, 3, none⟩ = some (.string a0_3) := (blk_cell BK201.out 3).trans rfl
  have hcz20_4 : w15.cell? ⟨gb201, 4, none⟩ = some (.string a0_4) := (blk_cell BK201.out 4).trans rfl
  have hcz20_5 : w15.cell? ⟨gb201, 5, none⟩ = some (.int .i64 a0_5) := (blk_cell BK201.out 5).trans rfl
  have hcz20_6 : w15.cell? ⟨gb201, 6, none⟩ = some (.string a0_6) := (blk_cell BK201.out 6).trans rfl
  have hcz20_7 : w15.cell? ⟨gb201, 7, none⟩ = some (.int .i64 a0_7) := (blk_cell BK201.out 7).trans rfl
  have hcz20_8 : w15.cell? ⟨gb201, 8, none⟩ = some (.slice A0_8 l0_8.length c0_8) := (blk_cell BK201.out 8).trans rfl
  have hcz20_9 : w15.cell? ⟨gb201, 9, none⟩ = some (.string a0_9) := (blk_cell BK201.out 9).trans rfl
  have hcz20_10 : w15.cell? ⟨gb201, 10, none⟩ = some (.slice A0_10 l0_10.length c0_10) := (blk_cell BK201.out 10).trans rfl
  have hcz20_11 : w15.cell? ⟨gb201, 11, none⟩ = some (.int .i64 a0_11) := (blk_cell BK201.out 11).trans rfl
  have hcz20_12 : w15.cell? ⟨gb201, 12, none⟩ = some (.int .i64 a0_12) := (blk_cell BK201.out 12).trans rfl
  have hcz20_13 : w15.cell? ⟨gb201, 13, none⟩ = some (.int .i64 a0_13) := (blk_cell BK201.out 13).trans rfl
  have hcz20_14 : w15.cell? ⟨gb201, 14, none⟩ = some (.int .i64 a0_14) := (blk_cell BK201.out 14).trans rfl
  have hfz20_0 := blk_frozen BK201.out 0
  have hfz20_1 := blk_frozen BK201.out 1
  have hfz20_2 := blk_frozen BK201.out 2
  have hfz20_3 := blk_frozen BK201.out 3
  have hfz20_4 := blk_frozen BK201.out 4
  have hfz20_5 := blk_frozen BK201.out 5
  have hfz20_6 := blk_frozen BK201.out 6
  have hfz20_7 := blk_frozen BK201.out 7
  have hfz20_8 := blk_frozen BK201.out 8
  have hfz20_9 := blk_frozen BK201.out 9
  have hfz20_10 := blk_frozen BK201.out 10
  have hfz20_11 := blk_frozen BK201.out 11
  have hfz20_12 := blk_frozen BK201.out 12
  have hfz20_13 := blk_frozen BK201.out 13
  have hfz20_14 := blk_frozen BK201.out 14
  have hcz21_0 : w15.cell? ⟨gb202, 0, none⟩ = some (.string (⟨#[]⟩ : ByteArray)) := (blk_cell BK202.out 0).trans rfl
  have hcz21_1 : w15.cell? ⟨gb202, 1, none⟩ = some (.slice none 0 0) := (blk_cell BK202.out 1).trans rfl
  have hcz21_2 : w15.cell? ⟨gb202, 2, none⟩ = some (.string (⟨#[]⟩ : ByteArray)) := (blk_cell BK202.out 2).trans rfl
  have hcz21_3 : w15.cell? ⟨gb202, 3, none⟩ = some (.string (⟨#[]⟩ : ByteArray)) := (blk_cell BK202.out 3).trans rfl
  have hcz21_4 : w15.cell? ⟨gb202, 4, none⟩ = some (.string (⟨#[]⟩ : ByteArray)) := (blk_cell BK202.out 4).trans rfl
  have hcz21_5 : w15.cell? ⟨gb202, 5, none⟩ = some (.int .i64 0) := (blk_cell BK202.out 5).trans rfl
  have hcz21_6 : w15.cell? ⟨gb202, 6, none⟩ = some (.string (⟨#[]⟩ : ByteArray)) := (blk_cell BK202.out 6).trans rfl
  have hcz21_7 : w15.cell? ⟨gb202, 7, none⟩ = some (.int .i64 0) := (blk_cell BK202.out 7).trans rfl
  have hcz21_8 : w15.cell? ⟨gb202, 8, none⟩ = some (.slice none 0 0) := (blk_cell BK202.out 8).trans rfl
  have hcz21_9 : w15.cell? ⟨gb202, 9, none⟩ = some (.string (⟨#[]⟩ : ByteArray)) := (blk_cell BK202.out 9).trans rfl
  have hcz21_10 : w15.cell? ⟨gb202, 10, none⟩ = some (.slice none 0 0) := (blk_cell BK202.out 10).trans rfl
  have hcz21_11 : w15.cell? ⟨gb202, 11, none⟩ = some (.int .i64 0) := (blk_cell BK202.out 11).trans rfl
  have hcz21_12 : w15.cell? ⟨gb202, 12, none⟩ = some (.int .i64 0) := (blk_cell BK202.out 12).trans rfl
  have hcz21_13 : w15.cell? ⟨gb202, 13, none⟩ = some (.int .i64 0) := (blk_cell BK202.out 13).trans rfl
  have hcz21_14 : w15.cell? ⟨gb202, 14, none⟩ = some (.int .i64 0) := (blk_cell BK202.out 14).trans rfl
  have hfz21_0 := blk_frozen BK202.out 0
  have hfz21_1 := blk_frozen BK202.out 1
  have hfz21_2 := blk_frozen BK202.out 2
  have hfz21_3 := blk_frozen BK202.out 3
  have hfz21_4 := blk_frozen BK202.out 4
  have hfz21_5 := blk_frozen BK202.out 5
  have hfz21_6 := blk_frozen BK202.out 6
  have hfz21_7 := blk_frozen BK202.out 7
  have hfz21_8 := blk_frozen BK202.out 8
  have hfz21_9 := blk_frozen BK202.out 9
  have hfz21_10 := blk_frozen BK202.out 10
  have hfz21_11 := blk_frozen BK202.out 11
  have hfz21_12 := blk_frozen BK202.out 12
  have hfz21_13 := blk_frozen BK202.out 13
  have hfz21_14 := blk_frozen BK202.out 14
  try go_wp2
  refine bodyPost_ret (results_cell_row rfl _ _ gb202 34 #[.string a0_0, .slice Ao10 t203.length co10, .string a0_2, .string a0_3, .string a0_4, .int .i64 a0_5, .string a0_6, .int .i64 a0_7, .slice Ao16 t206.length co16, .string a0_9, .slice Ao18 t209.length co18, .int .i64 a0_11, .int .i64 a0_12, .int .i64 a0_13, .int .i64 a0_14] (0, 0) _ rfl (by (with_reducible repeat (first | refine blk_drewN ?_ _ | refine blk_drew ?_ | refine blk_alloc ?_ _)); refine blk_put (cs := #[.string a0_0, .slice Ao10 t203.length co10, .string a0_2, .string a0_3, .string a0_4, .int .i64 a0_5, .string a0_6, .int .i64 a0_7, .slice Ao16 t206.length co16, .string a0_9, .slice Ao18 t209.length co18, .int .i64 a0_11, .int .i64 a0_12, .int .i64 a0_13, .int .i64 0]) ?_ 14 _ rfl; (with_reducible repeat (first | refine blk_drewN ?_ _ | refine blk_drew ?_ | refine blk_alloc ?_ _)); refine blk_put (cs := #[.string a0_0, .slice Ao10 t203.length co10, .string a0_2, .string a0_3, .string a0_4, .int .i64 a0_5, .string a0_6, .int .i64 a0_7, .slice Ao16 t206.length co16, .string a0_9, .slice Ao18 t209.length co18, .int .i64 a0_11, .int .i64 a0_12, .int .i64 0, .int .i64 0]) ?_ 13 _ rfl; (with_reducible repeat (first | refine blk_drewN ?_ _ | refine blk_drew ?_ | refine blk_alloc ?_ _)); refine blk_put (cs := #[.string a0_0, .slice Ao10 t203.length co10, .string a0_2, .string a0_3, .string a0_4, .int .i64 a0_5, .string a0_6, .int .i64 a0_7, .slice Ao16 t206.length co16, .string a0_9, .slice Ao18 t209.length co18, .int .i64 a0_11, .int .i64 0, .int .i64 0, .int .i64 0]) ?_ 12 _ rfl; (with_reducible repeat (first | refine blk_drewN ?_ _ | refine blk_drew ?_ | refine blk_alloc ?_ _)); refine blk_put (cs := #[.string a0_0, .slice Ao10 t203.length co10, .string a0_2, .string a0_3, .string a0_4, .int .i64 a0_5, .string a0_6, .int .i64 a0_7, .slice Ao16 t206.length co16, .string a0_9, .slice Ao18 t209.length co18, .int .i64 0, .int .i64 0, .int .i64 0, .int .i64 0]) ?_ 11 _ rfl; (with_reducible repeat (first | refine blk_drewN ?_ _ | refine blk_drew ?_ | refine blk_alloc ?_ _)); refine blk_put (cs := #[.string a0_0, .slice Ao10 t203.length co10, .string a0_2, .string a0_3, .string a0_4, .int .i64 a0_5, .string a0_6, .int .i64 a0_7, .slice Ao16 t206.length co16, .string a0_9, .slice none 0 0, .int .i64 0, .int .i64 0, .int .i64 0, .int .i64 0]) ?_ 10 _ rfl; (with_reducible repeat (first | refine blk_drewN ?_ _ | refine blk_drew ?_ | refine blk_alloc ?_ _)); refine blk_put (cs := #[.string a0_0, .slice Ao10 t203.length co10, .string a0_2, .string a0_3, .string a0_4, .int .i64 a0_5, .string a0_6, .int .i64 a0_7, .slice Ao16 t206.length co16, .string (⟨#[]⟩ : ByteArray), .slice none 0 0, .int .i64 0, .int .i64 0, .int .i64 0, .int .i64 0]) ?_ 9 _ rfl; (with_reducible repeat (first | refine blk_drewN ?_ _ | refine blk_drew ?_ | refine blk_alloc ?_ _)); refine blk_put (cs := #[.string a0_0, .slice Ao10 t203.length co10, .string a0_2, .string a0_3, .string a0_4, .int .i64 a0_5, .string a0_6, .int .i64 a0_7, .slice none 0 0, .string (⟨#[]⟩ : ByteArray), .slice none 0 0, .int .i64 0, .int .i64 0, .int .i64 0, .int .i64 0]) ?_ 8 _ rfl; (with_reducible repeat (first | refine blk_drewN ?_ _ | refine blk_drew ?_ | refine blk_alloc ?_ _)); refine blk_put (cs := #[.string a0_0, .slice Ao10 t203.length co10, .string a0_2, .string a0_3, .string a0_4, .int .i64 a0_5, .string a0_6, .int .i64 0, .slice none 0 0, .string (⟨#[]⟩ : ByteArray), .slice none 0 0, .int .i64 0, .int .i64 0, .int .i64 0, .int .i64 0]) ?_ 7 _ rfl; (with_reducible repeat (first | refine blk_drewN ?_ _ | refine blk_drew ?_ | refine blk_alloc ?_ _)); refine blk_put (cs := #[.string a0_0, .slice Ao10 t203.length co10, .string a0_2, .string a0_3, .string a0_4, .int .i64 a0_5, .string (⟨#[]⟩ : ByteArray), .int .i64 0, .slice none 0 0, .string (⟨#[]⟩ : ByteArray), .slice none 0 0, .int .i64 0, .int .i64 0, .int .i64 0, .int .i64 0]) ?_ 6 _ rfl; (with_reducible repeat (first | refine blk_drewN ?_ _ | refine blk_drew ?_ | refine blk_alloc ?_ _)); refine blk_put (cs := #[.string a0_0, .slice Ao10 t203.length co10, .string a0_2, .string a0_3, .string a0_4, .int .i64 0, .string (⟨#[]⟩ : ByteArray), .int .i64 0, .slice none 0 0, .string (⟨#[]⟩ : ByteArray), .slice none 0 0, .int .i64 0, .int .i64 0, .int .i64 0, .int .i64 0]) ?_ 5 _ rfl; (with_reducible repeat (first | refine blk_drewN ?_ _ | refine blk_drew ?_ | refine blk_alloc ?_ _)); refine blk_put (cs := #[.string a0_0, .slice Ao10 t203.length co10, .string a0_2, .string a0_3, .string (⟨#[]⟩ : ByteArray), .int .i64 0, .string (⟨#[]⟩ : ByteArray), .int .i64 0, .slice none 0 0, .string (⟨#[]⟩ : ByteArray), .slice none 0 0, .int .i64 0, .int .i64 0, .int .i64 0, .int .i64 0]) ?_ 4 _ rfl; (with_reducible repeat (first | refine blk_drewN ?_ _ | refine blk_drew ?_ | refine blk_alloc ?_ _)); refine blk_put (cs := #[.string a0_0, .slice Ao10 t203.length co10, .string a0_2, .string (⟨#[]⟩ : ByteArray), .string (⟨#[]⟩ : ByteArray), .int .i64 0, .string (⟨#[]⟩ : ByteArray), .int .i64 0, .slice none 0 0, .string (⟨#[]⟩ : ByteArray), .slice none 0 0, .int .i64 0, .int .i64 0, .int .i64 0, .int .i64 0]) ?_ 3 _ rfl; (with_reducible repeat (first | refine blk_drewN ?_ _ | refine blk_drew ?_ | refine blk_alloc ?_ _)); refine blk_put (cs := #[.string a0_0, .slice Ao10 t203.length co10, .string (⟨#[]⟩ : ByteArray), .string (⟨#[]⟩ : ByteArray), .string (⟨#[]⟩ : ByteArray), .int .i64 0, .string (⟨#[]⟩ : ByteArray), .int .i64 0, .slice none 0 0, .string (⟨#[]⟩ : ByteArray), .slice none 0 0, .int .i64 0, .int .i64 0, .int .i64 0, .int .i64 0]) ?_ 2 _ rfl; (with_reducible repeat (first | refine blk_drewN ?_ _ | refine blk_drew ?_ | refine blk_alloc ?_ _)); refine blk_put (cs := #[.string a0_0, .slice none 0 0, .string (⟨#[]⟩ : ByteArray), .string (⟨#[]⟩ : ByteArray), .string (⟨#[]⟩ : ByteArray), .int .i64 0, .string (⟨#[]⟩ : ByteArray), .int .i64 0, .slice none 0 0, .string (⟨#[]⟩ : ByteArray), .slice none 0 0, .int .i64 0, .int .i64 0, .int .i64 0, .int .i64 0]) ?_ 1 _ rfl; (with_reducible repeat (first | refine blk_drewN ?_ _ | refine blk_drew ?_ | refine blk_alloc ?_ _)); refine blk_put (cs := #[.string (⟨#[]⟩ : ByteArray), .slice none 0 0, .string (⟨#[]⟩ : ByteArray), .string (⟨#[]⟩ : ByteArray), .string (⟨#[]⟩ : ByteArray), .int .i64 0, .string (⟨#[]⟩ : ByteArray), .int .i64 0, .slice none 0 0, .string (⟨#[]⟩ : ByteArray), .slice none 0 0, .int .i64 0, .int .i64 0, .int .i64 0, .int .i64 0]) ?_ 0 _ rfl; (with_reducible repeat (first | refine blk_drewN ?_ _ | refine blk_drew ?_ | refine blk_alloc ?_ _)); refine blk_far ?_ NB202_201.out _; (with_reducible repeat (first | refine blk_drewN ?_ _ | refine blk_drew ?_ | refine blk_alloc ?_ _)); refine blk_far ?_ NB202_201.out _; (with_reducible repeat (first | refine blk_drewN ?_ _ | refine blk_drew ?_ | refine blk_alloc ?_ _)); exact BK202.out) Try.underlying34 rfl (by kernel_rfl)) rfl ?_
  exact ⟨_, _, _, by first | rfl | (simp [errW_none, errW_some] <;> rfl) | (simp [*, errW_none, errW_some] <;> rfl), by (with_reducible repeat (first | apply Kd.R_alloc | apply Kd.R_drewN | apply Kd.R_drew)); exact Kd.R_mono (Kd.R_far (p := ⟨gb202, 14, none⟩) (Kd.R_far (p := ⟨gb202, 13, none⟩) (Kd.R_far (p := ⟨gb202, 12, none⟩) (Kd.R_far (p := ⟨gb202, 11, none⟩) (Kd.R_far (p := ⟨gb202, 10, none⟩) (Kd.R_far (p := ⟨gb202, 9, none⟩) (Kd.R_far (p := ⟨gb202, 8, none⟩) (Kd.R_far (p := ⟨gb202, 7, none⟩) (Kd.R_far (p := ⟨gb202, 6, none⟩) (Kd.R_far (p := ⟨gb202, 5, none⟩) (Kd.R_far (p := ⟨gb202, 4, none⟩) (Kd.R_far (p := ⟨gb202, 3, none⟩) (Kd.R_far (p := ⟨gb202, 2, none⟩) (Kd.R_far (p := ⟨gb202, 1, none⟩) (Kd.R_far (p := ⟨gb202, 0, none⟩) (Kd.R_far (p := ⟨gb201, 10, none⟩) (Kd.R_far (p := ⟨gb201, 8, none⟩) (Kd.R_types (Kd.R_types HO205.out BK201.out (by decide)) BK202.out (by decide)) (fun _ hk => hk.1.2) (.slice Ao16 t206.length co16)) (fun _ hk => hk.1.2) (.slice Ao18 t209.length co18)) (fun _ hk => hk.2) (.string a0_0)) (fun _ hk => hk.2) (.slice Ao10 t203.length co10)) (fun _ hk => hk.2) (.string a0_2)) (fun _ hk => hk.2) (.string a0_3)) (fun _ hk => hk.2) (.string a0_4)) (fun _ hk => hk.2) (.int .i64 a0_5)) (fun _ hk => hk.2) (.string a0_6)) (fun _ hk => hk.2) (.int .i64 a0_7)) (fun _ hk => hk.2) (.slice Ao16 t206.length co16)) (fun _ hk => hk.2) (.string a0_9)) (fun _ hk => hk.2) (.slice Ao18 t209.length co18)) (fun _ hk => hk.2) (.int .i64 a0_11)) (fun _ hk => hk.2) (.int .i64 a0_12)) (fun _ hk => hk.2) (.int .i64 a0_13)) (fun _ hk => hk.2) (.int .i64 a0_14)) (fun _ hk => trivial), by (with_reducible repeat (first | apply Kd.R_alloc | apply Kd.R_drewN | apply Kd.R_drew)); exact Kd.R_mono (Kd.R_far (p := ⟨gb202, 14, none⟩) (Kd.R_far (p := ⟨gb202, 13, none⟩) (Kd.R_far (p := ⟨gb202, 12, none⟩) (Kd.R_far (p := ⟨gb202, 11, none⟩) (Kd.R_far (p := ⟨gb202, 10, none⟩) (Kd.R_far (p := ⟨gb202, 9, none⟩) (Kd.R_far (p := ⟨gb202, 8, none⟩) (Kd.R_far (p := ⟨gb202, 7, none⟩) (Kd.R_far (p := ⟨gb202, 6, none⟩) (Kd.R_far (p := ⟨gb202, 5, none⟩) (Kd.R_far (p := ⟨gb202, 4, none⟩) (Kd.R_far (p := ⟨gb202, 3, none⟩) (Kd.R_far (p := ⟨gb202, 2, none⟩) (Kd.R_far (p := ⟨gb202, 1, none⟩) (Kd.R_far (p := ⟨gb202, 0, none⟩) (Kd.R_far (p := ⟨gb201, 10, none⟩) (Kd.R_far (p := ⟨gb201, 8, none⟩) (Kd.R_types (Kd.R_types HO208.out BK201.out (by decide)) BK202.out (by decide)) (fun _ hk => hk.1.2) (.slice Ao16 t206.length co16)) (fun _ hk => hk.1.2) (.slice Ao18 t209.length co18)) (fun _ hk => hk.2) (.string a0_0)) (fun _ hk => hk.2) (.slice Ao10 t203.length co10)) (fun _ hk => hk.2) (.string a0_2)) (fun _ hk => hk.2) (.string a0_3)) (fun _ hk => hk.2) (.string a0_4)) (fun _ hk => hk.2) (.int .i64 a0_5)) (fun _ hk => hk.2) (.string a0_6)) (fun _ hk => hk.2) (.int .i64 a0_7)) (fun _ hk => hk.2) (.slice Ao16 t206.length co16)) (fun _ hk => hk.2) (.string a0_9)) (fun _ hk => hk.2) (.slice Ao18 t209.length co18)) (fun _ hk => hk.2) (.int .i64 a0_11)) (fun _ hk => hk.2) (.int .i64 a0_12)) (fun _ hk => hk.2) (.int .i64 a0_13)) (fun _ hk => hk.2) (.int .i64 a0_14)) (fun _ hk => hk.1.1.2), by (with_reducible repeat (first | apply Kd.R_alloc | apply Kd.R_drewN | apply Kd.R_drew)); exact Kd.R_mono (Kd.R_far (p := ⟨gb202, 14, none⟩) (Kd.R_far (p := ⟨gb202, 13, none⟩) (Kd.R_far (p := ⟨gb202, 12, none⟩) (Kd.R_far (p := ⟨gb202, 11, none⟩) (Kd.R_far (p := ⟨gb202, 10, none⟩) (Kd.R_far (p := ⟨gb202, 9, none⟩) (Kd.R_far (p := ⟨gb202, 8, none⟩) (Kd.R_far (p := ⟨gb202, 7, none⟩) (Kd.R_far (p := ⟨gb202, 6, none⟩) (Kd.R_far (p := ⟨gb202, 5, none⟩) (Kd.R_far (p := ⟨gb202, 4, none⟩) (Kd.R_far (p := ⟨gb202, 3, none⟩) (Kd.R_far (p := ⟨gb202, 2, none⟩) (Kd.R_far (p := ⟨gb202, 1, none⟩) (Kd.R_far (p := ⟨gb202, 0, none⟩) (Kd.R_far (p := ⟨gb201, 10, none⟩) (Kd.R_far (p := ⟨gb201, 8, none⟩) (Kd.R_types (Kd.R_types HO211.out BK201.out (by decide)) BK202.out (by decide)) (fun _ hk => hk.1.2) (.slice Ao16 t206.length co16)) (fun _ hk => hk.1.2) (.slice Ao18 t209.length co18)) (fun _ hk => hk.2) (.string a0_0)) (fun _ hk => hk.2) (.slice Ao10 t203.length co10)) (fun _ hk => hk.2) (.string a0_2)) (fun _ hk => hk.2) (.string a0_3)) (fun _ hk => hk.2) (.string a0_4)) (fun _ hk => hk.2) (.int .i64 a0_5)) (fun _ hk => hk.2) (.string a0_6)) (fun _ hk => hk.2) (.int .i64 a0_7)) (fun _ hk => hk.2) (.slice Ao16 t206.length co16)) (fun _ hk => hk.2) (.string a0_9)) (fun _ hk => hk.2) (.slice Ao18 t209.length co18)) (fun _ hk => hk.2) (.int .i64 a0_11)) (fun _ hk => hk.2) (.int .i64 a0_12)) (fun _ hk => hk.2) (.int .i64 a0_13)) (fun _ hk => hk.2) (.int .i64 a0_14)) (fun _ hk => hk.1.1.2), by repeat (first | (with_reducible first | exact HB.out | apply below_alloc | apply pw_below_drewN | apply below_drew1 | refine below_set ?_ GE201.out | refine below_set ?_ GE202.out) | exact HB.out)⟩

/-! ### slices_IndexFunc_api_Field_api_Field: function 43 -/
def fldV (x : S39) : Value := .agg #[.string x.f0, .string x.f1]
/-- What a function value answers of a field, wherever what it leans on stands: it makes memory and writes none. -/
def FldPred (g : Nat) (lb : Array Value) (p : S39 → Bool) (Inv : World → Prop) (l : List S39) : Prop :=
  ∀ (W : World) (x : S39), x ∈ l → Inv W → Calls Try.prog g (#[fldV x] ++ lb) W fun e W' => e = .returned (.bool (p x)) ∧ Below W.heap.size W W'
theorem fld_at {w W : World} {A : Option Addr} {l : List S39} (h : Kd.C k39 w A l.length l) (hb : Below w.heap.size w W) (k : Nat) (hk : k < l.length) : ∃ ad x, A = some ad ∧ l[k]? = some x ∧ W.cell? (ad.add (k * 2)) = some (.string x.f0) ∧ W.cell? ⟨(ad.add (k * 2)).block, (ad.add (k * 2)).off + 1, none⟩ = some (.string x.f1) := by
  obtain ⟨ad, e, h0, h1⟩ := at_T39 h (k : Int) (by omega) (by omega)
  have ek : ((k : Int)).toNat = k := by omega
  rw [ek] at h0 h1
  refine ⟨ad, rd_T39 l (k : Int), e, ?_, (hb.cell (World.block_lt_of_cell? w _ h0)).trans h0, (hb.cell (World.block_lt_of_cell? w _ h1)).trans h1⟩
  unfold rd_T39
  rw [ek, List.getD_eq_getElem?_getD, List.getElem?_eq_getElem hk]
  rfl
set_option maxHeartbeats 1000000 in
set_option maxRecDepth 100000 in
theorem fieldIndexFunc (g : Nat) (lb : Array Value) (eg : ∀ args w, (callFunc g args).run Try.prog w = .ok (.enter g args) w) (p : S39 → Bool) (Inv : World → Prop)
    (hI : ∀ W W', Inv W → Below W.heap.size W W' → Inv W') (A : Option Addr) (c : Nat) (l : List S39) (hp : FldPred g lb p Inv l) (w : World) (hr : Kd.C k39 w A l.length l) (hw : Inv w) :
    Calls Try.prog 43 #[.slice A l.length c, .func (.func g) #[] lb] w fun e w' => e = .returned (.int .i64 (idxL p l)) ∧ Below w.heap.size w w' := by
  have HP := Aside0.mk hp
  have HI := Aside0.mk hI
  have HR := Aside0.mk hr
  have HW := Aside0.mk hw
  have hbig := hr.2.1
  clear hp hI hr hw
  go_enter Try.func43, Try.ntmps43
  go_wp2
  go_loopw [8] (fun i wr => ∃ k : Nat, k ≤ l.length ∧ i = .int .i64 k ∧ Aside0 (∀ j y, j < k → l[j]? = some y → p y = false) ∧ Aside0 (Inv wr) ∧ Aside0 (Below w.heap.size w wr)) (fun i _ => l.length - (intOf i).toNat)
  case atStart => exact ⟨0, Nat.zero_le _, rfl, ⟨fun j y hj => by omega⟩, HW, ⟨Below.refl _ _⟩⟩
  case round =>
    obtain ⟨k, hk, rfl, hN, hV, hB⟩ := hrel
    by_cases hlt : k < l.length
    · obtain ⟨ad, x, rfl, hx, h0, h1⟩ := fld_at HR.out hB.out k hlt
      have HX := Aside0.mk hx
      have cS := HP.out wr x (List.mem_of_getElem? hx) hV.out
      clear hx
      unfold fldV at cS
      cases hpx : p x
      · rw [hpx] at cS
        have hpx' := Aside0.mk hpx
        clear hpx
        go_wp2_with (go_at_fn g; refine cS.mono ?_; rintro e W' ⟨rfl, hb⟩; have hb' := Aside0.mk hb; clear hb)
        go_roundw
        case rel => exact ⟨k + 1, by omega, by go_num, ⟨fun j y hj hy => by
          by_cases e : j = k
          · subst e; rw [HX.out] at hy; cases hy; exact hpx'.out
          · exact hN.out j y (by omega) hy⟩, ⟨HI.out _ _ hV.out hb'.out⟩, ⟨hB.out.trans (hb'.out.mono hB.out.size)⟩⟩
        case measure => simp [intOf]; omega
      · rw [hpx] at cS
        have hpx' := Aside0.mk hpx
        clear hpx
        go_wp2_with (go_at_fn g; refine cS.mono ?_; rintro e W' ⟨rfl, hb⟩; have hb' := Aside0.mk hb; clear hb)
        go_ret
        exact ⟨congrArg (fun z => Ending.returned (.int .i64 z)) (idxL_at hN.out HX.out hpx'.out).symm, hB.out.trans (hb'.out.mono hB.out.size)⟩
    · have hk' : k = l.length := by omega
      have HK := Aside0.mk hk'
      clear hk'
      go_wp2
      go_ret
      exact ⟨congrArg (fun z => Ending.returned (.int .i64 z)) (idxL_none (fun j y hj => hN.out j y (by rw [HK.out]; exact hj))).symm, hB.out⟩

/-! ### slices_DeleteFunc_api_Field_api_Field: function 25 -/
theorem fld_M {w1 w2 : World} {b : Nat} {P Q : Nat → Prop} {x : S39} {c : List Value} (h : (k39).M w1 b P x c) : (k39).M w2 b Q x c := by
  obtain rfl := k39_openM h
  exact k39_mkM _ _ _ _
def keepL {α : Type} (p : α → Bool) (l : List α) : List α := l.filter fun x => !p x
theorem keepL_all {α : Type} {p : α → Bool} {l : List α} (h : ∀ j y, j < l.length → l[j]? = some y → p y = false) : keepL p l = l := by
  unfold keepL
  rw [List.filter_eq_self]
  intro x hx
  obtain ⟨j, hj, rfl⟩ := List.getElem_of_mem hx
  rw [h j _ hj (List.getElem?_eq_getElem hj)]; rfl
/-- What the row holds when j elements have been looked at and i of them kept. -/
structure Sifted {α : Type} (p : α → Bool) (l cur : List α) (i j : Nat) : Prop where
  len : cur.length = l.length
  le : i ≤ j
  lt : i < l.length
  jle : j ≤ l.length
  kept : cur.take i = keepL p (l.take j)
  rest : ∀ q, j ≤ q → cur[q]? = l[q]?
theorem Sifted.drop {α : Type} {p : α → Bool} {l cur : List α} {i j : Nat} {x : α} (h : Sifted p l cur i j) (hx : l[j]? = some x) (hp : p x = true) : Sifted p l cur i (j + 1) := by
  have hj : j < l.length := (List.getElem?_eq_some_iff.1 hx).1
  refine ⟨h.len, by have := h.le; omega, h.lt, hj, ?_, fun q hq => h.rest q (by omega)⟩
  rw [h.kept, List.take_add_one, hx]
  unfold keepL
  simp [hp]
theorem Sifted.keep {α : Type} {p : α → Bool} {l cur : List α} {i j : Nat} {x : α} (h : Sifted p l cur i j) (hij : i < j) (hx : l[j]? = some x) (hp : p x = false) : Sifted p l (cur.set i x) (i + 1) (j + 1) := by
  have hj : j < l.length := (List.getElem?_eq_some_iff.1 hx).1
  refine ⟨by rw [List.length_set]; exact h.len, by have := h.le; omega, by omega, hj, ?_, fun q hq => ?_⟩
  · have hi : i < cur.length := by rw [h.len]; exact h.lt
    rw [List.take_add_one, List.getElem?_set_self hi, List.take_set_of_le (Nat.le_refl _), h.kept, List.take_add_one, hx]
    unfold keepL
    simp [hp]
  · rw [List.getElem?_set_ne (by omega)]
    exact h.rest q (by omega)
theorem fld_nil_or {e base : Nat} {ok : Nat → Prop} {v : Value} {l : List S39} {w : World} (h : Kd.R k39 e w base ok v l) (hl : 0 < l.length) : ∃ g cap, v = .slice (some ⟨g, 0, none⟩) l.length cap ∧ base ≤ g ∧ l.length ≤ cap ∧ ∃ cur : Array Value, w.heap[g]? = some (.cells cur e (0, 0)) ∧ cur.size = cap * 2 := by
  obtain ⟨_, inner, ho, _⟩ := h
  rcases ho.2 with ⟨_, hn⟩ | ⟨g, cap, cur, hv, hg, hh, hnc, hcm, hcs, _⟩
  · omega
  · exact ⟨g, cap, hv, hg, hnc, cur, hh, hcs⟩
theorem fld_zero (w : World) : (zeroValue 39).run Try.prog w = .ok (.agg #[.string ⟨#[]⟩, .string ⟨#[]⟩]) w := by kernel_rfl
set_option maxHeartbeats 2000000 in
set_option maxRecDepth 100000 in
theorem fieldDeleteFunc (g : Nat) (lb : Array Value) (eg : ∀ args w, (callFunc g args).run Try.prog w = .ok (.enter g args) w) (p : S39 → Bool) (Inv : World → Prop)
    (hI : ∀ W W', Inv W → Below W.heap.size W W' → Inv W') (v : Value) (l : List S39) (hp : FldPred g lb p Inv l) (base : Nat) (ok : Nat → Prop) (w : World)
    (ho : Kd.R k39 39 w base ok v l) (hb : base ≤ w.heap.size) (hI2 : ∀ W W', Inv W → W.grownBy W' v.ownBlock → Inv W') (hw : Inv w) :
    Calls Try.prog 25 #[v, .func (.func g) #[] lb] w fun e w' => ∃ v', e = .returned v' ∧ Kd.R k39 39 w' base ok v' (keepL p l) ∧ v'.ownBlock = v.ownBlock ∧ w.grownBy w' v.ownBlock := by
  have HP := Aside0.mk hp
  have HI := Aside0.mk hI
  have HI2 := Aside0.mk hI2
  have HO := Aside0.mk ho
  have HW := Aside0.mk hw
  have HBS := Aside0.mk hb
  clear hp hI hI2 ho hw hb
  obtain ⟨A, c, rfl, hlc, hC⟩ := Kd.R_reads HO.out
  have HC := Aside0.mk hC
  have hbig := hC.2.1
  clear hC
  have cI := fieldIndexFunc g lb eg p Inv HI.out A c l HP.out w HC.out HW.out
  by_cases hnone : ∀ j y, j < l.length → l[j]? = some y → p y = false
  · rw [idxL_none hnone] at cI
    have HN := Aside0.mk hnone
    clear hnone
    go_enter Try.func25, Try.ntmps25
    go_wp2_with (go_at_call 43; refine cI.mono ?_; rintro e W' ⟨rfl, hb⟩; have HB := Aside0.mk hb; clear hb)
    go_ret
    exact ⟨_, rfl, by rw [keepL_all HN.out]; exact Kd.R_below HO.out HB.out, rfl, grown_of_below HB.out _⟩
  · have hex : ∃ (k : Nat) (x : S39), l[k]? = some x ∧ p x = true ∧ ∀ j y, j < k → l[j]? = some y → p y = false := by
      refine Classical.byContradiction fun hn => hnone fun j y hj hy => ?_
      induction j using Nat.strongRecOn generalizing y with
      | _ j ih =>
        cases hpy : p y with
        | false => rfl
        | true => exact absurd ⟨j, y, hy, hpy, fun q z hq hz => ih q hq z (by omega) hz⟩ hn
    clear hnone
    obtain ⟨k, x, hx, hpx, hbefore⟩ := hex
    have hk : k < l.length := (List.getElem?_eq_some_iff.1 hx).1
    rw [idxL_at hbefore hx hpx] at cI
    obtain ⟨gB, cap, hv, hgb, hlcap, _⟩ := fld_nil_or HO.out (by omega)
    injection hv with hA _ hc
    subst hA
    subst hc
    have hS0 : Sifted p l l k (k + 1) := by
      refine ⟨rfl, by omega, hk, hk, ?_, fun q _ => rfl⟩
      rw [List.take_add_one, hx]
      unfold keepL
      have : (l.take k).filter (fun x => !p x) = l.take k := by
        rw [List.filter_eq_self]
        intro z hz
        obtain ⟨j, hj, rfl⟩ := List.getElem_of_mem hz
        rw [List.length_take] at hj
        rw [List.getElem_take]
        rw [hbefore j _ (by omega) (List.getElem?_eq_getElem (by omega))]; rfl
      simp [this, hpx]
    have HS0 := Aside0.mk hS0
    have hne1 : ((k : Int) == -1) = false := beq_eq_false_iff_ne.2 (by omega)
    clear hS0 hbefore hx hpx x
    go_enter Try.func25, Try.ntmps25
    go_wp2_with (go_at_call 43; refine cI.mono ?_; rintro e W' ⟨rfl, hb⟩; have HB := Aside0.mk hb; clear hb cI)
    go_loopw [5, 6] (fun vi vj wr => ∃ (i j : Nat) (cur : List S39), vi = .int .i64 i ∧ vj = .int .i64 j ∧ i ≤ l.length ∧ j ≤ l.length ∧ Aside0 (Sifted p l cur i j ∧ i < j) ∧ Aside0 (Kd.R k39 39 wr base ok (.slice (some ⟨gB, 0, none⟩) l.length c) cur) ∧ Aside0 (Inv wr) ∧ Aside0 (w.grownBy wr (some gB))) (fun _ vj _ => l.length - (intOf vj).toNat)
    case atStart => exact ⟨k, k + 1, l, rfl, by go_num, by omega, by omega, ⟨HS0.out, by omega⟩, ⟨Kd.R_below HO.out HB.out⟩, ⟨HI.out _ _ HW.out HB.out⟩, ⟨grown_of_below HB.out _⟩⟩
    case round =>
      clear HO HW HB HS0 hne1 HC
      obtain ⟨i, j, cur, rfl, rfl, hil, hjl, hS, hO, hV, hG⟩ := hrel
      by_cases hlt : j < l.length
      · have hC := (Kd.R_reads' hO.out).2.2
        obtain ⟨ad, x, had, hx0, h0, h1⟩ := fld_at (l := cur) hC (Below.refl _ _) j (by rw [hS.out.1.len]; exact hlt)
        injection had with had
        subst had
        have hx : l[j]? = some x := by rw [← hS.out.1.rest j (Nat.le_refl _)]; exact hx0
        rw [add0] at h0 h1
        have HX := Aside0.mk hx
        have hIB : Inv (wr.alloc (.cells #[.string x.f0, .string x.f1] 39 (0, 0))) := HI.out _ _ hV.out ((Below.refl _ _).alloc (Nat.le_refl _) _)
        have cS := HP.out _ x (List.mem_of_getElem? hx) hIB
        unfold fldV at cS
        clear hx hx0 hC hIB
        cases hpx : p x
        · rw [hpx] at cS
          have hpx' := Aside0.mk hpx
          clear hpx
          obtain ⟨ad2, y, had2, _, z0, z1⟩ := fld_at (l := cur) (Kd.R_reads' hO.out).2.2 (Below.refl _ _) i (by rw [hS.out.1.len]; exact hS.out.1.lt)
          injection had2 with had2
          subst had2
          rw [add0] at z0 z1
          have hcc := Aside0.mk (show ∀ (q : Nat) u, ([.string y.f0, .string y.f1] : List Value)[q]? = some u → wr.cell? ⟨gB, (i : Int).toNat * 2 + q, none⟩ = some u from fun q u hq => by
            match q, hq with
            | 0, hq => cases hq; rw [show (i : Int).toNat * 2 + 0 = i * 2 by omega]; exact z0
            | 1, hq => cases hq; rw [show (i : Int).toNat * 2 + 1 = i * 2 + 1 by omega]; exact z1
            | q + 2, hq => simp at hq)
          have hgl := Aside0.mk (World.block_lt_of_cell? wr _ z0)
          have hil' := hS.out.1.lt
          have hij' := hS.out.2
          clear z0 z1
          go_wp2_with (first | (go_at_fn g; refine cS.mono ?_; rintro e W' ⟨rfl, hb⟩; have hb' := Aside0.mk hb; have hc0 : W'.cell? ⟨wr.heap.size, 0, none⟩ = some (.string x.f0) := (hb.cell (p := ⟨wr.heap.size, 0, none⟩) (by simp)).trans (by simp); have hc1 : W'.cell? ⟨wr.heap.size, 1, none⟩ = some (.string x.f1) := (hb.cell (p := ⟨wr.heap.size, 1, none⟩) (by simp)).trans (by simp); have hO2 := Aside0.mk (Kd.R_below (by apply Kd.R_alloc; exact hO.out) hb); clear hb) | ((with_reducible refine gate_ (.store 39 (.tmp 33) (.tmp 32)) rfl ?_); refine Kd.R_store k39 (w0 := W') base rfl rfl 39 (.tmp 33) (.tmp 32) rfl 39 (i : Int) 0 cur x (fldV x) [.string x.f0, .string x.f1] [.string y.f0, .string y.f1] ok (fun _ => False) rfl ?hoff rfl rfl (by kernel_rfl) ?hone hO2.out ?hi0 ?hi1 rfl ?hcc (Nat.le_refl 2) (k39_mkM _ _ _ _) (fun _ h => h.elim) (Below.refl _ _) ?_; (case hoff => show i * 2 = (i : Int).toNat * 2 + 0; omega); (case hone => intro q hq; simp at hq; rcases hq with rfl | rfl <;> rfl); (case hi0 => omega); (case hi1 => omega); (case hcc => exact fun q u hq => (((Below.refl wr.heap.size wr).alloc (Nat.le_refl _) _).trans (hb'.out.mono (by simp))).cell (p := ⟨gB, (i : Int).toNat * 2 + q, none⟩) hgl.out |>.trans (hcc.out q u hq)); intro w1 hR hB1 hg1; have hR' := Aside0.mk hR; have hg' := Aside0.mk hg1; clear hR hB1 hg1))
          have hBt := Aside0.mk ((((Below.refl wr.heap.size wr).alloc (Nat.le_refl _) (.cells #[.string x.f0, .string x.f1] 39 (0, 0))).trans (hb'.out.mono (by simp))))
          go_roundw
          case rel => exact ⟨i + 1, j + 1, cur.set i x, by go_num, by go_num, by omega, by omega, ⟨hS.out.1.keep hS.out.2 HX.out hpx'.out, by omega⟩, ⟨by have := hR'.out; rw [Int.toNat_natCast] at this; exact this⟩, ⟨HI2.out _ _ (HI.out _ _ hV.out hBt.out) hg'.out⟩, ⟨grown_trans (grown_trans hG.out (grown_of_below hBt.out _)) hg'.out⟩⟩
          case measure => simp [intOf]; omega
        · rw [hpx] at cS
          have hpx' := Aside0.mk hpx
          clear hpx
          go_wp2_with (go_at_fn g; refine cS.mono ?_; rintro e W' ⟨rfl, hb⟩; have hb' := Aside0.mk hb; have hO2 := Aside0.mk (Kd.R_below (by apply Kd.R_alloc; exact hO.out) hb); clear hb)
          have hBt := Aside0.mk ((((Below.refl wr.heap.size wr).alloc (Nat.le_refl _) (.cells #[.string x.f0, .string x.f1] 39 (0, 0))).trans (hb'.out.mono (by simp))))
          go_roundw
          case rel => exact ⟨i, j + 1, cur, rfl, by go_num, by omega, by omega, ⟨hS.out.1.drop HX.out hpx'.out, by have := hS.out.2; omega⟩, hO2, ⟨HI.out _ _ hV.out hBt.out⟩, ⟨grown_trans hG.out (grown_of_below hBt.out _)⟩⟩
          case measure => simp [intOf]; omega
      · have hj' : j = l.length := by omega
        have hi' := hS.out.1.lt
        obtain ⟨gg, cap, hv, _, _, cell, hcur, hcs⟩ := fld_nil_or hO.out (by rw [hS.out.1.len]; omega)
        injection hv with hv1 hv2 hv3
        injection hv1 with hv1
        injection hv1 with hv1
        subst hv1
        subst hv3
        have HJ := Aside0.mk hj'
        clear hj'
        have hcur' : cur.length = l.length := hS.out.1.len
        obtain ⟨zs, hzl, hcl⟩ := run_clear_any (P := Try.prog) wr 22 39 0 _ Try.underlying22 fld_zero (by intro q hq; have h_ : q ∈ ([.string ⟨#[]⟩, .string ⟨#[]⟩] : List Value) := hq; simp at h_; subst h_; rfl) gB (i * 2) (l.length - i) (c - i) (by omega)
          (fun q hq => by
            have hq' : q < (l.length - i) * 2 := hq
            rw [cell_of_row wr gB _ cell 39 (0, 0) hcur, Array.getElem?_eq_getElem (by omega)]; rfl) (fun q _ => blk_frozen hcur _)
        have HZ := Aside0.mk (show zs.length = (l.length - i) * 2 from hzl)
        have HV := Aside0.mk hv2
        clear hzl hcur hcs hv2
        go_wp2
        go_ret
        refine ⟨_, rfl, ?_, rfl, grown_trans hG.out (grown_setCells _ _ _ _)⟩
        have e1 : keepL p l = cur.take i := by
          rw [hS.out.1.kept, HJ.out, List.take_length]
        rw [e1]
        exact R_beyond (Kd.R_take hO.out (by omega)) (fun _ _ _ _ _ h => fld_M h) (Nat.le_refl _) (by show i * 2 + zs.length ≤ c * 2; rw [HZ.out]; omega)

/-! ### slices_ContainsFunc_api_Field_api_Field: function 29 -/
set_option maxHeartbeats 1000000 in
set_option maxRecDepth 100000 in
theorem fieldContainsFunc (g : Nat) (lb : Array Value) (eg : ∀ args w, (callFunc g args).run Try.prog w = .ok (.enter g args) w) (p : S39 → Bool) (Inv : World → Prop)
    (hI : ∀ W W', Inv W → Below W.heap.size W W' → Inv W') (A : Option Addr) (c : Nat) (l : List S39) (hp : FldPred g lb p Inv l) (w : World) (hr : Kd.C k39 w A l.length l) (hw : Inv w) :
    Calls Try.prog 29 #[.slice A l.length c, .func (.func g) #[] lb] w fun e w' => e = .returned (.bool (l.any p)) ∧ Below w.heap.size w w' := by
  have cI := Aside0.mk (fieldIndexFunc g lb eg p Inv hI A c l hp w hr hw)
  have HA := Aside0.mk (idxL_any p l)
  generalize idxL p l = z at cI HA
  generalize l.any p = b at HA
  clear hp hI hr hw
  go_enter Try.func29, Try.ntmps29
  go_wp2_with (go_at_call 43; refine cI.out.mono ?_; rintro e w' ⟨rfl, hb⟩; have hb' := Aside0.mk hb; clear hb)
  go_ret
  exact ⟨congrArg (fun z => Ending.returned (.bool z)) HA.out, hb'.out⟩

/-! ### revise_Update: function 10 -/
def keepN : List ByteArray := [(⟨#[67, 111, 110, 116, 101, 110, 116, 45, 76, 101, 110, 103, 116, 104]⟩ : ByteArray), (⟨#[67, 111, 110, 116, 101, 110, 116, 45, 69, 110, 99, 111, 100, 105, 110, 103]⟩ : ByteArray), (⟨#[67, 111, 110, 116, 101, 110, 116, 45, 84, 121, 112, 101]⟩ : ByteArray), (⟨#[67, 111, 110, 116, 101, 110, 116, 45, 82, 97, 110, 103, 101]⟩ : ByteArray)]
def keepB (s : ByteArray) : Bool := hopB s || keepN.any fun x => sameB x s
theorem revise_Keep_ok {s : ByteArray} (hs : s.size ≤ 4611686018427387904) : revise_Keep.f s = some (keepB s) := by
  unfold revise_Keep.f hop_Hop.f revise_named.f keepB
  rw [if_pos hs, Option.bind_some]
  cases hopB s with
  | true => rfl
  | false =>
    rw [if_neg (by decide), if_pos ⟨hs, by decide⟩]
    rfl
theorem revise_Update_1 (l : List S39) (hl : ∀ x ∈ l, x.f0.size ≤ 4611686018427387904) : FldPred 27 #[] (fun x => keepB x.f0) (fun _ => True) l := by
  intro W x hx _
  have cT := Aside0.mk (fun W => revise_Keep.calls x.f0 _ W (revise_Keep_ok (hl x hx)))
  clear hl hx
  unfold fldV
  go_enter Try.func27, Try.ntmps27
  go_wp2_with (go_at_call 12; refine (cT.out _).mono ?_; rintro e w' ⟨rfl, hb⟩; have hb' := Aside0.mk hb; clear hb)
  go_ret
  exact ⟨rfl, ((Below.refl _ _).alloc (Nat.le_refl _) _).trans (hb'.out.mono (by simp))⟩
theorem revise_Update_2_1 (x : S39) (B : Nat) (l : List S39) (hx : x.f0.size ≤ 4611686018427387904) (hl : ∀ y ∈ l, y.f0.size ≤ 4611686018427387904) :
    FldPred 30 #[.pointer (some ⟨B, 0, none⟩)] (fun n => sameB n.f0 x.f0) (fun W => W.cell? ⟨B, 0, none⟩ = some (.string x.f0)) l := by
  intro W n hn hc
  have cT := Aside0.mk (fun W => token_Same.calls n.f0 x.f0 _ W (token_Same_ok (hl n hn) hx))
  have hlt := World.block_lt_of_cell? W _ hc
  clear hl hn
  unfold fldV
  go_enter Try.func30, Try.ntmps30
  go_wp2_with (go_at_call 19; refine (cT.out _).mono ?_; rintro e w' ⟨rfl, hb⟩; have hb' := Aside0.mk hb; clear hb)
  go_ret
  exact ⟨rfl, ((Below.refl _ _).alloc (Nat.le_refl _) _).trans (hb'.out.mono (by simp))⟩
theorem revise_Update_2 (BN : Nat) (vN : Value) (news : List S39) (base : Nat) (ok : Nat → Prop) (l : List S39) (hN : ∀ y ∈ news, y.f0.size ≤ 4611686018427387904) (hl : ∀ y ∈ l, y.f0.size ≤ 4611686018427387904) :
    FldPred 28 #[.pointer (some ⟨BN, 0, none⟩)] (fun x => news.any fun n => sameB n.f0 x.f0) (fun W => W.cell? ⟨BN, 0, none⟩ = some vN ∧ Kd.R k39 39 W base ok vN news) l := by
  intro W x hx ⟨hc, hR⟩
  obtain ⟨A, c, rfl, _, hC⟩ := Kd.R_reads hR
  have hlt := World.block_lt_of_cell? W _ hc
  have cC := Aside0.mk (fieldContainsFunc 30 #[.pointer (some ⟨W.heap.size, 0, none⟩)] (enters_of Try.func30 (by kernel_rfl) rfl) (fun n => sameB n.f0 x.f0) (fun W' => W'.cell? ⟨W.heap.size, 0, none⟩ = some (.string x.f0))
    (fun W1 W2 h hb => (hb.cell (p := ⟨W.heap.size, 0, none⟩) (World.block_lt_of_cell? W1 _ h)).trans h) A c news (revise_Update_2_1 x W.heap.size news (hl x hx) hN) (W.alloc (.cells #[.string x.f0, .string x.f1] 39 (0, 0))) (Kd.C_alloc hC _) (by simp))
  clear hN hl hx hC hR
  unfold fldV
  go_enter Try.func28, Try.ntmps28
  go_wp2_with (go_at_call 29; refine cC.out.mono ?_; rintro e w' ⟨rfl, hb⟩; have hb' := Aside0.mk hb; clear hb)
  go_ret
  exact ⟨rfl, ((Below.refl _ _).alloc (Nat.le_refl _) _).trans (hb'.out.mono (by simp))⟩
def newsF (m : List (S39)) : List (S39) := keepL (fun x => keepB x.f0) m
def updF (l m : List (S39)) : List (S39) := keepL (fun x => (newsF m).any fun n => sameB n.f0 x.f0) l ++ newsF m
def fldsB (l : List (S39)) : Bool := decide (l.length < 1073741824) && l.all fun x => decide (x.f0.size ≤ 4611686018427387904)
theorem fldsB_iff {l : List (S39)} (h : fldsB l = true) : l.length < 1073741824 ∧ ∀ x ∈ l, x.f0.size ≤ 4611686018427387904 := by
  unfold fldsB at h
  simp at h
  exact h
theorem newsF_le {m : List (S39)} (h : ∀ x ∈ m, x.f0.size ≤ 4611686018427387904) : ∀ y ∈ newsF m, y.f0.size ≤ 4611686018427387904 := fun y hy => h y (List.mem_filter.1 hy).1
theorem appendFits {l m : List (S39)} {p : S39 → Bool} (hl : l.length < 1073741824) (hm : m.length < 1073741824) : ((keepL p l).length + (newsF m).length) * 32 ≤ 140737488355328 := by
  have h1 : (keepL p l).length ≤ l.length := List.length_filter_le _ _
  have h2 : (newsF m).length ≤ m.length := List.length_filter_le _ _
  omega
theorem setGrown (w : World) (g i : Nat) (v : Value) : w.grownBy (w.setCell ⟨g, i, none⟩ v) (some g) :=
  ⟨rfl, rfl, rfl, by simp [World.setCell], fun k _ hk => Below.heap_setCell w ⟨g, i, none⟩ v k (fun e => hk (by rw [e]))⟩
section
variable {P : Program} {ops : Array Oper} {rest : List Oper} {o : Oper} {a : Act} {Q : Exit → Act → World → Prop}
theorem stored_event {W w1 : World} (hgd : o.guard = none) {t : TypeId} {p : Tmp} {v : Operand} (ho : o.op = .store t (.tmp p) v) (hN : o.dst = none) {g : Nat} {cs : Array Value} {T : TypeId}
    (hrun : (execOp a.eval o).run P W = .ok .skip w1) (hw : W.grownBy w1 (some g)) (hb : w1.heap[g]? = some (.cells cs T (0, 0)))
    (h : ∀ w', W.grownBy w' (some g) → w'.heap[g]? = some (.cells cs T (0, 0)) → wpList P ops Q rest a w') : wpList P ops Q (o :: rest) a W :=
  store_event hgd ho hN hrun (fun w' e => by subst e; exact h _ hw hb)
end
def revise_Update.f (a0_0 : ByteArray) (l0_1 : List ByteArray) (a0_2 : ByteArray) (a0_3 : ByteArray) (a0_4 : ByteArray) (a0_5 : Int) (a0_6 : ByteArray) (a0_7 : Int) (l0_8 : List (S39)) (a0_9 : ByteArray) (l0_10 : List (S39)) (a0_11 : Int) (a0_12 : Int) (a0_13 : Int) (a0_14 : Int) (a1_0 : ByteArray) (a1_1 : ByteArray) (a1_2 : Int) (a1_3 : ByteArray) (a1_4 : Int) (l1_5 : List (S39)) (a1_6 : ByteArray) (l1_7 : List (S39)) (a2_0 : Int) (a2_1 : Int) (a2_2 : Int) (a2_3 : Int) : Option (ByteArray × List ByteArray × ByteArray × ByteArray × ByteArray × Int × ByteArray × Int × (List (S39)) × ByteArray × (List (S39)) × Int × Int × Int × Int) := if l0_1.length < 1073741824 ∧ fldsB l0_8 = true ∧ fldsB l0_10 = true ∧ fldsB l1_5 = true then some (a0_0, l0_1, a0_2, a0_3, a0_4, a0_5, a0_6, a0_7, updF l0_8 l1_5, a0_9, l0_10, a2_0, a2_1, a2_2, a2_3) else none
set_option maxHeartbeats 4000000 in
set_option maxRecDepth 100000 in
theorem revise_Update.calls (a0_0 : ByteArray) (A0_1 : Option Addr) (c0_1 : Nat) (l0_1 : List ByteArray) (a0_2 : ByteArray) (a0_3 : ByteArray) (a0_4 : ByteArray) (a0_5 : Int) (a0_6 : ByteArray) (a0_7 : Int) (A0_8 : Option Addr) (c0_8 : Nat) (l0_8 : List (S39)) (a0_9 : ByteArray) (A0_10 : Option Addr) (c0_10 : Nat) (l0_10 : List (S39)) (a0_11 : Int) (a0_12 : Int) (a0_13 : Int) (a0_14 : Int) (a1_0 : ByteArray) (a1_1 : ByteArray) (a1_2 : Int) (a1_3 : ByteArray) (a1_4 : Int) (A1_5 : Option Addr) (c1_5 : Nat) (l1_5 : List (S39)) (a1_6 : ByteArray) (A1_7 : Option Addr) (c1_7 : Nat) (l1_7 : List (S39)) (a2_0 : Int) (a2_1 : Int) (a2_2 : Int) (a2_3 : Int) (r1 : ByteArray) (r2 : List ByteArray) (r3 : ByteArray) (r4 : ByteArray) (r5 : ByteArray) (r6 : Int) (r7 : ByteArray) (r8 : Int) (r9 : List (S39)) (r10 : ByteArray) (r11 : List (S39)) (r12 : Int) (r13 : Int) (r14 : Int) (r15 : Int) (w : World) (hr0_1 : Kd.C Kd.string w A0_1 l0_1.length l0_1) (hc0_1 : l0_1.length ≤ c0_1) (hr0_8 : Kd.C k39 w A0_8 l0_8.length l0_8) (hc0_8 : l0_8.length ≤ c0_8) (hr0_10 : Kd.C k39 w A0_10 l0_10.length l0_10) (hc0_10 : l0_10.length ≤ c0_10) (hr1_5 : Kd.C k39 w A1_5 l1_5.length l1_5) (hc1_5 : l1_5.length ≤ c1_5) (hr1_7 : Kd.C k39 w A1_7 l1_7.length l1_7) (hc1_7 : l1_7.length ≤ c1_7) (h : revise_Update.f a0_0 l0_1 a0_2 a0_3 a0_4 a0_5 a0_6 a0_7 l0_8 a0_9 l0_10 a0_11 a0_12 a0_13 a0_14 a1_0 a1_1 a1_2 a1_3 a1_4 l1_5 a1_6 l1_7 a2_0 a2_1 a2_2 a2_3 = some (r1, r2, r3, r4, r5, r6, r7, r8, r9, r10, r11, r12, r13, r14, r15)) :
    Calls Try.prog 10 #[.agg #[.string a0_0, .slice A0_1 l0_1.length c0_1, .string a0_2, .string a0_3, .string a0_4, .int .i64 a0_5, .string a0_6, .int .i64 a0_7, .slice A0_8 l0_8.length c0_8, .string a0_9, .slice A0_10 l0_10.length c0_10, .int .i64 a0_11, .int .i64 a0_12, .int .i64 a0_13, .int .i64 a0_14], .agg #[.string a1_0, .string a1_1, .int .i64 a1_2, .string a1_3, .int .i64 a1_4, .slice A1_5 l1_5.length c1_5, .string a1_6, .slice A1_7 l1_7.length c1_7], .agg #[.int .i64 a2_0, .int .i64 a2_1, .int .i64 a2_2, .int .i64 a2_3]] w fun e w' => ∃ v1_ v8_ v10_ : Value, e = .returned (.agg #[.string r1, v1_, .string r3, .string r4, .string r5, .int .i64 r6, .string r7, .int .i64 r8, v8_, .string r10, v10_, .int .i64 r12, .int .i64 r13, .int .i64 r14, .int .i64 r15]) ∧ Kd.R Kd.string 9 w' w.heap.size (fun _ => True) v1_ r2 ∧ Kd.R k39 39 w' w.heap.size (fun k_ => some k_ ≠ (v10_ : Value).ownBlock) v8_ r9 ∧ Kd.R k39 39 w' w.heap.size (fun k_ => some k_ ≠ (v8_ : Value).ownBlock) v10_ r11 ∧ Below w.heap.size w w' := by
  unfold revise_Update.f at h
  obtain ⟨⟨hn, h8, h10, h5⟩, hr⟩ := some_if h
  replace h8 := fldsB_iff h8
  replace h10 := fldsB_iff h10
  replace h5 := fldsB_iff h5
  replace hr := hr.symm
  simp only [Prod.mk.injEq] at hr
  obtain ⟨rfl, rfl, rfl, rfl, rfl, rfl, rfl, rfl, rfl, rfl, rfl, rfl, rfl, rfl, rfl⟩ := hr
  clear h
  have HN := Aside0.mk hn
  have H8 := Aside0.mk h8
  have H10 := Aside0.mk h10
  have H5 := Aside0.mk h5
  clear hn h8 h10 h5
  have HR0_1 := Aside0.mk hr0_1
  have HC0_1 := Aside0.mk hc0_1
  have HR0_8 := Aside0.mk hr0_8
  have HC0_8 := Aside0.mk hc0_8
  have HR0_10 := Aside0.mk hr0_10
  have HC0_10 := Aside0.mk hc0_10
  have HR1_5 := Aside0.mk hr1_5
  have HC1_5 := Aside0.mk hc1_5
  clear hr0_1 hc0_1 hr0_8 hc0_8 hr0_10 hc0_10 hr1_5 hc1_5 hr1_7 hc1_7
  have hCopy : store_Copy.f a0_0 l0_1 a0_2 a0_3 a0_4 a0_5 a0_6 a0_7 l0_8 a0_9 l0_10 a0_11 a0_12 a0_13 a0_14 = some (a0_0, l0_1, a0_2, a0_3, a0_4, a0_5, a0_6, a0_7, l0_8, a0_9, l0_10, a0_11, a0_12, a0_13, a0_14) := by
    unfold store_Copy.f slices_Clone_string_string.f slices_Clone_api_Field_api_Field.f
    rw [if_pos (by have := HN.out; omega), if_pos (by have := H8.out.1; omega), if_pos (by have := H10.out.1; omega)]
    rfl
  have HCopy := Aside0.mk hCopy
  clear hCopy
  have hClone : slices_Clone_api_Field_api_Field.f l1_5 = some l1_5 := by
    unfold slices_Clone_api_Field_api_Field.f
    rw [if_pos (by have := H5.out.1; omega)]
  have HClone := Aside0.mk hClone
  clear hClone
  have HB := Aside0.mk (Below.refl w.heap.size w)
  go_enter Try.func10, Try.ntmps10
  go_wp2_with (first | ((with_reducible refine gate_dst (N := 3) rfl ?_); refine box_event ?hg (N := 3) ?hd (cs := #[.string a0_0, .slice A0_1 l0_1.length c0_1, .string a0_2, .string a0_3, .string a0_4, .int .i64 a0_5, .string a0_6, .int .i64 a0_7, .slice A0_8 l0_8.length c0_8, .string a0_9, .slice A0_10 l0_10.length c0_10, .int .i64 a0_11, .int .i64 a0_12, .int .i64 a0_13, .int .i64 a0_14]) (t := 34) ?hr ?_; (case hd => rfl); (case hg => rfl); (case hr => first | (go_simp; done) | (go_simp; rfl)); intro g0 hg_ w0 hbox hb; have n0_ := Aside0.mk (below_step HB.out hb); have n1_ := Aside0.mk (hbox); have n2_ := Aside0.mk ((by rw [hg_]; exact below_size HB.out : w.heap.size ≤ g0)); clear HB; have HB := n0_; have BK0 := n1_; have GW0 := n2_; clear n0_ n1_ n2_; clear hb hbox hg_) | ((with_reducible refine gate_dst (N := 4) rfl ?_); refine box_event ?hg (N := 4) ?hd (cs := #[.string a1_0, .string a1_1, .int .i64 a1_2, .string a1_3, .int .i64 a1_4, .slice A1_5 l1_5.length c1_5, .string a1_6, .slice A1_7 l1_7.length c1_7]) (t := 30) ?hr ?_; (case hd => rfl); (case hg => rfl); (case hr => first | (go_simp; done) | (go_simp; rfl)); intro g1 hg_ w1 hbox hb; have n0_ := Aside0.mk (blk_below BK0.out hb); have n1_ := Aside0.mk (below_step HB.out hb); have n2_ := Aside0.mk (hbox); have n3_ := Aside0.mk ((by rw [hg_]; exact below_size HB.out : w.heap.size ≤ g1)); have n4_ := Aside0.mk ((by rw [hg_]; exact Nat.ne_of_lt (blk_lt BK0.out) : g0 ≠ g1)); clear BK0 HB; have BK0 := n0_; have HB := n1_; have BK1 := n2_; have GW1 := n3_; have NB0_1 := n4_; clear n0_ n1_ n2_ n3_ n4_; clear hb hbox hg_) | ((with_reducible refine gate_dst (N := 5) rfl ?_); refine box_event ?hg (N := 5) ?hd (cs := #[.int .i64 a2_0, .int .i64 a2_1, .int .i64 a2_2, .int .i64 a2_3]) (t := 32) ?hr ?_; (case hd => rfl); (case hg => rfl); (case hr => first | (go_simp; done) | (go_simp; rfl)); intro g2 hg_ w2 hbox hb; have n0_ := Aside0.mk (blk_below BK0.out hb); have n1_ := Aside0.mk (blk_below BK1.out hb); have n2_ := Aside0.mk (below_step HB.out hb); have n3_ := Aside0.mk (hbox); have n4_ := Aside0.mk ((by rw [hg_]; exact below_size HB.out : w.heap.size ≤ g2)); have n5_ := Aside0.mk ((by rw [hg_]; exact Nat.ne_of_lt (blk_lt BK0.out) : g0 ≠ g2)); have n6_ := Aside0.mk ((by rw [hg_]; exact Nat.ne_of_lt (blk_lt BK1.out) : g1 ≠ g2)); clear BK0 BK1 HB; have BK0 := n0_; have BK1 := n1_; have HB := n2_; have BK2 := n3_; have GW2 := n4_; have NB0_2 := n5_; have NB1_2 := n6_; clear n0_ n1_ n2_ n3_ n4_ n5_ n6_; clear hb hbox hg_) | ((with_reducible refine gate_dst (N := 6) rfl ?_); refine box_event ?hg (N := 6) ?hd (cs := #[.string (⟨#[]⟩ : ByteArray), .slice none 0 0, .string (⟨#[]⟩ : ByteArray), .string (⟨#[]⟩ : ByteArray), .string (⟨#[]⟩ : ByteArray), .int .i64 0, .string (⟨#[]⟩ : ByteArray), .int .i64 0, .slice none 0 0, .string (⟨#[]⟩ : ByteArray), .slice none 0 0, .int .i64 0, .int .i64 0, .int .i64 0, .int .i64 0]) (t := 34) ?hr ?_; (case hd => rfl); (case hg => rfl); (case hr => first | (go_simp; done) | (go_simp; rfl)); intro g3 hg_ w3 hbox hb; have n0_ := Aside0.mk (blk_below BK0.out hb); have n1_ := Aside0.mk (blk_below BK1.out hb); have n2_ := Aside0.mk (blk_below BK2.out hb); have n3_ := Aside0.mk (below_step HB.out hb); have n4_ := Aside0.mk (hbox); have n5_ := Aside0.mk ((by rw [hg_]; exact below_size HB.out : w.heap.size ≤ g3)); have n6_ := Aside0.mk ((by rw [hg_]; exact Nat.ne_of_lt (blk_lt BK0.out) : g0 ≠ g3)); have n7_ := Aside0.mk ((by rw [hg_]; exact Nat.ne_of_lt (blk_lt BK1.out) : g1 ≠ g3)); have n8_ := Aside0.mk ((by rw [hg_]; exact Nat.ne_of_lt (blk_lt BK2.out) : g2 ≠ g3)); clear BK0 BK1 BK2 HB; have BK0 := n0_; have BK1 := n1_; have BK2 := n2_; have HB := n3_; have BK3 := n4_; have GW3 := n5_; have NB0_3 := n6_; have NB1_3 := n7_; have NB2_3 := n8_; clear n0_ n1_ n2_ n3_ n4_ n5_ n6_ n7_ n8_; clear hb hbox hg_; have hcz1 : w3.cell? ⟨g0, 0, none⟩ = some (.string a0_0) := (blk_cell BK0.out 0).trans rfl; have hcz2 : w3.cell? ⟨g0, 1, none⟩ = some (.slice A0_1 l0_1.length c0_1) := (blk_cell BK0.out 1).trans rfl; have hcz3 : w3.cell? ⟨g0, 2, none⟩ = some (.string a0_2) := (blk_cell BK0.out 2).trans rfl; have hcz4 : w3.cell? ⟨g0, 3, none⟩ = some (.string a0_3) := (blk_cell BK0.out 3).trans rfl; have hcz5 : w3.cell? ⟨g0, 4, none⟩ = some (.string a0_4) := (blk_cell BK0.out 4).trans rfl; have hcz6 : w3.cell? ⟨g0, 5, none⟩ = some (.int .i64 a0_5) := (blk_cell BK0.out 5).trans rfl; have hcz7 : w3.cell? ⟨g0, 6, none⟩ = some (.string a0_6) := (blk_cell BK0.out 6).trans rfl; have hcz8 : w3.cell? ⟨g0, 7, none⟩ = some (.int .i64 a0_7) := (blk_cell BK0.out 7).trans rfl; have hcz9 : w3.cell? ⟨g0, 8, none⟩ = some (.slice A0_8 l0_8.length c0_8) := (blk_cell BK0.out 8).trans rfl; have hcz10 : w3.cell? ⟨g0, 9, none⟩ = some (.string a0_9) := (blk_cell BK0.out 9).trans rfl; have hcz11 : w3.cell? ⟨g0, 10, none⟩ = some (.slice A0_10 l0_10.length c0_10) := (blk_cell BK0.out 10).trans rfl; have hcz12 : w3.cell? ⟨g0, 11, none⟩ = some (.int .i64 a0_11) := (blk_cell BK0.out 11).trans rfl; have hcz13 : w3.cell? ⟨g0, 12, none⟩ = some (.int .i64 a0_12) := (blk_cell BK0.out 12).trans rfl; have hcz14 : w3.cell? ⟨g0, 13, none⟩ = some (.int .i64 a0_13) := (blk_cell BK0.out 13).trans rfl; have hcz15 : w3.cell? ⟨g0, 14, none⟩ = some (.int .i64 a0_14) := (blk_cell BK0.out 14).trans rfl) | ((with_reducible refine gate_callee (f := 24) rfl ?_); refine goesL_ (some 9) rfl rfl Try.func24 (by kernel_rfl) rfl #[.agg #[.string a0_0, .slice A0_1 l0_1.length c0_1, .string a0_2, .string a0_3, .string a0_4, .int .i64 a0_5, .string a0_6, .int .i64 a0_7, .slice A0_8 l0_8.length c0_8, .string a0_9, .slice A0_10 l0_10.length c0_10, .int .i64 a0_11, .int .i64 a0_12, .int .i64 a0_13, .int .i64 a0_14]] rfl (by (try simp only [List.map_toArray, List.map_cons, List.map_nil]); first | done | rfl) ?_; refine (store_Copy.calls a0_0 A0_1 c0_1 l0_1 a0_2 a0_3 a0_4 a0_5 a0_6 a0_7 A0_8 c0_8 l0_8 a0_9 A0_10 c0_10 l0_10 a0_11 a0_12 a0_13 a0_14 _ _ _ _ _ _ _ _ _ _ _ _ _ _ _ _ (Kd.C_below HR0_1.out HB.out) HC0_1.out (Kd.C_below HR0_8.out HB.out) HC0_8.out (Kd.C_below HR0_10.out HB.out) HC0_10.out HCopy.out).mono ?_; rintro e w4 ⟨v1, v8, v10, rfl, k1, k8, k10, hb⟩; refine ⟨_, rfl, ?_⟩; obtain ⟨B1, d1, e1⟩ := Kd.R_slice k1; subst e1; obtain ⟨B8, d8, e8⟩ := Kd.R_slice k8; subst e8; obtain ⟨B10, d10, e10⟩ := Kd.R_slice k10; subst e10; replace k1 := Aside0.mk (Kd.R_lower k1 (below_size HB.out)); replace k8 := Aside0.mk (Kd.R_lower k8 (below_size HB.out)); replace k10 := Aside0.mk (Kd.R_lower k10 (below_size HB.out)); have n0_ := Aside0.mk (blk_below BK0.out hb); have n1_ := Aside0.mk (blk_below BK1.out hb); have n2_ := Aside0.mk (blk_below BK2.out hb); have n3_ := Aside0.mk (blk_below BK3.out hb); have n4_ := Aside0.mk (below_step HB.out hb); clear BK0 BK1 BK2 BK3 HB; have BK0 := n0_; have BK1 := n1_; have BK2 := n2_; have BK3 := n3_; have HB := n4_; clear n0_ n1_ n2_ n3_ n4_; have K1 := k1; have K8 := k8; have K10 := k10; clear hb k1 k8 k10) | ((with_reducible refine gate_store (t := 34) (p := 3) rfl ?_); have hcz16 : w4.cell? ⟨g0, 0, none⟩ = some (.string a0_0) := (blk_cell BK0.out 0).trans rfl; have hfz16 := blk_frozen BK0.out 0; have hcz17 : w4.cell? ⟨g0, 1, none⟩ = some (.slice A0_1 l0_1.length c0_1) := (blk_cell BK0.out 1).trans rfl; have hfz17 := blk_frozen BK0.out 1; have hcz18 : w4.cell? ⟨g0, 2, none⟩ = some (.string a0_2) := (blk_cell BK0.out 2).trans rfl; have hfz18 := blk_frozen BK0.out 2; have hcz19 : w4.cell? ⟨g0, 3, none⟩ = some (.string a0_3) := (blk_cell BK0.out 3).trans rfl; have hfz19 := blk_frozen BK0.out 3; have hcz20 : w4.cell? ⟨g0, 4, none⟩ = some (.string a0_4) := (blk_cell BK0.out 4).trans rfl; have hfz20 := blk_frozen BK0.out 4; have hcz21 : w4.cell? ⟨g0, 5, none⟩ = some (.int .i64 a0_5) := (blk_cell BK0.out 5).trans rfl; have hfz21 := blk_frozen BK0.out 5; have hcz22 : w4.cell? ⟨g0, 6, none⟩ = some (.string a0_6) := (blk_cell BK0.out 6).trans rfl; have hfz22 := blk_frozen BK0.out 6; have hcz23 : w4.cell? ⟨g0, 7, none⟩ = some (.int .i64 a0_7) := (blk_cell BK0.out 7).trans rfl; have hfz23 := blk_frozen BK0.out 7; have hcz24 : w4.cell? ⟨g0, 8, none⟩ = some (.slice A0_8 l0_8.length c0_8) := (blk_cell BK0.out 8).trans rfl; have hfz24 := blk_frozen BK0.out 8; have hcz25 : w4.cell? ⟨g0, 9, none⟩ = some (.string a0_9) := (blk_cell BK0.out 9).trans rfl; have hfz25 := blk_frozen BK0.out 9; have hcz26 : w4.cell? ⟨g0, 10, none⟩ = some (.slice A0_10 l0_10.length c0_10) := (blk_cell BK0.out 10).trans rfl; have hfz26 := blk_frozen BK0.out 10; have hcz27 : w4.cell? ⟨g0, 11, none⟩ = some (.int .i64 a0_11) := (blk_cell BK0.out 11).trans rfl; have hfz27 := blk_frozen BK0.out 11; have hcz28 : w4.cell? ⟨g0, 12, none⟩ = some (.int .i64 a0_12) := (blk_cell BK0.out 12).trans rfl; have hfz28 := blk_frozen BK0.out 12; have hcz29 : w4.cell? ⟨g0, 13, none⟩ = some (.int .i64 a0_13) := (blk_cell BK0.out 13).trans rfl; have hfz29 := blk_frozen BK0.out 13; have hcz30 : w4.cell? ⟨g0, 14, none⟩ = some (.int .i64 a0_14) := (blk_cell BK0.out 14).trans rfl; have hfz30 := blk_frozen BK0.out 14; refine stored_event (t := 34) (p := 3) (v := ?vo3) (w1 := (((((((((((((((w4.setCell ⟨g0, 0, none⟩ (.string a0_0)).setCell ⟨g0, 1, none⟩ (.slice B1 l0_1.length d1)).setCell ⟨g0, 2, none⟩ (.string a0_2)).setCell ⟨g0, 3, none⟩ (.string a0_3)).setCell ⟨g0, 4, none⟩ (.string a0_4)).setCell ⟨g0, 5, none⟩ (.int .i64 a0_5)).setCell ⟨g0, 6, none⟩ (.string a0_6)).setCell ⟨g0, 7, none⟩ (.int .i64 a0_7)).setCell ⟨g0, 8, none⟩ (.slice B8 l0_8.length d8)).setCell ⟨g0, 9, none⟩ (.string a0_9)).setCell ⟨g0, 10, none⟩ (.slice B10 l0_10.length d10)).setCell ⟨g0, 11, none⟩ (.int .i64 a0_11)).setCell ⟨g0, 12, none⟩ (.int .i64 a0_12)).setCell ⟨g0, 13, none⟩ (.int .i64 a0_13)).setCell ⟨g0, 14, none⟩ (.int .i64 a0_14))) (g := g0) (cs := #[.string a0_0, .slice B1 l0_1.length d1, .string a0_2, .string a0_3, .string a0_4, .int .i64 a0_5, .string a0_6, .int .i64 a0_7, .slice B8 l0_8.length d8, .string a0_9, .slice B10 l0_10.length d10, .int .i64 a0_11, .int .i64 a0_12, .int .i64 a0_13, .int .i64 a0_14]) (T := 34) ?hg ?ho ?hn ?hr ?hw ?hb ?_; (case ho => rfl); (case hg => rfl); (case hn => rfl); (case hr => first | (go_simp; done) | (go_simp; rfl)); (case hw => exact World.grownBy.trans (World.grownBy.trans (World.grownBy.trans (World.grownBy.trans (World.grownBy.trans (World.grownBy.trans (World.grownBy.trans (World.grownBy.trans (World.grownBy.trans (World.grownBy.trans (World.grownBy.trans (World.grownBy.trans (World.grownBy.trans (World.grownBy.trans (setGrown _ _ _ _) (setGrown _ _ _ _)) (setGrown _ _ _ _)) (setGrown _ _ _ _)) (setGrown _ _ _ _)) (setGrown _ _ _ _)) (setGrown _ _ _ _)) (setGrown _ _ _ _)) (setGrown _ _ _ _)) (setGrown _ _ _ _)) (setGrown _ _ _ _)) (setGrown _ _ _ _)) (setGrown _ _ _ _)) (setGrown _ _ _ _)) (setGrown _ _ _ _)); (case hb => exact blk_put (cs := #[.string a0_0, .slice B1 l0_1.length d1, .string a0_2, .string a0_3, .string a0_4, .int .i64 a0_5, .string a0_6, .int .i64 a0_7, .slice B8 l0_8.length d8, .string a0_9, .slice B10 l0_10.length d10, .int .i64 a0_11, .int .i64 a0_12, .int .i64 a0_13, .int .i64 a0_14]) (blk_put (cs := #[.string a0_0, .slice B1 l0_1.length d1, .string a0_2, .string a0_3, .string a0_4, .int .i64 a0_5, .string a0_6, .int .i64 a0_7, .slice B8 l0_8.length d8, .string a0_9, .slice B10 l0_10.length d10, .int .i64 a0_11, .int .i64 a0_12, .int .i64 a0_13, .int .i64 a0_14]) (blk_put (cs := #[.string a0_0, .slice B1 l0_1.length d1, .string a0_2, .string a0_3, .string a0_4, .int .i64 a0_5, .string a0_6, .int .i64 a0_7, .slice B8 l0_8.length d8, .string a0_9, .slice B10 l0_10.length d10, .int .i64 a0_11, .int .i64 a0_12, .int .i64 a0_13, .int .i64 a0_14]) (blk_put (cs := #[.string a0_0, .slice B1 l0_1.length d1, .string a0_2, .string a0_3, .string a0_4, .int .i64 a0_5, .string a0_6, .int .i64 a0_7, .slice B8 l0_8.length d8, .string a0_9, .slice B10 l0_10.length d10, .int .i64 a0_11, .int .i64 a0_12, .int .i64 a0_13, .int .i64 a0_14]) (blk_put (cs := #[.string a0_0, .slice B1 l0_1.length d1, .string a0_2, .string a0_3, .string a0_4, .int .i64 a0_5, .string a0_6, .int .i64 a0_7, .slice B8 l0_8.length d8, .string a0_9, .slice A0_10 l0_10.length c0_10, .int .i64 a0_11, .int .i64 a0_12, .int .i64 a0_13, .int .i64 a0_14]) (blk_put (cs := #[.string a0_0, .slice B1 l0_1.length d1, .string a0_2, .string a0_3, .string a0_4, .int .i64 a0_5, .string a0_6, .int .i64 a0_7, .slice B8 l0_8.length d8, .string a0_9, .slice A0_10 l0_10.length c0_10, .int .i64 a0_11, .int .i64 a0_12, .int .i64 a0_13, .int .i64 a0_14]) (blk_put (cs := #[.string a0_0, .slice B1 l0_1.length d1, .string a0_2, .string a0_3, .string a0_4, .int .i64 a0_5, .string a0_6, .int .i64 a0_7, .slice A0_8 l0_8.length c0_8, .string a0_9, .slice A0_10 l0_10.length c0_10, .int .i64 a0_11, .int .i64 a0_12, .int .i64 a0_13, .int .i64 a0_14]) (blk_put (cs := #[.string a0_0, .slice B1 l0_1.length d1, .string a0_2, .string a0_3, .string a0_4, .int .i64 a0_5, .string a0_6, .int .i64 a0_7, .slice A0_8 l0_8.length c0_8, .string a0_9, .slice A0_10 l0_10.length c0_10, .int .i64 a0_11, .int .i64 a0_12, .int .i64 a0_13, .int .i64 a0_14]) (blk_put (cs := #[.string a0_0, .slice B1 l0_1.length d1, .string a0_2, .string a0_3, .string a0_4, .int .i64 a0_5, .string a0_6, .int .i64 a0_7, .slice A0_8 l0_8.length c0_8, .string a0_9, .slice A0_10 l0_10.length c0_10, .int .i64 a0_11, .int .i64 a0_12, .int .i64 a0_13, .int .i64 a0_14]) (blk_put (cs := #[.string a0_0, .slice B1 l0_1.length d1, .string a0_2, .string a0_3, .string a0_4, .int .i64 a0_5, .string a0_6, .int .i64 a0_7, .slice A0_8 l0_8.length c0_8, .string a0_9, .slice A0_10 l0_10.length c0_10, .int .i64 a0_11, .int .i64 a0_12, .int .i64 a0_13, .int .i64 a0_14]) (blk_put (cs := #[.string a0_0, .slice B1 l0_1.length d1, .string a0_2, .string a0_3, .string a0_4, .int .i64 a0_5, .string a0_6, .int .i64 a0_7, .slice A0_8 l0_8.length c0_8, .string a0_9, .slice A0_10 l0_10.length c0_10, .int .i64 a0_11, .int .i64 a0_12, .int .i64 a0_13, .int .i64 a0_14]) (blk_put (cs := #[.string a0_0, .slice B1 l0_1.length d1, .string a0_2, .string a0_3, .string a0_4, .int .i64 a0_5, .string a0_6, .int .i64 a0_7, .slice A0_8 l0_8.length c0_8, .string a0_9, .slice A0_10 l0_10.length c0_10, .int .i64 a0_11, .int .i64 a0_12, .int .i64 a0_13, .int .i64 a0_14]) (blk_put (cs := #[.string a0_0, .slice B1 l0_1.length d1, .string a0_2, .string a0_3, .string a0_4, .int .i64 a0_5, .string a0_6, .int .i64 a0_7, .slice A0_8 l0_8.length c0_8, .string a0_9, .slice A0_10 l0_10.length c0_10, .int .i64 a0_11, .int .i64 a0_12, .int .i64 a0_13, .int .i64 a0_14]) (blk_put (cs := #[.string a0_0, .slice A0_1 l0_1.length c0_1, .string a0_2, .string a0_3, .string a0_4, .int .i64 a0_5, .string a0_6, .int .i64 a0_7, .slice A0_8 l0_8.length c0_8, .string a0_9, .slice A0_10 l0_10.length c0_10, .int .i64 a0_11, .int .i64 a0_12, .int .i64 a0_13, .int .i64 a0_14]) (blk_put (cs := #[.string a0_0, .slice A0_1 l0_1.length c0_1, .string a0_2, .string a0_3, .string a0_4, .int .i64 a0_5, .string a0_6, .int .i64 a0_7, .slice A0_8 l0_8.length c0_8, .string a0_9, .slice A0_10 l0_10.length c0_10, .int .i64 a0_11, .int .i64 a0_12, .int .i64 a0_13, .int .i64 a0_14]) (BK0.out) 0 (.string a0_0) rfl) 1 (.slice B1 l0_1.length d1) rfl) 2 (.string a0_2) rfl) 3 (.string a0_3) rfl) 4 (.string a0_4) rfl) 5 (.int .i64 a0_5) rfl) 6 (.string a0_6) rfl) 7 (.int .i64 a0_7) rfl) 8 (.slice B8 l0_8.length d8) rfl) 9 (.string a0_9) rfl) 10 (.slice B10 l0_10.length d10) rfl) 11 (.int .i64 a0_11) rfl) 12 (.int .i64 a0_12) rfl) 13 (.int .i64 a0_13) rfl) 14 (.int .i64 a0_14) rfl); intro w5 hg_ hbox; clear hcz16 hfz16 hcz17 hfz17 hcz18 hfz18 hcz19 hfz19 hcz20 hfz20 hcz21 hfz21 hcz22 hfz22 hcz23 hfz23 hcz24 hfz24 hcz25 hfz25 hcz26 hfz26 hcz27 hfz27 hcz28 hfz28 hcz29 hfz29 hcz30 hfz30; have n0_ := Aside0.mk (blk_grown BK1.out hg_ (fun e => (Ne.symm NB0_1.out) (Option.some.inj e))); have n1_ := Aside0.mk (blk_grown BK2.out hg_ (fun e => (Ne.symm NB0_2.out) (Option.some.inj e))); have n2_ := Aside0.mk (blk_grown BK3.out hg_ (fun e => (Ne.symm NB0_3.out) (Option.some.inj e))); have n3_ := Aside0.mk (Kd.R_mono (Kd.R_grown (Kd.R_types K1.out BK0.out (by decide)) hg_ (fun _ hk e => hk.2 (Option.some.inj e))) (fun _ hk => hk.1)); have n4_ := Aside0.mk (Kd.R_mono (Kd.R_grown (Kd.R_types K8.out BK0.out (by decide)) hg_ (fun _ hk e => hk.2 (Option.some.inj e))) (fun _ hk => hk.1)); have n5_ := Aside0.mk (Kd.R_mono (Kd.R_grown (Kd.R_types K10.out BK0.out (by decide)) hg_ (fun _ hk e => hk.2 (Option.some.inj e))) (fun _ hk => hk.1)); have n6_ := Aside0.mk (hbox); have n7_ := Aside0.mk (Below.grown HB.out hg_ (below_size HB.out) (fun k e => by rw [← Option.some.inj e]; exact GW0.out)); clear BK1 BK2 BK3 K1 K8 K10 BK0 HB; have BK1 := n0_; have BK2 := n1_; have BK3 := n2_; have K1 := n3_; have K8 := n4_; have K10 := n5_; have BK0 := n6_; have HB := n7_; clear n0_ n1_ n2_ n3_ n4_ n5_ n6_ n7_; clear hg_ hbox; have hcz31 : w5.cell? ⟨g2, 0, none⟩ = some (.int .i64 a2_0) := (blk_cell BK2.out 0).trans rfl; have hcz32 : w5.cell? ⟨g2, 1, none⟩ = some (.int .i64 a2_1) := (blk_cell BK2.out 1).trans rfl; have hcz33 : w5.cell? ⟨g2, 2, none⟩ = some (.int .i64 a2_2) := (blk_cell BK2.out 2).trans rfl; have hcz34 : w5.cell? ⟨g2, 3, none⟩ = some (.int .i64 a2_3) := (blk_cell BK2.out 3).trans rfl) | ((with_reducible refine gate_store (t := 32) (p := 11) rfl ?_); clear hcz31 hcz32 hcz33 hcz34; have hcz35 : w5.cell? ⟨g0, 11, none⟩ = some (.int .i64 a0_11) := (blk_cell BK0.out 11).trans rfl; have hfz35 := blk_frozen BK0.out 11; have hcz36 : w5.cell? ⟨g0, 12, none⟩ = some (.int .i64 a0_12) := (blk_cell BK0.out 12).trans rfl; have hfz36 := blk_frozen BK0.out 12; have hcz37 : w5.cell? ⟨g0, 13, none⟩ = some (.int .i64 a0_13) := (blk_cell BK0.out 13).trans rfl; have hfz37 := blk_frozen BK0.out 13; have hcz38 : w5.cell? ⟨g0, 14, none⟩ = some (.int .i64 a0_14) := (blk_cell BK0.out 14).trans rfl; have hfz38 := blk_frozen BK0.out 14; refine stored_event (t := 32) (p := 11) (v := ?vo11) (w1 := ((((w5.setCell ⟨g0, 11, none⟩ (.int .i64 a2_0)).setCell ⟨g0, 12, none⟩ (.int .i64 a2_1)).setCell ⟨g0, 13, none⟩ (.int .i64 a2_2)).setCell ⟨g0, 14, none⟩ (.int .i64 a2_3))) (g := g0) (cs := #[.string a0_0, .slice B1 l0_1.length d1, .string a0_2, .string a0_3, .string a0_4, .int .i64 a0_5, .string a0_6, .int .i64 a0_7, .slice B8 l0_8.length d8, .string a0_9, .slice B10 l0_10.length d10, .int .i64 a2_0, .int .i64 a2_1, .int .i64 a2_2, .int .i64 a2_3]) (T := 34) ?hg ?ho ?hn ?hr ?hw ?hb ?_; (case ho => rfl); (case hg => rfl); (case hn => rfl); (case hr => first | (go_simp; done) | (go_simp; rfl)); (case hw => exact World.grownBy.trans (World.grownBy.trans (World.grownBy.trans (setGrown _ _ _ _) (setGrown _ _ _ _)) (setGrown _ _ _ _)) (setGrown _ _ _ _)); (case hb => exact blk_put (cs := #[.string a0_0, .slice B1 l0_1.length d1, .string a0_2, .string a0_3, .string a0_4, .int .i64 a0_5, .string a0_6, .int .i64 a0_7, .slice B8 l0_8.length d8, .string a0_9, .slice B10 l0_10.length d10, .int .i64 a2_0, .int .i64 a2_1, .int .i64 a2_2, .int .i64 a0_14]) (blk_put (cs := #[.string a0_0, .slice B1 l0_1.length d1, .string a0_2, .string a0_3, .string a0_4, .int .i64 a0_5, .string a0_6, .int .i64 a0_7, .slice B8 l0_8.length d8, .string a0_9, .slice B10 l0_10.length d10, .int .i64 a2_0, .int .i64 a2_1, .int .i64 a0_13, .int .i64 a0_14]) (blk_put (cs := #[.string a0_0, .slice B1 l0_1.length d1, .string a0_2, .string a0_3, .string a0_4, .int .i64 a0_5, .string a0_6, .int .i64 a0_7, .slice B8 l0_8.length d8, .string a0_9, .slice B10 l0_10.length d10, .int .i64 a2_0, .int .i64 a0_12, .int .i64 a0_13, .int .i64 a0_14]) (blk_put (cs := #[.string a0_0, .slice B1 l0_1.length d1, .string a0_2, .string a0_3, .string a0_4, .int .i64 a0_5, .string a0_6, .int .i64 a0_7, .slice B8 l0_8.length d8, .string a0_9, .slice B10 l0_10.length d10, .int .i64 a0_11, .int .i64 a0_12, .int .i64 a0_13, .int .i64 a0_14]) (BK0.out) 11 (.int .i64 a2_0) rfl) 12 (.int .i64 a2_1) rfl) 13 (.int .i64 a2_2) rfl) 14 (.int .i64 a2_3) rfl); intro w6 hg_ hbox; clear hcz35 hfz35 hcz36 hfz36 hcz37 hfz37 hcz38 hfz38; have n0_ := Aside0.mk (blk_grown BK1.out hg_ (fun e => (Ne.symm NB0_1.out) (Option.some.inj e))); have n1_ := Aside0.mk (blk_grown BK2.out hg_ (fun e => (Ne.symm NB0_2.out) (Option.some.inj e))); have n2_ := Aside0.mk (blk_grown BK3.out hg_ (fun e => (Ne.symm NB0_3.out) (Option.some.inj e))); have n3_ := Aside0.mk (Kd.R_mono (Kd.R_grown (Kd.R_types K1.out BK0.out (by decide)) hg_ (fun _ hk e => hk.2 (Option.some.inj e))) (fun _ hk => hk.1)); have n4_ := Aside0.mk (Kd.R_mono (Kd.R_grown (Kd.R_types K8.out BK0.out (by decide)) hg_ (fun _ hk e => hk.2 (Option.some.inj e))) (fun _ hk => hk.1)); have n5_ := Aside0.mk (Kd.R_mono (Kd.R_grown (Kd.R_types K10.out BK0.out (by decide)) hg_ (fun _ hk e => hk.2 (Option.some.inj e))) (fun _ hk => hk.1)); have n6_ := Aside0.mk (hbox); have n7_ := Aside0.mk (Below.grown HB.out hg_ (below_size HB.out) (fun k e => by rw [← Option.some.inj e]; exact GW0.out)); clear BK1 BK2 BK3 K1 K8 K10 BK0 HB; have BK1 := n0_; have BK2 := n1_; have BK3 := n2_; have K1 := n3_; have K8 := n4_; have K10 := n5_; have BK0 := n6_; have HB := n7_; clear n0_ n1_ n2_ n3_ n4_ n5_ n6_ n7_; clear hg_ hbox; have hcz39 : w6.cell? ⟨g1, 5, none⟩ = some (.slice A1_5 l1_5.length c1_5) := (blk_cell BK1.out 5).trans rfl) | ((with_reducible refine gate_callee (f := 26) rfl ?_); refine goesL_ (some 14) rfl rfl Try.func26 (by kernel_rfl) rfl #[.slice A1_5 l1_5.length c1_5] rfl (by (try simp only [List.map_toArray, List.map_cons, List.map_nil]); first | done | rfl) ?_; refine (slices_Clone_api_Field_api_Field.calls A1_5 c1_5 l1_5 l1_5 _ (Kd.C_below HR1_5.out HB.out) HC1_5.out HClone.out).mono ?_; rintro e w7 ⟨v0, rfl, k0, hb⟩; refine ⟨_, rfl, ?_⟩; clear hcz39; have KN0 := Aside0.mk k0; have HBc := Aside0.mk hb; clear k0 hb) | ((with_reducible refine gate_callee (f := 25) rfl ?_); refine goesL_ (some 15) rfl rfl Try.func25 (by kernel_rfl) rfl #[v0, .func (.func 27) #[] #[]] rfl (by (try simp only [List.map_toArray, List.map_cons, List.map_nil]); first | done | rfl) ?_; refine (fieldDeleteFunc 27 #[] (enters_of Try.func27 (by kernel_rfl) rfl) (fun x => keepB x.f0) (fun _ => True) (fun _ _ _ _ => trivial) v0 l1_5 (revise_Update_1 l1_5 H5.out.2) w6.heap.size (fun _ => True) _ KN0.out HBc.out.size (fun _ _ _ _ => trivial) trivial).mono ?_; rintro e w8 ⟨vN, rfl, hN, hNb, hgn⟩; refine ⟨_, rfl, ?_⟩; have hb : Below w6.heap.size w6 w8 := Below.grown HBc.out hgn HBc.out.size (fun k e => Kd.R_base KN0.out k e); have KN1 := Aside0.mk (Kd.R_lower (Kd.R_mono (Kd.R_bound hN) (fun k hk e => absurd (Kd.R_lt K8.out k e.symm) (Nat.not_lt.2 hk.2.1)) : Kd.R k39 39 w8 w6.heap.size (fun k => some k ≠ (Value.slice B8 l0_8.length d8).ownBlock) vN (newsF l1_5)) (below_size HB.out)); clear hN hNb hgn KN0 HBc; have n0_ := Aside0.mk (blk_below BK0.out hb); have n1_ := Aside0.mk (blk_below BK1.out hb); have n2_ := Aside0.mk (blk_below BK2.out hb); have n3_ := Aside0.mk (blk_below BK3.out hb); have n4_ := Aside0.mk (Kd.R_below K1.out hb); have n5_ := Aside0.mk (Kd.R_below K8.out hb); have n6_ := Aside0.mk (Kd.R_below K10.out hb); have n7_ := Aside0.mk (below_step HB.out hb); clear BK0 BK1 BK2 BK3 K1 K8 K10 HB; have BK0 := n0_; have BK1 := n1_; have BK2 := n2_; have BK3 := n3_; have K1 := n4_; have K8 := n5_; have K10 := n6_; have HB := n7_; clear n0_ n1_ n2_ n3_ n4_ n5_ n6_ n7_; clear hb; obtain ⟨BN, dN, eN⟩ := Kd.R_slice KN1.out; subst eN; have KN := KN1; clear KN1) | ((with_reducible refine gate_dst (N := 7) rfl ?_); refine box_event ?hg (N := 7) ?hd (cs := #[.slice none 0 0]) (t := 22) ?hr ?_; (case hd => rfl); (case hg => rfl); (case hr => first | (go_simp; done) | (go_simp; rfl)); intro g4 hg_ w9 hbox hb; have n0_ := Aside0.mk (blk_below BK0.out hb); have n1_ := Aside0.mk (blk_below BK1.out hb); have n2_ := Aside0.mk (blk_below BK2.out hb); have n3_ := Aside0.mk (blk_below BK3.out hb); have n4_ := Aside0.mk (Kd.R_below K1.out hb); have n5_ := Aside0.mk (Kd.R_below K8.out hb); have n6_ := Aside0.mk (Kd.R_below K10.out hb); have n7_ := Aside0.mk (Kd.R_below KN.out hb); have n8_ := Aside0.mk (below_step HB.out hb); have n9_ := Aside0.mk (hbox); have n10_ := Aside0.mk ((by rw [hg_]; exact below_size HB.out : w.heap.size ≤ g4)); have n11_ := Aside0.mk ((by rw [hg_]; exact Nat.ne_of_lt (blk_lt BK0.out) : g0 ≠ g4)); have n12_ := Aside0.mk ((by rw [hg_]; exact Nat.ne_of_lt (blk_lt BK1.out) : g1 ≠ g4)); have n13_ := Aside0.mk ((by rw [hg_]; exact Nat.ne_of_lt (blk_lt BK2.out) : g2 ≠ g4)); have n14_ := Aside0.mk ((by rw [hg_]; exact Nat.ne_of_lt (blk_lt BK3.out) : g3 ≠ g4)); clear BK0 BK1 BK2 BK3 K1 K8 K10 KN HB; have BK0 := n0_; have BK1 := n1_; have BK2 := n2_; have BK3 := n3_; have K1 := n4_; have K8 := n5_; have K10 := n6_; have KN := n7_; have HB := n8_; have BK4 := n9_; have GW4 := n10_; have NB0_4 := n11_; have NB1_4 := n12_; have NB2_4 := n13_; have NB3_4 := n14_; clear n0_ n1_ n2_ n3_ n4_ n5_ n6_ n7_ n8_ n9_ n10_ n11_ n12_ n13_ n14_; clear hb hbox hg_) | ((with_reducible refine gate_store (t := 22) (p := 7) rfl ?_); have hcz40 : w9.cell? ⟨g4, 0, none⟩ = some (.slice none 0 0) := (blk_cell BK4.out 0).trans rfl; have hfz40 := blk_frozen BK4.out 0; refine stored_event (t := 22) (p := 7) (v := ?vo7) (w1 := (w9.setCell ⟨g4, 0, none⟩ (.slice BN (newsF l1_5).length dN))) (g := g4) (cs := #[.slice BN (newsF l1_5).length dN]) (T := 22) ?hg ?ho ?hn ?hr ?hw ?hb ?_; (case ho => rfl); (case hg => rfl); (case hn => rfl); (case hr => first | (go_simp; done) | (go_simp; rfl)); (case hw => exact setGrown _ _ _ _); (case hb => exact blk_put (cs := #[.slice none 0 0]) (BK4.out) 0 (.slice BN (newsF l1_5).length dN) rfl); intro w10 hg_ hbox; clear hcz40 hfz40; have n0_ := Aside0.mk (blk_grown BK0.out hg_ (fun e => NB0_4.out (Option.some.inj e))); have n1_ := Aside0.mk (blk_grown BK1.out hg_ (fun e => NB1_4.out (Option.some.inj e))); have n2_ := Aside0.mk (blk_grown BK2.out hg_ (fun e => NB2_4.out (Option.some.inj e))); have n3_ := Aside0.mk (blk_grown BK3.out hg_ (fun e => NB3_4.out (Option.some.inj e))); have n4_ := Aside0.mk (Kd.R_mono (Kd.R_grown (Kd.R_types K1.out BK4.out (by decide)) hg_ (fun _ hk e => hk.2 (Option.some.inj e))) (fun _ hk => hk.1)); have n5_ := Aside0.mk (Kd.R_mono (Kd.R_grown (Kd.R_types K8.out BK4.out (by decide)) hg_ (fun _ hk e => hk.2 (Option.some.inj e))) (fun _ hk => hk.1)); have n6_ := Aside0.mk (Kd.R_mono (Kd.R_grown (Kd.R_types K10.out BK4.out (by decide)) hg_ (fun _ hk e => hk.2 (Option.some.inj e))) (fun _ hk => hk.1)); have n7_ := Aside0.mk (Kd.R_mono (Kd.R_grown (Kd.R_types KN.out BK4.out (by decide)) hg_ (fun _ hk e => hk.2 (Option.some.inj e))) (fun _ hk => hk.1)); have n8_ := Aside0.mk (hbox); have n9_ := Aside0.mk (Below.grown HB.out hg_ (below_size HB.out) (fun k e => by rw [← Option.some.inj e]; exact GW4.out)); clear BK0 BK1 BK2 BK3 K1 K8 K10 KN BK4 HB; have BK0 := n0_; have BK1 := n1_; have BK2 := n2_; have BK3 := n3_; have K1 := n4_; have K8 := n5_; have K10 := n6_; have KN := n7_; have BK4 := n8_; have HB := n9_; clear n0_ n1_ n2_ n3_ n4_ n5_ n6_ n7_ n8_ n9_; clear hg_ hbox; have hcz41 : w10.cell? ⟨g0, 8, none⟩ = some (.slice B8 l0_8.length d8) := (blk_cell BK0.out 8).trans rfl) | ((with_reducible refine gate_callee (f := 25) rfl ?_); refine goesL_ (some 20) rfl rfl Try.func25 (by kernel_rfl) rfl #[.slice B8 l0_8.length d8, .func (.func 28) #[] #[.pointer (some ⟨g4, 0, none⟩)]] rfl (by (try simp only [List.map_toArray, List.map_cons, List.map_nil]); first | done | rfl) ?_; refine (fieldDeleteFunc 28 #[.pointer (some ⟨g4, 0, none⟩)] (enters_of Try.func28 (by kernel_rfl) rfl) (fun x => (newsF l1_5).any fun n => sameB n.f0 x.f0) (fun W => W.cell? ⟨g4, 0, none⟩ = some (.slice BN (newsF l1_5).length dN) ∧ Kd.R k39 39 W w.heap.size (fun k => some k ≠ (Value.slice B8 l0_8.length d8).ownBlock) (.slice BN (newsF l1_5).length dN) (newsF l1_5)) (fun W W' h hb => ⟨(hb.cell (p := ⟨g4, 0, none⟩) (World.block_lt_of_cell? W _ h.1)).trans h.1, Kd.R_below h.2 hb⟩) (.slice B8 l0_8.length d8) l0_8 (revise_Update_2 g4 _ (newsF l1_5) _ _ l0_8 (newsF_le H5.out.2) H8.out.2) w.heap.size (fun k => some k ≠ (Value.slice B10 l0_10.length d10).ownBlock) _ K8.out (below_size HB.out) (fun W W' h hg => ⟨World.grownBy.cell hg h.1 (fun e => ((Kd.R_types K8.out BK4.out (by decide)).1 g4 e.symm).2 rfl), Kd.R_grown h.2 hg (fun _ hk => hk)⟩) ⟨(blk_cell BK4.out 0).trans rfl, KN.out⟩).mono ?_; rintro e w11 ⟨vX, rfl, k8, e8, hg_⟩; refine ⟨_, rfl, ?_⟩; clear hcz41; obtain ⟨BX, dX, eX⟩ := Kd.R_slice k8; subst eX; have n0_ := Aside0.mk (blk_grown BK0.out hg_ (fun e => ((Kd.R_types K8.out BK0.out (by decide)).1 g0 e.symm).2 rfl)); have n1_ := Aside0.mk (blk_grown BK1.out hg_ (fun e => ((Kd.R_types K8.out BK1.out (by decide)).1 g1 e.symm).2 rfl)); have n2_ := Aside0.mk (blk_grown BK2.out hg_ (fun e => ((Kd.R_types K8.out BK2.out (by decide)).1 g2 e.symm).2 rfl)); have n3_ := Aside0.mk (blk_grown BK3.out hg_ (fun e => ((Kd.R_types K8.out BK3.out (by decide)).1 g3 e.symm).2 rfl)); have n4_ := Aside0.mk (blk_grown BK4.out hg_ (fun e => ((Kd.R_types K8.out BK4.out (by decide)).1 g4 e.symm).2 rfl)); have n5_ := Aside0.mk (Kd.R_over K1.out K8.out (by decide) hg_); have n6_ := Aside0.mk ((Kd.R_mono (Kd.R_grown K10.out hg_ (fun _ hk => hk)) (fun k hk => by rw [e8]; exact hk) : Kd.R k39 39 w11 w.heap.size (fun k => some k ≠ (Value.slice BX (keepL (fun x : S39 => (newsF l1_5).any fun n => sameB n.f0 x.f0) l0_8).length dX).ownBlock) (.slice B10 l0_10.length d10) l0_10)); have n7_ := Aside0.mk (Kd.R_grown KN.out hg_ (fun _ hk => hk)); have n8_ := Aside0.mk (Below.grown HB.out hg_ (below_size HB.out) (fun k e => Kd.R_base K8.out k e)); have n9_ := Aside0.mk (k8); clear BK0 BK1 BK2 BK3 BK4 K1 K10 KN HB K8; have BK0 := n0_; have BK1 := n1_; have BK2 := n2_; have BK3 := n3_; have BK4 := n4_; have K1 := n5_; have K10 := n6_; have KN := n7_; have HB := n8_; have K8 := n9_; clear n0_ n1_ n2_ n3_ n4_ n5_ n6_ n7_ n8_ n9_; clear k8 e8 hg_) | ((with_reducible refine gate_store (t := 22) (p := 22) rfl ?_); have hcz42 : w11.cell? ⟨g0, 8, none⟩ = some (.slice B8 l0_8.length d8) := (blk_cell BK0.out 8).trans rfl; have hfz42 := blk_frozen BK0.out 8; refine stored_event (t := 22) (p := 22) (v := ?vo22) (w1 := (w11.setCell ⟨g0, 8, none⟩ (.slice BX (keepL (fun x : S39 => (newsF l1_5).any fun n => sameB n.f0 x.f0) l0_8).length dX))) (g := g0) (cs := #[.string a0_0, .slice B1 l0_1.length d1, .string a0_2, .string a0_3, .string a0_4, .int .i64 a0_5, .string a0_6, .int .i64 a0_7, .slice BX (keepL (fun x : S39 => (newsF l1_5).any fun n => sameB n.f0 x.f0) l0_8).length dX, .string a0_9, .slice B10 l0_10.length d10, .int .i64 a2_0, .int .i64 a2_1, .int .i64 a2_2, .int .i64 a2_3]) (T := 34) ?hg ?ho ?hn ?hr ?hw ?hb ?_; (case ho => rfl); (case hg => rfl); (case hn => rfl); (case hr => first | (go_simp; done) | (go_simp; rfl)); (case hw => exact setGrown _ _ _ _); (case hb => exact blk_put (cs := #[.string a0_0, .slice B1 l0_1.length d1, .string a0_2, .string a0_3, .string a0_4, .int .i64 a0_5, .string a0_6, .int .i64 a0_7, .slice B8 l0_8.length d8, .string a0_9, .slice B10 l0_10.length d10, .int .i64 a2_0, .int .i64 a2_1, .int .i64 a2_2, .int .i64 a2_3]) (BK0.out) 8 (.slice BX (keepL (fun x : S39 => (newsF l1_5).any fun n => sameB n.f0 x.f0) l0_8).length dX) rfl); intro w12 hg_ hbox; clear hcz42 hfz42; have n0_ := Aside0.mk (blk_grown BK1.out hg_ (fun e => (Ne.symm NB0_1.out) (Option.some.inj e))); have n1_ := Aside0.mk (blk_grown BK2.out hg_ (fun e => (Ne.symm NB0_2.out) (Option.some.inj e))); have n2_ := Aside0.mk (blk_grown BK3.out hg_ (fun e => (Ne.symm NB0_3.out) (Option.some.inj e))); have n3_ := Aside0.mk (blk_grown BK4.out hg_ (fun e => (Ne.symm NB0_4.out) (Option.some.inj e))); have n4_ := Aside0.mk (Kd.R_mono (Kd.R_grown (Kd.R_types K1.out BK0.out (by decide)) hg_ (fun _ hk e => hk.2 (Option.some.inj e))) (fun _ hk => hk.1)); have n5_ := Aside0.mk (Kd.R_mono (Kd.R_grown (Kd.R_types K8.out BK0.out (by decide)) hg_ (fun _ hk e => hk.2 (Option.some.inj e))) (fun _ hk => hk.1)); have n6_ := Aside0.mk (Kd.R_mono (Kd.R_grown (Kd.R_types K10.out BK0.out (by decide)) hg_ (fun _ hk e => hk.2 (Option.some.inj e))) (fun _ hk => hk.1)); have n7_ := Aside0.mk (Kd.R_mono (Kd.R_grown (Kd.R_types KN.out BK0.out (by decide)) hg_ (fun _ hk e => hk.2 (Option.some.inj e))) (fun _ hk => hk.1)); have n8_ := Aside0.mk (hbox); have n9_ := Aside0.mk (Below.grown HB.out hg_ (below_size HB.out) (fun k e => by rw [← Option.some.inj e]; exact GW0.out)); clear BK1 BK2 BK3 BK4 K1 K8 K10 KN BK0 HB; have BK1 := n0_; have BK2 := n1_; have BK3 := n2_; have BK4 := n3_; have K1 := n4_; have K8 := n5_; have K10 := n6_; have KN := n7_; have BK0 := n8_; have HB := n9_; clear n0_ n1_ n2_ n3_ n4_ n5_ n6_ n7_ n8_ n9_; clear hg_ hbox; have hcz43 : w12.cell? ⟨g0, 8, none⟩ = some (.slice BX (keepL (fun x : S39 => (newsF l1_5).any fun n => sameB n.f0 x.f0) l0_8).length dX) := (blk_cell BK0.out 8).trans rfl; have hcz44 : w12.cell? ⟨g4, 0, none⟩ = some (.slice BN (newsF l1_5).length dN) := (blk_cell BK4.out 0).trans rfl) | ((with_reducible refine gate_builtin (b := .append) (xs := #[.tmp 25, .tmp 26]) rfl ?_); at_builtin; refine Kd.R_append_rows k39 (w0 := w) w.heap.size rfl (.tmp 25) (.tmp 26) 22 39 (.agg #[.string ⟨#[]⟩, .string ⟨#[]⟩]) 32 rfl Try.underlying22 info39 rfl (by decide) (by omega) (.slice BX (keepL (fun x : S39 => (newsF l1_5).any fun n => sameB n.f0 x.f0) l0_8).length dX) _ (newsF l1_5) _ _ _ (fun k => some k ≠ (Value.slice B10 l0_10.length d10).ownBlock) (fun _ => False) rfl rfl K8.out (Kd.R_reads' KN.out).2.2 (fun _ _ h => h) (fun _ h => h.elim) (fun k hk e => absurd (Kd.R_lt K10.out k e.symm) (Nat.not_lt.2 hk)) HB.out (below_size HB.out) (appendFits H8.out.1 H5.out.1) ?_; intro vY w13 ho hb hg_ hat; clear hcz43 hcz44; obtain ⟨BY, dY, eY⟩ := Kd.R_slice ho; subst eY; clear KN; have n0_ := Aside0.mk (blk_grown BK0.out hg_ (fun e => ((Kd.R_types K8.out BK0.out (by decide)).1 g0 e.symm).2 rfl)); have n1_ := Aside0.mk (blk_grown BK1.out hg_ (fun e => ((Kd.R_types K8.out BK1.out (by decide)).1 g1 e.symm).2 rfl)); have n2_ := Aside0.mk (blk_grown BK2.out hg_ (fun e => ((Kd.R_types K8.out BK2.out (by decide)).1 g2 e.symm).2 rfl)); have n3_ := Aside0.mk (blk_grown BK3.out hg_ (fun e => ((Kd.R_types K8.out BK3.out (by decide)).1 g3 e.symm).2 rfl)); have n4_ := Aside0.mk (blk_grown BK4.out hg_ (fun e => ((Kd.R_types K8.out BK4.out (by decide)).1 g4 e.symm).2 rfl)); have n5_ := Aside0.mk (Kd.R_over K1.out K8.out (by decide) hg_); have n6_ := Aside0.mk (Kd.R_mono (Kd.R_after (Kd.R_mono K10.out (fun _ hk => ⟨trivial, hk⟩) : Kd.R k39 39 _ _ (fun k => True ∧ some k ≠ _) _ _) hg_ hat) (fun _ hk => hk.2)); have n7_ := Aside0.mk (hb); have n8_ := Aside0.mk (ho); clear BK0 BK1 BK2 BK3 BK4 K1 K10 HB K8; have BK0 := n0_; have BK1 := n1_; have BK2 := n2_; have BK3 := n3_; have BK4 := n4_; have K1 := n5_; have K10 := n6_; have HB := n7_; have K8 := n8_; clear n0_ n1_ n2_ n3_ n4_ n5_ n6_ n7_ n8_; clear ho hb hg_ hat) | ((with_reducible refine gate_store (t := 22) (p := 29) rfl ?_); have hcz45 : w13.cell? ⟨g0, 8, none⟩ = some (.slice BX (keepL (fun x : S39 => (newsF l1_5).any fun n => sameB n.f0 x.f0) l0_8).length dX) := (blk_cell BK0.out 8).trans rfl; have hfz45 := blk_frozen BK0.out 8; refine stored_event (t := 22) (p := 29) (v := ?vo29) (w1 := (w13.setCell ⟨g0, 8, none⟩ (.slice BY (keepL (fun x : S39 => (newsF l1_5).any fun n => sameB n.f0 x.f0) l0_8 ++ newsF l1_5).length dY))) (g := g0) (cs := #[.string a0_0, .slice B1 l0_1.length d1, .string a0_2, .string a0_3, .string a0_4, .int .i64 a0_5, .string a0_6, .int .i64 a0_7, .slice BY (keepL (fun x : S39 => (newsF l1_5).any fun n => sameB n.f0 x.f0) l0_8 ++ newsF l1_5).length dY, .string a0_9, .slice B10 l0_10.length d10, .int .i64 a2_0, .int .i64 a2_1, .int .i64 a2_2, .int .i64 a2_3]) (T := 34) ?hg ?ho ?hn ?hr ?hw ?hb ?_; (case ho => rfl); (case hg => rfl); (case hn => rfl); (case hr => first | (go_simp; done) | (go_simp; rfl)); (case hw => exact setGrown _ _ _ _); (case hb => exact blk_put (cs := #[.string a0_0, .slice B1 l0_1.length d1, .string a0_2, .string a0_3, .string a0_4, .int .i64 a0_5, .string a0_6, .int .i64 a0_7, .slice BX (keepL (fun x : S39 => (newsF l1_5).any fun n => sameB n.f0 x.f0) l0_8).length dX, .string a0_9, .slice B10 l0_10.length d10, .int .i64 a2_0, .int .i64 a2_1, .int .i64 a2_2, .int .i64 a2_3]) (BK0.out) 8 (.slice BY (keepL (fun x : S39 => (newsF l1_5).any fun n => sameB n.f0 x.f0) l0_8 ++ newsF l1_5).length dY) rfl); intro w14 hg_ hbox; clear hcz45 hfz45; have n0_ := Aside0.mk (blk_grown BK1.out hg_ (fun e => (Ne.symm NB0_1.out) (Option.some.inj e))); have n1_ := Aside0.mk (blk_grown BK2.out hg_ (fun e => (Ne.symm NB0_2.out) (Option.some.inj e))); have n2_ := Aside0.mk (blk_grown BK3.out hg_ (fun e => (Ne.symm NB0_3.out) (Option.some.inj e))); have n3_ := Aside0.mk (blk_grown BK4.out hg_ (fun e => (Ne.symm NB0_4.out) (Option.some.inj e))); have n4_ := Aside0.mk (Kd.R_mono (Kd.R_grown (Kd.R_types K1.out BK0.out (by decide)) hg_ (fun _ hk e => hk.2 (Option.some.inj e))) (fun _ hk => hk.1)); have n5_ := Aside0.mk (Kd.R_mono (Kd.R_grown (Kd.R_types K8.out BK0.out (by decide)) hg_ (fun _ hk e => hk.2 (Option.some.inj e))) (fun _ hk => hk.1)); have n6_ := Aside0.mk (Kd.R_mono (Kd.R_grown (Kd.R_types K10.out BK0.out (by decide)) hg_ (fun _ hk e => hk.2 (Option.some.inj e))) (fun _ hk => hk.1)); have n7_ := Aside0.mk (hbox); have n8_ := Aside0.mk (Below.grown HB.out hg_ (below_size HB.out) (fun k e => by rw [← Option.some.inj e]; exact GW0.out)); clear BK1 BK2 BK3 BK4 K1 K8 K10 BK0 HB; have BK1 := n0_; have BK2 := n1_; have BK3 := n2_; have BK4 := n3_; have K1 := n4_; have K8 := n5_; have K10 := n6_; have BK0 := n7_; have HB := n8_; clear n0_ n1_ n2_ n3_ n4_ n5_ n6_ n7_ n8_; clear hg_ hbox; have hcz46 : w14.cell? ⟨g0, 0, none⟩ = some (.string a0_0) := (blk_cell BK0.out 0).trans rfl; have hcz47 : w14.cell? ⟨g0, 1, none⟩ = some (.slice B1 l0_1.length d1) := (blk_cell BK0.out 1).trans rfl; have hcz48 : w14.cell? ⟨g0, 2, none⟩ = some (.string a0_2) := (blk_cell BK0.out 2).trans rfl; have hcz49 : w14.cell? ⟨g0, 3, none⟩ = some (.string a0_3) := (blk_cell BK0.out 3).trans rfl; have hcz50 : w14.cell? ⟨g0, 4, none⟩ = some (.string a0_4) := (blk_cell BK0.out 4).trans rfl; have hcz51 : w14.cell? ⟨g0, 5, none⟩ = some (.int .i64 a0_5) := (blk_cell BK0.out 5).trans rfl; have hcz52 : w14.cell? ⟨g0, 6, none⟩ = some (.string a0_6) := (blk_cell BK0.out 6).trans rfl; have hcz53 : w14.cell? ⟨g0, 7, none⟩ = some (.int .i64 a0_7) := (blk_cell BK0.out 7).trans rfl; have hcz54 : w14.cell? ⟨g0, 8, none⟩ = some (.slice BY (keepL (fun x : S39 => (newsF l1_5).any fun n => sameB n.f0 x.f0) l0_8 ++ newsF l1_5).length dY) := (blk_cell BK0.out 8).trans rfl; have hcz55 : w14.cell? ⟨g0, 9, none⟩ = some (.string a0_9) := (blk_cell BK0.out 9).trans rfl; have hcz56 : w14.cell? ⟨g0, 10, none⟩ = some (.slice B10 l0_10.length d10) := (blk_cell BK0.out 10).trans rfl; have hcz57 : w14.cell? ⟨g0, 11, none⟩ = some (.int .i64 a2_0) := (blk_cell BK0.out 11).trans rfl; have hcz58 : w14.cell? ⟨g0, 12, none⟩ = some (.int .i64 a2_1) := (blk_cell BK0.out 12).trans rfl; have hcz59 : w14.cell? ⟨g0, 13, none⟩ = some (.int .i64 a2_2) := (blk_cell BK0.out 13).trans rfl; have hcz60 : w14.cell? ⟨g0, 14, none⟩ = some (.int .i64 a2_3) := (blk_cell BK0.out 14).trans rfl) | ((with_reducible refine gate_store (t := 34) (p := 6) rfl ?_); clear hcz46 hcz47 hcz48 hcz49 hcz50 hcz51 hcz52 hcz53 hcz54 hcz55 hcz56 hcz57 hcz58 hcz59 hcz60; have hcz61 : w14.cell? ⟨g3, 0, none⟩ = some (.string (⟨#[]⟩ : ByteArray)) := (blk_cell BK3.out 0).trans rfl; have hfz61 := blk_frozen BK3.out 0; have hcz62 : w14.cell? ⟨g3, 1, none⟩ = some (.slice none 0 0) := (blk_cell BK3.out 1).trans rfl; have hfz62 := blk_frozen BK3.out 1; have hcz63 : w14.cell? ⟨g3, 2, none⟩ = some (.string (⟨#[]⟩ : ByteArray)) := (blk_cell BK3.out 2).trans rfl; have hfz63 := blk_frozen BK3.out 2; have hcz64 : w14.cell? ⟨g3, 3, none⟩ = some (.string (⟨#[]⟩ : ByteArray)) := (blk_cell BK3.out 3).trans rfl; have hfz64 := blk_frozen BK3.out 3; have hcz65 : w14.cell? ⟨g3, 4, none⟩ = some (.string (⟨#[]⟩ : ByteArray)) := (blk_cell BK3.out 4).trans rfl; have hfz65 := blk_frozen BK3.out 4; have hcz66 : w14.cell? ⟨g3, 5, none⟩ = some (.int .i64 0) := (blk_cell BK3.out 5).trans rfl; have hfz66 := blk_frozen BK3.out 5; have hcz67 : w14.cell? ⟨g3, 6, none⟩ = some (.string (⟨#[]⟩ : ByteArray)) := (blk_cell BK3.out 6).trans rfl; have hfz67 := blk_frozen BK3.out 6; have hcz68 : w14.cell? ⟨g3, 7, none⟩ = some (.int .i64 0) := (blk_cell BK3.out 7).trans rfl; have hfz68 := blk_frozen BK3.out 7; have hcz69 : w14.cell? ⟨g3, 8, none⟩ = some (.slice none 0 0) := (blk_cell BK3.out 8).trans rfl; have hfz69 := blk_frozen BK3.out 8; have hcz70 : w14.cell? ⟨g3, 9, none⟩ = some (.string (⟨#[]⟩ : ByteArray)) := (blk_cell BK3.out 9).trans rfl; have hfz70 := blk_frozen BK3.out 9; have hcz71 : w14.cell? ⟨g3, 10, none⟩ = some (.slice none 0 0) := (blk_cell BK3.out 10).trans rfl; have hfz71 := blk_frozen BK3.out 10; have hcz72 : w14.cell? ⟨g3, 11, none⟩ = some (.int .i64 0) := (blk_cell BK3.out 11).trans rfl; have hfz72 := blk_frozen BK3.out 11; have hcz73 : w14.cell? ⟨g3, 12, none⟩ = some (.int .i64 0) := (blk_cell BK3.out 12).trans rfl; have hfz73 := blk_frozen BK3.out 12; have hcz74 : w14.cell? ⟨g3, 13, none⟩ = some (.int .i64 0) := (blk_cell BK3.out 13).trans rfl; have hfz74 := blk_frozen BK3.out 13; have hcz75 : w14.cell? ⟨g3, 14, none⟩ = some (.int .i64 0) := (blk_cell BK3.out 14).trans rfl; have hfz75 := blk_frozen BK3.out 14; refine stored_event (t := 34) (p := 6) (v := ?vo6) (w1 := (((((((((((((((w14.setCell ⟨g3, 0, none⟩ (.string a0_0)).setCell ⟨g3, 1, none⟩ (.slice B1 l0_1.length d1)).setCell ⟨g3, 2, none⟩ (.string a0_2)).setCell ⟨g3, 3, none⟩ (.string a0_3)).setCell ⟨g3, 4, none⟩ (.string a0_4)).setCell ⟨g3, 5, none⟩ (.int .i64 a0_5)).setCell ⟨g3, 6, none⟩ (.string a0_6)).setCell ⟨g3, 7, none⟩ (.int .i64 a0_7)).setCell ⟨g3, 8, none⟩ (.slice BY (keepL (fun x : S39 => (newsF l1_5).any fun n => sameB n.f0 x.f0) l0_8 ++ newsF l1_5).length dY)).setCell ⟨g3, 9, none⟩ (.string a0_9)).setCell ⟨g3, 10, none⟩ (.slice B10 l0_10.length d10)).setCell ⟨g3, 11, none⟩ (.int .i64 a2_0)).setCell ⟨g3, 12, none⟩ (.int .i64 a2_1)).setCell ⟨g3, 13, none⟩ (.int .i64 a2_2)).setCell ⟨g3, 14, none⟩ (.int .i64 a2_3))) (g := g3) (cs := #[.string a0_0, .slice B1 l0_1.length d1, .string a0_2, .string a0_3, .string a0_4, .int .i64 a0_5, .string a0_6, .int .i64 a0_7, .slice BY (keepL (fun x : S39 => (newsF l1_5).any fun n => sameB n.f0 x.f0) l0_8 ++ newsF l1_5).length dY, .string a0_9, .slice B10 l0_10.length d10, .int .i64 a2_0, .int .i64 a2_1, .int .i64 a2_2, .int .i64 a2_3]) (T := 34) ?hg ?ho ?hn ?hr ?hw ?hb ?_; (case ho => rfl); (case hg => rfl); (case hn => rfl); (case hr => first | (go_simp; done) | (go_simp; rfl)); (case hw => exact World.grownBy.trans (World.grownBy.trans (World.grownBy.trans (World.grownBy.trans (World.grownBy.trans (World.grownBy.trans (World.grownBy.trans (World.grownBy.trans (World.grownBy.trans (World.grownBy.trans (World.grownBy.trans (World.grownBy.trans (World.grownBy.trans (World.grownBy.trans (setGrown _ _ _ _) (setGrown _ _ _ _)) (setGrown _ _ _ _)) (setGrown _ _ _ _)) (setGrown _ _ _ _)) (setGrown _ _ _ _)) (setGrown _ _ _ _)) (setGrown _ _ _ _)) (setGrown _ _ _ _)) (setGrown _ _ _ _)) (setGrown _ _ _ _)) (setGrown _ _ _ _)) (setGrown _ _ _ _)) (setGrown _ _ _ _)) (setGrown _ _ _ _)); (case hb => exact blk_put (cs := #[.string a0_0, .slice B1 l0_1.length d1, .string a0_2, .string a0_3, .string a0_4, .int .i64 a0_5, .string a0_6, .int .i64 a0_7, .slice BY (keepL (fun x : S39 => (newsF l1_5).any fun n => sameB n.f0 x.f0) l0_8 ++ newsF l1_5).length dY, .string a0_9, .slice B10 l0_10.length d10, .int .i64 a2_0, .int .i64 a2_1, .int .i64 a2_2, .int .i64 0]) (blk_put (cs := #[.string a0_0, .slice B1 l0_1.length d1, .string a0_2, .string a0_3, .string a0_4, .int .i64 a0_5, .string a0_6, .int .i64 a0_7, .slice BY (keepL (fun x : S39 => (newsF l1_5).any fun n => sameB n.f0 x.f0) l0_8 ++ newsF l1_5).length dY, .string a0_9, .slice B10 l0_10.length d10, .int .i64 a2_0, .int .i64 a2_1, .int .i64 0, .int .i64 0]) (blk_put (cs := #[.string a0_0, .slice B1 l0_1.length d1, .string a0_2, .string a0_3, .string a0_4, .int .i64 a0_5, .string a0_6, .int .i64 a0_7, .slice BY (keepL (fun x : S39 => (newsF l1_5).any fun n => sameB n.f0 x.f0) l0_8 ++ newsF l1_5).length dY, .string a0_9, .slice B10 l0_10.length d10, .int .i64 a2_0, .int .i64 0, .int .i64 0, .int .i64 0]) (blk_put (cs := #[.string a0_0, .slice B1 l0_1.length d1, .string a0_2, .string a0_3, .string a0_4, .int .i64 a0_5, .string a0_6, .int .i64 a0_7, .slice BY (keepL (fun x : S39 => (newsF l1_5).any fun n => sameB n.f0 x.f0) l0_8 ++ newsF l1_5).length dY, .string a0_9, .slice B10 l0_10.length d10, .int .i64 0, .int .i64 0, .int .i64 0, .int .i64 0]) (blk_put (cs := #[.string a0_0, .slice B1 l0_1.length d1, .string a0_2, .string a0_3, .string a0_4, .int .i64 a0_5, .string a0_6, .int .i64 a0_7, .slice BY (keepL (fun x : S39 => (newsF l1_5).any fun n => sameB n.f0 x.f0) l0_8 ++ newsF l1_5).length dY, .string a0_9, .slice none 0 0, .int .i64 0, .int .i64 0, .int .i64 0, .int .i64 0]) (blk_put (cs := #[.string a0_0, .slice B1 l0_1.length d1, .string a0_2, .string a0_3, .string a0_4, .int .i64 a0_5, .string a0_6, .int .i64 a0_7, .slice BY (keepL (fun x : S39 => (newsF l1_5).any fun n => sameB n.f0 x.f0) l0_8 ++ newsF l1_5).length dY, .string (⟨#[]⟩ : ByteArray), .slice none 0 0, .int .i64 0, .int .i64 0, .int .i64 0, .int .i64 0]) (blk_put (cs := #[.string a0_0, .slice B1 l0_1.length d1, .string a0_2, .string a0_3, .string a0_4, .int .i64 a0_5, .string a0_6, .int .i64 a0_7, .slice none 0 0, .string (⟨#[]⟩ : ByteArray), .slice none 0 0, .int .i64 0, .int .i64 0, .int .i64 0, .int .i64 0]) (blk_put (cs := #[.string a0_0, .slice B1 l0_1.length d1, .string a0_2, .string a0_3, .string a0_4, .int .i64 a0_5, .string a0_6, .int .i64 0, .slice none 0 0, .string (⟨#[]⟩ : ByteArray), .slice none 0 0, .int .i64 0, .int .i64 0, .int .i64 0, .int .i64 0]) (blk_put (cs := #[.string a0_0, .slice B1 l0_1.length d1, .string a0_2, .string a0_3, .string a0_4, .int .i64 a0_5, .string (⟨#[]⟩ : ByteArray), .int .i64 0, .slice none 0 0, .string (⟨#[]⟩ : ByteArray), .slice none 0 0, .int .i64 0, .int .i64 0, .int .i64 0, .int .i64 0]) (blk_put (cs := #[.string a0_0, .slice B1 l0_1.length d1, .string a0_2, .string a0_3, .string a0_4, .int .i64 0, .string (⟨#[]⟩ : ByteArray), .int .i64 0, .slice none 0 0, .string (⟨#[]⟩ : ByteArray), .slice none 0 0, .int .i64 0, .int .i64 0, .int .i64 0, .int .i64 0]) (blk_put (cs := #[.string a0_0, .slice B1 l0_1.length d1, .string a0_2, .string a0_3, .string (⟨#[]⟩ : ByteArray), .int .i64 0, .string (⟨#[]⟩ : ByteArray), .int .i64 0, .slice none 0 0, .string (⟨#[]⟩ : ByteArray), .slice none 0 0, .int .i64 0, .int .i64 0, .int .i64 0, .int .i64 0]) (blk_put (cs := #[.string a0_0, .slice B1 l0_1.length d1, .string a0_2, .string (⟨#[]⟩ : ByteArray), .string (⟨#[]⟩ : ByteArray), .int .i64 0, .string (⟨#[]⟩ : ByteArray), .int .i64 0, .slice none 0 0, .string (⟨#[]⟩ : ByteArray), .slice none 0 0, .int .i64 0, .int .i64 0, .int .i64 0, .int .i64 0]) (blk_put (cs := #[.string a0_0, .slice B1 l0_1.length d1, .string (⟨#[]⟩ : ByteArray), .string (⟨#[]⟩ : ByteArray), .string (⟨#[]⟩ : ByteArray), .int .i64 0, .string (⟨#[]⟩ : ByteArray), .int .i64 0, .slice none 0 0, .string (⟨#[]⟩ : ByteArray), .slice none 0 0, .int .i64 0, .int .i64 0, .int .i64 0, .int .i64 0]) (blk_put (cs := #[.string a0_0, .slice none 0 0, .string (⟨#[]⟩ : ByteArray), .string (⟨#[]⟩ : ByteArray), .string (⟨#[]⟩ : ByteArray), .int .i64 0, .string (⟨#[]⟩ : ByteArray), .int .i64 0, .slice none 0 0, .string (⟨#[]⟩ : ByteArray), .slice none 0 0, .int .i64 0, .int .i64 0, .int .i64 0, .int .i64 0]) (blk_put (cs := #[.string (⟨#[]⟩ : ByteArray), .slice none 0 0, .string (⟨#[]⟩ : ByteArray), .string (⟨#[]⟩ : ByteArray), .string (⟨#[]⟩ : ByteArray), .int .i64 0, .string (⟨#[]⟩ : ByteArray), .int .i64 0, .slice none 0 0, .string (⟨#[]⟩ : ByteArray), .slice none 0 0, .int .i64 0, .int .i64 0, .int .i64 0, .int .i64 0]) (BK3.out) 0 (.string a0_0) rfl) 1 (.slice B1 l0_1.length d1) rfl) 2 (.string a0_2) rfl) 3 (.string a0_3) rfl) 4 (.string a0_4) rfl) 5 (.int .i64 a0_5) rfl) 6 (.string a0_6) rfl) 7 (.int .i64 a0_7) rfl) 8 (.slice BY (keepL (fun x : S39 => (newsF l1_5).any fun n => sameB n.f0 x.f0) l0_8 ++ newsF l1_5).length dY) rfl) 9 (.string a0_9) rfl) 10 (.slice B10 l0_10.length d10) rfl) 11 (.int .i64 a2_0) rfl) 12 (.int .i64 a2_1) rfl) 13 (.int .i64 a2_2) rfl) 14 (.int .i64 a2_3) rfl); intro w15 hg_ hbox; clear hcz61 hfz61 hcz62 hfz62 hcz63 hfz63 hcz64 hfz64 hcz65 hfz65 hcz66 hfz66 hcz67 hfz67 hcz68 hfz68 hcz69 hfz69 hcz70 hfz70 hcz71 hfz71 hcz72 hfz72 hcz73 hfz73 hcz74 hfz74 hcz75 hfz75; have n0_ := Aside0.mk (blk_grown BK0.out hg_ (fun e => NB0_3.out (Option.some.inj e))); have n1_ := Aside0.mk (blk_grown BK1.out hg_ (fun e => NB1_3.out (Option.some.inj e))); have n2_ := Aside0.mk (blk_grown BK2.out hg_ (fun e => NB2_3.out (Option.some.inj e))); have n3_ := Aside0.mk (blk_grown BK4.out hg_ (fun e => (Ne.symm NB3_4.out) (Option.some.inj e))); have n4_ := Aside0.mk (Kd.R_mono (Kd.R_grown (Kd.R_types K1.out BK3.out (by decide)) hg_ (fun _ hk e => hk.2 (Option.some.inj e))) (fun _ hk => hk.1)); have n5_ := Aside0.mk (Kd.R_mono (Kd.R_grown (Kd.R_types K8.out BK3.out (by decide)) hg_ (fun _ hk e => hk.2 (Option.some.inj e))) (fun _ hk => hk.1)); have n6_ := Aside0.mk (Kd.R_mono (Kd.R_grown (Kd.R_types K10.out BK3.out (by decide)) hg_ (fun _ hk e => hk.2 (Option.some.inj e))) (fun _ hk => hk.1)); have n7_ := Aside0.mk (hbox); have n8_ := Aside0.mk (Below.grown HB.out hg_ (below_size HB.out) (fun k e => by rw [← Option.some.inj e]; exact GW3.out)); clear BK0 BK1 BK2 BK4 K1 K8 K10 BK3 HB; have BK0 := n0_; have BK1 := n1_; have BK2 := n2_; have BK4 := n3_; have K1 := n4_; have K8 := n5_; have K10 := n6_; have BK3 := n7_; have HB := n8_; clear n0_ n1_ n2_ n3_ n4_ n5_ n6_ n7_ n8_; clear hg_ hbox; have hcz76 : w15.cell? ⟨g3, 0, none⟩ = some (.string a0_0) := (blk_cell BK3.out 0).trans rfl; have hcz77 : w15.cell? ⟨g3, 1, none⟩ = some (.slice B1 l0_1.length d1) := (blk_cell BK3.out 1).trans rfl; have hcz78 : w15.cell? ⟨g3, 2, none⟩ = some (.string a0_2) := (blk_cell BK3.out 2).trans rfl; have hcz79 : w15.cell? ⟨g3, 3, none⟩ = some (.string a0_3) := (blk_cell BK3.out 3).trans rfl; have hcz80 : w15.cell? ⟨g3, 4, none⟩ = some (.string a0_4) := (blk_cell BK3.out 4).trans rfl; have hcz81 : w15.cell? ⟨g3, 5, none⟩ = some (.int .i64 a0_5) := (blk_cell BK3.out 5).trans rfl; have hcz82 : w15.cell? ⟨g3, 6, none⟩ = some (.string a0_6) := (blk_cell BK3.out 6).trans rfl; have hcz83 : w15.cell? ⟨g3, 7, none⟩ = some (.int .i64 a0_7) := (blk_cell BK3.out 7).trans rfl; have hcz84 : w15.cell? ⟨g3, 8, none⟩ = some (.slice BY (keepL (fun x : S39 => (newsF l1_5).any fun n => sameB n.f0 x.f0) l0_8 ++ newsF l1_5).length dY) := (blk_cell BK3.out 8).trans rfl; have hcz85 : w15.cell? ⟨g3, 9, none⟩ = some (.string a0_9) := (blk_cell BK3.out 9).trans rfl; have hcz86 : w15.cell? ⟨g3, 10, none⟩ = some (.slice B10 l0_10.length d10) := (blk_cell BK3.out 10).trans rfl; have hcz87 : w15.cell? ⟨g3, 11, none⟩ = some (.int .i64 a2_0) := (blk_cell BK3.out 11).trans rfl; have hcz88 : w15.cell? ⟨g3, 12, none⟩ = some (.int .i64 a2_1) := (blk_cell BK3.out 12).trans rfl; have hcz89 : w15.cell? ⟨g3, 13, none⟩ = some (.int .i64 a2_2) := (blk_cell BK3.out 13).trans rfl; have hcz90 : w15.cell? ⟨g3, 14, none⟩ = some (.int .i64 a2_3) := (blk_cell BK3.out 14).trans rfl))
  refine bodyPost_ret (results_cell_row rfl _ _ g3 34 #[.string a0_0, .slice B1 l0_1.length d1, .string a0_2, .string a0_3, .string a0_4, .int .i64 a0_5, .string a0_6, .int .i64 a0_7, .slice BY (keepL (fun x : S39 => (newsF l1_5).any fun n => sameB n.f0 x.f0) l0_8 ++ newsF l1_5).length dY, .string a0_9, .slice B10 l0_10.length d10, .int .i64 a2_0, .int .i64 a2_1, .int .i64 a2_2, .int .i64 a2_3] (0, 0) _ rfl BK3.out Try.underlying34 rfl (by kernel_rfl)) rfl ?_
  exact ⟨_, _, _, rfl, K1.out, K8.out, K10.out, HB.out⟩

end Go.Proofs.Ytjlnpgehfgonpaa.PReviseStays
