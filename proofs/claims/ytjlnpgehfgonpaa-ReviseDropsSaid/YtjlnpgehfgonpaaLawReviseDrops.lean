/- The row of the law ReviseDrops, out of its pure statement and of the walk: for every input that can be read the law returns true, and each argument reads as before. -/
import Derived.Test.YtjlnpgehfgonpaaRows
import Derived.Test.YtjlnpgehfgonpaaRd
import Derived.Test.YtjlnpgehfgonpaaPReviseDropsx6
import Derived.Test.YtjlnpgehfgonpaaPureReviseDrops
import Derived.WalkKit
import Derived.ProofKit
import Derived.OpenShut
import Derived.ShutString
import Derived.ChangeOld
import Derived.Below
import Derived.SizedLaws
import Derived.Test.YtjlnpgehfgonpaaWSized
namespace Go.Proofs.Ytjlnpgehfgonpaa.reviseDrops
open Go.ChangeShapes Go.WideShapes Go.ChangeAt Go.RowKit Go.Proofs.Ytjlnpgehfgonpaa.PReviseDrops Go.Proofs.YtjlnpgehfgonpaaW.PrintWords Go.Proofs.Ytjlnpgehfgonpaa
open Go.ChangeMaps (open_string shut_string)
set_option linter.unusedVariables false
set_option linter.unusedSimpArgs false
theorem own : ownKnob Try.prog.godebug = none := by kernel_rfl
theorem laidOut : laidOutB Try.prog = true := by kernel_rfl
theorem rd9 : Rd.Is Try.prog Kd.string (fun x_ => x_.size ≤ 9223372036854775807) 9 := (Rd.string Try.underlying9)
theorem rd39 : Rd.Is Try.prog k39 (fun x_ => (x_.f0.size ≤ 9223372036854775807) ∧ (x_.f1.size ≤ 9223372036854775807)) 39 := (Rd.iso (fun x : S39 => (x.f0, x.f1)) (fun v => ⟨v.1, v.2⟩) (fun _ => rfl) (Rd.struct Try.underlying39 (by kernel_rfl) (Rd.cons rfl rfl (by kernel_rfl) rd9 (Rd.last rfl rfl (by kernel_rfl) rd9))))
theorem rd22 : Rd.Is Try.prog (Kd.slice 39 k39) (fun x_ => (∀ y_ ∈ x_, (y_.f0.size ≤ 9223372036854775807) ∧ (y_.f1.size ≤ 9223372036854775807)) ∧ x_.length ≤ 9223372036854775807) 22 := (Rd.slice z39 Try.underlying22 rd39 (by kernel_rfl))
set_option maxRecDepth 100000 in
theorem lifted (os : Os) (started : os.Started) (H : Type) (enc : TypeId × Value → H) :
    ReturnsInHanded {} Try.checked os 3 .any (Rows.reviseDropsSpec.pre6 enc Try.prog Try.f3 Rows.reviseDropsRow.domain false) (Rows.reviseDropsSpec.post enc Try.prog Try.f3 false true false false) := by
  refine returnsInHanded_of_change_sized (C := Try.checked) own started (by kernel_rfl) Try.func3
    (ChangeSpec.witness6 (enc := enc) (C := Try.checked) false ⟨#[], #[.string ByteArray.empty, .int .i64 0, .string ByteArray.empty, .string ByteArray.empty, .slice none 0 0], []⟩ 8 (by kernel_rfl) (by kernel_rfl) (by kernel_rfl) (by kernel_rfl)) ?_
  intro W base args ds gs before hval0 hW hcnd hsz0 _
  have hsz : (DataW.weightsEach Try.prog (Try.f3.params.toList ++ Rows.reviseDropsSpec.plain.varTypes Try.prog) (ds ++ gs)).all (· ≤ reachBytes) = true := hsz0
  have hval : ∀ (j : Nat) t v, Try.f3.params[j]? = some t → args[j]? = some v → Value.okWide Try.prog W .any base t v := hval0
  have hW' := hW
  obtain ⟨p, q, hA0, hV, rfl, hfz, hnd⟩ := hW
  have hA : DataW.TrodAll enc Try.prog W 0 (fun _ => true) true Try.f3.params.toList args.toList ds p := hA0
  rw [Try.params3] at hA hval hsz
  obtain ⟨v0, vs0, d0, ds0, p0, q0, hargs, rfl, rfl, h0, r0⟩ := trodAll_cons hA
  obtain ⟨v1, vs1, d1, ds1, p1, q1, rfl, rfl, rfl, h1, r1⟩ := trodAll_cons r0
  obtain ⟨v2, vs2, d2, ds2, p2, q2, rfl, rfl, rfl, h2, r2⟩ := trodAll_cons r1
  obtain ⟨v3, vs3, d3, ds3, p3, q3, rfl, rfl, rfl, h3, r3⟩ := trodAll_cons r2
  obtain ⟨v4, vs4, d4, ds4, p4, q4, rfl, rfl, rfl, h4, r4⟩ := trodAll_cons r3
  obtain ⟨rfl, rfl, rfl⟩ := trodAll_nil r4
  obtain rfl : args = #[v0, v1, v2, v3, v4] := by cases args; simp_all
  obtain ⟨rfl, rfl⟩ := trodVars_none hV
  obtain ⟨a0, rfl, rfl, rfl, y0⟩ := open_string Try.underlying9 (hval 0 9 v0 rfl rfl) h0
  have w0 : a0.size ≤ 140737488351232 := by
    have z := sized_string hsz (j := 0) (t := 9) rfl rfl
    rw [Array.length_toList] at z
    exact z
  obtain ⟨a1, rfl, rfl, rfl, w1⟩ := open_int Try.underlying3 (hval 1 3 v1 rfl rfl) h1
  obtain ⟨a2, rfl, rfl, rfl, y2⟩ := open_string Try.underlying9 (hval 2 9 v2 rfl rfl) h2
  have w2 : a2.size ≤ 140737488351232 := by
    have z := sized_string hsz (j := 2) (t := 9) rfl rfl
    rw [Array.length_toList] at z
    exact z
  obtain ⟨a3, rfl, rfl, rfl, y3⟩ := open_string Try.underlying9 (hval 3 9 v3 rfl rfl) h3
  have w3 : a3.size ≤ 140737488351232 := by
    have z := sized_string hsz (j := 3) (t := 9) rfl rfl
    rw [Array.length_toList] at z
    exact z
  obtain ⟨A4, n4, c4, rfl⟩ := okWide_slice Try.underlying22 (hval 4 22 v4 rfl rfl)
  have k4 := h4
  have lt4 : ∀ x ∈ p4, x.block < W.heap.size := by obtain ⟨m, hm⟩ := k4; exact DataW.trod_lt m _ _ _ hm
  obtain ⟨l4, K4, y4⟩ : ∃ l : List (S39), (Kd.slice 39 k39).K W l (Value.cells (.slice A4 n4 c4)).toList ∧ ((∀ y_ ∈ l, (y_.f0.size ≤ 9223372036854775807) ∧ (y_.f1.size ≤ 9223372036854775807)) ∧ l.length ≤ 9223372036854775807) := by obtain ⟨fuel, hf⟩ := h4; exact rd22 H enc W _ _ fuel _ _ hf
  obtain ⟨rfl, C4, R4⟩ := Rd.slice_arg K4
  clear hA0 hval0 hsz0 hsz
  obtain ⟨k, h⟩ := Pure.ReviseDrops a0 a1 a2 a3 l4 w0 w1 w2 w3 y4
  refine (halfwayhouselaw17_ReviseDrops.calls k a0 a1 a2 a3 A4 c4 l4 true W R4 C4 h).mono fun e W' ⟨he, bel0⟩ => ?_
  have bel : Below W.heap.size W W' := bel0
  subst he
  exact ⟨_, rfl, _, _, _, [], _, [], hW', trodAll_mk1 (shut_bool Try.underlying4 _), (trodAll_cons_mk (shut_string Try.underlying9 y0) (trodAll_cons_mk (shut_int Try.underlying3 w1) (trodAll_cons_mk (shut_string Try.underlying9 y2) (trodAll_cons_mk (shut_string Try.underlying9 y3) (trodAll_cons_mk (Below.trod laidOut (by kernel_rfl) (of_decide_eq_true (by kernel_rfl)) k4 bel lt4) trodAll_mk0))))), rfl, bel.frame _, fun h => by cases h⟩
theorem over : Rows.reviseDropsRow.holds Try.pinned (OpenSpec.ofChange Rows.reviseDropsSpec) :=
  OpenClaim.holds_of_wide 3 Try.f3 rfl rfl rfl rfl rfl rfl rfl ⟨rfl, rfl, rfl, rfl, rfl⟩ rfl rfl rfl rfl rfl (by kernel_rfl) Try.func3 (by kernel_rfl)
    (of_decide_eq_true (by kernel_rfl)) (by unfold Func.isWrapper; first | (rw [if_pos (by decide +kernel)]; kernel_rfl) | (rw [if_neg (by decide +kernel)]; exact ⟨rfl, rfl⟩))
    (fun os started H enc _ => lifted os started H enc)
theorem proved : Rows.ReviseDropsSaid := over
#print axioms proved
end Go.Proofs.Ytjlnpgehfgonpaa.reviseDrops
namespace Go.Proofs.Ytjlnpgehfgonpaa
/-- The row, under a short name, for the claim. -/
theorem reviseDrops_holds : Rows.ReviseDropsSaid := reviseDrops.proved
end Go.Proofs.Ytjlnpgehfgonpaa
