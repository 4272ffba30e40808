/- The row of the law ReviseStays, out of its pure statement and of the walk: for every input that can be read the law returns true, and each argument reads as before. -/
import Derived.Test.YtjlnpgehfgonpaaRows
import Derived.Test.YtjlnpgehfgonpaaRd
import Derived.Test.YtjlnpgehfgonpaaPReviseStaysx9
import Derived.Test.YtjlnpgehfgonpaaPureReviseStays
import Derived.WalkKit
import Derived.ProofKit
import Derived.OpenShut
import Derived.ShutString
import Derived.ChangeOld
import Derived.Below
import Derived.SizedLaws
import Derived.Test.YtjlnpgehfgonpaaWSized
namespace Go.Proofs.Ytjlnpgehfgonpaa.reviseStays
open Go.ChangeShapes Go.WideShapes Go.ChangeAt Go.RowKit Go.Proofs.Ytjlnpgehfgonpaa.PReviseStays Go.Proofs.YtjlnpgehfgonpaaW.PrintWords Go.Proofs.Ytjlnpgehfgonpaa
open Go.ChangeMaps (open_string shut_string)
set_option linter.unusedVariables false
set_option linter.unusedSimpArgs false
theorem own : ownKnob Try.prog.godebug = none := by kernel_rfl
theorem laidOut : laidOutB Try.prog = true := by kernel_rfl
theorem rd9 : Rd.Is Try.prog Kd.string (fun x_ => x_.size ≤ 9223372036854775807) 9 := (Rd.string Try.underlying9)
theorem rd25 : Rd.Is Try.prog (Kd.slice 9 Kd.string) (fun x_ => (∀ y_ ∈ x_, y_.size ≤ 9223372036854775807) ∧ x_.length ≤ 9223372036854775807) 25 := (Rd.slice (⟨#[]⟩ : ByteArray) Try.underlying25 rd9 (by kernel_rfl))
theorem rd3 : Rd.Is Try.prog (Kd.int .i64) (fun x_ => (Lit.int .i64 x_).wf = true) 3 := (Rd.int Try.underlying3)
theorem rd39 : Rd.Is Try.prog k39 (fun x_ => (x_.f0.size ≤ 9223372036854775807) ∧ (x_.f1.size ≤ 9223372036854775807)) 39 := (Rd.iso (fun x : S39 => (x.f0, x.f1)) (fun v => ⟨v.1, v.2⟩) (fun _ => rfl) (Rd.struct Try.underlying39 (by kernel_rfl) (Rd.cons rfl rfl (by kernel_rfl) rd9 (Rd.last rfl rfl (by kernel_rfl) rd9))))
theorem rd22 : Rd.Is Try.prog (Kd.slice 39 k39) (fun x_ => (∀ y_ ∈ x_, (y_.f0.size ≤ 9223372036854775807) ∧ (y_.f1.size ≤ 9223372036854775807)) ∧ x_.length ≤ 9223372036854775807) 22 := (Rd.slice z39 Try.underlying22 rd39 (by kernel_rfl))
theorem rd30 : Rd.Is Try.prog k30 (fun x_ => (x_.f0.size ≤ 9223372036854775807) ∧ (x_.f1.size ≤ 9223372036854775807) ∧ ((Lit.int .i64 x_.f2).wf = true) ∧ (x_.f3.size ≤ 9223372036854775807) ∧ ((Lit.int .i64 x_.f4).wf = true) ∧ ((∀ y_ ∈ x_.f5, (y_.f0.size ≤ 9223372036854775807) ∧ (y_.f1.size ≤ 9223372036854775807)) ∧ x_.f5.length ≤ 9223372036854775807) ∧ (x_.f6.size ≤ 9223372036854775807) ∧ ((∀ y_ ∈ x_.f7, (y_.f0.size ≤ 9223372036854775807) ∧ (y_.f1.size ≤ 9223372036854775807)) ∧ x_.f7.length ≤ 9223372036854775807)) 30 := (Rd.iso (fun x : S30 => (x.f0, x.f1, x.f2, x.f3, x.f4, x.f5, x.f6, x.f7)) (fun v => ⟨v.1, v.2.1, v.2.2.1, v.2.2.2.1, v.2.2.2.2.1, v.2.2.2.2.2.1, v.2.2.2.2.2.2.1, v.2.2.2.2.2.2.2⟩) (fun _ => rfl) (Rd.struct Try.underlying30 (by kernel_rfl) (Rd.cons rfl rfl (by kernel_rfl) rd9 (Rd.cons rfl rfl (by kernel_rfl) rd9 (Rd.cons rfl rfl (by kernel_rfl) rd3 (Rd.cons rfl rfl (by kernel_rfl) rd9 (Rd.cons rfl rfl (by kernel_rfl) rd3 (Rd.cons rfl rfl (by kernel_rfl) rd22 (Rd.cons rfl rfl (by kernel_rfl) rd9 (Rd.last rfl rfl (by kernel_rfl) rd22))))))))))
theorem rd2 : Rd.Is Try.prog (Kd.int .i64) (fun x_ => (Lit.int .i64 x_).wf = true) 2 := (Rd.int Try.underlying2)
theorem rd32 : Rd.Is Try.prog k32 (fun x_ => ((Lit.int .i64 x_.f0).wf = true) ∧ ((Lit.int .i64 x_.f1).wf = true) ∧ ((Lit.int .i64 x_.f2).wf = true) ∧ ((Lit.int .i64 x_.f3).wf = true)) 32 := (Rd.iso (fun x : S32 => (x.f0, x.f1, x.f2, x.f3)) (fun v => ⟨v.1, v.2.1, v.2.2.1, v.2.2.2⟩) (fun _ => rfl) (Rd.struct Try.underlying32 (by kernel_rfl) (Rd.cons rfl rfl (by kernel_rfl) rd2 (Rd.cons rfl rfl (by kernel_rfl) rd2 (Rd.cons rfl rfl (by kernel_rfl) rd2 (Rd.last rfl rfl (by kernel_rfl) rd2))))))
theorem rd34 : Rd.Is Try.prog k34 (fun x_ => (x_.f0.size ≤ 9223372036854775807) ∧ ((∀ y_ ∈ x_.f1, y_.size ≤ 9223372036854775807) ∧ x_.f1.length ≤ 9223372036854775807) ∧ (x_.f2.size ≤ 9223372036854775807) ∧ ((x_.f3.f0.size ≤ 9223372036854775807) ∧ (x_.f3.f1.size ≤ 9223372036854775807) ∧ ((Lit.int .i64 x_.f3.f2).wf = true) ∧ (x_.f3.f3.size ≤ 9223372036854775807) ∧ ((Lit.int .i64 x_.f3.f4).wf = true) ∧ ((∀ y_ ∈ x_.f3.f5, (y_.f0.size ≤ 9223372036854775807) ∧ (y_.f1.size ≤ 9223372036854775807)) ∧ x_.f3.f5.length ≤ 9223372036854775807) ∧ (x_.f3.f6.size ≤ 9223372036854775807) ∧ ((∀ y_ ∈ x_.f3.f7, (y_.f0.size ≤ 9223372036854775807) ∧ (y_.f1.size ≤ 9223372036854775807)) ∧ x_.f3.f7.length ≤ 9223372036854775807)) ∧ (((Lit.int .i64 x_.f4.f0).wf = true) ∧ ((Lit.int .i64 x_.f4.f1).wf = true) ∧ ((Lit.int .i64 x_.f4.f2).wf = true) ∧ ((Lit.int .i64 x_.f4.f3).wf = true))) 34 := (Rd.iso (fun x : S34 => (x.f0, x.f1, x.f2, x.f3, x.f4)) (fun v => ⟨v.1, v.2.1, v.2.2.1, v.2.2.2.1, v.2.2.2.2⟩) (fun _ => rfl) (Rd.struct Try.underlying34 (by kernel_rfl) (Rd.cons rfl rfl (by kernel_rfl) rd9 (Rd.cons rfl rfl (by kernel_rfl) rd25 (Rd.cons rfl rfl (by kernel_rfl) rd9 (Rd.cons rfl rfl (by kernel_rfl) rd30 (Rd.last rfl rfl (by kernel_rfl) rd32)))))))
set_option maxRecDepth 100000 in
theorem lifted (os : Os) (started : os.Started) (H : Type) (enc : TypeId × Value → H) :
    ReturnsInHanded {} Try.checked os 4 .any (Rows.reviseStaysSpec.pre6 enc Try.prog Try.f4 Rows.reviseStaysRow.domain false) (Rows.reviseStaysSpec.post enc Try.prog Try.f4 false true false false) := by
  refine returnsInHanded_of_change_sized (C := Try.checked) own started (by kernel_rfl) Try.func4
    (ChangeSpec.witness6 (enc := enc) (C := Try.checked) false ⟨#[], #[.agg #[(.string ⟨#[]⟩), (.slice none 0 0), (.string ⟨#[]⟩), (.string ⟨#[]⟩), (.string ⟨#[]⟩), (.int .i64 0), (.string ⟨#[]⟩), (.int .i64 0), (.slice none 0 0), (.string ⟨#[]⟩), (.slice none 0 0), (.int .i64 0), (.int .i64 0), (.int .i64 0), (.int .i64 0)], .agg #[(.string ⟨#[]⟩), (.string ⟨#[]⟩), (.int .i64 0), (.string ⟨#[]⟩), (.int .i64 0), (.slice none 0 0), (.string ⟨#[]⟩), (.slice none 0 0)], .agg #[(.int .i64 0), (.int .i64 0), (.int .i64 0), (.int .i64 0)]], []⟩ 8 (by kernel_rfl) (by kernel_rfl) (by kernel_rfl) (by kernel_rfl)) ?_
  intro W base args ds gs before hval0 hW hcnd hsz0 _
  have hsz : (DataW.weightsEach Try.prog (Try.f4.params.toList ++ Rows.reviseStaysSpec.plain.varTypes Try.prog) (ds ++ gs)).all (· ≤ reachBytes) = true := hsz0
  have hval : ∀ (j : Nat) t v, Try.f4.params[j]? = some t → args[j]? = some v → Value.okWide Try.prog W .any base t v := hval0
  have hW' := hW
  obtain ⟨p, q, hA0, hV, rfl, hfz, hnd⟩ := hW
  have hA : DataW.TrodAll enc Try.prog W 0 (fun _ => true) true Try.f4.params.toList args.toList ds p := hA0
  rw [Try.params4] at hA hval hsz
  obtain ⟨v0, vs0, d0, ds0, p0, q0, hargs, rfl, rfl, h0, r0⟩ := trodAll_cons hA
  obtain ⟨v1, vs1, d1, ds1, p1, q1, rfl, rfl, rfl, h1, r1⟩ := trodAll_cons r0
  obtain ⟨v2, vs2, d2, ds2, p2, q2, rfl, rfl, rfl, h2, r2⟩ := trodAll_cons r1
  obtain ⟨rfl, rfl, rfl⟩ := trodAll_nil r2
  obtain rfl : args = #[v0, v1, v2] := by cases args; simp_all
  obtain ⟨rfl, rfl⟩ := trodVars_none hV
  obtain ⟨cs0, rfl, z0⟩ := okWide_struct Try.underlying34 (hval 0 34 v0 rfl rfl)
  have k0 := h0
  have lt0 : ∀ x ∈ p0, x.block < W.heap.size := by obtain ⟨m, hm⟩ := k0; exact DataW.trod_lt m _ _ _ hm
  obtain ⟨x0, K0, y0⟩ : ∃ x : S34, k34.K W x cs0.toList ∧ ((x.f0.size ≤ 9223372036854775807) ∧ ((∀ y_ ∈ x.f1, y_.size ≤ 9223372036854775807) ∧ x.f1.length ≤ 9223372036854775807) ∧ (x.f2.size ≤ 9223372036854775807) ∧ ((x.f3.f0.size ≤ 9223372036854775807) ∧ (x.f3.f1.size ≤ 9223372036854775807) ∧ ((Lit.int .i64 x.f3.f2).wf = true) ∧ (x.f3.f3.size ≤ 9223372036854775807) ∧ ((Lit.int .i64 x.f3.f4).wf = true) ∧ ((∀ y_ ∈ x.f3.f5, (y_.f0.size ≤ 9223372036854775807) ∧ (y_.f1.size ≤ 9223372036854775807)) ∧ x.f3.f5.length ≤ 9223372036854775807) ∧ (x.f3.f6.size ≤ 9223372036854775807) ∧ ((∀ y_ ∈ x.f3.f7, (y_.f0.size ≤ 9223372036854775807) ∧ (y_.f1.size ≤ 9223372036854775807)) ∧ x.f3.f7.length ≤ 9223372036854775807)) ∧ (((Lit.int .i64 x.f4.f0).wf = true) ∧ ((Lit.int .i64 x.f4.f1).wf = true) ∧ ((Lit.int .i64 x.f4.f2).wf = true) ∧ ((Lit.int .i64 x.f4.f3).wf = true))) := by obtain ⟨fuel, hf⟩ := h0; exact rd34 H enc W _ _ fuel _ _ hf
  obtain ⟨A0_1, c0_1, A0_8, c0_8, A0_10, c0_10, E0, C0_1, R0_1, C0_8, R0_8, C0_10, R0_10⟩ := k34_open K0
  obtain rfl : cs0 = #[.string x0.f0, .slice A0_1 x0.f1.length c0_1, .string x0.f2, .string x0.f3.f0, .string x0.f3.f1, .int .i64 x0.f3.f2, .string x0.f3.f3, .int .i64 x0.f3.f4, .slice A0_8 x0.f3.f5.length c0_8, .string x0.f3.f6, .slice A0_10 x0.f3.f7.length c0_10, .int .i64 x0.f4.f0, .int .i64 x0.f4.f1, .int .i64 x0.f4.f2, .int .i64 x0.f4.f3] := by cases cs0; simpa using E0
  obtain ⟨cs1, rfl, z1⟩ := okWide_struct Try.underlying30 (hval 1 30 v1 rfl rfl)
  have k1 := h1
  have lt1 : ∀ x ∈ p1, x.block < W.heap.size := by obtain ⟨m, hm⟩ := k1; exact DataW.trod_lt m _ _ _ hm
  obtain ⟨x1, K1, y1⟩ : ∃ x : S30, k30.K W x cs1.toList ∧ ((x.f0.size ≤ 9223372036854775807) ∧ (x.f1.size ≤ 9223372036854775807) ∧ ((Lit.int .i64 x.f2).wf = true) ∧ (x.f3.size ≤ 9223372036854775807) ∧ ((Lit.int .i64 x.f4).wf = true) ∧ ((∀ y_ ∈ x.f5, (y_.f0.size ≤ 9223372036854775807) ∧ (y_.f1.size ≤ 9223372036854775807)) ∧ x.f5.length ≤ 9223372036854775807) ∧ (x.f6.size ≤ 9223372036854775807) ∧ ((∀ y_ ∈ x.f7, (y_.f0.size ≤ 9223372036854775807) ∧ (y_.f1.size ≤ 9223372036854775807)) ∧ x.f7.length ≤ 9223372036854775807)) := by obtain ⟨fuel, hf⟩ := h1; exact rd30 H enc W _ _ fuel _ _ hf
  obtain ⟨A1_5, c1_5, A1_7, c1_7, E1, C1_5, R1_5, C1_7, R1_7⟩ := k30_open K1
  obtain rfl : cs1 = #[.string x1.f0, .string x1.f1, .int .i64 x1.f2, .string x1.f3, .int .i64 x1.f4, .slice A1_5 x1.f5.length c1_5, .string x1.f6, .slice A1_7 x1.f7.length c1_7] := by cases cs1; simpa using E1
  obtain ⟨cs2, rfl, z2⟩ := okWide_struct Try.underlying32 (hval 2 32 v2 rfl rfl)
  have k2 := h2
  have lt2 : ∀ x ∈ p2, x.block < W.heap.size := by obtain ⟨m, hm⟩ := k2; exact DataW.trod_lt m _ _ _ hm
  obtain ⟨x2, K2, y2⟩ : ∃ x : S32, k32.K W x cs2.toList ∧ (((Lit.int .i64 x.f0).wf = true) ∧ ((Lit.int .i64 x.f1).wf = true) ∧ ((Lit.int .i64 x.f2).wf = true) ∧ ((Lit.int .i64 x.f3).wf = true)) := by obtain ⟨fuel, hf⟩ := h2; exact rd32 H enc W _ _ fuel _ _ hf
  have E2 := k32_open K2
  obtain rfl : cs2 = #[.int .i64 x2.f0, .int .i64 x2.f1, .int .i64 x2.f2, .int .i64 x2.f3] := by cases cs2; simpa using E2
  clear hA0 hval0 hsz0 hsz
  obtain ⟨k, h⟩ := Pure.ReviseStays x0 x1 x2 y0 y1 y2
  refine (halfwayhouselaw17_ReviseStays.calls k x0.f0 A0_1 c0_1 x0.f1 x0.f2 x0.f3.f0 x0.f3.f1 x0.f3.f2 x0.f3.f3 x0.f3.f4 A0_8 c0_8 x0.f3.f5 x0.f3.f6 A0_10 c0_10 x0.f3.f7 x0.f4.f0 x0.f4.f1 x0.f4.f2 x0.f4.f3 x1.f0 x1.f1 x1.f2 x1.f3 x1.f4 A1_5 c1_5 x1.f5 x1.f6 A1_7 c1_7 x1.f7 x2.f0 x2.f1 x2.f2 x2.f3 true W R0_1 C0_1 R0_8 C0_8 R0_10 C0_10 R1_5 C1_5 R1_7 C1_7 h).mono fun e W' ⟨he, bel0⟩ => ?_
  have bel : Below W.heap.size W W' := bel0
  subst he
  exact ⟨_, rfl, _, _, _, [], _, [], hW', trodAll_mk1 (shut_bool Try.underlying4 _), (trodAll_cons_mk (Below.trod laidOut (by kernel_rfl) (of_decide_eq_true (by kernel_rfl)) k0 bel lt0) (trodAll_cons_mk (Below.trod laidOut (by kernel_rfl) (of_decide_eq_true (by kernel_rfl)) k1 bel lt1) (trodAll_cons_mk (Below.trod laidOut (by kernel_rfl) (of_decide_eq_true (by kernel_rfl)) k2 bel lt2) trodAll_mk0))), rfl, bel.frame _, fun h => by cases h⟩
theorem over : Rows.reviseStaysRow.holds Try.pinned (OpenSpec.ofChange Rows.reviseStaysSpec) :=
  OpenClaim.holds_of_wide 4 Try.f4 rfl rfl rfl rfl rfl rfl rfl ⟨rfl, rfl, rfl, rfl, rfl⟩ rfl rfl rfl rfl rfl (by kernel_rfl) Try.func4 (by kernel_rfl)
    (of_decide_eq_true (by kernel_rfl)) (by unfold Func.isWrapper; first | (rw [if_pos (by decide +kernel)]; kernel_rfl) | (rw [if_neg (by decide +kernel)]; exact ⟨rfl, rfl⟩))
    (fun os started H enc _ => lifted os started H enc)
theorem proved : Rows.ReviseStaysSaid := over
#print axioms proved
end Go.Proofs.Ytjlnpgehfgonpaa.reviseStays
namespace Go.Proofs.Ytjlnpgehfgonpaa
/-- The row, under a short name, for the claim. -/
theorem reviseStays_holds : Rows.ReviseStaysSaid := reviseStays.proved
end Go.Proofs.Ytjlnpgehfgonpaa
