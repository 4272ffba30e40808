/- The pure statement of the law ReviseStays: for every stored response, message and times the law's printed form answers true. -/
import Derived.Test.YtjlnpgehfgonpaaPReviseStaysx9
namespace Go.Proofs.Ytjlnpgehfgonpaa.Pure
open Go.Proofs Go.Proofs.Ytjlnpgehfgonpaa.X Go.RowKit Go.Proofs.Ytjlnpgehfgonpaa.PReviseStays Go.Proofs.YtjlnpgehfgonpaaW.PrintWords Go.Proofs.YtjlnpgehfgonpaaW.PrintLast
theorem lives_ : halfwayhouselaw17_lives.f 40 = some true := by decide +kernel
def Few (l : List S39) : Prop := l.length ≤ 30 ∧ ∀ x ∈ l, x.f0.size ≤ 300 ∧ x.f1.size ≤ 300
theorem rd_mem (l : List S39) (i : Int) (h0 : 0 ≤ i) (h1 : i < (l.length : Int)) : rd_T39 l i ∈ l := by
  unfold rd_T39
  rw [List.getD_eq_getElem?_getD, List.getElem?_eq_getElem (by omega)]
  exact List.getElem_mem _
theorem few_ok (l : List S39) (hl : l.length ≤ 9223372036854775807) : ∀ (d : Nat) (i : Int), 0 ≤ i → i ≤ (l.length : Int) → (l.length : Int) - i = d → (∀ j : Nat, (j : Int) < i → ∀ x, l[j]? = some x → x.f0.size ≤ 300 ∧ x.f1.size ≤ 300) →
    ∃ b, Ev (fun k => halfwayhousekit_FewFields.l0 k l i) b ∧ (b = true → Few l)
  | 0, i, h0, h1, hd, hs => by
    refine ⟨decide ((l.length : Int) ≤ 30), Ev.step (f := fun _ => some (decide ((l.length : Int) ≤ 30))) (fun k => ?_) (Ev.now _), fun hb => ⟨by have := of_decide_eq_true hb; omega, fun x hx => ?_⟩⟩
    · simp only [halfwayhousekit_FewFields.l0]
      rw [if_neg (by omega)]
    · obtain ⟨j, hj, rfl⟩ := List.getElem_of_mem hx
      exact hs j (by omega) _ (List.getElem?_eq_getElem hj)
  | d + 1, i, h0, h1, hd, hs => by
    have hlt : i < (l.length : Int) := by omega
    by_cases c1 : ((rd_T39 l i).f0.size : Int) > 300
    · refine ⟨false, Ev.step (f := fun _ => some false) (fun k => ?_) (Ev.now _), fun hb => by cases hb⟩
      simp only [halfwayhousekit_FewFields.l0]
      rw [if_pos hlt, if_pos h0, if_pos c1]
    · by_cases c2 : ((rd_T39 l i).f1.size : Int) > 300
      · refine ⟨false, Ev.step (f := fun _ => some false) (fun k => ?_) (Ev.now _), fun hb => by cases hb⟩
        simp only [halfwayhousekit_FewFields.l0]
        rw [if_pos hlt, if_pos h0, if_neg c1, if_pos c2]
      · obtain ⟨b, hb, hF⟩ := few_ok l hl d (i + 1) (by omega) (by omega) (by omega) (fun j hj x hx => by
          by_cases e : (j : Int) < i
          · exact hs j e x hx
          · have e' : j = i.toNat := by omega
            subst e'
            have : rd_T39 l i = x := by unfold rd_T39; rw [List.getD_eq_getElem?_getD, hx]; rfl
            rw [this] at c1 c2
            omega)
        refine ⟨b, Ev.step (fun k => ?_) hb, hF⟩
        simp only [halfwayhousekit_FewFields.l0]
        rw [if_pos hlt, if_pos h0, if_neg c1, if_neg c2]
        have : wrap64 (i + 1) = i + 1 := by unfold wrap64; omega
        rw [this]

theorem few_all (l : List S39) (hl : l.length ≤ 9223372036854775807) : ∃ b, Ev (fun k => halfwayhousekit_FewFields.f k l) b ∧ (b = true → Few l) :=
  few_ok l hl l.length 0 (by omega) (by omega) (by omega) (fun j hj => by omega)
theorem msg_ok (a0 a1 : ByteArray) (a2 : Int) (a3 : ByteArray) (a4 : Int) (l5 : List S39) (a6 : ByteArray) (l7 : List S39) (h5 : l5.length ≤ 9223372036854775807) (h7 : l7.length ≤ 9223372036854775807) :
    ∃ b, Ev (fun k => halfwayhousekit_FewMsg.f k a0 a1 a2 a3 a4 l5 a6 l7) b ∧ (b = true → Few l5 ∧ Few l7) := by
  obtain ⟨b5, e5, f5⟩ := few_all l5 h5
  obtain ⟨b7, e7, f7⟩ := few_all l7 h7
  unfold halfwayhousekit_FewMsg.f
  have no : ∃ b, Ev (fun _ => some false) b ∧ (b = true → Few l5 ∧ Few l7) := ⟨false, Ev.now _, fun h => by cases h⟩
  by_cases c0 : (a0.size : Int) ≤ 300
  · by_cases c1 : (a1.size : Int) ≤ 2000
    · by_cases c3 : (a3.size : Int) ≤ 300
      · by_cases c6 : (a6.size : Int) ≤ 2000
        · simp only [if_pos c0, if_pos c1, if_pos c3, if_pos c6]
          cases b5 with
          | false => exact ⟨false, Ev.bind (f := fun k t => if t = true then ((halfwayhousekit_FewFields.f k l7).bind fun t187 => (some t187)) else (some false)) e5 (Ev.now _), fun h => by cases h⟩
          | true => exact ⟨b7, Ev.bind (f := fun k t => if t = true then ((halfwayhousekit_FewFields.f k l7).bind fun t187 => (some t187)) else (some false)) e5 (Ev.bind (f := fun _ t => some t) e7 (Ev.now _)), fun h => ⟨f5 rfl, f7 h⟩⟩
        · simp only [if_pos c0, if_pos c1, if_pos c3, if_neg c6]; exact no
      · simp only [if_pos c0, if_pos c1, if_neg c3]; exact no
    · simp only [if_pos c0, if_neg c1]; exact no
  · simp only [if_neg c0]; exact no
theorem stored_ok (a0 : ByteArray) (l1 : List ByteArray) (a2 a3 a4 : ByteArray) (a5 : Int) (a6 : ByteArray) (a7 : Int) (l8 : List S39) (a9 : ByteArray) (l10 : List S39) (b1 b2 b3 b4 : Int) (hl : l1.length ≤ 9223372036854775807) (h8 : l8.length ≤ 9223372036854775807) (h10 : l10.length ≤ 9223372036854775807) :
    ∀ (d : Nat) (i : Int), 0 ≤ i → i ≤ (l1.length : Int) → (l1.length : Int) - i = d →
    ∃ b, Ev (fun k => halfwayhousekit_LightStored.l0 k i a0 l1 a2 a3 a4 a5 a6 a7 l8 a9 l10 b1 b2 b3 b4) b ∧ (b = true → l1.length ≤ 20 ∧ Few l8 ∧ Few l10)
  | 0, i, h0, h1, hd => by
    obtain ⟨b, e, f⟩ := msg_ok a3 a4 a5 a6 a7 l8 a9 l10 h8 h10
    have no : ∃ b, Ev (fun _ => some false) b ∧ (b = true → l1.length ≤ 20 ∧ Few l8 ∧ Few l10) := ⟨false, Ev.now _, fun h => by cases h⟩
    have st : ∀ g : Nat → Option Bool, (∀ k, halfwayhousekit_LightStored.l0 (k + 1) i a0 l1 a2 a3 a4 a5 a6 a7 l8 a9 l10 b1 b2 b3 b4 = g k) → (∃ b, Ev g b ∧ (b = true → l1.length ≤ 20 ∧ Few l8 ∧ Few l10)) → ∃ b, Ev (fun k => halfwayhousekit_LightStored.l0 k i a0 l1 a2 a3 a4 a5 a6 a7 l8 a9 l10 b1 b2 b3 b4) b ∧ (b = true → l1.length ≤ 20 ∧ Few l8 ∧ Few l10) :=
      fun g hg ⟨b, e, f⟩ => ⟨b, Ev.step hg e, f⟩
    by_cases c1 : (l1.length : Int) ≤ 20
    · by_cases c2 : (a0.size : Int) ≤ 600
      · by_cases c3 : (a2.size : Int) ≤ 2000
        · exact st _ (fun k => by simp only [halfwayhousekit_LightStored.l0]; rw [if_neg (by omega), if_pos c1, if_pos c2, if_pos c3]) ⟨b, Ev.bind (f := fun _ t => some t) e (Ev.now _), fun h => ⟨by omega, f h⟩⟩
        · exact st _ (fun k => by simp only [halfwayhousekit_LightStored.l0]; rw [if_neg (by omega), if_pos c1, if_pos c2, if_neg c3]) no
      · exact st _ (fun k => by simp only [halfwayhousekit_LightStored.l0]; rw [if_neg (by omega), if_pos c1, if_neg c2]) no
    · exact st _ (fun k => by simp only [halfwayhousekit_LightStored.l0]; rw [if_neg (by omega), if_neg c1]) no
  | d + 1, i, h0, h1, hd => by
    have hlt : i < (l1.length : Int) := by omega
    by_cases c1 : ((rdOf ByteArray.empty l1 i).size : Int) > 300
    · refine ⟨false, Ev.step (f := fun _ => some false) (fun k => ?_) (Ev.now _), fun hb => by cases hb⟩
      simp only [halfwayhousekit_LightStored.l0]
      rw [if_pos hlt, if_pos h0, if_pos c1]
    · obtain ⟨b, hb, hF⟩ := stored_ok a0 l1 a2 a3 a4 a5 a6 a7 l8 a9 l10 b1 b2 b3 b4 hl h8 h10 d (i + 1) (by omega) (by omega) (by omega)
      refine ⟨b, Ev.step (fun k => ?_) hb, hF⟩
      simp only [halfwayhousekit_LightStored.l0]
      rw [if_pos hlt, if_pos h0, if_neg c1]
      have : wrap64 (i + 1) = i + 1 := by unfold wrap64; omega
      rw [this]
theorem few_flds {l : List S39} (h : Few l) : fldsB l = true := fldsB_mk (by have := h.1; omega) (fun x hx => by have := (h.2 x hx).1; omega)
theorem light_ok (a0 : ByteArray) (l1 : List ByteArray) (a2 a3 a4 : ByteArray) (a5 : Int) (a6 : ByteArray) (a7 : Int) (l8 : List S39) (a9 : ByteArray) (l10 : List S39) (b1 b2 b3 b4 : Int) (hl : l1.length ≤ 9223372036854775807) (h8 : l8.length ≤ 9223372036854775807) (h10 : l10.length ≤ 9223372036854775807)
    (m0 m1 : ByteArray) (m2 : Int) (m3 : ByteArray) (m4 : Int) (l5 : List S39) (m6 : ByteArray) (l7 : List S39) (h5 : l5.length ≤ 9223372036854775807) (h7 : l7.length ≤ 9223372036854775807) :
    ∃ b, Ev (fun k => halfwayhouselaw17_light.f k a0 l1 a2 a3 a4 a5 a6 a7 l8 a9 l10 b1 b2 b3 b4 m0 m1 m2 m3 m4 l5 m6 l7 []) b ∧ (b = true → staysOk l1 l8 l10 l5 = true) := by
  obtain ⟨b, e, f⟩ := stored_ok a0 l1 a2 a3 a4 a5 a6 a7 l8 a9 l10 b1 b2 b3 b4 hl h8 h10 l1.length 0 (by omega) (by omega) (by omega)
  obtain ⟨c, e', f'⟩ := msg_ok m0 m1 m2 m3 m4 l5 m6 l7 h5 h7
  obtain ⟨x, e2, _⟩ := few_all [] (by simp)
  unfold halfwayhouselaw17_light.f
  cases b with
  | false => exact ⟨false, Ev.bind (f := fun k t => if t = true then ((halfwayhousekit_FewMsg.f k m0 m1 m2 m3 m4 l5 m6 l7).bind fun t194 => (if t194 = true then ((halfwayhousekit_FewFields.f k []).bind fun t195 => (some t195)) else (some false))) else (some false)) e (Ev.now _), fun h => by cases h⟩
  | true =>
    cases c with
    | false => exact ⟨false, Ev.bind (f := fun k t => if t = true then ((halfwayhousekit_FewMsg.f k m0 m1 m2 m3 m4 l5 m6 l7).bind fun t194 => (if t194 = true then ((halfwayhousekit_FewFields.f k []).bind fun t195 => (some t195)) else (some false))) else (some false)) e (Ev.bind (f := fun k t194 => (if t194 = true then ((halfwayhousekit_FewFields.f k []).bind fun t195 => (some t195)) else (some false))) e' (Ev.now _)), fun h => by cases h⟩
    | true => exact ⟨x, Ev.bind (f := fun k t => if t = true then ((halfwayhousekit_FewMsg.f k m0 m1 m2 m3 m4 l5 m6 l7).bind fun t194 => (if t194 = true then ((halfwayhousekit_FewFields.f k []).bind fun t195 => (some t195)) else (some false))) else (some false)) e (Ev.bind (f := fun k t194 => (if t194 = true then ((halfwayhousekit_FewFields.f k []).bind fun t195 => (some t195)) else (some false))) e' (Ev.bind (f := fun _ t => some t) e2 (Ev.now _))), fun _ => by
        obtain ⟨g1, g8, g10⟩ := f rfl
        obtain ⟨g5, _⟩ := f' rfl
        have n8 := g8.1
        have n5 := g5.1
        unfold staysOk
        rw [few_flds g8, few_flds g10, few_flds g5, decide_eq_true (by omega : l1.length < 1073741824), decide_eq_true (by omega : l8.length + l5.length < 1073741824)]
        rfl⟩
theorem ReviseStays : ∀ (x0 : S34) (x1 : S30) (x2 : S32), ((x0.f0.size ≤ 9223372036854775807) ∧ ((∀ y_ ∈ x0.f1, y_.size ≤ 9223372036854775807) ∧ x0.f1.length ≤ 9223372036854775807) ∧ (x0.f2.size ≤ 9223372036854775807) ∧ ((x0.f3.f0.size ≤ 9223372036854775807) ∧ (x0.f3.f1.size ≤ 9223372036854775807) ∧ ((Lit.int .i64 x0.f3.f2).wf = true) ∧ (x0.f3.f3.size ≤ 9223372036854775807) ∧ ((Lit.int .i64 x0.f3.f4).wf = true) ∧ ((∀ y_ ∈ x0.f3.f5, (y_.f0.size ≤ 9223372036854775807) ∧ (y_.f1.size ≤ 9223372036854775807)) ∧ x0.f3.f5.length ≤ 9223372036854775807) ∧ (x0.f3.f6.size ≤ 9223372036854775807) ∧ ((∀ y_ ∈ x0.f3.f7, (y_.f0.size ≤ 9223372036854775807) ∧ (y_.f1.size ≤ 9223372036854775807)) ∧ x0.f3.f7.length ≤ 9223372036854775807)) ∧ (((Lit.int .i64 x0.f4.f0).wf = true) ∧ ((Lit.int .i64 x0.f4.f1).wf = true) ∧ ((Lit.int .i64 x0.f4.f2).wf = true) ∧ ((Lit.int .i64 x0.f4.f3).wf = true))) → ((x1.f0.size ≤ 9223372036854775807) ∧ (x1.f1.size ≤ 9223372036854775807) ∧ ((Lit.int .i64 x1.f2).wf = true) ∧ (x1.f3.size ≤ 9223372036854775807) ∧ ((Lit.int .i64 x1.f4).wf = true) ∧ ((∀ y_ ∈ x1.f5, (y_.f0.size ≤ 9223372036854775807) ∧ (y_.f1.size ≤ 9223372036854775807)) ∧ x1.f5.length ≤ 9223372036854775807) ∧ (x1.f6.size ≤ 9223372036854775807) ∧ ((∀ y_ ∈ x1.f7, (y_.f0.size ≤ 9223372036854775807) ∧ (y_.f1.size ≤ 9223372036854775807)) ∧ x1.f7.length ≤ 9223372036854775807)) → (((Lit.int .i64 x2.f0).wf = true) ∧ ((Lit.int .i64 x2.f1).wf = true) ∧ ((Lit.int .i64 x2.f2).wf = true) ∧ ((Lit.int .i64 x2.f3).wf = true)) → ∃ k, halfwayhouselaw17_ReviseStays.f k x0.f0 x0.f1 x0.f2 x0.f3.f0 x0.f3.f1 x0.f3.f2 x0.f3.f3 x0.f3.f4 x0.f3.f5 x0.f3.f6 x0.f3.f7 x0.f4.f0 x0.f4.f1 x0.f4.f2 x0.f4.f3 x1.f0 x1.f1 x1.f2 x1.f3 x1.f4 x1.f5 x1.f6 x1.f7 x2.f0 x2.f1 x2.f2 x2.f3 = some true := by
  intro x0 x1 x2 h0 h1 h2
  obtain ⟨_, ⟨_, hl⟩, _, ⟨_, _, _, _, _, ⟨_, h8⟩, _, ⟨_, h10⟩⟩, _⟩ := h0
  obtain ⟨_, _, _, _, _, ⟨_, h5⟩, _, ⟨_, h7⟩⟩ := h1
  obtain ⟨b, e, f⟩ := light_ok x0.f0 x0.f1 x0.f2 x0.f3.f0 x0.f3.f1 x0.f3.f2 x0.f3.f3 x0.f3.f4 x0.f3.f5 x0.f3.f6 x0.f3.f7 x0.f4.f0 x0.f4.f1 x0.f4.f2 x0.f4.f3 hl h8 h10 x1.f0 x1.f1 x1.f2 x1.f3 x1.f4 x1.f5 x1.f6 x1.f7 h5 h7
  refine Ev.rounds ?_
  have hL : Ev halfwayhouselaw17_lives.f true := Ev.of halfwayhouselaw17_lives.mono lives_
  unfold halfwayhouselaw17_ReviseStays.f
  refine Ev.bind (f := fun k b => (halfwayhouselaw17_light.f k x0.f0 x0.f1 x0.f2 x0.f3.f0 x0.f3.f1 x0.f3.f2 x0.f3.f3 x0.f3.f4 x0.f3.f5 x0.f3.f6 x0.f3.f7 x0.f4.f0 x0.f4.f1 x0.f4.f2 x0.f4.f3 x1.f0 x1.f1 x1.f2 x1.f3 x1.f4 x1.f5 x1.f6 x1.f7 []).bind fun c => if b = true ∧ (c = true → staysOk x0.f1 x0.f3.f5 x0.f3.f7 x1.f5 = true) then some true else none) hL ?_
  refine Ev.bind (f := fun _ c => if true = true ∧ (c = true → staysOk x0.f1 x0.f3.f5 x0.f3.f7 x1.f5 = true) then some true else none) e ?_
  exact Ev.congr (fun _ => by rw [if_pos ⟨rfl, f⟩]) (Ev.now _)
end Go.Proofs.Ytjlnpgehfgonpaa.Pure
