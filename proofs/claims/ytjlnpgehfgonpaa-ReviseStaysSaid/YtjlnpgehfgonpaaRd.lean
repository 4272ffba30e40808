/- What a datum that came in says as a kind of the printed words: strings, numbers, bools, slices, structs, in any nesting. -/
import Derived.Test.YtjlnpgehfgonpaaWWords
import Derived.Deep.Slices
import Derived.Deep.Fields
import Derived.ChangeArms
import Derived.ChangeSame
namespace Go.Proofs.Ytjlnpgehfgonpaa.Rd
open Go.RowKit Go.ChangeShapes Go.WideShapes Go.Deep Go.Proofs.YtjlnpgehfgonpaaW.PrintWords
set_option linter.unusedVariables false
def Is (P : Program) {α : Type} (d : Kd α) (ok : α → Prop) (t : TypeId) : Prop :=
  ∀ (H : Type) (enc : TypeId × Value → H) (W : World) (spare : Nat → Bool) (held : Bool) (fuel : Nat) (cs : List Value) (x : DataW H × List MemPlace),
    DataW.trod enc P W 0 spare held fuel t cs = some x → ∃ v : α, d.K W v cs ∧ ok v
variable {P : Program} {α β : Type}
theorem Is.mono {d : Kd α} {ok ok' : α → Prop} {t : TypeId} (h : Is P d ok t) (hk : ∀ v, ok v → ok' v) : Is P d ok' t := fun H enc W spare held fuel cs x hx => by
  obtain ⟨v, h1, h2⟩ := h H enc W spare held fuel cs x hx
  exact ⟨v, h1, hk v h2⟩
theorem string {t : TypeId} (ht : P.underlying t = some .string) : Is P Kd.string (fun s => s.size ≤ 9223372036854775807) t := fun H enc W spare held fuel cs x hx => by
  obtain ⟨s, rfl, _, h⟩ := DataW.trod_string ht hx
  exact ⟨s, rfl, h⟩
theorem bool {t : TypeId} (ht : P.underlying t = some .bool) : Is P Kd.bool (fun _ => True) t := fun H enc W spare held fuel cs x hx => by
  obtain ⟨b, rfl, _⟩ := DataW.trod_bool ht hx
  exact ⟨b, rfl, trivial⟩
theorem int {t : TypeId} {k : IntKind} (ht : P.underlying t = some (.int k)) : Is P (Kd.int k) (fun n => (Lit.int k n).wf = true) t := fun H enc W spare held fuel cs x hx => by
  obtain ⟨n, rfl, _, h⟩ := DataW.trod_int ht hx
  exact ⟨n, rfl, h⟩
theorem slice {d : Kd α} {ok : α → Prop} {t e : TypeId} (z : α) (ht : P.underlying t = some (.slice e)) (he : Is P d ok e) (hC : P.cellsOf e = d.sz) :
    Is P (Kd.slice e d) (fun l => (∀ x ∈ l, ok x) ∧ l.length ≤ 9223372036854775807) t := fun H enc W spare held fuel cs x hx => by
  rcases open_slice ht hx with ⟨rfl, _⟩ | ⟨a, len, cap, m, n, D, Pl, rfl, _, hl, hm, hmm, _, hi⟩
  · refine ⟨[], ⟨none, 0, rfl, Nat.le_refl _, rfl, by simp, fun h => absurd h (by simp)⟩, fun x hx => by simp at hx, by simp⟩
  · have hlm : len ≤ m := by rw [hmm]; split <;> omega
    have hlm2 : len ≤ 9223372036854775807 := Nat.le_trans hl hm
    have h1 : ∀ i, ∃ v : α, i < len → (ok v ∧ ∃ c : List Value, c.length = d.sz ∧ d.K W v c ∧ ∀ j u, c[j]? = some u → W.cell? (a.add (i * d.sz + j)) = some u) := by
      intro i
      by_cases h : i < len
      · obtain ⟨cs', hc, ht'⟩ := hi i (by omega)
        rw [hC] at hc
        obtain ⟨v, hK, hok⟩ := he H enc W spare held n cs' _ ht'
        obtain ⟨_, hcl, hat⟩ := World.cells?_some hc
        refine ⟨v, fun _ => ⟨hok, cs', d.K_len hK, hK, fun j u hj => ?_⟩⟩
        have hjl : j < d.sz := by rw [← hcl]; exact (List.getElem?_eq_some_iff.1 hj).1
        rw [← Go.Deep.add_add, hat j hjl, hj]
      · exact ⟨z, fun hh => absurd hh h⟩
    obtain ⟨f, hf⟩ := Classical.skolem.1 h1
    have hln : ((List.range len).map f).length = len := by simp
    refine ⟨(List.range len).map f, ⟨some a, cap, by rw [hln], by rw [hln]; exact hl, by rw [hln], by rw [hln]; exact hlm2, fun _ => ⟨a, rfl, fun j p hj => ?_⟩⟩, fun y hy => ?_, by rw [hln]; exact hlm2⟩
    · have hjl : j < len := by rw [← hln]; exact (List.getElem?_eq_some_iff.1 hj).1
      have e : p = f j := by
        rw [List.getElem?_map, List.getElem?_range hjl] at hj
        exact (Option.some.inj hj).symm
      subst e
      obtain ⟨_, c, h2, h3, h4⟩ := hf j hjl
      exact ⟨c, h2, h3, h4⟩
    · obtain ⟨j, hj, rfl⟩ := List.mem_map.1 hy
      exact (hf j (List.mem_range.1 hj)).1
/-- From field i of a struct on, its cells from off on. -/
def Fs (P : Program) {α : Type} (d : Kd α) (ok : α → Prop) (fs : Array Field) (i off : Nat) : Prop :=
  ∀ (H : Type) (enc : TypeId × Value → H) (W : World) (spare : Nat → Bool) (held : Bool) (n : Nat) (cs : List Value) (xs : List (DataW H × List MemPlace)),
    xs.length = fs.size → cs.length = off + d.sz → (∀ (j : Nat) (f : Field), fs[j]? = some f → i ≤ j → DataW.trod enc P W 0 spare held n f.type ((cs.drop f.offset).take (P.cellsOf f.type)) = xs[j]?) → ∃ v, d.K W v (cs.drop off) ∧ ok v
theorem last {d : Kd α} {ok : α → Prop} {fs : Array Field} {i off : Nat} {f : Field} (hf : fs[i]? = some f) (ho : f.offset = off) (hc : P.cellsOf f.type = d.sz) (h : Is P d ok f.type) : Fs P d ok fs i off := fun H enc W spare held n cs xs hl hcs hx => by
  have hi : i < fs.size := (Array.getElem?_eq_some_iff.1 hf).1
  have h1 := hx i f hf (Nat.le_refl _)
  rw [ho, hc, List.take_of_length_le (by rw [List.length_drop]; omega), List.getElem?_eq_getElem (by omega)] at h1
  exact h H enc W spare held n _ _ h1
theorem cons {d0 : Kd α} {ok0 : α → Prop} {d1 : Kd β} {ok1 : β → Prop} {fs : Array Field} {i off : Nat} {f : Field} (hf : fs[i]? = some f) (ho : f.offset = off) (hc : P.cellsOf f.type = d0.sz) (h0 : Is P d0 ok0 f.type) (h1 : Fs P d1 ok1 fs (i + 1) (off + d0.sz)) :
    Fs P (Kd.pair d0 d1) (fun v => ok0 v.1 ∧ ok1 v.2) fs i off := fun H enc W spare held n cs xs hl hcs hx => by
  have hi : i < fs.size := (Array.getElem?_eq_some_iff.1 hf).1
  have e1 := hx i f hf (Nat.le_refl _)
  rw [ho, hc, List.getElem?_eq_getElem (by omega)] at e1
  have hsz : (Kd.pair d0 d1).sz = d0.sz + d1.sz := rfl
  obtain ⟨v0, k0, o0⟩ := h0 H enc W spare held n _ _ e1
  obtain ⟨v1, k1, o1⟩ := h1 H enc W spare held n cs xs hl (by omega) (fun j f hj hij => hx j f hj (by omega))
  refine ⟨(v0, v1), ⟨_, _, ?_, k0, k1⟩, o0, o1⟩
  rw [← List.drop_drop]
  exact (List.take_append_drop _ _).symm
theorem struct {d : Kd α} {ok : α → Prop} {t : TypeId} {fs : Array Field} (ht : P.underlying t = some (.struct fs)) (hc : P.cellsOf t = d.sz) (h : Fs P d ok fs 0 0) : Is P d ok t := fun H enc W spare held fuel cs x hx => by
  obtain ⟨xs, n, _, _, hl, hxs, hf⟩ := DataW.trod_struct ht hx
  obtain ⟨v, h1, h2⟩ := h H enc W spare held n cs xs hxs (by rw [hl, hc]; omega) (fun j f hj _ => hf j f hj)
  exact ⟨v, by simpa using h1, h2⟩
theorem iso {d : Kd α} {ok : α → Prop} {t : TypeId} (f : β → α) (mk : α → β) (hm : ∀ v, f (mk v) = v) (h : Is P d ok t) : Is P (Kd.iso d f) (fun x => ok (f x)) t := fun H enc W spare held fuel cs x hx => by
  obtain ⟨v, h1, h2⟩ := h H enc W spare held fuel cs x hx
  exact ⟨mk v, by show d.K W (f (mk v)) cs; rw [hm]; exact h1, by show ok (f (mk v)); rw [hm]; exact h2⟩
theorem slice_arg {d : Kd α} {e : Nat} {W : World} {a : Option Addr} {len cap : Nat} {l : List α} (h : (Kd.slice e d).K W l (Value.cells (.slice a len cap)).toList) : l.length = len ∧ len ≤ cap ∧ d.C W a len l := by
  obtain ⟨A, c, e, h1, h2⟩ := h
  have e' : [Value.slice a len cap] = [.slice A l.length c] := e
  injection e' with e'
  injection e' with e1 e2 e3
  subst e1 e2 e3
  exact ⟨rfl, h1, h2⟩
end Go.Proofs.Ytjlnpgehfgonpaa.Rd
