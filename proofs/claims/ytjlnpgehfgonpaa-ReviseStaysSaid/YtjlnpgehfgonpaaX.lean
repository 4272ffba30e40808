/- Lemmas of this session's own that the printed texts and the hand-proved contracts lean on: bytes of a converted string, and the like. -/
import Derived.Test.YtjlnpgehfgonpaaProg
import Derived.Test.YtjlnpgehfgonpaaWWords
import Derived.Test.YtjlnpgehfgonpaaWRepsOne
import Derived.Test.YtjlnpgehfgonpaaWLast
import Derived.Test.YtjlnpgehfgonpaaWMore
import Derived.WalkKit
import Derived.Lib.Hide
import Derived.Lib.ConvBytes
import Derived.Laws.BytesArg
import Derived.Below
import Derived.Lib.SliceRun
import Derived.Maps.OwnSet
import Derived.StringKeys
import Derived.Laws.IdiomCopy
import Derived.Test.YtjlnpgehfgonpaaShelf
namespace Go.Proofs.Ytjlnpgehfgonpaa.X
open Go.RowKit Go.Proofs.YtjlnpgehfgonpaaW.PrintWords Go.Proofs.YtjlnpgehfgonpaaW.PrintLast
set_option linter.unusedVariables false
set_option linter.unusedSimpArgs false
/-! ### bytes of a converted string; small letters -/
def byN (s : ByteArray) (j : Nat) : Nat := (s.data.toList.getD j 0).toNat
def lowN (m : Nat) : Nat := if 65 ≤ m ∧ m ≤ 90 then m + 32 else m
def BytesAt (w : World) (B n : Nat) (f : Nat → Nat) : Prop := ∀ j, j < n → w.cell? ⟨B, j, none⟩ = some (.int .u8 (f j)) ∧ w.frozen? ⟨B, j, none⟩ = false
theorem BytesAt.set {w : World} {B n k : Nat} {f g : Nat → Nat} (h : BytesAt w B n f) (hk : k < n) (hg : ∀ j, j ≠ k → g j = f j) {v : Int} (hv : v = (g k : Nat)) : BytesAt (w.setCell ⟨B, k, none⟩ (.int .u8 v)) B n g := by
  intro j hj
  subst hv
  refine ⟨?_, by rw [World.frozen?_setCell]; exact (h j hj).2⟩
  by_cases e : j = k
  · subst e
    exact World.cell?_setCell_same w _ _ (h j hj).1
  · rw [World.cell?_setCell_other, hg j e]
    · exact (h j hj).1
    · intro q; injection q with _ q; exact e q.symm
theorem byN_lt (s : ByteArray) (j : Nat) : byN s j < 256 := by unfold byN; exact UInt8.toNat_lt _
def lowPart (s : ByteArray) (k j : Nat) : Nat := if j < k then lowN (byN s j) else byN s j
def lowS (s : ByteArray) : ByteArray := ⟨s.data.map fun c => if 65 ≤ c ∧ c ≤ 90 then c + 32 else c⟩
theorem lowS_size (s : ByteArray) : (lowS s).size = s.size := by
  show (Array.map _ s.data).size = _
  rw [Array.size_map]; rfl
theorem bytesWorld_frozen (w : World) (e : TypeId) (s : ByteArray) (j : Nat) (hj : j < s.size) : (Lib.bytesWorld w e s).frozen? ⟨w.heap.size, j, none⟩ = false := by
  have h := Lib.bytesWorld_at_new w e s
  have hs : s.size ≤ (Lib.bytesCells w e s).size := by
    unfold Lib.bytesCells
    rw [Array.size_append, Array.size_map]
    exact Nat.le_add_right _ _
  simp [World.frozen?, h]
  omega
theorem bytesWorld_below (w : World) (e : TypeId) (s : ByteArray) : Below w.heap.size w (Lib.bytesWorld w e s) := by
  refine ⟨rfl, rfl, rfl, ?_, fun k hk => Lib.bytesWorld_at_old w e s k hk⟩
  rw [Lib.bytesWorld_size]; omega
theorem lowPart_ne (s : ByteArray) (k j : Nat) (h : j ≠ k) : lowPart s (k + 1) j = lowPart s k j := by
  unfold lowPart
  by_cases h1 : j < k
  · rw [if_pos h1, if_pos (by omega)]
  · rw [if_neg h1, if_neg (by omega)]
theorem lowPart_up (s : ByteArray) (k : Nat) (h1 : 65 ≤ byN s k) (h2 : byN s k ≤ 90) : lowPart s (k + 1) k = byN s k + 32 := by
  unfold lowPart lowN
  rw [if_pos (by omega), if_pos ⟨h1, h2⟩]
theorem lowPart_no (s : ByteArray) (k : Nat) (h : ¬ (65 ≤ byN s k ∧ byN s k ≤ 90)) : lowPart s (k + 1) = lowPart s k := by
  funext j
  by_cases e : j = k
  · subst e
    unfold lowPart lowN
    rw [if_pos (by omega), if_neg h, if_neg (by omega)]
  · exact lowPart_ne s k j e
def lowL (s : ByteArray) : List Int := (List.range s.size).map fun j => ((lowPart s s.size j : Nat) : Int)
theorem lowL_length (s : ByteArray) : (lowL s).length = s.size := by simp [lowL]
theorem lowL_get (s : ByteArray) (i : Nat) (hi : i < s.size) : (lowPart s s.size i : Int) = (lowL s).getD i 0 := by
  simp [lowL, List.getD, hi]
theorem lowL_str (s : ByteArray) : strOfNums (lowL s) = lowS s := by
  unfold strOfNums lowS
  congr 1
  apply Array.ext'
  apply List.ext_getElem
  · show (List.map _ (lowL s)).length = _
    rw [List.length_map, lowL_length, Array.length_toList, Array.size_map]; rfl
  · intro i h1 h2
    have hi : i < s.size := by simpa [lowL] using h1
    have hi' : i < s.data.size := hi
    simp [lowL, lowPart, hi, lowN, byN, List.getD]
    have h3 := UInt8.toNat_lt s.data[i]
    by_cases hu : 65 ≤ s.data[i].toNat ∧ s.data[i].toNat ≤ 90
    · rw [if_pos hu, if_pos (by simpa [UInt8.le_iff_toNat_le] using hu)]
      apply UInt8.toNat_inj.1
      simp
    · rw [if_neg hu, if_neg (by simpa [UInt8.le_iff_toNat_le] using hu)]
      simp
theorem some_if {α : Type} {p : Prop} [Decidable p] {a r : α} (h : (if p then some a else none) = some r) : p ∧ r = a := by
  by_cases hp : p
  · rw [if_pos hp] at h
    exact ⟨hp, (Option.some.inj h).symm⟩
  · rw [if_neg hp] at h
    cases h
/-! ### how many bytes a text begins with that are so -/
def runL (p : UInt8 → Bool) (l : List UInt8) : Nat := (l.takeWhile p).length
theorem runL_step (p : UInt8 → Bool) (s : ByteArray) (k : Nat) (h : k < s.size) : runL p (s.data.toList.drop k) = if p s[k] = true then runL p (s.data.toList.drop (k + 1)) + 1 else 0 := by
  have h' : k < s.data.toList.length := by rw [Array.length_toList]; exact h
  unfold runL
  rw [List.drop_eq_getElem_cons h', List.takeWhile_cons]
  have e : s.data.toList[k] = s[k] := rfl
  rw [e]
  cases p s[k] <;> simp
theorem runL_end (p : UInt8 → Bool) (s : ByteArray) : runL p (s.data.toList.drop s.size) = 0 := by
  unfold runL
  rw [List.drop_of_length_le (by rw [Array.length_toList]; exact Nat.le_refl _)]
  rfl
theorem runL_le (p : UInt8 → Bool) (l : List UInt8) : runL p l ≤ l.length := by
  unfold runL
  have := List.takeWhile_append_dropWhile (p := p) (l := l)
  have h2 := congrArg List.length this
  rw [List.length_append] at h2
  omega
/-! ### a text all of whose runes are seen -/
def seenB (b : UInt8) : Bool := decide (33 ≤ b.toNat) && decide (b.toNat ≤ 126)
def seenP (x : Nat) : Bool := decide (x < 33) || decide (126 < x)
theorem get_eq (s : ByteArray) (i : Nat) (h : i < s.size) : s.get! i = s[i] := by
  show s.data[i]! = s.data[i]
  exact getElem!_pos s.data i h
theorem decode_small (s : ByteArray) (i : Nat) (h : i < s.size) (hb : s[i].toNat < 128) : Utf8.decode s i = (s[i].toNat, 1) := by
  unfold Utf8.decode
  simp only [Nat.add_zero, get_eq s i h]
  rw [if_pos hb]
theorem decode_big (s : ByteArray) (i : Nat) (h : i < s.size) (hb : 128 ≤ s[i].toNat) : 128 ≤ (Utf8.decode s i).1 := by
  unfold Utf8.decode
  simp only [Nat.add_zero, get_eq s i h]
  rw [if_neg (by omega)]
  repeat' (first | (split <;> rename_i h_ <;> simp only [Bool.and_eq_true, decide_eq_true_eq, Utf8.runeError] at h_ ⊢ <;> omega) | split | (show 128 ≤ Utf8.runeError; decide))
theorem seenP_iff (s : ByteArray) (i : Nat) (h : i < s.size) : seenP (Utf8.decode s i).1 = !seenB s[i] := by
  rcases Nat.lt_or_ge s[i].toNat 128 with hb | hb
  · rw [decode_small s i h hb]
    unfold seenP seenB
    by_cases h1 : s[i].toNat < 33 <;> by_cases h2 : 126 < s[i].toNat <;> simp [h1, h2] <;> omega
  · have h1 := decode_big s i h hb
    unfold seenP seenB
    have e1 : decide (126 < (Utf8.decode s i).1) = true := decide_eq_true (by omega)
    have e2 : decide (s[i].toNat ≤ 126) = false := decide_eq_false (by omega)
    rw [e1, e2]
    simp
theorem drop_cons (s : ByteArray) (i : Nat) (h : i < s.size) : s.data.toList.drop i = s[i] :: s.data.toList.drop (i + 1) := by
  have h' : i < s.data.toList.length := by rw [Array.length_toList]; exact h
  rw [List.drop_eq_getElem_cons h']
  rfl
theorem idx_seen (s : ByteArray) : ∀ f i, s.size ≤ i + f → (decide (Lib.idxFuncFrom seenP true s f i < 0) = (s.data.toList.drop i).all seenB)
  | 0, i, h => by
    rw [List.drop_of_length_le (by rw [Array.length_toList]; exact h)]
    rfl
  | f + 1, i, h => by
    by_cases hi : i < s.size
    · unfold Lib.idxFuncFrom
      rw [if_pos hi, drop_cons s i hi, List.all_cons, seenP_iff s i hi]
      cases hb : seenB s[i] with
      | false => simp
      | true =>
        have hsm : s[i].toNat < 128 := by
          unfold seenB at hb
          simp at hb
          omega
        rw [decode_small s i hi hsm]
        simp only [Bool.not_true, Bool.false_eq_true, if_false, Bool.true_and]
        exact idx_seen s f (i + 1) (by omega)
    · rw [Lib.idxFuncFrom_end _ _ _ _ _ hi, List.drop_of_length_le (by rw [Array.length_toList]; exact Nat.le_of_not_lt hi)]
      rfl
theorem idx_seen_all (s : ByteArray) : decide (Lib.idxFunc seenP true s < 0) = s.data.toList.all seenB := by
  have := idx_seen s s.size 0 (by omega)
  rw [List.drop_zero] at this
  exact this
/-! ### clear of a stretch; what lies behind a row's head may be written -/
theorem run_clear_any {P : Program} (w : World) (t e ty : TypeId) (z : Value) (ht : P.underlying t = some (.slice e)) (hv : ∀ w, (zeroValue e).run P w = .ok z w) (h1 : ∀ q ∈ z.cells.toList, q.oneCell' = true) (b o n c : Nat) (hn : 0 < n)
    (hc : ∀ j, j < n * z.cells.size → (w.cell? ⟨b, o + j, none⟩).isSome = true) (hf : ∀ j, j < n * z.cells.size → w.frozen? ⟨b, o + j, none⟩ = false) :
    ∃ zs : List Value, zs.length = n * z.cells.size ∧ (Builtin.clear_ #[t] ty #[.slice (some ⟨b, o, none⟩) n c]).run P w = .ok (.tuple #[]) (w.setCells b o zs) := by
  have hlen : (Builtin.zeroCells z.cells n).toList.length = n * z.cells.size := by simp [Builtin.zeroCells]
  have hone : ∀ v ∈ (Builtin.zeroCells z.cells n).toList, v.oneCell' = true := by
    intro v hv'
    unfold Builtin.zeroCells at hv'
    rw [Array.toList_map] at hv'
    obtain ⟨i, hi, rfl⟩ := List.mem_map.1 hv'
    rw [Array.toList_range] at hi
    have hi' := List.mem_range.1 hi
    have hp : 0 < z.cells.size := Nat.pos_of_ne_zero (fun h => by rw [h] at hi'; simp at hi')
    have hm : i % z.cells.size < z.cells.size := Nat.mod_lt _ hp
    rw [getElem!_pos z.cells _ hm]
    exact h1 _ (by simp)
  have hst := run_storeCells_cells (P := P) b o (Builtin.zeroCells z.cells n).toList 0 w (by rw [hlen]; simpa using hc) (by rw [hlen]; simpa using hf) hone
  simp only [Nat.add_zero] at hst
  refine ⟨_, hlen, ?_⟩
  obtain ⟨m, rfl⟩ : ∃ m, n = m + 1 := ⟨n - 1, by omega⟩
  simp [Builtin.clear_, run_underlying ht, hv, hst]
theorem own_beyond {w : World} {base g : Nat} {e : TypeId} {size n cap : Nat} {xs vs : List Value} {o : Nat} (h : w.ownsRow base e size (.slice (some ⟨g, 0, none⟩) n cap) n xs) (ho : n * size ≤ o) (hf : o + vs.length ≤ cap * size) :
    (w.setCells g o vs).ownsRow base e size (.slice (some ⟨g, 0, none⟩) n cap) n xs := by
  obtain ⟨h1, h2⟩ := h
  refine ⟨h1, ?_⟩
  rcases h2 with ⟨h2, _⟩ | ⟨g', cap', cur, hv, hg, hh, hnc, hcm, hcs, ht⟩
  · cases h2
  injection hv with ha _ hc
  injection ha with ha
  injection ha with ha
  subst ha; subst hc
  obtain ⟨cur', h3, h4, h5⟩ := setCells_row vs o w cur hh (by omega)
  refine .inr ⟨g, cap, cur', rfl, hg, h3, hnc, hcm, by omega, ?_⟩
  rw [h5, ← ht, List.append_assoc, List.take_append_of_le_length (by rw [List.length_take, Array.length_toList]; omega), List.take_take, Nat.min_eq_left ho]
theorem R_beyond {α : Type} {d : Kd α} {e base g n cap : Nat} {w : World} {ok : Nat → Prop} {xs : List α} {vs : List Value} {o : Nat} (h : d.R e w base ok (.slice (some ⟨g, 0, none⟩) n cap) xs) (hM : ∀ w1 : World, ∀ P Q : Nat → Prop, ∀ x c, d.M w base P x c → d.M w1 base Q x c)
    (ho : n * d.sz ≤ o) (hf : o + vs.length ≤ cap * d.sz) : d.R e (w.setCells g o vs) base ok (.slice (some ⟨g, 0, none⟩) n cap) xs := by
  have hn : xs.length = n := by
    obtain ⟨_, inner, hown, hr⟩ := h
    rcases hown.2 with ⟨hv, _⟩ | ⟨g', cap', cur, hv, _⟩
    · cases hv
    · injection hv with _ h _; exact h.symm
  obtain ⟨h0, inner, hown, hr⟩ := h
  subst hn
  exact ⟨h0, inner, own_beyond hown ho hf, hr.imp_ (fun p c hp => hM _ _ _ p c hp)⟩
theorem add0 (g q : Nat) : (⟨g, 0, none⟩ : Addr).add q = ⟨g, q, none⟩ := by unfold Addr.add; split <;> simp_all
theorem grown_trans {a b c : World} {row : Option Nat} (h : a.grownBy b row) (h' : b.grownBy c row) : a.grownBy c row := ⟨h'.os.trans h.os, h'.tape.trans h.tape, h'.output.trans h.output, Nat.le_trans h.size h'.size, fun k hk hr => (h'.block k (Nat.lt_of_lt_of_le hk h.size) hr).trans (h.block k hk hr)⟩
theorem grown_setCells (w : World) (g o : Nat) (vs : List Value) : w.grownBy (w.setCells g o vs) (some g) := by
  obtain ⟨s1, s2, s3, s4⟩ := setCells_same g vs o w
  exact ⟨s1, s2, s3, by rw [s4]; exact Nat.le_refl _, fun k _ hk => setCells_far vs o k (fun e => hk (by rw [e]))⟩
theorem below_of_grown {base : Nat} {w0 w w' : World} {row : Option Nat} (h : Below base w0 w) (hg : w.grownBy w' row) (hb : base ≤ w.heap.size) (hr : ∀ k, row = some k → base ≤ k) : Below base w0 w' := h.grown hg hb hr
theorem reps_strs {R : ByteArray → List Value → Prop} (hR : ∀ s, R s [.string s]) : ∀ xs : List ByteArray, Reps R 1 xs (xs.map Value.string)
  | [] => Reps.none _ _
  | x :: xs => Reps.one (hR x) (reps_strs hR xs)
theorem reps_M (w : World) (b : Nat) (ok : Nat → Prop) (xs : List ByteArray) : Reps (Kd.string.M w b ok) Kd.string.sz xs (xs.map Value.string) := reps_strs (R := Kd.string.M w b ok) (fun s => (rfl : [Value.string s] = [Value.string s])) xs
/-! ### the first place of which something holds -/
def idxL {α : Type} (p : α → Bool) (l : List α) : Int := if l.findIdx p < l.length then (l.findIdx p : Int) else -1
theorem idxL_at {α : Type} {p : α → Bool} {l : List α} {k : Nat} {x : α} (h : ∀ j y, j < k → l[j]? = some y → p y = false) (hx : l[k]? = some x) (hp : p x = true) : idxL p l = k := by
  have hk : k < l.length := (List.getElem?_eq_some_iff.1 hx).1
  have e : l.findIdx p = k := by
    rw [List.findIdx_eq hk]
    refine ⟨by rw [List.getElem?_eq_getElem hk] at hx; rw [Option.some.inj hx]; exact hp, fun j hj => ?_⟩
    exact h j _ hj (List.getElem?_eq_getElem (by omega))
  unfold idxL
  rw [e, if_pos hk]
theorem idxL_none {α : Type} {p : α → Bool} {l : List α} (h : ∀ j y, j < l.length → l[j]? = some y → p y = false) : idxL p l = -1 := by
  have e : l.findIdx p = l.length := by
    rw [List.findIdx_eq_length]
    intro x hx
    obtain ⟨j, hj, rfl⟩ := List.getElem_of_mem hx
    exact h j _ hj (List.getElem?_eq_getElem hj)
  unfold idxL
  rw [e, if_neg (by omega)]
theorem idxL_any {α : Type} (p : α → Bool) (l : List α) : decide (idxL p l ≥ 0) = l.any p := by
  unfold idxL
  cases h : l.any p with
  | true =>
    have : l.findIdx p < l.length := List.findIdx_lt_length_of_exists (by simpa using h)
    rw [if_pos this]
    exact decide_eq_true (by omega)
  | false =>
    have : l.findIdx p = l.length := List.findIdx_eq_length.2 (by simpa using h)
    rw [if_neg (by omega)]
    rfl
end Go.Proofs.Ytjlnpgehfgonpaa.X
