/- Lemmas of this session's own that the printed texts and the hand-proved contracts lean on: bytes of a converted string, and the like. -/
import Derived.Test.YtjlnpgehfgonpaaProg
import Derived.Test.YtjlnpgehfgonpaaWWords
import Derived.Test.YtjlnpgehfgonpaaWLast
import Derived.Test.YtjlnpgehfgonpaaWMore
import Derived.WalkKit
import Derived.Lib.Hide
import Derived.Lib.ConvBytes
import Derived.Laws.BytesArg
import Derived.Below
import Derived.Test.YtjlnpgehfgonpaaShelf
namespace Go.Proofs.Ytjlnpgehfgonpaa.X
open Go.RowKit Go.Proofs.YtjlnpgehfgonpaaW.PrintWords Go.Proofs.YtjlnpgehfgonpaaW.PrintLast
set_option linter.unusedVariables false
set_option linter.unusedSimpArgs false
/-! ### bytes of a converted string; small letters -/
def byN (s : ByteArray) (j : Nat) : Nat := (s.data.toList.getD j 0).toNat
def lowN (m : Nat) : Nat := if 65 ≤ m ∧ m ≤ 90 then m + 32 else m
def BytesAt (w : World) (B n : Nat) (f : Nat → Nat) : Prop := ∀ j, j < n → w.cell? ⟨B, j, none⟩ = some (.int .u8 (f j)) ∧ w.frozen? ⟨B, j, none⟩ = false
theorem BytesAt.set {w : World} {B n k : Nat} {f g : Nat → Nat} (h : BytesAt w B n f) (hk : k < n) (hg : ∀ j, j ≠ k → g j = f j) {v : Int} (hv : v = (g k : Nat)) : BytesAt (w.setCell ⟨B, k, none⟩ (.int .u8 v)) B n g := by
  intro j hj
  subst hv
  refine ⟨?_, by rw [World.frozen?_setCell]; exact (h j hj).2⟩
  by_cases e : j = k
  · subst e
    exact World.cell?_setCell_same w _ _ (h j hj).1
  · rw [World.cell?_setCell_other, hg j e]
    · exact (h j hj).1
    · intro q; injection q with _ q; exact e q.symm
theorem byN_lt (s : ByteArray) (j : Nat) : byN s j < 256 := by unfold byN; exact UInt8.toNat_lt _
def lowPart (s : ByteArray) (k j : Nat) : Nat := if j < k then lowN (byN s j) else byN s j
def lowS (s : ByteArray) : ByteArray := ⟨s.data.map fun c => if 65 ≤ c ∧ c ≤ 90 then c + 32 else c⟩
theorem lowS_size (s : ByteArray) : (lowS s).size = s.size := by
  show (Array.map _ s.data).size = _
  rw [Array.size_map]; rfl
theorem bytesWorld_frozen (w : World) (e : TypeId) (s : ByteArray) (j : Nat) (hj : j < s.size) : (Lib.bytesWorld w e s).frozen? ⟨w.heap.size, j, none⟩ = false := by
  have h := Lib.bytesWorld_at_new w e s
  have hs : s.size ≤ (Lib.bytesCells w e s).size := by
    unfold Lib.bytesCells
    rw [Array.size_append, Array.size_map]
    exact Nat.le_add_right _ _
  simp [World.frozen?, h]
  omega
theorem bytesWorld_below (w : World) (e : TypeId) (s : ByteArray) : Below w.heap.size w (Lib.bytesWorld w e s) := by
  refine ⟨rfl, rfl, rfl, ?_, fun k hk => Lib.bytesWorld_at_old w e s k hk⟩
  rw [Lib.bytesWorld_size]; omega
theorem lowPart_ne (s : ByteArray) (k j : Nat) (h : j ≠ k) : lowPart s (k + 1) j = lowPart s k j := by
  unfold lowPart
  by_cases h1 : j < k
  · rw [if_pos h1, if_pos (by omega)]
  · rw [if_neg h1, if_neg (by omega)]
theorem lowPart_up (s : ByteArray) (k : Nat) (h1 : 65 ≤ byN s k) (h2 : byN s k ≤ 90) : lowPart s (k + 1) k = byN s k + 32 := by
  unfold lowPart lowN
  rw [if_pos (by omega), if_pos ⟨h1, h2⟩]
theorem lowPart_no (s : ByteArray) (k : Nat) (h : ¬ (65 ≤ byN s k ∧ byN s k ≤ 90)) : lowPart s (k + 1) = lowPart s k := by
  funext j
  by_cases e : j = k
  · subst e
    unfold lowPart lowN
    rw [if_pos (by omega), if_neg h, if_neg (by omega)]
  · exact lowPart_ne s k j e
def lowL (s : ByteArray) : List Int := (List.range s.size).map fun j => ((lowPart s s.size j : Nat) : Int)
theorem lowL_length (s : ByteArray) : (lowL s).length = s.size := by simp [lowL]
theorem lowL_get (s : ByteArray) (i : Nat) (hi : i < s.size) : (lowPart s s.size i : Int) = (lowL s).getD i 0 := by
  simp [lowL, List.getD, hi]
theorem lowL_str (s : ByteArray) : strOfNums (lowL s) = lowS s := by
  unfold strOfNums lowS
  congr 1
  apply Array.ext'
  apply List.ext_getElem
  · show (List.map _ (lowL s)).length = _
    rw [List.length_map, lowL_length, Array.length_toList, Array.size_map]; rfl
  · intro i h1 h2
    have hi : i < s.size := by simpa [lowL] using h1
    have hi' : i < s.data.size := hi
    simp [lowL, lowPart, hi, lowN, byN, List.getD]
    have h3 := UInt8.toNat_lt s.data[i]
    by_cases hu : 65 ≤ s.data[i].toNat ∧ s.data[i].toNat ≤ 90
    · rw [if_pos hu, if_pos (by simpa [UInt8.le_iff_toNat_le] using hu)]
      apply UInt8.toNat_inj.1
      simp
    · rw [if_neg hu, if_neg (by simpa [UInt8.le_iff_toNat_le] using hu)]
      simp
theorem some_if {α : Type} {p : Prop} [Decidable p] {a r : α} (h : (if p then some a else none) = some r) : p ∧ r = a := by
  by_cases hp : p
  · rw [if_pos hp] at h
    exact ⟨hp, (Option.some.inj h).symm⟩
  · rw [if_neg hp] at h
    cases h
/-! ### how many bytes a text begins with that are so -/
def runL (p : UInt8 → Bool) (l : List UInt8) : Nat := (l.takeWhile p).length
theorem runL_step (p : UInt8 → Bool) (s : ByteArray) (k : Nat) (h : k < s.size) : runL p (s.data.toList.drop k) = if p s[k] = true then runL p (s.data.toList.drop (k + 1)) + 1 else 0 := by
  have h' : k < s.data.toList.length := by rw [Array.length_toList]; exact h
  unfold runL
  rw [List.drop_eq_getElem_cons h', List.takeWhile_cons]
  have e : s.data.toList[k] = s[k] := rfl
  rw [e]
  cases p s[k] <;> simp
theorem runL_end (p : UInt8 → Bool) (s : ByteArray) : runL p (s.data.toList.drop s.size) = 0 := by
  unfold runL
  rw [List.drop_of_length_le (by rw [Array.length_toList]; exact Nat.le_refl _)]
  rfl
theorem runL_le (p : UInt8 → Bool) (l : List UInt8) : runL p l ≤ l.length := by
  unfold runL
  have := List.takeWhile_append_dropWhile (p := p) (l := l)
  have h2 := congrArg List.length this
  rw [List.length_append] at h2
  omega
/-! ### a text all of whose runes are seen -/
def seenB (b : UInt8) : Bool := decide (33 ≤ b.toNat) && decide (b.toNat ≤ 126)
def seenP (x : Nat) : Bool := decide (x < 33) || decide (126 < x)
theorem get_eq (s : ByteArray) (i : Nat) (h : i < s.size) : s.get! i = s[i] := by
  show s.data[i]! = s.data[i]
  exact getElem!_pos s.data i h
theorem decode_small (s : ByteArray) (i : Nat) (h : i < s.size) (hb : s[i].toNat < 128) : Utf8.decode s i = (s[i].toNat, 1) := by
  unfold Utf8.decode
  simp only [Nat.add_zero, get_eq s i h]
  rw [if_pos hb]
theorem decode_big (s : ByteArray) (i : Nat) (h : i < s.size) (hb : 128 ≤ s[i].toNat) : 128 ≤ (Utf8.decode s i).1 := by
  unfold Utf8.decode
  simp only [Nat.add_zero, get_eq s i h]
  rw [if_neg (by omega)]
  repeat' (first | (split <;> rename_i h_ <;> simp only [Bool.and_eq_true, decide_eq_true_eq, Utf8.runeError] at h_ ⊢ <;> omega) | split | (show 128 ≤ Utf8.runeError; decide))
theorem seenP_iff (s : ByteArray) (i : Nat) (h : i < s.size) : seenP (Utf8.decode s i).1 = !seenB s[i] := by
  rcases Nat.lt_or_ge s[i].toNat 128 with hb | hb
  · rw [decode_small s i h hb]
    unfold seenP seenB
    by_cases h1 : s[i].toNat < 33 <;> by_cases h2 : 126 < s[i].toNat <;> simp [h1, h2] <;> omega
  · have h1 := decode_big s i h hb
    unfold seenP seenB
    have e1 : decide (126 < (Utf8.decode s i).1) = true := decide_eq_true (by omega)
    have e2 : decide (s[i].toNat ≤ 126) = false := decide_eq_false (by omega)
    rw [e1, e2]
    simp
theorem drop_cons (s : ByteArray) (i : Nat) (h : i < s.size) : s.data.toList.drop i = s[i] :: s.data.toList.drop (i + 1) := by
  have h' : i < s.data.toList.length := by rw [Array.length_toList]; exact h
  rw [List.drop_eq_getElem_cons h']
  rfl
theorem idx_seen (s : ByteArray) : ∀ f i, s.size ≤ i + f → (decide (Lib.idxFuncFrom seenP true s f i < 0) = (s.data.toList.drop i).all seenB)
  | 0, i, h => by
    rw [List.drop_of_length_le (by rw [Array.length_toList]; exact h)]
    rfl
  | f + 1, i, h => by
    by_cases hi : i < s.size
    · unfold Lib.idxFuncFrom
      rw [if_pos hi, drop_cons s i hi, List.all_cons, seenP_iff s i hi]
      cases hb : seenB s[i] with
      | false => simp
      | true =>
        have hsm : s[i].toNat < 128 := by
          unfold seenB at hb
          simp at hb
          omega
        rw [decode_small s i hi hsm]
        simp only [Bool.not_true, Bool.false_eq_true, if_false, Bool.true_and]
        exact idx_seen s f (i + 1) (by omega)
    · rw [Lib.idxFuncFrom_end _ _ _ _ _ hi, List.drop_of_length_le (by rw [Array.length_toList]; exact Nat.le_of_not_lt hi)]
      rfl
theorem idx_seen_all (s : ByteArray) : decide (Lib.idxFunc seenP true s < 0) = s.data.toList.all seenB := by
  have := idx_seen s s.size 0 (by omega)
  rw [List.drop_zero] at this
  exact this
end Go.Proofs.Ytjlnpgehfgonpaa.X
