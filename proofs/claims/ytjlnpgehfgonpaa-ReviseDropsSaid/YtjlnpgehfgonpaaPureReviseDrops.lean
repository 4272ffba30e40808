/- The pure statement of the law ReviseDrops: for every method, status, host, path and list of fields the printed law answers true. -/
import Derived.Test.YtjlnpgehfgonpaaPReviseDropsx6
namespace Go.Proofs.Ytjlnpgehfgonpaa.Pure
open Go.Proofs Go.Proofs.Ytjlnpgehfgonpaa.X Go.RowKit Go.Proofs.Ytjlnpgehfgonpaa.PReviseDrops Go.Proofs.YtjlnpgehfgonpaaW.PrintWords Go.Proofs.YtjlnpgehfgonpaaW.PrintLast
theorem lives_ : halfwayhouselaw17_lives.f 40 = some true := by decide +kernel
theorem wrap_small {i : Int} (h0 : 0 ≤ i) (h1 : i ≤ 4611686018427387904) : wrap64 (i + 1) = i + 1 := by unfold wrap64; omega
theorem low_ok {a : ByteArray} (h : a.size ≤ 1000) : token_Lower.f a = some (lowS a) := if_pos (by omega)
def key (h p : ByteArray) : ByteArray := lowS h ++ (⟨#[32]⟩ : ByteArray) ++ p
theorem one_size : (⟨#[32]⟩ : ByteArray).size = 1 := rfl
theorem key_size (h p : ByteArray) : (key h p).size = h.size + 1 + p.size := by
  unfold key
  rw [ByteArray.size_append, ByteArray.size_append, lowS_size, one_size]
theorem primary_ok {h p : ByteArray} (hh : h.size ≤ 300) (hp : p.size ≤ 1000) : vary_Primary.f h p = some (key h p) := by
  unfold vary_Primary.f
  rw [low_ok (by omega), Option.bind_some, if_pos (by rw [lowS_size]; omega), if_pos (by rw [ByteArray.size_append, lowS_size, one_size]; omega)]
  rfl
theorem primary2_ok {h p : ByteArray} (hh : h.size ≤ 300) (hp : p.size ≤ 1000) : halfwayhouseref12_Primary.f h p = some (key h p) := by
  unfold halfwayhouseref12_Primary.f halfwayhouseref01_Lower.f
  rw [if_pos (by omega), Option.bind_some, if_pos (by rw [lowS_size]; omega), if_pos (by rw [ByteArray.size_append, lowS_size, one_size]; omega)]
  rfl
theorem same_ok {a b : ByteArray} (ha : a.size ≤ 1000) (hb : b.size ≤ 1000) : token_Same.f a b = some ((lowS a).toList == (lowS b).toList) := by
  unfold token_Same.f
  rw [low_ok ha, low_ok hb, Option.bind_some, Option.bind_some]
def Few (l : List S39) : Prop := l.length ≤ 30 ∧ ∀ x ∈ l, x.f0.size ≤ 300 ∧ x.f1.size ≤ 300
theorem rd_mem (l : List S39) (i : Int) (h0 : 0 ≤ i) (h1 : i < (l.length : Int)) : rd_T39 l i ∈ l := by
  unfold rd_T39
  rw [List.getD_eq_getElem?_getD, List.getElem?_eq_getElem (by omega)]
  exact List.getElem_mem _
theorem few_ok (l : List S39) (hl : l.length ≤ 9223372036854775807) : ∀ (d : Nat) (i : Int), 0 ≤ i → i ≤ (l.length : Int) → (l.length : Int) - i = d → (∀ j : Nat, (j : Int) < i → ∀ x, l[j]? = some x → x.f0.size ≤ 300 ∧ x.f1.size ≤ 300) →
    ∃ b, Ev (fun k => halfwayhousekit_FewFields.l0 k l i) b ∧ (b = true → Few l)
  | 0, i, h0, h1, hd, hs => by
    refine ⟨decide ((l.length : Int) ≤ 30), Ev.step (f := fun _ => some (decide ((l.length : Int) ≤ 30))) (fun k => ?_) (Ev.now _), fun hb => ⟨by have := of_decide_eq_true hb; omega, fun x hx => ?_⟩⟩
    · simp only [halfwayhousekit_FewFields.l0]
      rw [if_neg (by omega)]
    · obtain ⟨j, hj, rfl⟩ := List.getElem_of_mem hx
      exact hs j (by omega) _ (List.getElem?_eq_getElem hj)
  | d + 1, i, h0, h1, hd, hs => by
    have hlt : i < (l.length : Int) := by omega
    by_cases c1 : ((rd_T39 l i).f0.size : Int) > 300
    · refine ⟨false, Ev.step (f := fun _ => some false) (fun k => ?_) (Ev.now _), fun hb => by cases hb⟩
      simp only [halfwayhousekit_FewFields.l0]
      rw [if_pos hlt, if_pos h0, if_pos c1]
    · by_cases c2 : ((rd_T39 l i).f1.size : Int) > 300
      · refine ⟨false, Ev.step (f := fun _ => some false) (fun k => ?_) (Ev.now _), fun hb => by cases hb⟩
        simp only [halfwayhousekit_FewFields.l0]
        rw [if_pos hlt, if_pos h0, if_neg c1, if_pos c2]
      · obtain ⟨b, hb, hF⟩ := few_ok l hl d (i + 1) (by omega) (by omega) (by omega) (fun j hj x hx => by
          by_cases e : (j : Int) < i
          · exact hs j e x hx
          · have e' : j = i.toNat := by omega
            subst e'
            have : rd_T39 l i = x := by unfold rd_T39; rw [List.getD_eq_getElem?_getD, hx]; rfl
            rw [this] at c1 c2
            omega)
        refine ⟨b, Ev.step (fun k => ?_) hb, hF⟩
        simp only [halfwayhousekit_FewFields.l0]
        rw [if_pos hlt, if_pos h0, if_neg c1, if_neg c2]
        have : wrap64 (i + 1) = i + 1 := by unfold wrap64; omega
        rw [this]
theorem all_ok {l : List S39} (hF : Few l) {name : ByteArray} (hn : name.size ≤ 300) : ∀ (d : Nat) (i : Int) (acc : List ByteArray), 0 ≤ i → i ≤ (l.length : Int) → (l.length : Int) - i = d → acc.length + d ≤ 30 → (∀ y ∈ acc, y.size ≤ 300) →
    ∃ r, Ev (fun k => field_All.l0 k name acc l (l.length : Int) i) r ∧ ∀ y ∈ r, y.size ≤ 300
  | 0, i, acc, h0, h1, hd, ha, hs => by
    refine ⟨acc, Ev.step (f := fun _ => some acc) (fun k => ?_) (Ev.now _), hs⟩
    simp only [field_All.l0]
    rw [if_neg (by omega)]
  | d + 1, i, acc, h0, h1, hd, ha, hs => by
    have hlt : i < (l.length : Int) := by omega
    have hm := hF.2 _ (rd_mem l i h0 hlt)
    have hl30 := hF.1
    cases hb : ((lowS (rd_T39 l i).f0).toList == (lowS name).toList) with
    | true =>
      obtain ⟨r, hr, hq⟩ := all_ok hF hn d (i + 1) (acc ++ [(rd_T39 l i).f1]) (by omega) (by omega) (by omega) (by rw [List.length_append, List.length_singleton]; omega) (fun y hy => by
        rcases List.mem_append.1 hy with h | h
        · exact hs y h
        · rw [List.mem_singleton.1 h]; exact hm.2)
      refine ⟨r, Ev.step (fun k => ?_) hr, hq⟩
      simp only [field_All.l0]
      rw [if_pos hlt, if_pos h0, if_pos hlt, same_ok (by omega) (by omega), Option.bind_some, if_pos hb, if_pos (by omega), wrap_small h0 (by omega)]
    | false =>
      obtain ⟨r, hr, hq⟩ := all_ok hF hn d (i + 1) acc (by omega) (by omega) (by omega) (by omega) hs
      refine ⟨r, Ev.step (fun k => ?_) hr, hq⟩
      simp only [field_All.l0]
      rw [if_pos hlt, if_pos h0, if_pos hlt, same_ok (by omega) (by omega), Option.bind_some, if_neg (by rw [hb]; decide), wrap_small h0 (by omega)]
theorem prefix_ok (a p : ByteArray) : ∃ b, stringslite_HasPrefix.f a p = some b ∧ (b = true → p.size ≤ a.size) := by
  unfold stringslite_HasPrefix.f
  by_cases h : (a.size : Int) ≥ (p.size : Int)
  · rw [if_pos h, if_pos (by omega), if_pos (by omega)]
    exact ⟨_, rfl, fun _ => by omega⟩
  · rw [if_neg h]
    exact ⟨_, rfl, fun h => by cases h⟩
theorem hprefix_ok (a p : ByteArray) : ∃ b, strings_HasPrefix.f a p = some b := by
  obtain ⟨b, hb, _⟩ := prefix_ok a p
  unfold strings_HasPrefix.f
  rw [hb]
  exact ⟨b, rfl⟩
theorem cut_ok (a p : ByteArray) : ∃ r, strings_CutPrefix.f a p = some r ∧ r.1.size ≤ a.size ∧ (r.2 = true → r.1.size + p.size ≤ a.size) := by
  obtain ⟨b, hb, hp⟩ := prefix_ok a p
  unfold strings_CutPrefix.f stringslite_CutPrefix.f
  rw [hb]
  cases b with
  | true =>
    have := hp rfl
    rw [Option.bind_some, if_pos rfl, if_pos (by omega), if_pos (by omega)]
    refine ⟨_, rfl, ?_, fun _ => ?_⟩ <;> simp only [ByteArray.size_extract, Int.toNat_natCast] <;> omega
  | false => exact ⟨_, rfl, Nat.le_refl _, fun h => by cases h⟩
theorem run1_ok {p : UInt8 → Bool} (s : ByteArray) : (0 : Int) ≤ (runL p s.data.toList : Int) ∧ (runL p s.data.toList : Int) ≤ s.size := by
  have := runL_le p s.data.toList
  rw [Array.length_toList] at this
  have h2 : s.data.size = s.size := rfl
  omega
theorem port1_ok {s : ByteArray} (_hs : s.size ≤ 1000) (x : Int) (b : Bool) (h0 : 0 ≤ x) (h1 : x ≤ s.size) : ∃ r, Ev (fun k => start_port.j1 k s x b) r := by
  by_cases hb : b = true
  · refine ⟨_, Ev.step (f := fun _ => some (0, decide (x > 0))) (fun k => ?_) (Ev.now _)⟩
    simp only [start_port.j1]
    rw [if_pos hb]
  · obtain ⟨r, hr, hr1, _⟩ := cut_ok (s.extract (x : Int).toNat s.size) (⟨#[58]⟩ : ByteArray)
    have hsz : (s.extract (x : Int).toNat s.size).size ≤ s.size := by rw [ByteArray.size_extract]; omega
    have key : ∃ q, ∀ k, start_port.j1 (k + 1) s x b = some q := by
      simp only [start_port.j1]
      rw [if_neg hb, if_pos h0, if_pos h1, hr, Option.bind_some]
      by_cases h2 : r.2 = true
      · rw [if_pos h2]
        by_cases h3 : (r.1.size : Int) ≤ 5
        · rw [if_pos h3]
          unfold start_run__digit.f
          rw [if_pos (by omega), Option.bind_some]
          exact ⟨_, fun _ => rfl⟩
        · rw [if_neg h3]; exact ⟨_, fun _ => rfl⟩
      · rw [if_neg h2]; exact ⟨_, fun _ => rfl⟩
    obtain ⟨q, hq⟩ := key
    exact ⟨q, Ev.step (f := fun _ => some q) hq (Ev.now _)⟩
theorem port0_ok {s : ByteArray} (hs : s.size ≤ 1000) (x : Int) (h0 : 0 ≤ x) (h1 : x ≤ s.size) : ∃ r, Ev (fun k => start_port.j0 k s x) r := by
  by_cases hx : x = 0
  · obtain ⟨r, hr⟩ := port1_ok hs x true h0 h1
    refine ⟨r, Ev.step (fun k => ?_) hr⟩
    simp only [start_port.j0]
    rw [if_pos hx]
  · obtain ⟨r, hr⟩ := port1_ok hs x (x == (s.size : Int)) h0 h1
    refine ⟨r, Ev.step (fun k => ?_) hr⟩
    simp only [start_port.j0]
    rw [if_neg hx]
theorem port_ok {s : ByteArray} (hs : s.size ≤ 1000) : ∃ r, Ev (fun k => start_port.f k s) r := by
  obtain ⟨c, hc, hc1, hc2⟩ := cut_ok s (⟨#[91]⟩ : ByteArray)
  have one : (⟨#[91]⟩ : ByteArray).size = 1 := rfl
  have e1 : start_run__hostByte.f s = some (runL start_run__hostByte.p s.data.toList : Int) := if_pos (by omega)
  have e2 : start_run__address.f c.1 = some (runL start_run__address.p c.1.data.toList : Int) := if_pos (by omega)
  have b1 := run1_ok (p := start_run__hostByte.p) s
  have b2 := run1_ok (p := start_run__address.p) c.1
  generalize (runL start_run__hostByte.p s.data.toList : Int) = n at e1 b1
  generalize (runL start_run__address.p c.1.data.toList : Int) = m at e2 b2
  by_cases h2 : c.2 = true
  · have h3 := hc2 h2
    by_cases hm0 : m = 0
    · refine ⟨_, Ev.congr (f := fun _ => some (0, false)) (fun k => ?_) (Ev.now _)⟩
      unfold start_port.f
      rw [e1, Option.bind_some, hc, Option.bind_some, if_pos h2, e2, Option.bind_some, if_pos hm0]
    · by_cases hm1 : m = (c.1.size : Int)
      · refine ⟨_, Ev.congr (f := fun _ => some (0, false)) (fun k => ?_) (Ev.now _)⟩
        unfold start_port.f
        rw [e1, Option.bind_some, hc, Option.bind_some, if_pos h2, e2, Option.bind_some, if_neg hm0, if_pos hm1]
      · by_cases hb : (bt c.1 m) = 93
        · have hw : wrap64 (m + 2) = m + 2 := by unfold wrap64; omega
          obtain ⟨r, hr⟩ := port0_ok hs (m + 2) (by omega) (by omega)
          refine ⟨r, Ev.congr (fun k => ?_) hr⟩
          unfold start_port.f
          rw [e1, Option.bind_some, hc, Option.bind_some, if_pos h2, e2, Option.bind_some, if_neg hm0, if_neg hm1, if_pos b2.1, if_pos (by omega), if_pos hb, hw]
        · refine ⟨_, Ev.congr (f := fun _ => some (0, false)) (fun k => ?_) (Ev.now _)⟩
          unfold start_port.f
          rw [e1, Option.bind_some, hc, Option.bind_some, if_pos h2, e2, Option.bind_some, if_neg hm0, if_neg hm1, if_pos b2.1, if_pos (by omega), if_neg hb]
  · obtain ⟨r, hr⟩ := port0_ok hs n b1.1 b1.2
    refine ⟨r, Ev.congr (fun k => ?_) hr⟩
    unfold start_port.f
    rw [e1, Option.bind_some, hc, Option.bind_some, if_neg h2]
theorem host_ok {s : ByteArray} (hs : s.size ≤ 1000) : ∃ b, Ev (fun k => start_Host.f k s) b := by
  obtain ⟨r, hr⟩ := port_ok hs
  exact ⟨r.2, Ev.bind (f := fun _ (r : Int × Bool) => some r.2) hr (Ev.now _)⟩
theorem bad_size : (⟨#[]⟩ : ByteArray).size ≤ 400 := by decide
abbrev TR := Int × ByteArray × ByteArray × Int
def TOk (r : TR) : Prop := r.2.1.size ≤ 400 ∧ r.2.2.1.size ≤ 400
theorem t5_ok {x : ByteArray} (hx : x.size ≤ 300) (i : Int) (h0 : 0 ≤ i) (h1 : i ≤ x.size) (p : ByteArray) (hp : p.size ≤ 400) : ∃ r : TR, Ev (fun k => start_Target.j5 k x i p) r ∧ TOk r := by
  have hsz : (x.extract 0 (i : Int).toNat).size ≤ 300 := by rw [ByteArray.size_extract]; omega
  obtain ⟨b, hb⟩ := host_ok (s := x.extract 0 (i : Int).toNat) (by omega)
  cases b with
  | true =>
    refine ⟨(2, lowS (x.extract 0 (i : Int).toNat), p, 0), Ev.step (fun k => ?_) (Ev.bind (f := fun _ t => if t = true then (token_Lower.f (x.extract 0 (i : Int).toNat)).bind fun t145 => some (2, t145, p, 0) else some (0, (⟨#[]⟩ : ByteArray), (⟨#[]⟩ : ByteArray), 400)) hb ?_), by show (lowS _).size ≤ 400; rw [lowS_size]; omega, hp⟩
    · simp only [start_Target.j5]
      rw [if_pos h0, if_pos h1]
    · rw [low_ok (by omega)]
      exact Ev.now _
  | false =>
    refine ⟨(0, (⟨#[]⟩ : ByteArray), (⟨#[]⟩ : ByteArray), 400), Ev.step (fun k => ?_) (Ev.bind (f := fun _ t => if t = true then (token_Lower.f (x.extract 0 (i : Int).toNat)).bind fun t145 => some (2, t145, p, 0) else some (0, (⟨#[]⟩ : ByteArray), (⟨#[]⟩ : ByteArray), 400)) hb ?_), by decide, by decide⟩
    · simp only [start_Target.j5]
      rw [if_pos h0, if_pos h1]
    · exact Ev.now _
theorem t4_ok {x : ByteArray} (hx : x.size ≤ 300) (i : Int) (h0 : 0 ≤ i) (h1 : i ≤ x.size) : ∃ r : TR, Ev (fun k => start_Target.j4 k x i) r ∧ TOk r := by
  have hsz : (x.extract (i : Int).toNat x.size).size ≤ 300 := by rw [ByteArray.size_extract]; omega
  obtain ⟨b, hb⟩ := hprefix_ok (x.extract (i : Int).toNat x.size) (⟨#[47]⟩ : ByteArray)
  have one : (⟨#[47]⟩ : ByteArray).size = 1 := rfl
  cases b with
  | true =>
    obtain ⟨r, hr, hq⟩ := t5_ok hx i h0 h1 (x.extract (i : Int).toNat x.size) (by omega)
    refine ⟨r, Ev.step (fun k => ?_) hr, hq⟩
    simp only [start_Target.j4]
    rw [if_pos h0, if_pos h1, hb, Option.bind_some, if_pos rfl]
  | false =>
    obtain ⟨r, hr, hq⟩ := t5_ok hx i h0 h1 ((⟨#[47]⟩ : ByteArray) ++ (x.extract (i : Int).toNat x.size)) (by rw [ByteArray.size_append, one]; omega)
    refine ⟨r, Ev.step (fun k => ?_) hr, hq⟩
    simp only [start_Target.j4]
    rw [if_pos h0, if_pos h1, hb, Option.bind_some, if_neg (by decide), if_pos (by omega)]
theorem indexAny_lt (chars : List UInt8) : ∀ l : List UInt8, Lib.indexAny l chars ≤ (l.length : Int)
  | [] => by unfold Lib.indexAny; simp
  | b :: l => by
    have ih := indexAny_lt chars l
    unfold Lib.indexAny
    rw [List.length_cons]
    split
    · omega
    · split <;> omega
theorem t3_ok {v x : ByteArray} (hv : v.size ≤ 300) (hv0 : 0 < v.size) (hx : x.size ≤ 300) (ha : x.data.toList.all (fun b => decide (b.toNat < 128)) = true) : ∃ r : TR, Ev (fun k => start_Target.j3 k v x false) r ∧ TOk r := by
  by_cases h47 : (bt v 0) = 47
  · refine ⟨(1, (⟨#[]⟩ : ByteArray), v, 0), Ev.step (f := fun _ => some (1, (⟨#[]⟩ : ByteArray), v, 0)) (fun k => ?_) (Ev.now _), bad_size, by show v.size ≤ 400; omega⟩
    simp only [start_Target.j3]
    rw [if_neg (by decide), if_pos (by omega), if_pos h47]
  · by_cases he : x.toList = ([] : List UInt8)
    · refine ⟨(0, (⟨#[]⟩ : ByteArray), (⟨#[]⟩ : ByteArray), 400), Ev.step (f := fun _ => some (0, (⟨#[]⟩ : ByteArray), (⟨#[]⟩ : ByteArray), 400)) (fun k => ?_) (Ev.now _), by decide, by decide⟩
      simp only [start_Target.j3]
      rw [if_neg (by decide), if_pos (by omega), if_neg h47, if_pos he]
    · have hi : strings_IndexAny.f x (⟨#[47, 63]⟩ : ByteArray) = some (Lib.indexAny x.data.toList (⟨#[47, 63]⟩ : ByteArray).data.toList) := if_pos ⟨⟨by omega, by decide⟩, ha, by decide⟩
      have hle := indexAny_lt (⟨#[47, 63]⟩ : ByteArray).data.toList x.data.toList
      rw [Array.length_toList] at hle
      have hxs : x.data.size = x.size := rfl
      generalize Lib.indexAny x.data.toList (⟨#[47, 63]⟩ : ByteArray).data.toList = i at hi hle
      by_cases hneg : i < 0
      · obtain ⟨r, hr, hq⟩ := t4_ok hx (x.size : Int) (by omega) (by omega)
        refine ⟨r, Ev.step (fun k => ?_) hr, hq⟩
        simp only [start_Target.j3]
        rw [if_neg (by decide), if_pos (by omega), if_neg h47, if_neg he, hi, Option.bind_some, if_pos hneg]
      · obtain ⟨r, hr, hq⟩ := t4_ok hx i (by omega) (by omega)
        refine ⟨r, Ev.step (fun k => ?_) hr, hq⟩
        simp only [start_Target.j3]
        rw [if_neg (by decide), if_pos (by omega), if_neg h47, if_neg he, hi, Option.bind_some, if_neg hneg]
abbrev GET : ByteArray := ⟨#[71, 69, 84]⟩
theorem t2_ok {v x : ByteArray} (hv : v.size ≤ 300) (n : Int) (h : Bool) (b : Bool) (hb : b = false → 0 < v.size ∧ x.size ≤ 300 ∧ x.data.toList.all (fun b => decide (b.toNat < 128)) = true) : ∃ r : TR, Ev (fun k => start_Target.j2 k GET v n h x b) r ∧ TOk r := by
  cases b with
  | true =>
    refine ⟨(0, (⟨#[]⟩ : ByteArray), (⟨#[]⟩ : ByteArray), 400), Ev.step (f := fun _ => some (0, (⟨#[]⟩ : ByteArray), (⟨#[]⟩ : ByteArray), 400)) (fun k => ?_) (Ev.now _), bad_size, bad_size⟩
    simp only [start_Target.j2]
    exact if_pos trivial
  | false =>
    obtain ⟨h1, h2, h3⟩ := hb rfl
    obtain ⟨r, hr, hq⟩ := t3_ok hv h1 h2 h3
    refine ⟨r, Ev.step (fun k => ?_) hr, hq⟩
    simp only [start_Target.j2]
    rw [if_neg (by decide), if_neg (by rw [ByteArray.toList_eq]; decide), if_neg (by rw [ByteArray.toList_eq]; decide)]
theorem all_small {s : ByteArray} (h : s.data.toList.all seenB = true) : s.data.toList.all (fun b => decide (b.toNat < 128)) = true := by
  refine List.all_eq_true.2 fun b hb => decide_eq_true ?_
  have := List.all_eq_true.1 h b hb
  unfold seenB at this
  simp at this
  omega
theorem all_cut {s : ByteArray} (i : Nat) (h : s.data.toList.all (fun b => decide (b.toNat < 128)) = true) : (s.extract i s.size).data.toList.all (fun b => decide (b.toNat < 128)) = true := by
  refine List.all_eq_true.2 fun b hb => List.all_eq_true.1 h b ?_
  rw [ByteArray.data_extract, Array.toList_extract] at hb
  simp only [List.extract_eq_take_drop] at hb
  exact List.mem_of_mem_drop (List.mem_of_mem_take hb)
theorem t1_ok {v x : ByteArray} (hv : v.size ≤ 300) (hx : x = (⟨#[]⟩ : ByteArray) ∨ x = v.extract 7 v.size) (n : Int) (h : Bool) : ∃ r : TR, Ev (fun k => start_Target.j1 k GET v n h x) r ∧ TOk r := by
  have hseen : ∃ b, start_seen.f v = some b ∧ (b = true → 0 < v.size ∧ v.data.toList.all seenB = true) := by
    unfold start_seen.f strings_IndexFunc__seen.f
    by_cases he : v.toList = ([] : List UInt8)
    · rw [if_pos he]
      exact ⟨false, rfl, fun h => by cases h⟩
    · rw [if_neg he, Option.bind_some]
      refine ⟨_, rfl, fun h => ⟨?_, by rw [← idx_seen_all]; exact h⟩⟩
      rcases Nat.eq_zero_or_pos v.size with h0 | h0
      · exact absurd (by rw [ByteArray.size_eq_zero_iff.1 h0]; exact ByteArray.toList_empty) he
      · exact h0
  obtain ⟨b, hb, hb2⟩ := hseen
  cases b with
  | true =>
    obtain ⟨hv0, hvs⟩ := hb2 rfl
    obtain ⟨r, hr, hq⟩ := t2_ok (v := v) (x := x) hv n h (decide (Lib.indexByte v.data.toList (35 : Int).toNat.toUInt8 ≥ 0)) (fun _ => ⟨hv0, by
      rcases hx with rfl | rfl
      · decide
      · rw [ByteArray.size_extract]; omega, by
      rcases hx with rfl | rfl
      · decide
      · exact all_cut 7 (all_small hvs)⟩)
    refine ⟨r, Ev.step (fun k => ?_) hr, hq⟩
    simp only [start_Target.j1]
    rw [hb, Option.bind_some, if_pos rfl]
    rfl
  | false =>
    obtain ⟨r, hr, hq⟩ := t2_ok (v := v) (x := x) hv n h true (fun h => by cases h)
    refine ⟨r, Ev.step (fun k => ?_) hr, hq⟩
    simp only [start_Target.j1]
    rw [hb, Option.bind_some, if_neg (by decide)]
theorem target_ok {v : ByteArray} (hv : v.size ≤ 300) : ∃ r : TR, Ev (fun k => start_Target.f k GET v) r ∧ TOk r := by
  obtain ⟨p, hp⟩ := port_ok (s := v) (by omega)
  have e7 : (⟨#[104, 116, 116, 112, 58, 47, 47]⟩ : ByteArray).size ≤ 1000 := by decide
  have j0 : ∀ b : Bool, (b = true → 7 ≤ v.size) → ∃ r : TR, Ev (fun k => start_Target.j0 k GET v p.1 p.2 (⟨#[]⟩ : ByteArray) b) r ∧ TOk r := by
    intro b hb
    cases b with
    | true =>
      obtain ⟨r, hr, hq⟩ := t1_ok (x := v.extract 7 v.size) hv (.inr rfl) p.1 p.2
      refine ⟨r, Ev.step (fun k => ?_) hr, hq⟩
      have := hb rfl
      simp only [start_Target.j0]
      rw [if_pos trivial, if_pos (by omega)]
    | false =>
      obtain ⟨r, hr, hq⟩ := t1_ok (x := (⟨#[]⟩ : ByteArray)) hv (.inl rfl) p.1 p.2
      refine ⟨r, Ev.step (fun k => ?_) hr, hq⟩
      simp only [start_Target.j0]
      rw [if_neg (by decide)]
  by_cases h7 : (v.size : Int) > 7
  · have hs := same_ok (a := v.extract 0 7) (b := (⟨#[104, 116, 116, 112, 58, 47, 47]⟩ : ByteArray)) (by rw [ByteArray.size_extract]; omega) e7
    generalize ((lowS (v.extract 0 7)).toList == (lowS (⟨#[104, 116, 116, 112, 58, 47, 47]⟩ : ByteArray)).toList) = t at hs
    obtain ⟨r, hr, hq⟩ := j0 t (fun _ => by omega)
    refine ⟨r, ?_, hq⟩
    refine Ev.bind hp (Ev.congr (fun k => ?_) hr)
    rw [if_pos h7, if_pos (by decide), if_pos (by omega), hs, Option.bind_some]
  · obtain ⟨r, hr, hq⟩ := j0 false (fun h => by cases h)
    refine ⟨r, ?_, hq⟩
    refine Ev.bind hp (Ev.congr (fun k => ?_) hr)
    rw [if_neg h7]
def rdB (l : List ByteArray) (i : Int) : ByteArray := rdOf ByteArray.empty l i
theorem rdB_at (l : List ByteArray) (i : Int) (h0 : 0 ≤ i) (h1 : i < (l.length : Int)) : l[i.toNat]? = some (rdOf ByteArray.empty l i) := by
  unfold rdOf
  rw [List.getD_eq_getElem?_getD, List.getElem?_eq_getElem (by omega)]
  rfl
theorem rdB_mem (l : List ByteArray) (i : Int) (h0 : 0 ≤ i) (h1 : i < (l.length : Int)) : rdOf ByteArray.empty l i ∈ l := List.mem_of_getElem? (rdB_at l i h0 h1)
theorem among_ok (m : ByteArray) (xs : List ByteArray) (hl : xs.length ≤ 100) : ∀ (d : Nat) (i : Int), 0 ≤ i → i ≤ (xs.length : Int) → (xs.length : Int) - i = d →
    Ev (fun k => method_among_string.l0 k m xs (xs.length : Int) i) ((xs.drop i.toNat).any fun y => m.toList == y.toList)
  | 0, i, h0, h1, hd => by
    rw [List.drop_of_length_le (by omega)]
    refine Ev.step (f := fun _ => some false) (fun k => ?_) (Ev.now _)
    simp only [method_among_string.l0]
    rw [if_neg (by omega)]
  | d + 1, i, h0, h1, hd => by
    have hlt : i < (xs.length : Int) := by omega
    have ha := rdB_at xs i h0 hlt
    have hdr : xs.drop i.toNat = rdOf ByteArray.empty xs i :: xs.drop (i.toNat + 1) := by
      rw [List.drop_eq_getElem_cons (by omega)]
      congr 1
      rw [List.getElem?_eq_getElem (by omega)] at ha
      exact Option.some.inj ha
    rw [hdr, List.any_cons]
    by_cases he : m.toList = (rdOf ByteArray.empty xs i).toList
    · rw [beq_iff_eq.2 he, Bool.true_or]
      refine Ev.step (f := fun _ => some true) (fun k => ?_) (Ev.now _)
      simp only [method_among_string.l0]
      rw [if_pos hlt, if_pos h0, if_pos hlt, if_pos he]
    · rw [beq_eq_false_iff_ne.2 he, Bool.false_or]
      have ih := among_ok m xs hl d (i + 1) (by omega) (by omega) (by omega)
      rw [show (i + 1).toNat = i.toNat + 1 by omega] at ih
      refine Ev.step (fun k => ?_) ih
      simp only [method_among_string.l0]
      rw [if_pos hlt, if_pos h0, if_pos hlt, if_neg he, wrap_small h0 (by omega)]
def safeB (m : ByteArray) : Bool := m.toList == [71, 69, 84] || (m.toList == [72, 69, 65, 68] || (m.toList == [79, 80, 84, 73, 79, 78, 83] || m.toList == [84, 82, 65, 67, 69]))
theorem safe_ok (m : ByteArray) : Ev (fun k => method_Safe.f k m) (safeB m) := by
  have h := among_ok m ([(⟨#[71, 69, 84]⟩ : ByteArray), (⟨#[72, 69, 65, 68]⟩ : ByteArray), (⟨#[79, 80, 84, 73, 79, 78, 83]⟩ : ByteArray), (⟨#[84, 82, 65, 67, 69]⟩ : ByteArray)] : List ByteArray) (by decide) 4 0 (by decide) (by decide) (by decide)
  have e : safeB m = (([(⟨#[71, 69, 84]⟩ : ByteArray), (⟨#[72, 69, 65, 68]⟩ : ByteArray), (⟨#[79, 80, 84, 73, 79, 78, 83]⟩ : ByteArray), (⟨#[84, 82, 65, 67, 69]⟩ : ByteArray)] : List ByteArray).drop (0 : Int).toNat).any fun y => m.toList == y.toList := by
    unfold safeB
    rw [show (0 : Int).toNat = 0 from rfl, List.drop_zero, List.any_cons, List.any_cons, List.any_cons, List.any_cons, List.any_nil, Bool.or_false, ByteArray.toList_eq (⟨#[71, 69, 84]⟩ : ByteArray), ByteArray.toList_eq (⟨#[72, 69, 65, 68]⟩ : ByteArray), ByteArray.toList_eq (⟨#[79, 80, 84, 73, 79, 78, 83]⟩ : ByteArray), ByteArray.toList_eq (⟨#[84, 82, 65, 67, 69]⟩ : ByteArray)]
  rw [← e] at h
  exact Ev.bind (f := fun _ t => some t) h (Ev.now _)
theorem index_ok (x : ByteArray) (xs : List ByteArray) (hl : xs.length ≤ 100) : ∀ (d : Nat) (i : Int), 0 ≤ i → i ≤ (xs.length : Int) → (xs.length : Int) - i = d →
    ∃ r : Int, Ev (fun k => slices_Index_string_string.l0 k xs x (xs.length : Int) i) r ∧ (r < 0 → ∀ j y, i.toNat ≤ j → xs[j]? = some y → x.toList ≠ y.toList)
  | 0, i, h0, h1, hd => by
    refine ⟨-1, Ev.step (f := fun _ => some (-1)) (fun k => ?_) (Ev.now _), fun _ j y hj hy => ?_⟩
    · simp only [slices_Index_string_string.l0]
      rw [if_neg (by omega)]
    · rw [List.getElem?_eq_none (by omega)] at hy; cases hy
  | d + 1, i, h0, h1, hd => by
    have hlt : i < (xs.length : Int) := by omega
    have ha := rdB_at xs i h0 hlt
    by_cases he : x.toList = (rdOf ByteArray.empty xs i).toList
    · refine ⟨i, Ev.step (f := fun _ => some i) (fun k => ?_) (Ev.now _), fun h => by omega⟩
      simp only [slices_Index_string_string.l0]
      rw [if_pos hlt, if_pos h0, if_pos hlt, if_pos he]
    · obtain ⟨r, hr, hn⟩ := index_ok x xs hl d (i + 1) (by omega) (by omega) (by omega)
      refine ⟨r, Ev.step (fun k => ?_) hr, fun hneg j y hj hy => ?_⟩
      · simp only [slices_Index_string_string.l0]
        rw [if_pos hlt, if_pos h0, if_pos hlt, if_neg he, wrap_small h0 (by omega)]
      · by_cases e : j = i.toNat
        · subst e
          rw [ha] at hy
          cases hy
          exact he
        · exact hn hneg j y (by omega) hy
theorem contains_ok (x : ByteArray) (xs : List ByteArray) (hl : xs.length ≤ 100) : ∃ b : Bool, Ev (fun k => slices_Contains_string_string.f k xs x) b ∧ (b = false → ∀ y ∈ xs, x.toList ≠ y.toList) := by
  obtain ⟨r, hr, hn⟩ := index_ok x xs hl xs.length 0 (by omega) (by omega) (by omega)
  refine ⟨decide (r ≥ 0), Ev.bind (f := fun _ (t : Int) => some (decide (t ≥ 0))) hr (Ev.now _), fun hb y hy => ?_⟩
  obtain ⟨j, hj, rfl⟩ := List.getElem_of_mem hy
  exact hn (by have := of_decide_eq_false hb; omega) j _ (Nat.zero_le _) (List.getElem?_eq_getElem hj)
structure Out (h p : ByteArray) (out : List ByteArray) : Prop where
  head : ∃ tl, out = key h p :: tl
  keys : ∀ y ∈ out, ∃ q, y = key h q
  apart : (out.map ByteArray.toList).Nodup
abbrev NMS : List ByteArray := [(⟨#[76, 111, 99, 97, 116, 105, 111, 110]⟩ : ByteArray), (⟨#[67, 111, 110, 116, 101, 110, 116, 45, 76, 111, 99, 97, 116, 105, 111, 110]⟩ : ByteArray)]
theorem nms_size (i : Int) (h0 : 0 ≤ i) (h1 : i < 2) : (rdOf ByteArray.empty NMS i).size ≤ 300 := by
  rcases (by omega : i = 0 ∨ i = 1) with rfl | rfl <;> decide
theorem step_ok {h p : ByteArray} (hh : h.size ≤ 300) {l : List S39} (hF : Few l) (i : Int) (h0 : 0 ≤ i) (h1 : i < 2)
    (next : ∀ out, Out h p out → out.length ≤ i.toNat + 2 → ∃ r, Ev (fun k => revise_Drops.l0 k h l out (i + 1)) r ∧ Out h p r ∧ r.length ≤ 3)
    (out : List ByteArray) (hO : Out h p out) (hlen : out.length ≤ i.toNat + 1) : ∃ r, Ev (fun k => revise_Drops.l0 k h l out i) r ∧ Out h p r ∧ r.length ≤ 3 := by
  have hw : wrap64 (i + 1) = i + 1 := wrap_small h0 (by omega)
  have hl30 := hF.1
  obtain ⟨v, hv, hvs⟩ := all_ok hF (nms_size i h0 h1) l.length 0 [] (by omega) (by omega) (by omega) (by simpa using hF.1) (fun y hy => by simp at hy)
  obtain ⟨r0, hr0, hO0, hl0⟩ := next out hO (by omega)
  have j2 : ∀ (b : Bool) (tf : Int) (th q : ByteArray), q.size ≤ 400 → ∃ r, Ev (fun k => revise_Drops.j2 k h l out i b tf th q) r ∧ Out h p r ∧ r.length ≤ 3 := by
    intro b tf th q hq
    cases b with
    | true =>
      refine ⟨r0, Ev.step (fun k => ?_) hr0, hO0, hl0⟩
      simp only [revise_Drops.j2]
      rw [if_pos trivial, hw]
    | false =>
      obtain ⟨b, hb, hbn⟩ := contains_ok (key h q) out (by omega)
      cases b with
      | true =>
        refine ⟨r0, Ev.step (fun k => ?_) (Ev.bind (f := fun k t => if t = true then revise_Drops.l0 k h l out (i + 1) else if out.length < 8796093022208 then revise_Drops.l0 k h l (out ++ [key h q]) (i + 1) else none) hb hr0), hO0, hl0⟩
        simp only [revise_Drops.j2]
        rw [if_neg (by decide), primary_ok hh (by omega), Option.bind_some, hw]
      | false =>
        have hap := hbn rfl
        obtain ⟨r1, hr1, hO1, hl1⟩ := next (out ++ [key h q]) ⟨by
            obtain ⟨tl, e⟩ := hO.head
            exact ⟨tl ++ [key h q], by rw [e]; rfl⟩, fun y hy => by
            rcases List.mem_append.1 hy with hy | hy
            · exact hO.keys y hy
            · exact ⟨q, List.mem_singleton.1 hy⟩, by
            rw [List.map_append, List.nodup_append]
            refine ⟨hO.apart, by simp, fun a ha b hb => ?_⟩
            obtain ⟨y, hy, rfl⟩ := List.mem_map.1 ha
            have hb' : b = (key h q).toList := by simpa using hb
            rw [hb']
            exact fun e => hap y hy e.symm⟩ (by rw [List.length_append, List.length_singleton]; omega)
        refine ⟨r1, Ev.step (fun k => ?_) (Ev.bind (f := fun k t => if t = true then revise_Drops.l0 k h l out (i + 1) else if out.length < 8796093022208 then revise_Drops.l0 k h l (out ++ [key h q]) (i + 1) else none) hb (Ev.congr (fun k => ?_) hr1)), hO1, hl1⟩
        · simp only [revise_Drops.j2]
          rw [if_neg (by decide), primary_ok hh (by omega), Option.bind_some, hw]
        · rw [if_neg (by decide), if_pos (by omega)]
  by_cases h1v : (v.length : Int) = 1
  · have hv1 : (rdOf ByteArray.empty v 0).size ≤ 300 := hvs _ (rdB_mem v 0 (by omega) (by omega))
    obtain ⟨t, ht, htq⟩ := target_ok hv1
    have hG : ∃ r, Ev (fun k => if t.2.2.2 = 0 then (if t.1 = 2 then ((token_Same.f t.2.1 h).bind fun t162 => (revise_Drops.j2 k h l out i (!t162) t.1 t.2.1 t.2.2.1)) else (revise_Drops.j2 k h l out i false t.1 t.2.1 t.2.2.1)) else (revise_Drops.j2 k h l out i true t.1 t.2.1 t.2.2.1)) r ∧ Out h p r ∧ r.length ≤ 3 := by
      by_cases c1 : t.2.2.2 = 0
      · by_cases c2 : t.1 = 2
        · have hs := same_ok (a := t.2.1) (b := h) (by have := htq.1; omega) (by omega)
          generalize ((lowS t.2.1).toList == (lowS h).toList) = b at hs
          obtain ⟨r, hr, hq⟩ := j2 (!b) t.1 t.2.1 t.2.2.1 htq.2
          refine ⟨r, Ev.congr (fun k => ?_) hr, hq⟩
          rw [if_pos c1, if_pos c2, hs, Option.bind_some]
        · obtain ⟨r, hr, hq⟩ := j2 false t.1 t.2.1 t.2.2.1 htq.2
          refine ⟨r, Ev.congr (fun k => ?_) hr, hq⟩
          rw [if_pos c1, if_neg c2]
      · obtain ⟨r, hr, hq⟩ := j2 true t.1 t.2.1 t.2.2.1 htq.2
        refine ⟨r, Ev.congr (fun k => ?_) hr, hq⟩
        rw [if_neg c1]
    obtain ⟨r, hr, hq⟩ := hG
    refine ⟨r, Ev.step (fun k => ?_) (Ev.bind (f := fun k (v : List ByteArray) => if (v.length : Int) = 1 then (if 0 < (v.length : Int) then ((start_Target.f k GET (rdOf ByteArray.empty v 0)).bind fun bt157 => (if bt157.2.2.2 = 0 then (if bt157.1 = 2 then ((token_Same.f bt157.2.1 h).bind fun t162 => (revise_Drops.j2 k h l out i (!t162) bt157.1 bt157.2.1 bt157.2.2.1)) else (revise_Drops.j2 k h l out i false bt157.1 bt157.2.1 bt157.2.2.1)) else (revise_Drops.j2 k h l out i true bt157.1 bt157.2.1 bt157.2.2.1))) else none) else revise_Drops.l0 k h l out (i + 1)) hv (Ev.congr (fun k => ?_) (Ev.bind (f := fun k (bt157 : TR) => if bt157.2.2.2 = 0 then (if bt157.1 = 2 then ((token_Same.f bt157.2.1 h).bind fun t162 => (revise_Drops.j2 k h l out i (!t162) bt157.1 bt157.2.1 bt157.2.2.1)) else (revise_Drops.j2 k h l out i false bt157.1 bt157.2.1 bt157.2.2.1)) else (revise_Drops.j2 k h l out i true bt157.1 bt157.2.1 bt157.2.2.1)) ht hr))), hq⟩
    · simp only [revise_Drops.l0]
      rw [if_pos h1, if_pos h0, hw]
      rfl
    · rw [if_pos h1v, if_pos (by omega)]
  · refine ⟨r0, Ev.step (fun k => ?_) (Ev.bind (f := fun k (v : List ByteArray) => if (v.length : Int) = 1 then (if 0 < (v.length : Int) then ((start_Target.f k GET (rdOf ByteArray.empty v 0)).bind fun bt157 => (if bt157.2.2.2 = 0 then (if bt157.1 = 2 then ((token_Same.f bt157.2.1 h).bind fun t162 => (revise_Drops.j2 k h l out i (!t162) bt157.1 bt157.2.1 bt157.2.2.1)) else (revise_Drops.j2 k h l out i false bt157.1 bt157.2.1 bt157.2.2.1)) else (revise_Drops.j2 k h l out i true bt157.1 bt157.2.1 bt157.2.2.1))) else none) else revise_Drops.l0 k h l out (i + 1)) hv (Ev.congr (fun k => ?_) hr0)), hO0, hl0⟩
    · simp only [revise_Drops.l0]
      rw [if_pos h1, if_pos h0, hw]
      rfl
    · rw [if_neg h1v]
theorem drops_loop {h p : ByteArray} (hh : h.size ≤ 300) {l : List S39} (hF : Few l) : ∃ r, Ev (fun k => revise_Drops.l0 k h l [key h p] 0) r ∧ Out h p r ∧ r.length ≤ 3 :=
  step_ok hh hF 0 (by decide) (by decide) (fun out hO hl => step_ok hh hF 1 (by decide) (by decide) (fun out hO hl => ⟨out, Ev.step (f := fun _ => some out) (fun k => by simp only [revise_Drops.l0]; rw [if_neg (by decide)]) (Ev.now _), hO, hl⟩) out hO hl) [key h p]
    ⟨⟨[], rfl⟩, fun y hy => ⟨p, List.mem_singleton.1 hy⟩, by simp⟩ (by simp)
theorem drops_ok {m h p : ByteArray} (st : Int) {l : List S39} (hh : h.size ≤ 300) (hp : p.size ≤ 300) (hF : Few l) :
    ∃ r, Ev (fun k => revise_Drops.f k m st h p l) r ∧ ((safeB m = true ∨ st < 200 ∨ st > 399) → r = []) ∧ (¬ (safeB m = true ∨ st < 200 ∨ st > 399) → Out h p r ∧ r.length ≤ 3) := by
  have j0t : Ev (fun k => revise_Drops.j0 k h p l true) [] := Ev.step (f := fun _ => some []) (fun k => by simp only [revise_Drops.j0]; rw [if_pos trivial]) (Ev.now _)
  have hs := safe_ok m
  by_cases hsafe : safeB m = true
  · refine ⟨[], Ev.bind (f := fun k t => if t = true then (revise_Drops.j0 k h p l true) else (if st < 200 then (revise_Drops.j0 k h p l true) else (revise_Drops.j0 k h p l (decide (st > 399))))) hs (Ev.congr (fun k => ?_) j0t), fun _ => rfl, fun hn => absurd (.inl hsafe) hn⟩
    rw [if_pos hsafe]
  · by_cases h2 : st < 200
    · refine ⟨[], Ev.bind (f := fun k t => if t = true then (revise_Drops.j0 k h p l true) else (if st < 200 then (revise_Drops.j0 k h p l true) else (revise_Drops.j0 k h p l (decide (st > 399))))) hs (Ev.congr (fun k => ?_) j0t), fun _ => rfl, fun hn => absurd (.inr (.inl h2)) hn⟩
      rw [if_neg hsafe, if_pos h2]
    · by_cases h3 : st > 399
      · refine ⟨[], Ev.bind (f := fun k t => if t = true then (revise_Drops.j0 k h p l true) else (if st < 200 then (revise_Drops.j0 k h p l true) else (revise_Drops.j0 k h p l (decide (st > 399))))) hs (Ev.congr (fun k => ?_) j0t), fun _ => rfl, fun hn => absurd (.inr (.inr h3)) hn⟩
        rw [if_neg hsafe, if_neg h2, decide_eq_true h3]
      · obtain ⟨r, hr, hq⟩ := drops_loop (p := p) hh hF
        refine ⟨r, Ev.bind (f := fun k t => if t = true then (revise_Drops.j0 k h p l true) else (if st < 200 then (revise_Drops.j0 k h p l true) else (revise_Drops.j0 k h p l (decide (st > 399))))) hs (Ev.congr (fun k => ?_) (Ev.step (g := fun k => revise_Drops.j0 k h p l false) (fun k => ?_) hr)), fun hn => by
          rcases hn with h | h | h
          · exact absurd h hsafe
          · exact absurd h h2
          · exact absurd h h3, fun _ => hq⟩
        · rw [if_neg hsafe, if_neg h2, decide_eq_false h3]
        · simp only [revise_Drops.j0]
          rw [if_neg (by decide), primary_ok hh (by omega), Option.bind_some]
theorem nd_ne {h p : ByteArray} {out : List ByteArray} (hO : Out h p out) {i j : Nat} {x y : ByteArray} (hij : i ≠ j) (hx : out[i]? = some x) (hy : out[j]? = some y) : x.toList ≠ y.toList := fun e => by
  have h1 := hO.apart
  have hi : (out.map ByteArray.toList)[i]? = some x.toList := by rw [List.getElem?_map, hx]; rfl
  have hj : (out.map ByteArray.toList)[j]? = some x.toList := by rw [List.getElem?_map, hy, e]; rfl
  exact hij ((List.getElem?_inj (by have := (List.getElem?_eq_some_iff.1 hi).1; exact this) h1).1 (hi.trans hj.symm))
theorem law1 {h p : ByteArray} {out : List ByteArray} (hO : Out h p out) (hl : out.length ≤ 3) (a : ByteArray) (i : Int) (h0 : 0 ≤ i) (h1 : i < (out.length : Int)) {r : Bool} (hr : Ev (fun k => halfwayhouselaw17_ReviseDrops.l0 k out a (i + 1)) r) :
    ∀ (d : Nat) (j : Int), 0 ≤ j → j ≤ i → i - j = d → Ev (fun k => halfwayhouselaw17_ReviseDrops.l1 k out a i j) r
  | 0, j, hj0, hj1, hd => by
    refine Ev.step (fun k => ?_) hr
    simp only [halfwayhouselaw17_ReviseDrops.l1]
    rw [if_neg (by omega), wrap_small h0 (by omega)]
  | d + 1, j, hj0, hj1, hd => by
    have ih := law1 hO hl a i h0 h1 hr d (j + 1) (by omega) (by omega) (by omega)
    refine Ev.step (fun k => ?_) ih
    simp only [halfwayhouselaw17_ReviseDrops.l1]
    rw [if_pos (by omega), if_pos hj0, if_pos (by omega), if_pos h0, if_pos h1, if_neg (nd_ne hO (by omega) (rdB_at out j hj0 (by omega)) (rdB_at out i h0 h1)), wrap_small hj0 (by omega)]
theorem key_pre (h q : ByteArray) : (key h q).extract 0 (key h (⟨#[]⟩ : ByteArray)).size = key h (⟨#[]⟩ : ByteArray) := by
  have e : key h (⟨#[]⟩ : ByteArray) = lowS h ++ (⟨#[32]⟩ : ByteArray) := ByteArray.append_empty
  rw [e]
  exact ByteArray.extract_append_eq_left rfl
theorem law0 {h p : ByteArray} {out : List ByteArray} (hO : Out h p out) (hl : out.length ≤ 3) : ∀ (d : Nat) (i : Int), 0 ≤ i → i ≤ (out.length : Int) → (out.length : Int) - i = d →
    Ev (fun k => halfwayhouselaw17_ReviseDrops.l0 k out (key h (⟨#[]⟩ : ByteArray)) i) true
  | 0, i, h0, h1, hd => by
    refine Ev.step (f := fun _ => some true) (fun k => ?_) (Ev.now _)
    simp only [halfwayhouselaw17_ReviseDrops.l0]
    rw [if_neg (by omega)]
  | d + 1, i, h0, h1, hd => by
    have hlt : i < (out.length : Int) := by omega
    have ih := law0 hO hl d (i + 1) (by omega) (by omega) (by omega)
    have hl1 := law1 hO hl _ i h0 hlt ih i.toNat 0 (by omega) (by omega) (by omega)
    obtain ⟨q, hq⟩ := hO.keys _ (rdB_mem out i h0 hlt)
    have hsz : (key h (⟨#[]⟩ : ByteArray)).size ≤ (key h q).size := by
      rw [key_size, key_size]
      have : (⟨#[]⟩ : ByteArray).size = 0 := rfl
      omega
    have j5 : Ev (fun k => halfwayhouselaw17_ReviseDrops.j5 k out (key h (⟨#[]⟩ : ByteArray)) i false) true := Ev.step (fun k => by simp only [halfwayhouselaw17_ReviseDrops.j5]; rw [if_neg (by decide)]) hl1
    refine Ev.step (fun k => ?_) j5
    simp only [halfwayhouselaw17_ReviseDrops.l0]
    rw [if_pos hlt, if_pos h0, hq, if_neg (by omega), if_pos (by omega), if_pos (by omega), Int.toNat_natCast, key_pre, bne_self_eq_false]
theorem ReviseDrops : ∀ (a0 : ByteArray) (a1 : Int) (a2 : ByteArray) (a3 : ByteArray) (l4 : List (S39)), a0.size ≤ 140737488351232 → ((Lit.int .i64 a1).wf = true) → a2.size ≤ 140737488351232 → a3.size ≤ 140737488351232 → ((∀ y_ ∈ l4, (y_.f0.size ≤ 9223372036854775807) ∧ (y_.f1.size ≤ 9223372036854775807)) ∧ l4.length ≤ 9223372036854775807) → ∃ k, halfwayhouselaw17_ReviseDrops.f k a0 a1 a2 a3 l4 = some true := by
  intro m st h p l _ _ _ _ hl
  obtain ⟨b, hb, hF⟩ := few_ok l hl.2 l.length 0 (by omega) (by omega) (by omega) (fun j hj => by omega)
  refine Ev.rounds ?_
  have j0t : Ev (fun k => halfwayhouselaw17_ReviseDrops.j0 k m st h p l true) true := Ev.step (f := fun _ => some true) (fun k => by simp only [halfwayhouselaw17_ReviseDrops.j0]; rw [if_pos trivial]) (Ev.now _)
  have hlv : Ev (fun k => halfwayhouselaw17_lives.f k) true := Ev.of (fun k => halfwayhouselaw17_lives.mono k) lives_
  refine Ev.bind (f := fun k t => if t = true then ((halfwayhousekit_FewFields.f k l).bind fun t187 => (if t187 = true then (if (m.size : Int) > 60 then (halfwayhouselaw17_ReviseDrops.j0 k m st h p l true) else (if (h.size : Int) > 300 then (halfwayhouselaw17_ReviseDrops.j0 k m st h p l true) else (halfwayhouselaw17_ReviseDrops.j0 k m st h p l (decide ((p.size : Int) > 300))))) else (halfwayhouselaw17_ReviseDrops.j0 k m st h p l true))) else (some false)) hlv ?_
  refine Ev.congr (f := fun k => (halfwayhousekit_FewFields.f k l).bind fun t187 => (if t187 = true then (if (m.size : Int) > 60 then (halfwayhouselaw17_ReviseDrops.j0 k m st h p l true) else (if (h.size : Int) > 300 then (halfwayhouselaw17_ReviseDrops.j0 k m st h p l true) else (halfwayhouselaw17_ReviseDrops.j0 k m st h p l (decide ((p.size : Int) > 300))))) else (halfwayhouselaw17_ReviseDrops.j0 k m st h p l true))) (fun k => if_pos rfl) ?_
  refine Ev.bind (f := fun k t187 => (if t187 = true then (if (m.size : Int) > 60 then (halfwayhouselaw17_ReviseDrops.j0 k m st h p l true) else (if (h.size : Int) > 300 then (halfwayhouselaw17_ReviseDrops.j0 k m st h p l true) else (halfwayhouselaw17_ReviseDrops.j0 k m st h p l (decide ((p.size : Int) > 300))))) else (halfwayhouselaw17_ReviseDrops.j0 k m st h p l true))) hb ?_
  by_cases hbt : b = true
  · have hF := hF hbt
    by_cases c1 : (m.size : Int) > 60
    · exact Ev.congr (fun k => by rw [if_pos hbt, if_pos c1]) j0t
    · by_cases c2 : (h.size : Int) > 300
      · exact Ev.congr (fun k => by rw [if_pos hbt, if_neg c1, if_pos c2]) j0t
      · by_cases c3 : (p.size : Int) > 300
        · exact Ev.congr (fun k => by rw [if_pos hbt, if_neg c1, if_neg c2, decide_eq_true c3]) j0t
        · refine Ev.congr (f := fun k => halfwayhouselaw17_ReviseDrops.j0 k m st h p l false) (fun k => by rw [if_pos hbt, if_neg c1, if_neg c2, decide_eq_false c3]) ?_
          obtain ⟨r, hr, hq1, hq2⟩ := drops_ok (m := m) st (h := h) (p := p) (by omega) (by omega) hF
          have j1 : ∀ x : Bool, x = safeB m → Ev (fun k => halfwayhouselaw17_ReviseDrops.j1 k st h p r x) true := by
            intro x hx
            have j2t : (safeB m = true ∨ st < 200 ∨ st > 399) → Ev (fun k => halfwayhouselaw17_ReviseDrops.j2 k h p r true) true := fun hh => by
              rw [hq1 hh]
              exact Ev.step (f := fun _ => some true) (fun k => by simp only [halfwayhouselaw17_ReviseDrops.j2]; rw [if_pos trivial]; rfl) (Ev.now _)
            by_cases d1 : x = true
            · exact Ev.step (fun k => by simp only [halfwayhouselaw17_ReviseDrops.j1]; rw [if_pos d1]) (j2t (.inl (hx ▸ d1)))
            · by_cases d2 : st < 200
              · exact Ev.step (fun k => by simp only [halfwayhouselaw17_ReviseDrops.j1]; rw [if_neg d1, if_pos d2]) (j2t (.inr (.inl d2)))
              · by_cases d3 : st > 399
                · exact Ev.step (fun k => by simp only [halfwayhouselaw17_ReviseDrops.j1]; rw [if_neg d1, if_neg d2, decide_eq_true d3]) (j2t (.inr (.inr d3)))
                · refine Ev.step (f := fun k => halfwayhouselaw17_ReviseDrops.j2 k h p r false) (fun k => by simp only [halfwayhouselaw17_ReviseDrops.j1]; rw [if_neg d1, if_neg d2, decide_eq_false d3]) ?_
                  obtain ⟨hO, hl3⟩ := hq2 (fun hn => by
                    rcases hn with e | e | e
                    · exact d1 (hx.trans e)
                    · exact d2 e
                    · exact d3 e)
                  obtain ⟨tl, htl⟩ := hO.head
                  have hlen : 1 ≤ r.length := by rw [htl]; simp
                  have h00 : rdOf ByteArray.empty r 0 = key h p := by rw [htl]; rfl
                  refine Ev.step (f := fun k => halfwayhouselaw17_ReviseDrops.j3 k h r false) (fun k => ?_) (Ev.step (f := fun k => halfwayhouselaw17_ReviseDrops.l0 k r (key h (⟨#[]⟩ : ByteArray)) 0) (fun k => ?_) (law0 hO hl3 r.length 0 (by omega) (by omega) (by omega)))
                  · simp only [halfwayhouselaw17_ReviseDrops.j2]
                    rw [if_neg (by decide), if_neg (by omega), if_neg (by omega), if_pos (by omega), primary2_ok (by omega) (by omega), Option.bind_some, h00, bne_self_eq_false]
                  · simp only [halfwayhouselaw17_ReviseDrops.j3]
                    rw [if_neg (by decide), primary2_ok (by omega) (by decide), Option.bind_some]
          refine Ev.step (f := fun k => (revise_Drops.f k m st h p l).bind fun t188 => (if m.toList = ([71, 69, 84] : List UInt8) then (halfwayhouselaw17_ReviseDrops.j1 k st h p t188 true) else (if m.toList = ([72, 69, 65, 68] : List UInt8) then (halfwayhouselaw17_ReviseDrops.j1 k st h p t188 true) else (if m.toList = ([79, 80, 84, 73, 79, 78, 83] : List UInt8) then (halfwayhouselaw17_ReviseDrops.j1 k st h p t188 true) else (halfwayhouselaw17_ReviseDrops.j1 k st h p t188 (m.toList == ([84, 82, 65, 67, 69] : List UInt8))))))) (fun k => by simp only [halfwayhouselaw17_ReviseDrops.j0]; rw [if_neg (by decide)]) ?_
          refine Ev.bind (f := fun k t188 => (if m.toList = ([71, 69, 84] : List UInt8) then (halfwayhouselaw17_ReviseDrops.j1 k st h p t188 true) else (if m.toList = ([72, 69, 65, 68] : List UInt8) then (halfwayhouselaw17_ReviseDrops.j1 k st h p t188 true) else (if m.toList = ([79, 80, 84, 73, 79, 78, 83] : List UInt8) then (halfwayhouselaw17_ReviseDrops.j1 k st h p t188 true) else (halfwayhouselaw17_ReviseDrops.j1 k st h p t188 (m.toList == ([84, 82, 65, 67, 69] : List UInt8))))))) hr ?_
          by_cases e1 : m.toList = ([71, 69, 84] : List UInt8)
          · exact Ev.congr (fun k => by rw [if_pos e1]) (j1 true (by unfold safeB; rw [beq_iff_eq.2 e1, Bool.true_or]))
          · by_cases e2 : m.toList = ([72, 69, 65, 68] : List UInt8)
            · exact Ev.congr (fun k => by rw [if_neg e1, if_pos e2]) (j1 true (by unfold safeB; rw [beq_iff_eq.2 e2, Bool.true_or, Bool.or_true]))
            · by_cases e3 : m.toList = ([79, 80, 84, 73, 79, 78, 83] : List UInt8)
              · exact Ev.congr (fun k => by rw [if_neg e1, if_neg e2, if_pos e3]) (j1 true (by unfold safeB; rw [beq_iff_eq.2 e3, Bool.true_or, Bool.or_true, Bool.or_true]))
              · exact Ev.congr (fun k => by rw [if_neg e1, if_neg e2, if_neg e3]) (j1 _ (by unfold safeB; rw [beq_eq_false_iff_ne.2 e1, beq_eq_false_iff_ne.2 e2, beq_eq_false_iff_ne.2 e3, Bool.false_or, Bool.false_or, Bool.false_or]))
  · exact Ev.congr (fun k => by rw [if_neg hbt]) j0t
end Go.Proofs.Ytjlnpgehfgonpaa.Pure
