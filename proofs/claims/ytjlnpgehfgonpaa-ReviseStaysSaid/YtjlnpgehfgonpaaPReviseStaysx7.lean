-- printed by a patched print.sh 35421559b90ae4d0a3588c463048766b98c2df88dd9212a6774a882060cdf62d: written by this session's patched copy (wip/pr/patch.py)
import Derived.Test.YtjlnpgehfgonpaaPReviseStaysx0
import Derived.Test.YtjlnpgehfgonpaaPReviseStaysx5
import Derived.Test.YtjlnpgehfgonpaaPReviseStaysx6
namespace Go.Proofs.Ytjlnpgehfgonpaa.PReviseStays
open Go.Proofs
open Go.Proofs.Ytjlnpgehfgonpaa.X
open Go.RowKit Go.Proofs.YtjlnpgehfgonpaaW.PrintWords Go.Proofs.YtjlnpgehfgonpaaW.PrintLast Go.Proofs.YtjlnpgehfgonpaaW.PrintMore
attribute [local go_sem] max2_int min2_int max_two min_two max_three min_three max_four min_four   -- for this text's walks alone
set_option linter.unusedVariables false
set_option linter.unusedSimpArgs false

/-! ### halfwayhouseref16_Same: function 11 -/
-- OWN FILE
theorem bs_inj {a b : ByteArray} (h : a.toList = b.toList) : a = b := by
  rw [ByteArray.toList_eq, ByteArray.toList_eq] at h
  exact ByteArray.ext (Array.toList_inj.1 h)
theorem bs_iff {a b : ByteArray} : a.toList = b.toList ↔ a = b := ⟨bs_inj, fun h => h ▸ rfl⟩
theorem bs_beq {a b : ByteArray} : (a.toList == b.toList) = decide (a = b) := by
  rw [Bool.eq_iff_iff]
  simp [bs_iff]
theorem listEq {α : Type} {l m : List α} (hl : l.length = m.length) (h : ∀ j, j < l.length → l[j]? = m[j]?) : l = m := by
  refine List.ext_getElem? fun j => ?_
  by_cases hj : j < l.length
  · exact h j hj
  · rw [List.getElem?_eq_none (by omega), List.getElem?_eq_none (by omega)]
def pairF (x : S39) : ByteArray × ByteArray := (x.f0, x.f1)
theorem pairF_inj (l m : List (S39)) : l.map pairF = m.map pairF ↔ l = m := by
  refine List.map_inj_right fun x y h => ?_
  cases x
  cases y
  simpa [pairF] using h
theorem fld_ext {x y : S39} (h0 : x.f0 = y.f0) (h1 : x.f1 = y.f1) : x = y := by
  cases x
  cases y
  cases h0
  cases h1
  rfl
def sameDrop : Nat → Code → Code
  | 0, c => c
  | n + 1, .seq _ b => sameDrop n b
  | _, c => c
def sameHead : Code → Code
  | .seq a _ => a
  | c => c
noncomputable def sameTail : Code := (Try.f11.body.map (sameDrop 5)).getD .skip
noncomputable def same18 : Code := sameHead sameTail
noncomputable def same19 : Code := sameDrop 1 sameTail
def sameEnd (a0_3 a0_4 : ByteArray) (a0_5 : Int) (a0_6 : ByteArray) (a0_7 : Int) (a0_9 : ByteArray) (a1_3 a1_4 : ByteArray) (a1_5 : Int) (a1_6 : ByteArray) (a1_7 : Int) (a1_9 : ByteArray) : Bool := a0_3.toList == a1_3.toList && (a0_4.toList == a1_4.toList && (a0_5 == a1_5 && (a0_6.toList == a1_6.toList && (a0_7 == a1_7 && a0_9.toList == a1_9.toList))))
set_option maxHeartbeats 40000000 in
set_option maxRecDepth 100000 in
theorem same_tail (a0_0 : ByteArray) (A0_1 : Option Addr) (c0_1 : Nat) (l0_1 : List ByteArray) (a0_2 : ByteArray) (a0_3 : ByteArray) (a0_4 : ByteArray) (a0_5 : Int) (a0_6 : ByteArray) (a0_7 : Int) (A0_8 : Option Addr) (c0_8 : Nat) (l0_8 : List (S39)) (a0_9 : ByteArray) (A0_10 : Option Addr) (c0_10 : Nat) (l0_10 : List (S39)) (a0_11 : Int) (a0_12 : Int) (a0_13 : Int) (a0_14 : Int) (a1_0 : ByteArray) (A1_1 : Option Addr) (c1_1 : Nat) (l1_1 : List ByteArray) (a1_2 : ByteArray) (a1_3 : ByteArray) (a1_4 : ByteArray) (a1_5 : Int) (a1_6 : ByteArray) (a1_7 : Int) (A1_8 : Option Addr) (c1_8 : Nat) (l1_8 : List (S39)) (a1_9 : ByteArray) (A1_10 : Option Addr) (c1_10 : Nat) (l1_10 : List (S39)) (a1_11 : Int) (a1_12 : Int) (a1_13 : Int) (a1_14 : Int) (w wr : World) (gb212 gb213 : Nat) (u0 u1 u4 u5 u6 u7 u8 u9 u10 u11 u12 u13 u14 u15 u16 u17 u18 u19 u20 u21 u22 u23 u24 u25 u26 u27 u28 u29 u30 u31 u32 u33 u34 u35 u36 u37 u38 u39 u40 u41 u42 u43 u44 u45 u46 u47 u48 u49 u50 u51 u52 u53 u54 u55 u56 u57 u58 u59 u60 u61 u62 u63 u64 u65 u66 u67 u68 u69 u70 u71 u72 u73 u74 u75 u76 u77 u78 u79 u80 u81 u82 u83 u84 u85 u86 u87 u88 u89 u90 u91 u92 u93 u94 u95 u96 u97 u98 u99 u100 u101 u102 u103 u104 u105 u106 u107 u108 u109 u110 u111 u112 u113 u114 u115 u116 u117 u118 u119 u120 u121 u122 u123 u124 u125 u126 u127 u128 u129 u130 u131 u132 u133 u134 u135 u136 u137 u138 u139 u140 u141 u142 u143 u144 u145 u146 u147 u148 u149 u150 u151 u152 u153 u154 u155 u156 u157 u158 u159 u160 u161 u162 u163 : Value) (BK212 : Aside0 (wr.heap[gb212]? = some (.cells #[.string a0_0, .slice A0_1 l0_1.length c0_1, .string a0_2, .string a0_3, .string a0_4, .int .i64 a0_5, .string a0_6, .int .i64 a0_7, .slice A0_8 l0_8.length c0_8, .string a0_9, .slice A0_10 l0_10.length c0_10, .int .i64 a0_11, .int .i64 a0_12, .int .i64 a0_13, .int .i64 a0_14] 34 (0, 0)))) (BK213 : Aside0 (wr.heap[gb213]? = some (.cells #[.string a1_0, .slice A1_1 l1_1.length c1_1, .string a1_2, .string a1_3, .string a1_4, .int .i64 a1_5, .string a1_6, .int .i64 a1_7, .slice A1_8 l1_8.length c1_8, .string a1_9, .slice A1_10 l1_10.length c1_10, .int .i64 a1_11, .int .i64 a1_12, .int .i64 a1_13, .int .i64 a1_14] 34 (0, 0)))) (HB : Aside0 (Below w.heap.size w wr)) (GE212 : Aside0 (w.heap.size ≤ gb212)) (GE213 : Aside0 (w.heap.size ≤ gb213)) (NB212_213 : Aside0 (gb212 ≠ gb213)) (NB213_212 : Aside0 (gb213 ≠ gb212)) (K : Act → World → Prop) (hK : ∀ a w', Code.wp Try.prog same19 (bodyPost Try.prog Try.f11 (fun e w' => e = .returned (.bool (sameEnd a0_3 a0_4 a0_5 a0_6 a0_7 a0_9 a1_3 a1_4 a1_5 a1_6 a1_7 a1_9)) ∧ Below w.heap.size w w')) a w' → K a w') :
    Code.wp Try.prog same18 (Exit.then K (bodyPost Try.prog Try.f11 (fun e w' => e = .returned (.bool (sameEnd a0_3 a0_4 a0_5 a0_6 a0_7 a0_9 a1_3 a1_4 a1_5 a1_6 a1_7 a1_9)) ∧ Below w.heap.size w w'))) ⟨#[u0, u1, .pointer (some ⟨gb212, 0, none⟩), .pointer (some ⟨gb213, 0, none⟩), u4, u5, u6, u7, u8, u9, u10, u11, u12, u13, u14, u15, u16, u17, u18, u19, u20, u21, u22, u23, u24, u25, u26, u27, u28, u29, u30, u31, u32, u33, u34, u35, u36, u37, u38, u39, u40, u41, u42, u43, u44, u45, u46, u47, u48, u49, u50, u51, u52, u53, u54, u55, u56, u57, u58, u59, u60, u61, u62, u63, u64, u65, u66, u67, u68, u69, u70, u71, u72, u73, u74, u75, u76, u77, u78, u79, u80, u81, u82, u83, u84, u85, u86, u87, u88, u89, u90, u91, u92, u93, u94, u95, u96, u97, u98, u99, u100, u101, u102, u103, u104, u105, u106, u107, u108, u109, u110, u111, u112, u113, u114, u115, u116, u117, u118, u119, u120, u121, u122, u123, u124, u125, u126, u127, u128, u129, u130, u131, u132, u133, u134, u135, u136, u137, u138, u139, u140, u141, u142, u143, u144, u145, u146, u147, u148, u149, u150, u151, u152, u153, u154, u155, u156, u157, u158, u159, u160, u161, u162, u163], []⟩ wr := by
  conv => arg 2; whnf
  have hcz0_3 : wr.cell? ⟨gb212, 3, none⟩ = some (.string a0_3) := (blk_cell BK212.out 3).trans rfl
  have hcz0_4 : wr.cell? ⟨gb212, 4, none⟩ = some (.string a0_4) := (blk_cell BK212.out 4).trans rfl
  have hcz0_5 : wr.cell? ⟨gb212, 5, none⟩ = some (.int .i64 a0_5) := (blk_cell BK212.out 5).trans rfl
  have hcz0_6 : wr.cell? ⟨gb212, 6, none⟩ = some (.string a0_6) := (blk_cell BK212.out 6).trans rfl
  have hcz0_7 : wr.cell? ⟨gb212, 7, none⟩ = some (.int .i64 a0_7) := (blk_cell BK212.out 7).trans rfl
  have hcz0_8 : wr.cell? ⟨gb212, 8, none⟩ = some (.slice A0_8 l0_8.length c0_8) := (blk_cell BK212.out 8).trans rfl
  have hcz0_9 : wr.cell? ⟨gb212, 9, none⟩ = some (.string a0_9) := (blk_cell BK212.out 9).trans rfl
  have hcz0_10 : wr.cell? ⟨gb212, 10, none⟩ = some (.slice A0_10 l0_10.length c0_10) := (blk_cell BK212.out 10).trans rfl
  have hcz1_3 : wr.cell? ⟨gb213, 3, none⟩ = some (.string a1_3) := (blk_cell BK213.out 3).trans rfl
  have hcz1_4 : wr.cell? ⟨gb213, 4, none⟩ = some (.string a1_4) := (blk_cell BK213.out 4).trans rfl
  have hcz1_5 : wr.cell? ⟨gb213, 5, none⟩ = some (.int .i64 a1_5) := (blk_cell BK213.out 5).trans rfl
  have hcz1_6 : wr.cell? ⟨gb213, 6, none⟩ = some (.string a1_6) := (blk_cell BK213.out 6).trans rfl
  have hcz1_7 : wr.cell? ⟨gb213, 7, none⟩ = some (.int .i64 a1_7) := (blk_cell BK213.out 7).trans rfl
  have hcz1_8 : wr.cell? ⟨gb213, 8, none⟩ = some (.slice A1_8 l1_8.length c1_8) := (blk_cell BK213.out 8).trans rfl
  have hcz1_9 : wr.cell? ⟨gb213, 9, none⟩ = some (.string a1_9) := (blk_cell BK213.out 9).trans rfl
  have hcz1_10 : wr.cell? ⟨gb213, 10, none⟩ = some (.slice A1_10 l1_10.length c1_10) := (blk_cell BK213.out 10).trans rfl
  have hn0 : gb212 ≠ wr.heap.size := Nat.ne_of_lt (blk_lt BK212.out)
  have hn1 : gb213 ≠ wr.heap.size := Nat.ne_of_lt (blk_lt BK213.out)
  have hm0 : gb212 ≠ wr.heap.size + 1 := by have := blk_lt BK212.out; omega
  have hm1 : gb213 ≠ wr.heap.size + 1 := by have := blk_lt BK213.out; omega
  have hl0 : gb212 < wr.heap.size := blk_lt BK212.out
  have hl1 : gb213 < wr.heap.size := blk_lt BK213.out
  have HG0 : w.heap.size ≤ wr.heap.size := HB.out.size
  have HG1 : w.heap.size ≤ wr.heap.size + 1 := by omega
  go_region
  all_goals (refine hK _ _ ?_; clear hK; (conv => arg 2; whnf); go_wp2)
  all_goals
    go_ret
    refine ⟨?_, by repeat (first | (with_reducible first | exact HB.out | apply below_alloc | apply pw_below_drewN | apply below_drew1 | refine below_set ?_ HG0 | refine below_set ?_ HG1) | exact HB.out)⟩
    simp [sameEnd, *]

def sameS (a0_0 : ByteArray) (l0_1 : List ByteArray) (a0_2 : ByteArray) (a0_3 : ByteArray) (a0_4 : ByteArray) (a0_5 : Int) (a0_6 : ByteArray) (a0_7 : Int) (l0_8 : List (S39)) (a0_9 : ByteArray) (l0_10 : List (S39)) (a0_11 : Int) (a0_12 : Int) (a0_13 : Int) (a0_14 : Int) (a1_0 : ByteArray) (l1_1 : List ByteArray) (a1_2 : ByteArray) (a1_3 : ByteArray) (a1_4 : ByteArray) (a1_5 : Int) (a1_6 : ByteArray) (a1_7 : Int) (l1_8 : List (S39)) (a1_9 : ByteArray) (l1_10 : List (S39)) (a1_11 : Int) (a1_12 : Int) (a1_13 : Int) (a1_14 : Int) : Bool := decide (a0_0 = a1_0) && (decide (a0_2 = a1_2) && ((a0_11 == a1_11 && (a0_12 == a1_12 && (a0_13 == a1_13 && a0_14 == a1_14))) && (decide (l0_1 = l1_1) && (decide (l0_8.map pairF = l1_8.map pairF) && (decide (l0_10.map pairF = l1_10.map pairF) && (decide (a0_3 = a1_3) && (decide (a0_4 = a1_4) && (a0_5 == a1_5 && (decide (a0_6 = a1_6) && (a0_7 == a1_7 && decide (a0_9 = a1_9)))))))))))
theorem sameS_true {a0_0 l0_1 a0_2 a0_3 a0_4 a0_5 a0_6 a0_7 l0_8 a0_9 l0_10 a0_11 a0_12 a0_13 a0_14 a1_0 l1_1 a1_2 a1_3 a1_4 a1_5 a1_6 a1_7 l1_8 a1_9 l1_10 a1_11 a1_12 a1_13 a1_14 : _} (h : sameS a0_0 l0_1 a0_2 a0_3 a0_4 a0_5 a0_6 a0_7 l0_8 a0_9 l0_10 a0_11 a0_12 a0_13 a0_14 a1_0 l1_1 a1_2 a1_3 a1_4 a1_5 a1_6 a1_7 l1_8 a1_9 l1_10 a1_11 a1_12 a1_13 a1_14 = true) : a0_0 = a1_0 ∧ a0_2 = a1_2 ∧ (a0_11 = a1_11 ∧ a0_12 = a1_12 ∧ a0_13 = a1_13 ∧ a0_14 = a1_14) ∧ l0_1 = l1_1 ∧ l0_8 = l1_8 ∧ l0_10 = l1_10 ∧ a0_3 = a1_3 ∧ a0_4 = a1_4 ∧ a0_5 = a1_5 ∧ a0_6 = a1_6 ∧ a0_7 = a1_7 ∧ a0_9 = a1_9 := by
  simp only [sameS, Bool.and_eq_true, beq_iff_eq, decide_eq_true_eq, pairF_inj] at h
  exact h
def halfwayhouseref16_Same.f (a0_0 : ByteArray) (l0_1 : List ByteArray) (a0_2 : ByteArray) (a0_3 : ByteArray) (a0_4 : ByteArray) (a0_5 : Int) (a0_6 : ByteArray) (a0_7 : Int) (l0_8 : List (S39)) (a0_9 : ByteArray) (l0_10 : List (S39)) (a0_11 : Int) (a0_12 : Int) (a0_13 : Int) (a0_14 : Int) (a1_0 : ByteArray) (l1_1 : List ByteArray) (a1_2 : ByteArray) (a1_3 : ByteArray) (a1_4 : ByteArray) (a1_5 : Int) (a1_6 : ByteArray) (a1_7 : Int) (l1_8 : List (S39)) (a1_9 : ByteArray) (l1_10 : List (S39)) (a1_11 : Int) (a1_12 : Int) (a1_13 : Int) (a1_14 : Int) : Option Bool := some (sameS a0_0 l0_1 a0_2 a0_3 a0_4 a0_5 a0_6 a0_7 l0_8 a0_9 l0_10 a0_11 a0_12 a0_13 a0_14 a1_0 l1_1 a1_2 a1_3 a1_4 a1_5 a1_6 a1_7 l1_8 a1_9 l1_10 a1_11 a1_12 a1_13 a1_14)
set_option maxHeartbeats 40000000 in
set_option maxRecDepth 100000 in
theorem halfwayhouseref16_Same.calls (a0_0 : ByteArray) (A0_1 : Option Addr) (c0_1 : Nat) (l0_1 : List ByteArray) (a0_2 : ByteArray) (a0_3 : ByteArray) (a0_4 : ByteArray) (a0_5 : Int) (a0_6 : ByteArray) (a0_7 : Int) (A0_8 : Option Addr) (c0_8 : Nat) (l0_8 : List (S39)) (a0_9 : ByteArray) (A0_10 : Option Addr) (c0_10 : Nat) (l0_10 : List (S39)) (a0_11 : Int) (a0_12 : Int) (a0_13 : Int) (a0_14 : Int) (a1_0 : ByteArray) (A1_1 : Option Addr) (c1_1 : Nat) (l1_1 : List ByteArray) (a1_2 : ByteArray) (a1_3 : ByteArray) (a1_4 : ByteArray) (a1_5 : Int) (a1_6 : ByteArray) (a1_7 : Int) (A1_8 : Option Addr) (c1_8 : Nat) (l1_8 : List (S39)) (a1_9 : ByteArray) (A1_10 : Option Addr) (c1_10 : Nat) (l1_10 : List (S39)) (a1_11 : Int) (a1_12 : Int) (a1_13 : Int) (a1_14 : Int) (r : Bool) (w : World) (hr0_1 : Kd.C Kd.string w A0_1 l0_1.length l0_1) (hc0_1 : l0_1.length ≤ c0_1) (hr0_8 : Kd.C k39 w A0_8 l0_8.length l0_8) (hc0_8 : l0_8.length ≤ c0_8) (hr0_10 : Kd.C k39 w A0_10 l0_10.length l0_10) (hc0_10 : l0_10.length ≤ c0_10) (hr1_1 : Kd.C Kd.string w A1_1 l1_1.length l1_1) (hc1_1 : l1_1.length ≤ c1_1) (hr1_8 : Kd.C k39 w A1_8 l1_8.length l1_8) (hc1_8 : l1_8.length ≤ c1_8) (hr1_10 : Kd.C k39 w A1_10 l1_10.length l1_10) (hc1_10 : l1_10.length ≤ c1_10) (h : halfwayhouseref16_Same.f a0_0 l0_1 a0_2 a0_3 a0_4 a0_5 a0_6 a0_7 l0_8 a0_9 l0_10 a0_11 a0_12 a0_13 a0_14 a1_0 l1_1 a1_2 a1_3 a1_4 a1_5 a1_6 a1_7 l1_8 a1_9 l1_10 a1_11 a1_12 a1_13 a1_14 = some r) :
    Calls Try.prog 11 #[.agg #[.string a0_0, .slice A0_1 l0_1.length c0_1, .string a0_2, .string a0_3, .string a0_4, .int .i64 a0_5, .string a0_6, .int .i64 a0_7, .slice A0_8 l0_8.length c0_8, .string a0_9, .slice A0_10 l0_10.length c0_10, .int .i64 a0_11, .int .i64 a0_12, .int .i64 a0_13, .int .i64 a0_14], .agg #[.string a1_0, .slice A1_1 l1_1.length c1_1, .string a1_2, .string a1_3, .string a1_4, .int .i64 a1_5, .string a1_6, .int .i64 a1_7, .slice A1_8 l1_8.length c1_8, .string a1_9, .slice A1_10 l1_10.length c1_10, .int .i64 a1_11, .int .i64 a1_12, .int .i64 a1_13, .int .i64 a1_14]] w fun e w' => e = .returned (.bool r) ∧ Below w.heap.size w w' := by
  unfold halfwayhouseref16_Same.f at h
  replace h := Option.some.inj h
  have H := Aside0.mk h
  clear h
  have HR0_1 := Aside0.mk hr0_1
  have HR0_8 := Aside0.mk hr0_8
  have HR0_10 := Aside0.mk hr0_10
  have HR1_1 := Aside0.mk hr1_1
  have HR1_8 := Aside0.mk hr1_8
  have HR1_10 := Aside0.mk hr1_10
  have hbig1 := hr0_1.2.1
  have hbig8 := hr0_8.2.1
  have hbig10 := hr0_10.2.1
  clear hr0_1 hr0_8 hr0_10 hr1_1 hr1_8 hr1_10 hc0_1 hc0_8 hc0_10 hc1_1 hc1_8 hc1_10
  have HB := Aside0.mk (Below.refl w.heap.size w)
  go_enter Try.func11, Try.ntmps11
  go_wp2_with (first | ((with_reducible refine gate_dst (N := 2) rfl ?_); refine box_event ?hg (N := 2) ?hd (cs := #[.string a0_0, .slice A0_1 l0_1.length c0_1, .string a0_2, .string a0_3, .string a0_4, .int .i64 a0_5, .string a0_6, .int .i64 a0_7, .slice A0_8 l0_8.length c0_8, .string a0_9, .slice A0_10 l0_10.length c0_10, .int .i64 a0_11, .int .i64 a0_12, .int .i64 a0_13, .int .i64 a0_14]) (t := 34) ?hr ?_; (case hd => rfl); (case hg => rfl); (case hr => first | (go_simp; done) | (go_simp; rfl)); intro gb212 hg_ w0 hbox hb; have n0_ := Aside0.mk (below_step HB.out hb); have n1_ := Aside0.mk (hbox); have n2_ := Aside0.mk ((by rw [hg_]; exact below_size HB.out : w.heap.size ≤ gb212)); clear HB; have HB := n0_; have BK212 := n1_; have GE212 := n2_; clear n0_ n1_ n2_; clear hb hbox hg_) | ((with_reducible refine gate_dst (N := 3) rfl ?_); refine box_event ?hg (N := 3) ?hd (cs := #[.string a1_0, .slice A1_1 l1_1.length c1_1, .string a1_2, .string a1_3, .string a1_4, .int .i64 a1_5, .string a1_6, .int .i64 a1_7, .slice A1_8 l1_8.length c1_8, .string a1_9, .slice A1_10 l1_10.length c1_10, .int .i64 a1_11, .int .i64 a1_12, .int .i64 a1_13, .int .i64 a1_14]) (t := 34) ?hr ?_; (case hd => rfl); (case hg => rfl); (case hr => first | (go_simp; done) | (go_simp; rfl)); intro gb213 hg_ w1 hbox hb; have n0_ := Aside0.mk (blk_below BK212.out hb); have n1_ := Aside0.mk (below_step HB.out hb); have n2_ := Aside0.mk (hbox); have n3_ := Aside0.mk ((by rw [hg_]; exact below_size HB.out : w.heap.size ≤ gb213)); have n4_ := Aside0.mk ((by rw [hg_]; exact Nat.ne_of_lt (blk_lt BK212.out) : gb212 ≠ gb213)); have n5_ := Aside0.mk ((by rw [hg_]; exact Nat.ne_of_gt (blk_lt BK212.out) : gb213 ≠ gb212)); clear BK212 HB; have BK212 := n0_; have HB := n1_; have BK213 := n2_; have GE213 := n3_; have NB212_213 := n4_; have NB213_212 := n5_; clear n0_ n1_ n2_ n3_ n4_ n5_; clear hb hbox hg_; have hcz0_0 : w1.cell? ⟨gb212, 0, none⟩ = some (.string a0_0) := (blk_cell BK212.out 0).trans rfl; have hcz0_1 : w1.cell? ⟨gb212, 1, none⟩ = some (.slice A0_1 l0_1.length c0_1) := (blk_cell BK212.out 1).trans rfl; have hcz0_2 : w1.cell? ⟨gb212, 2, none⟩ = some (.string a0_2) := (blk_cell BK212.out 2).trans rfl; have hcz0_3 : w1.cell? ⟨gb212, 3, none⟩ = some (.string a0_3) := (blk_cell BK212.out 3).trans rfl; have hcz0_4 : w1.cell? ⟨gb212, 4, none⟩ = some (.string a0_4) := (blk_cell BK212.out 4).trans rfl; have hcz0_5 : w1.cell? ⟨gb212, 5, none⟩ = some (.int .i64 a0_5) := (blk_cell BK212.out 5).trans rfl; have hcz0_6 : w1.cell? ⟨gb212, 6, none⟩ = some (.string a0_6) := (blk_cell BK212.out 6).trans rfl; have hcz0_7 : w1.cell? ⟨gb212, 7, none⟩ = some (.int .i64 a0_7) := (blk_cell BK212.out 7).trans rfl; have hcz0_8 : w1.cell? ⟨gb212, 8, none⟩ = some (.slice A0_8 l0_8.length c0_8) := (blk_cell BK212.out 8).trans rfl; have hcz0_9 : w1.cell? ⟨gb212, 9, none⟩ = some (.string a0_9) := (blk_cell BK212.out 9).trans rfl; have hcz0_10 : w1.cell? ⟨gb212, 10, none⟩ = some (.slice A0_10 l0_10.length c0_10) := (blk_cell BK212.out 10).trans rfl; have hcz0_11 : w1.cell? ⟨gb212, 11, none⟩ = some (.int .i64 a0_11) := (blk_cell BK212.out 11).trans rfl; have hcz0_12 : w1.cell? ⟨gb212, 12, none⟩ = some (.int .i64 a0_12) := (blk_cell BK212.out 12).trans rfl; have hcz0_13 : w1.cell? ⟨gb212, 13, none⟩ = some (.int .i64 a0_13) := (blk_cell BK212.out 13).trans rfl; have hcz0_14 : w1.cell? ⟨gb212, 14, none⟩ = some (.int .i64 a0_14) := (blk_cell BK212.out 14).trans rfl; have hcz1_0 : w1.cell? ⟨gb213, 0, none⟩ = some (.string a1_0) := (blk_cell BK213.out 0).trans rfl; have hcz1_1 : w1.cell? ⟨gb213, 1, none⟩ = some (.slice A1_1 l1_1.length c1_1) := (blk_cell BK213.out 1).trans rfl; have hcz1_2 : w1.cell? ⟨gb213, 2, none⟩ = some (.string a1_2) := (blk_cell BK213.out 2).trans rfl; have hcz1_3 : w1.cell? ⟨gb213, 3, none⟩ = some (.string a1_3) := (blk_cell BK213.out 3).trans rfl; have hcz1_4 : w1.cell? ⟨gb213, 4, none⟩ = some (.string a1_4) := (blk_cell BK213.out 4).trans rfl; have hcz1_5 : w1.cell? ⟨gb213, 5, none⟩ = some (.int .i64 a1_5) := (blk_cell BK213.out 5).trans rfl; have hcz1_6 : w1.cell? ⟨gb213, 6, none⟩ = some (.string a1_6) := (blk_cell BK213.out 6).trans rfl; have hcz1_7 : w1.cell? ⟨gb213, 7, none⟩ = some (.int .i64 a1_7) := (blk_cell BK213.out 7).trans rfl; have hcz1_8 : w1.cell? ⟨gb213, 8, none⟩ = some (.slice A1_8 l1_8.length c1_8) := (blk_cell BK213.out 8).trans rfl; have hcz1_9 : w1.cell? ⟨gb213, 9, none⟩ = some (.string a1_9) := (blk_cell BK213.out 9).trans rfl; have hcz1_10 : w1.cell? ⟨gb213, 10, none⟩ = some (.slice A1_10 l1_10.length c1_10) := (blk_cell BK213.out 10).trans rfl; have hcz1_11 : w1.cell? ⟨gb213, 11, none⟩ = some (.int .i64 a1_11) := (blk_cell BK213.out 11).trans rfl; have hcz1_12 : w1.cell? ⟨gb213, 12, none⟩ = some (.int .i64 a1_12) := (blk_cell BK213.out 12).trans rfl; have hcz1_13 : w1.cell? ⟨gb213, 13, none⟩ = some (.int .i64 a1_13) := (blk_cell BK213.out 13).trans rfl; have hcz1_14 : w1.cell? ⟨gb213, 14, none⟩ = some (.int .i64 a1_14) := (blk_cell BK213.out 14).trans rfl))
  any_goals (go_ret; rename_i hne; refine ⟨?_, HB.out⟩; cases r with
    | false => rfl
    | true =>
      exfalso
      obtain ⟨e0, e2, ⟨e11, e12, e13, e14⟩, e1, e8, e10, _⟩ := sameS_true H.out
      first | exact hne (congrArg ByteArray.toList e0) | exact hne (congrArg ByteArray.toList e2) | exact hne e11 | exact hne e12 | exact hne e13 | exact hne e14 | exact hne (congrArg (fun l => ((List.length l : Nat) : Int)) e1) | exact hne (congrArg (fun l => ((List.length l : Nat) : Int)) e8) | (rw [e10] at hne; simp at hne))
  have E0 := Aside0.mk (show a0_0.toList = a1_0.toList by assumption)
  have E2 := Aside0.mk (show a0_2.toList = a1_2.toList by assumption)
  have L1 := Aside0.mk (show (l0_1.length : Int) = (l1_1.length : Int) by assumption)
  have L8 := Aside0.mk (show (l0_8.length : Int) = (l1_8.length : Int) by assumption)
  have L10' : (l0_10.length : Int) = (l1_10.length : Int) := by
    have h10 : ((l0_10.length : Int) != (l1_10.length : Int)) = false := by assumption
    simpa using h10
  have L10 := Aside0.mk L10'
  clear L10'
  have E11 := Aside0.mk (show a0_11 = a1_11 by assumption)
  have E12 := Aside0.mk (show a0_12 = a1_12 by assumption)
  have E13 := Aside0.mk (show a0_13 = a1_13 by assumption)
  have E14 := Aside0.mk (show a0_14 = a1_14 by assumption)
  clear hcz0_0 hcz0_1 hcz0_2 hcz0_3 hcz0_4 hcz0_5 hcz0_6 hcz0_7 hcz0_8 hcz0_9 hcz0_10 hcz0_11 hcz0_12 hcz0_13 hcz0_14 hcz1_0 hcz1_1 hcz1_2 hcz1_3 hcz1_4 hcz1_5 hcz1_6 hcz1_7 hcz1_8 hcz1_9 hcz1_10 hcz1_11 hcz1_12 hcz1_13 hcz1_14
  go_loopw [5] (fun i wr => ∃ k : Nat, k ≤ l0_1.length ∧ i = .int .i64 k ∧ Aside0 (∀ j, j < k → l0_1[j]? = l1_1[j]?) ∧ Aside0 (wr.heap[gb212]? = some (.cells #[.string a0_0, .slice A0_1 l0_1.length c0_1, .string a0_2, .string a0_3, .string a0_4, .int .i64 a0_5, .string a0_6, .int .i64 a0_7, .slice A0_8 l0_8.length c0_8, .string a0_9, .slice A0_10 l0_10.length c0_10, .int .i64 a0_11, .int .i64 a0_12, .int .i64 a0_13, .int .i64 a0_14] 34 (0, 0))) ∧ Aside0 (wr.heap[gb213]? = some (.cells #[.string a1_0, .slice A1_1 l1_1.length c1_1, .string a1_2, .string a1_3, .string a1_4, .int .i64 a1_5, .string a1_6, .int .i64 a1_7, .slice A1_8 l1_8.length c1_8, .string a1_9, .slice A1_10 l1_10.length c1_10, .int .i64 a1_11, .int .i64 a1_12, .int .i64 a1_13, .int .i64 a1_14] 34 (0, 0))) ∧ Aside0 (Below w.heap.size w wr)) (fun i _ => l0_1.length - (intOf i).toNat)
  case atStart => exact ⟨0, Nat.zero_le _, rfl, ⟨fun j hj => by omega⟩, BK212, BK213, HB⟩
  case round =>
    clear BK212 BK213 HB
    obtain ⟨k, hk, rfl, hE, BK212, BK213, HB⟩ := hrel
    have hcz0 : wr.cell? ⟨gb212, 1, none⟩ = some (.slice A0_1 l0_1.length c0_1) := (blk_cell BK212.out 1).trans rfl
    have hcz1 : wr.cell? ⟨gb213, 1, none⟩ = some (.slice A1_1 l1_1.length c1_1) := (blk_cell BK213.out 1).trans rfl
    by_cases hlt : k < l0_1.length
    · have hlt' : k < l1_1.length := by have := L1.out; omega
      obtain ⟨ad0, x, rfl, hx, h0⟩ := str_at HR0_1.out HB.out k hlt
      obtain ⟨ad1, y, rfl, hy, h1⟩ := str_at HR1_1.out HB.out k hlt'
      have HX := Aside0.mk hx
      have HY := Aside0.mk hy
      have hi0 : (k : Int) < (l0_1.length : Int) := by omega
      have hi1 : (k : Int) < (l1_1.length : Int) := by omega
      clear hx hy
      by_cases hxy : x.toList = y.toList
      · go_wp2
        go_quiet (fail)
        go_wp2
        go_roundw
        case rel => exact ⟨k + 1, by omega, by go_num, ⟨fun j hj => by
          by_cases e : j = k
          · subst e; rw [HX.out, HY.out, bs_inj hxy]
          · exact hE.out j (by omega)⟩, ⟨by exact BK212.out⟩, ⟨by exact BK213.out⟩, ⟨pw_below_drewN HB.out _⟩⟩
        case measure => simp [intOf]; omega
      · have hxb : (x.toList == y.toList) = false := by simpa using hxy
        go_wp2
        go_quiet (fail)
        go_wp2
        go_ret
        refine ⟨?_, pw_below_drewN HB.out _⟩
        cases r with
        | false => rfl
        | true =>
          exfalso
          obtain ⟨_, _, _, e1, _⟩ := sameS_true H.out
          rw [HX.out.symm.trans ((congrArg (fun l : List ByteArray => l[k]?) e1).trans HY.out) |> Option.some.inj] at hxy
          exact hxy rfl
    · have E1 := Aside0.mk (listEq (by have := L1.out; omega) (fun j hj => hE.out j (by omega)) : l0_1 = l1_1)
      clear hE hk
      go_wp2
      go_loopw [6] (fun i wr => ∃ k : Nat, k ≤ l0_8.length ∧ i = .int .i64 k ∧ Aside0 (∀ j, j < k → l0_8[j]? = l1_8[j]?) ∧ Aside0 (wr.heap[gb212]? = some (.cells #[.string a0_0, .slice A0_1 l0_1.length c0_1, .string a0_2, .string a0_3, .string a0_4, .int .i64 a0_5, .string a0_6, .int .i64 a0_7, .slice A0_8 l0_8.length c0_8, .string a0_9, .slice A0_10 l0_10.length c0_10, .int .i64 a0_11, .int .i64 a0_12, .int .i64 a0_13, .int .i64 a0_14] 34 (0, 0))) ∧ Aside0 (wr.heap[gb213]? = some (.cells #[.string a1_0, .slice A1_1 l1_1.length c1_1, .string a1_2, .string a1_3, .string a1_4, .int .i64 a1_5, .string a1_6, .int .i64 a1_7, .slice A1_8 l1_8.length c1_8, .string a1_9, .slice A1_10 l1_10.length c1_10, .int .i64 a1_11, .int .i64 a1_12, .int .i64 a1_13, .int .i64 a1_14] 34 (0, 0))) ∧ Aside0 (Below w.heap.size w wr)) (fun i _ => l0_8.length - (intOf i).toNat)
      case atStart => exact ⟨0, Nat.zero_le _, rfl, ⟨fun j hj => by omega⟩, BK212, BK213, HB⟩
      case round =>
        clear BK212 BK213 HB
        obtain ⟨k, hk, rfl, hE, BK212, BK213, HB⟩ := hrel
        have hcz0 : wr.cell? ⟨gb212, 8, none⟩ = some (.slice A0_8 l0_8.length c0_8) := (blk_cell BK212.out 8).trans rfl
        have hcz1 : wr.cell? ⟨gb213, 8, none⟩ = some (.slice A1_8 l1_8.length c1_8) := (blk_cell BK213.out 8).trans rfl
        by_cases hlt : k < l0_8.length
        · have hlt' : k < l1_8.length := by have := L8.out; omega
          obtain ⟨ad0, x, rfl, hx, h0, h0'⟩ := fld_at HR0_8.out HB.out k hlt
          obtain ⟨ad1, y, rfl, hy, h1, h1'⟩ := fld_at HR1_8.out HB.out k hlt'
          have HX := Aside0.mk hx
          have HY := Aside0.mk hy
          have hi0 : (k : Int) < (l0_8.length : Int) := by omega
          have hi1 : (k : Int) < (l1_8.length : Int) := by omega
          clear hx hy
          have HN : Aside0 (((x.f0.toList == y.f0.toList) && (x.f1.toList == y.f1.toList)) = false → r = false) := ⟨fun hn => by
            cases r with
            | false => rfl
            | true =>
              exfalso
              have e := (sameS_true H.out).2.2.2.2.1
              have exy : x = y := Option.some.inj (HX.out.symm.trans ((congrArg (fun l : List (S39) => l[k]?) e).trans HY.out))
              rw [exy] at hn
              simp at hn⟩
          cases hc0 : (x.f0.toList == y.f0.toList)
          · go_wp2
            go_quiet (fail)
            go_wp2
            go_ret
            exact ⟨by rw [HN.out (by rw [hc0]; rfl)]; rfl, pw_below_drewN HB.out _⟩
          · cases hc1 : (x.f1.toList == y.f1.toList)
            · go_wp2
              go_quiet (fail)
              go_wp2
              go_ret
              exact ⟨by rw [HN.out (by rw [hc0, hc1]; rfl)]; rfl, pw_below_drewN HB.out _⟩
            · have HXY := Aside0.mk (fld_ext (bs_inj (by simpa using hc0)) (bs_inj (by simpa using hc1)) : x = y)
              go_wp2
              go_quiet (fail)
              go_wp2
              go_roundw
              case rel => exact ⟨k + 1, by omega, by go_num, ⟨fun j hj => by
                by_cases e : j = k
                · subst e; rw [HX.out, HY.out, HXY.out]
                · exact hE.out j (by omega)⟩, ⟨by exact BK212.out⟩, ⟨by exact BK213.out⟩, ⟨pw_below_drewN HB.out _⟩⟩
              case measure => simp [intOf]; omega
        · have E8 := Aside0.mk (listEq (by have := L8.out; omega) (fun j hj => hE.out j (by omega)) : l0_8 = l1_8)
          clear hE hk
          go_wp2
          go_loopw [7] (fun i wr => ∃ k : Nat, k ≤ l0_10.length ∧ i = .int .i64 k ∧ Aside0 (∀ j, j < k → l0_10[j]? = l1_10[j]?) ∧ Aside0 (wr.heap[gb212]? = some (.cells #[.string a0_0, .slice A0_1 l0_1.length c0_1, .string a0_2, .string a0_3, .string a0_4, .int .i64 a0_5, .string a0_6, .int .i64 a0_7, .slice A0_8 l0_8.length c0_8, .string a0_9, .slice A0_10 l0_10.length c0_10, .int .i64 a0_11, .int .i64 a0_12, .int .i64 a0_13, .int .i64 a0_14] 34 (0, 0))) ∧ Aside0 (wr.heap[gb213]? = some (.cells #[.string a1_0, .slice A1_1 l1_1.length c1_1, .string a1_2, .string a1_3, .string a1_4, .int .i64 a1_5, .string a1_6, .int .i64 a1_7, .slice A1_8 l1_8.length c1_8, .string a1_9, .slice A1_10 l1_10.length c1_10, .int .i64 a1_11, .int .i64 a1_12, .int .i64 a1_13, .int .i64 a1_14] 34 (0, 0))) ∧ Aside0 (Below w.heap.size w wr)) (fun i _ => l0_10.length - (intOf i).toNat)
          case atStart => exact ⟨0, Nat.zero_le _, rfl, ⟨fun j hj => by omega⟩, BK212, BK213, HB⟩
          case round =>
            clear BK212 BK213 HB
            obtain ⟨k, hk, rfl, hE, BK212, BK213, HB⟩ := hrel
            have hcz0 : wr.cell? ⟨gb212, 10, none⟩ = some (.slice A0_10 l0_10.length c0_10) := (blk_cell BK212.out 10).trans rfl
            have hcz1 : wr.cell? ⟨gb213, 10, none⟩ = some (.slice A1_10 l1_10.length c1_10) := (blk_cell BK213.out 10).trans rfl
            by_cases hlt : k < l0_10.length
            · have hlt' : k < l1_10.length := by have := L10.out; omega
              obtain ⟨ad0, x, rfl, hx, h0, h0'⟩ := fld_at HR0_10.out HB.out k hlt
              obtain ⟨ad1, y, rfl, hy, h1, h1'⟩ := fld_at HR1_10.out HB.out k hlt'
              have HX := Aside0.mk hx
              have HY := Aside0.mk hy
              have hi0 : (k : Int) < (l0_10.length : Int) := by omega
              have hi1 : (k : Int) < (l1_10.length : Int) := by omega
              clear hx hy
              have HN : Aside0 (((x.f0.toList == y.f0.toList) && (x.f1.toList == y.f1.toList)) = false → r = false) := ⟨fun hn => by
                cases r with
                | false => rfl
                | true =>
                  exfalso
                  have e := (sameS_true H.out).2.2.2.2.2.1
                  have exy : x = y := Option.some.inj (HX.out.symm.trans ((congrArg (fun l : List (S39) => l[k]?) e).trans HY.out))
                  rw [exy] at hn
                  simp at hn⟩
              cases hc0 : (x.f0.toList == y.f0.toList)
              · go_wp2
                go_quiet (fail)
                go_wp2
                go_ret
                exact ⟨by rw [HN.out (by rw [hc0]; rfl)]; rfl, pw_below_drewN HB.out _⟩
              · cases hc1 : (x.f1.toList == y.f1.toList)
                · go_wp2
                  go_quiet (fail)
                  go_wp2
                  go_ret
                  exact ⟨by rw [HN.out (by rw [hc0, hc1]; rfl)]; rfl, pw_below_drewN HB.out _⟩
                · have HXY := Aside0.mk (fld_ext (bs_inj (by simpa using hc0)) (bs_inj (by simpa using hc1)) : x = y)
                  go_wp2
                  go_quiet (fail)
                  go_wp2
                  go_roundw
                  case rel => exact ⟨k + 1, by omega, by go_num, ⟨fun j hj => by
                    by_cases e : j = k
                    · subst e; rw [HX.out, HY.out, HXY.out]
                    · exact hE.out j (by omega)⟩, ⟨by exact BK212.out⟩, ⟨by exact BK213.out⟩, ⟨pw_below_drewN HB.out _⟩⟩
                  case measure => simp [intOf]; omega
            · have E10 := Aside0.mk (listEq (by have := L10.out; omega) (fun j hj => hE.out j (by omega)) : l0_10 = l1_10)
              clear hE hk
              go_upto_region 18 with (fail)
              rename_i hK_
              have hr : sameEnd a0_3 a0_4 a0_5 a0_6 a0_7 a0_9 a1_3 a1_4 a1_5 a1_6 a1_7 a1_9 = r := by
                rw [← H.out]
                simp [sameS, sameEnd, bs_beq, bs_inj E0.out, bs_inj E2.out, E11.out, E12.out, E13.out, E14.out, E1.out, E8.out, E10.out]
              clear H
              subst hr
              exact same_tail a0_0 A0_1 c0_1 l0_1 a0_2 a0_3 a0_4 a0_5 a0_6 a0_7 A0_8 c0_8 l0_8 a0_9 A0_10 c0_10 l0_10 a0_11 a0_12 a0_13 a0_14 a1_0 A1_1 c1_1 l1_1 a1_2 a1_3 a1_4 a1_5 a1_6 a1_7 A1_8 c1_8 l1_8 a1_9 A1_10 c1_10 l1_10 a1_11 a1_12 a1_13 a1_14 w _ _ _ _ _ _ _ _ _ _ _ _ _ _ _ _ _ _ _ _ _ _ _ _ _ _ _ _ _ _ _ _ _ _ _ _ _ _ _ _ _ _ _ _ _ _ _ _ _ _ _ _ _ _ _ _ _ _ _ _ _ _ _ _ _ _ _ _ _ _ _ _ _ _ _ _ _ _ _ _ _ _ _ _ _ _ _ _ _ _ _ _ _ _ _ _ _ _ _ _ _ _ _ _ _ _ _ _ _ _ _ _ _ _ _ _ _ _ _ _ _ _ _ _ _ _ _ _ _ _ _ _ _ _ _ _ _ _ _ _ _ _ _ _ _ _ _ _ _ _ _ _ _ _ _ _ _ _ _ _ _ _ _ _ _ BK212 BK213 HB GE212 GE213 NB212_213 NB213_212 _ hK_

end Go.Proofs.Ytjlnpgehfgonpaa.PReviseStays
