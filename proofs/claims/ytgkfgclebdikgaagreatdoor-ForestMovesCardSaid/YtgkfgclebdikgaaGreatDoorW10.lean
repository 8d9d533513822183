/- spinneylaw14.ForestMoves returns true for every input, and its arguments read afterwards as before: the card. No condition. This text: part 10 of 10. -/
import Derived.Test.YtgkfgclebdikgaaGreatDoorW9
import Derived.Test.YtgkfgclebdikgaaGreatDoorCards
import Derived.Test.YtgkfgclebdikgaaGreatDoorTie
set_option linter.unusedVariables false
set_option linter.unusedSimpArgs false
set_option linter.unusedSectionVars false
namespace Go.Sp
open Go.Sort (pdq rd Rd Hint SWO Below pdq_small pdq_heap pdq_done pdq_eq pdq_left pdq_right rd_facts rd_true rd_false rd_c rd_dec rd_not rd_pi_yes rd_pi_no insertionSort heapSort breakPatterns choosePivot reverseRange partialInsertionSort partition partitionEqual)
theorem swoN : SWO ltN where
  irrefl x := by simp [ltN]
  trans x y z h1 h2 := by simp [ltN] at *; omega
  ntrans x y z h1 h2 := by simp [ltN] at *; omega
/-- the functions of the sort, all of them -/
structure SortAll (P : Program) extends SortF P where
  len32 : Nat
  lenI : Nat
  order2 : Nat
  median : Nat
  medAdj : Nat
  choose : Nat
  sift : Nat
  heap : Nat
  ins : Nat
  xor : Nat
  pow2 : Nat
  brk : Nat
  rev : Nat
  parI : Nat
  partEq : Nat
  part : Nat
  pdq' : Nat
  sort : Nat
  TX : Nat
  TI : Nat
  h_lenI : Has P lenI (b_math_bits_Len len32 len64)
  h_order2 : Has P order2 (b_slices_order2Ordered_uint64 less)
  h_median : Has P median (b_slices_medianOrdered_uint64 order2)
  h_medAdj : Has P medAdj (b_slices_medianAdjacentOrdered_uint64 median)
  h_choose : Has P choose (b_slices_choosePivotOrdered_uint64 medAdj median TI)
  h_sift : Has P sift (b_slices_siftDownOrdered_uint64 less)
  h_heap : Has P heap (b_slices_heapSortOrdered_uint64 sift)
  h_ins : Has P ins (b_slices_insertionSortOrdered_uint64 less)
  h_xor : Has P xor b_Pslices_xorshift_Next
  h_pow2 : Has P pow2 (b_slices_nextPowerOfTwo lenI)
  h_brk : Has P brk (b_slices_breakPatternsOrdered_uint64 pow2 xor TX)
  h_rev : Has P rev b_slices_reverseRangeOrdered_uint64
  h_parI : Has P parI (b_slices_partialInsertionSortOrdered_uint64 less)
  h_partEq : Has P partEq (b_slices_partitionEqualOrdered_uint64 less)
  h_part : Has P part (b_slices_partitionOrdered_uint64 less)
  h_pdq : Has P pdq' (b_slices_pdqsortOrdered_uint64 ins heap brk choose rev parI less partEq part pdq')
  h_sort : Has P sort (b_slices_Sort_uint64_uint64 lenI pdq')
section
variable {P : Program} {f : Nat} {w : World}
theorem pdq_and {c : Ctx} {D : List Deferred} {is : List Ins} {k : Kont} (wb wp : Bool) (hn : Nat) {v0 v1 v2 v3 v10 v11 : Value}
    (h : Exec P 134 c D is k [(68, .bool (wb && wp && decide (hn = 1))), (0, v0), (1, v1), (2, v2), (3, v3), (8, .bool wb), (9, .bool wp), (10, v10), (11, v11), (12, intV' hn)] w) :
    Exec P 134 c D (.op none (some 61) (.mov (.tmp 8)) ::
          .op none (some 62) (.mov (.tmp 61)) ::
          .op (some (some 62, true)) (some 63) (.mov (.tmp 9)) ::
          .op none (some 64) (.pick (.tmp 62) (.tmp 63) (.const (.bool false))) ::
          .op none (some 65) (.mov (.tmp 64)) ::
          .op (some (some 65, true)) (some 66) (.mov (.tmp 12)) ::
          .op (some (some 65, true)) (some 67) (.ibin .eql (.tmp 66) (.const (.int .i64 1))) ::
          .op none (some 68) (.pick (.tmp 65) (.tmp 67) (.const (.bool false))) :: is) k [(0, v0), (1, v1), (2, v2), (3, v3), (8, .bool wb), (9, .bool wp), (10, v10), (11, v11), (12, intV' hn)] w := by
  cases wb with
  | false =>
    refine xr 8 rfl ?_
    refine xen _ ?_ h
    exact ⟨rfl, rfl, rfl, rfl, rfl, rfl, rfl, rfl, rfl, rfl, trivial⟩
  | true =>
    cases wp with
    | false =>
      refine xr 9 rfl ?_
      refine xen _ ?_ h
      exact ⟨rfl, rfl, rfl, rfl, rfl, rfl, rfl, rfl, rfl, rfl, trivial⟩
    | true =>
      refine xr 9 rfl ?_
      refine xpu (pv_eqlI (a := hn) (b := 1) (q := decide (hn = 1)) rfl rfl rfl) rfl ?_
      refine xtm rfl rfl rfl ?_
      simp only [Bool.true_and, Bool.and_self] at h
      refine xen _ ?_ h
      exact ⟨rfl, rfl, rfl, rfl, rfl, rfl, rfl, rfl, rfl, rfl, trivial⟩
theorem pdq_guard (A : SortF P) {c : Ctx} {D : List Deferred} {is : List Ins} {k : Kont} {b n cap x p : Nat} {d : Array Nat} {rest : List Value} (hB : Blk w b (row d rest)) (hd : d.size = n) (hx : x < n) (hp : p < n) (hn : n < 2 ^ 40) {v2 v3 v8 v9 v10 : Value}
    (h : ∀ W, Ext w W → Exec P 134 c D is k [(87, .bool (decide (x > 0) && !ltN d[x - 1]! d[p]!)), (0, slV b n cap), (1, intV' x), (2, v2), (3, v3), (8, v8), (9, v9), (10, v10), (11, intV' p)] W) :
    Exec P 134 c D (.draw [
            ([], none, (some 73), .mov (.tmp 1)),
            ([0], none, (some 74), .ibin .gtr (.tmp 73) (.const (.int .i64 0))),
            ([1, 0], none, (some 75), .mov (.tmp 74)),
            ([2, 1, 0], (some (some 75, true)), (some 76), .mov (.tmp 0)),
            ([2, 1, 0], (some (some 75, true)), (some 77), .mov (.tmp 1)),
            ([4, 2, 1, 0], (some (some 75, true)), (some 78), .ibin .sub (.tmp 77) (.const (.int .i64 1))),
            ([3, 5, 2, 1, 0, 4], (some (some 75, true)), (some 79), .iaddr 1 (.tmp 76) (.tmp 78)),
            ([6, 2, 3, 5, 1, 0, 4], (some (some 75, true)), (some 80), .load1 (.tmp 79)),
            ([2, 1, 0], (some (some 75, true)), (some 81), .mov (.tmp 0)),
            ([2, 1, 0], (some (some 75, true)), (some 82), .mov (.tmp 11)),
            ([8, 9, 2, 1, 0], (some (some 75, true)), (some 83), .iaddr 1 (.tmp 81) (.tmp 82)),
            ([10, 2, 8, 9, 1, 0], (some (some 75, true)), (some 84), .load1 (.tmp 83))] [
            .op (some (some 75, true)) (some 85) (.call A.less #[(.tmp 80), (.tmp 84)]),
            .op (some (some 75, true)) (some 86) (.un .not (.tmp 85)),
            .op none (some 87) (.pick (.tmp 75) (.tmp 86) (.const (.bool false)))] :: is) k [(0, slV b n cap), (1, intV' x), (2, v2), (3, v3), (8, v8), (9, v9), (10, v10), (11, intV' p)] w := by
  by_cases hx0 : 0 < x
  · have hq : (decide (x > 0) && !ltN d[x - 1]! d[p]!) = !ltN d[x - 1]! d[p]! := by simp [hx0]
    rw [hq] at h
    refine exec_dw [] rfl rfl rfl ?_
    refine dau rfl (fun _ => rfl) ?_
    refine dw_val (fun _ => pv_gtrI (a := x) (b := 0) (q := true) rfl rfl (by simpa using hx0)) ?_
    repeat (first | refine dau rfl (fun _ => rfl) ?_ | refine dga rfl (fun _ => rfl) (fun _ => rfl) ?_ | refine dgs (fun _ => rfl) ?_)
    refine dw_gval (fun _ => rfl) (fun _ => pv_subI (a := x) (b := 1) rfl rfl (by omega) (by omega)) ?_
    refine dw_gok _ (fun _ => rfl) (fun vs W' hu _ => (ok_iaddr (b := b) (o := 0) (len := n) (cap := cap) rfl rfl (x - 1) rfl (by omega)).keep _) ?_
    refine dw_gok (u64V d[x - 1]!) (fun _ => rfl) (fun vs W' hu _ => (ok_load1 (b := b) (o := 0 + (x - 1) * 1) rfl ((hB.upd hu).cell (row_get (by omega)))).keep _) ?_
    repeat (first | refine dau rfl (fun _ => rfl) ?_ | refine dga rfl (fun _ => rfl) (fun _ => rfl) ?_ | refine dgs (fun _ => rfl) ?_)
    refine dw_gok _ (fun _ => rfl) (fun vs W' hu _ => (ok_iaddr (b := b) (o := 0) (len := n) (cap := cap) rfl rfl (p) rfl (by omega)).keep _) ?_
    refine dw_gok (u64V d[p]!) (fun _ => rfl) (fun vs W' hu _ => (ok_load1 (b := b) (o := 0 + (p) * 1) rfl ((hB.upd hu).cell (row_get (by omega)))).keep _) ?_
    refine dw_end fun vs W1 hu1 _ => ?_
    refine xr 1 rfl ?_
    refine xca rfl rfl (less_ok A.h_nan A.h_less d[x - 1]! d[p]!) ?_
    rintro v W2 ⟨rfl, hu2⟩
    refine xgr rfl ?_
    refine xtm rfl rfl rfl ?_
    refine xtm rfl rfl rfl ?_
    refine xen _ ?_ (h W2 (hu1.trans hu2))
    exact ⟨rfl, rfl, rfl, rfl, rfl, rfl, rfl, rfl, rfl, trivial⟩
  · have hq : (decide (x > 0) && !ltN d[x - 1]! d[p]!) = false := by simp [hx0]
    rw [hq] at h
    refine exec_dw [] rfl rfl rfl ?_
    refine dau rfl (fun _ => rfl) ?_
    refine dw_val (fun _ => pv_gtrI (a := x) (b := 0) (q := false) rfl rfl (by simpa using hx0)) ?_
    repeat (first | refine dau rfl (fun _ => rfl) ?_ | refine dga rfl (fun _ => rfl) (fun _ => rfl) ?_ | refine dgs (fun _ => rfl) ?_)
    refine dw_end fun vs W1 hu1 _ => ?_
    refine xgs rfl rfl ?_
    refine xgs rfl rfl ?_
    refine xtm rfl rfl rfl ?_
    refine xen _ ?_ (h W1 hu1)
    exact ⟨rfl, rfl, rfl, rfl, rfl, rfl, rfl, rfl, rfl, trivial⟩
variable (A : SortAll P)
set_option maxHeartbeats 1000000 in
theorem pdq_ok {b n cap : Nat} {rest : List Value} (hn : n < 2 ^ 40) : ∀ (m x0 y0 lim0 : Nat) (w : World) (d0 : Array Nat), y0 - x0 ≤ m → Blk w b (row d0 rest) → d0.size = n → x0 ≤ y0 → y0 ≤ n → lim0 < 2 ^ 40 → Below ltN x0 y0 d0 →
    Ret P A.pdq' [slV b n cap, intV' x0, intV' y0, intV' lim0] w fun _ w' => Blk w' b (row (pdq ltN d0 x0 y0 lim0 true true) rest) ∧ Upd [b] w w' := by
  intro m
  induction m with
  | zero =>
    intro x0 y0 lim0 w d0 hm hB hd hxy hy hl hBel
    refine Ret.of_exec A.h_pdq (Nat.le_of_ble_eq_true rfl) fun c hc => ?_
    dsimp only [b_slices_pdqsortOrdered_uint64, argEnv, ym, yo, yg, ys, yt, yd, ye]
    refine xr 3 rfl ?_
    refine xlo (S := Unit) (fun _ W => W = w) (fun _ => [(0, slV b n cap), (1, intV' x0), (2, intV' y0)]) (fun _ => 0) () rfl ⟨rfl, rfl, rfl, trivial⟩ ?_
    rintro _ W rfl
    refine xr 3 rfl ?_
    refine xpu (pv_subI (a := y0) (b := x0) rfl rfl (by omega) (by omega)) rfl ?_
    refine xr 2 rfl ?_
    refine xpu (pv_leqI (a := y0 - x0) (b := 12) (q := true) rfl rfl (by simp; omega)) rfl ?_
    refine xr 4 rfl ?_
    refine xca rfl rfl (ins_ok A.toSortF A.h_ins hB hd hxy hy hn) ?_
    rintro v W1 ⟨hB1, hu1⟩
    refine xre hc [] trivial ?_
    rw [pdq_small (by omega)]
    exact ⟨hB1, hu1⟩
  | succ m ih =>
    intro x0 y0 lim0 w d0 hm hB hd hxy hy hl hBel
    refine Ret.of_exec A.h_pdq (Nat.le_of_ble_eq_true rfl) fun c hc => ?_
    dsimp only [b_slices_pdqsortOrdered_uint64, argEnv, ym, yo, yg, ys, yt, yd, ye]
    refine xr 3 rfl ?_
    refine xlo (S := Array Nat × Nat × Nat × Nat × Bool × Bool) (fun s W => s.1.size = n ∧ s.2.1 ≤ s.2.2.1 ∧ s.2.2.1 ≤ n ∧ s.2.2.1 - s.2.1 ≤ m + 1 ∧ s.2.2.2.1 < 2 ^ 40 ∧ Below ltN s.2.1 s.2.2.1 s.1 ∧ pdq ltN s.1 s.2.1 s.2.2.1 s.2.2.2.1 s.2.2.2.2.1 s.2.2.2.2.2 = pdq ltN d0 x0 y0 lim0 true true ∧ Blk W b (row s.1 rest) ∧ Upd [b] w W)
      (fun s => [(0, slV b n cap), (1, intV' s.2.1), (2, intV' s.2.2.1), (3, intV' s.2.2.2.1), (8, .bool s.2.2.2.2.1), (9, .bool s.2.2.2.2.2)]) (fun s => s.2.2.1 - s.2.1) (d0, x0, y0, lim0, true, true)
      ⟨hd, hxy, hy, hm, hl, hBel, rfl, hB, Upd.refl _ _⟩ ⟨rfl, rfl, rfl, rfl, rfl, rfl, trivial⟩ ?_
    rintro ⟨d, x, y, lim, wb, wp⟩ W ⟨i1, i2, i3, i4, i5, i6, iE, i8, i9⟩
    simp only at i1 i2 i3 i4 i5 i6 iE i8
    refine xr 3 rfl ?_
    refine xpu (pv_subI (a := y) (b := x) rfl rfl (by omega) (by omega)) rfl ?_
    refine xr 2 rfl ?_
    by_cases h12 : y - x ≤ 12
    · refine xpu (pv_leqI (a := y - x) (b := 12) (q := true) rfl rfl (by simpa using h12)) rfl ?_
      refine xr 4 rfl ?_
      refine xca rfl rfl (ins_ok A.toSortF A.h_ins i8 i1 i2 i3 hn) ?_
      rintro v W1 ⟨hB1, hu1⟩
      refine xre hc [] trivial ?_
      rw [← iE, pdq_small h12]
      exact ⟨hB1, i9.trans hu1 (by simp)⟩
    refine xpu (pv_leqI (a := y - x) (b := 12) (q := false) rfl rfl (by simpa using h12)) rfl ?_
    refine xr 3 rfl ?_
    have hxy' : x < y := by omega
    by_cases hl0 : lim = 0
    · refine xpu (pv_eqlI (a := lim) (b := 0) (q := true) rfl rfl (by simpa using hl0)) rfl ?_
      refine xr 4 rfl ?_
      refine xca rfl rfl (heap_ok A.toSortF A.h_sift A.h_heap i8 i1 hxy' i3 hn) ?_
      rintro v W1 ⟨hB1, hu1⟩
      refine xre hc [] trivial ?_
      rw [← iE, pdq_heap h12 hl0]
      exact ⟨hB1, i9.trans hu1 (by simp)⟩
    refine xpu (pv_eqlI (a := lim) (b := 0) (q := false) rfl rfl (by simpa using hl0)) rfl ?_
    refine xr 4 rfl ?_
    have hf := rd_facts (limit := lim) (wb := wb) (wp := wp) swoN Go.Sort.partialInsertionSort_holds Go.Sort.reverseRange_holds hxy' (by omega) i6
    have hd1 : (rd ltN d x y lim wb wp).d1 = (if wb = false then breakPatterns d x y else d) ∧ (rd ltN d x y lim wb wp).lim = (if wb = false then lim - 1 else lim) := by cases wb <;> exact ⟨rfl, rfl⟩
    have hcc := rd_c (lt := ltN) (d := d) (a := x) (b := y) (limit := lim) (wb := wb) (wp := wp)
    have hdec := rd_dec (lt := ltN) (d := d) (a := x) (b := y) (limit := lim) (wb := wb) (wp := wp)
    have hnot := rd_not (lt := ltN) (d := d) (a := x) (b := y) (limit := lim) (wb := wb) (wp := wp)
    have hpy := rd_pi_yes (lt := ltN) (d := d) (a := x) (b := y) (limit := lim) (wb := wb) (wp := wp)
    have hpn := rd_pi_no (lt := ltN) (d := d) (a := x) (b := y) (limit := lim) (wb := wb) (wp := wp)
    have pdone := pdq_done (lt := ltN) (d := d) (wb := wb) (wp := wp) h12 hl0
    have peq := pdq_eq (lt := ltN) (d := d) (wb := wb) (wp := wp) h12 hl0
    have pleft := pdq_left (lt := ltN) (d := d) (wb := wb) (wp := wp) h12 hl0
    have pright := pdq_right (lt := ltN) (d := d) (wb := wb) (wp := wp) h12 hl0
    generalize rd ltN d x y lim wb wp = R at *
    obtain ⟨f1, f2, ⟨f3, f4⟩, f5, f6, ⟨f7, f8⟩, f9, f10⟩ := hf
    have hlimR : R.lim < 2 ^ 40 := by rw [hd1.2]; split <;> omega
    -- the patterns
    refine exec_cond_join (S := Unit) (fun _ W => Blk W b (row R.d1 rest) ∧ Upd [b] w W) (fun _ => [(0, slV b n cap), (1, intV' x), (2, intV' y), (3, intV' R.lim), (8, .bool wb), (9, .bool wp), (10, intV' (y - x))]) rfl (fun hq => ?_) (fun hq => ?_) ?_
    · simp only [Bool.not_eq_true'] at hq
      rw [if_pos hq, if_pos hq] at hd1
      refine xr 3 rfl ?_
      refine xca rfl rfl (break_ok A.toSortF A.h_lenI A.h_pow2 A.h_xor A.h_brk i8 i1 (show x + 12 < y by omega) i3 hn) ?_
      rintro v W1 ⟨hB1, hu1⟩
      refine xr 1 rfl ?_
      refine xpu (pv_subI (a := lim) (b := 1) rfl rfl (by omega) (by omega)) rfl ?_
      refine xr 1 rfl ?_
      rw [hd1.1, hd1.2]
      exact exec_meet () ⟨hB1, i9.trans hu1 (by simp)⟩ ⟨rfl, rfl, rfl, rfl, rfl, rfl, rfl, trivial⟩
    · simp only [Bool.not_eq_false'] at hq
      rw [if_neg (by simp [hq]), if_neg (by simp [hq])] at hd1
      rw [hd1.1, hd1.2]
      exact exec_meet () ⟨i8, i9⟩ ⟨rfl, rfl, rfl, rfl, rfl, rfl, rfl, trivial⟩
    rintro _ W1 ⟨j1, j2⟩
    refine xr 3 rfl ?_
    refine xca rfl rfl (choosePivot_ok A.toSortF A.h_order2 A.h_median A.h_medAdj A.h_choose j1 (f1.trans i1) (by omega) i3 hn) ?_
    rintro v W2 ⟨rfl, hu2⟩
    rw [← hcc]
    refine xr 6 rfl ?_
    have k1 := j1.upd hu2
    have k2 := j2.trans hu2 (by simp)
    -- the pivot, turned
    refine xpu (pv_eqlI (a := hintN R.c.2) (b := 2) (q := decide (R.c.2 = .decreasing)) rfl rfl (by cases R.c.2 <;> rfl)) rfl ?_
    refine exec_cond_join (S := Unit) (fun _ W => Blk W b (row R.d2 rest) ∧ Upd [b] w W) (fun _ => [(0, slV b n cap), (1, intV' x), (2, intV' y), (3, intV' R.lim), (8, .bool wb), (9, .bool wp), (10, intV' (y - x)), (11, intV' R.pivot), (12, intV' (hintN R.hint))]) rfl (fun hq => ?_) (fun hq => ?_) ?_
    · simp only [decide_eq_true_eq] at hq
      obtain ⟨e1, e2, e3⟩ := hdec hq
      refine xr 3 rfl ?_
      refine xca rfl rfl (reverse_ok A.h_rev k1 (f1.trans i1) hxy' i3 hn) ?_
      rintro v W3 ⟨hB3, hu3⟩
      refine xr 1 rfl ?_
      refine xpu (pv_subI (a := y) (b := 1) rfl rfl (by omega) (by omega)) rfl ?_
      refine xr 2 rfl ?_
      refine xpu (pv_subI (a := R.c.1) (b := x) rfl rfl (by omega) (by omega)) rfl ?_
      refine xpu (pv_subI (a := y - 1) (b := R.c.1 - x) rfl rfl (by omega) (by omega)) rfl ?_
      refine xr 2 rfl ?_
      rw [e1, e2, e3]
      exact exec_meet () ⟨hB3, k2.trans hu3 (by simp)⟩ ⟨rfl, rfl, rfl, rfl, rfl, rfl, rfl, rfl, rfl, trivial⟩
    · simp only [decide_eq_false_iff_not] at hq
      obtain ⟨e1, e2, e3⟩ := hnot hq
      rw [e1, e2, e3]
      exact exec_meet () ⟨k1, k2⟩ ⟨rfl, rfl, rfl, rfl, rfl, rfl, rfl, rfl, rfl, trivial⟩
    rintro _ W3 ⟨l1, l2⟩
    refine pdq_and wb wp (hintN R.hint) ?_
    have hh : (wb && wp && decide (hintN R.hint = 1)) = (wb && wp && decide (R.hint = .increasing)) := by
      congr 1
      cases R.hint <;> rfl
    rw [hh]
    -- nearly sorted?
    refine exec_cond_join (S := Unit) (fun _ W => R.pi.2 = false ∧ Blk W b (row R.pi.1 rest) ∧ Upd [b] w W) (fun _ => [(0, slV b n cap), (1, intV' x), (2, intV' y), (3, intV' R.lim), (8, .bool wb), (9, .bool wp), (10, intV' (y - x)), (11, intV' R.pivot)]) rfl (fun hq => ?_) (fun hq => ?_) ?_
    · have hpi := hpy hq
      refine xr 3 rfl ?_
      refine xca rfl rfl (partial_ok A.toSortF A.h_parI l1 (f5.trans i1) hxy' i3 hn) ?_
      rintro v W4 ⟨rfl, hB4, hu4⟩
      rw [← hpi] at hB4 ⊢
      refine exec_cond rfl (fun hp => ?_) (fun hp => ?_)
      · refine xre hc [] trivial ?_
        rw [← iE, pdone hp]
        exact ⟨hB4, l2.trans hu4 (by simp)⟩
      · refine xsq ?_
        exact exec_meet () ⟨hp, hB4, l2.trans hu4 (by simp)⟩ ⟨rfl, rfl, rfl, rfl, rfl, rfl, rfl, rfl, trivial⟩
    · have hpi := hpn hq
      refine exec_meet () ⟨by rw [hpi], by rw [hpi]; exact l1, l2⟩ ⟨rfl, rfl, rfl, rfl, rfl, rfl, rfl, rfl, trivial⟩
    rintro _ W4 ⟨m0, m1, m2⟩
    have sz : R.pi.1.size = n := f9.trans i1
    refine pdq_guard A.toSortF m1 sz (by omega) (by omega) hn ?_
    intro W5 hu5
    have m1' := m1.upd hu5
    have m2' := m2.trans hu5 (by simp)
    refine exec_cond rfl (fun hq => ?_) (fun hq => ?_)
    · have hx0 : 0 < x := by
        simp only [Bool.and_eq_true, decide_eq_true_eq] at hq; exact hq.1
      obtain ⟨mid, d4, hpe⟩ : ∃ mid d4, partitionEqual ltN R.pi.1 x y R.pivot = (mid, d4) := ⟨_, _, rfl⟩
      have hre := Go.Sort.round_eq swoN (Go.Sort.partitionEqual_holds _) hx0 f7 f8 (by omega) f10 (by simp only [Bool.and_eq_true] at hq; simpa using hq.2) hpe
      have h3 : x < mid ∧ mid ≤ y ∧ d4.size = n ∧ Below ltN mid y d4 := ⟨hre.1, hre.2.1, hre.2.2.1.trans sz, hre.2.2.2.1⟩
      refine xr 4 rfl ?_
      refine xca rfl rfl (partEq_ok A.toSortF A.h_partEq m1' sz f7 f8 i3 hn) ?_
      rintro v W6 ⟨rfl, hB6, hu6⟩
      rw [hpe] at hB6 ⊢
      simp only at hB6
      refine xr 5 rfl ?_
      refine xag (d4, mid, y, R.lim, wb, wp) ⟨h3.2.2.1, h3.2.1, i3, by show y - mid ≤ m + 1; omega, hlimR, h3.2.2.2, ?_, hB6, m2'.trans hu6 (by simp)⟩ (by show y - mid < y - x; omega) ⟨rfl, rfl, rfl, rfl, rfl, rfl, trivial⟩
      have := peq m0 hq (by rw [hpe]; exact ⟨h3.1, h3.2.1⟩)
      rw [hpe] at this
      rw [← iE, this]
    · obtain ⟨mid, ap, d4, hpt⟩ : ∃ mid ap d4, partition ltN R.pi.1 x y R.pivot = (mid, ap, d4) := ⟨_, _, _, rfl⟩
      have hrp := Go.Sort.round_part swoN (Go.Sort.partition_holds _) f7 f8 (by omega) f10 hpt
      obtain ⟨p1, p2, p3, p4, p5, p6, p7⟩ := hrp
      have sz4 : d4.size = n := p3.trans sz
      refine xr 5 rfl ?_
      refine xca rfl rfl (part_ok A.toSortF A.h_part m1' sz f7 f8 i3 hn) ?_
      rintro v W6 ⟨rfl, hB6, hu6⟩
      rw [hpt] at hB6 ⊢
      simp only at hB6
      refine xr 9 rfl ?_
      refine xpu (pv_subI (a := mid) (b := x) rfl rfl (by omega) (by omega)) rfl ?_
      refine xr 2 rfl ?_
      refine xpu (pv_subI (a := y) (b := mid) rfl rfl (by omega) (by omega)) rfl ?_
      refine xr 3 rfl ?_
      refine xju (ok_quoI (a := y - x) (b := 8) rfl rfl (by omega) (by omega)) rfl ?_
      refine xr 3 rfl ?_
      have m2'' := m2'.trans hu6 (by simp)
      by_cases hlr : mid - x < y - mid
      · refine xpu (pv_lssI (a := mid - x) (b := y - mid) (q := true) rfl rfl (by simpa using hlr)) rfl ?_
        refine xr 3 rfl ?_
        refine xpu (pv_geqI (a := mid - x) (b := (y - x) / 8) (q := decide (mid - x ≥ (y - x) / 8)) rfl rfl rfl) rfl ?_
        refine xr 5 rfl ?_
        refine xca rfl rfl (ih x mid R.lim _ d4 (by omega) hB6 sz4 p1 (by omega) hlimR p4) ?_
        rintro v W7 ⟨hB7, hu7⟩
        obtain ⟨s1, s2⟩ := Go.Sort.pdq_sorts ltN swoN d4 x mid R.lim true true p1 (by omega) p4
        have hbl := (p6 _ s1 s2).1
        refine xr 1 rfl ?_
        refine xpu (pv_addI (a := mid) (b := 1) rfl rfl (by omega)) rfl ?_
        refine xr 4 rfl ?_
        refine xag (pdq ltN d4 x mid R.lim true true, mid + 1, y, R.lim, decide (mid - x ≥ (y - x) / 8), ap) ⟨s1.1.trans sz4, by show mid + 1 ≤ y; omega, i3, by show y - (mid + 1) ≤ m + 1; omega, hlimR, hbl, ?_, hB7, m2''.trans hu7 (by simp)⟩ (by show y - (mid + 1) < y - x; omega) ⟨rfl, rfl, rfl, rfl, rfl, rfl, trivial⟩
        have := pleft m0 hq (by rw [hpt]; exact ⟨p1, p2⟩) (by rw [hpt]; exact hlr)
        rw [hpt] at this
        rw [← iE, this]
      · refine xpu (pv_lssI (a := mid - x) (b := y - mid) (q := false) rfl rfl (by simpa using hlr)) rfl ?_
        refine xr 3 rfl ?_
        refine xpu (pv_geqI (a := y - mid) (b := (y - x) / 8) (q := decide (y - mid ≥ (y - x) / 8)) rfl rfl rfl) rfl ?_
        refine xr 3 rfl ?_
        refine xpu (pv_addI (a := mid) (b := 1) rfl rfl (by omega)) rfl ?_
        refine xr 2 rfl ?_
        refine xca rfl rfl (ih (mid + 1) y R.lim _ d4 (by omega) hB6 sz4 (by omega) i3 hlimR p5) ?_
        rintro v W7 ⟨hB7, hu7⟩
        obtain ⟨s1, s2⟩ := Go.Sort.pdq_sorts ltN swoN d4 (mid + 1) y R.lim true true (by omega) (by omega) p5
        have hbl := (p7 _ s1 s2).1
        refine xr 5 rfl ?_
        refine xag (pdq ltN d4 (mid + 1) y R.lim true true, x, mid, R.lim, decide (y - mid ≥ (y - x) / 8), ap) ⟨s1.1.trans sz4, p1, by show mid ≤ n; omega, by show mid - x ≤ m + 1; omega, hlimR, hbl, ?_, hB7, m2''.trans hu7 (by simp)⟩ (by show mid - x < y - x; omega) ⟨rfl, rfl, rfl, rfl, rfl, rfl, trivial⟩
        have := pright m0 hq (by rw [hpt]; exact ⟨p1, p2⟩) (by rw [hpt]; exact hlr)
        rw [hpt] at this
        rw [← iE, this]
/-- slices.Sort at numbers: in order. -/
theorem sortU_ok {b n cap : Nat} {d : Array Nat} {rest : List Value} (hB : Blk w b (row d rest)) (hd : d.size = n) (hn : n < 2 ^ 40) :
    Ret P A.sort [slV b n cap] w fun _ w' => Blk w' b (row (pdq ltN d 0 n (bitLen n) true true) rest) ∧ Upd [b] w w' := by
  refine Ret.of_exec A.h_sort (Nat.le_of_ble_eq_true rfl) fun c hc => ?_
  dsimp only [b_slices_Sort_uint64_uint64, argEnv, ym, yo, yg, ys, yt, yd, ye]
  refine xr 6 rfl ?_
  refine xpu (pv_toU (a := n) rfl (by omega)) rfl ?_
  refine xca rfl rfl (len_ok A.toSortF A.h_lenI n (by omega)) ?_
  rintro v W1 ⟨rfl, hu1⟩
  have hb : bitLen n ≤ 40 := bitLen_le (by omega) (by omega)
  refine xca rfl rfl (pdq_ok A hn (n - 0) 0 n (bitLen n) _ d (Nat.le_refl _) (hB.upd hu1) hd (Nat.zero_le _) (Nat.le_refl _) (by omega) (Or.inl rfl)) ?_
  rintro v W2 ⟨hB2, hu2⟩
  refine exec_end hc [] trivial ⟨hB2, (hu1.mono (by simp)).trans hu2 (by simp)⟩
end
end Go.Sp

namespace Go.Sp
open Go.Sort (pdq)
theorem pdq_sortN (l : List Nat) (lim : Nat) : (pdq ltN l.toArray 0 l.length lim true true).toList = sortN l := by
  obtain ⟨h1, h2⟩ := Go.Sort.pdq_sorts ltN swoN l.toArray 0 l.length lim true true (Nat.zero_le _) (by simp) (Or.inl rfl)
  have hu := Go.Sort.sorted_unique_holds (lt := ltN) swoN (fun x y h1 h2 => by simp [ltN] at h1 h2; omega) l.toArray (pdq ltN l.toArray 0 l.length lim true true) (by simpa using h1) (by simpa using h2)
  rw [hu, sortN]
  congr 1
  funext x y
  simp only [ltN]
  by_cases h : x ≤ y
  · simp [h]
  · simp [h]; omega
section
variable {P : Program} {f : Nat} {w : World} (A : SortAll P)
theorem insNil_ok : Ret P A.ins [.slice none 0 0, intV' 0, intV' 0] w fun _ w' => Ext w w' := by
  refine Ret.of_exec A.h_ins (Nat.le_of_ble_eq_true rfl) fun c hc => ?_
  dsimp only [b_slices_insertionSortOrdered_uint64, argEnv, ym, yo, yg, ys, yt, yd, ye]
  refine xr 1 rfl ?_
  refine xpu (pv_addI (a := 0) (b := 1) rfl rfl (by omega)) rfl ?_
  refine xr 2 rfl ?_
  refine xlo (S := Unit) (fun _ W => W = w) (fun _ => [(2, intV' 0), (6, intV' (0 + 1))]) (fun _ => 0) () rfl ⟨rfl, rfl, trivial⟩ ?_
  rintro _ W rfl
  refine xr 2 rfl ?_
  refine xpu (pv_lssI (a := 0 + 1) (b := 0) (q := false) rfl rfl (by simp)) rfl ?_
  refine xr 3 rfl ?_
  exact exec_end hc [] trivial (Upd.refl _ _)
theorem pdqNil_ok (lim : Nat) : Ret P A.pdq' [.slice none 0 0, intV' 0, intV' 0, intV' lim] w fun _ w' => Ext w w' := by
  refine Ret.of_exec A.h_pdq (Nat.le_of_ble_eq_true rfl) fun c hc => ?_
  dsimp only [b_slices_pdqsortOrdered_uint64, argEnv, ym, yo, yg, ys, yt, yd, ye]
  refine xr 3 rfl ?_
  refine xlo (S := Unit) (fun _ W => W = w) (fun _ => [(0, .slice none 0 0), (1, intV' 0), (2, intV' 0)]) (fun _ => 0) () rfl ⟨rfl, rfl, rfl, trivial⟩ ?_
  rintro _ W rfl
  refine xr 3 rfl ?_
  refine xpu (pv_subI (a := 0) (b := 0) rfl rfl (by omega) (by omega)) rfl ?_
  refine xr 2 rfl ?_
  refine xpu (pv_leqI (a := 0 - 0) (b := 12) (q := true) rfl rfl (by simp)) rfl ?_
  refine xr 4 rfl ?_
  refine xca rfl rfl (insNil_ok A) ?_
  rintro v W1 hu1
  exact xre hc [] trivial hu1
theorem sort_ok : SortOK P A.sort := by
  intro w v l hO hl
  rcases hO with ⟨rfl, h0, h1⟩ | ⟨b, cap, rest, rfl, hB, h1, h2, h3⟩
  · have : l = [] := by simpa using h1
    subst this
    refine Ret.of_exec A.h_sort (Nat.le_of_ble_eq_true rfl) fun c hc => ?_
    dsimp only [b_slices_Sort_uint64_uint64, argEnv, ym, yo, yg, ys, yt, yd, ye]
    refine xr 6 rfl ?_
    refine xpu (pv_toU (a := 0) rfl (by omega)) rfl ?_
    refine xca rfl rfl (len_ok A.toSortF A.h_lenI 0 (by omega)) ?_
    rintro v W1 ⟨rfl, hu1⟩
    refine xca rfl rfl (pdqNil_ok A (bitLen 0)) ?_
    rintro v W2 hu2
    exact exec_end hc [] trivial ⟨.inl ⟨rfl, rfl, by simp [sortN]⟩, (hu1.trans hu2).mono (by simp)⟩
  · have hB' : Blk w b (row l.toArray rest) := by simpa [row] using hB
    refine (sortU_ok A hB' (n := l.length) (cap := cap) (by simp) hl).mono ?_
    rintro v w' ⟨hB2, hu2⟩
    rw [row, pdq_sortN] at hB2
    refine ⟨.inr ⟨b, cap, rest, rfl, hB2, ?_, ?_, h3⟩, hu2⟩
    · simp [(sortN_perm l).length_eq]
    · have := (sortN_perm l).length_eq
      simp at h2 ⊢
      omega
end
end Go.Sp

namespace Go.Sp
open Go.Proofs Go.Shelf Go.Sort
theorem Upd.grow {w w' : World} (h : Ext w w') : ∃ q os, w' = Go.Sort.grow (w.drewN q) os := by
  refine ⟨w'.drawn - w.drawn, w'.heap.extract w.heap.size w'.heap.size, ?_⟩
  have hh : w'.heap = w.heap ++ w'.heap.extract w.heap.size w'.heap.size := by
    apply Array.ext_getElem?
    intro k
    have hs := h.size
    rw [Array.getElem?_append]
    split
    · rename_i hk
      exact h.block k hk (by simp)
    · rename_i hk
      rw [Array.getElem?_extract]
      split
      · congr 1; omega
      · rw [Array.getElem?_eq_none (by omega)]
  have hd : w.drawn + (w'.drawn - w.drawn) = w'.drawn := by have := h.drawn; omega
  obtain ⟨h1, h2, h3, _, _, _⟩ := h
  cases w; cases w'
  simp only [Go.Sort.grow, World.drewN] at *
  subst h1; subst h2; subst h3
  rw [hd, ← hh]
instance : Inhabited Hash := ⟨⟨List.replicate 32 0, rfl⟩⟩
theorem sortWorld_heap (w : World) (b m : Nat) (dk : Array Hash) (os : Array Obj) : (sortWorldK hC 32 w b 0 m dk os).heap = w.heap.modify b (onCells (putCells id 0 (flatK hC 32 dk))) ++ os := rfl
theorem sortWorld_upd {w : World} {b m : Nat} {dk : Array Hash} {os : Array Obj} : Upd [b] w (sortWorldK hC 32 w b 0 m dk os) := by
  refine ⟨rfl, rfl, rfl, ?_, fun k hk hb => ?_, ?_⟩
  · rw [sortWorld_heap]; simp
  · rw [sortWorld_heap, Array.getElem?_append_left (by simpa using hk), Array.getElem?_modify, if_neg (by simp at hb; omega)]
  · show w.drawn ≤ w.drawn + m
    omega
theorem hs_at' {l : List Hash} {k : Nat} (hk : k < l.length * 32) : ∃ h v, l[k / 32]? = some h ∧ (hC h)[k % 32]? = some v ∧ (hs l)[k]? = some v := by
  have h1 : k / 32 < l.length := by omega
  have h2 : k % 32 < 32 := Nat.mod_lt _ (by omega)
  refine ⟨l[k / 32], (hC l[k / 32])[k % 32]'(by rw [hC_length]; exact h2), List.getElem?_eq_getElem h1, List.getElem?_eq_getElem _, ?_⟩
  have := hs_get l (k / 32) (k % 32) _ _ (List.getElem?_eq_getElem h1) (List.getElem?_eq_getElem (by rw [hC_length]; exact h2))
  rw [show k / 32 * 32 + k % 32 = k by omega] at this
  exact this
theorem flatK_at {dk : Array Hash} {k : Nat} (hk : k < dk.size * 32) : (hs dk.toList)[k]? = some (flatK hC 32 dk)[k]! := by
  obtain ⟨h, v, h1, h2, h3⟩ := hs_at' (l := dk.toList) (k := k) (by simpa using hk)
  rw [h3, get_flatK _ _ _ _ hk]
  have e1 : dk[k / 32]! = h := by
    rw [Array.getElem?_toList] at h1
    rw [Array.getElem!_eq_getD, Array.getD_eq_getD_getElem?, h1]; rfl
  rw [e1, List.getElem!_eq_getElem?_getD, h2]; rfl
theorem sortWorld_blk {w : World} {b m : Nat} {l : List Hash} {rest : List Value} {dk : Array Hash} {os : Array Obj} (h : Blk w b (hs l ++ rest)) (hs' : dk.size = l.length) : Blk (sortWorldK hC 32 w b 0 m dk os) b (hs dk.toList ++ rest) := by
  have hlt := h.lt
  obtain ⟨T, h⟩ := h
  refine ⟨T, ?_⟩
  rw [sortWorld_heap, Array.getElem?_append_left (by simpa using hlt), Array.getElem?_modify, if_pos rfl, h]
  simp only [Option.map_some, onCells, Option.some.injEq, Obj.cells.injEq, and_true]
  apply Array.ext_getElem?
  intro k
  simp only [putCells, Array.getElem?_mapIdx, List.getElem?_toArray, size_flatK, Nat.zero_le, true_and, Nat.zero_add, Nat.sub_zero, id]
  have hl1 : (hs l).length = l.length * 32 := hs_len l
  have hl2 : (hs dk.toList).length = l.length * 32 := by rw [hs_len]; simp [hs']
  by_cases hk : k < dk.size * 32
  · rw [List.getElem?_append_left (by omega), List.getElem?_append_left (by omega), flatK_at hk]
    obtain ⟨_, v, _, _, h3⟩ := hs_at' (l := l) (k := k) (by omega)
    rw [h3]; simp [hk]
  · rw [List.getElem?_append_right (by omega), List.getElem?_append_right (by omega), hl1, hl2]
    cases rest[k - l.length * 32]? with
    | none => rfl
    | some v => simp [hk]
theorem holds_blk {w : World} {b : Nat} {l : List Hash} {rest : List Value} (h : Blk w b (hs l ++ rest)) : HoldsK hC 32 w b 0 l.toArray := by
  intro j hj
  have hj' : j < l.toArray.size * 32 := by simpa using hj
  have hf := flatK_at hj'
  have hl1 : (hs l).length = l.length * 32 := hs_len l
  simp at hj'
  refine ⟨?_, ?_⟩
  · rw [Nat.zero_add]
    exact h.cell (by rw [List.getElem?_append_left (by omega)]; exact hf)
  · obtain ⟨T, h⟩ := h
    simp [World.frozen?, h]
theorem cmp_lt (p : Hash → Nat) (x y : Hash) : ltOf (fun x y => cmpN (p x) (p y)) x y = decide (p x < p y) := by
  simp only [ltOf, cmpN]
  by_cases h : p x < p y
  · simp [h]
  · by_cases h2 : p y < p x
    · simp [h, h2]
    · simp [h, h2]
theorem cmp_swo (p : Hash → Nat) : SWO (ltOf fun x y => cmpN (p x) (p y)) := by
  refine ⟨fun x => ?_, fun x y z h1 h2 => ?_, fun x y z h1 h2 => ?_⟩ <;> simp only [cmp_lt, decide_eq_true_eq, decide_eq_false_iff_not] at * <;> omega
theorem hC_one (x : Hash) : ∀ v ∈ hC x, v.oneCell' = true := by
  intro v hv
  simp only [hC, List.mem_map] at hv
  obtain ⟨b, _, rfl⟩ := hv
  rfl
theorem permIn_list {l : List Hash} {d' : Array Hash} (h : PermIn 0 l.toArray.size l.toArray d') : d'.toList.Perm l ∧ d'.size = l.length := by
  obtain ⟨h1, _, h3⟩ := h
  have e1 : d'.extract 0 l.toArray.size = d' := by rw [← h1]; exact Array.extract_size
  have e2 : l.toArray.extract 0 l.toArray.size = l.toArray := Array.extract_size
  rw [e1, e2] at h3
  exact ⟨h3, by simpa using h1⟩
theorem sortedIn_list {p : Hash → Nat} {d' : Array Hash} {n : Nat} (hn : d'.size = n) (h : SortedIn (ltOf fun x y => cmpN (p x) (p y)) 0 n d') : d'.toList.Pairwise (fun a b => p a ≤ p b) := by
  rw [List.pairwise_iff_getElem]
  intro i j hi hj hij
  have hi' : i < d'.size := by simpa using hi
  have hj' : j < d'.size := by simpa using hj
  have := h i j (Nat.zero_le _) hij (by omega)
  rw [getElem!_pos d' j hj', getElem!_pos d' i hi'] at this
  rw [cmp_lt, decide_eq_false_iff_not] at this
  show p d'[i] ≤ p d'[j]
  omega
theorem sortHOK_of {P : Program} {ρ : Ren} {f : FuncId} (L : SlLaysF0.n6 P ρ) (hf : ρ.f 6 = f) (aE : ∀ w, (isAgg (ρ.t 24)).run P w = .ok true w) (zE : ∀ w, (Go.sizeOf (ρ.t 24)).run P w = .ok 32 w) : SortHOK P f := by
  subst hf
  intro w v l g cb p hO hl hen hcmp
  have nn : ∀ (q : Option Addr) (cap : Nat), Ret P (ρ.f 6) [.slice q 0 cap, .func (.func g) #[] cb.toArray] w fun _ w' => w' = w := fun q cap =>
    Calls.mono (AnyF.slices_SortFunc_none L q cap _ w) fun e w' h => ⟨_, h.1, h.2⟩
  by_cases hl0 : l = []
  · subst hl0
    rcases hO with ⟨rfl, h0, h1⟩ | ⟨b, cap, rest, rfl, hB, h1, h2, h3⟩
    · exact (nn Option.none 0).mono fun _ w' h => by subst h; exact ⟨[], List.Perm.refl _, List.Pairwise.nil, .inl ⟨rfl, rfl, rfl⟩, Upd.refl _ _⟩
    · exact (nn _ cap).mono fun _ w' h => by subst h; exact ⟨[], List.Perm.refl _, List.Pairwise.nil, .inr ⟨b, cap, rest, rfl, hB, h1, h2, h3⟩, Upd.refl _ _⟩
  rcases hO with ⟨_, h0, _⟩ | ⟨b, cap, rest, rfl, hB, h1, h2, h3⟩
  · exact absurd (List.length_eq_zero_iff.1 h0) hl0
  have hcl : CmpLays P g cb.toArray hC 32 (fun x y => cmpN (p x) (p y)) b 0 l.toArray.size w := by
    intro m os dk hdk x y
    have e : (hV x :: hV y :: cb).toArray = #[.agg (hC x).toArray, .agg (hC y).toArray] ++ cb.toArray := by simp [hV]
    have := hcmp (sortWorldK hC 32 w b 0 m dk os) x y sortWorld_upd
    unfold Ret at this
    rw [e] at this
    refine Calls.mono this ?_
    rintro e w' ⟨r, he, hr, hu⟩
    subst hr
    exact ⟨he, hu.grow⟩
  have main := AnyQ.slices_SortFunc L 32 aE zE hC hC_length hC_one (fun x y => cmpN (p x) (p y)) (cmp_swo p) g cb.toArray b 0 cap l.toArray w (fun args w => hen.run args w) hcl (holds_blk hB) hB.lt (by simp; omega)
  have e2 : (.slice (some ⟨b, 0, Option.none⟩) l.length cap : Value) = .slice (some ⟨b, 0, Option.none⟩) l.toArray.size cap := by simp
  rw [e2]
  refine Calls.mono main ?_
  rintro e w' ⟨he, d', m, os, hp, hs', rfl⟩
  obtain ⟨hp1, hp2⟩ := permIn_list hp
  refine ⟨_, he, d'.toList, hp1, sortedIn_list hp2 (by simpa using hs'), ?_, sortWorld_upd⟩
  rw [← e2]
  refine .inr ⟨b, cap, rest, rfl, sortWorld_blk hB hp2, ?_, ?_, h3⟩
  · rw [hs_len]; simp [hp2]
  · rw [List.length_append, hs_len] at h2 ⊢
    simpa [hp2] using h2
end Go.Sp

namespace Go.Proofs.YtgkfgclebdikgaaGreatDoor
open Go.Sp Go.Shelf Go.Proofs
theorem has_of {P : Program} {f : FuncId} {B : Body} (h : bodyOf P f = some B) : Has P f B := h
theorem info_of {P : Program} {T : TypeId} (h : (P.info? T).map (fun j => j.size == 0) = some false) : ∃ j, P.info? T = some j ∧ j.size ≠ 0 := by
  obtain ⟨j, h1, h2⟩ := Option.map_eq_some_iff.1 h
  exact ⟨j, h1, by simpa using h2⟩
theorem tyHash : TyBytes Tryz.prog 39 32 := by
  refine ⟨?_, by kernel_rfl⟩
  have h5 : (Tryz.prog.info? 5).map (·.size) = some 1 := by kernel_rfl
  obtain ⟨i, hi, hs⟩ := Option.map_eq_some_iff.1 h5
  exact ⟨5, i, Tryz.underlying39, Tryz.underlying5, hi, hs⟩
theorem tyRoot : TyRoot Tryz.prog 55 39 := by
  refine ⟨by kernel_rfl, by kernel_rfl, by kernel_rfl, ?_, ?_⟩
  · exact ⟨{ name := "Full", type := 4, offset := 0, embedded := false, tag := "", pkgPath := "", byteOffset := 0 }, { name := "Hash", type := 39, offset := 1, embedded := false, tag := "", pkgPath := "", byteOffset := 1 }, by simp only [Program.fieldsOf, Tryz.underlying55], by decide, by decide, Tryz.underlying4, rfl, rfl, rfl⟩
  · have h5 : (Tryz.prog.info? 39).map (·.size) = some 32 := by kernel_rfl
    obtain ⟨i, hi, hs⟩ := Option.map_eq_some_iff.1 h5
    exact ⟨i, hi, hs⟩
noncomputable def sortAll : SortAll Tryz.prog where
  len64 := 42
  lz := 74
  rows := 14
  may := 73
  begin_ := 43
  row := 44
  parent := 71
  left := 36
  sibling := 40
  root := 16
  h_len64 := has_of (by kernel_rfl)
  h_lz := has_of (by kernel_rfl)
  h_rows := has_of (by kernel_rfl)
  h_may := has_of (by kernel_rfl)
  h_begin := has_of (by kernel_rfl)
  h_row := has_of (by kernel_rfl)
  h_parent := has_of (by kernel_rfl)
  h_left := has_of (by kernel_rfl)
  h_sibling := has_of (by kernel_rfl)
  h_root := has_of (by kernel_rfl)
  nan := 87
  less := 96
  h_nan := has_of (by kernel_rfl)
  h_less := has_of (by kernel_rfl)
  len32 := 118
  lenI := 100
  order2 := 140
  median := 135
  medAdj := 134
  choose := 113
  sift := 131
  heap := 111
  ins := 110
  xor := 133
  pow2 := 132
  brk := 112
  rev := 114
  parI := 115
  partEq := 116
  part := 117
  pdq' := 99
  sort := 80
  TX := 187
  TI := 3
  h_lenI := has_of (by kernel_rfl)
  h_order2 := has_of (by kernel_rfl)
  h_median := has_of (by kernel_rfl)
  h_medAdj := has_of (by kernel_rfl)
  h_choose := has_of (by kernel_rfl)
  h_sift := has_of (by kernel_rfl)
  h_heap := has_of (by kernel_rfl)
  h_ins := has_of (by kernel_rfl)
  h_xor := has_of (by kernel_rfl)
  h_pow2 := has_of (by kernel_rfl)
  h_brk := has_of (by kernel_rfl)
  h_rev := has_of (by kernel_rfl)
  h_parI := has_of (by kernel_rfl)
  h_partEq := has_of (by kernel_rfl)
  h_part := has_of (by kernel_rfl)
  h_pdq := has_of (by kernel_rfl)
  h_sort := has_of (by kernel_rfl)
def ren : Go.Shelf.Ren := ⟨fun | 6 => 85 | 15 => 100 | 14 => 102 | 28 => 118 | 29 => 42 | 20 => 119 | 21 => 120 | 22 => 121 | 23 => 122 | 24 => 123 | 25 => 124 | 26 => 125 | 27 => 126 | 46 => 136 | 47 => 132 | 48 => 133 | 49 => 137 | 50 => 138 | 57 => 141 | n => n, fun | 22 => 23 | 24 => 39 | 25 => 124 | 3 => 3 | 39 => 105 | 0 => 0 | 53 => 177 | 55 => 35 | 4 => 4 | 46 => 171 | 45 => 170 | 50 => 47 | 5 => 5 | 9 => 9 | 66 => 187 | 70 => 190 | 76 => 194 | 77 => 195 | n => n, fun | n => n⟩
theorem lays : SlLaysF0.n6 Tryz.prog ren where
  mixed := by kernel_rfl
  f6 := ⟨ "slices.SortFunc[[]spinney/api.Hash,spinney/api.Hash]", by decide, Tryz.func85.trans (congrArg some (by kernel_rfl))⟩
  f14 := ⟨ "slices.pdqsortCmpFunc[spinney/api.Hash]", by decide, Tryz.func102.trans (congrArg some (by kernel_rfl))⟩
  f15 := Tryz.func100.trans (congrArg some (by kernel_rfl))
  f20 := ⟨ "slices.insertionSortCmpFunc[spinney/api.Hash]", by decide, Tryz.func119.trans (congrArg some (by kernel_rfl))⟩
  f21 := ⟨ "slices.heapSortCmpFunc[spinney/api.Hash]", by decide, Tryz.func120.trans (congrArg some (by kernel_rfl))⟩
  f22 := ⟨ "slices.breakPatternsCmpFunc[spinney/api.Hash]", by decide, Tryz.func121.trans (congrArg some (by kernel_rfl))⟩
  f23 := ⟨ "slices.choosePivotCmpFunc[spinney/api.Hash]", by decide, Tryz.func122.trans (congrArg some (by kernel_rfl))⟩
  f24 := ⟨ "slices.reverseRangeCmpFunc[spinney/api.Hash]", by decide, Tryz.func123.trans (congrArg some (by kernel_rfl))⟩
  f25 := ⟨ "slices.partialInsertionSortCmpFunc[spinney/api.Hash]", by decide, Tryz.func124.trans (congrArg some (by kernel_rfl))⟩
  f26 := ⟨ "slices.partitionEqualCmpFunc[spinney/api.Hash]", by decide, Tryz.func125.trans (congrArg some (by kernel_rfl))⟩
  f27 := ⟨ "slices.partitionCmpFunc[spinney/api.Hash]", by decide, Tryz.func126.trans (congrArg some (by kernel_rfl))⟩
  f28 := Tryz.func118.trans (congrArg some (by kernel_rfl))
  f29 := Tryz.func42.trans (congrArg some (by kernel_rfl))
  f46 := ⟨ "slices.siftDownCmpFunc[spinney/api.Hash]", by decide, Tryz.func136.trans (congrArg some (by kernel_rfl))⟩
  f47 := Tryz.func132.trans (congrArg some (by kernel_rfl))
  f48 := Tryz.func133.trans (congrArg some (by kernel_rfl))
  f49 := ⟨ "slices.medianAdjacentCmpFunc[spinney/api.Hash]", by decide, Tryz.func137.trans (congrArg some (by kernel_rfl))⟩
  f50 := ⟨ "slices.medianCmpFunc[spinney/api.Hash]", by decide, Tryz.func138.trans (congrArg some (by kernel_rfl))⟩
  f57 := ⟨ "slices.order2CmpFunc[spinney/api.Hash]", by decide, Tryz.func141.trans (congrArg some (by kernel_rfl))⟩
  t0 := Tryz.underlying0
  a0 := Tryz.isAgg0
  z0 := Tryz.sizeOf0
  v0 := Tryz.zeroValue0
  t3 := Tryz.underlying3
  a3 := Tryz.isAgg3
  z3 := Tryz.sizeOf3
  v3 := Tryz.zeroValue3
  t4 := Tryz.underlying4
  a4 := Tryz.isAgg4
  z4 := Tryz.sizeOf4
  v4 := Tryz.zeroValue4
  t5 := Tryz.underlying5
  a5 := Tryz.isAgg5
  z5 := Tryz.sizeOf5
  v5 := Tryz.zeroValue5
  t9 := Tryz.underlying9
  a9 := Tryz.isAgg9
  z9 := Tryz.sizeOf9
  v9 := Tryz.zeroValue9
  t22 := Tryz.underlying23
  a22 := Tryz.isAgg23
  z22 := Tryz.sizeOf23
  v22 := Tryz.zeroValue23
  t25 := Tryz.underlying124
  a25 := Tryz.isAgg124
  z25 := Tryz.sizeOf124
  v25 := Tryz.zeroValue124
  t39 := Tryz.underlying105
  a39 := Tryz.isAgg105
  z39 := Tryz.sizeOf105
  v39 := Tryz.zeroValue105
  t45 := Tryz.underlying170
  a45 := Tryz.isAgg170
  z45 := Tryz.sizeOf170
  v45 := Tryz.zeroValue170
  t46 := Tryz.underlying171
  a46 := Tryz.isAgg171
  z46 := Tryz.sizeOf171
  v46 := Tryz.zeroValue171
  t50 := Tryz.underlying47
  a50 := Tryz.isAgg47
  z50 := Tryz.sizeOf47
  v50 := Tryz.zeroValue47
  t53 := Tryz.underlying177
  a53 := Tryz.isAgg177
  z53 := Tryz.sizeOf177
  v53 := Tryz.zeroValue177
  t55 := Tryz.underlying35
  a55 := Tryz.isAgg35
  z55 := Tryz.sizeOf35
  v55 := Tryz.zeroValue35
  t66 := Tryz.underlying187
  a66 := Tryz.isAgg187
  z66 := Tryz.sizeOf187
  v66 := Tryz.zeroValue187
  t70 := Tryz.underlying190
  a70 := Tryz.isAgg190
  z70 := Tryz.sizeOf190
  v70 := Tryz.zeroValue190
  t76 := Tryz.underlying194
  a76 := Tryz.isAgg194
  z76 := Tryz.sizeOf194
  v76 := Tryz.zeroValue194
  t77 := Tryz.underlying195
  a77 := Tryz.isAgg195
  z77 := Tryz.sizeOf195
  v77 := Tryz.zeroValue195
theorem sortH : SortHOK Tryz.prog 85 := sortHOK_of (ρ := ren) lays rfl Tryz.isAgg39 Tryz.sizeOf39
noncomputable def facts : LawM Tryz.prog where
  gFirst := 0
  gConst := 1
  word := 107
  rot := 139
  right := 130
  spread := 129
  take := 105
  cloneB := 128
  lay := 106
  filled := 104
  chunk1 := 127
  chunk := 103
  digest := 90
  words := 91
  sum := 65
  TS80 := 184
  T8 := 151
  TC1 := 131
  TC2 := 5
  TL := 5
  TF := 5
  TH1 := 131
  TH2 := 3
  TH3 := 9
  T64 := 149
  TU8 := 5
  THash := 39
  E1 := 5
  h_word := has_of (by kernel_rfl)
  h_rot := has_of (by kernel_rfl)
  h_right := has_of (by kernel_rfl)
  h_spread := has_of (by kernel_rfl)
  h_take := has_of (by kernel_rfl)
  h_cloneB := has_of (by kernel_rfl)
  h_TC1 := Tryz.underlying131
  h_lay := has_of (by kernel_rfl)
  h_filled := has_of (by kernel_rfl)
  h_chunk1 := has_of (by kernel_rfl)
  h_chunk := has_of (by kernel_rfl)
  h_digest := has_of (by kernel_rfl)
  h_words := has_of (by kernel_rfl)
  h_sum := has_of (by kernel_rfl)
  growB := 108
  concat := 92
  pairText := 66
  parent := 28
  TG1 := 9
  TG2 := 5
  TK1 := 9
  TK2 := 5
  TP1 := 39
  TP2 := 5
  TP3 := 131
  TPH := 39
  h_growB := has_of (by kernel_rfl)
  h_concat := has_of (by kernel_rfl)
  h_pairText := has_of (by kernel_rfl)
  h_parent := has_of (by kernel_rfl)
  joined := 82
  TNode := 85
  TNodeS := 92
  TNE := 92
  h_joined := has_of (by kernel_rfl)
  h_TNode := Tryz.underlying85
  sf := {
    len64 := 42
    lz := 74
    rows := 14
    may := 73
    begin_ := 43
    row := 44
    parent := 71
    left := 36
    sibling := 40
    root := 16
    h_len64 := has_of (by kernel_rfl)
    h_lz := has_of (by kernel_rfl)
    h_rows := has_of (by kernel_rfl)
    h_may := has_of (by kernel_rfl)
    h_begin := has_of (by kernel_rfl)
    h_row := has_of (by kernel_rfl)
    h_parent := has_of (by kernel_rfl)
    h_left := has_of (by kernel_rfl)
    h_sibling := has_of (by kernel_rfl)
    h_root := has_of (by kernel_rfl)
    nan := 87
    less := 96
    h_nan := has_of (by kernel_rfl)
    h_less := has_of (by kernel_rfl)
  }
  snan := 97
  bins := 77
  without := 78
  h_snan := has_of (by kernel_rfl)
  h_bins := has_of (by kernel_rfl)
  h_without := has_of (by kernel_rfl)
  size := 34
  cloneT := 46
  deleted := 49
  TTree := 87
  TSl := 61
  TSe := 87
  TCl := 87
  TDel := 87
  h_size := has_of (by kernel_rfl)
  h_cloneT := has_of (by kernel_rfl)
  h_TSl := Tryz.underlying61
  h_deleted := has_of (by kernel_rfl)
  grown := 52
  TGH := 39
  TGN := 92
  TGT := 87
  h_grown := has_of (by kernel_rfl)
  is' := 30
  going := 31
  coming := 48
  TPF := 24
  TPE := 79
  TMp := 62
  TMK := 39
  TME := 35
  TH := 39
  h_is := has_of (by kernel_rfl)
  h_TPF := Tryz.underlying24
  h_TMp := Tryz.underlying62
  h_going := has_of (by kernel_rfl)
  h_coming := has_of (by kernel_rfl)
  h_TH := tyHash
  nf := {
    len64 := 42
    lz := 74
    rows := 14
    may := 73
    begin_ := 43
    row := 44
    parent := 71
    left := 36
    sibling := 40
    root := 16
    h_len64 := has_of (by kernel_rfl)
    h_lz := has_of (by kernel_rfl)
    h_rows := has_of (by kernel_rfl)
    h_may := has_of (by kernel_rfl)
    h_begin := has_of (by kernel_rfl)
    h_row := has_of (by kernel_rfl)
    h_parent := has_of (by kernel_rfl)
    h_left := has_of (by kernel_rfl)
    h_sibling := has_of (by kernel_rfl)
    h_root := has_of (by kernel_rfl)
    up1 := 75
    up := 45
    way := 18
    tree := 69
    T1 := 35
    T2 := 3
    T3 := 29
    h_up1 := has_of (by kernel_rfl)
    h_up := has_of (by kernel_rfl)
    h_way := has_of (by kernel_rfl)
    h_tree := has_of (by kernel_rfl)
    values1 := 109
    values := 94
    needUp := 70
    made := 38
    isRoot := 39
    keys1 := 95
    keys' := 72
    appendSeq := 98
    collect := 79
    sort := 80
    sorted := 50
    rising := 41
    need := 13
    TS := 29
    TM := 97
    TP := 94
    TE := 32
    TPl := 100
    h_values1 := has_of (by kernel_rfl)
    h_values := has_of (by kernel_rfl)
    h_needUp := has_of (by kernel_rfl)
    h_made := has_of (by kernel_rfl)
    h_isRoot := has_of (by kernel_rfl)
    h_keys1 := has_of (by kernel_rfl)
    h_keys := has_of (by kernel_rfl)
    h_appendSeq := has_of (by kernel_rfl)
    h_collect := has_of (by kernel_rfl)
    h_sort := sort_ok sortAll
    h_sorted := has_of (by kernel_rfl)
    h_rising := has_of (by kernel_rfl)
    h_need := has_of (by kernel_rfl)
    hU := Tryz.underlying35
  }
  copyM := 83
  change := 53
  valsH1 := 81
  valsH := 51
  TVm := 62
  h_copyM := has_of (by kernel_rfl)
  h_change := has_of (by kernel_rfl)
  h_valsH1 := has_of (by kernel_rfl)
  h_valsH := has_of (by kernel_rfl)
  modify := 21
  TUn := 64
  TMH := 39
  h_modify := has_of (by kernel_rfl)
  new' := 19
  root' := 35
  rows' := 37
  index := 32
  where1 := 33
  TFo := 79
  TRt := 87
  TW1 := 87
  h_new := has_of (by kernel_rfl)
  h_root := has_of (by kernel_rfl)
  h_rows := has_of (by kernel_rfl)
  h_index := has_of (by kernel_rfl)
  h_where1 := has_of (by kernel_rfl)
  where' := 10
  TWu := 35
  h_where := has_of (by kernel_rfl)
  stump := 12
  TStu := 43
  TSt1 := 87
  TSt2 := 55
  h_stump := has_of (by kernel_rfl)
  keysH1 := 86
  keysH := 56
  appH := 101
  collH := 84
  sortH := 85
  sortedH := 55
  isNaN := 87
  cmpU := 58
  leaves1 := 57
  leaves := 25
  TKm := 62
  TSH := 23
  TLv := 24
  h_keysH1 := has_of (by kernel_rfl)
  h_keysH := has_of (by kernel_rfl)
  h_appH := has_of (by kernel_rfl)
  h_collH := has_of (by kernel_rfl)
  h_sortH := sortH
  h_sortedH := has_of (by kernel_rfl)
  h_isNaN := has_of (by kernel_rfl)
  h_cmpU := has_of (by kernel_rfl)
  h_leaves1 := has_of (by kernel_rfl)
  h_leaves := has_of (by kernel_rfl)
  has := 24
  cut := 8
  same := 54
  TSm := 43
  TRo := 55
  h_has := has_of (by kernel_rfl)
  h_cut := has_of (by kernel_rfl)
  h_same := has_of (by kernel_rfl)
  h_TRo := tyRoot
  works := 11
  TWo := 64
  TWs := 43
  h_works := has_of (by kernel_rfl)
  told := 7
  TT1 := 64
  TT2 := 4
  h_told := has_of (by kernel_rfl)
  undo := 23
  TUo := 64
  h_undo := has_of (by kernel_rfl)
  h_TPE := info_of (by kernel_rfl)
  mclone := 76
  cloneM := 47
  copy := 20
  TIf := 20
  TCp := 79
  h_mclone := ⟨_, Tryz.func76, by kernel_rfl, by kernel_rfl, by kernel_rfl, by kernel_rfl⟩
  h_cloneM := has_of (by kernel_rfl)
  h_copy := has_of (by kernel_rfl)
  isLeft := 63
  back1 := 88
  back := 61
  node1 := 89
  node := 64
  atF := 27
  TBk := 29
  TN1 := 87
  TNi := 3
  h_isLeft := has_of (by kernel_rfl)
  h_back1 := has_of (by kernel_rfl)
  h_back := has_of (by kernel_rfl)
  h_node1 := has_of (by kernel_rfl)
  h_node := has_of (by kernel_rfl)
  h_at := has_of (by kernel_rfl)
  equal := 22
  TBo := 4
  h_equal := has_of (by kernel_rfl)
  h_TBo := Tryz.underlying4
  emptied := 62
  gone := 60
  asked := 59
  moved := 26
  TMq := 94
  TMb := 4
  h_emptied := has_of (by kernel_rfl)
  h_gone := has_of (by kernel_rfl)
  h_asked := has_of (by kernel_rfl)
  h_moved := has_of (by kernel_rfl)
  lmoves := 5
  TLm1 := 35
  TLm2 := 64
  h_lmoves := has_of (by kernel_rfl)
end Go.Proofs.YtgkfgclebdikgaaGreatDoor

namespace Go.Sp
open Go.Deep Go.ChangeShapes
section
variable {H : Type} {enc : TypeId × Value → H} {P : Program} {w : World} {base : Nat} {sp : Nat → Bool} {held : Bool} {fuel : Nat} {cs : List Value} {x : DataW H × List MemPlace}
theorem u8_wf {n : Int} (h : (Lit.int .u8 n).wf = true) : 0 ≤ n ∧ n < 256 := by
  simp [Lit.wf, IntKind.min, IntKind.max, IntKind.signed, IntKind.bits] at h
  omega
theorem hash_read {TH e : TypeId} (hT : P.underlying TH = some (.array 32 e)) (he : P.underlying e = some (.int .u8)) (ce : P.cellsOf e = 1) (cT : P.cellsOf TH = 32) (h : DataW.trod enc P w base sp held fuel TH cs = some x) : ∃ hh : Hash, cs = hC hh := by
  cases fuel with
  | zero => cases h
  | succ fuel =>
    simp only [DataW.trod, hT] at h
    split at h
    · rename_i hl
      rw [cT] at hl
      obtain ⟨xs, hxs, _⟩ := Option.map_eq_some_iff.1 h
      have each : ∀ j, j < 32 → ∃ b : UInt8, cs[j]? = some (byteV b) := by
        intro j hj
        obtain ⟨y, hy, hf⟩ := Go.Lib.mapM_at hxs j j (by simp [hj])
        obtain ⟨n, hc, _, hw⟩ := DataW.trod_int he hf
        obtain ⟨n0, n1⟩ := u8_wf hw
        refine ⟨UInt8.ofNat n.toNat, ?_⟩
        rw [ce] at hc
        have h1 : cs[j]? = some (.int .u8 n) := by
          have := congrArg (·[0]?) hc
          simpa [List.getElem?_take, List.getElem?_drop] using this
        rw [h1]
        congr 1
        simp only [byteV, UInt8.toNat_ofNat', Value.int.injEq, true_and]
        omega
      obtain ⟨f, hf⟩ := choose_lt (α := UInt8) (n := 32) (p := fun j b => cs[j]? = some (byteV b)) each
      refine ⟨⟨(List.range 32).map f, by simp⟩, ?_⟩
      apply List.ext_getElem?
      intro j
      simp only [hC, List.getElem?_map]
      by_cases hj : j < 32
      · rw [hf j hj]; simp [hj]
      · rw [List.getElem?_eq_none (by omega)]; simp [hj]
    · cases h
theorem spot_none {a : Addr} {v : Value} (h : w.cell? a = some v) : a.spot = none := by
  unfold World.cell? at h
  split at h
  · split at h
    · cases h
    · rename_i hs; simpa using hs
  · cases h
theorem hashes_read {TS TH e : TypeId} (hS : P.underlying TS = some (.slice TH)) (hT : P.underlying TH = some (.array 32 e)) (he : P.underlying e = some (.int .u8)) (ce : P.cellsOf e = 1) (cT : P.cellsOf TH = 32)
    (h : DataW.trod enc P w base sp held fuel TS cs = some x) : ∃ v l, cs = [v] ∧ SlC w v 32 l.length (hs l) := by
  rcases open_slice hS h with ⟨rfl, _⟩ | ⟨a, len, cap, m, n, D, Pl, rfl, hb, hl, hm, hmm, _, hx⟩
  · exact ⟨_, [], rfl, .inl ⟨.inl rfl, rfl, rfl⟩⟩
  have hlm : len ≤ m := by rw [hmm]; split <;> omega
  have each : ∀ i, i < len → ∃ hh : Hash, w.cells? base (a.add (i * 32)) 32 = some (hC hh) := by
    intro i hi
    obtain ⟨cs', h1, h2⟩ := hx i (by omega)
    rw [cT] at h1
    obtain ⟨hh, rfl⟩ := hash_read hT he ce cT h2
    exact ⟨hh, h1⟩
  have : Inhabited Hash := ⟨zH⟩
  obtain ⟨f, hf⟩ := choose_lt each
  refine ⟨_, (List.range len).map f, rfl, ?_⟩
  have hlen : ((List.range len).map f).length = len := by simp
  rw [hlen]
  obtain ⟨b, o, s⟩ := a
  rcases Nat.eq_zero_or_pos len with h0 | h0
  · subst h0
    cases s with
    | none => exact .inr ⟨b, o, cap, rfl, fun i v hi => by simp [hs] at hi, by simp [hs], hl⟩
    | some s => exact .inl ⟨.inr ⟨b, o, s, cap, rfl⟩, rfl, by simp [hs]⟩
  · have hs0 : s = none := by
      obtain ⟨_, _, hc⟩ := World.cells?_some (hf 0 h0)
      have := hc 0 (by omega)
      rw [List.getElem?_eq_getElem (by rw [hC_length]; omega)] at this
      have := spot_none this
      simpa [Addr.add] using this
    subst hs0
    refine .inr ⟨b, o, cap, rfl, fun k v hk => ?_, by rw [hs_len, hlen], hl⟩
    have hk2 : k < len * 32 := by
      have := (List.getElem?_eq_some_iff.1 hk).1
      rw [hs_len, hlen] at this; exact this
    obtain ⟨_, _, hc⟩ := World.cells?_some (hf (k / 32) (by omega))
    have h1 := hc (k % 32) (Nat.mod_lt _ (by omega))
    have h2 : (hs ((List.range len).map f))[k / 32 * 32 + k % 32]? = (hC (f (k / 32)))[k % 32]? := by
      obtain ⟨u, hu⟩ : ∃ u, (hC (f (k / 32)))[k % 32]? = some u := ⟨_, List.getElem?_eq_getElem (by rw [hC_length]; exact Nat.mod_lt _ (by omega))⟩
      rw [hu]
      exact hs_get _ _ _ (f (k / 32)) u (by simp [show k / 32 < len by omega]) hu
    rw [show k / 32 * 32 + k % 32 = k by omega, hk] at h2
    rw [← h2, add_add, show k / 32 * 32 + k % 32 = k by omega] at h1
    by_cases hk0 : k = 0
    · subst hk0; simpa [Addr.add] using h1
    · simpa [Addr.add, hk0] using h1
theorem flat_len {g : Nat → List Value} {n : Nat} (hg : ∀ i, (g i).length = n) : ∀ len, ((List.range len).flatMap g).length = len * n := by
  intro len
  induction len with
  | zero => simp
  | succ len ih => rw [List.range_succ, List.flatMap_append, List.length_append, ih]; simp [hg, Nat.succ_mul]
theorem flat_get {g : Nat → List Value} {n : Nat} (hg : ∀ i, (g i).length = n) : ∀ len i j, i < len → j < n → ((List.range len).flatMap g)[i * n + j]? = (g i)[j]? := by
  intro len
  induction len with
  | zero => intro i j h; omega
  | succ len ih =>
    intro i j hi hj
    rw [List.range_succ, List.flatMap_append]
    have hl := flat_len hg len
    rcases Nat.lt_or_ge i len with h | h
    · have : i * n + j < len * n := by
        have := Nat.mul_le_mul_right n (show i + 1 ≤ len from h)
        rw [Nat.add_mul, Nat.one_mul] at this; omega
      rw [List.getElem?_append_left (by omega)]
      exact ih i j h hj
    · have : i = len := by omega
      subst this
      rw [List.getElem?_append_right (by omega), hl, Nat.add_sub_cancel_left]
      simp
/-- a parameter's types: steps -/
structure TyActs (P : Program) (TA TAct TS TH e : TypeId) : Prop where
  a : P.underlying TA = some (.slice TAct)
  act : ∃ f0 f1 f2, P.underlying TAct = some (.struct #[f0, f1, f2]) ∧ f1.type = TS ∧ f1.offset = 1 ∧ f2.type = TS ∧ f2.offset = 2
  s : P.underlying TS = some (.slice TH)
  h : P.underlying TH = some (.array 32 e)
  u : P.underlying e = some (.int .u8)
  ce : P.cellsOf e = 1
  cT : P.cellsOf TH = 32
  cS : P.cellsOf TS = 1
  cA : P.cellsOf TAct = 3
theorem acts_read {TA TAct TS TH e : TypeId} (T : TyActs P TA TAct TS TH e) (h : DataW.trod enc P w base sp held fuel TA cs = some x) : ∃ v l, cs = [v] ∧ ActsAt w v l := by
  rcases open_slice T.a h with ⟨rfl, _⟩ | ⟨a, len, cap, m, n, D, Pl, rfl, hb, hl, hm, hmm, _, hx⟩
  · exact ⟨_, [], rfl, [], .inl ⟨.inl rfl, rfl, rfl⟩, fun i a h => by simp at h⟩
  have hlm : len ≤ m := by rw [hmm]; split <;> omega
  obtain ⟨f0, f1, f2, hA, t1, o1, t2, o2⟩ := T.act
  have each : ∀ i, i < len → ∃ q : Value × Value × Value × List Hash × List Hash, w.cells? base (a.add (i * 3)) 3 = some [q.1, q.2.1, q.2.2.1] ∧ SlC w q.2.1 32 q.2.2.2.1.length (hs q.2.2.2.1) ∧ SlC w q.2.2.1 32 q.2.2.2.2.length (hs q.2.2.2.2) := by
    intro i hi
    obtain ⟨cs', h1, h2⟩ := hx i (by omega)
    rw [T.cA] at h1
    obtain ⟨_, hlen, _⟩ := World.cells?_some h1
    obtain ⟨xs, k, _, _, _, hxl, hf⟩ := DataW.trod_struct hA h2
    match xs, hxl, cs', hlen with
    | [y0, y1, y2], _, [v0, v1, v2], _ =>
      have g1 := hf 1 f1 rfl
      have g2 := hf 2 f2 rfl
      simp [o1, o2, t1, t2, T.cS] at g1 g2
      obtain ⟨u1, l1, e1, s1⟩ := hashes_read T.s T.h T.u T.ce T.cT g1
      obtain ⟨u2, l2, e2, s2⟩ := hashes_read T.s T.h T.u T.ce T.cT g2
      cases e1; cases e2
      exact ⟨(v0, v1, v2, l1, l2), h1, s1, s2⟩
  obtain ⟨q, hq⟩ := choose_lt each
  refine ⟨_, (List.range len).map fun i => ((q i).2.2.2.1, (q i).2.2.2.2), rfl, (List.range len).flatMap fun i => [(q i).1, (q i).2.1, (q i).2.2.1], ?_, ?_⟩
  · have hll : ((List.range len).map fun i => ((q i).2.2.2.1, (q i).2.2.2.2)).length = len := by simp
    rw [hll]
    have hg : ∀ i, ([(q i).1, (q i).2.1, (q i).2.2.1] : List Value).length = 3 := fun _ => rfl
    have hfl := flat_len hg len
    obtain ⟨b, o, s⟩ := a
    rcases Nat.eq_zero_or_pos len with h0 | h0
    · subst h0
      cases s with
      | none => exact .inr ⟨b, o, cap, rfl, fun i v hi => by simp at hi, by simp, hl⟩
      | some s => exact .inl ⟨.inr ⟨b, o, s, cap, rfl⟩, rfl, by simp⟩
    · have hs0 : s = none := by
        obtain ⟨_, _, hc⟩ := World.cells?_some (hq 0 h0).1
        have := spot_none ((hc 0 (by omega)).trans rfl)
        simpa [Addr.add] using this
      subst hs0
      refine .inr ⟨b, o, cap, rfl, fun k v hk => ?_, hfl, hl⟩
      have hk2 : k < len * 3 := by
        have := (List.getElem?_eq_some_iff.1 hk).1
        omega
      obtain ⟨_, _, hc⟩ := World.cells?_some (hq (k / 3) (by omega)).1
      have h1 := hc (k % 3) (Nat.mod_lt _ (by omega))
      have h2 := flat_get hg len (k / 3) (k % 3) (by omega) (Nat.mod_lt _ (by omega))
      rw [show k / 3 * 3 + k % 3 = k by omega, hk] at h2
      rw [← h2, add_add, show k / 3 * 3 + k % 3 = k by omega] at h1
      by_cases hk0 : k = 0
      · subst hk0; simpa [Addr.add] using h1
      · simpa [Addr.add, hk0] using h1
  · intro i a hi
    have hg : ∀ i, ([(q i).1, (q i).2.1, (q i).2.2.1] : List Value).length = 3 := fun _ => rfl
    have hil : i < len := by have := (List.getElem?_eq_some_iff.1 hi).1; simpa using this
    have ha : a = ((q i).2.2.2.1, (q i).2.2.2.2) := by simpa [hil] using hi.symm
    subst ha
    obtain ⟨_, s1, s2⟩ := hq i hil
    exact ⟨(q i).1, (q i).2.1, (q i).2.2.1, flat_get hg len i 0 hil (by omega), flat_get hg len i 1 hil (by omega), flat_get hg len i 2 hil (by omega), s1, s2⟩
end
end Go.Sp

namespace Go.Proofs.YtgkfgclebdikgaaGreatDoor.forestMoves
open Go.ChangeShapes Go.WideShapes Go.ChangeAt Go.RowKit Go.Sp
theorem own : ownKnob Tryz.prog.godebug = none := by kernel_rfl
theorem laidOut : laidOutB Tryz.prog = true := by kernel_rfl
theorem tyActs : TyActs Tryz.prog 22 68 23 39 5 where
  a := Tryz.underlying22
  act := ⟨_, _, _, Tryz.underlying68, rfl, rfl, rfl, rfl⟩
  s := Tryz.underlying23
  h := Tryz.underlying39
  u := Tryz.underlying5
  ce := by kernel_rfl
  cT := by kernel_rfl
  cS := by kernel_rfl
  cA := by kernel_rfl
theorem ce1h : Tryz.prog.cellsOf 5 = 1 := by kernel_rfl
theorem cT1h : Tryz.prog.cellsOf 39 = 32 := by kernel_rfl
theorem g0 : Tryz.prog.globalNamed "spinney/sha512.first" = some 0 := by kernel_rfl
theorem g1 : Tryz.prog.globalNamed "spinney/sha512.constants" = some 1 := by kernel_rfl
theorem gt0 : (Tryz.prog.globals[0]?).map (·.type) = some 151 := by kernel_rfl
theorem gt1 : (Tryz.prog.globals[1]?).map (·.type) = some 184 := by kernel_rfl
theorem ceU : Tryz.prog.cellsOf 35 = 1 := by kernel_rfl
theorem ceG0 : Tryz.prog.cellsOf 151 = 8 := by kernel_rfl
theorem ceG1 : Tryz.prog.cellsOf 184 = 80 := by kernel_rfl
def zs (l : List Nat) : List Int := l.map Int.ofNat
theorem mem_of_tab {P : Program} {W : World} {name : String} {l : List Nat} {g : Nat} (h : Go.Lib.TabIs P W name .u64 (zs l)) (hg : P.globalNamed name = some g) : Mem W g 0 (l.map u64V) := by
  intro i v hi
  rw [List.getElem?_map] at hi
  cases hl : l[i]? with
  | none => rw [hl] at hi; cases hi
  | some n =>
    rw [hl] at hi
    have hv : v = u64V n := (Option.some.inj hi).symm
    subst hv
    have hlt := (List.getElem?_eq_some_iff.1 hl).1
    have := h.cell hg i (by simpa [zs] using hlt)
    rw [Nat.zero_add, this]
    simp [zs, List.getD, hl]
theorem lc : (Rows.laid_spinney_sha512_constants : DataW Unit) = Go.Lib.tabData .u64 (zs constW) := by kernel_rfl
theorem lf : (Rows.laid_spinney_sha512_first : DataW Unit) = Go.Lib.tabData .u64 (zs firstW) := by kernel_rfl
theorem laidMet_tail {P : Program} {W : World} {x : String × DataW Unit} {r : List (String × DataW Unit)} (h : laidMet P (x :: r) W) : laidMet P r W := by
  obtain ⟨n, d⟩ := x
  obtain ⟨ps, ⟨g, t, cs, fuel, p, q, _, _, _, _, hr, rfl⟩, hn, ha⟩ := h
  exact ⟨q, hr, hn.sublist (List.sublist_append_right _ _), fun b off hb => ha b off (List.mem_append_right _ hb)⟩
theorem tables {W : World} (h : laidMetH Tryz.prog Rows.forestMovesRow.laid W) : Tabs facts.toShaF W := by
  have h' : laidMet Tryz.prog [("spinney/sha512.constants", Rows.laid_spinney_sha512_constants), ("spinney/sha512.first", Rows.laid_spinney_sha512_first)] W := h
  rw [lc, lf] at h'
  exact ⟨mem_of_tab (Go.Lib.tabIs_of_head g0 gt0 Tryz.underlying151 Tryz.underlying35 ceU ceG0 (laidMet_tail h')) g0, mem_of_tab (Go.Lib.tabIs_of_head g1 gt1 Tryz.underlying184 Tryz.underlying35 ceU ceG1 h') g1⟩
theorem okWide_slice {P : Program} {w : World} {r : Reach} {base : Nat} {t e : TypeId} {v : Value} (ht : P.underlying t = some (.slice e)) (h : Value.okWide P w r base t v) : ∃ a l c, v = .slice a l c := by
  simp only [Value.okWide, ht, Cell.okWide, Cell.ok] at h
  cases v <;> simp_all
theorem below_of {W W' : World} (h : Ext W W') : Below W.heap.size W W' := ⟨h.os, h.tape, h.output, h.size, fun k hk => h.block k hk (by simp)⟩
set_option maxRecDepth 100000 in
/-- what the walk gives, for every argument and every world that holds the tables -/
theorem contract (H : Type) (enc : TypeId × Value → H) (W : World) (base : Nat) (args : Array Value) (ds gs : List (DataW H)) (before : List MemPlace)
    (hval : ∀ (j : Nat) t v, Tryz.f5.params[j]? = some t → args[j]? = some v → Value.okWide Tryz.prog W .any base t v)
    (hW : DataW.Whole enc Tryz.prog Tryz.f5.params.toList Rows.forestMovesSpec.vars false W args.toList ds gs before) (hL : laidMetH Tryz.prog Rows.forestMovesRow.laid W) :
    Calls Tryz.prog 5 args W fun e W' => ∃ v, e = .returned v ∧ Rows.forestMovesSpec.post enc Tryz.prog Tryz.f5 false true false false W args v W' := by
  have hW' := hW
  obtain ⟨p, q, hA0, hV, rfl, hfz, hnd⟩ := hW
  have hA : DataW.TrodAll enc Tryz.prog W 0 (fun _ => true) true Tryz.f5.params.toList args.toList ds p := hA0
  rw [Tryz.params5] at hA hval
  obtain ⟨v0, vs0, d0, ds0, p0, q0, a0, rfl, rfl, h0, r0⟩ := trodAll_cons hA
  obtain ⟨v1, vs1, d1, ds1, p1, q1, a1, rfl, rfl, h1, r1⟩ := trodAll_cons r0
  obtain ⟨rfl, rfl, rfl⟩ := trodAll_nil r1
  subst a1
  obtain rfl : args = #[v0, v1] := Array.toList_inj.1 a0
  obtain ⟨rfl, rfl⟩ := trodVars_none hV
  clear hA0
  simp only [List.append_nil] at hW'
  have h0k := h0
  have h1k := h1
  obtain ⟨ad0, ln0, cp0, rfl⟩ := okWide_slice Tryz.underlying22 (hval 0 22 v0 (by simp) (by simp))
  obtain ⟨ad1, ln1, cp1, rfl⟩ := okWide_slice Tryz.underlying23 (hval 1 23 v1 (by simp) (by simp))
  have hlt : ∀ x ∈ p0 ++ (p1 ++ []), x.block < W.heap.size := fun x hx => by simpa using hW'.lt x (by simpa using hx)
  obtain ⟨f0, g0⟩ := h0
  obtain ⟨u0, l0, e0, y0⟩ := acts_read tyActs g0
  cases e0
  obtain ⟨f1, g1⟩ := h1
  obtain ⟨u1, l1, e1, y1⟩ := hashes_read Tryz.underlying23 Tryz.underlying39 Tryz.underlying5 ce1h cT1h g1
  cases e1
  have walk : Calls Tryz.prog 5 _ W fun e w' => ∃ v, e = .returned v ∧ (v = .bool true ∧ Ext W w') := lmoves_ok facts (tables hL) y0 y1
  refine walk.mono fun e W' ⟨v, he, hv, hu⟩ => ?_
  subst hv
  subst he
  have hb := below_of hu
  exact ⟨_, rfl, _, _, _, [], p0 ++ (p1 ++ []), [], hW', trodAll_cons_mk (shut_bool Tryz.underlying4 _) trodAll_mk0, (trodAll_cons_mk (Below.trod laidOut (by kernel_rfl) (of_decide_eq_true (by kernel_rfl)) h0k hb fun x hx => hlt x (by simp [hx])) (trodAll_cons_mk (Below.trod laidOut (by kernel_rfl) (of_decide_eq_true (by kernel_rfl)) h1k hb fun x hx => hlt x (by simp [hx])) trodAll_mk0)), rfl, hb.frame _, fun h => by cases h⟩
noncomputable def laidWorld (os : Os) : World := World.laidAll Tryz.prog os Rows.forestMovesRow.laid
theorem laid_met (os : Os) : laidMet Tryz.prog Rows.forestMovesRow.laid ((laidWorld os).forCall (fun _ _ => 0) ⟨#[], #[.slice none 0 0, .slice none 0 0], []⟩).memory :=
  laidMet_laidAll _ (by kernel_rfl) (by kernel_rfl)
theorem reads (os : Os) {H : Type} (enc : TypeId × Value → H) : ∃ places, DataW.whole enc Tryz.prog ((laidWorld os).forCall (fun _ _ => 0) ⟨#[], #[.slice none 0 0, .slice none 0 0], []⟩).memory Tryz.f5.params.toList Rows.forestMovesSpec.vars false #[Value.slice none 0 0, Value.slice none 0 0].toList 8 = some ([.nil, .nil], [], places) :=
  ⟨[], by kernel_rfl⟩
set_option maxRecDepth 100000 in
theorem lifted (os : Os) (started : os.Started) (H : Type) (enc : TypeId × Value → H) (F : Stop.Interp) :
    ReturnsInHanded {} Tryz.checked os 5 .any ((OpenSpec.ofChange Rows.forestMovesSpec).preRow enc Tryz.prog Tryz.f5 Rows.forestMovesRow.domain false Rows.forestMovesRow.laid) (((OpenSpec.ofChange Rows.forestMovesSpec).at F).post enc Tryz.prog Tryz.f5 false true false false) := by
  obtain ⟨places, hx⟩ := reads os enc
  refine returnsInHanded_of_row (C := Tryz.checked) (s := OpenSpec.ofChange Rows.forestMovesSpec) own started (by kernel_rfl) Tryz.func5
    (witness_row_at (enc := enc) (C := Tryz.checked) false (laidWorld os) #[.slice none 0 0, .slice none 0 0] rfl (by kernel_rfl) (by kernel_rfl) (by kernel_rfl)
      (OpenSpec.preRow_of_cond 8 hx (by kernel_rfl) (fun k hk => by cases hk) (by kernel_rfl) (laid_met os))) ?_
  intro W base args ds gs before hval hW _ _ _ hL _ _
  exact contract H enc W base args ds gs before hval hW hL
theorem said : Rows.ForestMovesSaid :=
  OpenClaim.holds_of_cond 5 Tryz.f5 rfl rfl rfl rfl rfl rfl rfl ⟨rfl, rfl, rfl, rfl, rfl⟩ rfl rfl rfl rfl rfl (by kernel_rfl) Tryz.func5 (by kernel_rfl)
    (of_decide_eq_true (by kernel_rfl)) (by unfold Func.isWrapper; first | (rw [if_pos (by decide +kernel)]; kernel_rfl) | (rw [if_neg (by decide +kernel)]; exact ⟨rfl, rfl⟩))
    (fun os started H enc _ F => by rw [OpenClaim.pre_eq_preRow]; exact lifted os started H enc F)
theorem plain (f : FuncId) (fn : Func) (hf : Tryz.pinned.checked.prog.funcNamed "spinney/spinneylaw14.ForestMoves" = some f) (hfn : Tryz.pinned.checked.prog.funcs[f]? = some fn) :
    true = Tryz.pinned.checked.prog.looks [] ∧ ∀ (j : Nat) t, fn.params[j]? = some t → Tryz.pinned.checked.prog.wantsStandIn t = false := by
  obtain rfl : f = 5 := Option.some.inj ((show Tryz.prog.funcNamed "spinney/spinneylaw14.ForestMoves" = some 5 by kernel_rfl).symm.trans hf) |>.symm
  obtain rfl : fn = Tryz.f5 := (Option.some.inj (Tryz.func5.symm.trans hfn)).symm
  refine ⟨by kernel_rfl, fun j t ht => ?_⟩
  rw [Tryz.params5] at ht
  have hm := Array.mem_of_getElem? ht
  simp only [List.mem_toArray, List.mem_cons, List.not_mem_nil, or_false] at hm
  rcases hm with rfl | rfl
  · exact (show Tryz.prog.wantsStandIn 22 = false by kernel_rfl)
  · exact (show Tryz.prog.wantsStandIn 23 = false by kernel_rfl)
/-- THE CARD. -/
theorem card : Rows.ForestMovesCardSaid :=
  Claim7.holds_tied_plain_at .later [] _ _ _ _ said (fun _ h => by cases h) (by kernel_rfl) (fun _ h => by cases h) forestMoves_row_tie rfl ⟨rfl, rfl⟩ (by kernel_rfl) rfl plain (by kernel_rfl)
end Go.Proofs.YtgkfgclebdikgaaGreatDoor.forestMoves
