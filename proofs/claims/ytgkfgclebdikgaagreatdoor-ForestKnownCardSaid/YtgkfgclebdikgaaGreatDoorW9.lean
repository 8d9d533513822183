/- spinneylaw14.ForestKnown returns true for every input, and its arguments read afterwards as before: the card. No condition. This text: part 9 of 10. -/
import Derived.Test.YtgkfgclebdikgaaGreatDoorW8
set_option linter.unusedVariables false
set_option linter.unusedSimpArgs false
set_option linter.unusedSectionVars false
namespace Go.Sp
open Go.Sort (order2 median medianAdjacent choosePivot Hint)
def hintN : Hint → Nat
  | .unknown => 0
  | .increasing => 1
  | .decreasing => 2
section
variable {P : Program} {f : Nat} {w : World} (A : SortF P)
theorem order2_ok (h : Has P f (b_slices_order2Ordered_uint64 A.less)) {b n cap x y s bs : Nat} {d : Array Nat} {rest : List Value} (hB : Blk w b (row d rest)) (hS : Blk w bs [intV' s]) (hd : d.size = n) (hx : x < n) (hy : y < n) (hn : n < 2 ^ 40) (hs : s < 2 ^ 40) :
    Ret P f [slV b n cap, intV' x, intV' y, ptrV bs] w fun v w' => v = .tuple #[intV' (order2 ltN d x y s).1, intV' (order2 ltN d x y s).2.1] ∧ Blk w' bs [intV' (order2 ltN d x y s).2.2] ∧ Upd [bs] w w' := by
  refine Ret.of_exec h (Nat.le_of_ble_eq_true rfl) fun c hc => ?_
  dsimp only [b_slices_order2Ordered_uint64, argEnv, ym, yo, yg, ys, yt, yd, ye]
  refine xr 2 rfl ?_
  refine exec_dw [] rfl rfl rfl ?_
  repeat (first | refine dau rfl (fun _ => rfl) ?_ | refine dga rfl (fun _ => rfl) (fun _ => rfl) ?_ | refine dgs (fun _ => rfl) ?_)
  refine dw_keep _ (fun vs W' hu _ => ok_iaddr (b := b) (o := 0) (len := n) (cap := cap) rfl rfl (y) rfl (by omega)) ?_
  refine dw_keep (u64V d[y]!) (fun vs W' hu _ => ok_load1 (b := b) (o := 0 + (y) * 1) rfl ((hB.upd hu).cell (row_get (by omega)))) ?_
  repeat (first | refine dau rfl (fun _ => rfl) ?_ | refine dga rfl (fun _ => rfl) (fun _ => rfl) ?_ | refine dgs (fun _ => rfl) ?_)
  refine dw_keep _ (fun vs W' hu _ => ok_iaddr (b := b) (o := 0) (len := n) (cap := cap) rfl rfl (x) rfl (by omega)) ?_
  refine dw_keep (u64V d[x]!) (fun vs W' hu _ => ok_load1 (b := b) (o := 0 + (x) * 1) rfl ((hB.upd hu).cell (row_get (by omega)))) ?_
  refine dw_end fun vs W1 hu1 _ => ?_
  refine xca rfl rfl (less_ok A.h_nan A.h_less d[y]! d[x]!) ?_
  rintro v W2 ⟨rfl, hu2⟩
  have hu := hu1.trans hu2
  refine exec_cond rfl (fun hc1 => ?_) (fun hc1 => ?_)
  · refine xr 2 rfl ?_
    refine exec_load1 (b := bs) (o := 0) (v := intV' s) rfl rfl ((hS.upd hu).cell rfl) ?_
    refine xpu (pv_addI (a := s) (b := 1) rfl rfl (by omega)) rfl ?_
    refine xr 1 rfl ?_
    refine exec_store (b := bs) (o := 0) (v := intV' (s + 1)) rfl rfl (hS.upd hu) rfl (by simp) rfl ?_
    intro W3 hu3 _ hS3
    refine xr 4 rfl ?_
    refine xre hc [_, _] ⟨rfl, rfl, trivial⟩ ?_
    rw [order2, if_pos hc1]
    exact ⟨rfl, hS3, (hu.mono (by simp)).trans hu3 (by simp)⟩
  · refine xr 5 rfl ?_
    refine xre hc [_, _] ⟨rfl, rfl, trivial⟩ ?_
    rw [order2, if_neg (by rw [hc1]; simp)]
    exact ⟨rfl, hS.upd hu, hu.mono (by simp)⟩
theorem order2_lt {d : Array Nat} {n x y s : Nat} (hx : x < n) (hy : y < n) : (order2 ltN d x y s).1 < n ∧ (order2 ltN d x y s).2.1 < n ∧ (order2 ltN d x y s).2.2 ≤ s + 1 := by
  unfold order2
  split <;> exact ⟨by assumption, by assumption, by simp⟩
theorem median_ok {g : Nat} (h2 : Has P g (b_slices_order2Ordered_uint64 A.less)) (h : Has P f (b_slices_medianOrdered_uint64 g)) {b n cap x y z s bs : Nat} {d : Array Nat} {rest : List Value} (hB : Blk w b (row d rest)) (hS : Blk w bs [intV' s]) (hd : d.size = n) (hx : x < n) (hy : y < n) (hz : z < n) (hn : n < 2 ^ 40) (hs : s < 2 ^ 30) (hne : b ≠ bs) :
    Ret P f [slV b n cap, intV' x, intV' y, intV' z, ptrV bs] w fun v w' => v = intV' (median ltN d x y z s).1 ∧ Blk w' bs [intV' (median ltN d x y z s).2] ∧ Upd [bs] w w' := by
  refine Ret.of_exec h (Nat.le_of_ble_eq_true rfl) fun c hc => ?_
  dsimp only [b_slices_medianOrdered_uint64, argEnv, ym, yo, yg, ys, yt, yd, ye]
  refine xr 5 rfl ?_
  refine xca rfl rfl (order2_ok A h2 hB hS hd hx hy hn (by omega)) ?_
  rintro v W1 ⟨rfl, hS1, hu1⟩
  obtain ⟨l1, l2, l3⟩ := order2_lt (d := d) (s := s) hx hy
  have hB1 := hB.upd hu1 (by simp; exact hne)
  refine xr 9 rfl ?_
  refine xca rfl rfl (order2_ok A h2 hB1 hS1 hd l2 hz hn (by omega)) ?_
  rintro v W2 ⟨rfl, hS2, hu2⟩
  obtain ⟨m1, m2, m3⟩ := order2_lt (d := d) (s := (order2 ltN d x y s).2.2) l2 hz
  have hB2 := hB1.upd hu2 (by simp; exact hne)
  refine xr 9 rfl ?_
  refine xca rfl rfl (order2_ok A h2 hB2 hS2 hd l1 m1 hn (by omega)) ?_
  rintro v W3 ⟨rfl, hS3, hu3⟩
  refine xr 7 rfl ?_
  refine xre hc [_] ⟨rfl, trivial⟩ ⟨rfl, hS3, (hu1.trans hu2 (by simp)).trans hu3 (by simp)⟩
theorem median_lt {d : Array Nat} {n x y z s : Nat} (hx : x < n) (hy : y < n) (hz : z < n) : (median ltN d x y z s).1 < n ∧ (median ltN d x y z s).2 ≤ s + 3 := by
  obtain ⟨l1, l2, l3⟩ := order2_lt (d := d) (s := s) hx hy
  obtain ⟨m1, m2, m3⟩ := order2_lt (d := d) (s := (order2 ltN d x y s).2.2) l2 hz
  obtain ⟨k1, k2, k3⟩ := order2_lt (d := d) (s := (order2 ltN d (order2 ltN d x y s).2.1 z (order2 ltN d x y s).2.2).2.2) l1 m1
  unfold median
  exact ⟨k2, by simp only; omega⟩
theorem medianAdj_ok {g g2 : Nat} (h2 : Has P g (b_slices_order2Ordered_uint64 A.less)) (h3 : Has P g2 (b_slices_medianOrdered_uint64 g)) (h : Has P f (b_slices_medianAdjacentOrdered_uint64 g2)) {b n cap x s bs : Nat} {d : Array Nat} {rest : List Value} (hB : Blk w b (row d rest)) (hS : Blk w bs [intV' s]) (hd : d.size = n) (hx0 : 0 < x) (hx : x + 1 < n) (hn : n < 2 ^ 40) (hs : s < 2 ^ 30) (hne : b ≠ bs) :
    Ret P f [slV b n cap, intV' x, ptrV bs] w fun v w' => v = intV' (medianAdjacent ltN d x s).1 ∧ Blk w' bs [intV' (medianAdjacent ltN d x s).2] ∧ Upd [bs] w w' := by
  refine Ret.of_exec h (Nat.le_of_ble_eq_true rfl) fun c hc => ?_
  dsimp only [b_slices_medianAdjacentOrdered_uint64, argEnv, ym, yo, yg, ys, yt, yd, ye]
  refine xr 3 rfl ?_
  refine xpu (pv_subI (a := x) (b := 1) rfl rfl (by omega) (by omega)) rfl ?_
  refine xr 2 rfl ?_
  refine xpu (pv_addI (a := x) (b := 1) rfl rfl (by omega)) rfl ?_
  refine xr 1 rfl ?_
  refine xca rfl rfl (median_ok A h2 h3 hB hS hd (by omega) (by omega) (by omega) hn hs hne) ?_
  rintro v W1 ⟨rfl, hS1, hu1⟩
  refine xr 1 rfl ?_
  exact xre hc [_] ⟨rfl, trivial⟩ ⟨rfl, hS1, hu1⟩
theorem choosePivot_ok {g g2 g3 T : Nat} (h2 : Has P g (b_slices_order2Ordered_uint64 A.less)) (h3 : Has P g2 (b_slices_medianOrdered_uint64 g)) (h4 : Has P g3 (b_slices_medianAdjacentOrdered_uint64 g2)) (h : Has P f (b_slices_choosePivotOrdered_uint64 g3 g2 T))
    {b n cap x y : Nat} {d : Array Nat} {rest : List Value} (hB : Blk w b (row d rest)) (hd : d.size = n) (hxy : x + 12 < y) (hy : y ≤ n) (hn : n < 2 ^ 40) :
    Ret P f [slV b n cap, intV' x, intV' y] w fun v w' => v = .tuple #[intV' (choosePivot ltN d x y).1, intV' (hintN (choosePivot ltN d x y).2)] ∧ Ext w w' := by
  refine Ret.of_exec h (Nat.le_of_ble_eq_true rfl) fun c hc => ?_
  dsimp only [b_slices_choosePivotOrdered_uint64, argEnv, ym, yo, yg, ys, yt, yd, ye]
  refine xr 4 rfl ?_
  refine xpu (pv_subI (a := y) (b := x) rfl rfl (by omega) (by omega)) rfl ?_
  refine xr 1 rfl ?_
  refine exec_new rfl ?_
  intro bs W1 hbs hs1 hu1 hS1
  have hS : Blk W1 bs [intV' 0] := hS1
  have hlt := hB.lt
  have hne : b ≠ bs := by omega
  have hB1 := hB.upd hu1
  refine xr 2 rfl ?_
  refine xju (ok_quoI (a := y - x) (b := 4) rfl rfl (by omega) (by omega)) rfl ?_
  refine xpu (pv_mulI (a := (y - x) / 4) (b := 1) rfl rfl (by omega)) rfl ?_
  refine xpu (pv_addI (a := x) (b := (y - x) / 4 * 1) rfl rfl (by omega)) rfl ?_
  refine xr 3 rfl ?_
  refine xju (ok_quoI (a := y - x) (b := 4) rfl rfl (by omega) (by omega)) rfl ?_
  refine xpu (pv_mulI (a := (y - x) / 4) (b := 2) rfl rfl (by omega)) rfl ?_
  refine xpu (pv_addI (a := x) (b := (y - x) / 4 * 2) rfl rfl (by omega)) rfl ?_
  refine xr 3 rfl ?_
  refine xju (ok_quoI (a := y - x) (b := 4) rfl rfl (by omega) (by omega)) rfl ?_
  refine xpu (pv_mulI (a := (y - x) / 4) (b := 3) rfl rfl (by omega)) rfl ?_
  refine xpu (pv_addI (a := x) (b := (y - x) / 4 * 3) rfl rfl (by omega)) rfl ?_
  refine xr 2 rfl ?_
  refine xpu (pv_geqI (a := y - x) (b := 8) (q := true) rfl rfl (by simp; omega)) rfl ?_
  refine xr 2 rfl ?_
  refine xpu (pv_geqI (a := y - x) (b := 50) (q := decide (50 ≤ y - x)) rfl rfl rfl) rfl ?_
  refine exec_cond_join (S := Nat × Nat × Nat × Nat) (fun s W => Ext w W ∧ Blk W b (row d rest) ∧ Blk W bs [intV' s.2.2.2] ∧ s.2.2.2 < 20 ∧ s.1 < n ∧ s.2.1 < n ∧ s.2.2.1 < n ∧ (choosePivot ltN d x y = ((median ltN d s.1 s.2.1 s.2.2.1 s.2.2.2).1, if (median ltN d s.1 s.2.1 s.2.2.1 s.2.2.2).2 = 0 then .increasing else if (median ltN d s.1 s.2.1 s.2.2.1 s.2.2.2).2 = 12 then .decreasing else .unknown)))
    (fun s => [(0, slV b n cap), (10, intV' s.1), (11, intV' s.2.1), (12, intV' s.2.2.1), (9, ptrV bs)]) rfl (fun c50 => ?_) (fun c50 => ?_) ?_
  · simp only [decide_eq_true_eq] at c50
    refine xr 2 rfl ?_
    refine xca rfl rfl (medianAdj_ok A h2 h3 h4 hB1 hS hd (by omega) (by omega) hn (by omega) hne) ?_
    rintro v W2 ⟨rfl, hS2, hu2⟩
    have hB2 := hB1.upd hu2 (by simp; exact hne)
    obtain ⟨i1, i2⟩ := median_lt (d := d) (n := n) (x := x + (y - x) / 4 * 1 - 1) (y := x + (y - x) / 4 * 1) (z := x + (y - x) / 4 * 1 + 1) (s := 0) (by omega) (by omega) (by omega)
    refine xr 3 rfl ?_
    refine xca rfl rfl (medianAdj_ok A h2 h3 h4 hB2 hS2 hd (by omega) (by omega) hn (by show (median _ _ _ _ _ _).2 < _; omega) hne) ?_
    rintro v W3 ⟨rfl, hS3, hu3⟩
    have hB3 := hB2.upd hu3 (by simp; exact hne)
    obtain ⟨j1, j2⟩ := median_lt (d := d) (n := n) (x := x + (y - x) / 4 * 2 - 1) (y := x + (y - x) / 4 * 2) (z := x + (y - x) / 4 * 2 + 1) (s := (medianAdjacent ltN d (x + (y - x) / 4 * 1) 0).2) (by omega) (by omega) (by omega)
    have i2' : (medianAdjacent ltN d (x + (y - x) / 4 * 1) 0).2 ≤ 3 := by simpa [medianAdjacent] using i2
    refine xr 3 rfl ?_
    refine xca rfl rfl (medianAdj_ok A h2 h3 h4 hB3 hS3 hd (by omega) (by omega) hn (by show (median _ _ _ _ _ _).2 < _; omega) hne) ?_
    rintro v W4 ⟨rfl, hS4, hu4⟩
    have hB4 := hB3.upd hu4 (by simp; exact hne)
    have j2' : (medianAdjacent ltN d (x + (y - x) / 4 * 2) (medianAdjacent ltN d (x + (y - x) / 4 * 1) 0).2).2 ≤ 6 := by
      have : (medianAdjacent ltN d (x + (y - x) / 4 * 2) (medianAdjacent ltN d (x + (y - x) / 4 * 1) 0).2).2 ≤ (medianAdjacent ltN d (x + (y - x) / 4 * 1) 0).2 + 3 := j2
      omega
    obtain ⟨k1, k2⟩ := median_lt (d := d) (n := n) (x := x + (y - x) / 4 * 3 - 1) (y := x + (y - x) / 4 * 3) (z := x + (y - x) / 4 * 3 + 1) (s := (medianAdjacent ltN d (x + (y - x) / 4 * 2) (medianAdjacent ltN d (x + (y - x) / 4 * 1) 0).2).2) (by omega) (by omega) (by omega)
    refine xr 1 rfl ?_
    have hE : Ext w W4 := ((hu1.trans hu2 (fun b hb => .inr (by simp at hb; omega))).trans hu3 (fun b hb => .inr (by simp at hb; omega))).trans hu4 (fun b hb => .inr (by simp at hb; omega))
    refine exec_meet (_, _, _, _) ⟨hE, hB4, hS4, (by show (median _ _ _ _ _ _).2 < _; omega), i1, j1, k1, ?_⟩ ⟨rfl, rfl, rfl, rfl, rfl, trivial⟩
    rw [choosePivot, if_pos (show y - x ≥ 8 by omega), if_pos (show y - x ≥ 50 by omega)]
    rfl
  · simp only [decide_eq_false_iff_not] at c50
    refine exec_meet (_, _, _, _) ⟨hu1, hB1, hS, (by show 0 < 20; omega), (by show x + (y - x) / 4 * 1 < n; omega), (by show x + (y - x) / 4 * 2 < n; omega), (by show x + (y - x) / 4 * 3 < n; omega), ?_⟩ ⟨rfl, rfl, rfl, rfl, rfl, trivial⟩
    rw [choosePivot, if_pos (show y - x ≥ 8 by omega), if_neg (show ¬ y - x ≥ 50 by omega)]
  · rintro ⟨i, j, k, s⟩ W ⟨q1, q2, q3, q4, q5, q6, q7, q8⟩
    simp only at q2 q3 q4 q5 q6 q7 q8
    refine xr 4 rfl ?_
    refine xca rfl rfl (median_ok A h2 h3 q2 q3 hd q5 q6 q7 hn (by omega) hne) ?_
    rintro v W2 ⟨rfl, hS2, hu2⟩
    have hu : Ext w W2 := q1.trans hu2 (fun b hb => .inr (by simp at hb; omega))
    refine xr 2 rfl ?_
    refine exec_load1 (b := bs) (o := 0) rfl rfl (hS2.cell rfl) ?_
    refine xbk ?_
    have hm := (median_lt (d := d) (s := s) q5 q6 q7).2
    by_cases c0 : (median ltN d i j k s).2 = 0
    · refine xpu (pv_eqlI (a := (median ltN d i j k s).2) (b := 0) (q := true) rfl rfl (by simpa using c0)) rfl ?_
      refine xr 5 rfl ?_
      refine xre hc [_, _] ⟨rfl, rfl, trivial⟩ ?_
      rw [q8, if_pos c0]
      exact ⟨rfl, hu⟩
    · refine xpu (pv_eqlI (a := (median ltN d i j k s).2) (b := 0) (q := false) rfl rfl (by simpa using c0)) rfl ?_
      refine xr 2 rfl ?_
      by_cases c1 : (median ltN d i j k s).2 = 12
      · refine xpu (pv_eqlI (a := (median ltN d i j k s).2) (b := 12) (q := true) rfl rfl (by simpa using c1)) rfl ?_
        refine xr 5 rfl ?_
        refine xre hc [_, _] ⟨rfl, rfl, trivial⟩ ?_
        rw [q8, if_neg c0, if_pos c1]
        exact ⟨rfl, hu⟩
      · refine xpu (pv_eqlI (a := (median ltN d i j k s).2) (b := 12) (q := false) rfl rfl (by simpa using c1)) rfl ?_
        refine xr 5 rfl ?_
        refine xre hc [_, _] ⟨rfl, rfl, trivial⟩ ?_
        rw [q8, if_neg c0, if_neg c1]
        exact ⟨rfl, hu⟩
end
end Go.Sp

namespace Go.Sp
open Go.Sort (swp siftDown heapBuild heapPop heapSort reverseLoop reverseRange)
theorem siftDown_if (lt : Nat → Nat → Bool) (hi first root : Nat) (d : Array Nat) : siftDown lt hi first root d =
    if _h : 2 * root + 1 ≥ hi then d else
    if 2 * root + 1 + 1 < hi && lt d[first + (2 * root + 1)]! d[first + (2 * root + 1) + 1]! then
      if !lt d[first + root]! d[first + (2 * root + 2)]! then d else
        if _h2 : 2 * root + 2 < hi then siftDown lt hi first (2 * root + 2) (swp d (first + root) (first + (2 * root + 2))) else d
    else
      if !lt d[first + root]! d[first + (2 * root + 1)]! then d else siftDown lt hi first (2 * root + 1) (swp d (first + root) (first + (2 * root + 1))) := by rw [siftDown]
theorem reverseLoop_if (i j : Nat) (d : Array Nat) : reverseLoop i j d = if i < j then reverseLoop (i + 1) (j - 1) (swp d i j) else d := by rw [reverseLoop]
section
variable {P : Program} {f : Nat} {w : World} (A : SortF P)
theorem sift_ok (h : Has P f (b_slices_siftDownOrdered_uint64 A.less)) {b n cap lo hi first : Nat} {d : Array Nat} {rest : List Value} (hB : Blk w b (row d rest)) (hd : d.size = n) (hf : first + hi ≤ n) (hlo : lo ≤ n) (hn : n < 2 ^ 40) :
    Ret P f [slV b n cap, intV' lo, intV' hi, intV' first] w fun _ w' => Blk w' b (row (siftDown ltN hi first lo d) rest) ∧ Upd [b] w w' := by
  refine Ret.of_exec h (Nat.le_of_ble_eq_true rfl) fun c hc => ?_
  dsimp only [b_slices_siftDownOrdered_uint64, argEnv, ym, yo, yg, ys, yt, yd, ye]
  refine xr 3 rfl ?_
  refine xlo (S := Nat × Array Nat) (fun s W => s.1 ≤ n ∧ s.2.size = n ∧ siftDown ltN hi first s.1 s.2 = siftDown ltN hi first lo d ∧ Blk W b (row s.2 rest) ∧ Upd [b] w W)
    (fun s => [(0, slV b n cap), (2, intV' hi), (3, intV' first), (8, intV' s.1)]) (fun s => n + 1 - s.1) (lo, d) ⟨hlo, hd, rfl, hB, Upd.refl _ _⟩ ⟨rfl, rfl, rfl, rfl, trivial⟩ ?_
  rintro ⟨root, dk⟩ W ⟨h1, h3, h4, h5, h6⟩
  simp only at h1 h3 h4 h5
  refine xr 2 rfl ?_
  refine xpu (pv_mulI (a := 2) (b := root) rfl rfl (by omega)) rfl ?_
  refine xpu (pv_addI (a := 2 * root) (b := 1) rfl rfl (by omega)) rfl ?_
  refine xr 3 rfl ?_
  by_cases hch : hi ≤ 2 * root + 1
  · refine xpu (pv_geqI (a := 2 * root + 1) (b := hi) (q := true) rfl rfl (by simpa using hch)) rfl ?_
    refine xr 3 rfl ?_
    refine exec_end hc [] trivial ?_
    rw [← h4, siftDown_if, dif_pos hch]
    exact ⟨h5, h6⟩
  · refine xpu (pv_geqI (a := 2 * root + 1) (b := hi) (q := false) rfl rfl (by simpa using hch)) rfl ?_
    refine xr 2 rfl ?_
    by_cases hc2' : 2 * root + 1 + 1 < hi
    · refine exec_dw [] rfl rfl rfl ?_
      refine dau rfl (fun _ => rfl) ?_
      refine dw_val (fun _ => pv_addI (a := 2 * root + 1) (b := 1) rfl rfl (by omega)) ?_
      refine dau rfl (fun _ => rfl) ?_
      refine dw_val (fun _ => pv_lssI (a := 2 * root + 1 + 1) (b := hi) (q := true) rfl rfl (by simpa using hc2')) ?_
      repeat (first | refine dau rfl (fun _ => rfl) ?_ | refine dga rfl (fun _ => rfl) (fun _ => rfl) ?_ | refine dgs (fun _ => rfl) ?_)
      refine dw_gval (fun _ => rfl) (fun _ => pv_addI (a := first) (b := 2 * root + 1) rfl rfl (by omega)) ?_
      refine dw_gok _ (fun _ => rfl) (fun vs W' hu _ => (ok_iaddr (b := b) (o := 0) (len := n) (cap := cap) rfl rfl (first + (2 * root + 1)) rfl (by omega)).keep _) ?_
      refine dw_gok (u64V dk[first + (2 * root + 1)]!) (fun _ => rfl) (fun vs W' hu _ => (ok_load1 (b := b) (o := 0 + (first + (2 * root + 1)) * 1) rfl ((h5.upd hu).cell (row_get (by omega)))).keep _) ?_
      repeat (first | refine dau rfl (fun _ => rfl) ?_ | refine dga rfl (fun _ => rfl) (fun _ => rfl) ?_ | refine dgs (fun _ => rfl) ?_)
      refine dw_gval (fun _ => rfl) (fun _ => pv_addI (a := first) (b := 2 * root + 1) rfl rfl (by omega)) ?_
      refine dw_gval (fun _ => rfl) (fun _ => pv_addI (a := first + (2 * root + 1)) (b := 1) rfl rfl (by omega)) ?_
      refine dw_gok _ (fun _ => rfl) (fun vs W' hu _ => (ok_iaddr (b := b) (o := 0) (len := n) (cap := cap) rfl rfl (first + (2 * root + 1) + 1) rfl (by omega)).keep _) ?_
      refine dw_gok (u64V dk[first + (2 * root + 1) + 1]!) (fun _ => rfl) (fun vs W' hu _ => (ok_load1 (b := b) (o := 0 + (first + (2 * root + 1) + 1) * 1) rfl ((h5.upd hu).cell (row_get (by omega)))).keep _) ?_
      refine dw_end fun vs W1 hu1 _ => ?_
      refine xr 1 rfl ?_
      refine xca rfl rfl (less_ok A.h_nan A.h_less dk[first + (2 * root + 1)]! dk[first + (2 * root + 1) + 1]!) ?_
      rintro v W2 ⟨rfl, hu2⟩
      have hu12 := hu1.trans hu2
      have hB2 := h5.upd hu12
      have hE := h6.trans hu12 (by simp)
      refine xr 1 rfl ?_
      refine exec_cond rfl (fun hc1 => ?_) (fun hc1 => ?_)
      · refine xr 1 rfl ?_
        refine xpu (pv_addI (a := 2 * root + 1) (b := 1) rfl rfl (by omega)) rfl ?_
        refine xr 2 rfl ?_
        have hc1' : (decide (2 * root + 1 + 1 < hi) && ltN dk[first + (2 * root + 1)]! dk[first + (2 * root + 1) + 1]!) = true := by rw [hc1]; simpa using hc2'
        refine exec_dw [] rfl rfl rfl ?_
        repeat (first | refine dau rfl (fun _ => rfl) ?_ | refine dga rfl (fun _ => rfl) (fun _ => rfl) ?_ | refine dgs (fun _ => rfl) ?_)
        refine dw_val (fun _ => pv_addI (a := first) (b := root) rfl rfl (by omega)) ?_
        refine dw_keep _ (fun vs W' hu _ => ok_iaddr (b := b) (o := 0) (len := n) (cap := cap) rfl rfl (first + root) rfl (by omega)) ?_
        refine dw_keep (u64V dk[first + root]!) (fun vs W' hu _ => ok_load1 (b := b) (o := 0 + (first + root) * 1) rfl ((hB2.upd hu).cell (row_get (by omega)))) ?_
        repeat (first | refine dau rfl (fun _ => rfl) ?_ | refine dga rfl (fun _ => rfl) (fun _ => rfl) ?_ | refine dgs (fun _ => rfl) ?_)
        refine dw_val (fun _ => pv_addI (a := first) (b := 2 * root + 1 + 1) rfl rfl (by omega)) ?_
        refine dw_keep _ (fun vs W' hu _ => ok_iaddr (b := b) (o := 0) (len := n) (cap := cap) rfl rfl (first + (2 * root + 1 + 1)) rfl (by omega)) ?_
        refine dw_keep (u64V dk[first + (2 * root + 1 + 1)]!) (fun vs W' hu _ => ok_load1 (b := b) (o := 0 + (first + (2 * root + 1 + 1)) * 1) rfl ((hB2.upd hu).cell (row_get (by omega)))) ?_
        refine dw_end fun vs W_1 hu_1 _ => ?_
        refine xca rfl rfl (less_ok A.h_nan A.h_less dk[first + root]! dk[first + (2 * root + 1 + 1)]!) ?_
        rintro v W_2 ⟨rfl, hu_2⟩
        have hu_12 := hu_1.trans hu_2
        have hB_2 := hB2.upd hu_12
        refine xau rfl rfl rfl ?_
        refine exec_cond rfl (fun hc2 => ?_) (fun hc2 => ?_)
        · skip
          refine xre hc [] trivial ?_
          have e1 : siftDown ltN hi first root dk = dk := by
            rw [siftDown_if, dif_neg (by omega)]
            rw [if_pos hc1']
            rw [if_pos hc2]
          rw [← h4, e1]
          exact ⟨hB_2, (hE.trans hu_12 (by simp))⟩
        · simp only [Bool.not_eq_false'] at hc2
          refine xr 1 rfl ?_
          refine exec_dws [b] 21 (fun W => Blk W b (splice (row dk rest) (0 + (first + root) * 1) (Value.cells (u64V dk[first + (2 * root + 1 + 1)]!)).toList)) (fun W W' h hu => h.upd hu) rfl rfl rfl ?_
          repeat (first | refine ws_auto rfl rfl rfl ?_ | refine ws_gauto rfl rfl rfl rfl ?_ | refine wgs rfl rfl ?_)
          refine ws_val rfl (pv_addI (a := first) (b := root) rfl rfl (by omega)) ?_
          repeat (first | refine ws_auto rfl rfl rfl ?_ | refine ws_gauto rfl rfl rfl rfl ?_ | refine wgs rfl rfl ?_)
          refine ws_val rfl (pv_addI (a := first) (b := 2 * root + 1 + 1) rfl rfl (by omega)) ?_
          repeat (first | refine ws_auto rfl rfl rfl ?_ | refine ws_gauto rfl rfl rfl rfl ?_ | refine wgs rfl rfl ?_)
          refine ws_val rfl (pv_addI (a := first) (b := 2 * root + 1 + 1) rfl rfl (by omega)) ?_
          refine ws_any _ rfl (fun W => ok_iaddr (b := b) (o := 0) (len := n) (cap := cap) rfl rfl (first + (2 * root + 1 + 1)) rfl (by omega)) ?_
          refine ws_ok (u64V dk[first + (2 * root + 1 + 1)]!) rfl rfl (fun W hu => ok_load1 (b := b) (o := 0 + (first + (2 * root + 1 + 1)) * 1) rfl ((hB_2.upd hu).cell (row_get (by omega)))) ?_
          repeat (first | refine ws_auto rfl rfl rfl ?_ | refine ws_gauto rfl rfl rfl rfl ?_ | refine wgs rfl rfl ?_)
          refine ws_val rfl (pv_addI (a := first) (b := root) rfl rfl (by omega)) ?_
          refine ws_any _ rfl (fun W => ok_iaddr (b := b) (o := 0) (len := n) (cap := cap) rfl rfl (first + root) rfl (by omega)) ?_
          refine ws_ok (u64V dk[first + root]!) rfl rfl (fun W hu => ok_load1 (b := b) (o := 0 + (first + root) * 1) rfl ((hB_2.upd hu).cell (row_get (by omega)))) ?_
          refine ws_any _ rfl (fun W => ok_iaddr (b := b) (o := 0) (len := n) (cap := cap) rfl rfl (first + root) rfl (by omega)) ?_
          refine ws_store rfl rfl rfl hB_2 rfl (by rw [row_length]; omega) rfl (by simp) (fun W h => h) ?_
          refine ws_end fun W_a hu_a hW_a => ?_
          refine xju (ok_iaddr (b := b) (o := 0) (len := n) (cap := cap) rfl rfl (first + (2 * root + 1 + 1)) rfl (by omega)) rfl ?_
          refine exec_store (b := b) (o := 0 + (first + (2 * root + 1 + 1)) * 1) (v := u64V dk[first + root]!) rfl rfl (hW_a rfl) rfl (by rw [row_set (by omega), row_length]; simp; omega) rfl ?_
          intro W_3 hu_b _ hB_3
          rw [row_swp (by omega) (by omega)] at hB_3
          have hu_3 := hu_a.trans hu_b (by simp)
          refine xr 4 rfl ?_
          refine xag (2 * root + 1 + 1, swp dk (first + root) (first + (2 * root + 1 + 1))) ⟨by show 2 * root + 1 + 1 ≤ n; omega, by rw [swp_size]; exact h3, ?_, hB_3, (hE.trans hu_12 (by simp)).trans hu_3 (by simp)⟩ (by show n + 1 - (2 * root + 1 + 1) < n + 1 - root; omega) ⟨rfl, rfl, rfl, rfl, trivial⟩
          rw [← h4]
          show siftDown ltN hi first (2 * root + 1 + 1) _ = siftDown ltN hi first root dk
          rw [siftDown_if ltN hi first root dk, dif_neg (by omega)]
          rw [if_pos hc1']
          rw [if_neg (by rw [hc2]; simp)]
          rw [dif_pos (show 2 * root + 2 < hi by omega)]
      · refine xr 1 rfl ?_
        have hc1' : ¬ (decide (2 * root + 1 + 1 < hi) && ltN dk[first + (2 * root + 1)]! dk[first + (2 * root + 1) + 1]!) = true := by rw [hc1]; simp
        refine exec_dw [] rfl rfl rfl ?_
        repeat (first | refine dau rfl (fun _ => rfl) ?_ | refine dga rfl (fun _ => rfl) (fun _ => rfl) ?_ | refine dgs (fun _ => rfl) ?_)
        refine dw_val (fun _ => pv_addI (a := first) (b := root) rfl rfl (by omega)) ?_
        refine dw_keep _ (fun vs W' hu _ => ok_iaddr (b := b) (o := 0) (len := n) (cap := cap) rfl rfl (first + root) rfl (by omega)) ?_
        refine dw_keep (u64V dk[first + root]!) (fun vs W' hu _ => ok_load1 (b := b) (o := 0 + (first + root) * 1) rfl ((hB2.upd hu).cell (row_get (by omega)))) ?_
        repeat (first | refine dau rfl (fun _ => rfl) ?_ | refine dga rfl (fun _ => rfl) (fun _ => rfl) ?_ | refine dgs (fun _ => rfl) ?_)
        refine dw_val (fun _ => pv_addI (a := first) (b := 2 * root + 1) rfl rfl (by omega)) ?_
        refine dw_keep _ (fun vs W' hu _ => ok_iaddr (b := b) (o := 0) (len := n) (cap := cap) rfl rfl (first + (2 * root + 1)) rfl (by omega)) ?_
        refine dw_keep (u64V dk[first + (2 * root + 1)]!) (fun vs W' hu _ => ok_load1 (b := b) (o := 0 + (first + (2 * root + 1)) * 1) rfl ((hB2.upd hu).cell (row_get (by omega)))) ?_
        refine dw_end fun vs W_1 hu_1 _ => ?_
        refine xca rfl rfl (less_ok A.h_nan A.h_less dk[first + root]! dk[first + (2 * root + 1)]!) ?_
        rintro v W_2 ⟨rfl, hu_2⟩
        have hu_12 := hu_1.trans hu_2
        have hB_2 := hB2.upd hu_12
        refine xau rfl rfl rfl ?_
        refine exec_cond rfl (fun hc2 => ?_) (fun hc2 => ?_)
        · skip
          refine xre hc [] trivial ?_
          have e1 : siftDown ltN hi first root dk = dk := by
            rw [siftDown_if, dif_neg (by omega)]
            rw [if_neg hc1']
            rw [if_pos hc2]
          rw [← h4, e1]
          exact ⟨hB_2, (hE.trans hu_12 (by simp))⟩
        · simp only [Bool.not_eq_false'] at hc2
          refine xr 1 rfl ?_
          refine exec_dws [b] 21 (fun W => Blk W b (splice (row dk rest) (0 + (first + root) * 1) (Value.cells (u64V dk[first + (2 * root + 1)]!)).toList)) (fun W W' h hu => h.upd hu) rfl rfl rfl ?_
          repeat (first | refine ws_auto rfl rfl rfl ?_ | refine ws_gauto rfl rfl rfl rfl ?_ | refine wgs rfl rfl ?_)
          refine ws_val rfl (pv_addI (a := first) (b := root) rfl rfl (by omega)) ?_
          repeat (first | refine ws_auto rfl rfl rfl ?_ | refine ws_gauto rfl rfl rfl rfl ?_ | refine wgs rfl rfl ?_)
          refine ws_val rfl (pv_addI (a := first) (b := 2 * root + 1) rfl rfl (by omega)) ?_
          repeat (first | refine ws_auto rfl rfl rfl ?_ | refine ws_gauto rfl rfl rfl rfl ?_ | refine wgs rfl rfl ?_)
          refine ws_val rfl (pv_addI (a := first) (b := 2 * root + 1) rfl rfl (by omega)) ?_
          refine ws_any _ rfl (fun W => ok_iaddr (b := b) (o := 0) (len := n) (cap := cap) rfl rfl (first + (2 * root + 1)) rfl (by omega)) ?_
          refine ws_ok (u64V dk[first + (2 * root + 1)]!) rfl rfl (fun W hu => ok_load1 (b := b) (o := 0 + (first + (2 * root + 1)) * 1) rfl ((hB_2.upd hu).cell (row_get (by omega)))) ?_
          repeat (first | refine ws_auto rfl rfl rfl ?_ | refine ws_gauto rfl rfl rfl rfl ?_ | refine wgs rfl rfl ?_)
          refine ws_val rfl (pv_addI (a := first) (b := root) rfl rfl (by omega)) ?_
          refine ws_any _ rfl (fun W => ok_iaddr (b := b) (o := 0) (len := n) (cap := cap) rfl rfl (first + root) rfl (by omega)) ?_
          refine ws_ok (u64V dk[first + root]!) rfl rfl (fun W hu => ok_load1 (b := b) (o := 0 + (first + root) * 1) rfl ((hB_2.upd hu).cell (row_get (by omega)))) ?_
          refine ws_any _ rfl (fun W => ok_iaddr (b := b) (o := 0) (len := n) (cap := cap) rfl rfl (first + root) rfl (by omega)) ?_
          refine ws_store rfl rfl rfl hB_2 rfl (by rw [row_length]; omega) rfl (by simp) (fun W h => h) ?_
          refine ws_end fun W_a hu_a hW_a => ?_
          refine xju (ok_iaddr (b := b) (o := 0) (len := n) (cap := cap) rfl rfl (first + (2 * root + 1)) rfl (by omega)) rfl ?_
          refine exec_store (b := b) (o := 0 + (first + (2 * root + 1)) * 1) (v := u64V dk[first + root]!) rfl rfl (hW_a rfl) rfl (by rw [row_set (by omega), row_length]; simp; omega) rfl ?_
          intro W_3 hu_b _ hB_3
          rw [row_swp (by omega) (by omega)] at hB_3
          have hu_3 := hu_a.trans hu_b (by simp)
          refine xr 4 rfl ?_
          refine xag (2 * root + 1, swp dk (first + root) (first + (2 * root + 1))) ⟨by show 2 * root + 1 ≤ n; omega, by rw [swp_size]; exact h3, ?_, hB_3, (hE.trans hu_12 (by simp)).trans hu_3 (by simp)⟩ (by show n + 1 - (2 * root + 1) < n + 1 - root; omega) ⟨rfl, rfl, rfl, rfl, trivial⟩
          rw [← h4]
          show siftDown ltN hi first (2 * root + 1) _ = siftDown ltN hi first root dk
          rw [siftDown_if ltN hi first root dk, dif_neg (by omega)]
          rw [if_neg hc1']
          rw [if_neg (by rw [hc2]; simp)]
          skip
    · refine exec_dw [] rfl rfl rfl ?_
      refine dau rfl (fun _ => rfl) ?_
      refine dw_val (fun _ => pv_addI (a := 2 * root + 1) (b := 1) rfl rfl (by omega)) ?_
      refine dau rfl (fun _ => rfl) ?_
      refine dw_val (fun _ => pv_lssI (a := 2 * root + 1 + 1) (b := hi) (q := false) rfl rfl (by simpa using hc2')) ?_
      repeat (first | refine dau rfl (fun _ => rfl) ?_ | refine dga rfl (fun _ => rfl) (fun _ => rfl) ?_ | refine dgs (fun _ => rfl) ?_)
      refine dw_end fun vs W1 hu1 _ => ?_
      refine xr 4 rfl ?_
      have hB2 := h5.upd hu1
      have hE := h6.trans hu1 (by simp)
      have hc1' : ¬ (decide (2 * root + 1 + 1 < hi) && ltN dk[first + (2 * root + 1)]! dk[first + (2 * root + 1) + 1]!) = true := by simp [hc2']
      refine exec_dw [] rfl rfl rfl ?_
      repeat (first | refine dau rfl (fun _ => rfl) ?_ | refine dga rfl (fun _ => rfl) (fun _ => rfl) ?_ | refine dgs (fun _ => rfl) ?_)
      refine dw_val (fun _ => pv_addI (a := first) (b := root) rfl rfl (by omega)) ?_
      refine dw_keep _ (fun vs W' hu _ => ok_iaddr (b := b) (o := 0) (len := n) (cap := cap) rfl rfl (first + root) rfl (by omega)) ?_
      refine dw_keep (u64V dk[first + root]!) (fun vs W' hu _ => ok_load1 (b := b) (o := 0 + (first + root) * 1) rfl ((hB2.upd hu).cell (row_get (by omega)))) ?_
      repeat (first | refine dau rfl (fun _ => rfl) ?_ | refine dga rfl (fun _ => rfl) (fun _ => rfl) ?_ | refine dgs (fun _ => rfl) ?_)
      refine dw_val (fun _ => pv_addI (a := first) (b := 2 * root + 1) rfl rfl (by omega)) ?_
      refine dw_keep _ (fun vs W' hu _ => ok_iaddr (b := b) (o := 0) (len := n) (cap := cap) rfl rfl (first + (2 * root + 1)) rfl (by omega)) ?_
      refine dw_keep (u64V dk[first + (2 * root + 1)]!) (fun vs W' hu _ => ok_load1 (b := b) (o := 0 + (first + (2 * root + 1)) * 1) rfl ((hB2.upd hu).cell (row_get (by omega)))) ?_
      refine dw_end fun vs W_1 hu_1 _ => ?_
      refine xca rfl rfl (less_ok A.h_nan A.h_less dk[first + root]! dk[first + (2 * root + 1)]!) ?_
      rintro v W_2 ⟨rfl, hu_2⟩
      have hu_12 := hu_1.trans hu_2
      have hB_2 := hB2.upd hu_12
      refine xau rfl rfl rfl ?_
      refine exec_cond rfl (fun hc2 => ?_) (fun hc2 => ?_)
      · skip
        refine xre hc [] trivial ?_
        have e1 : siftDown ltN hi first root dk = dk := by
          rw [siftDown_if, dif_neg (by omega)]
          rw [if_neg hc1']
          rw [if_pos hc2]
        rw [← h4, e1]
        exact ⟨hB_2, (hE.trans hu_12 (by simp))⟩
      · simp only [Bool.not_eq_false'] at hc2
        refine xr 1 rfl ?_
        refine exec_dws [b] 21 (fun W => Blk W b (splice (row dk rest) (0 + (first + root) * 1) (Value.cells (u64V dk[first + (2 * root + 1)]!)).toList)) (fun W W' h hu => h.upd hu) rfl rfl rfl ?_
        repeat (first | refine ws_auto rfl rfl rfl ?_ | refine ws_gauto rfl rfl rfl rfl ?_ | refine wgs rfl rfl ?_)
        refine ws_val rfl (pv_addI (a := first) (b := root) rfl rfl (by omega)) ?_
        repeat (first | refine ws_auto rfl rfl rfl ?_ | refine ws_gauto rfl rfl rfl rfl ?_ | refine wgs rfl rfl ?_)
        refine ws_val rfl (pv_addI (a := first) (b := 2 * root + 1) rfl rfl (by omega)) ?_
        repeat (first | refine ws_auto rfl rfl rfl ?_ | refine ws_gauto rfl rfl rfl rfl ?_ | refine wgs rfl rfl ?_)
        refine ws_val rfl (pv_addI (a := first) (b := 2 * root + 1) rfl rfl (by omega)) ?_
        refine ws_any _ rfl (fun W => ok_iaddr (b := b) (o := 0) (len := n) (cap := cap) rfl rfl (first + (2 * root + 1)) rfl (by omega)) ?_
        refine ws_ok (u64V dk[first + (2 * root + 1)]!) rfl rfl (fun W hu => ok_load1 (b := b) (o := 0 + (first + (2 * root + 1)) * 1) rfl ((hB_2.upd hu).cell (row_get (by omega)))) ?_
        repeat (first | refine ws_auto rfl rfl rfl ?_ | refine ws_gauto rfl rfl rfl rfl ?_ | refine wgs rfl rfl ?_)
        refine ws_val rfl (pv_addI (a := first) (b := root) rfl rfl (by omega)) ?_
        refine ws_any _ rfl (fun W => ok_iaddr (b := b) (o := 0) (len := n) (cap := cap) rfl rfl (first + root) rfl (by omega)) ?_
        refine ws_ok (u64V dk[first + root]!) rfl rfl (fun W hu => ok_load1 (b := b) (o := 0 + (first + root) * 1) rfl ((hB_2.upd hu).cell (row_get (by omega)))) ?_
        refine ws_any _ rfl (fun W => ok_iaddr (b := b) (o := 0) (len := n) (cap := cap) rfl rfl (first + root) rfl (by omega)) ?_
        refine ws_store rfl rfl rfl hB_2 rfl (by rw [row_length]; omega) rfl (by simp) (fun W h => h) ?_
        refine ws_end fun W_a hu_a hW_a => ?_
        refine xju (ok_iaddr (b := b) (o := 0) (len := n) (cap := cap) rfl rfl (first + (2 * root + 1)) rfl (by omega)) rfl ?_
        refine exec_store (b := b) (o := 0 + (first + (2 * root + 1)) * 1) (v := u64V dk[first + root]!) rfl rfl (hW_a rfl) rfl (by rw [row_set (by omega), row_length]; simp; omega) rfl ?_
        intro W_3 hu_b _ hB_3
        rw [row_swp (by omega) (by omega)] at hB_3
        have hu_3 := hu_a.trans hu_b (by simp)
        refine xr 4 rfl ?_
        refine xag (2 * root + 1, swp dk (first + root) (first + (2 * root + 1))) ⟨by show 2 * root + 1 ≤ n; omega, by rw [swp_size]; exact h3, ?_, hB_3, (hE.trans hu_12 (by simp)).trans hu_3 (by simp)⟩ (by show n + 1 - (2 * root + 1) < n + 1 - root; omega) ⟨rfl, rfl, rfl, rfl, trivial⟩
        rw [← h4]
        show siftDown ltN hi first (2 * root + 1) _ = siftDown ltN hi first root dk
        rw [siftDown_if ltN hi first root dk, dif_neg (by omega)]
        rw [if_neg hc1']
        rw [if_neg (by rw [hc2]; simp)]
        skip
theorem siftDown_size (hi first : Nat) : ∀ (m root : Nat) (d : Array Nat), hi - root ≤ m → (siftDown ltN hi first root d).size = d.size := by
  intro m
  induction m with
  | zero => intro root d h; rw [siftDown_if, dif_pos (by omega)]
  | succ m ih =>
    intro root d h
    rw [siftDown_if]
    split
    · rfl
    · split
      · split
        · rfl
        · split
          · rw [ih _ _ (by omega), swp_size]
          · rfl
      · split
        · rfl
        · rw [ih _ _ (by omega), swp_size]
theorem heap_ok {g : Nat} (h1 : Has P g (b_slices_siftDownOrdered_uint64 A.less)) (h : Has P f (b_slices_heapSortOrdered_uint64 g)) {b n cap x y : Nat} {d : Array Nat} {rest : List Value} (hB : Blk w b (row d rest)) (hd : d.size = n) (hxy : x < y) (hy : y ≤ n) (hn : n < 2 ^ 40) :
    Ret P f [slV b n cap, intV' x, intV' y] w fun _ w' => Blk w' b (row (heapSort ltN d x y) rest) ∧ Upd [b] w w' := by
  have hss : ∀ (hi first root : Nat) (d : Array Nat), (siftDown ltN hi first root d).size = d.size := fun hi first root d => siftDown_size hi first _ root d (Nat.le_refl _)
  refine Ret.of_exec h (Nat.le_of_ble_eq_true rfl) fun c hc => ?_
  dsimp only [b_slices_heapSortOrdered_uint64, argEnv, ym, yo, yg, ys, yt, yd, ye]
  refine xr 5 rfl ?_
  refine xpu (pv_subI (a := y) (b := x) rfl rfl (by omega) (by omega)) rfl ?_
  refine xr 2 rfl ?_
  refine xpu (pv_subI (a := y - x) (b := 1) rfl rfl (by omega) (by omega)) rfl ?_
  refine xju (ok_quoI (a := y - x - 1) (b := 2) rfl rfl (by omega) (by omega)) rfl ?_
  refine xr 2 rfl ?_
  refine xlo (S := Nat × Array Nat) (fun s W => s.1 ≤ (y - x - 1) / 2 + 1 ∧ s.2.size = n ∧ heapBuild ltN (y - x) x s.1 s.2 = heapBuild ltN (y - x) x ((y - x - 1) / 2 + 1) d ∧ Blk W b (row s.2 rest) ∧ Upd [b] w W)
    (fun s => [(0, slV b n cap), (6, intV' x), (7, intV' 0), (8, intV' (y - x)), (9, .int .i64 ((s.1 : Int) - 1))]) (fun s => s.1) ((y - x - 1) / 2 + 1, d) ⟨Nat.le_refl _, hd, rfl, hB, Upd.refl _ _⟩ ⟨rfl, rfl, rfl, rfl, by simp [Env.get], trivial⟩ ?_
  rintro ⟨k, dk⟩ W ⟨g1, g3, g4, g5, g6⟩
  simp only at g1 g3 g4 g5
  refine xr 1 rfl ?_
  cases k with
  | succ k =>
    rw [show (((k + 1 : Nat) : Int) - 1) = (k : Int) by omega]
    refine xpu (pv_geqI (a := k) (b := 0) (q := true) rfl rfl (by simp)) rfl ?_
    refine xr 7 rfl ?_
    refine xca rfl rfl (sift_ok A h1 g5 g3 (by omega) (by omega) hn) ?_
    rintro v W1 ⟨hB1, hu1⟩
    refine xr 3 rfl ?_
    refine xpu (pv_subZ (a := (k : Int)) (b := 1) rfl rfl (by omega) (by omega)) rfl ?_
    refine xr 1 rfl ?_
    refine xag (k, siftDown ltN (y - x) x k dk) ⟨by show k ≤ _; omega, by rw [hss]; exact g3, ?_, hB1, g6.trans hu1 (by simp)⟩ (by show k < k + 1; omega) ⟨rfl, rfl, rfl, rfl, rfl, trivial⟩
    rw [← g4]; rfl
  | zero =>
    refine xau rfl rfl rfl ?_
    refine exec_cond rfl (fun hq => ?_) (fun hq => ?_)
    · simp at hq
    refine xr 3 rfl ?_
    refine xpu (pv_subI (a := y - x) (b := 1) rfl rfl (by omega) (by omega)) rfl ?_
    refine xr 2 rfl ?_
    have hdk : dk = heapBuild ltN (y - x) x ((y - x - 1) / 2 + 1) d := by rw [← g4]; rfl
    refine xlo (S := Nat × Array Nat) (fun s W => s.1 ≤ y - x ∧ s.2.size = n ∧ heapPop ltN x s.1 s.2 = heapSort ltN d x y ∧ Blk W b (row s.2 rest) ∧ Upd [b] w W)
      (fun s => [(0, slV b n cap), (6, intV' x), (7, intV' 0), (8, intV' (y - x)), (10, .int .i64 ((s.1 : Int) - 1))]) (fun s => s.1) (y - x, dk) ⟨Nat.le_refl _, g3, by rw [heapSort, ← hdk], g5, g6⟩ ⟨rfl, rfl, rfl, rfl, by simp [Env.get]; omega, trivial⟩ ?_
    rintro ⟨k, dj⟩ W1 ⟨k1, k3, k4, k5, k6⟩
    simp only at k1 k3 k4 k5
    refine xr 1 rfl ?_
    cases k with
    | succ k =>
      rw [show (((k + 1 : Nat) : Int) - 1) = (k : Int) by omega]
      refine xpu (pv_geqI (a := k) (b := 0) (q := true) rfl rfl (by simp)) rfl ?_
      refine xr 3 rfl ?_
      refine exec_dws [b] 17 (fun W => Blk W b (splice (row dj rest) (0 + (x) * 1) (Value.cells (u64V dj[x + k]!)).toList)) (fun W W' h hu => h.upd hu) rfl rfl rfl ?_
      repeat (first | refine ws_auto rfl rfl rfl ?_ | refine ws_gauto rfl rfl rfl rfl ?_ | refine wgs rfl rfl ?_)
      refine ws_val rfl (pv_addI (a := x) (b := k) rfl rfl (by omega)) ?_
      repeat (first | refine ws_auto rfl rfl rfl ?_ | refine ws_gauto rfl rfl rfl rfl ?_ | refine wgs rfl rfl ?_)
      refine ws_val rfl (pv_addI (a := x) (b := k) rfl rfl (by omega)) ?_
      refine ws_any _ rfl (fun W => ok_iaddr (b := b) (o := 0) (len := n) (cap := cap) rfl rfl (x + k) rfl (by omega)) ?_
      refine ws_ok (u64V dj[x + k]!) rfl rfl (fun W hu => ok_load1 (b := b) (o := 0 + (x + k) * 1) rfl ((k5.upd hu).cell (row_get (by omega)))) ?_
      repeat (first | refine ws_auto rfl rfl rfl ?_ | refine ws_gauto rfl rfl rfl rfl ?_ | refine wgs rfl rfl ?_)
      refine ws_any _ rfl (fun W => ok_iaddr (b := b) (o := 0) (len := n) (cap := cap) rfl rfl (x) rfl (by omega)) ?_
      refine ws_ok (u64V dj[x]!) rfl rfl (fun W hu => ok_load1 (b := b) (o := 0 + (x) * 1) rfl ((k5.upd hu).cell (row_get (by omega)))) ?_
      refine ws_any _ rfl (fun W => ok_iaddr (b := b) (o := 0) (len := n) (cap := cap) rfl rfl (x) rfl (by omega)) ?_
      refine ws_store rfl rfl rfl k5 rfl (by rw [row_length]; omega) rfl (by simp) (fun W h => h) ?_
      refine ws_end fun W_a hu_a hW_a => ?_
      refine xju (ok_iaddr (b := b) (o := 0) (len := n) (cap := cap) rfl rfl (x + k) rfl (by omega)) rfl ?_
      refine exec_store (b := b) (o := 0 + (x + k) * 1) (v := u64V dj[x]!) rfl rfl (hW_a rfl) rfl (by rw [row_set (by omega), row_length]; simp; omega) rfl ?_
      intro W2 hu_b _ hB2
      rw [row_swp (by omega) (by omega)] at hB2
      have hu2 := hu_a.trans hu_b (by simp)
      refine xr 4 rfl ?_
      refine xca rfl rfl (sift_ok A h1 hB2 (by rw [swp_size]; exact k3) (by omega) (by omega) hn) ?_
      rintro v W3 ⟨hB3, hu3⟩
      refine xr 3 rfl ?_
      refine xpu (pv_subZ (a := (k : Int)) (b := 1) rfl rfl (by omega) (by omega)) rfl ?_
      refine xr 1 rfl ?_
      refine xag (k, siftDown ltN k x 0 (swp dj x (x + k))) ⟨by show k ≤ _; omega, by rw [hss, swp_size]; exact k3, ?_, hB3, (k6.trans hu2 (by simp)).trans hu3 (by simp)⟩ (by show k < k + 1; omega) ⟨rfl, rfl, rfl, rfl, rfl, trivial⟩
      rw [← k4]; rfl
    | zero =>
      refine xau rfl rfl rfl ?_
      refine exec_cond rfl (fun hq => ?_) (fun hq => ?_)
      · simp at hq
      refine xr 2 rfl ?_
      refine exec_end hc [] trivial ?_
      rw [← k4]
      exact ⟨k5, k6⟩
theorem reverse_ok (h : Has P f b_slices_reverseRangeOrdered_uint64) {b n cap x y : Nat} {d : Array Nat} {rest : List Value} (hB : Blk w b (row d rest)) (hd : d.size = n) (hxy : x < y) (hy : y ≤ n) (hn : n < 2 ^ 40) :
    Ret P f [slV b n cap, intV' x, intV' y] w fun _ w' => Blk w' b (row (reverseRange d x y) rest) ∧ Upd [b] w w' := by
  refine Ret.of_exec h (Nat.le_of_ble_eq_true rfl) fun c hc => ?_
  dsimp only [b_slices_reverseRangeOrdered_uint64, argEnv, ym, yo, yg, ys, yt, yd, ye]
  refine xr 3 rfl ?_
  refine xpu (pv_subI (a := y) (b := 1) rfl rfl (by omega) (by omega)) rfl ?_
  refine xr 2 rfl ?_
  refine xlo (S := Nat × Nat × Array Nat) (fun s W => s.2.1 < y ∧ s.1 ≤ n ∧ s.2.2.size = n ∧ reverseLoop s.1 s.2.1 s.2.2 = reverseRange d x y ∧ Blk W b (row s.2.2 rest) ∧ Upd [b] w W)
    (fun s => [(0, slV b n cap), (6, intV' s.1), (7, intV' s.2.1)]) (fun s => s.2.1 - s.1) (x, y - 1, d) ⟨by show y - 1 < y; omega, by show x ≤ n; omega, hd, rfl, hB, Upd.refl _ _⟩ ⟨rfl, rfl, rfl, trivial⟩ ?_
  rintro ⟨i, j, dk⟩ W ⟨g1, g2, g3, g4, g5, g6⟩
  simp only at g1 g2 g3 g4 g5
  refine xr 2 rfl ?_
  by_cases hij : i < j
  · refine xpu (pv_lssI (a := i) (b := j) (q := true) rfl rfl (by simpa using hij)) rfl ?_
    refine xr 3 rfl ?_
    refine exec_dws [b] 13 (fun W => Blk W b (splice (row dk rest) (0 + i * 1) (Value.cells (u64V dk[j]!)).toList)) (fun W W' h hu => h.upd hu) rfl rfl rfl ?_
    repeat (first | refine ws_auto rfl rfl rfl ?_ | refine ws_gauto rfl rfl rfl rfl ?_ | refine wgs rfl rfl ?_)
    refine ws_any _ rfl (fun W => ok_iaddr (b := b) (o := 0) (len := n) (cap := cap) rfl rfl (j) rfl (by omega)) ?_
    refine ws_ok (u64V dk[j]!) rfl rfl (fun W hu => ok_load1 (b := b) (o := 0 + (j) * 1) rfl ((g5.upd hu).cell (row_get (by omega)))) ?_
    repeat (first | refine ws_auto rfl rfl rfl ?_ | refine ws_gauto rfl rfl rfl rfl ?_ | refine wgs rfl rfl ?_)
    refine ws_any _ rfl (fun W => ok_iaddr (b := b) (o := 0) (len := n) (cap := cap) rfl rfl (i) rfl (by omega)) ?_
    refine ws_ok (u64V dk[i]!) rfl rfl (fun W hu => ok_load1 (b := b) (o := 0 + (i) * 1) rfl ((g5.upd hu).cell (row_get (by omega)))) ?_
    refine ws_any _ rfl (fun W => ok_iaddr (b := b) (o := 0) (len := n) (cap := cap) rfl rfl (i) rfl (by omega)) ?_
    refine ws_store rfl rfl rfl g5 rfl (by rw [row_length]; omega) rfl (by simp) (fun W h => h) ?_
    refine ws_end fun W_a hu_a hW_a => ?_
    refine xju (ok_iaddr (b := b) (o := 0) (len := n) (cap := cap) rfl rfl (j) rfl (by omega)) rfl ?_
    refine exec_store (b := b) (o := 0 + (j) * 1) (v := u64V dk[i]!) rfl rfl (hW_a rfl) rfl (by rw [row_set (by omega), row_length]; simp; omega) rfl ?_
    intro W1 hu_b _ hB1
    rw [row_swp (by omega) (by omega)] at hB1
    have hu1 := hu_a.trans hu_b (by simp)
    refine xr 1 rfl ?_
    refine xpu (pv_addI (a := i) (b := 1) rfl rfl (by omega)) rfl ?_
    refine xr 2 rfl ?_
    refine xpu (pv_subI (a := j) (b := 1) rfl rfl (by omega) (by omega)) rfl ?_
    refine xr 3 rfl ?_
    refine xag (i + 1, j - 1, swp dk i j) ⟨by show j - 1 < y; omega, by show i + 1 ≤ n; omega, by rw [swp_size]; exact g3, ?_, hB1, g6.trans hu1 (by simp)⟩ (by show j - 1 - (i + 1) < j - i; omega) ⟨rfl, rfl, rfl, trivial⟩
    rw [← g4]
    show _ = reverseLoop i j dk
    rw [reverseLoop_if i j dk, if_pos hij]
  · refine xpu (pv_lssI (a := i) (b := j) (q := false) rfl rfl (by simpa using hij)) rfl ?_
    refine xr 3 rfl ?_
    refine exec_end hc [] trivial ?_
    rw [← g4, reverseLoop_if, if_neg hij]
    exact ⟨g5, g6⟩
end
end Go.Sp

namespace Go.Sp
open Go.Sort (swp breakStep breakPatterns bitsLen xorNext xorNextN xorNext_toNat)
theorem bitsLen_eq {n : Nat} (h : n < 2 ^ 64) : bitsLen n = bitLen n := by
  refine (bitLen_eq h ⟨Go.Sort.lt_two_pow_bitsLen n, ?_⟩).symm
  rcases Nat.eq_zero_or_pos n with h0 | h0
  · left; subst h0; rfl
  · right
    have := Go.Sort.two_pow_bitsLen_le h0
    have hb : bitsLen n ≠ 0 := by
      intro hz
      have := Go.Sort.lt_two_pow_bitsLen n
      rw [hz] at this; simp at this; omega
    have e : (2 : Nat) ^ bitsLen n = 2 * 2 ^ (bitsLen n - 1) := by rw [← Nat.pow_succ']; congr 1; omega
    omega
def breakRuns (x len md : Nat) : Nat → Nat → UInt64 × Array Nat → UInt64 × Array Nat
  | 0, _, st => st
  | k + 1, idx, st => breakRuns x len md k (idx + 1) (breakStep x len md st idx)
section
variable {P : Program} {f : Nat} {w : World} (A : SortF P)
theorem len_ok {l32 : Nat} (h : Has P f (b_math_bits_Len l32 A.len64)) (x : Nat) (hx : x < 2 ^ 64) : RetV P f [u64V x] w (intV' (bitLen x)) := by
  refine Ret.of_exec h (Nat.le_of_ble_eq_true rfl) fun c hc => ?_
  dsimp only [b_math_bits_Len, argEnv, ym, yo, yg, ys, yt, yd, ye]
  refine xr 4 rfl ?_
  refine xca rfl rfl (len64_ok A.h_len64 x hx) ?_
  rintro v w1 ⟨rfl, hu1⟩
  refine xr 1 rfl ?_
  exact xre hc [_] ⟨rfl, trivial⟩ ⟨rfl, hu1⟩
theorem pow2_ok {l32 g : Nat} (h0 : Has P g (b_math_bits_Len l32 A.len64)) (h : Has P f (b_slices_nextPowerOfTwo g)) (x : Nat) (hx : x < 2 ^ 40) : RetV P f [intV' x] w (u64V (2 ^ bitLen x)) := by
  refine Ret.of_exec h (Nat.le_of_ble_eq_true rfl) fun c hc => ?_
  dsimp only [b_slices_nextPowerOfTwo, argEnv, ym, yo, yg, ys, yt, yd, ye]
  refine xr 2 rfl ?_
  refine xpu (pv_toU (a := x) rfl (by omega)) rfl ?_
  refine xca rfl rfl (len_ok A h0 x (by omega)) ?_
  rintro v w1 ⟨rfl, hu1⟩
  refine xju (ok_shlU (a := 1) (j := bitLen x) rfl rfl) rfl ?_
  have hb : bitLen x ≤ 40 := bitLen_le (by omega) (by omega)
  have : 2 ^ bitLen x ≤ 2 ^ 40 := Nat.pow_le_pow_right (by omega) hb
  rw [Nat.one_mul, Nat.mod_eq_of_lt (by omega)]
  refine xr 1 rfl ?_
  exact xre hc [_] ⟨rfl, trivial⟩ ⟨rfl, hu1⟩
theorem xor_ok (h : Has P f b_Pslices_xorshift_Next) {bs x : Nat} (hB : Blk w bs [u64V x]) (hx : x < 18446744073709551616) :
    Ret P f [ptrV bs] w fun v w' => v = u64V (xorNextN x) ∧ Blk w' bs [u64V (xorNextN x)] ∧ Upd [bs] w w' := by
  have p : (18446744073709551616 : Nat) = 2 ^ 64 := by decide
  have l1 : x * 8192 % 18446744073709551616 < 18446744073709551616 := Nat.mod_lt _ (by omega)
  refine Ret.of_exec h (Nat.le_of_ble_eq_true rfl) fun c hc => ?_
  dsimp only [b_Pslices_xorshift_Next, argEnv, ym, yo, yg, ys, yt, yd, ye]
  refine xr 1 rfl ?_
  refine exec_dw [] rfl rfl rfl ?_
  repeat (first | refine dau rfl (fun _ => rfl) ?_ | refine dga rfl (fun _ => rfl) (fun _ => rfl) ?_ | refine dgs (fun _ => rfl) ?_)
  refine dw_keep (u64V x) (fun vs W' hu _ => ok_load1 (b := bs) (o := 0) rfl ((hB.upd hu).cell rfl)) ?_
  repeat (first | refine dau rfl (fun _ => rfl) ?_ | refine dga rfl (fun _ => rfl) (fun _ => rfl) ?_ | refine dgs (fun _ => rfl) ?_)
  refine dw_keep (u64V x) (fun vs W' hu _ => ok_load1 (b := bs) (o := 0) rfl ((hB.upd hu).cell rfl)) ?_
  refine dw_keep _ (fun vs W' hu _ => ok_shlU (a := x) (j := 13) rfl rfl) ?_
  refine dw_end fun vs W1 hu1 _ => ?_
  refine xpu (pv_xorU (a := x) (b := x * 2 ^ 13 % 18446744073709551616) rfl rfl hx l1) rfl ?_
  refine xr 1 rfl ?_
  generalize hy : x ^^^ x * 2 ^ 13 % 18446744073709551616 = y
  have ly : y < 18446744073709551616 := by rw [← hy, p]; exact Nat.xor_lt_two_pow (by omega) (by omega)
  refine exec_store (b := bs) (o := 0) (v := u64V y) rfl rfl (hB.upd hu1) rfl (by simp) rfl ?_
  intro W2 hu2 _ hB2
  have hB2' : Blk W2 bs [u64V y] := hB2
  refine exec_dw [] rfl rfl rfl ?_
  repeat (first | refine dau rfl (fun _ => rfl) ?_ | refine dga rfl (fun _ => rfl) (fun _ => rfl) ?_ | refine dgs (fun _ => rfl) ?_)
  refine dw_keep (u64V y) (fun vs W' hu _ => ok_load1 (b := bs) (o := 0) rfl ((hB2'.upd hu).cell rfl)) ?_
  repeat (first | refine dau rfl (fun _ => rfl) ?_ | refine dga rfl (fun _ => rfl) (fun _ => rfl) ?_ | refine dgs (fun _ => rfl) ?_)
  refine dw_keep (u64V y) (fun vs W' hu _ => ok_load1 (b := bs) (o := 0) rfl ((hB2'.upd hu).cell rfl)) ?_
  refine dw_keep _ (fun vs W' hu _ => ok_shrU (a := y) (j := 7) rfl rfl ly) ?_
  refine dw_end fun vs W3 hu3 _ => ?_
  refine xpu (pv_xorU (a := y) (b := y / 2 ^ 7) rfl rfl ly (Nat.lt_of_le_of_lt (Nat.div_le_self _ _) ly)) rfl ?_
  refine xr 1 rfl ?_
  generalize hz : y ^^^ y / 2 ^ 7 = z
  have lz : z < 18446744073709551616 := by
    have := Nat.lt_of_le_of_lt (Nat.div_le_self y (2 ^ 7)) ly
    rw [← hz, p]; exact Nat.xor_lt_two_pow (by omega) (by omega)
  refine exec_store (b := bs) (o := 0) (v := u64V z) rfl rfl (hB2'.upd hu3) rfl (by simp) rfl ?_
  intro W4 hu4 _ hB4
  have hB4' : Blk W4 bs [u64V z] := hB4
  have l2 : z * 2 ^ 17 % 18446744073709551616 < 18446744073709551616 := Nat.mod_lt _ (by omega)
  refine exec_dw [] rfl rfl rfl ?_
  repeat (first | refine dau rfl (fun _ => rfl) ?_ | refine dga rfl (fun _ => rfl) (fun _ => rfl) ?_ | refine dgs (fun _ => rfl) ?_)
  refine dw_keep (u64V z) (fun vs W' hu _ => ok_load1 (b := bs) (o := 0) rfl ((hB4'.upd hu).cell rfl)) ?_
  repeat (first | refine dau rfl (fun _ => rfl) ?_ | refine dga rfl (fun _ => rfl) (fun _ => rfl) ?_ | refine dgs (fun _ => rfl) ?_)
  refine dw_keep (u64V z) (fun vs W' hu _ => ok_load1 (b := bs) (o := 0) rfl ((hB4'.upd hu).cell rfl)) ?_
  refine dw_keep _ (fun vs W' hu _ => ok_shlU (a := z) (j := 17) rfl rfl) ?_
  refine dw_end fun vs W5 hu5 _ => ?_
  refine xpu (pv_xorU (a := z) (b := z * 2 ^ 17 % 18446744073709551616) rfl rfl lz l2) rfl ?_
  refine xr 1 rfl ?_
  have hr : z ^^^ z * 2 ^ 17 % 18446744073709551616 = xorNextN x := by rw [← hz, ← hy]; rfl
  rw [hr]
  refine exec_store (b := bs) (o := 0) (v := u64V (xorNextN x)) rfl rfl (hB4'.upd hu5) rfl (by simp) rfl ?_
  intro W6 hu6 _ hB6
  have hB6' : Blk W6 bs [u64V (xorNextN x)] := hB6
  refine xr 2 rfl ?_
  refine exec_load1 (b := bs) (o := 0) rfl rfl (hB6'.cell rfl) ?_
  refine xr 1 rfl ?_
  refine xre hc [_] ⟨rfl, trivial⟩ ⟨rfl, hB6', ?_⟩
  have t1 : Upd [bs] w W2 := (hu1.mono (m := [bs]) (by simp)).trans hu2 (by simp)
  have t2 : Upd [bs] W2 W4 := (hu3.mono (m := [bs]) (by simp)).trans hu4 (by simp)
  have t3 : Upd [bs] W4 W6 := (hu5.mono (m := [bs]) (by simp)).trans hu6 (by simp)
  exact (t1.trans t2 (by simp)).trans t3 (by simp)
theorem break_ok {l32 g1 g2 g3 T : Nat} (h0 : Has P g1 (b_math_bits_Len l32 A.len64)) (h1 : Has P g2 (b_slices_nextPowerOfTwo g1)) (h2 : Has P g3 b_Pslices_xorshift_Next) (h : Has P f (b_slices_breakPatternsOrdered_uint64 g2 g3 T))
    {b n cap x y : Nat} {d : Array Nat} {rest : List Value} (hB : Blk w b (row d rest)) (hd : d.size = n) (hxy : x + 12 < y) (hy : y ≤ n) (hn : n < 2 ^ 40) :
    Ret P f [slV b n cap, intV' x, intV' y] w fun _ w' => Blk w' b (row (breakPatterns d x y) rest) ∧ Upd [b] w w' := by
  have hlt := hB.lt
  have hlen : bitsLen (y - x) = bitLen (y - x) := bitsLen_eq (by omega)
  have hp2 := Go.Sort.two_pow_bitsLen_le (n := y - x) (by omega)
  have hp1 := Go.Sort.lt_two_pow_bitsLen (y - x)
  have hresult : breakPatterns d x y = (breakRuns x (y - x) (2 ^ bitLen (y - x)) 3 (x + (y - x) / 4 * 2 - 1) (UInt64.ofNat (y - x), d)).2 := by
    unfold breakPatterns
    simp only []
    rw [if_pos (show y - x ≥ 8 by omega), Nat.one_shiftLeft, hlen]
    rfl
  rw [hlen] at hp2 hp1
  generalize hmd : 2 ^ bitLen (y - x) = md at *
  refine Ret.of_exec h (Nat.le_of_ble_eq_true rfl) fun c hc => ?_
  dsimp only [b_slices_breakPatternsOrdered_uint64, argEnv, ym, yo, yg, ys, yt, yd, ye]
  refine xr 2 rfl ?_
  refine xpu (pv_subI (a := y) (b := x) rfl rfl (by omega) (by omega)) rfl ?_
  refine xr 2 rfl ?_
  refine xpu (pv_geqI (a := y - x) (b := 8) (q := true) rfl rfl (by simp; omega)) rfl ?_
  refine xr 2 rfl ?_
  refine xpu (pv_toU (a := y - x) rfl (by omega)) rfl ?_
  refine exec_new_store (v := u64V (y - x)) rfl rfl rfl rfl rfl rfl ?_
  intro bs W1 hbs hs1 hu1 hS1
  have hS : Blk W1 bs [u64V (y - x)] := hS1
  have hne : b ≠ bs := by omega
  have hB1 := hB.upd hu1
  refine xr 1 rfl ?_
  refine xca rfl rfl (pow2_ok A h0 h1 (y - x) (by omega)) ?_
  rintro v W2 ⟨rfl, hu2⟩
  rw [hmd]
  refine xr 3 rfl ?_
  refine xju (ok_quoI (a := y - x) (b := 4) rfl rfl (by omega) (by omega)) rfl ?_
  refine xpu (pv_mulI (a := (y - x) / 4) (b := 2) rfl rfl (by omega)) rfl ?_
  refine xpu (pv_addI (a := x) (b := (y - x) / 4 * 2) rfl rfl (by omega)) rfl ?_
  refine xpu (pv_subI (a := x + (y - x) / 4 * 2) (b := 1) rfl rfl (by omega) (by omega)) rfl ?_
  refine xr 2 rfl ?_
  refine xlo (S := Nat × UInt64 × Array Nat) (fun s W => s.1 ≤ 3 ∧ s.2.2.size = n ∧ (breakRuns x (y - x) md (3 - s.1) (x + (y - x) / 4 * 2 - 1 + s.1) s.2).2 = breakPatterns d x y ∧ Blk W b (row s.2.2 rest) ∧ Blk W bs [u64V s.2.1.toNat] ∧ Upd [b] w W)
    (fun s => [(0, slV b n cap), (1, intV' x), (2, intV' y), (6, intV' (y - x)), (7, ptrV bs), (8, u64V md), (9, intV' (x + (y - x) / 4 * 2 - 1 + s.1))]) (fun s => 3 - s.1) (0, UInt64.ofNat (y - x), d)
    ⟨by show 0 ≤ 3; omega, hd, hresult.symm, hB1.upd hu2, ?_, (hu1.mono (m := [b]) (by simp)).trans (hu2.mono (m := [b]) (by simp)) (by simp)⟩ ⟨rfl, rfl, rfl, rfl, rfl, rfl, rfl, trivial⟩ ?_
  · have e1 : (UInt64.ofNat (y - x)).toNat = y - x := by rw [UInt64.toNat_ofNat']; exact Nat.mod_eq_of_lt (by omega)
    show Blk W2 bs [u64V (UInt64.ofNat (y - x)).toNat]
    rw [e1]; exact hS.upd hu2
  rintro ⟨t, r, dk⟩ W ⟨t1, t2, t3, t4, t5, t6⟩
  simp only at t1 t2 t3 t4 t5
  refine xr 3 rfl ?_
  refine xju (ok_quoI (a := y - x) (b := 4) rfl rfl (by omega) (by omega)) rfl ?_
  refine xpu (pv_mulI (a := (y - x) / 4) (b := 2) rfl rfl (by omega)) rfl ?_
  refine xpu (pv_addI (a := x) (b := (y - x) / 4 * 2) rfl rfl (by omega)) rfl ?_
  refine xpu (pv_addI (a := x + (y - x) / 4 * 2) (b := 1) rfl rfl (by omega)) rfl ?_
  by_cases ht : t < 3
  · refine xpu (pv_leqI (a := x + (y - x) / 4 * 2 - 1 + t) (b := x + (y - x) / 4 * 2 + 1) (q := true) rfl rfl (by simp; omega)) rfl ?_
    refine xr 3 rfl ?_
    refine exec_inner_join (S := Nat) (fun o W4 => breakStep x (y - x) md (r, dk) (x + (y - x) / 4 * 2 - 1 + t) = (xorNext r, swp dk (x + (y - x) / 4 * 2 - 1 + t) (x + o)) ∧ Blk W4 b (row (swp dk (x + (y - x) / 4 * 2 - 1 + t) (x + o)) rest) ∧ Blk W4 bs [u64V (xorNext r).toNat] ∧ Upd [b] w W4)
      (fun _ => [(0, slV b n cap), (1, intV' x), (2, intV' y), (6, intV' (y - x)), (7, ptrV bs), (8, u64V md), (9, intV' (x + (y - x) / 4 * 2 - 1 + t))]) ?_ ?_
    rotate_left
    · rintro o W4 ⟨q1, q2, q3, q4⟩
      refine xr 1 rfl ?_
      refine xpu (pv_addI (a := x + (y - x) / 4 * 2 - 1 + t) (b := 1) rfl rfl (by omega)) rfl ?_
      refine xr 1 rfl ?_
      refine xag (t + 1, xorNext r, swp dk (x + (y - x) / 4 * 2 - 1 + t) (x + o)) ⟨ht, by rw [swp_size]; exact t2, ?_, q2, q3, q4⟩ (by show 3 - (t + 1) < 3 - t; omega) ⟨rfl, rfl, rfl, rfl, rfl, rfl, rfl, trivial⟩
      rw [← t3, show 3 - t = (3 - (t + 1)) + 1 by omega]
      show _ = (breakRuns x (y - x) md (3 - (t + 1)) (x + (y - x) / 4 * 2 - 1 + t + 1) (breakStep x (y - x) md (r, dk) (x + (y - x) / 4 * 2 - 1 + t))).2
      rw [q1]
      rfl
    refine xca rfl rfl (xor_ok h2 t5 r.toNat_lt) ?_
    rintro v W3 ⟨rfl, hS3, hu3⟩
    rw [← xorNext_toNat] at hS3
    rw [← xorNext_toNat]
    have hB3 := t4.upd hu3 (by simp; exact hne)
    have hr := (xorNext r).toNat_lt
    have hands : (xorNext r).toNat &&& (md - 1) ≤ md - 1 := Nat.and_le_right
    refine xr 1 rfl ?_
    refine xpu (pv_subU (a := md) (b := 1) rfl rfl (by omega) (by omega)) rfl ?_
    refine xpu (pv_andU (a := (xorNext r).toNat) (b := md - 1) rfl rfl hr (by omega)) rfl ?_
    refine xpu (pv_toI (a := (xorNext r).toNat &&& (md - 1)) rfl (by omega)) rfl ?_
    refine xr 3 rfl ?_
    have hstep : ∀ o, o = (if (xorNext r).toNat &&& (md - 1) ≥ y - x then ((xorNext r).toNat &&& (md - 1)) - (y - x) else (xorNext r).toNat &&& (md - 1)) → breakStep x (y - x) md (r, dk) (x + (y - x) / 4 * 2 - 1 + t) = (xorNext r, swp dk (x + (y - x) / 4 * 2 - 1 + t) (x + o)) := by
      rintro o rfl; rfl
    by_cases hge : y - x ≤ (xorNext r).toNat &&& (md - 1)
    · refine xpu (pv_geqI (a := (xorNext r).toNat &&& (md - 1)) (b := y - x) (q := true) rfl rfl (by simpa using hge)) rfl ?_
      refine xr 3 rfl ?_
      refine xpu (pv_subI (a := (xorNext r).toNat &&& (md - 1)) (b := y - x) rfl rfl hge (by omega)) rfl ?_
      refine xr 2 rfl ?_
      have e1 := hstep (((xorNext r).toNat &&& (md - 1)) - (y - x)) (by rw [if_pos hge])
      generalize ho : ((xorNext r).toNat &&& (md - 1)) - (y - x) = o at e1
      have ho2 : o < y - x := by omega
      refine exec_dws [b] 17 (fun W => Blk W b (splice (row dk rest) (0 + (x + (y - x) / 4 * 2 - 1 + t) * 1) (Value.cells (u64V dk[x + o]!)).toList)) (fun W W' h hu => h.upd hu) rfl rfl rfl ?_
      repeat (first | refine ws_auto rfl rfl rfl ?_ | refine ws_gauto rfl rfl rfl rfl ?_ | refine wgs rfl rfl ?_)
      refine ws_val rfl (pv_addI (a := x) (b := o) rfl rfl (by omega)) ?_
      repeat (first | refine ws_auto rfl rfl rfl ?_ | refine ws_gauto rfl rfl rfl rfl ?_ | refine wgs rfl rfl ?_)
      refine ws_val rfl (pv_addI (a := x) (b := o) rfl rfl (by omega)) ?_
      refine ws_any _ rfl (fun W => ok_iaddr (b := b) (o := 0) (len := n) (cap := cap) rfl rfl (x + o) rfl (by omega)) ?_
      refine ws_ok (u64V dk[x + o]!) rfl rfl (fun W hu => ok_load1 (b := b) (o := 0 + (x + o) * 1) rfl ((hB3.upd hu).cell (row_get (by omega)))) ?_
      repeat (first | refine ws_auto rfl rfl rfl ?_ | refine ws_gauto rfl rfl rfl rfl ?_ | refine wgs rfl rfl ?_)
      refine ws_any _ rfl (fun W => ok_iaddr (b := b) (o := 0) (len := n) (cap := cap) rfl rfl (x + (y - x) / 4 * 2 - 1 + t) rfl (by omega)) ?_
      refine ws_ok (u64V dk[x + (y - x) / 4 * 2 - 1 + t]!) rfl rfl (fun W hu => ok_load1 (b := b) (o := 0 + (x + (y - x) / 4 * 2 - 1 + t) * 1) rfl ((hB3.upd hu).cell (row_get (by omega)))) ?_
      refine ws_any _ rfl (fun W => ok_iaddr (b := b) (o := 0) (len := n) (cap := cap) rfl rfl (x + (y - x) / 4 * 2 - 1 + t) rfl (by omega)) ?_
      refine ws_store rfl rfl rfl hB3 rfl (by rw [row_length]; omega) rfl (by simp) (fun W h => h) ?_
      refine ws_end fun W_a hu_a hW_a => ?_
      refine xju (ok_iaddr (b := b) (o := 0) (len := n) (cap := cap) rfl rfl (x + o) rfl (by omega)) rfl ?_
      refine exec_store (b := b) (o := 0 + (x + o) * 1) (v := u64V dk[x + (y - x) / 4 * 2 - 1 + t]!) rfl rfl (hW_a rfl) rfl (by rw [row_set (by omega), row_length]; simp; omega) rfl ?_
      intro W4 hu_b _ hB4
      rw [row_swp (by omega) (by omega)] at hB4
      have hu4 := hu_a.trans hu_b (by simp)
      refine xr 1 rfl ?_
      exact exec_meet o ⟨e1, hB4, hS3.upd hu4 (by simp; omega), (t6.trans hu3 (fun z hz => .inr (by simp at hz; omega))).trans hu4 (by simp)⟩ ⟨rfl, rfl, rfl, rfl, rfl, rfl, rfl, trivial⟩
    · refine xpu (pv_geqI (a := (xorNext r).toNat &&& (md - 1)) (b := y - x) (q := false) rfl rfl (by simpa using hge)) rfl ?_
      refine xr 2 rfl ?_
      have e1 := hstep ((xorNext r).toNat &&& (md - 1)) (by rw [if_neg hge])
      generalize ho : (xorNext r).toNat &&& (md - 1) = o at e1 hge
      have ho2 : o < y - x := by omega
      refine exec_dws [b] 17 (fun W => Blk W b (splice (row dk rest) (0 + (x + (y - x) / 4 * 2 - 1 + t) * 1) (Value.cells (u64V dk[x + o]!)).toList)) (fun W W' h hu => h.upd hu) rfl rfl rfl ?_
      repeat (first | refine ws_auto rfl rfl rfl ?_ | refine ws_gauto rfl rfl rfl rfl ?_ | refine wgs rfl rfl ?_)
      refine ws_val rfl (pv_addI (a := x) (b := o) rfl rfl (by omega)) ?_
      repeat (first | refine ws_auto rfl rfl rfl ?_ | refine ws_gauto rfl rfl rfl rfl ?_ | refine wgs rfl rfl ?_)
      refine ws_val rfl (pv_addI (a := x) (b := o) rfl rfl (by omega)) ?_
      refine ws_any _ rfl (fun W => ok_iaddr (b := b) (o := 0) (len := n) (cap := cap) rfl rfl (x + o) rfl (by omega)) ?_
      refine ws_ok (u64V dk[x + o]!) rfl rfl (fun W hu => ok_load1 (b := b) (o := 0 + (x + o) * 1) rfl ((hB3.upd hu).cell (row_get (by omega)))) ?_
      repeat (first | refine ws_auto rfl rfl rfl ?_ | refine ws_gauto rfl rfl rfl rfl ?_ | refine wgs rfl rfl ?_)
      refine ws_any _ rfl (fun W => ok_iaddr (b := b) (o := 0) (len := n) (cap := cap) rfl rfl (x + (y - x) / 4 * 2 - 1 + t) rfl (by omega)) ?_
      refine ws_ok (u64V dk[x + (y - x) / 4 * 2 - 1 + t]!) rfl rfl (fun W hu => ok_load1 (b := b) (o := 0 + (x + (y - x) / 4 * 2 - 1 + t) * 1) rfl ((hB3.upd hu).cell (row_get (by omega)))) ?_
      refine ws_any _ rfl (fun W => ok_iaddr (b := b) (o := 0) (len := n) (cap := cap) rfl rfl (x + (y - x) / 4 * 2 - 1 + t) rfl (by omega)) ?_
      refine ws_store rfl rfl rfl hB3 rfl (by rw [row_length]; omega) rfl (by simp) (fun W h => h) ?_
      refine ws_end fun W_a hu_a hW_a => ?_
      refine xju (ok_iaddr (b := b) (o := 0) (len := n) (cap := cap) rfl rfl (x + o) rfl (by omega)) rfl ?_
      refine exec_store (b := b) (o := 0 + (x + o) * 1) (v := u64V dk[x + (y - x) / 4 * 2 - 1 + t]!) rfl rfl (hW_a rfl) rfl (by rw [row_set (by omega), row_length]; simp; omega) rfl ?_
      intro W4 hu_b _ hB4
      rw [row_swp (by omega) (by omega)] at hB4
      have hu4 := hu_a.trans hu_b (by simp)
      refine xr 1 rfl ?_
      exact exec_meet o ⟨e1, hB4, hS3.upd hu4 (by simp; omega), (t6.trans hu3 (fun z hz => .inr (by simp at hz; omega))).trans hu4 (by simp)⟩ ⟨rfl, rfl, rfl, rfl, rfl, rfl, rfl, trivial⟩
  · refine xpu (pv_leqI (a := x + (y - x) / 4 * 2 - 1 + t) (b := x + (y - x) / 4 * 2 + 1) (q := false) rfl rfl (by simp; omega)) rfl ?_
    refine xr 4 rfl ?_
    refine exec_end hc [] trivial ?_
    have : t = 3 := by omega
    subst this
    rw [← t3]
    exact ⟨t4, t6⟩
end
end Go.Sp

namespace Go.Sp
open Go.Sort (swp scanUp scanDown partEqLoop partEqLoop_eq partLoop partLoop_eq partitionEqual partition)
theorem scanUp_if (p : Nat → Bool) (d : Array Nat) (j i : Nat) : scanUp p d j i = if i ≤ j && p d[i]! then scanUp p d j (i + 1) else i := by rw [scanUp]
theorem scanDown_succ (p : Nat → Bool) (d : Array Nat) (i j : Nat) : scanDown p d i (j + 1) = if i ≤ j + 1 && p d[j + 1]! then scanDown p d i j else j + 1 := rfl
section
variable {P : Program} {f : Nat} {w : World} (A : SortF P)
set_option maxHeartbeats 1000000 in
theorem partEq_ok (h : Has P f (b_slices_partitionEqualOrdered_uint64 A.less)) {b n cap x y p : Nat} {d : Array Nat} {rest : List Value} (hB : Blk w b (row d rest)) (hd : d.size = n) (hxp : x ≤ p) (hpy : p < y) (hy : y ≤ n) (hn : n < 2 ^ 40) :
    Ret P f [slV b n cap, intV' x, intV' y, intV' p] w fun v w' => v = intV' (partitionEqual ltN d x y p).1 ∧ Blk w' b (row (partitionEqual ltN d x y p).2 rest) ∧ Upd [b] w w' := by
  refine Ret.of_exec h (Nat.le_of_ble_eq_true rfl) fun c hc => ?_
  dsimp only [b_slices_partitionEqualOrdered_uint64, argEnv, ym, yo, yg, ys, yt, yd, ye]
  refine xr 1 rfl ?_
  refine exec_dws [b] 13 (fun W => Blk W b (splice (row d rest) (0 + x * 1) (Value.cells (u64V d[p]!)).toList)) (fun W W' h hu => h.upd hu) rfl rfl rfl ?_
  repeat (first | refine ws_auto rfl rfl rfl ?_ | refine ws_gauto rfl rfl rfl rfl ?_ | refine wgs rfl rfl ?_)
  refine ws_any _ rfl (fun W => ok_iaddr (b := b) (o := 0) (len := n) (cap := cap) rfl rfl (p) rfl (by omega)) ?_
  refine ws_ok (u64V d[p]!) rfl rfl (fun W hu => ok_load1 (b := b) (o := 0 + (p) * 1) rfl ((hB.upd hu).cell (row_get (by omega)))) ?_
  repeat (first | refine ws_auto rfl rfl rfl ?_ | refine ws_gauto rfl rfl rfl rfl ?_ | refine wgs rfl rfl ?_)
  refine ws_any _ rfl (fun W => ok_iaddr (b := b) (o := 0) (len := n) (cap := cap) rfl rfl (x) rfl (by omega)) ?_
  refine ws_ok (u64V d[x]!) rfl rfl (fun W hu => ok_load1 (b := b) (o := 0 + (x) * 1) rfl ((hB.upd hu).cell (row_get (by omega)))) ?_
  refine ws_any _ rfl (fun W => ok_iaddr (b := b) (o := 0) (len := n) (cap := cap) rfl rfl (x) rfl (by omega)) ?_
  refine ws_store rfl rfl rfl hB rfl (by rw [row_length]; omega) rfl (by simp) (fun W h => h) ?_
  refine ws_end fun W_a hu_a hW_a => ?_
  refine xju (ok_iaddr (b := b) (o := 0) (len := n) (cap := cap) rfl rfl (p) rfl (by omega)) rfl ?_
  refine exec_store (b := b) (o := 0 + (p) * 1) (v := u64V d[x]!) rfl rfl (hW_a rfl) rfl (by rw [row_set (by omega), row_length]; simp; omega) rfl ?_
  intro W0 hu_b _ hB0
  rw [row_swp (by omega) (by omega)] at hB0
  have hu0 := hu_a.trans hu_b (by simp)
  refine xr 1 rfl ?_
  refine xpu (pv_addI (a := x) (b := 1) rfl rfl (by omega)) rfl ?_
  refine xr 1 rfl ?_
  refine xpu (pv_subI (a := y) (b := 1) rfl rfl (by omega) (by omega)) rfl ?_
  refine xr 3 rfl ?_
  refine xlo (S := Nat × Nat × Array Nat) (fun s W => x < s.1 ∧ s.1 ≤ s.2.1 + 2 ∧ s.2.1 < y ∧ s.2.2.size = n ∧ partEqLoop ltN x s.1 s.2.1 s.2.2 = partitionEqual ltN d x y p ∧ Blk W b (row s.2.2 rest) ∧ Upd [b] w W)
    (fun s => [(0, slV b n cap), (1, intV' x), (2, intV' y), (9, intV' s.1), (10, intV' s.2.1)]) (fun s => s.2.1 + 3 - s.1) (x + 1, y - 1, swp d x p) ⟨by show x < x + 1; omega, by show x + 1 ≤ y - 1 + 2; omega, by show y - 1 < y; omega, by rw [swp_size]; exact hd, rfl, hB0, hu0⟩ ⟨rfl, rfl, rfl, rfl, rfl, trivial⟩ ?_
  rintro ⟨i, j, dk⟩ W ⟨g1, g2, g3, g4, gE, g5, g6⟩
  simp only at g1 g2 g3 g4 gE g5
  rw [partEqLoop_eq] at gE
  refine xr 2 rfl ?_
  skip
  refine exec_inner_join (S := Nat) (fun i2 W => x < i2 ∧ i2 ≤ j + 2 ∧ i ≤ i2 ∧ i2 = scanUp (fun z => !ltN dk[x]! z) dk j i ∧ Blk W b (row dk rest) ∧ Upd [b] w W) (fun i2 => [(0, slV b n cap), (1, intV' x), (2, intV' y), (9, intV' i2), (10, intV' j)]) ?_ ?_
  · refine xlo (S := Nat) (fun s W => x < s ∧ s ≤ j + 2 ∧ i ≤ s ∧ scanUp (fun z => !ltN dk[x]! z) dk j s = scanUp (fun z => !ltN dk[x]! z) dk j i ∧ Blk W b (row dk rest) ∧ Upd [b] w W) (fun s => [(0, slV b n cap), (1, intV' x), (2, intV' y), (9, intV' s), (10, intV' j)]) (fun s => j + 3 - s) i ⟨by omega, by omega, Nat.le_refl _, rfl, g5, g6⟩ ⟨rfl, rfl, rfl, rfl, rfl, trivial⟩ ?_
    rintro s W_1 ⟨s1, s2, s3, s4, s5, s6⟩
    by_cases hsj : s ≤ j
    · refine exec_dw [] rfl rfl rfl ?_
      refine dau rfl (fun _ => rfl) ?_
      refine dau rfl (fun _ => rfl) ?_
      refine dw_val (fun _ => pv_leqI (a := s) (b := j) (q := true) rfl rfl (by simpa using hsj)) ?_
      repeat (first | refine dau rfl (fun _ => rfl) ?_ | refine dga rfl (fun _ => rfl) (fun _ => rfl) ?_ | refine dgs (fun _ => rfl) ?_)
      refine dw_gok _ (fun _ => rfl) (fun vs W' hu _ => (ok_iaddr (b := b) (o := 0) (len := n) (cap := cap) rfl rfl (x) rfl (by omega)).keep _) ?_
      refine dw_gok (u64V dk[x]!) (fun _ => rfl) (fun vs W' hu _ => (ok_load1 (b := b) (o := 0 + (x) * 1) rfl ((s5.upd hu).cell (row_get (by omega)))).keep _) ?_
      repeat (first | refine dau rfl (fun _ => rfl) ?_ | refine dga rfl (fun _ => rfl) (fun _ => rfl) ?_ | refine dgs (fun _ => rfl) ?_)
      refine dw_gok _ (fun _ => rfl) (fun vs W' hu _ => (ok_iaddr (b := b) (o := 0) (len := n) (cap := cap) rfl rfl (s) rfl (by omega)).keep _) ?_
      refine dw_gok (u64V dk[s]!) (fun _ => rfl) (fun vs W' hu _ => (ok_load1 (b := b) (o := 0 + (s) * 1) rfl ((s5.upd hu).cell (row_get (by omega)))).keep _) ?_
      refine dw_end fun vs W_2 hu_2 _ => ?_
      refine xr 1 rfl ?_
      refine xca rfl rfl (less_ok A.h_nan A.h_less dk[x]! dk[s]!) ?_
      rintro v W_3 ⟨rfl, hu_3⟩
      have hu_23 := hu_2.trans hu_3
      refine xr 3 rfl ?_
      refine exec_cond rfl (fun hq => ?_) (fun hq => ?_)
      · refine xr 3 rfl ?_
        refine xpu (pv_addI (a := s) (b := 1) rfl rfl (by omega)) rfl ?_
        refine xr 3 rfl ?_
        refine xag (s + 1) ⟨by omega, by omega, by omega, ?_, s5.upd hu_23, s6.trans hu_23 (by simp)⟩ (by show j + 3 - (s + 1) < j + 3 - s; omega) ⟨rfl, rfl, rfl, rfl, rfl, trivial⟩
        rw [← s4, scanUp_if _ _ _ s, if_pos (by simp only [Bool.and_eq_true, decide_eq_true_eq]; exact ⟨hsj, hq⟩)]
      · refine xr 1 rfl ?_
        refine exec_meet s ⟨s1, s2, s3, ?_, s5.upd hu_23, s6.trans hu_23 (by simp)⟩ ⟨rfl, rfl, rfl, rfl, rfl, trivial⟩
        rw [← s4, scanUp_if _ _ _ s, if_neg (by simp only [Bool.and_eq_true, decide_eq_true_eq]; rintro ⟨_, h⟩; exact Bool.false_ne_true (hq.symm.trans h))]
    · refine exec_dw [] rfl rfl rfl ?_
      refine dau rfl (fun _ => rfl) ?_
      refine dau rfl (fun _ => rfl) ?_
      refine dw_val (fun _ => pv_leqI (a := s) (b := j) (q := false) rfl rfl (by simpa using hsj)) ?_
      repeat (first | refine dau rfl (fun _ => rfl) ?_ | refine dga rfl (fun _ => rfl) (fun _ => rfl) ?_ | refine dgs (fun _ => rfl) ?_)
      refine dw_end fun vs W_2 hu_2 _ => ?_
      refine xr 5 rfl ?_
      refine exec_meet s ⟨s1, s2, s3, ?_, s5.upd hu_2, s6.trans hu_2 (by simp)⟩ ⟨rfl, rfl, rfl, rfl, rfl, trivial⟩
      rw [← s4, scanUp_if _ _ _ s, if_neg (by simp only [Bool.and_eq_true, decide_eq_true_eq]; rintro ⟨h, _⟩; exact hsj h)]
  rintro i2 W1 ⟨u1, u2, u3, u4, u5, u6⟩
  refine xr 1 rfl ?_
  refine exec_inner_join (S := Nat) (fun j2 W => j2 ≤ j ∧ j2 = scanDown (fun z => ltN dk[x]! z) dk i2 j ∧ Blk W b (row dk rest) ∧ Upd [b] w W) (fun j2 => [(0, slV b n cap), (1, intV' x), (2, intV' y), (9, intV' i2), (10, intV' j2)]) ?_ ?_
  · refine xlo (S := Nat) (fun s W => s ≤ j ∧ scanDown (fun z => ltN dk[x]! z) dk i2 s = scanDown (fun z => ltN dk[x]! z) dk i2 j ∧ Blk W b (row dk rest) ∧ Upd [b] w W) (fun s => [(0, slV b n cap), (1, intV' x), (2, intV' y), (9, intV' i2), (10, intV' s)]) (fun s => s) j ⟨Nat.le_refl _, rfl, u5, u6⟩ ⟨rfl, rfl, rfl, rfl, rfl, trivial⟩ ?_
    rintro s W_1 ⟨s1, s4, s5, s6⟩
    by_cases hsj : i2 ≤ s
    · obtain ⟨s, rfl⟩ : ∃ t, s = t + 1 := ⟨s - 1, by omega⟩
      refine exec_dw [] rfl rfl rfl ?_
      refine dau rfl (fun _ => rfl) ?_
      refine dau rfl (fun _ => rfl) ?_
      refine dw_val (fun _ => pv_leqI (a := i2) (b := s + 1) (q := true) rfl rfl (by simpa using hsj)) ?_
      repeat (first | refine dau rfl (fun _ => rfl) ?_ | refine dga rfl (fun _ => rfl) (fun _ => rfl) ?_ | refine dgs (fun _ => rfl) ?_)
      refine dw_gok _ (fun _ => rfl) (fun vs W' hu _ => (ok_iaddr (b := b) (o := 0) (len := n) (cap := cap) rfl rfl (x) rfl (by omega)).keep _) ?_
      refine dw_gok (u64V dk[x]!) (fun _ => rfl) (fun vs W' hu _ => (ok_load1 (b := b) (o := 0 + (x) * 1) rfl ((s5.upd hu).cell (row_get (by omega)))).keep _) ?_
      repeat (first | refine dau rfl (fun _ => rfl) ?_ | refine dga rfl (fun _ => rfl) (fun _ => rfl) ?_ | refine dgs (fun _ => rfl) ?_)
      refine dw_gok _ (fun _ => rfl) (fun vs W' hu _ => (ok_iaddr (b := b) (o := 0) (len := n) (cap := cap) rfl rfl (s + 1) rfl (by omega)).keep _) ?_
      refine dw_gok (u64V dk[s + 1]!) (fun _ => rfl) (fun vs W' hu _ => (ok_load1 (b := b) (o := 0 + (s + 1) * 1) rfl ((s5.upd hu).cell (row_get (by omega)))).keep _) ?_
      refine dw_end fun vs W_2 hu_2 _ => ?_
      refine xr 1 rfl ?_
      refine xca rfl rfl (less_ok A.h_nan A.h_less dk[x]! dk[s + 1]!) ?_
      rintro v W_3 ⟨rfl, hu_3⟩
      have hu_23 := hu_2.trans hu_3
      refine xr 1 rfl ?_
      refine exec_cond rfl (fun hq => ?_) (fun hq => ?_)
      · refine xr 3 rfl ?_
        refine xpu (pv_subI (a := s + 1) (b := 1) rfl rfl (by omega) (by omega)) rfl ?_
        refine xr 3 rfl ?_
        refine xag s ⟨by omega, ?_, s5.upd hu_23, s6.trans hu_23 (by simp)⟩ (by show s < s + 1; omega) ⟨rfl, rfl, rfl, rfl, rfl, trivial⟩
        rw [← s4, scanDown_succ, if_pos (by simp only [Bool.and_eq_true, decide_eq_true_eq]; exact ⟨hsj, hq⟩)]
      · refine xr 1 rfl ?_
        refine exec_meet (s + 1) ⟨s1, ?_, s5.upd hu_23, s6.trans hu_23 (by simp)⟩ ⟨rfl, rfl, rfl, rfl, rfl, trivial⟩
        rw [← s4, scanDown_succ, if_neg (by simp only [Bool.and_eq_true, decide_eq_true_eq]; rintro ⟨_, h⟩; exact Bool.false_ne_true (hq.symm.trans h))]
    · refine exec_dw [] rfl rfl rfl ?_
      refine dau rfl (fun _ => rfl) ?_
      refine dau rfl (fun _ => rfl) ?_
      refine dw_val (fun _ => pv_leqI (a := i2) (b := s) (q := false) rfl rfl (by simpa using hsj)) ?_
      repeat (first | refine dau rfl (fun _ => rfl) ?_ | refine dga rfl (fun _ => rfl) (fun _ => rfl) ?_ | refine dgs (fun _ => rfl) ?_)
      refine dw_end fun vs W_2 hu_2 _ => ?_
      refine xr 4 rfl ?_
      refine exec_meet s ⟨s1, ?_, s5.upd hu_2, s6.trans hu_2 (by simp)⟩ ⟨rfl, rfl, rfl, rfl, rfl, trivial⟩
      rw [← s4]
      cases s with
      | zero => rfl
      | succ s => rw [scanDown_succ, if_neg (by simp only [Bool.and_eq_true, decide_eq_true_eq]; rintro ⟨h, _⟩; exact hsj h)]
  rintro j2 W2 ⟨v1, v4, v5, v6⟩
  refine xr 2 rfl ?_
  by_cases hij : j2 < i2
  · refine xpu (pv_gtrI (a := i2) (b := j2) (q := true) rfl rfl (by simpa using hij)) rfl ?_
    refine xr 5 rfl ?_
    refine xre hc [_] ⟨rfl, trivial⟩ ?_
    rw [← gE, ← u4, ← v4, if_pos hij]
    exact ⟨rfl, v5, v6⟩
  · refine xpu (pv_gtrI (a := i2) (b := j2) (q := false) rfl rfl (by simpa using hij)) rfl ?_
    refine xr 2 rfl ?_
    refine exec_dws [b] 13 (fun W => Blk W b (splice (row dk rest) (0 + i2 * 1) (Value.cells (u64V dk[j2]!)).toList)) (fun W W' h hu => h.upd hu) rfl rfl rfl ?_
    repeat (first | refine ws_auto rfl rfl rfl ?_ | refine ws_gauto rfl rfl rfl rfl ?_ | refine wgs rfl rfl ?_)
    refine ws_any _ rfl (fun W => ok_iaddr (b := b) (o := 0) (len := n) (cap := cap) rfl rfl (j2) rfl (by omega)) ?_
    refine ws_ok (u64V dk[j2]!) rfl rfl (fun W hu => ok_load1 (b := b) (o := 0 + (j2) * 1) rfl ((v5.upd hu).cell (row_get (by omega)))) ?_
    repeat (first | refine ws_auto rfl rfl rfl ?_ | refine ws_gauto rfl rfl rfl rfl ?_ | refine wgs rfl rfl ?_)
    refine ws_any _ rfl (fun W => ok_iaddr (b := b) (o := 0) (len := n) (cap := cap) rfl rfl (i2) rfl (by omega)) ?_
    refine ws_ok (u64V dk[i2]!) rfl rfl (fun W hu => ok_load1 (b := b) (o := 0 + (i2) * 1) rfl ((v5.upd hu).cell (row_get (by omega)))) ?_
    refine ws_any _ rfl (fun W => ok_iaddr (b := b) (o := 0) (len := n) (cap := cap) rfl rfl (i2) rfl (by omega)) ?_
    refine ws_store rfl rfl rfl v5 rfl (by rw [row_length]; omega) rfl (by simp) (fun W h => h) ?_
    refine ws_end fun W_a hu_a hW_a => ?_
    refine xju (ok_iaddr (b := b) (o := 0) (len := n) (cap := cap) rfl rfl (j2) rfl (by omega)) rfl ?_
    refine exec_store (b := b) (o := 0 + (j2) * 1) (v := u64V dk[i2]!) rfl rfl (hW_a rfl) rfl (by rw [row_set (by omega), row_length]; simp; omega) rfl ?_
    intro W3 hu_b _ hB3
    rw [row_swp (by omega) (by omega)] at hB3
    have hu3 := hu_a.trans hu_b (by simp)
    refine xr 1 rfl ?_
    refine xpu (pv_addI (a := i2) (b := 1) rfl rfl (by omega)) rfl ?_
    refine xr 2 rfl ?_
    refine xpu (pv_subI (a := j2) (b := 1) rfl rfl (by omega) (by omega)) rfl ?_
    refine xr 3 rfl ?_
    refine xag (i2 + 1, j2 - 1, swp dk i2 j2) ⟨by show x < i2 + 1; omega, by show i2 + 1 ≤ j2 - 1 + 2; omega, by show j2 - 1 < y; omega, by rw [swp_size]; exact g4, ?_, hB3, v6.trans hu3 (by simp)⟩ (by show j2 - 1 + 3 - (i2 + 1) < j + 3 - i; omega) ⟨rfl, rfl, rfl, rfl, rfl, trivial⟩
    rw [← u4, ← v4, if_neg hij] at gE
    exact gE
set_option maxHeartbeats 2000000 in
theorem part_ok (h : Has P f (b_slices_partitionOrdered_uint64 A.less)) {b n cap x y p : Nat} {d : Array Nat} {rest : List Value} (hB : Blk w b (row d rest)) (hd : d.size = n) (hxp : x ≤ p) (hpy : p < y) (hy : y ≤ n) (hn : n < 2 ^ 40) :
    Ret P f [slV b n cap, intV' x, intV' y, intV' p] w fun v w' => v = .tuple #[intV' (partition ltN d x y p).1, .bool (partition ltN d x y p).2.1] ∧ Blk w' b (row (partition ltN d x y p).2.2 rest) ∧ Upd [b] w w' := by
  refine Ret.of_exec h (Nat.le_of_ble_eq_true rfl) fun c hc => ?_
  dsimp only [b_slices_partitionOrdered_uint64, argEnv, ym, yo, yg, ys, yt, yd, ye]
  refine xr 2 rfl ?_
  refine exec_dws [b] 13 (fun W => Blk W b (splice (row d rest) (0 + x * 1) (Value.cells (u64V d[p]!)).toList)) (fun W W' h hu => h.upd hu) rfl rfl rfl ?_
  repeat (first | refine ws_auto rfl rfl rfl ?_ | refine ws_gauto rfl rfl rfl rfl ?_ | refine wgs rfl rfl ?_)
  refine ws_any _ rfl (fun W => ok_iaddr (b := b) (o := 0) (len := n) (cap := cap) rfl rfl (p) rfl (by omega)) ?_
  refine ws_ok (u64V d[p]!) rfl rfl (fun W hu => ok_load1 (b := b) (o := 0 + (p) * 1) rfl ((hB.upd hu).cell (row_get (by omega)))) ?_
  repeat (first | refine ws_auto rfl rfl rfl ?_ | refine ws_gauto rfl rfl rfl rfl ?_ | refine wgs rfl rfl ?_)
  refine ws_any _ rfl (fun W => ok_iaddr (b := b) (o := 0) (len := n) (cap := cap) rfl rfl (x) rfl (by omega)) ?_
  refine ws_ok (u64V d[x]!) rfl rfl (fun W hu => ok_load1 (b := b) (o := 0 + (x) * 1) rfl ((hB.upd hu).cell (row_get (by omega)))) ?_
  refine ws_any _ rfl (fun W => ok_iaddr (b := b) (o := 0) (len := n) (cap := cap) rfl rfl (x) rfl (by omega)) ?_
  refine ws_store rfl rfl rfl hB rfl (by rw [row_length]; omega) rfl (by simp) (fun W h => h) ?_
  refine ws_end fun W_a hu_a hW_a => ?_
  refine xju (ok_iaddr (b := b) (o := 0) (len := n) (cap := cap) rfl rfl (p) rfl (by omega)) rfl ?_
  refine exec_store (b := b) (o := 0 + (p) * 1) (v := u64V d[x]!) rfl rfl (hW_a rfl) rfl (by rw [row_set (by omega), row_length]; simp; omega) rfl ?_
  intro W0 hu_b _ hB0
  rw [row_swp (by omega) (by omega)] at hB0
  have hu0 := hu_a.trans hu_b (by simp)
  refine xr 1 rfl ?_
  refine xpu (pv_addI (a := x) (b := 1) rfl rfl (by omega)) rfl ?_
  refine xr 1 rfl ?_
  refine xpu (pv_subI (a := y) (b := 1) rfl rfl (by omega) (by omega)) rfl ?_
  refine xr 3 rfl ?_
  obtain ⟨i, hi⟩ : ∃ i, i = x + 1 := ⟨_, rfl⟩
  obtain ⟨j, hj⟩ : ∃ j, j = y - 1 := ⟨_, rfl⟩
  obtain ⟨dk, hdk⟩ : ∃ dk, dk = swp d x p := ⟨_, rfl⟩
  have g4 : dk.size = n := by rw [hdk, swp_size]; exact hd
  have hres : partition ltN d x y p = if scanUp (fun z => ltN z dk[x]!) dk j i > scanDown (fun z => !ltN z dk[x]!) dk (scanUp (fun z => ltN z dk[x]!) dk j i) j then (scanDown (fun z => !ltN z dk[x]!) dk (scanUp (fun z => ltN z dk[x]!) dk j i) j, true, swp dk (scanDown (fun z => !ltN z dk[x]!) dk (scanUp (fun z => ltN z dk[x]!) dk j i) j) x)
      else ((partLoop ltN x (scanUp (fun z => ltN z dk[x]!) dk j i + 1) (scanDown (fun z => !ltN z dk[x]!) dk (scanUp (fun z => ltN z dk[x]!) dk j i) j - 1) (swp dk (scanUp (fun z => ltN z dk[x]!) dk j i) (scanDown (fun z => !ltN z dk[x]!) dk (scanUp (fun z => ltN z dk[x]!) dk j i) j))).1, false,
        swp (partLoop ltN x (scanUp (fun z => ltN z dk[x]!) dk j i + 1) (scanDown (fun z => !ltN z dk[x]!) dk (scanUp (fun z => ltN z dk[x]!) dk j i) j - 1) (swp dk (scanUp (fun z => ltN z dk[x]!) dk j i) (scanDown (fun z => !ltN z dk[x]!) dk (scanUp (fun z => ltN z dk[x]!) dk j i) j))).2 (partLoop ltN x (scanUp (fun z => ltN z dk[x]!) dk j i + 1) (scanDown (fun z => !ltN z dk[x]!) dk (scanUp (fun z => ltN z dk[x]!) dk j i) j - 1) (swp dk (scanUp (fun z => ltN z dk[x]!) dk j i) (scanDown (fun z => !ltN z dk[x]!) dk (scanUp (fun z => ltN z dk[x]!) dk j i) j))).1 x) := by
    subst hi hj hdk; rfl
  rw [← hi, ← hj]
  rw [← hdk] at hB0
  have g5 := hB0
  have g6 := hu0
  skip
  refine exec_inner_join (S := Nat) (fun i2 W => x < i2 ∧ i2 ≤ j + 2 ∧ i ≤ i2 ∧ i2 = scanUp (fun z => ltN z dk[x]!) dk j i ∧ Blk W b (row dk rest) ∧ Upd [b] w W) (fun i2 => [(0, slV b n cap), (1, intV' x), (2, intV' y), (10, intV' i2), (11, intV' j)]) ?_ ?_
  · refine xlo (S := Nat) (fun s W => x < s ∧ s ≤ j + 2 ∧ i ≤ s ∧ scanUp (fun z => ltN z dk[x]!) dk j s = scanUp (fun z => ltN z dk[x]!) dk j i ∧ Blk W b (row dk rest) ∧ Upd [b] w W) (fun s => [(0, slV b n cap), (1, intV' x), (2, intV' y), (10, intV' s), (11, intV' j)]) (fun s => j + 3 - s) i ⟨by omega, by omega, Nat.le_refl _, rfl, g5, g6⟩ ⟨rfl, rfl, rfl, rfl, rfl, trivial⟩ ?_
    rintro s W_1 ⟨s1, s2, s3, s4, s5, s6⟩
    by_cases hsj : s ≤ j
    · refine exec_dw [] rfl rfl rfl ?_
      refine dau rfl (fun _ => rfl) ?_
      refine dau rfl (fun _ => rfl) ?_
      refine dw_val (fun _ => pv_leqI (a := s) (b := j) (q := true) rfl rfl (by simpa using hsj)) ?_
      repeat (first | refine dau rfl (fun _ => rfl) ?_ | refine dga rfl (fun _ => rfl) (fun _ => rfl) ?_ | refine dgs (fun _ => rfl) ?_)
      refine dw_gok _ (fun _ => rfl) (fun vs W' hu _ => (ok_iaddr (b := b) (o := 0) (len := n) (cap := cap) rfl rfl (s) rfl (by omega)).keep _) ?_
      refine dw_gok (u64V dk[s]!) (fun _ => rfl) (fun vs W' hu _ => (ok_load1 (b := b) (o := 0 + (s) * 1) rfl ((s5.upd hu).cell (row_get (by omega)))).keep _) ?_
      repeat (first | refine dau rfl (fun _ => rfl) ?_ | refine dga rfl (fun _ => rfl) (fun _ => rfl) ?_ | refine dgs (fun _ => rfl) ?_)
      refine dw_gok _ (fun _ => rfl) (fun vs W' hu _ => (ok_iaddr (b := b) (o := 0) (len := n) (cap := cap) rfl rfl (x) rfl (by omega)).keep _) ?_
      refine dw_gok (u64V dk[x]!) (fun _ => rfl) (fun vs W' hu _ => (ok_load1 (b := b) (o := 0 + (x) * 1) rfl ((s5.upd hu).cell (row_get (by omega)))).keep _) ?_
      refine dw_end fun vs W_2 hu_2 _ => ?_
      refine xr 1 rfl ?_
      refine xca rfl rfl (less_ok A.h_nan A.h_less dk[s]! dk[x]!) ?_
      rintro v W_3 ⟨rfl, hu_3⟩
      have hu_23 := hu_2.trans hu_3
      refine xr 1 rfl ?_
      refine exec_cond rfl (fun hq => ?_) (fun hq => ?_)
      · refine xr 3 rfl ?_
        refine xpu (pv_addI (a := s) (b := 1) rfl rfl (by omega)) rfl ?_
        refine xr 3 rfl ?_
        refine xag (s + 1) ⟨by omega, by omega, by omega, ?_, s5.upd hu_23, s6.trans hu_23 (by simp)⟩ (by show j + 3 - (s + 1) < j + 3 - s; omega) ⟨rfl, rfl, rfl, rfl, rfl, trivial⟩
        rw [← s4, scanUp_if _ _ _ s, if_pos (by simp only [Bool.and_eq_true, decide_eq_true_eq]; exact ⟨hsj, hq⟩)]
      · refine xr 1 rfl ?_
        refine exec_meet s ⟨s1, s2, s3, ?_, s5.upd hu_23, s6.trans hu_23 (by simp)⟩ ⟨rfl, rfl, rfl, rfl, rfl, trivial⟩
        rw [← s4, scanUp_if _ _ _ s, if_neg (by simp only [Bool.and_eq_true, decide_eq_true_eq]; rintro ⟨_, h⟩; exact Bool.false_ne_true (hq.symm.trans h))]
    · refine exec_dw [] rfl rfl rfl ?_
      refine dau rfl (fun _ => rfl) ?_
      refine dau rfl (fun _ => rfl) ?_
      refine dw_val (fun _ => pv_leqI (a := s) (b := j) (q := false) rfl rfl (by simpa using hsj)) ?_
      repeat (first | refine dau rfl (fun _ => rfl) ?_ | refine dga rfl (fun _ => rfl) (fun _ => rfl) ?_ | refine dgs (fun _ => rfl) ?_)
      refine dw_end fun vs W_2 hu_2 _ => ?_
      refine xr 4 rfl ?_
      refine exec_meet s ⟨s1, s2, s3, ?_, s5.upd hu_2, s6.trans hu_2 (by simp)⟩ ⟨rfl, rfl, rfl, rfl, rfl, trivial⟩
      rw [← s4, scanUp_if _ _ _ s, if_neg (by simp only [Bool.and_eq_true, decide_eq_true_eq]; rintro ⟨h, _⟩; exact hsj h)]
  rintro i2 W1 ⟨u1, u2, u3, u4, u5, u6⟩
  refine xr 1 rfl ?_
  refine exec_inner_join (S := Nat) (fun j2 W => j2 ≤ j ∧ j2 = scanDown (fun z => !ltN z dk[x]!) dk i2 j ∧ Blk W b (row dk rest) ∧ Upd [b] w W) (fun j2 => [(0, slV b n cap), (1, intV' x), (2, intV' y), (10, intV' i2), (11, intV' j2)]) ?_ ?_
  · refine xlo (S := Nat) (fun s W => s ≤ j ∧ scanDown (fun z => !ltN z dk[x]!) dk i2 s = scanDown (fun z => !ltN z dk[x]!) dk i2 j ∧ Blk W b (row dk rest) ∧ Upd [b] w W) (fun s => [(0, slV b n cap), (1, intV' x), (2, intV' y), (10, intV' i2), (11, intV' s)]) (fun s => s) j ⟨Nat.le_refl _, rfl, u5, u6⟩ ⟨rfl, rfl, rfl, rfl, rfl, trivial⟩ ?_
    rintro s W_1 ⟨s1, s4, s5, s6⟩
    by_cases hsj : i2 ≤ s
    · obtain ⟨s, rfl⟩ : ∃ t, s = t + 1 := ⟨s - 1, by omega⟩
      refine exec_dw [] rfl rfl rfl ?_
      refine dau rfl (fun _ => rfl) ?_
      refine dau rfl (fun _ => rfl) ?_
      refine dw_val (fun _ => pv_leqI (a := i2) (b := s + 1) (q := true) rfl rfl (by simpa using hsj)) ?_
      repeat (first | refine dau rfl (fun _ => rfl) ?_ | refine dga rfl (fun _ => rfl) (fun _ => rfl) ?_ | refine dgs (fun _ => rfl) ?_)
      refine dw_gok _ (fun _ => rfl) (fun vs W' hu _ => (ok_iaddr (b := b) (o := 0) (len := n) (cap := cap) rfl rfl (s + 1) rfl (by omega)).keep _) ?_
      refine dw_gok (u64V dk[s + 1]!) (fun _ => rfl) (fun vs W' hu _ => (ok_load1 (b := b) (o := 0 + (s + 1) * 1) rfl ((s5.upd hu).cell (row_get (by omega)))).keep _) ?_
      repeat (first | refine dau rfl (fun _ => rfl) ?_ | refine dga rfl (fun _ => rfl) (fun _ => rfl) ?_ | refine dgs (fun _ => rfl) ?_)
      refine dw_gok _ (fun _ => rfl) (fun vs W' hu _ => (ok_iaddr (b := b) (o := 0) (len := n) (cap := cap) rfl rfl (x) rfl (by omega)).keep _) ?_
      refine dw_gok (u64V dk[x]!) (fun _ => rfl) (fun vs W' hu _ => (ok_load1 (b := b) (o := 0 + (x) * 1) rfl ((s5.upd hu).cell (row_get (by omega)))).keep _) ?_
      refine dw_end fun vs W_2 hu_2 _ => ?_
      refine xr 1 rfl ?_
      refine xca rfl rfl (less_ok A.h_nan A.h_less dk[s + 1]! dk[x]!) ?_
      rintro v W_3 ⟨rfl, hu_3⟩
      have hu_23 := hu_2.trans hu_3
      refine xr 3 rfl ?_
      refine exec_cond rfl (fun hq => ?_) (fun hq => ?_)
      · refine xr 3 rfl ?_
        refine xpu (pv_subI (a := s + 1) (b := 1) rfl rfl (by omega) (by omega)) rfl ?_
        refine xr 3 rfl ?_
        refine xag s ⟨by omega, ?_, s5.upd hu_23, s6.trans hu_23 (by simp)⟩ (by show s < s + 1; omega) ⟨rfl, rfl, rfl, rfl, rfl, trivial⟩
        rw [← s4, scanDown_succ, if_pos (by simp only [Bool.and_eq_true, decide_eq_true_eq]; exact ⟨hsj, hq⟩)]
      · refine xr 1 rfl ?_
        refine exec_meet (s + 1) ⟨s1, ?_, s5.upd hu_23, s6.trans hu_23 (by simp)⟩ ⟨rfl, rfl, rfl, rfl, rfl, trivial⟩
        rw [← s4, scanDown_succ, if_neg (by simp only [Bool.and_eq_true, decide_eq_true_eq]; rintro ⟨_, h⟩; exact Bool.false_ne_true (hq.symm.trans h))]
    · refine exec_dw [] rfl rfl rfl ?_
      refine dau rfl (fun _ => rfl) ?_
      refine dau rfl (fun _ => rfl) ?_
      refine dw_val (fun _ => pv_leqI (a := i2) (b := s) (q := false) rfl rfl (by simpa using hsj)) ?_
      repeat (first | refine dau rfl (fun _ => rfl) ?_ | refine dga rfl (fun _ => rfl) (fun _ => rfl) ?_ | refine dgs (fun _ => rfl) ?_)
      refine dw_end fun vs W_2 hu_2 _ => ?_
      refine xr 5 rfl ?_
      refine exec_meet s ⟨s1, ?_, s5.upd hu_2, s6.trans hu_2 (by simp)⟩ ⟨rfl, rfl, rfl, rfl, rfl, trivial⟩
      rw [← s4]
      cases s with
      | zero => rfl
      | succ s => rw [scanDown_succ, if_neg (by simp only [Bool.and_eq_true, decide_eq_true_eq]; rintro ⟨h, _⟩; exact hsj h)]
  rintro j2 W2 ⟨v1, v4, v5, v6⟩
  rw [← u4, ← v4] at hres
  refine xr 2 rfl ?_
  by_cases hij : j2 < i2
  · refine xpu (pv_gtrI (a := i2) (b := j2) (q := true) rfl rfl (by simpa using hij)) rfl ?_
    refine xr 1 rfl ?_
    refine exec_dws [b] 13 (fun W => Blk W b (splice (row dk rest) (0 + j2 * 1) (Value.cells (u64V dk[x]!)).toList)) (fun W W' h hu => h.upd hu) rfl rfl rfl ?_
    repeat (first | refine ws_auto rfl rfl rfl ?_ | refine ws_gauto rfl rfl rfl rfl ?_ | refine wgs rfl rfl ?_)
    refine ws_any _ rfl (fun W => ok_iaddr (b := b) (o := 0) (len := n) (cap := cap) rfl rfl (x) rfl (by omega)) ?_
    refine ws_ok (u64V dk[x]!) rfl rfl (fun W hu => ok_load1 (b := b) (o := 0 + (x) * 1) rfl ((v5.upd hu).cell (row_get (by omega)))) ?_
    repeat (first | refine ws_auto rfl rfl rfl ?_ | refine ws_gauto rfl rfl rfl rfl ?_ | refine wgs rfl rfl ?_)
    refine ws_any _ rfl (fun W => ok_iaddr (b := b) (o := 0) (len := n) (cap := cap) rfl rfl (j2) rfl (by omega)) ?_
    refine ws_ok (u64V dk[j2]!) rfl rfl (fun W hu => ok_load1 (b := b) (o := 0 + (j2) * 1) rfl ((v5.upd hu).cell (row_get (by omega)))) ?_
    refine ws_any _ rfl (fun W => ok_iaddr (b := b) (o := 0) (len := n) (cap := cap) rfl rfl (j2) rfl (by omega)) ?_
    refine ws_store rfl rfl rfl v5 rfl (by rw [row_length]; omega) rfl (by simp) (fun W h => h) ?_
    refine ws_end fun W_a hu_a hW_a => ?_
    refine xju (ok_iaddr (b := b) (o := 0) (len := n) (cap := cap) rfl rfl (x) rfl (by omega)) rfl ?_
    refine exec_store (b := b) (o := 0 + (x) * 1) (v := u64V dk[j2]!) rfl rfl (hW_a rfl) rfl (by rw [row_set (by omega), row_length]; simp; omega) rfl ?_
    intro W3 hu_b _ hB3
    rw [row_swp (by omega) (by omega)] at hB3
    have hu3 := hu_a.trans hu_b (by simp)
    refine xr 3 rfl ?_
    refine xre hc [_, _] ⟨rfl, rfl, trivial⟩ ?_
    rw [hres, if_pos hij]
    exact ⟨rfl, hB3, v6.trans hu3 (by simp)⟩
  · refine xpu (pv_gtrI (a := i2) (b := j2) (q := false) rfl rfl (by simpa using hij)) rfl ?_
    refine xr 2 rfl ?_
    rw [if_neg hij] at hres
    refine exec_dws [b] 13 (fun W => Blk W b (splice (row dk rest) (0 + i2 * 1) (Value.cells (u64V dk[j2]!)).toList)) (fun W W' h hu => h.upd hu) rfl rfl rfl ?_
    repeat (first | refine ws_auto rfl rfl rfl ?_ | refine ws_gauto rfl rfl rfl rfl ?_ | refine wgs rfl rfl ?_)
    refine ws_any _ rfl (fun W => ok_iaddr (b := b) (o := 0) (len := n) (cap := cap) rfl rfl (j2) rfl (by omega)) ?_
    refine ws_ok (u64V dk[j2]!) rfl rfl (fun W hu => ok_load1 (b := b) (o := 0 + (j2) * 1) rfl ((v5.upd hu).cell (row_get (by omega)))) ?_
    repeat (first | refine ws_auto rfl rfl rfl ?_ | refine ws_gauto rfl rfl rfl rfl ?_ | refine wgs rfl rfl ?_)
    refine ws_any _ rfl (fun W => ok_iaddr (b := b) (o := 0) (len := n) (cap := cap) rfl rfl (i2) rfl (by omega)) ?_
    refine ws_ok (u64V dk[i2]!) rfl rfl (fun W hu => ok_load1 (b := b) (o := 0 + (i2) * 1) rfl ((v5.upd hu).cell (row_get (by omega)))) ?_
    refine ws_any _ rfl (fun W => ok_iaddr (b := b) (o := 0) (len := n) (cap := cap) rfl rfl (i2) rfl (by omega)) ?_
    refine ws_store rfl rfl rfl v5 rfl (by rw [row_length]; omega) rfl (by simp) (fun W h => h) ?_
    refine ws_end fun W_a hu_a hW_a => ?_
    refine xju (ok_iaddr (b := b) (o := 0) (len := n) (cap := cap) rfl rfl (j2) rfl (by omega)) rfl ?_
    refine exec_store (b := b) (o := 0 + (j2) * 1) (v := u64V dk[i2]!) rfl rfl (hW_a rfl) rfl (by rw [row_set (by omega), row_length]; simp; omega) rfl ?_
    intro W3 hu_b _ hB3
    rw [row_swp (by omega) (by omega)] at hB3
    have hu3 := hu_a.trans hu_b (by simp)
    refine xr 1 rfl ?_
    refine xpu (pv_addI (a := i2) (b := 1) rfl rfl (by omega)) rfl ?_
    refine xr 2 rfl ?_
    refine xpu (pv_subI (a := j2) (b := 1) rfl rfl (by omega) (by omega)) rfl ?_
    refine xr 2 rfl ?_
    have hj2 : j2 < y := by omega
    have hu4 := v6.trans hu3 (by simp)
    generalize hpl : partLoop ltN x (i2 + 1) (j2 - 1) (swp dk i2 j2) = pl at hres
    clear g5 g6 u5 u6 v5 v6
    refine xlo (S := Nat × Nat × Array Nat) (fun s W => x < s.1 ∧ s.1 ≤ s.2.1 + 2 ∧ s.2.1 < y ∧ s.2.2.size = n ∧ partLoop ltN x s.1 s.2.1 s.2.2 = pl ∧ Blk W b (row s.2.2 rest) ∧ Upd [b] w W)
      (fun s => [(0, slV b n cap), (1, intV' x), (2, intV' y), (10, intV' s.1), (11, intV' s.2.1)]) (fun s => s.2.1 + 3 - s.1) (i2 + 1, j2 - 1, swp dk i2 j2) ⟨by show x < i2 + 1; omega, by show i2 + 1 ≤ j2 - 1 + 2; omega, by show j2 - 1 < y; omega, by rw [swp_size]; exact g4, hpl, hB3, hu4⟩ ⟨rfl, rfl, rfl, rfl, rfl, trivial⟩ ?_
    rintro ⟨i, j, dk⟩ W ⟨g1, g2, g3, g4, gE, g5, g6⟩
    simp only at g1 g2 g3 g4 gE g5
    rw [partLoop_eq] at gE
    refine xr 2 rfl ?_
    skip
    refine exec_inner_join (S := Nat) (fun i2 W => x < i2 ∧ i2 ≤ j + 2 ∧ i ≤ i2 ∧ i2 = scanUp (fun z => ltN z dk[x]!) dk j i ∧ Blk W b (row dk rest) ∧ Upd [b] w W) (fun i2 => [(0, slV b n cap), (1, intV' x), (2, intV' y), (10, intV' i2), (11, intV' j)]) ?_ ?_
    · refine xlo (S := Nat) (fun s W => x < s ∧ s ≤ j + 2 ∧ i ≤ s ∧ scanUp (fun z => ltN z dk[x]!) dk j s = scanUp (fun z => ltN z dk[x]!) dk j i ∧ Blk W b (row dk rest) ∧ Upd [b] w W) (fun s => [(0, slV b n cap), (1, intV' x), (2, intV' y), (10, intV' s), (11, intV' j)]) (fun s => j + 3 - s) i ⟨by omega, by omega, Nat.le_refl _, rfl, g5, g6⟩ ⟨rfl, rfl, rfl, rfl, rfl, trivial⟩ ?_
      rintro s W_1 ⟨s1, s2, s3, s4, s5, s6⟩
      by_cases hsj : s ≤ j
      · refine exec_dw [] rfl rfl rfl ?_
        refine dau rfl (fun _ => rfl) ?_
        refine dau rfl (fun _ => rfl) ?_
        refine dw_val (fun _ => pv_leqI (a := s) (b := j) (q := true) rfl rfl (by simpa using hsj)) ?_
        repeat (first | refine dau rfl (fun _ => rfl) ?_ | refine dga rfl (fun _ => rfl) (fun _ => rfl) ?_ | refine dgs (fun _ => rfl) ?_)
        refine dw_gok _ (fun _ => rfl) (fun vs W' hu _ => (ok_iaddr (b := b) (o := 0) (len := n) (cap := cap) rfl rfl (s) rfl (by omega)).keep _) ?_
        refine dw_gok (u64V dk[s]!) (fun _ => rfl) (fun vs W' hu _ => (ok_load1 (b := b) (o := 0 + (s) * 1) rfl ((s5.upd hu).cell (row_get (by omega)))).keep _) ?_
        repeat (first | refine dau rfl (fun _ => rfl) ?_ | refine dga rfl (fun _ => rfl) (fun _ => rfl) ?_ | refine dgs (fun _ => rfl) ?_)
        refine dw_gok _ (fun _ => rfl) (fun vs W' hu _ => (ok_iaddr (b := b) (o := 0) (len := n) (cap := cap) rfl rfl (x) rfl (by omega)).keep _) ?_
        refine dw_gok (u64V dk[x]!) (fun _ => rfl) (fun vs W' hu _ => (ok_load1 (b := b) (o := 0 + (x) * 1) rfl ((s5.upd hu).cell (row_get (by omega)))).keep _) ?_
        refine dw_end fun vs W_2 hu_2 _ => ?_
        refine xr 1 rfl ?_
        refine xca rfl rfl (less_ok A.h_nan A.h_less dk[s]! dk[x]!) ?_
        rintro v W_3 ⟨rfl, hu_3⟩
        have hu_23 := hu_2.trans hu_3
        refine xr 1 rfl ?_
        refine exec_cond rfl (fun hq => ?_) (fun hq => ?_)
        · refine xr 3 rfl ?_
          refine xpu (pv_addI (a := s) (b := 1) rfl rfl (by omega)) rfl ?_
          refine xr 3 rfl ?_
          refine xag (s + 1) ⟨by omega, by omega, by omega, ?_, s5.upd hu_23, s6.trans hu_23 (by simp)⟩ (by show j + 3 - (s + 1) < j + 3 - s; omega) ⟨rfl, rfl, rfl, rfl, rfl, trivial⟩
          rw [← s4, scanUp_if _ _ _ s, if_pos (by simp only [Bool.and_eq_true, decide_eq_true_eq]; exact ⟨hsj, hq⟩)]
        · refine xr 1 rfl ?_
          refine exec_meet s ⟨s1, s2, s3, ?_, s5.upd hu_23, s6.trans hu_23 (by simp)⟩ ⟨rfl, rfl, rfl, rfl, rfl, trivial⟩
          rw [← s4, scanUp_if _ _ _ s, if_neg (by simp only [Bool.and_eq_true, decide_eq_true_eq]; rintro ⟨_, h⟩; exact Bool.false_ne_true (hq.symm.trans h))]
      · refine exec_dw [] rfl rfl rfl ?_
        refine dau rfl (fun _ => rfl) ?_
        refine dau rfl (fun _ => rfl) ?_
        refine dw_val (fun _ => pv_leqI (a := s) (b := j) (q := false) rfl rfl (by simpa using hsj)) ?_
        repeat (first | refine dau rfl (fun _ => rfl) ?_ | refine dga rfl (fun _ => rfl) (fun _ => rfl) ?_ | refine dgs (fun _ => rfl) ?_)
        refine dw_end fun vs W_2 hu_2 _ => ?_
        refine xr 4 rfl ?_
        refine exec_meet s ⟨s1, s2, s3, ?_, s5.upd hu_2, s6.trans hu_2 (by simp)⟩ ⟨rfl, rfl, rfl, rfl, rfl, trivial⟩
        rw [← s4, scanUp_if _ _ _ s, if_neg (by simp only [Bool.and_eq_true, decide_eq_true_eq]; rintro ⟨h, _⟩; exact hsj h)]
    rintro i2 W1 ⟨u1, u2, u3, u4, u5, u6⟩
    refine xr 1 rfl ?_
    refine exec_inner_join (S := Nat) (fun j2 W => j2 ≤ j ∧ j2 = scanDown (fun z => !ltN z dk[x]!) dk i2 j ∧ Blk W b (row dk rest) ∧ Upd [b] w W) (fun j2 => [(0, slV b n cap), (1, intV' x), (2, intV' y), (10, intV' i2), (11, intV' j2)]) ?_ ?_
    · refine xlo (S := Nat) (fun s W => s ≤ j ∧ scanDown (fun z => !ltN z dk[x]!) dk i2 s = scanDown (fun z => !ltN z dk[x]!) dk i2 j ∧ Blk W b (row dk rest) ∧ Upd [b] w W) (fun s => [(0, slV b n cap), (1, intV' x), (2, intV' y), (10, intV' i2), (11, intV' s)]) (fun s => s) j ⟨Nat.le_refl _, rfl, u5, u6⟩ ⟨rfl, rfl, rfl, rfl, rfl, trivial⟩ ?_
      rintro s W_1 ⟨s1, s4, s5, s6⟩
      by_cases hsj : i2 ≤ s
      · obtain ⟨s, rfl⟩ : ∃ t, s = t + 1 := ⟨s - 1, by omega⟩
        refine exec_dw [] rfl rfl rfl ?_
        refine dau rfl (fun _ => rfl) ?_
        refine dau rfl (fun _ => rfl) ?_
        refine dw_val (fun _ => pv_leqI (a := i2) (b := s + 1) (q := true) rfl rfl (by simpa using hsj)) ?_
        repeat (first | refine dau rfl (fun _ => rfl) ?_ | refine dga rfl (fun _ => rfl) (fun _ => rfl) ?_ | refine dgs (fun _ => rfl) ?_)
        refine dw_gok _ (fun _ => rfl) (fun vs W' hu _ => (ok_iaddr (b := b) (o := 0) (len := n) (cap := cap) rfl rfl (s + 1) rfl (by omega)).keep _) ?_
        refine dw_gok (u64V dk[s + 1]!) (fun _ => rfl) (fun vs W' hu _ => (ok_load1 (b := b) (o := 0 + (s + 1) * 1) rfl ((s5.upd hu).cell (row_get (by omega)))).keep _) ?_
        repeat (first | refine dau rfl (fun _ => rfl) ?_ | refine dga rfl (fun _ => rfl) (fun _ => rfl) ?_ | refine dgs (fun _ => rfl) ?_)
        refine dw_gok _ (fun _ => rfl) (fun vs W' hu _ => (ok_iaddr (b := b) (o := 0) (len := n) (cap := cap) rfl rfl (x) rfl (by omega)).keep _) ?_
        refine dw_gok (u64V dk[x]!) (fun _ => rfl) (fun vs W' hu _ => (ok_load1 (b := b) (o := 0 + (x) * 1) rfl ((s5.upd hu).cell (row_get (by omega)))).keep _) ?_
        refine dw_end fun vs W_2 hu_2 _ => ?_
        refine xr 1 rfl ?_
        refine xca rfl rfl (less_ok A.h_nan A.h_less dk[s + 1]! dk[x]!) ?_
        rintro v W_3 ⟨rfl, hu_3⟩
        have hu_23 := hu_2.trans hu_3
        refine xr 3 rfl ?_
        refine exec_cond rfl (fun hq => ?_) (fun hq => ?_)
        · refine xr 3 rfl ?_
          refine xpu (pv_subI (a := s + 1) (b := 1) rfl rfl (by omega) (by omega)) rfl ?_
          refine xr 3 rfl ?_
          refine xag s ⟨by omega, ?_, s5.upd hu_23, s6.trans hu_23 (by simp)⟩ (by show s < s + 1; omega) ⟨rfl, rfl, rfl, rfl, rfl, trivial⟩
          rw [← s4, scanDown_succ, if_pos (by simp only [Bool.and_eq_true, decide_eq_true_eq]; exact ⟨hsj, hq⟩)]
        · refine xr 1 rfl ?_
          refine exec_meet (s + 1) ⟨s1, ?_, s5.upd hu_23, s6.trans hu_23 (by simp)⟩ ⟨rfl, rfl, rfl, rfl, rfl, trivial⟩
          rw [← s4, scanDown_succ, if_neg (by simp only [Bool.and_eq_true, decide_eq_true_eq]; rintro ⟨_, h⟩; exact Bool.false_ne_true (hq.symm.trans h))]
      · refine exec_dw [] rfl rfl rfl ?_
        refine dau rfl (fun _ => rfl) ?_
        refine dau rfl (fun _ => rfl) ?_
        refine dw_val (fun _ => pv_leqI (a := i2) (b := s) (q := false) rfl rfl (by simpa using hsj)) ?_
        repeat (first | refine dau rfl (fun _ => rfl) ?_ | refine dga rfl (fun _ => rfl) (fun _ => rfl) ?_ | refine dgs (fun _ => rfl) ?_)
        refine dw_end fun vs W_2 hu_2 _ => ?_
        refine xr 5 rfl ?_
        refine exec_meet s ⟨s1, ?_, s5.upd hu_2, s6.trans hu_2 (by simp)⟩ ⟨rfl, rfl, rfl, rfl, rfl, trivial⟩
        rw [← s4]
        cases s with
        | zero => rfl
        | succ s => rw [scanDown_succ, if_neg (by simp only [Bool.and_eq_true, decide_eq_true_eq]; rintro ⟨h, _⟩; exact hsj h)]
    rintro j2 W2 ⟨v1, v4, v5, v6⟩
    refine xr 2 rfl ?_
    by_cases hij : j2 < i2
    · refine xpu (pv_gtrI (a := i2) (b := j2) (q := true) rfl rfl (by simpa using hij)) rfl ?_
      refine xr 3 rfl ?_
      refine exec_dws [b] 13 (fun W => Blk W b (splice (row dk rest) (0 + j2 * 1) (Value.cells (u64V dk[x]!)).toList)) (fun W W' h hu => h.upd hu) rfl rfl rfl ?_
      repeat (first | refine ws_auto rfl rfl rfl ?_ | refine ws_gauto rfl rfl rfl rfl ?_ | refine wgs rfl rfl ?_)
      refine ws_any _ rfl (fun W => ok_iaddr (b := b) (o := 0) (len := n) (cap := cap) rfl rfl (x) rfl (by omega)) ?_
      refine ws_ok (u64V dk[x]!) rfl rfl (fun W hu => ok_load1 (b := b) (o := 0 + (x) * 1) rfl ((v5.upd hu).cell (row_get (by omega)))) ?_
      repeat (first | refine ws_auto rfl rfl rfl ?_ | refine ws_gauto rfl rfl rfl rfl ?_ | refine wgs rfl rfl ?_)
      refine ws_any _ rfl (fun W => ok_iaddr (b := b) (o := 0) (len := n) (cap := cap) rfl rfl (j2) rfl (by omega)) ?_
      refine ws_ok (u64V dk[j2]!) rfl rfl (fun W hu => ok_load1 (b := b) (o := 0 + (j2) * 1) rfl ((v5.upd hu).cell (row_get (by omega)))) ?_
      refine ws_any _ rfl (fun W => ok_iaddr (b := b) (o := 0) (len := n) (cap := cap) rfl rfl (j2) rfl (by omega)) ?_
      refine ws_store rfl rfl rfl v5 rfl (by rw [row_length]; omega) rfl (by simp) (fun W h => h) ?_
      refine ws_end fun W_a hu_a hW_a => ?_
      refine xju (ok_iaddr (b := b) (o := 0) (len := n) (cap := cap) rfl rfl (x) rfl (by omega)) rfl ?_
      refine exec_store (b := b) (o := 0 + (x) * 1) (v := u64V dk[j2]!) rfl rfl (hW_a rfl) rfl (by rw [row_set (by omega), row_length]; simp; omega) rfl ?_
      intro W3 hu_b _ hB3
      rw [row_swp (by omega) (by omega)] at hB3
      have hu3 := hu_a.trans hu_b (by simp)
      refine xr 3 rfl ?_
      refine xre hc [_, _] ⟨rfl, rfl, trivial⟩ ?_
      rw [← u4, ← v4, if_pos hij] at gE
      rw [hres, ← gE]
      exact ⟨rfl, hB3, v6.trans hu3 (by simp)⟩
    · refine xpu (pv_gtrI (a := i2) (b := j2) (q := false) rfl rfl (by simpa using hij)) rfl ?_
      refine xr 2 rfl ?_
      refine exec_dws [b] 13 (fun W => Blk W b (splice (row dk rest) (0 + i2 * 1) (Value.cells (u64V dk[j2]!)).toList)) (fun W W' h hu => h.upd hu) rfl rfl rfl ?_
      repeat (first | refine ws_auto rfl rfl rfl ?_ | refine ws_gauto rfl rfl rfl rfl ?_ | refine wgs rfl rfl ?_)
      refine ws_any _ rfl (fun W => ok_iaddr (b := b) (o := 0) (len := n) (cap := cap) rfl rfl (j2) rfl (by omega)) ?_
      refine ws_ok (u64V dk[j2]!) rfl rfl (fun W hu => ok_load1 (b := b) (o := 0 + (j2) * 1) rfl ((v5.upd hu).cell (row_get (by omega)))) ?_
      repeat (first | refine ws_auto rfl rfl rfl ?_ | refine ws_gauto rfl rfl rfl rfl ?_ | refine wgs rfl rfl ?_)
      refine ws_any _ rfl (fun W => ok_iaddr (b := b) (o := 0) (len := n) (cap := cap) rfl rfl (i2) rfl (by omega)) ?_
      refine ws_ok (u64V dk[i2]!) rfl rfl (fun W hu => ok_load1 (b := b) (o := 0 + (i2) * 1) rfl ((v5.upd hu).cell (row_get (by omega)))) ?_
      refine ws_any _ rfl (fun W => ok_iaddr (b := b) (o := 0) (len := n) (cap := cap) rfl rfl (i2) rfl (by omega)) ?_
      refine ws_store rfl rfl rfl v5 rfl (by rw [row_length]; omega) rfl (by simp) (fun W h => h) ?_
      refine ws_end fun W_a hu_a hW_a => ?_
      refine xju (ok_iaddr (b := b) (o := 0) (len := n) (cap := cap) rfl rfl (j2) rfl (by omega)) rfl ?_
      refine exec_store (b := b) (o := 0 + (j2) * 1) (v := u64V dk[i2]!) rfl rfl (hW_a rfl) rfl (by rw [row_set (by omega), row_length]; simp; omega) rfl ?_
      intro W3 hu_b _ hB3
      rw [row_swp (by omega) (by omega)] at hB3
      have hu3 := hu_a.trans hu_b (by simp)
      refine xr 1 rfl ?_
      refine xpu (pv_addI (a := i2) (b := 1) rfl rfl (by omega)) rfl ?_
      refine xr 2 rfl ?_
      refine xpu (pv_subI (a := j2) (b := 1) rfl rfl (by omega) (by omega)) rfl ?_
      refine xr 3 rfl ?_
      refine xag (i2 + 1, j2 - 1, swp dk i2 j2) ⟨by show x < i2 + 1; omega, by show i2 + 1 ≤ j2 - 1 + 2; omega, by show j2 - 1 < y; omega, by rw [swp_size]; exact g4, ?_, hB3, v6.trans hu3 (by simp)⟩ (by show j2 - 1 + 3 - (i2 + 1) < j + 3 - i; omega) ⟨rfl, rfl, rfl, rfl, rfl, trivial⟩
      rw [← u4, ← v4, if_neg hij] at gE
      exact gE
end
end Go.Sp

namespace Go.Sp
open Go.Sort (swp scanSorted shiftDown shiftUp partialIns partialInsertionSort partialIns_succ)
theorem scanSorted_if (lt : Nat → Nat → Bool) (d : Array Nat) (b i : Nat) : scanSorted lt d b i = if i < b && !lt d[i]! d[i - 1]! then scanSorted lt d b (i + 1) else i := by rw [scanSorted]
theorem shiftUp_if (lt : Nat → Nat → Bool) (b j : Nat) (d : Array Nat) : shiftUp lt b j d = if j < b then (if !lt d[j]! d[j - 1]! then d else shiftUp lt b (j + 1) (swp d j (j - 1))) else d := by rw [shiftUp]
theorem shiftDown_succ (lt : Nat → Nat → Bool) (j : Nat) (d : Array Nat) : shiftDown lt (j + 1) d = if !lt d[j + 1]! d[j]! then d else shiftDown lt j (swp d (j + 1) j) := rfl
section
variable {P : Program} {f : Nat} {w : World} (A : SortF P)
set_option maxHeartbeats 1000000 in
theorem partial_ok (h : Has P f (b_slices_partialInsertionSortOrdered_uint64 A.less)) {b n cap x y : Nat} {d : Array Nat} {rest : List Value} (hB : Blk w b (row d rest)) (hd : d.size = n) (hxy : x < y) (hy : y ≤ n) (hn : n < 2 ^ 40) :
    Ret P f [slV b n cap, intV' x, intV' y] w fun v w' => v = .bool (partialInsertionSort ltN d x y).2 ∧ Blk w' b (row (partialInsertionSort ltN d x y).1 rest) ∧ Upd [b] w w' := by
  refine Ret.of_exec h (Nat.le_of_ble_eq_true rfl) fun c hc => ?_
  dsimp only [b_slices_partialInsertionSortOrdered_uint64, argEnv, ym, yo, yg, ys, yt, yd, ye]
  refine xr 2 rfl ?_
  refine xpu (pv_addI (a := x) (b := 1) rfl rfl (by omega)) rfl ?_
  refine xr 3 rfl ?_
  refine xlo (S := Nat × Nat × Array Nat) (fun s W => s.1 ≤ 5 ∧ x < s.2.1 ∧ s.2.1 ≤ y ∧ s.2.2.size = n ∧ partialIns ltN x y (5 - s.1) s.2.1 s.2.2 = partialInsertionSort ltN d x y ∧ Blk W b (row s.2.2 rest) ∧ Upd [b] w W)
    (fun s => [(0, slV b n cap), (1, intV' x), (2, intV' y), (7, intV' s.2.1), (8, intV' s.1)]) (fun s => 5 - s.1) (0, x + 1, d) ⟨by show 0 ≤ 5; omega, by show x < x + 1; omega, by show x + 1 ≤ y; omega, hd, rfl, hB, Upd.refl _ _⟩ ⟨rfl, rfl, rfl, rfl, rfl, trivial⟩ ?_
  rintro ⟨t, i, dk⟩ W ⟨t1, t2, t3, t4, tE, g5, g6⟩
  simp only at t1 t2 t3 t4 tE g5
  refine xr 1 rfl ?_
  by_cases ht : t < 5
  · refine xpu (pv_lssI (a := t) (b := 5) (q := true) rfl rfl (by simpa using ht)) rfl ?_
    refine xr 4 rfl ?_
    obtain ⟨q, hq5⟩ : ∃ q, 5 - t = q + 1 := ⟨4 - t, by omega⟩
    rw [hq5, partialIns_succ] at tE
    refine exec_inner_join (S := Nat) (fun i2 W => x < i2 ∧ i2 ≤ y ∧ i2 = scanSorted ltN dk y i ∧ Blk W b (row dk rest) ∧ Upd [b] w W) (fun i2 => [(0, slV b n cap), (1, intV' x), (2, intV' y), (7, intV' i2), (8, intV' t)]) ?_ ?_
    · refine xlo (S := Nat) (fun s W => x < s ∧ s ≤ y ∧ scanSorted ltN dk y s = scanSorted ltN dk y i ∧ Blk W b (row dk rest) ∧ Upd [b] w W) (fun s => [(0, slV b n cap), (1, intV' x), (2, intV' y), (7, intV' s), (8, intV' t)]) (fun s => y - s) i ⟨t2, t3, rfl, g5, g6⟩ ⟨rfl, rfl, rfl, rfl, rfl, trivial⟩ ?_
      rintro s W_1 ⟨s1, s2, s4, s5, s6⟩
      by_cases hsj : s < y
      · refine exec_dw [] rfl rfl rfl ?_
        refine dau rfl (fun _ => rfl) ?_
        refine dau rfl (fun _ => rfl) ?_
        refine dw_val (fun _ => pv_lssI (a := s) (b := y) (q := true) rfl rfl (by simpa using hsj)) ?_
        repeat (first | refine dau rfl (fun _ => rfl) ?_ | refine dga rfl (fun _ => rfl) (fun _ => rfl) ?_ | refine dgs (fun _ => rfl) ?_)
        refine dw_gok _ (fun _ => rfl) (fun vs W' hu _ => (ok_iaddr (b := b) (o := 0) (len := n) (cap := cap) rfl rfl (s) rfl (by omega)).keep _) ?_
        refine dw_gok (u64V dk[s]!) (fun _ => rfl) (fun vs W' hu _ => (ok_load1 (b := b) (o := 0 + (s) * 1) rfl ((s5.upd hu).cell (row_get (by omega)))).keep _) ?_
        repeat (first | refine dau rfl (fun _ => rfl) ?_ | refine dga rfl (fun _ => rfl) (fun _ => rfl) ?_ | refine dgs (fun _ => rfl) ?_)
        refine dw_gval (fun _ => rfl) (fun _ => pv_subI (a := s) (b := 1) rfl rfl (by omega) (by omega)) ?_
        refine dw_gok _ (fun _ => rfl) (fun vs W' hu _ => (ok_iaddr (b := b) (o := 0) (len := n) (cap := cap) rfl rfl (s - 1) rfl (by omega)).keep _) ?_
        refine dw_gok (u64V dk[s - 1]!) (fun _ => rfl) (fun vs W' hu _ => (ok_load1 (b := b) (o := 0 + (s - 1) * 1) rfl ((s5.upd hu).cell (row_get (by omega)))).keep _) ?_
        refine dw_end fun vs W_2 hu_2 _ => ?_
        refine xr 1 rfl ?_
        refine xca rfl rfl (less_ok A.h_nan A.h_less dk[s]! dk[s - 1]!) ?_
        rintro v W_3 ⟨rfl, hu_3⟩
        have hu_23 := hu_2.trans hu_3
        refine xr 3 rfl ?_
        refine exec_cond rfl (fun hq => ?_) (fun hq => ?_)
        · refine xr 3 rfl ?_
          refine xpu (pv_addI (a := s) (b := 1) rfl rfl (by omega)) rfl ?_
          refine xr 3 rfl ?_
          refine xag (s + 1) ⟨by omega, by omega, ?_, s5.upd hu_23, s6.trans hu_23 (by simp)⟩ (by show y - (s + 1) < y - s; omega) ⟨rfl, rfl, rfl, rfl, rfl, trivial⟩
          rw [← s4, scanSorted_if _ _ _ s, if_pos (by simp only [Bool.and_eq_true, decide_eq_true_eq]; exact ⟨hsj, hq⟩)]
        · refine xr 1 rfl ?_
          refine exec_meet s ⟨s1, s2, ?_, s5.upd hu_23, s6.trans hu_23 (by simp)⟩ ⟨rfl, rfl, rfl, rfl, rfl, trivial⟩
          rw [← s4, scanSorted_if _ _ _ s, if_neg (by simp only [Bool.and_eq_true, decide_eq_true_eq]; rintro ⟨_, h⟩; exact Bool.false_ne_true (hq.symm.trans h))]
      · refine exec_dw [] rfl rfl rfl ?_
        refine dau rfl (fun _ => rfl) ?_
        refine dau rfl (fun _ => rfl) ?_
        refine dw_val (fun _ => pv_lssI (a := s) (b := y) (q := false) rfl rfl (by simpa using hsj)) ?_
        repeat (first | refine dau rfl (fun _ => rfl) ?_ | refine dga rfl (fun _ => rfl) (fun _ => rfl) ?_ | refine dgs (fun _ => rfl) ?_)
        refine dw_end fun vs W_2 hu_2 _ => ?_
        refine xr 5 rfl ?_
        refine exec_meet s ⟨s1, s2, ?_, s5.upd hu_2, s6.trans hu_2 (by simp)⟩ ⟨rfl, rfl, rfl, rfl, rfl, trivial⟩
        rw [← s4, scanSorted_if _ _ _ s, if_neg (by simp only [Bool.and_eq_true, decide_eq_true_eq]; rintro ⟨h, _⟩; exact hsj h)]
    rintro i2 W1 ⟨u1, u2, u4, u5, u6⟩
    rw [← u4] at tE
    refine xr 2 rfl ?_
    by_cases hiy : i2 = y
    · refine xpu (pv_eqlI (a := i2) (b := y) (q := true) rfl rfl (by simpa using hiy)) rfl ?_
      refine xr 2 rfl ?_
      refine xre hc [_] ⟨rfl, trivial⟩ ?_
      rw [if_pos hiy] at tE
      rw [← tE]
      exact ⟨rfl, u5, u6⟩
    refine xpu (pv_eqlI (a := i2) (b := y) (q := false) rfl rfl (by simpa using hiy)) rfl ?_
    rw [if_neg hiy] at tE
    refine xr 4 rfl ?_
    refine xpu (pv_subI (a := y) (b := x) rfl rfl (by omega) (by omega)) rfl ?_
    by_cases h50 : y - x < 50
    · refine xpu (pv_lssI (a := y - x) (b := 50) (q := true) rfl rfl (by simpa using h50)) rfl ?_
      refine xr 2 rfl ?_
      refine xre hc [_] ⟨rfl, trivial⟩ ?_
      rw [if_pos h50] at tE
      rw [← tE]
      exact ⟨rfl, u5, u6⟩
    refine xpu (pv_lssI (a := y - x) (b := 50) (q := false) rfl rfl (by simpa using h50)) rfl ?_
    rw [if_neg h50] at tE
    refine xr 2 rfl ?_
    refine exec_dws [b] 15 (fun W => Blk W b (splice (row dk rest) (0 + (i2) * 1) (Value.cells (u64V dk[i2 - 1]!)).toList)) (fun W W' h hu => h.upd hu) rfl rfl rfl ?_
    repeat (first | refine ws_auto rfl rfl rfl ?_ | refine ws_gauto rfl rfl rfl rfl ?_ | refine wgs rfl rfl ?_)
    refine ws_val rfl (pv_subI (a := i2) (b := 1) rfl rfl (by omega) (by omega)) ?_
    repeat (first | refine ws_auto rfl rfl rfl ?_ | refine ws_gauto rfl rfl rfl rfl ?_ | refine wgs rfl rfl ?_)
    refine ws_val rfl (pv_subI (a := i2) (b := 1) rfl rfl (by omega) (by omega)) ?_
    refine ws_any _ rfl (fun W => ok_iaddr (b := b) (o := 0) (len := n) (cap := cap) rfl rfl (i2 - 1) rfl (by omega)) ?_
    refine ws_ok (u64V dk[i2 - 1]!) rfl rfl (fun W hu => ok_load1 (b := b) (o := 0 + (i2 - 1) * 1) rfl ((u5.upd hu).cell (row_get (by omega)))) ?_
    repeat (first | refine ws_auto rfl rfl rfl ?_ | refine ws_gauto rfl rfl rfl rfl ?_ | refine wgs rfl rfl ?_)
    refine ws_any _ rfl (fun W => ok_iaddr (b := b) (o := 0) (len := n) (cap := cap) rfl rfl (i2) rfl (by omega)) ?_
    refine ws_ok (u64V dk[i2]!) rfl rfl (fun W hu => ok_load1 (b := b) (o := 0 + (i2) * 1) rfl ((u5.upd hu).cell (row_get (by omega)))) ?_
    refine ws_any _ rfl (fun W => ok_iaddr (b := b) (o := 0) (len := n) (cap := cap) rfl rfl (i2) rfl (by omega)) ?_
    refine ws_store rfl rfl rfl u5 rfl (by rw [row_length]; omega) rfl (by simp) (fun W h => h) ?_
    refine ws_end fun W_a hu_a hW_a => ?_
    refine xju (ok_iaddr (b := b) (o := 0) (len := n) (cap := cap) rfl rfl (i2 - 1) rfl (by omega)) rfl ?_
    refine exec_store (b := b) (o := 0 + (i2 - 1) * 1) (v := u64V dk[i2]!) rfl rfl (hW_a rfl) rfl (by rw [row_set (by omega), row_length]; simp; omega) rfl ?_
    intro W2 hu_b _ hB2
    rw [row_swp (by omega) (by omega)] at hB2
    have hu2 := hu_a.trans hu_b (by simp)
    have sz2 : (swp dk i2 (i2 - 1)).size = n := by rw [swp_size]; exact t4
    generalize swp dk i2 (i2 - 1) = d2 at *
    have hU2 := u6.trans hu2 (by simp)
    refine xr 2 rfl ?_
    refine xpu (pv_subI (a := i2) (b := x) rfl rfl (by omega) (by omega)) rfl ?_
    refine xpu (pv_geqI (a := i2 - x) (b := 2) (q := decide (2 ≤ i2 - x)) rfl rfl rfl) rfl ?_
    refine exec_cond_join (S := Array Nat) (fun d3 W => d3.size = n ∧ d3 = (if i2 - x ≥ 2 then shiftDown ltN (i2 - 1) d2 else d2) ∧ Blk W b (row d3 rest) ∧ Upd [b] w W) (fun _ => [(0, slV b n cap), (1, intV' x), (2, intV' y), (7, intV' i2), (8, intV' t)]) rfl (fun hq => ?_) (fun hq => ?_) ?_
    · simp only [decide_eq_true_eq] at hq
      refine xr 1 rfl ?_
      refine xpu (pv_subI (a := i2) (b := 1) rfl rfl (by omega) (by omega)) rfl ?_
      refine xr 2 rfl ?_
      refine xlo (S := Nat × Array Nat) (fun s W => s.1 ≤ i2 - 1 ∧ s.2.size = n ∧ shiftDown ltN s.1 s.2 = shiftDown ltN (i2 - 1) d2 ∧ Blk W b (row s.2 rest) ∧ Upd [b] w W) (fun s => [(0, slV b n cap), (1, intV' x), (2, intV' y), (7, intV' i2), (8, intV' t), (9, intV' s.1)]) (fun s => s.1) (i2 - 1, d2) ⟨Nat.le_refl _, sz2, rfl, hB2, hU2⟩ ⟨rfl, rfl, rfl, rfl, rfl, rfl, trivial⟩ ?_
      rintro ⟨k, dj⟩ W3 ⟨k1, k2, k3, k5, k6⟩
      simp only at k1 k2 k3 k5
      refine xr 1 rfl ?_
      cases k with
      | zero =>
        refine xpu (pv_geqI (a := 0) (b := 1) (q := false) rfl rfl (by simp)) rfl ?_
        refine xr 3 rfl ?_
        refine exec_meet dj ⟨k2, ?_, k5, k6⟩ ⟨rfl, rfl, rfl, rfl, rfl, trivial⟩
        rw [if_pos hq, ← k3]; rfl
      | succ k =>
        refine xpu (pv_geqI (a := k + 1) (b := 1) (q := true) rfl rfl (by simp)) rfl ?_
        refine xr 3 rfl ?_
        refine exec_dw [] rfl rfl rfl ?_
        repeat (first | refine dau rfl (fun _ => rfl) ?_ | refine dga rfl (fun _ => rfl) (fun _ => rfl) ?_ | refine dgs (fun _ => rfl) ?_)
        refine dw_keep _ (fun vs W' hu _ => ok_iaddr (b := b) (o := 0) (len := n) (cap := cap) rfl rfl (k + 1) rfl (by omega)) ?_
        refine dw_keep (u64V dj[k + 1]!) (fun vs W' hu _ => ok_load1 (b := b) (o := 0 + (k + 1) * 1) rfl ((k5.upd hu).cell (row_get (by omega)))) ?_
        repeat (first | refine dau rfl (fun _ => rfl) ?_ | refine dga rfl (fun _ => rfl) (fun _ => rfl) ?_ | refine dgs (fun _ => rfl) ?_)
        refine dw_val (fun _ => pv_subI (a := k + 1) (b := 1) rfl rfl (by omega) (by omega)) ?_
        refine dw_keep _ (fun vs W' hu _ => ok_iaddr (b := b) (o := 0) (len := n) (cap := cap) rfl rfl (k) rfl (by omega)) ?_
        refine dw_keep (u64V dj[k]!) (fun vs W' hu _ => ok_load1 (b := b) (o := 0 + (k) * 1) rfl ((k5.upd hu).cell (row_get (by omega)))) ?_
        refine dw_end fun vs W_2 hu_2 _ => ?_
        refine xca rfl rfl (less_ok A.h_nan A.h_less dj[k + 1]! dj[k]!) ?_
        rintro v W_3 ⟨rfl, hu_3⟩
        have hu_23 := hu_2.trans hu_3
        have k5' := k5.upd hu_23
        refine xtm rfl rfl rfl ?_
        refine exec_cond rfl (fun hl => ?_) (fun hl => ?_)
        · refine xr 2 rfl ?_
          refine exec_meet dj ⟨k2, ?_, k5', k6.trans hu_23 (by simp)⟩ ⟨rfl, rfl, rfl, rfl, rfl, trivial⟩
          rw [if_pos hq, ← k3, shiftDown_succ, if_pos hl]
        · refine xr 1 rfl ?_
          refine exec_dws [b] 15 (fun W => Blk W b (splice (row dj rest) (0 + (k + 1) * 1) (Value.cells (u64V dj[k]!)).toList)) (fun W W' h hu => h.upd hu) rfl rfl rfl ?_
          repeat (first | refine ws_auto rfl rfl rfl ?_ | refine ws_gauto rfl rfl rfl rfl ?_ | refine wgs rfl rfl ?_)
          refine ws_val rfl (pv_subI (a := k + 1) (b := 1) rfl rfl (by omega) (by omega)) ?_
          repeat (first | refine ws_auto rfl rfl rfl ?_ | refine ws_gauto rfl rfl rfl rfl ?_ | refine wgs rfl rfl ?_)
          refine ws_val rfl (pv_subI (a := k + 1) (b := 1) rfl rfl (by omega) (by omega)) ?_
          refine ws_any _ rfl (fun W => ok_iaddr (b := b) (o := 0) (len := n) (cap := cap) rfl rfl (k) rfl (by omega)) ?_
          refine ws_ok (u64V dj[k]!) rfl rfl (fun W hu => ok_load1 (b := b) (o := 0 + (k) * 1) rfl ((k5'.upd hu).cell (row_get (by omega)))) ?_
          repeat (first | refine ws_auto rfl rfl rfl ?_ | refine ws_gauto rfl rfl rfl rfl ?_ | refine wgs rfl rfl ?_)
          refine ws_any _ rfl (fun W => ok_iaddr (b := b) (o := 0) (len := n) (cap := cap) rfl rfl (k + 1) rfl (by omega)) ?_
          refine ws_ok (u64V dj[k + 1]!) rfl rfl (fun W hu => ok_load1 (b := b) (o := 0 + (k + 1) * 1) rfl ((k5'.upd hu).cell (row_get (by omega)))) ?_
          refine ws_any _ rfl (fun W => ok_iaddr (b := b) (o := 0) (len := n) (cap := cap) rfl rfl (k + 1) rfl (by omega)) ?_
          refine ws_store rfl rfl rfl k5' rfl (by rw [row_length]; omega) rfl (by simp) (fun W h => h) ?_
          refine ws_end fun W_a hu_a hW_a => ?_
          refine xju (ok_iaddr (b := b) (o := 0) (len := n) (cap := cap) rfl rfl (k) rfl (by omega)) rfl ?_
          refine exec_store (b := b) (o := 0 + (k) * 1) (v := u64V dj[k + 1]!) rfl rfl (hW_a rfl) rfl (by rw [row_set (by omega), row_length]; simp; omega) rfl ?_
          intro W4 hu_b _ hB4
          rw [row_swp (by omega) (by omega)] at hB4
          have hu4 := hu_a.trans hu_b (by simp)
          refine xr 3 rfl ?_
          refine xpu (pv_subI (a := k + 1) (b := 1) rfl rfl (by omega) (by omega)) rfl ?_
          refine xr 1 rfl ?_
          refine xag (k, swp dj (k + 1) k) ⟨by show k ≤ i2 - 1; omega, by rw [swp_size]; exact k2, ?_, hB4, (k6.trans hu_23 (by simp)).trans hu4 (by simp)⟩ (by show k < k + 1; omega) ⟨rfl, rfl, rfl, rfl, rfl, rfl, trivial⟩
          rw [← k3]
          show shiftDown ltN k _ = shiftDown ltN (k + 1) dj
          rw [shiftDown_succ, if_neg (by rw [hl]; simp)]
    · simp only [decide_eq_false_iff_not] at hq
      exact exec_meet d2 ⟨sz2, by rw [if_neg hq], hB2, hU2⟩ ⟨rfl, rfl, rfl, rfl, rfl, trivial⟩
    rintro d3 W3 ⟨sz3, e3, hB3, hU3⟩
    refine xr 2 rfl ?_
    refine xpu (pv_subI (a := y) (b := i2) rfl rfl (by omega) (by omega)) rfl ?_
    refine xpu (pv_geqI (a := y - i2) (b := 2) (q := decide (2 ≤ y - i2)) rfl rfl rfl) rfl ?_
    refine exec_cond_join (S := Array Nat) (fun d4 W => d4.size = n ∧ d4 = (if y - i2 ≥ 2 then shiftUp ltN y (i2 + 1) d3 else d3) ∧ Blk W b (row d4 rest) ∧ Upd [b] w W) (fun _ => [(0, slV b n cap), (1, intV' x), (2, intV' y), (7, intV' i2), (8, intV' t)]) rfl (fun hq => ?_) (fun hq => ?_) ?_
    · simp only [decide_eq_true_eq] at hq
      refine xr 1 rfl ?_
      refine xpu (pv_addI (a := i2) (b := 1) rfl rfl (by omega)) rfl ?_
      refine xr 2 rfl ?_
      refine xlo (S := Nat × Array Nat) (fun s W => i2 < s.1 ∧ s.1 ≤ y ∧ s.2.size = n ∧ shiftUp ltN y s.1 s.2 = shiftUp ltN y (i2 + 1) d3 ∧ Blk W b (row s.2 rest) ∧ Upd [b] w W) (fun s => [(0, slV b n cap), (1, intV' x), (2, intV' y), (7, intV' i2), (8, intV' t), (10, intV' s.1)]) (fun s => y - s.1) (i2 + 1, d3) ⟨by show i2 < i2 + 1; omega, by show i2 + 1 ≤ y; omega, sz3, rfl, hB3, hU3⟩ ⟨rfl, rfl, rfl, rfl, rfl, rfl, trivial⟩ ?_
      rintro ⟨k, dj⟩ W3 ⟨k0, k1, k2, k3, k5, k6⟩
      simp only at k0 k1 k2 k3 k5
      refine xr 2 rfl ?_
      by_cases hky : k < y
      · refine xpu (pv_lssI (a := k) (b := y) (q := true) rfl rfl (by simpa using hky)) rfl ?_
        refine xr 3 rfl ?_
        refine exec_dw [] rfl rfl rfl ?_
        repeat (first | refine dau rfl (fun _ => rfl) ?_ | refine dga rfl (fun _ => rfl) (fun _ => rfl) ?_ | refine dgs (fun _ => rfl) ?_)
        refine dw_keep _ (fun vs W' hu _ => ok_iaddr (b := b) (o := 0) (len := n) (cap := cap) rfl rfl (k) rfl (by omega)) ?_
        refine dw_keep (u64V dj[k]!) (fun vs W' hu _ => ok_load1 (b := b) (o := 0 + (k) * 1) rfl ((k5.upd hu).cell (row_get (by omega)))) ?_
        repeat (first | refine dau rfl (fun _ => rfl) ?_ | refine dga rfl (fun _ => rfl) (fun _ => rfl) ?_ | refine dgs (fun _ => rfl) ?_)
        refine dw_val (fun _ => pv_subI (a := k) (b := 1) rfl rfl (by omega) (by omega)) ?_
        refine dw_keep _ (fun vs W' hu _ => ok_iaddr (b := b) (o := 0) (len := n) (cap := cap) rfl rfl (k - 1) rfl (by omega)) ?_
        refine dw_keep (u64V dj[k - 1]!) (fun vs W' hu _ => ok_load1 (b := b) (o := 0 + (k - 1) * 1) rfl ((k5.upd hu).cell (row_get (by omega)))) ?_
        refine dw_end fun vs W_2 hu_2 _ => ?_
        refine xca rfl rfl (less_ok A.h_nan A.h_less dj[k]! dj[k - 1]!) ?_
        rintro v W_3 ⟨rfl, hu_3⟩
        have hu_23 := hu_2.trans hu_3
        have k5' := k5.upd hu_23
        refine xtm rfl rfl rfl ?_
        refine exec_cond rfl (fun hl => ?_) (fun hl => ?_)
        · refine xr 2 rfl ?_
          refine exec_meet dj ⟨k2, ?_, k5', k6.trans hu_23 (by simp)⟩ ⟨rfl, rfl, rfl, rfl, rfl, trivial⟩
          rw [if_pos hq, ← k3, shiftUp_if _ _ k, if_pos hky, if_pos hl]
        · refine xr 1 rfl ?_
          refine exec_dws [b] 15 (fun W => Blk W b (splice (row dj rest) (0 + (k) * 1) (Value.cells (u64V dj[k - 1]!)).toList)) (fun W W' h hu => h.upd hu) rfl rfl rfl ?_
          repeat (first | refine ws_auto rfl rfl rfl ?_ | refine ws_gauto rfl rfl rfl rfl ?_ | refine wgs rfl rfl ?_)
          refine ws_val rfl (pv_subI (a := k) (b := 1) rfl rfl (by omega) (by omega)) ?_
          repeat (first | refine ws_auto rfl rfl rfl ?_ | refine ws_gauto rfl rfl rfl rfl ?_ | refine wgs rfl rfl ?_)
          refine ws_val rfl (pv_subI (a := k) (b := 1) rfl rfl (by omega) (by omega)) ?_
          refine ws_any _ rfl (fun W => ok_iaddr (b := b) (o := 0) (len := n) (cap := cap) rfl rfl (k - 1) rfl (by omega)) ?_
          refine ws_ok (u64V dj[k - 1]!) rfl rfl (fun W hu => ok_load1 (b := b) (o := 0 + (k - 1) * 1) rfl ((k5'.upd hu).cell (row_get (by omega)))) ?_
          repeat (first | refine ws_auto rfl rfl rfl ?_ | refine ws_gauto rfl rfl rfl rfl ?_ | refine wgs rfl rfl ?_)
          refine ws_any _ rfl (fun W => ok_iaddr (b := b) (o := 0) (len := n) (cap := cap) rfl rfl (k) rfl (by omega)) ?_
          refine ws_ok (u64V dj[k]!) rfl rfl (fun W hu => ok_load1 (b := b) (o := 0 + (k) * 1) rfl ((k5'.upd hu).cell (row_get (by omega)))) ?_
          refine ws_any _ rfl (fun W => ok_iaddr (b := b) (o := 0) (len := n) (cap := cap) rfl rfl (k) rfl (by omega)) ?_
          refine ws_store rfl rfl rfl k5' rfl (by rw [row_length]; omega) rfl (by simp) (fun W h => h) ?_
          refine ws_end fun W_a hu_a hW_a => ?_
          refine xju (ok_iaddr (b := b) (o := 0) (len := n) (cap := cap) rfl rfl (k - 1) rfl (by omega)) rfl ?_
          refine exec_store (b := b) (o := 0 + (k - 1) * 1) (v := u64V dj[k]!) rfl rfl (hW_a rfl) rfl (by rw [row_set (by omega), row_length]; simp; omega) rfl ?_
          intro W4 hu_b _ hB4
          rw [row_swp (by omega) (by omega)] at hB4
          have hu4 := hu_a.trans hu_b (by simp)
          refine xr 3 rfl ?_
          refine xpu (pv_addI (a := k) (b := 1) rfl rfl (by omega)) rfl ?_
          refine xr 1 rfl ?_
          refine xag (k + 1, swp dj k (k - 1)) ⟨by show i2 < k + 1; omega, by show k + 1 ≤ y; omega, by rw [swp_size]; exact k2, ?_, hB4, (k6.trans hu_23 (by simp)).trans hu4 (by simp)⟩ (by show y - (k + 1) < y - k; omega) ⟨rfl, rfl, rfl, rfl, rfl, rfl, trivial⟩
          rw [← k3]
          show shiftUp ltN y (k + 1) _ = shiftUp ltN y k dj
          rw [shiftUp_if _ _ k, if_pos hky, if_neg (by rw [hl]; simp)]
      · refine xpu (pv_lssI (a := k) (b := y) (q := false) rfl rfl (by simpa using hky)) rfl ?_
        refine xr 3 rfl ?_
        refine exec_meet dj ⟨k2, ?_, k5, k6⟩ ⟨rfl, rfl, rfl, rfl, rfl, trivial⟩
        rw [if_pos hq, ← k3, shiftUp_if _ _ k, if_neg hky]
    · simp only [decide_eq_false_iff_not] at hq
      exact exec_meet d3 ⟨sz3, by rw [if_neg hq], hB3, hU3⟩ ⟨rfl, rfl, rfl, rfl, rfl, trivial⟩
    rintro d4 W4 ⟨sz4, e4, hB4, hU4⟩
    refine xr 3 rfl ?_
    refine xpu (pv_addI (a := t) (b := 1) rfl rfl (by omega)) rfl ?_
    refine xr 1 rfl ?_
    refine xag (t + 1, i2, d4) ⟨by show t + 1 ≤ 5; omega, u1, u2, sz4, ?_, hB4, hU4⟩ (by show 5 - (t + 1) < 5 - t; omega) ⟨rfl, rfl, rfl, rfl, rfl, trivial⟩
    rw [← tE, e4, e3, show 5 - (t + 1) = q by omega]
    rfl
  · refine xpu (pv_lssI (a := t) (b := 5) (q := false) rfl rfl (by simpa using ht)) rfl ?_
    refine xr 4 rfl ?_
    refine xre hc [_] ⟨rfl, trivial⟩ ?_
    rw [show 5 - t = 0 by omega] at tE
    rw [← tE]
    exact ⟨rfl, g5, g6⟩
end
end Go.Sp

namespace Go.Sp
open Go.Sort (pdq rd Rd Hint SWO Below pdq_small pdq_heap pdq_done pdq_eq pdq_left pdq_right rd_facts rd_true rd_false rd_c rd_dec rd_not rd_pi_yes rd_pi_no insertionSort heapSort breakPatterns choosePivot reverseRange partialInsertionSort partition partitionEqual)
theorem swoN : SWO ltN where
  irrefl x := by simp [ltN]
  trans x y z h1 h2 := by simp [ltN] at *; omega
  ntrans x y z h1 h2 := by simp [ltN] at *; omega
/-- the functions of the sort, all of them -/
structure SortAll (P : Program) extends SortF P where
  len32 : Nat
  lenI : Nat
  order2 : Nat
  median : Nat
  medAdj : Nat
  choose : Nat
  sift : Nat
  heap : Nat
  ins : Nat
  xor : Nat
  pow2 : Nat
  brk : Nat
  rev : Nat
  parI : Nat
  partEq : Nat
  part : Nat
  pdq' : Nat
  sort : Nat
  TX : Nat
  TI : Nat
  h_lenI : Has P lenI (b_math_bits_Len len32 len64)
  h_order2 : Has P order2 (b_slices_order2Ordered_uint64 less)
  h_median : Has P median (b_slices_medianOrdered_uint64 order2)
  h_medAdj : Has P medAdj (b_slices_medianAdjacentOrdered_uint64 median)
  h_choose : Has P choose (b_slices_choosePivotOrdered_uint64 medAdj median TI)
  h_sift : Has P sift (b_slices_siftDownOrdered_uint64 less)
  h_heap : Has P heap (b_slices_heapSortOrdered_uint64 sift)
  h_ins : Has P ins (b_slices_insertionSortOrdered_uint64 less)
  h_xor : Has P xor b_Pslices_xorshift_Next
  h_pow2 : Has P pow2 (b_slices_nextPowerOfTwo lenI)
  h_brk : Has P brk (b_slices_breakPatternsOrdered_uint64 pow2 xor TX)
  h_rev : Has P rev b_slices_reverseRangeOrdered_uint64
  h_parI : Has P parI (b_slices_partialInsertionSortOrdered_uint64 less)
  h_partEq : Has P partEq (b_slices_partitionEqualOrdered_uint64 less)
  h_part : Has P part (b_slices_partitionOrdered_uint64 less)
  h_pdq : Has P pdq' (b_slices_pdqsortOrdered_uint64 ins heap brk choose rev parI less partEq part pdq')
  h_sort : Has P sort (b_slices_Sort_uint64_uint64 lenI pdq')
section
variable {P : Program} {f : Nat} {w : World}
theorem pdq_and {c : Ctx} {D : List Deferred} {is : List Ins} {k : Kont} (wb wp : Bool) (hn : Nat) {v0 v1 v2 v3 v10 v11 : Value}
    (h : Exec P 134 c D is k [(68, .bool (wb && wp && decide (hn = 1))), (0, v0), (1, v1), (2, v2), (3, v3), (8, .bool wb), (9, .bool wp), (10, v10), (11, v11), (12, intV' hn)] w) :
    Exec P 134 c D (.op none (some 61) (.mov (.tmp 8)) ::
          .op none (some 62) (.mov (.tmp 61)) ::
          .op (some (some 62, true)) (some 63) (.mov (.tmp 9)) ::
          .op none (some 64) (.pick (.tmp 62) (.tmp 63) (.const (.bool false))) ::
          .op none (some 65) (.mov (.tmp 64)) ::
          .op (some (some 65, true)) (some 66) (.mov (.tmp 12)) ::
          .op (some (some 65, true)) (some 67) (.ibin .eql (.tmp 66) (.const (.int .i64 1))) ::
          .op none (some 68) (.pick (.tmp 65) (.tmp 67) (.const (.bool false))) :: is) k [(0, v0), (1, v1), (2, v2), (3, v3), (8, .bool wb), (9, .bool wp), (10, v10), (11, v11), (12, intV' hn)] w := by
  cases wb with
  | false =>
    refine xr 8 rfl ?_
    refine xen _ ?_ h
    exact ⟨rfl, rfl, rfl, rfl, rfl, rfl, rfl, rfl, rfl, rfl, trivial⟩
  | true =>
    cases wp with
    | false =>
      refine xr 9 rfl ?_
      refine xen _ ?_ h
      exact ⟨rfl, rfl, rfl, rfl, rfl, rfl, rfl, rfl, rfl, rfl, trivial⟩
    | true =>
      refine xr 9 rfl ?_
      refine xpu (pv_eqlI (a := hn) (b := 1) (q := decide (hn = 1)) rfl rfl rfl) rfl ?_
      refine xtm rfl rfl rfl ?_
      simp only [Bool.true_and, Bool.and_self] at h
      refine xen _ ?_ h
      exact ⟨rfl, rfl, rfl, rfl, rfl, rfl, rfl, rfl, rfl, rfl, trivial⟩
theorem pdq_guard (A : SortF P) {c : Ctx} {D : List Deferred} {is : List Ins} {k : Kont} {b n cap x p : Nat} {d : Array Nat} {rest : List Value} (hB : Blk w b (row d rest)) (hd : d.size = n) (hx : x < n) (hp : p < n) (hn : n < 2 ^ 40) {v2 v3 v8 v9 v10 : Value}
    (h : ∀ W, Ext w W → Exec P 134 c D is k [(87, .bool (decide (x > 0) && !ltN d[x - 1]! d[p]!)), (0, slV b n cap), (1, intV' x), (2, v2), (3, v3), (8, v8), (9, v9), (10, v10), (11, intV' p)] W) :
    Exec P 134 c D (.draw [
            ([], none, (some 73), .mov (.tmp 1)),
            ([0], none, (some 74), .ibin .gtr (.tmp 73) (.const (.int .i64 0))),
            ([1, 0], none, (some 75), .mov (.tmp 74)),
            ([2, 1, 0], (some (some 75, true)), (some 76), .mov (.tmp 0)),
            ([2, 1, 0], (some (some 75, true)), (some 77), .mov (.tmp 1)),
            ([4, 2, 1, 0], (some (some 75, true)), (some 78), .ibin .sub (.tmp 77) (.const (.int .i64 1))),
            ([3, 5, 2, 1, 0, 4], (some (some 75, true)), (some 79), .iaddr 1 (.tmp 76) (.tmp 78)),
            ([6, 2, 3, 5, 1, 0, 4], (some (some 75, true)), (some 80), .load1 (.tmp 79)),
            ([2, 1, 0], (some (some 75, true)), (some 81), .mov (.tmp 0)),
            ([2, 1, 0], (some (some 75, true)), (some 82), .mov (.tmp 11)),
            ([8, 9, 2, 1, 0], (some (some 75, true)), (some 83), .iaddr 1 (.tmp 81) (.tmp 82)),
            ([10, 2, 8, 9, 1, 0], (some (some 75, true)), (some 84), .load1 (.tmp 83))] [
            .op (some (some 75, true)) (some 85) (.call A.less #[(.tmp 80), (.tmp 84)]),
            .op (some (some 75, true)) (some 86) (.un .not (.tmp 85)),
            .op none (some 87) (.pick (.tmp 75) (.tmp 86) (.const (.bool false)))] :: is) k [(0, slV b n cap), (1, intV' x), (2, v2), (3, v3), (8, v8), (9, v9), (10, v10), (11, intV' p)] w := by
  by_cases hx0 : 0 < x
  · have hq : (decide (x > 0) && !ltN d[x - 1]! d[p]!) = !ltN d[x - 1]! d[p]! := by simp [hx0]
    rw [hq] at h
    refine exec_dw [] rfl rfl rfl ?_
    refine dau rfl (fun _ => rfl) ?_
    refine dw_val (fun _ => pv_gtrI (a := x) (b := 0) (q := true) rfl rfl (by simpa using hx0)) ?_
    repeat (first | refine dau rfl (fun _ => rfl) ?_ | refine dga rfl (fun _ => rfl) (fun _ => rfl) ?_ | refine dgs (fun _ => rfl) ?_)
    refine dw_gval (fun _ => rfl) (fun _ => pv_subI (a := x) (b := 1) rfl rfl (by omega) (by omega)) ?_
    refine dw_gok _ (fun _ => rfl) (fun vs W' hu _ => (ok_iaddr (b := b) (o := 0) (len := n) (cap := cap) rfl rfl (x - 1) rfl (by omega)).keep _) ?_
    refine dw_gok (u64V d[x - 1]!) (fun _ => rfl) (fun vs W' hu _ => (ok_load1 (b := b) (o := 0 + (x - 1) * 1) rfl ((hB.upd hu).cell (row_get (by omega)))).keep _) ?_
    repeat (first | refine dau rfl (fun _ => rfl) ?_ | refine dga rfl (fun _ => rfl) (fun _ => rfl) ?_ | refine dgs (fun _ => rfl) ?_)
    refine dw_gok _ (fun _ => rfl) (fun vs W' hu _ => (ok_iaddr (b := b) (o := 0) (len := n) (cap := cap) rfl rfl (p) rfl (by omega)).keep _) ?_
    refine dw_gok (u64V d[p]!) (fun _ => rfl) (fun vs W' hu _ => (ok_load1 (b := b) (o := 0 + (p) * 1) rfl ((hB.upd hu).cell (row_get (by omega)))).keep _) ?_
    refine dw_end fun vs W1 hu1 _ => ?_
    refine xr 1 rfl ?_
    refine xca rfl rfl (less_ok A.h_nan A.h_less d[x - 1]! d[p]!) ?_
    rintro v W2 ⟨rfl, hu2⟩
    refine xgr rfl ?_
    refine xtm rfl rfl rfl ?_
    refine xtm rfl rfl rfl ?_
    refine xen _ ?_ (h W2 (hu1.trans hu2))
    exact ⟨rfl, rfl, rfl, rfl, rfl, rfl, rfl, rfl, rfl, trivial⟩
  · have hq : (decide (x > 0) && !ltN d[x - 1]! d[p]!) = false := by simp [hx0]
    rw [hq] at h
    refine exec_dw [] rfl rfl rfl ?_
    refine dau rfl (fun _ => rfl) ?_
    refine dw_val (fun _ => pv_gtrI (a := x) (b := 0) (q := false) rfl rfl (by simpa using hx0)) ?_
    repeat (first | refine dau rfl (fun _ => rfl) ?_ | refine dga rfl (fun _ => rfl) (fun _ => rfl) ?_ | refine dgs (fun _ => rfl) ?_)
    refine dw_end fun vs W1 hu1 _ => ?_
    refine xgs rfl rfl ?_
    refine xgs rfl rfl ?_
    refine xtm rfl rfl rfl ?_
    refine xen _ ?_ (h W1 hu1)
    exact ⟨rfl, rfl, rfl, rfl, rfl, rfl, rfl, rfl, rfl, trivial⟩
variable (A : SortAll P)
set_option maxHeartbeats 1000000 in
theorem pdq_ok {b n cap : Nat} {rest : List Value} (hn : n < 2 ^ 40) : ∀ (m x0 y0 lim0 : Nat) (w : World) (d0 : Array Nat), y0 - x0 ≤ m → Blk w b (row d0 rest) → d0.size = n → x0 ≤ y0 → y0 ≤ n → lim0 < 2 ^ 40 → Below ltN x0 y0 d0 →
    Ret P A.pdq' [slV b n cap, intV' x0, intV' y0, intV' lim0] w fun _ w' => Blk w' b (row (pdq ltN d0 x0 y0 lim0 true true) rest) ∧ Upd [b] w w' := by
  intro m
  induction m with
  | zero =>
    intro x0 y0 lim0 w d0 hm hB hd hxy hy hl hBel
    refine Ret.of_exec A.h_pdq (Nat.le_of_ble_eq_true rfl) fun c hc => ?_
    dsimp only [b_slices_pdqsortOrdered_uint64, argEnv, ym, yo, yg, ys, yt, yd, ye]
    refine xr 3 rfl ?_
    refine xlo (S := Unit) (fun _ W => W = w) (fun _ => [(0, slV b n cap), (1, intV' x0), (2, intV' y0)]) (fun _ => 0) () rfl ⟨rfl, rfl, rfl, trivial⟩ ?_
    rintro _ W rfl
    refine xr 3 rfl ?_
    refine xpu (pv_subI (a := y0) (b := x0) rfl rfl (by omega) (by omega)) rfl ?_
    refine xr 2 rfl ?_
    refine xpu (pv_leqI (a := y0 - x0) (b := 12) (q := true) rfl rfl (by simp; omega)) rfl ?_
    refine xr 4 rfl ?_
    refine xca rfl rfl (ins_ok A.toSortF A.h_ins hB hd hxy hy hn) ?_
    rintro v W1 ⟨hB1, hu1⟩
    refine xre hc [] trivial ?_
    rw [pdq_small (by omega)]
    exact ⟨hB1, hu1⟩
  | succ m ih =>
    intro x0 y0 lim0 w d0 hm hB hd hxy hy hl hBel
    refine Ret.of_exec A.h_pdq (Nat.le_of_ble_eq_true rfl) fun c hc => ?_
    dsimp only [b_slices_pdqsortOrdered_uint64, argEnv, ym, yo, yg, ys, yt, yd, ye]
    refine xr 3 rfl ?_
    refine xlo (S := Array Nat × Nat × Nat × Nat × Bool × Bool) (fun s W => s.1.size = n ∧ s.2.1 ≤ s.2.2.1 ∧ s.2.2.1 ≤ n ∧ s.2.2.1 - s.2.1 ≤ m + 1 ∧ s.2.2.2.1 < 2 ^ 40 ∧ Below ltN s.2.1 s.2.2.1 s.1 ∧ pdq ltN s.1 s.2.1 s.2.2.1 s.2.2.2.1 s.2.2.2.2.1 s.2.2.2.2.2 = pdq ltN d0 x0 y0 lim0 true true ∧ Blk W b (row s.1 rest) ∧ Upd [b] w W)
      (fun s => [(0, slV b n cap), (1, intV' s.2.1), (2, intV' s.2.2.1), (3, intV' s.2.2.2.1), (8, .bool s.2.2.2.2.1), (9, .bool s.2.2.2.2.2)]) (fun s => s.2.2.1 - s.2.1) (d0, x0, y0, lim0, true, true)
      ⟨hd, hxy, hy, hm, hl, hBel, rfl, hB, Upd.refl _ _⟩ ⟨rfl, rfl, rfl, rfl, rfl, rfl, trivial⟩ ?_
    rintro ⟨d, x, y, lim, wb, wp⟩ W ⟨i1, i2, i3, i4, i5, i6, iE, i8, i9⟩
    simp only at i1 i2 i3 i4 i5 i6 iE i8
    refine xr 3 rfl ?_
    refine xpu (pv_subI (a := y) (b := x) rfl rfl (by omega) (by omega)) rfl ?_
    refine xr 2 rfl ?_
    by_cases h12 : y - x ≤ 12
    · refine xpu (pv_leqI (a := y - x) (b := 12) (q := true) rfl rfl (by simpa using h12)) rfl ?_
      refine xr 4 rfl ?_
      refine xca rfl rfl (ins_ok A.toSortF A.h_ins i8 i1 i2 i3 hn) ?_
      rintro v W1 ⟨hB1, hu1⟩
      refine xre hc [] trivial ?_
      rw [← iE, pdq_small h12]
      exact ⟨hB1, i9.trans hu1 (by simp)⟩
    refine xpu (pv_leqI (a := y - x) (b := 12) (q := false) rfl rfl (by simpa using h12)) rfl ?_
    refine xr 3 rfl ?_
    have hxy' : x < y := by omega
    by_cases hl0 : lim = 0
    · refine xpu (pv_eqlI (a := lim) (b := 0) (q := true) rfl rfl (by simpa using hl0)) rfl ?_
      refine xr 4 rfl ?_
      refine xca rfl rfl (heap_ok A.toSortF A.h_sift A.h_heap i8 i1 hxy' i3 hn) ?_
      rintro v W1 ⟨hB1, hu1⟩
      refine xre hc [] trivial ?_
      rw [← iE, pdq_heap h12 hl0]
      exact ⟨hB1, i9.trans hu1 (by simp)⟩
    refine xpu (pv_eqlI (a := lim) (b := 0) (q := false) rfl rfl (by simpa using hl0)) rfl ?_
    refine xr 4 rfl ?_
    have hf := rd_facts (limit := lim) (wb := wb) (wp := wp) swoN Go.Sort.partialInsertionSort_holds Go.Sort.reverseRange_holds hxy' (by omega) i6
    have hd1 : (rd ltN d x y lim wb wp).d1 = (if wb = false then breakPatterns d x y else d) ∧ (rd ltN d x y lim wb wp).lim = (if wb = false then lim - 1 else lim) := by cases wb <;> exact ⟨rfl, rfl⟩
    have hcc := rd_c (lt := ltN) (d := d) (a := x) (b := y) (limit := lim) (wb := wb) (wp := wp)
    have hdec := rd_dec (lt := ltN) (d := d) (a := x) (b := y) (limit := lim) (wb := wb) (wp := wp)
    have hnot := rd_not (lt := ltN) (d := d) (a := x) (b := y) (limit := lim) (wb := wb) (wp := wp)
    have hpy := rd_pi_yes (lt := ltN) (d := d) (a := x) (b := y) (limit := lim) (wb := wb) (wp := wp)
    have hpn := rd_pi_no (lt := ltN) (d := d) (a := x) (b := y) (limit := lim) (wb := wb) (wp := wp)
    have pdone := pdq_done (lt := ltN) (d := d) (wb := wb) (wp := wp) h12 hl0
    have peq := pdq_eq (lt := ltN) (d := d) (wb := wb) (wp := wp) h12 hl0
    have pleft := pdq_left (lt := ltN) (d := d) (wb := wb) (wp := wp) h12 hl0
    have pright := pdq_right (lt := ltN) (d := d) (wb := wb) (wp := wp) h12 hl0
    generalize rd ltN d x y lim wb wp = R at *
    obtain ⟨f1, f2, ⟨f3, f4⟩, f5, f6, ⟨f7, f8⟩, f9, f10⟩ := hf
    have hlimR : R.lim < 2 ^ 40 := by rw [hd1.2]; split <;> omega
    -- the patterns
    refine exec_cond_join (S := Unit) (fun _ W => Blk W b (row R.d1 rest) ∧ Upd [b] w W) (fun _ => [(0, slV b n cap), (1, intV' x), (2, intV' y), (3, intV' R.lim), (8, .bool wb), (9, .bool wp), (10, intV' (y - x))]) rfl (fun hq => ?_) (fun hq => ?_) ?_
    · simp only [Bool.not_eq_true'] at hq
      rw [if_pos hq, if_pos hq] at hd1
      refine xr 3 rfl ?_
      refine xca rfl rfl (break_ok A.toSortF A.h_lenI A.h_pow2 A.h_xor A.h_brk i8 i1 (show x + 12 < y by omega) i3 hn) ?_
      rintro v W1 ⟨hB1, hu1⟩
      refine xr 1 rfl ?_
      refine xpu (pv_subI (a := lim) (b := 1) rfl rfl (by omega) (by omega)) rfl ?_
      refine xr 1 rfl ?_
      rw [hd1.1, hd1.2]
      exact exec_meet () ⟨hB1, i9.trans hu1 (by simp)⟩ ⟨rfl, rfl, rfl, rfl, rfl, rfl, rfl, trivial⟩
    · simp only [Bool.not_eq_false'] at hq
      rw [if_neg (by simp [hq]), if_neg (by simp [hq])] at hd1
      rw [hd1.1, hd1.2]
      exact exec_meet () ⟨i8, i9⟩ ⟨rfl, rfl, rfl, rfl, rfl, rfl, rfl, trivial⟩
    rintro _ W1 ⟨j1, j2⟩
    refine xr 3 rfl ?_
    refine xca rfl rfl (choosePivot_ok A.toSortF A.h_order2 A.h_median A.h_medAdj A.h_choose j1 (f1.trans i1) (by omega) i3 hn) ?_
    rintro v W2 ⟨rfl, hu2⟩
    rw [← hcc]
    refine xr 6 rfl ?_
    have k1 := j1.upd hu2
    have k2 := j2.trans hu2 (by simp)
    -- the pivot, turned
    refine xpu (pv_eqlI (a := hintN R.c.2) (b := 2) (q := decide (R.c.2 = .decreasing)) rfl rfl (by cases R.c.2 <;> rfl)) rfl ?_
    refine exec_cond_join (S := Unit) (fun _ W => Blk W b (row R.d2 rest) ∧ Upd [b] w W) (fun _ => [(0, slV b n cap), (1, intV' x), (2, intV' y), (3, intV' R.lim), (8, .bool wb), (9, .bool wp), (10, intV' (y - x)), (11, intV' R.pivot), (12, intV' (hintN R.hint))]) rfl (fun hq => ?_) (fun hq => ?_) ?_
    · simp only [decide_eq_true_eq] at hq
      obtain ⟨e1, e2, e3⟩ := hdec hq
      refine xr 3 rfl ?_
      refine xca rfl rfl (reverse_ok A.h_rev k1 (f1.trans i1) hxy' i3 hn) ?_
      rintro v W3 ⟨hB3, hu3⟩
      refine xr 1 rfl ?_
      refine xpu (pv_subI (a := y) (b := 1) rfl rfl (by omega) (by omega)) rfl ?_
      refine xr 2 rfl ?_
      refine xpu (pv_subI (a := R.c.1) (b := x) rfl rfl (by omega) (by omega)) rfl ?_
      refine xpu (pv_subI (a := y - 1) (b := R.c.1 - x) rfl rfl (by omega) (by omega)) rfl ?_
      refine xr 2 rfl ?_
      rw [e1, e2, e3]
      exact exec_meet () ⟨hB3, k2.trans hu3 (by simp)⟩ ⟨rfl, rfl, rfl, rfl, rfl, rfl, rfl, rfl, rfl, trivial⟩
    · simp only [decide_eq_false_iff_not] at hq
      obtain ⟨e1, e2, e3⟩ := hnot hq
      rw [e1, e2, e3]
      exact exec_meet () ⟨k1, k2⟩ ⟨rfl, rfl, rfl, rfl, rfl, rfl, rfl, rfl, rfl, trivial⟩
    rintro _ W3 ⟨l1, l2⟩
    refine pdq_and wb wp (hintN R.hint) ?_
    have hh : (wb && wp && decide (hintN R.hint = 1)) = (wb && wp && decide (R.hint = .increasing)) := by
      congr 1
      cases R.hint <;> rfl
    rw [hh]
    -- nearly sorted?
    refine exec_cond_join (S := Unit) (fun _ W => R.pi.2 = false ∧ Blk W b (row R.pi.1 rest) ∧ Upd [b] w W) (fun _ => [(0, slV b n cap), (1, intV' x), (2, intV' y), (3, intV' R.lim), (8, .bool wb), (9, .bool wp), (10, intV' (y - x)), (11, intV' R.pivot)]) rfl (fun hq => ?_) (fun hq => ?_) ?_
    · have hpi := hpy hq
      refine xr 3 rfl ?_
      refine xca rfl rfl (partial_ok A.toSortF A.h_parI l1 (f5.trans i1) hxy' i3 hn) ?_
      rintro v W4 ⟨rfl, hB4, hu4⟩
      rw [← hpi] at hB4 ⊢
      refine exec_cond rfl (fun hp => ?_) (fun hp => ?_)
      · refine xre hc [] trivial ?_
        rw [← iE, pdone hp]
        exact ⟨hB4, l2.trans hu4 (by simp)⟩
      · refine xsq ?_
        exact exec_meet () ⟨hp, hB4, l2.trans hu4 (by simp)⟩ ⟨rfl, rfl, rfl, rfl, rfl, rfl, rfl, rfl, trivial⟩
    · have hpi := hpn hq
      refine exec_meet () ⟨by rw [hpi], by rw [hpi]; exact l1, l2⟩ ⟨rfl, rfl, rfl, rfl, rfl, rfl, rfl, rfl, trivial⟩
    rintro _ W4 ⟨m0, m1, m2⟩
    have sz : R.pi.1.size = n := f9.trans i1
    refine pdq_guard A.toSortF m1 sz (by omega) (by omega) hn ?_
    intro W5 hu5
    have m1' := m1.upd hu5
    have m2' := m2.trans hu5 (by simp)
    refine exec_cond rfl (fun hq => ?_) (fun hq => ?_)
    · have hx0 : 0 < x := by
        simp only [Bool.and_eq_true, decide_eq_true_eq] at hq; exact hq.1
      obtain ⟨mid, d4, hpe⟩ : ∃ mid d4, partitionEqual ltN R.pi.1 x y R.pivot = (mid, d4) := ⟨_, _, rfl⟩
      have hre := Go.Sort.round_eq swoN (Go.Sort.partitionEqual_holds _) hx0 f7 f8 (by omega) f10 (by simp only [Bool.and_eq_true] at hq; simpa using hq.2) hpe
      have h3 : x < mid ∧ mid ≤ y ∧ d4.size = n ∧ Below ltN mid y d4 := ⟨hre.1, hre.2.1, hre.2.2.1.trans sz, hre.2.2.2.1⟩
      refine xr 4 rfl ?_
      refine xca rfl rfl (partEq_ok A.toSortF A.h_partEq m1' sz f7 f8 i3 hn) ?_
      rintro v W6 ⟨rfl, hB6, hu6⟩
      rw [hpe] at hB6 ⊢
      simp only at hB6
      refine xr 5 rfl ?_
      refine xag (d4, mid, y, R.lim, wb, wp) ⟨h3.2.2.1, h3.2.1, i3, by show y - mid ≤ m + 1; omega, hlimR, h3.2.2.2, ?_, hB6, m2'.trans hu6 (by simp)⟩ (by show y - mid < y - x; omega) ⟨rfl, rfl, rfl, rfl, rfl, rfl, trivial⟩
      have := peq m0 hq (by rw [hpe]; exact ⟨h3.1, h3.2.1⟩)
      rw [hpe] at this
      rw [← iE, this]
    · obtain ⟨mid, ap, d4, hpt⟩ : ∃ mid ap d4, partition ltN R.pi.1 x y R.pivot = (mid, ap, d4) := ⟨_, _, _, rfl⟩
      have hrp := Go.Sort.round_part swoN (Go.Sort.partition_holds _) f7 f8 (by omega) f10 hpt
      obtain ⟨p1, p2, p3, p4, p5, p6, p7⟩ := hrp
      have sz4 : d4.size = n := p3.trans sz
      refine xr 5 rfl ?_
      refine xca rfl rfl (part_ok A.toSortF A.h_part m1' sz f7 f8 i3 hn) ?_
      rintro v W6 ⟨rfl, hB6, hu6⟩
      rw [hpt] at hB6 ⊢
      simp only at hB6
      refine xr 9 rfl ?_
      refine xpu (pv_subI (a := mid) (b := x) rfl rfl (by omega) (by omega)) rfl ?_
      refine xr 2 rfl ?_
      refine xpu (pv_subI (a := y) (b := mid) rfl rfl (by omega) (by omega)) rfl ?_
      refine xr 3 rfl ?_
      refine xju (ok_quoI (a := y - x) (b := 8) rfl rfl (by omega) (by omega)) rfl ?_
      refine xr 3 rfl ?_
      have m2'' := m2'.trans hu6 (by simp)
      by_cases hlr : mid - x < y - mid
      · refine xpu (pv_lssI (a := mid - x) (b := y - mid) (q := true) rfl rfl (by simpa using hlr)) rfl ?_
        refine xr 3 rfl ?_
        refine xpu (pv_geqI (a := mid - x) (b := (y - x) / 8) (q := decide (mid - x ≥ (y - x) / 8)) rfl rfl rfl) rfl ?_
        refine xr 5 rfl ?_
        refine xca rfl rfl (ih x mid R.lim _ d4 (by omega) hB6 sz4 p1 (by omega) hlimR p4) ?_
        rintro v W7 ⟨hB7, hu7⟩
        obtain ⟨s1, s2⟩ := Go.Sort.pdq_sorts ltN swoN d4 x mid R.lim true true p1 (by omega) p4
        have hbl := (p6 _ s1 s2).1
        refine xr 1 rfl ?_
        refine xpu (pv_addI (a := mid) (b := 1) rfl rfl (by omega)) rfl ?_
        refine xr 4 rfl ?_
        refine xag (pdq ltN d4 x mid R.lim true true, mid + 1, y, R.lim, decide (mid - x ≥ (y - x) / 8), ap) ⟨s1.1.trans sz4, by show mid + 1 ≤ y; omega, i3, by show y - (mid + 1) ≤ m + 1; omega, hlimR, hbl, ?_, hB7, m2''.trans hu7 (by simp)⟩ (by show y - (mid + 1) < y - x; omega) ⟨rfl, rfl, rfl, rfl, rfl, rfl, trivial⟩
        have := pleft m0 hq (by rw [hpt]; exact ⟨p1, p2⟩) (by rw [hpt]; exact hlr)
        rw [hpt] at this
        rw [← iE, this]
      · refine xpu (pv_lssI (a := mid - x) (b := y - mid) (q := false) rfl rfl (by simpa using hlr)) rfl ?_
        refine xr 3 rfl ?_
        refine xpu (pv_geqI (a := y - mid) (b := (y - x) / 8) (q := decide (y - mid ≥ (y - x) / 8)) rfl rfl rfl) rfl ?_
        refine xr 3 rfl ?_
        refine xpu (pv_addI (a := mid) (b := 1) rfl rfl (by omega)) rfl ?_
        refine xr 2 rfl ?_
        refine xca rfl rfl (ih (mid + 1) y R.lim _ d4 (by omega) hB6 sz4 (by omega) i3 hlimR p5) ?_
        rintro v W7 ⟨hB7, hu7⟩
        obtain ⟨s1, s2⟩ := Go.Sort.pdq_sorts ltN swoN d4 (mid + 1) y R.lim true true (by omega) (by omega) p5
        have hbl := (p7 _ s1 s2).1
        refine xr 5 rfl ?_
        refine xag (pdq ltN d4 (mid + 1) y R.lim true true, x, mid, R.lim, decide (y - mid ≥ (y - x) / 8), ap) ⟨s1.1.trans sz4, p1, by show mid ≤ n; omega, by show mid - x ≤ m + 1; omega, hlimR, hbl, ?_, hB7, m2''.trans hu7 (by simp)⟩ (by show mid - x < y - x; omega) ⟨rfl, rfl, rfl, rfl, rfl, rfl, trivial⟩
        have := pright m0 hq (by rw [hpt]; exact ⟨p1, p2⟩) (by rw [hpt]; exact hlr)
        rw [hpt] at this
        rw [← iE, this]
/-- slices.Sort at numbers: in order. -/
theorem sortU_ok {b n cap : Nat} {d : Array Nat} {rest : List Value} (hB : Blk w b (row d rest)) (hd : d.size = n) (hn : n < 2 ^ 40) :
    Ret P A.sort [slV b n cap] w fun _ w' => Blk w' b (row (pdq ltN d 0 n (bitLen n) true true) rest) ∧ Upd [b] w w' := by
  refine Ret.of_exec A.h_sort (Nat.le_of_ble_eq_true rfl) fun c hc => ?_
  dsimp only [b_slices_Sort_uint64_uint64, argEnv, ym, yo, yg, ys, yt, yd, ye]
  refine xr 6 rfl ?_
  refine xpu (pv_toU (a := n) rfl (by omega)) rfl ?_
  refine xca rfl rfl (len_ok A.toSortF A.h_lenI n (by omega)) ?_
  rintro v W1 ⟨rfl, hu1⟩
  have hb : bitLen n ≤ 40 := bitLen_le (by omega) (by omega)
  refine xca rfl rfl (pdq_ok A hn (n - 0) 0 n (bitLen n) _ d (Nat.le_refl _) (hB.upd hu1) hd (Nat.zero_le _) (Nat.le_refl _) (by omega) (Or.inl rfl)) ?_
  rintro v W2 ⟨hB2, hu2⟩
  refine exec_end hc [] trivial ⟨hB2, (hu1.mono (by simp)).trans hu2 (by simp)⟩
end
end Go.Sp
