/- Proved: for every list of steps spinneylaw14.ForestAnew returns true and leaves its argument as it was; no condition. This text: part 10 of 11. -/
import Derived.Test.YtlffmofhoeodfaaDoorW9
namespace Go.Sp
open Go.Sort (swp breakStep breakPatterns bitsLen xorNext xorNextN xorNext_toNat)
theorem bitsLen_eq {n : Nat} (h : n < 2 ^ 64) : bitsLen n = bitLen n := by
  refine (bitLen_eq h ⟨Go.Sort.lt_two_pow_bitsLen n, ?_⟩).symm
  rcases Nat.eq_zero_or_pos n with h0 | h0
  · left; subst h0; rfl
  · right
    have := Go.Sort.two_pow_bitsLen_le h0
    have hb : bitsLen n ≠ 0 := by
      intro hz
      have := Go.Sort.lt_two_pow_bitsLen n
      rw [hz] at this; simp at this; omega
    have e : (2 : Nat) ^ bitsLen n = 2 * 2 ^ (bitsLen n - 1) := by rw [← Nat.pow_succ']; congr 1; omega
    omega
def breakRuns (x len md : Nat) : Nat → Nat → UInt64 × Array Nat → UInt64 × Array Nat
  | 0, _, st => st
  | k + 1, idx, st => breakRuns x len md k (idx + 1) (breakStep x len md st idx)
section
variable {P : Program} {f : Nat} {w : World} (A : SortF P)
theorem len_ok {l32 : Nat} (h : Has P f (b_math_bits_Len l32 A.len64)) (x : Nat) (hx : x < 2 ^ 64) : RetV P f [u64V x] w (intV' (bitLen x)) := by
  refine Ret.of_exec h (Nat.le_of_ble_eq_true rfl) fun c hc => ?_
  dsimp only [b_math_bits_Len, argEnv]
  repeat (first | refine xtm rfl rfl rfl ?_ | refine xgr rfl ?_ | refine xgs rfl rfl ?_ | refine xg0 rfl ?_ | refine xct rfl ?_ | refine xcf rfl ?_ | refine xbk ?_ | refine xsq ?_ | refine xbl ?_ | refine xex rfl ?_)
  refine xca rfl rfl (len64_ok A.h_len64 x hx) ?_
  rintro v w1 ⟨rfl, hu1⟩
  repeat (first | refine xtm rfl rfl rfl ?_ | refine xgr rfl ?_ | refine xgs rfl rfl ?_ | refine xg0 rfl ?_ | refine xct rfl ?_ | refine xcf rfl ?_ | refine xbk ?_ | refine xsq ?_ | refine xbl ?_ | refine xex rfl ?_)
  exact xre hc [_] ⟨rfl, trivial⟩ ⟨rfl, hu1⟩
theorem pow2_ok {l32 g : Nat} (h0 : Has P g (b_math_bits_Len l32 A.len64)) (h : Has P f (b_slices_nextPowerOfTwo g)) (x : Nat) (hx : x < 2 ^ 40) : RetV P f [intV' x] w (u64V (2 ^ bitLen x)) := by
  refine Ret.of_exec h (Nat.le_of_ble_eq_true rfl) fun c hc => ?_
  dsimp only [b_slices_nextPowerOfTwo, argEnv]
  repeat (first | refine xtm rfl rfl rfl ?_ | refine xgr rfl ?_ | refine xgs rfl rfl ?_ | refine xg0 rfl ?_ | refine xct rfl ?_ | refine xcf rfl ?_ | refine xbk ?_ | refine xsq ?_ | refine xbl ?_ | refine xex rfl ?_)
  refine xpu (pv_toU (a := x) rfl (by omega)) rfl ?_
  refine xca rfl rfl (len_ok A h0 x (by omega)) ?_
  rintro v w1 ⟨rfl, hu1⟩
  refine xju (ok_shlU (a := 1) (j := bitLen x) rfl rfl) rfl ?_
  have hb : bitLen x ≤ 40 := bitLen_le (by omega) (by omega)
  have : 2 ^ bitLen x ≤ 2 ^ 40 := Nat.pow_le_pow_right (by omega) hb
  rw [Nat.one_mul, Nat.mod_eq_of_lt (by omega)]
  repeat (first | refine xtm rfl rfl rfl ?_ | refine xgr rfl ?_ | refine xgs rfl rfl ?_ | refine xg0 rfl ?_ | refine xct rfl ?_ | refine xcf rfl ?_ | refine xbk ?_ | refine xsq ?_ | refine xbl ?_ | refine xex rfl ?_)
  exact xre hc [_] ⟨rfl, trivial⟩ ⟨rfl, hu1⟩
theorem xor_ok (h : Has P f b_Pslices_xorshift_Next) {bs x : Nat} (hB : Blk w bs [u64V x]) (hx : x < 18446744073709551616) :
    Ret P f [ptrV bs] w fun v w' => v = u64V (xorNextN x) ∧ Blk w' bs [u64V (xorNextN x)] ∧ Upd [bs] w w' := by
  have p : (18446744073709551616 : Nat) = 2 ^ 64 := by decide
  have l1 : x * 8192 % 18446744073709551616 < 18446744073709551616 := Nat.mod_lt _ (by omega)
  refine Ret.of_exec h (Nat.le_of_ble_eq_true rfl) fun c hc => ?_
  dsimp only [b_Pslices_xorshift_Next, argEnv]
  repeat (first | refine xtm rfl rfl rfl ?_ | refine xgr rfl ?_ | refine xgs rfl rfl ?_ | refine xg0 rfl ?_ | refine xct rfl ?_ | refine xcf rfl ?_ | refine xbk ?_ | refine xsq ?_ | refine xbl ?_ | refine xex rfl ?_)
  refine exec_dw [] rfl rfl rfl ?_
  repeat (first | refine dau rfl (fun _ => rfl) ?_ | refine dga rfl (fun _ => rfl) (fun _ => rfl) ?_ | refine dgs (fun _ => rfl) ?_)
  refine dw_keep (u64V x) (fun vs W' hu _ => ok_load1 (b := bs) (o := 0) rfl ((hB.upd hu).cell rfl)) ?_
  repeat (first | refine dau rfl (fun _ => rfl) ?_ | refine dga rfl (fun _ => rfl) (fun _ => rfl) ?_ | refine dgs (fun _ => rfl) ?_)
  refine dw_keep (u64V x) (fun vs W' hu _ => ok_load1 (b := bs) (o := 0) rfl ((hB.upd hu).cell rfl)) ?_
  refine dw_keep _ (fun vs W' hu _ => ok_shlU (a := x) (j := 13) rfl rfl) ?_
  refine dw_end fun vs W1 hu1 _ => ?_
  refine xpu (pv_xorU (a := x) (b := x * 2 ^ 13 % 18446744073709551616) rfl rfl hx l1) rfl ?_
  repeat (first | refine xtm rfl rfl rfl ?_ | refine xgr rfl ?_ | refine xgs rfl rfl ?_ | refine xg0 rfl ?_ | refine xct rfl ?_ | refine xcf rfl ?_ | refine xbk ?_ | refine xsq ?_ | refine xbl ?_ | refine xex rfl ?_)
  generalize hy : x ^^^ x * 2 ^ 13 % 18446744073709551616 = y
  have ly : y < 18446744073709551616 := by rw [← hy, p]; exact Nat.xor_lt_two_pow (by omega) (by omega)
  refine exec_store (b := bs) (o := 0) (v := u64V y) rfl rfl (hB.upd hu1) rfl (by simp) rfl ?_
  intro W2 hu2 _ hB2
  have hB2' : Blk W2 bs [u64V y] := hB2
  refine exec_dw [] rfl rfl rfl ?_
  repeat (first | refine dau rfl (fun _ => rfl) ?_ | refine dga rfl (fun _ => rfl) (fun _ => rfl) ?_ | refine dgs (fun _ => rfl) ?_)
  refine dw_keep (u64V y) (fun vs W' hu _ => ok_load1 (b := bs) (o := 0) rfl ((hB2'.upd hu).cell rfl)) ?_
  repeat (first | refine dau rfl (fun _ => rfl) ?_ | refine dga rfl (fun _ => rfl) (fun _ => rfl) ?_ | refine dgs (fun _ => rfl) ?_)
  refine dw_keep (u64V y) (fun vs W' hu _ => ok_load1 (b := bs) (o := 0) rfl ((hB2'.upd hu).cell rfl)) ?_
  refine dw_keep _ (fun vs W' hu _ => ok_shrU (a := y) (j := 7) rfl rfl ly) ?_
  refine dw_end fun vs W3 hu3 _ => ?_
  refine xpu (pv_xorU (a := y) (b := y / 2 ^ 7) rfl rfl ly (Nat.lt_of_le_of_lt (Nat.div_le_self _ _) ly)) rfl ?_
  repeat (first | refine xtm rfl rfl rfl ?_ | refine xgr rfl ?_ | refine xgs rfl rfl ?_ | refine xg0 rfl ?_ | refine xct rfl ?_ | refine xcf rfl ?_ | refine xbk ?_ | refine xsq ?_ | refine xbl ?_ | refine xex rfl ?_)
  generalize hz : y ^^^ y / 2 ^ 7 = z
  have lz : z < 18446744073709551616 := by
    have := Nat.lt_of_le_of_lt (Nat.div_le_self y (2 ^ 7)) ly
    rw [← hz, p]; exact Nat.xor_lt_two_pow (by omega) (by omega)
  refine exec_store (b := bs) (o := 0) (v := u64V z) rfl rfl (hB2'.upd hu3) rfl (by simp) rfl ?_
  intro W4 hu4 _ hB4
  have hB4' : Blk W4 bs [u64V z] := hB4
  have l2 : z * 2 ^ 17 % 18446744073709551616 < 18446744073709551616 := Nat.mod_lt _ (by omega)
  refine exec_dw [] rfl rfl rfl ?_
  repeat (first | refine dau rfl (fun _ => rfl) ?_ | refine dga rfl (fun _ => rfl) (fun _ => rfl) ?_ | refine dgs (fun _ => rfl) ?_)
  refine dw_keep (u64V z) (fun vs W' hu _ => ok_load1 (b := bs) (o := 0) rfl ((hB4'.upd hu).cell rfl)) ?_
  repeat (first | refine dau rfl (fun _ => rfl) ?_ | refine dga rfl (fun _ => rfl) (fun _ => rfl) ?_ | refine dgs (fun _ => rfl) ?_)
  refine dw_keep (u64V z) (fun vs W' hu _ => ok_load1 (b := bs) (o := 0) rfl ((hB4'.upd hu).cell rfl)) ?_
  refine dw_keep _ (fun vs W' hu _ => ok_shlU (a := z) (j := 17) rfl rfl) ?_
  refine dw_end fun vs W5 hu5 _ => ?_
  refine xpu (pv_xorU (a := z) (b := z * 2 ^ 17 % 18446744073709551616) rfl rfl lz l2) rfl ?_
  repeat (first | refine xtm rfl rfl rfl ?_ | refine xgr rfl ?_ | refine xgs rfl rfl ?_ | refine xg0 rfl ?_ | refine xct rfl ?_ | refine xcf rfl ?_ | refine xbk ?_ | refine xsq ?_ | refine xbl ?_ | refine xex rfl ?_)
  have hr : z ^^^ z * 2 ^ 17 % 18446744073709551616 = xorNextN x := by rw [← hz, ← hy]; rfl
  rw [hr]
  refine exec_store (b := bs) (o := 0) (v := u64V (xorNextN x)) rfl rfl (hB4'.upd hu5) rfl (by simp) rfl ?_
  intro W6 hu6 _ hB6
  have hB6' : Blk W6 bs [u64V (xorNextN x)] := hB6
  repeat (first | refine xtm rfl rfl rfl ?_ | refine xgr rfl ?_ | refine xgs rfl rfl ?_ | refine xg0 rfl ?_ | refine xct rfl ?_ | refine xcf rfl ?_ | refine xbk ?_ | refine xsq ?_ | refine xbl ?_ | refine xex rfl ?_)
  refine exec_load1 (b := bs) (o := 0) rfl rfl (hB6'.cell rfl) ?_
  repeat (first | refine xtm rfl rfl rfl ?_ | refine xgr rfl ?_ | refine xgs rfl rfl ?_ | refine xg0 rfl ?_ | refine xct rfl ?_ | refine xcf rfl ?_ | refine xbk ?_ | refine xsq ?_ | refine xbl ?_ | refine xex rfl ?_)
  refine xre hc [_] ⟨rfl, trivial⟩ ⟨rfl, hB6', ?_⟩
  have t1 : Upd [bs] w W2 := (hu1.mono (m := [bs]) (by simp)).trans hu2 (by simp)
  have t2 : Upd [bs] W2 W4 := (hu3.mono (m := [bs]) (by simp)).trans hu4 (by simp)
  have t3 : Upd [bs] W4 W6 := (hu5.mono (m := [bs]) (by simp)).trans hu6 (by simp)
  exact (t1.trans t2 (by simp)).trans t3 (by simp)
theorem break_ok {l32 g1 g2 g3 T : Nat} (h0 : Has P g1 (b_math_bits_Len l32 A.len64)) (h1 : Has P g2 (b_slices_nextPowerOfTwo g1)) (h2 : Has P g3 b_Pslices_xorshift_Next) (h : Has P f (b_slices_breakPatternsOrdered_uint64 g2 g3 T))
    {b n cap x y : Nat} {d : Array Nat} {rest : List Value} (hB : Blk w b (row d rest)) (hd : d.size = n) (hxy : x + 12 < y) (hy : y ≤ n) (hn : n < 2 ^ 40) :
    Ret P f [slV b n cap, intV' x, intV' y] w fun _ w' => Blk w' b (row (breakPatterns d x y) rest) ∧ Upd [b] w w' := by
  have hlt := hB.lt
  have hlen : bitsLen (y - x) = bitLen (y - x) := bitsLen_eq (by omega)
  have hp2 := Go.Sort.two_pow_bitsLen_le (n := y - x) (by omega)
  have hp1 := Go.Sort.lt_two_pow_bitsLen (y - x)
  have hresult : breakPatterns d x y = (breakRuns x (y - x) (2 ^ bitLen (y - x)) 3 (x + (y - x) / 4 * 2 - 1) (UInt64.ofNat (y - x), d)).2 := by
    unfold breakPatterns
    simp only []
    rw [if_pos (show y - x ≥ 8 by omega), Nat.one_shiftLeft, hlen]
    rfl
  rw [hlen] at hp2 hp1
  generalize hmd : 2 ^ bitLen (y - x) = md at *
  refine Ret.of_exec h (Nat.le_of_ble_eq_true rfl) fun c hc => ?_
  dsimp only [b_slices_breakPatternsOrdered_uint64, argEnv]
  repeat (first | refine xtm rfl rfl rfl ?_ | refine xgr rfl ?_ | refine xgs rfl rfl ?_ | refine xg0 rfl ?_ | refine xct rfl ?_ | refine xcf rfl ?_ | refine xbk ?_ | refine xsq ?_ | refine xbl ?_ | refine xex rfl ?_)
  refine xpu (pv_subI (a := y) (b := x) rfl rfl (by omega) (by omega)) rfl ?_
  repeat (first | refine xtm rfl rfl rfl ?_ | refine xgr rfl ?_ | refine xgs rfl rfl ?_ | refine xg0 rfl ?_ | refine xct rfl ?_ | refine xcf rfl ?_ | refine xbk ?_ | refine xsq ?_ | refine xbl ?_ | refine xex rfl ?_)
  refine xpu (pv_geqI (a := y - x) (b := 8) (q := true) rfl rfl (by simp; omega)) rfl ?_
  repeat (first | refine xtm rfl rfl rfl ?_ | refine xgr rfl ?_ | refine xgs rfl rfl ?_ | refine xg0 rfl ?_ | refine xct rfl ?_ | refine xcf rfl ?_ | refine xbk ?_ | refine xsq ?_ | refine xbl ?_ | refine xex rfl ?_)
  refine xpu (pv_toU (a := y - x) rfl (by omega)) rfl ?_
  refine exec_new_store (v := u64V (y - x)) rfl rfl rfl rfl rfl rfl ?_
  intro bs W1 hbs hs1 hu1 hS1
  have hS : Blk W1 bs [u64V (y - x)] := hS1
  have hne : b ≠ bs := by omega
  have hB1 := hB.upd hu1
  repeat (first | refine xtm rfl rfl rfl ?_ | refine xgr rfl ?_ | refine xgs rfl rfl ?_ | refine xg0 rfl ?_ | refine xct rfl ?_ | refine xcf rfl ?_ | refine xbk ?_ | refine xsq ?_ | refine xbl ?_ | refine xex rfl ?_)
  refine xca rfl rfl (pow2_ok A h0 h1 (y - x) (by omega)) ?_
  rintro v W2 ⟨rfl, hu2⟩
  rw [hmd]
  repeat (first | refine xtm rfl rfl rfl ?_ | refine xgr rfl ?_ | refine xgs rfl rfl ?_ | refine xg0 rfl ?_ | refine xct rfl ?_ | refine xcf rfl ?_ | refine xbk ?_ | refine xsq ?_ | refine xbl ?_ | refine xex rfl ?_)
  refine xju (ok_quoI (a := y - x) (b := 4) rfl rfl (by omega) (by omega)) rfl ?_
  refine xpu (pv_mulI (a := (y - x) / 4) (b := 2) rfl rfl (by omega)) rfl ?_
  refine xpu (pv_addI (a := x) (b := (y - x) / 4 * 2) rfl rfl (by omega)) rfl ?_
  refine xpu (pv_subI (a := x + (y - x) / 4 * 2) (b := 1) rfl rfl (by omega) (by omega)) rfl ?_
  repeat (first | refine xtm rfl rfl rfl ?_ | refine xgr rfl ?_ | refine xgs rfl rfl ?_ | refine xg0 rfl ?_ | refine xct rfl ?_ | refine xcf rfl ?_ | refine xbk ?_ | refine xsq ?_ | refine xbl ?_ | refine xex rfl ?_)
  refine xlo (S := Nat × UInt64 × Array Nat) (fun s W => s.1 ≤ 3 ∧ s.2.2.size = n ∧ (breakRuns x (y - x) md (3 - s.1) (x + (y - x) / 4 * 2 - 1 + s.1) s.2).2 = breakPatterns d x y ∧ Blk W b (row s.2.2 rest) ∧ Blk W bs [u64V s.2.1.toNat] ∧ Upd [b] w W)
    (fun s => [(0, slV b n cap), (1, intV' x), (2, intV' y), (6, intV' (y - x)), (7, ptrV bs), (8, u64V md), (9, intV' (x + (y - x) / 4 * 2 - 1 + s.1))]) (fun s => 3 - s.1) (0, UInt64.ofNat (y - x), d)
    ⟨by show 0 ≤ 3; omega, hd, hresult.symm, hB1.upd hu2, ?_, (hu1.mono (m := [b]) (by simp)).trans (hu2.mono (m := [b]) (by simp)) (by simp)⟩ ⟨rfl, rfl, rfl, rfl, rfl, rfl, rfl, trivial⟩ ?_
  · have e1 : (UInt64.ofNat (y - x)).toNat = y - x := by rw [UInt64.toNat_ofNat']; exact Nat.mod_eq_of_lt (by omega)
    show Blk W2 bs [u64V (UInt64.ofNat (y - x)).toNat]
    rw [e1]; exact hS.upd hu2
  rintro ⟨t, r, dk⟩ W ⟨t1, t2, t3, t4, t5, t6⟩
  simp only at t1 t2 t3 t4 t5
  repeat (first | refine xtm rfl rfl rfl ?_ | refine xgr rfl ?_ | refine xgs rfl rfl ?_ | refine xg0 rfl ?_ | refine xct rfl ?_ | refine xcf rfl ?_ | refine xbk ?_ | refine xsq ?_ | refine xbl ?_ | refine xex rfl ?_)
  refine xju (ok_quoI (a := y - x) (b := 4) rfl rfl (by omega) (by omega)) rfl ?_
  refine xpu (pv_mulI (a := (y - x) / 4) (b := 2) rfl rfl (by omega)) rfl ?_
  refine xpu (pv_addI (a := x) (b := (y - x) / 4 * 2) rfl rfl (by omega)) rfl ?_
  refine xpu (pv_addI (a := x + (y - x) / 4 * 2) (b := 1) rfl rfl (by omega)) rfl ?_
  by_cases ht : t < 3
  · refine xpu (pv_leqI (a := x + (y - x) / 4 * 2 - 1 + t) (b := x + (y - x) / 4 * 2 + 1) (q := true) rfl rfl (by simp; omega)) rfl ?_
    repeat (first | refine xtm rfl rfl rfl ?_ | refine xgr rfl ?_ | refine xgs rfl rfl ?_ | refine xg0 rfl ?_ | refine xct rfl ?_ | refine xcf rfl ?_ | refine xbk ?_ | refine xsq ?_ | refine xbl ?_ | refine xex rfl ?_)
    refine exec_inner_join (S := Nat) (fun o W4 => breakStep x (y - x) md (r, dk) (x + (y - x) / 4 * 2 - 1 + t) = (xorNext r, swp dk (x + (y - x) / 4 * 2 - 1 + t) (x + o)) ∧ Blk W4 b (row (swp dk (x + (y - x) / 4 * 2 - 1 + t) (x + o)) rest) ∧ Blk W4 bs [u64V (xorNext r).toNat] ∧ Upd [b] w W4)
      (fun _ => [(0, slV b n cap), (1, intV' x), (2, intV' y), (6, intV' (y - x)), (7, ptrV bs), (8, u64V md), (9, intV' (x + (y - x) / 4 * 2 - 1 + t))]) ?_ ?_
    rotate_left
    · rintro o W4 ⟨q1, q2, q3, q4⟩
      repeat (first | refine xtm rfl rfl rfl ?_ | refine xgr rfl ?_ | refine xgs rfl rfl ?_ | refine xg0 rfl ?_ | refine xct rfl ?_ | refine xcf rfl ?_ | refine xbk ?_ | refine xsq ?_ | refine xbl ?_ | refine xex rfl ?_)
      refine xpu (pv_addI (a := x + (y - x) / 4 * 2 - 1 + t) (b := 1) rfl rfl (by omega)) rfl ?_
      repeat (first | refine xtm rfl rfl rfl ?_ | refine xgr rfl ?_ | refine xgs rfl rfl ?_ | refine xg0 rfl ?_ | refine xct rfl ?_ | refine xcf rfl ?_ | refine xbk ?_ | refine xsq ?_ | refine xbl ?_ | refine xex rfl ?_)
      refine xag (t + 1, xorNext r, swp dk (x + (y - x) / 4 * 2 - 1 + t) (x + o)) ⟨ht, by rw [swp_size]; exact t2, ?_, q2, q3, q4⟩ (by show 3 - (t + 1) < 3 - t; omega) ⟨rfl, rfl, rfl, rfl, rfl, rfl, rfl, trivial⟩
      rw [← t3, show 3 - t = (3 - (t + 1)) + 1 by omega]
      show _ = (breakRuns x (y - x) md (3 - (t + 1)) (x + (y - x) / 4 * 2 - 1 + t + 1) (breakStep x (y - x) md (r, dk) (x + (y - x) / 4 * 2 - 1 + t))).2
      rw [q1]
      rfl
    refine xca rfl rfl (xor_ok h2 t5 r.toNat_lt) ?_
    rintro v W3 ⟨rfl, hS3, hu3⟩
    rw [← xorNext_toNat] at hS3
    rw [← xorNext_toNat]
    have hB3 := t4.upd hu3 (by simp; exact hne)
    have hr := (xorNext r).toNat_lt
    have hands : (xorNext r).toNat &&& (md - 1) ≤ md - 1 := Nat.and_le_right
    repeat (first | refine xtm rfl rfl rfl ?_ | refine xgr rfl ?_ | refine xgs rfl rfl ?_ | refine xg0 rfl ?_ | refine xct rfl ?_ | refine xcf rfl ?_ | refine xbk ?_ | refine xsq ?_ | refine xbl ?_ | refine xex rfl ?_)
    refine xpu (pv_subU (a := md) (b := 1) rfl rfl (by omega) (by omega)) rfl ?_
    refine xpu (pv_andU (a := (xorNext r).toNat) (b := md - 1) rfl rfl hr (by omega)) rfl ?_
    refine xpu (pv_toI (a := (xorNext r).toNat &&& (md - 1)) rfl (by omega)) rfl ?_
    repeat (first | refine xtm rfl rfl rfl ?_ | refine xgr rfl ?_ | refine xgs rfl rfl ?_ | refine xg0 rfl ?_ | refine xct rfl ?_ | refine xcf rfl ?_ | refine xbk ?_ | refine xsq ?_ | refine xbl ?_ | refine xex rfl ?_)
    have hstep : ∀ o, o = (if (xorNext r).toNat &&& (md - 1) ≥ y - x then ((xorNext r).toNat &&& (md - 1)) - (y - x) else (xorNext r).toNat &&& (md - 1)) → breakStep x (y - x) md (r, dk) (x + (y - x) / 4 * 2 - 1 + t) = (xorNext r, swp dk (x + (y - x) / 4 * 2 - 1 + t) (x + o)) := by
      rintro o rfl; rfl
    by_cases hge : y - x ≤ (xorNext r).toNat &&& (md - 1)
    · refine xpu (pv_geqI (a := (xorNext r).toNat &&& (md - 1)) (b := y - x) (q := true) rfl rfl (by simpa using hge)) rfl ?_
      repeat (first | refine xtm rfl rfl rfl ?_ | refine xgr rfl ?_ | refine xgs rfl rfl ?_ | refine xg0 rfl ?_ | refine xct rfl ?_ | refine xcf rfl ?_ | refine xbk ?_ | refine xsq ?_ | refine xbl ?_ | refine xex rfl ?_)
      refine xpu (pv_subI (a := (xorNext r).toNat &&& (md - 1)) (b := y - x) rfl rfl hge (by omega)) rfl ?_
      repeat (first | refine xtm rfl rfl rfl ?_ | refine xgr rfl ?_ | refine xgs rfl rfl ?_ | refine xg0 rfl ?_ | refine xct rfl ?_ | refine xcf rfl ?_ | refine xbk ?_ | refine xsq ?_ | refine xbl ?_ | refine xex rfl ?_)
      have e1 := hstep (((xorNext r).toNat &&& (md - 1)) - (y - x)) (by rw [if_pos hge])
      generalize ho : ((xorNext r).toNat &&& (md - 1)) - (y - x) = o at e1
      have ho2 : o < y - x := by omega
      refine exec_dws [b] 17 (fun W => Blk W b (splice (row dk rest) (0 + (x + (y - x) / 4 * 2 - 1 + t) * 1) (Value.cells (u64V dk[x + o]!)).toList)) (fun W W' h hu => h.upd hu) rfl rfl rfl ?_
      repeat (first | refine ws_auto rfl rfl rfl ?_ | refine ws_gauto rfl rfl rfl rfl ?_ | refine wgs rfl rfl ?_)
      refine ws_val rfl (pv_addI (a := x) (b := o) rfl rfl (by omega)) ?_
      repeat (first | refine ws_auto rfl rfl rfl ?_ | refine ws_gauto rfl rfl rfl rfl ?_ | refine wgs rfl rfl ?_)
      refine ws_val rfl (pv_addI (a := x) (b := o) rfl rfl (by omega)) ?_
      refine ws_any _ rfl (fun W => ok_iaddr (b := b) (o := 0) (len := n) (cap := cap) rfl rfl (x + o) rfl (by omega)) ?_
      refine ws_ok (u64V dk[x + o]!) rfl rfl (fun W hu => ok_load1 (b := b) (o := 0 + (x + o) * 1) rfl ((hB3.upd hu).cell (row_get (by omega)))) ?_
      repeat (first | refine ws_auto rfl rfl rfl ?_ | refine ws_gauto rfl rfl rfl rfl ?_ | refine wgs rfl rfl ?_)
      refine ws_any _ rfl (fun W => ok_iaddr (b := b) (o := 0) (len := n) (cap := cap) rfl rfl (x + (y - x) / 4 * 2 - 1 + t) rfl (by omega)) ?_
      refine ws_ok (u64V dk[x + (y - x) / 4 * 2 - 1 + t]!) rfl rfl (fun W hu => ok_load1 (b := b) (o := 0 + (x + (y - x) / 4 * 2 - 1 + t) * 1) rfl ((hB3.upd hu).cell (row_get (by omega)))) ?_
      refine ws_any _ rfl (fun W => ok_iaddr (b := b) (o := 0) (len := n) (cap := cap) rfl rfl (x + (y - x) / 4 * 2 - 1 + t) rfl (by omega)) ?_
      refine ws_store rfl rfl rfl hB3 rfl (by rw [row_length]; omega) rfl (by simp) (fun W h => h) ?_
      refine ws_end fun W_a hu_a hW_a => ?_
      refine xju (ok_iaddr (b := b) (o := 0) (len := n) (cap := cap) rfl rfl (x + o) rfl (by omega)) rfl ?_
      refine exec_store (b := b) (o := 0 + (x + o) * 1) (v := u64V dk[x + (y - x) / 4 * 2 - 1 + t]!) rfl rfl (hW_a rfl) rfl (by rw [row_set (by omega), row_length]; simp; omega) rfl ?_
      intro W4 hu_b _ hB4
      rw [row_swp (by omega) (by omega)] at hB4
      have hu4 := hu_a.trans hu_b (by simp)
      repeat (first | refine xtm rfl rfl rfl ?_ | refine xgr rfl ?_ | refine xgs rfl rfl ?_ | refine xg0 rfl ?_ | refine xct rfl ?_ | refine xcf rfl ?_ | refine xbk ?_ | refine xsq ?_ | refine xbl ?_ | refine xex rfl ?_)
      exact exec_meet o ⟨e1, hB4, hS3.upd hu4 (by simp; omega), (t6.trans hu3 (fun z hz => .inr (by simp at hz; omega))).trans hu4 (by simp)⟩ ⟨rfl, rfl, rfl, rfl, rfl, rfl, rfl, trivial⟩
    · refine xpu (pv_geqI (a := (xorNext r).toNat &&& (md - 1)) (b := y - x) (q := false) rfl rfl (by simpa using hge)) rfl ?_
      repeat (first | refine xtm rfl rfl rfl ?_ | refine xgr rfl ?_ | refine xgs rfl rfl ?_ | refine xg0 rfl ?_ | refine xct rfl ?_ | refine xcf rfl ?_ | refine xbk ?_ | refine xsq ?_ | refine xbl ?_ | refine xex rfl ?_)
      have e1 := hstep ((xorNext r).toNat &&& (md - 1)) (by rw [if_neg hge])
      generalize ho : (xorNext r).toNat &&& (md - 1) = o at e1 hge
      have ho2 : o < y - x := by omega
      refine exec_dws [b] 17 (fun W => Blk W b (splice (row dk rest) (0 + (x + (y - x) / 4 * 2 - 1 + t) * 1) (Value.cells (u64V dk[x + o]!)).toList)) (fun W W' h hu => h.upd hu) rfl rfl rfl ?_
      repeat (first | refine ws_auto rfl rfl rfl ?_ | refine ws_gauto rfl rfl rfl rfl ?_ | refine wgs rfl rfl ?_)
      refine ws_val rfl (pv_addI (a := x) (b := o) rfl rfl (by omega)) ?_
      repeat (first | refine ws_auto rfl rfl rfl ?_ | refine ws_gauto rfl rfl rfl rfl ?_ | refine wgs rfl rfl ?_)
      refine ws_val rfl (pv_addI (a := x) (b := o) rfl rfl (by omega)) ?_
      refine ws_any _ rfl (fun W => ok_iaddr (b := b) (o := 0) (len := n) (cap := cap) rfl rfl (x + o) rfl (by omega)) ?_
      refine ws_ok (u64V dk[x + o]!) rfl rfl (fun W hu => ok_load1 (b := b) (o := 0 + (x + o) * 1) rfl ((hB3.upd hu).cell (row_get (by omega)))) ?_
      repeat (first | refine ws_auto rfl rfl rfl ?_ | refine ws_gauto rfl rfl rfl rfl ?_ | refine wgs rfl rfl ?_)
      refine ws_any _ rfl (fun W => ok_iaddr (b := b) (o := 0) (len := n) (cap := cap) rfl rfl (x + (y - x) / 4 * 2 - 1 + t) rfl (by omega)) ?_
      refine ws_ok (u64V dk[x + (y - x) / 4 * 2 - 1 + t]!) rfl rfl (fun W hu => ok_load1 (b := b) (o := 0 + (x + (y - x) / 4 * 2 - 1 + t) * 1) rfl ((hB3.upd hu).cell (row_get (by omega)))) ?_
      refine ws_any _ rfl (fun W => ok_iaddr (b := b) (o := 0) (len := n) (cap := cap) rfl rfl (x + (y - x) / 4 * 2 - 1 + t) rfl (by omega)) ?_
      refine ws_store rfl rfl rfl hB3 rfl (by rw [row_length]; omega) rfl (by simp) (fun W h => h) ?_
      refine ws_end fun W_a hu_a hW_a => ?_
      refine xju (ok_iaddr (b := b) (o := 0) (len := n) (cap := cap) rfl rfl (x + o) rfl (by omega)) rfl ?_
      refine exec_store (b := b) (o := 0 + (x + o) * 1) (v := u64V dk[x + (y - x) / 4 * 2 - 1 + t]!) rfl rfl (hW_a rfl) rfl (by rw [row_set (by omega), row_length]; simp; omega) rfl ?_
      intro W4 hu_b _ hB4
      rw [row_swp (by omega) (by omega)] at hB4
      have hu4 := hu_a.trans hu_b (by simp)
      repeat (first | refine xtm rfl rfl rfl ?_ | refine xgr rfl ?_ | refine xgs rfl rfl ?_ | refine xg0 rfl ?_ | refine xct rfl ?_ | refine xcf rfl ?_ | refine xbk ?_ | refine xsq ?_ | refine xbl ?_ | refine xex rfl ?_)
      exact exec_meet o ⟨e1, hB4, hS3.upd hu4 (by simp; omega), (t6.trans hu3 (fun z hz => .inr (by simp at hz; omega))).trans hu4 (by simp)⟩ ⟨rfl, rfl, rfl, rfl, rfl, rfl, rfl, trivial⟩
  · refine xpu (pv_leqI (a := x + (y - x) / 4 * 2 - 1 + t) (b := x + (y - x) / 4 * 2 + 1) (q := false) rfl rfl (by simp; omega)) rfl ?_
    repeat (first | refine xtm rfl rfl rfl ?_ | refine xgr rfl ?_ | refine xgs rfl rfl ?_ | refine xg0 rfl ?_ | refine xct rfl ?_ | refine xcf rfl ?_ | refine xbk ?_ | refine xsq ?_ | refine xbl ?_ | refine xex rfl ?_)
    refine exec_end hc [] trivial ?_
    have : t = 3 := by omega
    subst this
    rw [← t3]
    exact ⟨t4, t6⟩
end
end Go.Sp

namespace Go.Sp
open Go.Sort (swp scanUp scanDown partEqLoop partEqLoop_eq partLoop partLoop_eq partitionEqual partition)
theorem scanUp_if (p : Nat → Bool) (d : Array Nat) (j i : Nat) : scanUp p d j i = if i ≤ j && p d[i]! then scanUp p d j (i + 1) else i := by rw [scanUp]
theorem scanDown_succ (p : Nat → Bool) (d : Array Nat) (i j : Nat) : scanDown p d i (j + 1) = if i ≤ j + 1 && p d[j + 1]! then scanDown p d i j else j + 1 := rfl
section
variable {P : Program} {f : Nat} {w : World} (A : SortF P)
set_option maxHeartbeats 1000000 in
theorem partEq_ok (h : Has P f (b_slices_partitionEqualOrdered_uint64 A.less)) {b n cap x y p : Nat} {d : Array Nat} {rest : List Value} (hB : Blk w b (row d rest)) (hd : d.size = n) (hxp : x ≤ p) (hpy : p < y) (hy : y ≤ n) (hn : n < 2 ^ 40) :
    Ret P f [slV b n cap, intV' x, intV' y, intV' p] w fun v w' => v = intV' (partitionEqual ltN d x y p).1 ∧ Blk w' b (row (partitionEqual ltN d x y p).2 rest) ∧ Upd [b] w w' := by
  refine Ret.of_exec h (Nat.le_of_ble_eq_true rfl) fun c hc => ?_
  dsimp only [b_slices_partitionEqualOrdered_uint64, argEnv]
  repeat (first | refine xtm rfl rfl rfl ?_ | refine xgr rfl ?_ | refine xgs rfl rfl ?_ | refine xg0 rfl ?_ | refine xct rfl ?_ | refine xcf rfl ?_ | refine xbk ?_ | refine xsq ?_ | refine xbl ?_ | refine xex rfl ?_)
  refine exec_dws [b] 13 (fun W => Blk W b (splice (row d rest) (0 + x * 1) (Value.cells (u64V d[p]!)).toList)) (fun W W' h hu => h.upd hu) rfl rfl rfl ?_
  repeat (first | refine ws_auto rfl rfl rfl ?_ | refine ws_gauto rfl rfl rfl rfl ?_ | refine wgs rfl rfl ?_)
  refine ws_any _ rfl (fun W => ok_iaddr (b := b) (o := 0) (len := n) (cap := cap) rfl rfl (p) rfl (by omega)) ?_
  refine ws_ok (u64V d[p]!) rfl rfl (fun W hu => ok_load1 (b := b) (o := 0 + (p) * 1) rfl ((hB.upd hu).cell (row_get (by omega)))) ?_
  repeat (first | refine ws_auto rfl rfl rfl ?_ | refine ws_gauto rfl rfl rfl rfl ?_ | refine wgs rfl rfl ?_)
  refine ws_any _ rfl (fun W => ok_iaddr (b := b) (o := 0) (len := n) (cap := cap) rfl rfl (x) rfl (by omega)) ?_
  refine ws_ok (u64V d[x]!) rfl rfl (fun W hu => ok_load1 (b := b) (o := 0 + (x) * 1) rfl ((hB.upd hu).cell (row_get (by omega)))) ?_
  refine ws_any _ rfl (fun W => ok_iaddr (b := b) (o := 0) (len := n) (cap := cap) rfl rfl (x) rfl (by omega)) ?_
  refine ws_store rfl rfl rfl hB rfl (by rw [row_length]; omega) rfl (by simp) (fun W h => h) ?_
  refine ws_end fun W_a hu_a hW_a => ?_
  refine xju (ok_iaddr (b := b) (o := 0) (len := n) (cap := cap) rfl rfl (p) rfl (by omega)) rfl ?_
  refine exec_store (b := b) (o := 0 + (p) * 1) (v := u64V d[x]!) rfl rfl (hW_a rfl) rfl (by rw [row_set (by omega), row_length]; simp; omega) rfl ?_
  intro W0 hu_b _ hB0
  rw [row_swp (by omega) (by omega)] at hB0
  have hu0 := hu_a.trans hu_b (by simp)
  repeat (first | refine xtm rfl rfl rfl ?_ | refine xgr rfl ?_ | refine xgs rfl rfl ?_ | refine xg0 rfl ?_ | refine xct rfl ?_ | refine xcf rfl ?_ | refine xbk ?_ | refine xsq ?_ | refine xbl ?_ | refine xex rfl ?_)
  refine xpu (pv_addI (a := x) (b := 1) rfl rfl (by omega)) rfl ?_
  repeat (first | refine xtm rfl rfl rfl ?_ | refine xgr rfl ?_ | refine xgs rfl rfl ?_ | refine xg0 rfl ?_ | refine xct rfl ?_ | refine xcf rfl ?_ | refine xbk ?_ | refine xsq ?_ | refine xbl ?_ | refine xex rfl ?_)
  refine xpu (pv_subI (a := y) (b := 1) rfl rfl (by omega) (by omega)) rfl ?_
  repeat (first | refine xtm rfl rfl rfl ?_ | refine xgr rfl ?_ | refine xgs rfl rfl ?_ | refine xg0 rfl ?_ | refine xct rfl ?_ | refine xcf rfl ?_ | refine xbk ?_ | refine xsq ?_ | refine xbl ?_ | refine xex rfl ?_)
  refine xlo (S := Nat × Nat × Array Nat) (fun s W => x < s.1 ∧ s.1 ≤ s.2.1 + 2 ∧ s.2.1 < y ∧ s.2.2.size = n ∧ partEqLoop ltN x s.1 s.2.1 s.2.2 = partitionEqual ltN d x y p ∧ Blk W b (row s.2.2 rest) ∧ Upd [b] w W)
    (fun s => [(0, slV b n cap), (1, intV' x), (2, intV' y), (9, intV' s.1), (10, intV' s.2.1)]) (fun s => s.2.1 + 3 - s.1) (x + 1, y - 1, swp d x p) ⟨by show x < x + 1; omega, by show x + 1 ≤ y - 1 + 2; omega, by show y - 1 < y; omega, by rw [swp_size]; exact hd, rfl, hB0, hu0⟩ ⟨rfl, rfl, rfl, rfl, rfl, trivial⟩ ?_
  rintro ⟨i, j, dk⟩ W ⟨g1, g2, g3, g4, gE, g5, g6⟩
  simp only at g1 g2 g3 g4 gE g5
  rw [partEqLoop_eq] at gE
  repeat (first | refine xtm rfl rfl rfl ?_ | refine xgr rfl ?_ | refine xgs rfl rfl ?_ | refine xg0 rfl ?_ | refine xct rfl ?_ | refine xcf rfl ?_ | refine xbk ?_ | refine xsq ?_ | refine xbl ?_ | refine xex rfl ?_)
  repeat (first | refine xtm rfl rfl rfl ?_ | refine xgr rfl ?_ | refine xgs rfl rfl ?_ | refine xg0 rfl ?_ | refine xct rfl ?_ | refine xcf rfl ?_ | refine xbk ?_ | refine xsq ?_ | refine xbl ?_ | refine xex rfl ?_)
  refine exec_inner_join (S := Nat) (fun i2 W => x < i2 ∧ i2 ≤ j + 2 ∧ i ≤ i2 ∧ i2 = scanUp (fun z => !ltN dk[x]! z) dk j i ∧ Blk W b (row dk rest) ∧ Upd [b] w W) (fun i2 => [(0, slV b n cap), (1, intV' x), (2, intV' y), (9, intV' i2), (10, intV' j)]) ?_ ?_
  · refine xlo (S := Nat) (fun s W => x < s ∧ s ≤ j + 2 ∧ i ≤ s ∧ scanUp (fun z => !ltN dk[x]! z) dk j s = scanUp (fun z => !ltN dk[x]! z) dk j i ∧ Blk W b (row dk rest) ∧ Upd [b] w W) (fun s => [(0, slV b n cap), (1, intV' x), (2, intV' y), (9, intV' s), (10, intV' j)]) (fun s => j + 3 - s) i ⟨by omega, by omega, Nat.le_refl _, rfl, g5, g6⟩ ⟨rfl, rfl, rfl, rfl, rfl, trivial⟩ ?_
    rintro s W_1 ⟨s1, s2, s3, s4, s5, s6⟩
    by_cases hsj : s ≤ j
    · refine exec_dw [] rfl rfl rfl ?_
      refine dau rfl (fun _ => rfl) ?_
      refine dau rfl (fun _ => rfl) ?_
      refine dw_val (fun _ => pv_leqI (a := s) (b := j) (q := true) rfl rfl (by simpa using hsj)) ?_
      repeat (first | refine dau rfl (fun _ => rfl) ?_ | refine dga rfl (fun _ => rfl) (fun _ => rfl) ?_ | refine dgs (fun _ => rfl) ?_)
      refine dw_gok _ (fun _ => rfl) (fun vs W' hu _ => (ok_iaddr (b := b) (o := 0) (len := n) (cap := cap) rfl rfl (x) rfl (by omega)).keep _) ?_
      refine dw_gok (u64V dk[x]!) (fun _ => rfl) (fun vs W' hu _ => (ok_load1 (b := b) (o := 0 + (x) * 1) rfl ((s5.upd hu).cell (row_get (by omega)))).keep _) ?_
      repeat (first | refine dau rfl (fun _ => rfl) ?_ | refine dga rfl (fun _ => rfl) (fun _ => rfl) ?_ | refine dgs (fun _ => rfl) ?_)
      refine dw_gok _ (fun _ => rfl) (fun vs W' hu _ => (ok_iaddr (b := b) (o := 0) (len := n) (cap := cap) rfl rfl (s) rfl (by omega)).keep _) ?_
      refine dw_gok (u64V dk[s]!) (fun _ => rfl) (fun vs W' hu _ => (ok_load1 (b := b) (o := 0 + (s) * 1) rfl ((s5.upd hu).cell (row_get (by omega)))).keep _) ?_
      refine dw_end fun vs W_2 hu_2 _ => ?_
      repeat (first | refine xtm rfl rfl rfl ?_ | refine xgr rfl ?_ | refine xgs rfl rfl ?_ | refine xg0 rfl ?_ | refine xct rfl ?_ | refine xcf rfl ?_ | refine xbk ?_ | refine xsq ?_ | refine xbl ?_ | refine xex rfl ?_)
      refine xca rfl rfl (less_ok A.h_nan A.h_less dk[x]! dk[s]!) ?_
      rintro v W_3 ⟨rfl, hu_3⟩
      have hu_23 := hu_2.trans hu_3
      repeat (first | refine xtm rfl rfl rfl ?_ | refine xgr rfl ?_ | refine xgs rfl rfl ?_ | refine xg0 rfl ?_ | refine xct rfl ?_ | refine xcf rfl ?_ | refine xbk ?_ | refine xsq ?_ | refine xbl ?_ | refine xex rfl ?_)
      refine exec_cond rfl (fun hq => ?_) (fun hq => ?_)
      · repeat (first | refine xtm rfl rfl rfl ?_ | refine xgr rfl ?_ | refine xgs rfl rfl ?_ | refine xg0 rfl ?_ | refine xct rfl ?_ | refine xcf rfl ?_ | refine xbk ?_ | refine xsq ?_ | refine xbl ?_ | refine xex rfl ?_)
        refine xpu (pv_addI (a := s) (b := 1) rfl rfl (by omega)) rfl ?_
        repeat (first | refine xtm rfl rfl rfl ?_ | refine xgr rfl ?_ | refine xgs rfl rfl ?_ | refine xg0 rfl ?_ | refine xct rfl ?_ | refine xcf rfl ?_ | refine xbk ?_ | refine xsq ?_ | refine xbl ?_ | refine xex rfl ?_)
        refine xag (s + 1) ⟨by omega, by omega, by omega, ?_, s5.upd hu_23, s6.trans hu_23 (by simp)⟩ (by show j + 3 - (s + 1) < j + 3 - s; omega) ⟨rfl, rfl, rfl, rfl, rfl, trivial⟩
        rw [← s4, scanUp_if _ _ _ s, if_pos (by simp only [Bool.and_eq_true, decide_eq_true_eq]; exact ⟨hsj, hq⟩)]
      · repeat (first | refine xtm rfl rfl rfl ?_ | refine xgr rfl ?_ | refine xgs rfl rfl ?_ | refine xg0 rfl ?_ | refine xct rfl ?_ | refine xcf rfl ?_ | refine xbk ?_ | refine xsq ?_ | refine xbl ?_ | refine xex rfl ?_)
        refine exec_meet s ⟨s1, s2, s3, ?_, s5.upd hu_23, s6.trans hu_23 (by simp)⟩ ⟨rfl, rfl, rfl, rfl, rfl, trivial⟩
        rw [← s4, scanUp_if _ _ _ s, if_neg (by simp only [Bool.and_eq_true, decide_eq_true_eq]; rintro ⟨_, h⟩; exact Bool.false_ne_true (hq.symm.trans h))]
    · refine exec_dw [] rfl rfl rfl ?_
      refine dau rfl (fun _ => rfl) ?_
      refine dau rfl (fun _ => rfl) ?_
      refine dw_val (fun _ => pv_leqI (a := s) (b := j) (q := false) rfl rfl (by simpa using hsj)) ?_
      repeat (first | refine dau rfl (fun _ => rfl) ?_ | refine dga rfl (fun _ => rfl) (fun _ => rfl) ?_ | refine dgs (fun _ => rfl) ?_)
      refine dw_end fun vs W_2 hu_2 _ => ?_
      repeat (first | refine xtm rfl rfl rfl ?_ | refine xgr rfl ?_ | refine xgs rfl rfl ?_ | refine xg0 rfl ?_ | refine xct rfl ?_ | refine xcf rfl ?_ | refine xbk ?_ | refine xsq ?_ | refine xbl ?_ | refine xex rfl ?_)
      refine exec_meet s ⟨s1, s2, s3, ?_, s5.upd hu_2, s6.trans hu_2 (by simp)⟩ ⟨rfl, rfl, rfl, rfl, rfl, trivial⟩
      rw [← s4, scanUp_if _ _ _ s, if_neg (by simp only [Bool.and_eq_true, decide_eq_true_eq]; rintro ⟨h, _⟩; exact hsj h)]
  rintro i2 W1 ⟨u1, u2, u3, u4, u5, u6⟩
  repeat (first | refine xtm rfl rfl rfl ?_ | refine xgr rfl ?_ | refine xgs rfl rfl ?_ | refine xg0 rfl ?_ | refine xct rfl ?_ | refine xcf rfl ?_ | refine xbk ?_ | refine xsq ?_ | refine xbl ?_ | refine xex rfl ?_)
  refine exec_inner_join (S := Nat) (fun j2 W => j2 ≤ j ∧ j2 = scanDown (fun z => ltN dk[x]! z) dk i2 j ∧ Blk W b (row dk rest) ∧ Upd [b] w W) (fun j2 => [(0, slV b n cap), (1, intV' x), (2, intV' y), (9, intV' i2), (10, intV' j2)]) ?_ ?_
  · refine xlo (S := Nat) (fun s W => s ≤ j ∧ scanDown (fun z => ltN dk[x]! z) dk i2 s = scanDown (fun z => ltN dk[x]! z) dk i2 j ∧ Blk W b (row dk rest) ∧ Upd [b] w W) (fun s => [(0, slV b n cap), (1, intV' x), (2, intV' y), (9, intV' i2), (10, intV' s)]) (fun s => s) j ⟨Nat.le_refl _, rfl, u5, u6⟩ ⟨rfl, rfl, rfl, rfl, rfl, trivial⟩ ?_
    rintro s W_1 ⟨s1, s4, s5, s6⟩
    by_cases hsj : i2 ≤ s
    · obtain ⟨s, rfl⟩ : ∃ t, s = t + 1 := ⟨s - 1, by omega⟩
      refine exec_dw [] rfl rfl rfl ?_
      refine dau rfl (fun _ => rfl) ?_
      refine dau rfl (fun _ => rfl) ?_
      refine dw_val (fun _ => pv_leqI (a := i2) (b := s + 1) (q := true) rfl rfl (by simpa using hsj)) ?_
      repeat (first | refine dau rfl (fun _ => rfl) ?_ | refine dga rfl (fun _ => rfl) (fun _ => rfl) ?_ | refine dgs (fun _ => rfl) ?_)
      refine dw_gok _ (fun _ => rfl) (fun vs W' hu _ => (ok_iaddr (b := b) (o := 0) (len := n) (cap := cap) rfl rfl (x) rfl (by omega)).keep _) ?_
      refine dw_gok (u64V dk[x]!) (fun _ => rfl) (fun vs W' hu _ => (ok_load1 (b := b) (o := 0 + (x) * 1) rfl ((s5.upd hu).cell (row_get (by omega)))).keep _) ?_
      repeat (first | refine dau rfl (fun _ => rfl) ?_ | refine dga rfl (fun _ => rfl) (fun _ => rfl) ?_ | refine dgs (fun _ => rfl) ?_)
      refine dw_gok _ (fun _ => rfl) (fun vs W' hu _ => (ok_iaddr (b := b) (o := 0) (len := n) (cap := cap) rfl rfl (s + 1) rfl (by omega)).keep _) ?_
      refine dw_gok (u64V dk[s + 1]!) (fun _ => rfl) (fun vs W' hu _ => (ok_load1 (b := b) (o := 0 + (s + 1) * 1) rfl ((s5.upd hu).cell (row_get (by omega)))).keep _) ?_
      refine dw_end fun vs W_2 hu_2 _ => ?_
      repeat (first | refine xtm rfl rfl rfl ?_ | refine xgr rfl ?_ | refine xgs rfl rfl ?_ | refine xg0 rfl ?_ | refine xct rfl ?_ | refine xcf rfl ?_ | refine xbk ?_ | refine xsq ?_ | refine xbl ?_ | refine xex rfl ?_)
      refine xca rfl rfl (less_ok A.h_nan A.h_less dk[x]! dk[s + 1]!) ?_
      rintro v W_3 ⟨rfl, hu_3⟩
      have hu_23 := hu_2.trans hu_3
      repeat (first | refine xtm rfl rfl rfl ?_ | refine xgr rfl ?_ | refine xgs rfl rfl ?_ | refine xg0 rfl ?_ | refine xct rfl ?_ | refine xcf rfl ?_ | refine xbk ?_ | refine xsq ?_ | refine xbl ?_ | refine xex rfl ?_)
      refine exec_cond rfl (fun hq => ?_) (fun hq => ?_)
      · repeat (first | refine xtm rfl rfl rfl ?_ | refine xgr rfl ?_ | refine xgs rfl rfl ?_ | refine xg0 rfl ?_ | refine xct rfl ?_ | refine xcf rfl ?_ | refine xbk ?_ | refine xsq ?_ | refine xbl ?_ | refine xex rfl ?_)
        refine xpu (pv_subI (a := s + 1) (b := 1) rfl rfl (by omega) (by omega)) rfl ?_
        repeat (first | refine xtm rfl rfl rfl ?_ | refine xgr rfl ?_ | refine xgs rfl rfl ?_ | refine xg0 rfl ?_ | refine xct rfl ?_ | refine xcf rfl ?_ | refine xbk ?_ | refine xsq ?_ | refine xbl ?_ | refine xex rfl ?_)
        refine xag s ⟨by omega, ?_, s5.upd hu_23, s6.trans hu_23 (by simp)⟩ (by show s < s + 1; omega) ⟨rfl, rfl, rfl, rfl, rfl, trivial⟩
        rw [← s4, scanDown_succ, if_pos (by simp only [Bool.and_eq_true, decide_eq_true_eq]; exact ⟨hsj, hq⟩)]
      · repeat (first | refine xtm rfl rfl rfl ?_ | refine xgr rfl ?_ | refine xgs rfl rfl ?_ | refine xg0 rfl ?_ | refine xct rfl ?_ | refine xcf rfl ?_ | refine xbk ?_ | refine xsq ?_ | refine xbl ?_ | refine xex rfl ?_)
        refine exec_meet (s + 1) ⟨s1, ?_, s5.upd hu_23, s6.trans hu_23 (by simp)⟩ ⟨rfl, rfl, rfl, rfl, rfl, trivial⟩
        rw [← s4, scanDown_succ, if_neg (by simp only [Bool.and_eq_true, decide_eq_true_eq]; rintro ⟨_, h⟩; exact Bool.false_ne_true (hq.symm.trans h))]
    · refine exec_dw [] rfl rfl rfl ?_
      refine dau rfl (fun _ => rfl) ?_
      refine dau rfl (fun _ => rfl) ?_
      refine dw_val (fun _ => pv_leqI (a := i2) (b := s) (q := false) rfl rfl (by simpa using hsj)) ?_
      repeat (first | refine dau rfl (fun _ => rfl) ?_ | refine dga rfl (fun _ => rfl) (fun _ => rfl) ?_ | refine dgs (fun _ => rfl) ?_)
      refine dw_end fun vs W_2 hu_2 _ => ?_
      repeat (first | refine xtm rfl rfl rfl ?_ | refine xgr rfl ?_ | refine xgs rfl rfl ?_ | refine xg0 rfl ?_ | refine xct rfl ?_ | refine xcf rfl ?_ | refine xbk ?_ | refine xsq ?_ | refine xbl ?_ | refine xex rfl ?_)
      refine exec_meet s ⟨s1, ?_, s5.upd hu_2, s6.trans hu_2 (by simp)⟩ ⟨rfl, rfl, rfl, rfl, rfl, trivial⟩
      rw [← s4]
      cases s with
      | zero => rfl
      | succ s => rw [scanDown_succ, if_neg (by simp only [Bool.and_eq_true, decide_eq_true_eq]; rintro ⟨h, _⟩; exact hsj h)]
  rintro j2 W2 ⟨v1, v4, v5, v6⟩
  repeat (first | refine xtm rfl rfl rfl ?_ | refine xgr rfl ?_ | refine xgs rfl rfl ?_ | refine xg0 rfl ?_ | refine xct rfl ?_ | refine xcf rfl ?_ | refine xbk ?_ | refine xsq ?_ | refine xbl ?_ | refine xex rfl ?_)
  by_cases hij : j2 < i2
  · refine xpu (pv_gtrI (a := i2) (b := j2) (q := true) rfl rfl (by simpa using hij)) rfl ?_
    repeat (first | refine xtm rfl rfl rfl ?_ | refine xgr rfl ?_ | refine xgs rfl rfl ?_ | refine xg0 rfl ?_ | refine xct rfl ?_ | refine xcf rfl ?_ | refine xbk ?_ | refine xsq ?_ | refine xbl ?_ | refine xex rfl ?_)
    refine xre hc [_] ⟨rfl, trivial⟩ ?_
    rw [← gE, ← u4, ← v4, if_pos hij]
    exact ⟨rfl, v5, v6⟩
  · refine xpu (pv_gtrI (a := i2) (b := j2) (q := false) rfl rfl (by simpa using hij)) rfl ?_
    repeat (first | refine xtm rfl rfl rfl ?_ | refine xgr rfl ?_ | refine xgs rfl rfl ?_ | refine xg0 rfl ?_ | refine xct rfl ?_ | refine xcf rfl ?_ | refine xbk ?_ | refine xsq ?_ | refine xbl ?_ | refine xex rfl ?_)
    refine exec_dws [b] 13 (fun W => Blk W b (splice (row dk rest) (0 + i2 * 1) (Value.cells (u64V dk[j2]!)).toList)) (fun W W' h hu => h.upd hu) rfl rfl rfl ?_
    repeat (first | refine ws_auto rfl rfl rfl ?_ | refine ws_gauto rfl rfl rfl rfl ?_ | refine wgs rfl rfl ?_)
    refine ws_any _ rfl (fun W => ok_iaddr (b := b) (o := 0) (len := n) (cap := cap) rfl rfl (j2) rfl (by omega)) ?_
    refine ws_ok (u64V dk[j2]!) rfl rfl (fun W hu => ok_load1 (b := b) (o := 0 + (j2) * 1) rfl ((v5.upd hu).cell (row_get (by omega)))) ?_
    repeat (first | refine ws_auto rfl rfl rfl ?_ | refine ws_gauto rfl rfl rfl rfl ?_ | refine wgs rfl rfl ?_)
    refine ws_any _ rfl (fun W => ok_iaddr (b := b) (o := 0) (len := n) (cap := cap) rfl rfl (i2) rfl (by omega)) ?_
    refine ws_ok (u64V dk[i2]!) rfl rfl (fun W hu => ok_load1 (b := b) (o := 0 + (i2) * 1) rfl ((v5.upd hu).cell (row_get (by omega)))) ?_
    refine ws_any _ rfl (fun W => ok_iaddr (b := b) (o := 0) (len := n) (cap := cap) rfl rfl (i2) rfl (by omega)) ?_
    refine ws_store rfl rfl rfl v5 rfl (by rw [row_length]; omega) rfl (by simp) (fun W h => h) ?_
    refine ws_end fun W_a hu_a hW_a => ?_
    refine xju (ok_iaddr (b := b) (o := 0) (len := n) (cap := cap) rfl rfl (j2) rfl (by omega)) rfl ?_
    refine exec_store (b := b) (o := 0 + (j2) * 1) (v := u64V dk[i2]!) rfl rfl (hW_a rfl) rfl (by rw [row_set (by omega), row_length]; simp; omega) rfl ?_
    intro W3 hu_b _ hB3
    rw [row_swp (by omega) (by omega)] at hB3
    have hu3 := hu_a.trans hu_b (by simp)
    repeat (first | refine xtm rfl rfl rfl ?_ | refine xgr rfl ?_ | refine xgs rfl rfl ?_ | refine xg0 rfl ?_ | refine xct rfl ?_ | refine xcf rfl ?_ | refine xbk ?_ | refine xsq ?_ | refine xbl ?_ | refine xex rfl ?_)
    refine xpu (pv_addI (a := i2) (b := 1) rfl rfl (by omega)) rfl ?_
    repeat (first | refine xtm rfl rfl rfl ?_ | refine xgr rfl ?_ | refine xgs rfl rfl ?_ | refine xg0 rfl ?_ | refine xct rfl ?_ | refine xcf rfl ?_ | refine xbk ?_ | refine xsq ?_ | refine xbl ?_ | refine xex rfl ?_)
    refine xpu (pv_subI (a := j2) (b := 1) rfl rfl (by omega) (by omega)) rfl ?_
    repeat (first | refine xtm rfl rfl rfl ?_ | refine xgr rfl ?_ | refine xgs rfl rfl ?_ | refine xg0 rfl ?_ | refine xct rfl ?_ | refine xcf rfl ?_ | refine xbk ?_ | refine xsq ?_ | refine xbl ?_ | refine xex rfl ?_)
    refine xag (i2 + 1, j2 - 1, swp dk i2 j2) ⟨by show x < i2 + 1; omega, by show i2 + 1 ≤ j2 - 1 + 2; omega, by show j2 - 1 < y; omega, by rw [swp_size]; exact g4, ?_, hB3, v6.trans hu3 (by simp)⟩ (by show j2 - 1 + 3 - (i2 + 1) < j + 3 - i; omega) ⟨rfl, rfl, rfl, rfl, rfl, trivial⟩
    rw [← u4, ← v4, if_neg hij] at gE
    exact gE
set_option maxHeartbeats 2000000 in
theorem part_ok (h : Has P f (b_slices_partitionOrdered_uint64 A.less)) {b n cap x y p : Nat} {d : Array Nat} {rest : List Value} (hB : Blk w b (row d rest)) (hd : d.size = n) (hxp : x ≤ p) (hpy : p < y) (hy : y ≤ n) (hn : n < 2 ^ 40) :
    Ret P f [slV b n cap, intV' x, intV' y, intV' p] w fun v w' => v = .tuple #[intV' (partition ltN d x y p).1, .bool (partition ltN d x y p).2.1] ∧ Blk w' b (row (partition ltN d x y p).2.2 rest) ∧ Upd [b] w w' := by
  refine Ret.of_exec h (Nat.le_of_ble_eq_true rfl) fun c hc => ?_
  dsimp only [b_slices_partitionOrdered_uint64, argEnv]
  repeat (first | refine xtm rfl rfl rfl ?_ | refine xgr rfl ?_ | refine xgs rfl rfl ?_ | refine xg0 rfl ?_ | refine xct rfl ?_ | refine xcf rfl ?_ | refine xbk ?_ | refine xsq ?_ | refine xbl ?_ | refine xex rfl ?_)
  refine exec_dws [b] 13 (fun W => Blk W b (splice (row d rest) (0 + x * 1) (Value.cells (u64V d[p]!)).toList)) (fun W W' h hu => h.upd hu) rfl rfl rfl ?_
  repeat (first | refine ws_auto rfl rfl rfl ?_ | refine ws_gauto rfl rfl rfl rfl ?_ | refine wgs rfl rfl ?_)
  refine ws_any _ rfl (fun W => ok_iaddr (b := b) (o := 0) (len := n) (cap := cap) rfl rfl (p) rfl (by omega)) ?_
  refine ws_ok (u64V d[p]!) rfl rfl (fun W hu => ok_load1 (b := b) (o := 0 + (p) * 1) rfl ((hB.upd hu).cell (row_get (by omega)))) ?_
  repeat (first | refine ws_auto rfl rfl rfl ?_ | refine ws_gauto rfl rfl rfl rfl ?_ | refine wgs rfl rfl ?_)
  refine ws_any _ rfl (fun W => ok_iaddr (b := b) (o := 0) (len := n) (cap := cap) rfl rfl (x) rfl (by omega)) ?_
  refine ws_ok (u64V d[x]!) rfl rfl (fun W hu => ok_load1 (b := b) (o := 0 + (x) * 1) rfl ((hB.upd hu).cell (row_get (by omega)))) ?_
  refine ws_any _ rfl (fun W => ok_iaddr (b := b) (o := 0) (len := n) (cap := cap) rfl rfl (x) rfl (by omega)) ?_
  refine ws_store rfl rfl rfl hB rfl (by rw [row_length]; omega) rfl (by simp) (fun W h => h) ?_
  refine ws_end fun W_a hu_a hW_a => ?_
  refine xju (ok_iaddr (b := b) (o := 0) (len := n) (cap := cap) rfl rfl (p) rfl (by omega)) rfl ?_
  refine exec_store (b := b) (o := 0 + (p) * 1) (v := u64V d[x]!) rfl rfl (hW_a rfl) rfl (by rw [row_set (by omega), row_length]; simp; omega) rfl ?_
  intro W0 hu_b _ hB0
  rw [row_swp (by omega) (by omega)] at hB0
  have hu0 := hu_a.trans hu_b (by simp)
  repeat (first | refine xtm rfl rfl rfl ?_ | refine xgr rfl ?_ | refine xgs rfl rfl ?_ | refine xg0 rfl ?_ | refine xct rfl ?_ | refine xcf rfl ?_ | refine xbk ?_ | refine xsq ?_ | refine xbl ?_ | refine xex rfl ?_)
  refine xpu (pv_addI (a := x) (b := 1) rfl rfl (by omega)) rfl ?_
  repeat (first | refine xtm rfl rfl rfl ?_ | refine xgr rfl ?_ | refine xgs rfl rfl ?_ | refine xg0 rfl ?_ | refine xct rfl ?_ | refine xcf rfl ?_ | refine xbk ?_ | refine xsq ?_ | refine xbl ?_ | refine xex rfl ?_)
  refine xpu (pv_subI (a := y) (b := 1) rfl rfl (by omega) (by omega)) rfl ?_
  repeat (first | refine xtm rfl rfl rfl ?_ | refine xgr rfl ?_ | refine xgs rfl rfl ?_ | refine xg0 rfl ?_ | refine xct rfl ?_ | refine xcf rfl ?_ | refine xbk ?_ | refine xsq ?_ | refine xbl ?_ | refine xex rfl ?_)
  obtain ⟨i, hi⟩ : ∃ i, i = x + 1 := ⟨_, rfl⟩
  obtain ⟨j, hj⟩ : ∃ j, j = y - 1 := ⟨_, rfl⟩
  obtain ⟨dk, hdk⟩ : ∃ dk, dk = swp d x p := ⟨_, rfl⟩
  have g4 : dk.size = n := by rw [hdk, swp_size]; exact hd
  have hres : partition ltN d x y p = if scanUp (fun z => ltN z dk[x]!) dk j i > scanDown (fun z => !ltN z dk[x]!) dk (scanUp (fun z => ltN z dk[x]!) dk j i) j then (scanDown (fun z => !ltN z dk[x]!) dk (scanUp (fun z => ltN z dk[x]!) dk j i) j, true, swp dk (scanDown (fun z => !ltN z dk[x]!) dk (scanUp (fun z => ltN z dk[x]!) dk j i) j) x)
      else ((partLoop ltN x (scanUp (fun z => ltN z dk[x]!) dk j i + 1) (scanDown (fun z => !ltN z dk[x]!) dk (scanUp (fun z => ltN z dk[x]!) dk j i) j - 1) (swp dk (scanUp (fun z => ltN z dk[x]!) dk j i) (scanDown (fun z => !ltN z dk[x]!) dk (scanUp (fun z => ltN z dk[x]!) dk j i) j))).1, false,
        swp (partLoop ltN x (scanUp (fun z => ltN z dk[x]!) dk j i + 1) (scanDown (fun z => !ltN z dk[x]!) dk (scanUp (fun z => ltN z dk[x]!) dk j i) j - 1) (swp dk (scanUp (fun z => ltN z dk[x]!) dk j i) (scanDown (fun z => !ltN z dk[x]!) dk (scanUp (fun z => ltN z dk[x]!) dk j i) j))).2 (partLoop ltN x (scanUp (fun z => ltN z dk[x]!) dk j i + 1) (scanDown (fun z => !ltN z dk[x]!) dk (scanUp (fun z => ltN z dk[x]!) dk j i) j - 1) (swp dk (scanUp (fun z => ltN z dk[x]!) dk j i) (scanDown (fun z => !ltN z dk[x]!) dk (scanUp (fun z => ltN z dk[x]!) dk j i) j))).1 x) := by
    subst hi hj hdk; rfl
  rw [← hi, ← hj]
  rw [← hdk] at hB0
  have g5 := hB0
  have g6 := hu0
  repeat (first | refine xtm rfl rfl rfl ?_ | refine xgr rfl ?_ | refine xgs rfl rfl ?_ | refine xg0 rfl ?_ | refine xct rfl ?_ | refine xcf rfl ?_ | refine xbk ?_ | refine xsq ?_ | refine xbl ?_ | refine xex rfl ?_)
  refine exec_inner_join (S := Nat) (fun i2 W => x < i2 ∧ i2 ≤ j + 2 ∧ i ≤ i2 ∧ i2 = scanUp (fun z => ltN z dk[x]!) dk j i ∧ Blk W b (row dk rest) ∧ Upd [b] w W) (fun i2 => [(0, slV b n cap), (1, intV' x), (2, intV' y), (10, intV' i2), (11, intV' j)]) ?_ ?_
  · refine xlo (S := Nat) (fun s W => x < s ∧ s ≤ j + 2 ∧ i ≤ s ∧ scanUp (fun z => ltN z dk[x]!) dk j s = scanUp (fun z => ltN z dk[x]!) dk j i ∧ Blk W b (row dk rest) ∧ Upd [b] w W) (fun s => [(0, slV b n cap), (1, intV' x), (2, intV' y), (10, intV' s), (11, intV' j)]) (fun s => j + 3 - s) i ⟨by omega, by omega, Nat.le_refl _, rfl, g5, g6⟩ ⟨rfl, rfl, rfl, rfl, rfl, trivial⟩ ?_
    rintro s W_1 ⟨s1, s2, s3, s4, s5, s6⟩
    by_cases hsj : s ≤ j
    · refine exec_dw [] rfl rfl rfl ?_
      refine dau rfl (fun _ => rfl) ?_
      refine dau rfl (fun _ => rfl) ?_
      refine dw_val (fun _ => pv_leqI (a := s) (b := j) (q := true) rfl rfl (by simpa using hsj)) ?_
      repeat (first | refine dau rfl (fun _ => rfl) ?_ | refine dga rfl (fun _ => rfl) (fun _ => rfl) ?_ | refine dgs (fun _ => rfl) ?_)
      refine dw_gok _ (fun _ => rfl) (fun vs W' hu _ => (ok_iaddr (b := b) (o := 0) (len := n) (cap := cap) rfl rfl (s) rfl (by omega)).keep _) ?_
      refine dw_gok (u64V dk[s]!) (fun _ => rfl) (fun vs W' hu _ => (ok_load1 (b := b) (o := 0 + (s) * 1) rfl ((s5.upd hu).cell (row_get (by omega)))).keep _) ?_
      repeat (first | refine dau rfl (fun _ => rfl) ?_ | refine dga rfl (fun _ => rfl) (fun _ => rfl) ?_ | refine dgs (fun _ => rfl) ?_)
      refine dw_gok _ (fun _ => rfl) (fun vs W' hu _ => (ok_iaddr (b := b) (o := 0) (len := n) (cap := cap) rfl rfl (x) rfl (by omega)).keep _) ?_
      refine dw_gok (u64V dk[x]!) (fun _ => rfl) (fun vs W' hu _ => (ok_load1 (b := b) (o := 0 + (x) * 1) rfl ((s5.upd hu).cell (row_get (by omega)))).keep _) ?_
      refine dw_end fun vs W_2 hu_2 _ => ?_
      repeat (first | refine xtm rfl rfl rfl ?_ | refine xgr rfl ?_ | refine xgs rfl rfl ?_ | refine xg0 rfl ?_ | refine xct rfl ?_ | refine xcf rfl ?_ | refine xbk ?_ | refine xsq ?_ | refine xbl ?_ | refine xex rfl ?_)
      refine xca rfl rfl (less_ok A.h_nan A.h_less dk[s]! dk[x]!) ?_
      rintro v W_3 ⟨rfl, hu_3⟩
      have hu_23 := hu_2.trans hu_3
      repeat (first | refine xtm rfl rfl rfl ?_ | refine xgr rfl ?_ | refine xgs rfl rfl ?_ | refine xg0 rfl ?_ | refine xct rfl ?_ | refine xcf rfl ?_ | refine xbk ?_ | refine xsq ?_ | refine xbl ?_ | refine xex rfl ?_)
      refine exec_cond rfl (fun hq => ?_) (fun hq => ?_)
      · repeat (first | refine xtm rfl rfl rfl ?_ | refine xgr rfl ?_ | refine xgs rfl rfl ?_ | refine xg0 rfl ?_ | refine xct rfl ?_ | refine xcf rfl ?_ | refine xbk ?_ | refine xsq ?_ | refine xbl ?_ | refine xex rfl ?_)
        refine xpu (pv_addI (a := s) (b := 1) rfl rfl (by omega)) rfl ?_
        repeat (first | refine xtm rfl rfl rfl ?_ | refine xgr rfl ?_ | refine xgs rfl rfl ?_ | refine xg0 rfl ?_ | refine xct rfl ?_ | refine xcf rfl ?_ | refine xbk ?_ | refine xsq ?_ | refine xbl ?_ | refine xex rfl ?_)
        refine xag (s + 1) ⟨by omega, by omega, by omega, ?_, s5.upd hu_23, s6.trans hu_23 (by simp)⟩ (by show j + 3 - (s + 1) < j + 3 - s; omega) ⟨rfl, rfl, rfl, rfl, rfl, trivial⟩
        rw [← s4, scanUp_if _ _ _ s, if_pos (by simp only [Bool.and_eq_true, decide_eq_true_eq]; exact ⟨hsj, hq⟩)]
      · repeat (first | refine xtm rfl rfl rfl ?_ | refine xgr rfl ?_ | refine xgs rfl rfl ?_ | refine xg0 rfl ?_ | refine xct rfl ?_ | refine xcf rfl ?_ | refine xbk ?_ | refine xsq ?_ | refine xbl ?_ | refine xex rfl ?_)
        refine exec_meet s ⟨s1, s2, s3, ?_, s5.upd hu_23, s6.trans hu_23 (by simp)⟩ ⟨rfl, rfl, rfl, rfl, rfl, trivial⟩
        rw [← s4, scanUp_if _ _ _ s, if_neg (by simp only [Bool.and_eq_true, decide_eq_true_eq]; rintro ⟨_, h⟩; exact Bool.false_ne_true (hq.symm.trans h))]
    · refine exec_dw [] rfl rfl rfl ?_
      refine dau rfl (fun _ => rfl) ?_
      refine dau rfl (fun _ => rfl) ?_
      refine dw_val (fun _ => pv_leqI (a := s) (b := j) (q := false) rfl rfl (by simpa using hsj)) ?_
      repeat (first | refine dau rfl (fun _ => rfl) ?_ | refine dga rfl (fun _ => rfl) (fun _ => rfl) ?_ | refine dgs (fun _ => rfl) ?_)
      refine dw_end fun vs W_2 hu_2 _ => ?_
      repeat (first | refine xtm rfl rfl rfl ?_ | refine xgr rfl ?_ | refine xgs rfl rfl ?_ | refine xg0 rfl ?_ | refine xct rfl ?_ | refine xcf rfl ?_ | refine xbk ?_ | refine xsq ?_ | refine xbl ?_ | refine xex rfl ?_)
      refine exec_meet s ⟨s1, s2, s3, ?_, s5.upd hu_2, s6.trans hu_2 (by simp)⟩ ⟨rfl, rfl, rfl, rfl, rfl, trivial⟩
      rw [← s4, scanUp_if _ _ _ s, if_neg (by simp only [Bool.and_eq_true, decide_eq_true_eq]; rintro ⟨h, _⟩; exact hsj h)]
  rintro i2 W1 ⟨u1, u2, u3, u4, u5, u6⟩
  repeat (first | refine xtm rfl rfl rfl ?_ | refine xgr rfl ?_ | refine xgs rfl rfl ?_ | refine xg0 rfl ?_ | refine xct rfl ?_ | refine xcf rfl ?_ | refine xbk ?_ | refine xsq ?_ | refine xbl ?_ | refine xex rfl ?_)
  refine exec_inner_join (S := Nat) (fun j2 W => j2 ≤ j ∧ j2 = scanDown (fun z => !ltN z dk[x]!) dk i2 j ∧ Blk W b (row dk rest) ∧ Upd [b] w W) (fun j2 => [(0, slV b n cap), (1, intV' x), (2, intV' y), (10, intV' i2), (11, intV' j2)]) ?_ ?_
  · refine xlo (S := Nat) (fun s W => s ≤ j ∧ scanDown (fun z => !ltN z dk[x]!) dk i2 s = scanDown (fun z => !ltN z dk[x]!) dk i2 j ∧ Blk W b (row dk rest) ∧ Upd [b] w W) (fun s => [(0, slV b n cap), (1, intV' x), (2, intV' y), (10, intV' i2), (11, intV' s)]) (fun s => s) j ⟨Nat.le_refl _, rfl, u5, u6⟩ ⟨rfl, rfl, rfl, rfl, rfl, trivial⟩ ?_
    rintro s W_1 ⟨s1, s4, s5, s6⟩
    by_cases hsj : i2 ≤ s
    · obtain ⟨s, rfl⟩ : ∃ t, s = t + 1 := ⟨s - 1, by omega⟩
      refine exec_dw [] rfl rfl rfl ?_
      refine dau rfl (fun _ => rfl) ?_
      refine dau rfl (fun _ => rfl) ?_
      refine dw_val (fun _ => pv_leqI (a := i2) (b := s + 1) (q := true) rfl rfl (by simpa using hsj)) ?_
      repeat (first | refine dau rfl (fun _ => rfl) ?_ | refine dga rfl (fun _ => rfl) (fun _ => rfl) ?_ | refine dgs (fun _ => rfl) ?_)
      refine dw_gok _ (fun _ => rfl) (fun vs W' hu _ => (ok_iaddr (b := b) (o := 0) (len := n) (cap := cap) rfl rfl (s + 1) rfl (by omega)).keep _) ?_
      refine dw_gok (u64V dk[s + 1]!) (fun _ => rfl) (fun vs W' hu _ => (ok_load1 (b := b) (o := 0 + (s + 1) * 1) rfl ((s5.upd hu).cell (row_get (by omega)))).keep _) ?_
      repeat (first | refine dau rfl (fun _ => rfl) ?_ | refine dga rfl (fun _ => rfl) (fun _ => rfl) ?_ | refine dgs (fun _ => rfl) ?_)
      refine dw_gok _ (fun _ => rfl) (fun vs W' hu _ => (ok_iaddr (b := b) (o := 0) (len := n) (cap := cap) rfl rfl (x) rfl (by omega)).keep _) ?_
      refine dw_gok (u64V dk[x]!) (fun _ => rfl) (fun vs W' hu _ => (ok_load1 (b := b) (o := 0 + (x) * 1) rfl ((s5.upd hu).cell (row_get (by omega)))).keep _) ?_
      refine dw_end fun vs W_2 hu_2 _ => ?_
      repeat (first | refine xtm rfl rfl rfl ?_ | refine xgr rfl ?_ | refine xgs rfl rfl ?_ | refine xg0 rfl ?_ | refine xct rfl ?_ | refine xcf rfl ?_ | refine xbk ?_ | refine xsq ?_ | refine xbl ?_ | refine xex rfl ?_)
      refine xca rfl rfl (less_ok A.h_nan A.h_less dk[s + 1]! dk[x]!) ?_
      rintro v W_3 ⟨rfl, hu_3⟩
      have hu_23 := hu_2.trans hu_3
      repeat (first | refine xtm rfl rfl rfl ?_ | refine xgr rfl ?_ | refine xgs rfl rfl ?_ | refine xg0 rfl ?_ | refine xct rfl ?_ | refine xcf rfl ?_ | refine xbk ?_ | refine xsq ?_ | refine xbl ?_ | refine xex rfl ?_)
      refine exec_cond rfl (fun hq => ?_) (fun hq => ?_)
      · repeat (first | refine xtm rfl rfl rfl ?_ | refine xgr rfl ?_ | refine xgs rfl rfl ?_ | refine xg0 rfl ?_ | refine xct rfl ?_ | refine xcf rfl ?_ | refine xbk ?_ | refine xsq ?_ | refine xbl ?_ | refine xex rfl ?_)
        refine xpu (pv_subI (a := s + 1) (b := 1) rfl rfl (by omega) (by omega)) rfl ?_
        repeat (first | refine xtm rfl rfl rfl ?_ | refine xgr rfl ?_ | refine xgs rfl rfl ?_ | refine xg0 rfl ?_ | refine xct rfl ?_ | refine xcf rfl ?_ | refine xbk ?_ | refine xsq ?_ | refine xbl ?_ | refine xex rfl ?_)
        refine xag s ⟨by omega, ?_, s5.upd hu_23, s6.trans hu_23 (by simp)⟩ (by show s < s + 1; omega) ⟨rfl, rfl, rfl, rfl, rfl, trivial⟩
        rw [← s4, scanDown_succ, if_pos (by simp only [Bool.and_eq_true, decide_eq_true_eq]; exact ⟨hsj, hq⟩)]
      · repeat (first | refine xtm rfl rfl rfl ?_ | refine xgr rfl ?_ | refine xgs rfl rfl ?_ | refine xg0 rfl ?_ | refine xct rfl ?_ | refine xcf rfl ?_ | refine xbk ?_ | refine xsq ?_ | refine xbl ?_ | refine xex rfl ?_)
        refine exec_meet (s + 1) ⟨s1, ?_, s5.upd hu_23, s6.trans hu_23 (by simp)⟩ ⟨rfl, rfl, rfl, rfl, rfl, trivial⟩
        rw [← s4, scanDown_succ, if_neg (by simp only [Bool.and_eq_true, decide_eq_true_eq]; rintro ⟨_, h⟩; exact Bool.false_ne_true (hq.symm.trans h))]
    · refine exec_dw [] rfl rfl rfl ?_
      refine dau rfl (fun _ => rfl) ?_
      refine dau rfl (fun _ => rfl) ?_
      refine dw_val (fun _ => pv_leqI (a := i2) (b := s) (q := false) rfl rfl (by simpa using hsj)) ?_
      repeat (first | refine dau rfl (fun _ => rfl) ?_ | refine dga rfl (fun _ => rfl) (fun _ => rfl) ?_ | refine dgs (fun _ => rfl) ?_)
      refine dw_end fun vs W_2 hu_2 _ => ?_
      repeat (first | refine xtm rfl rfl rfl ?_ | refine xgr rfl ?_ | refine xgs rfl rfl ?_ | refine xg0 rfl ?_ | refine xct rfl ?_ | refine xcf rfl ?_ | refine xbk ?_ | refine xsq ?_ | refine xbl ?_ | refine xex rfl ?_)
      refine exec_meet s ⟨s1, ?_, s5.upd hu_2, s6.trans hu_2 (by simp)⟩ ⟨rfl, rfl, rfl, rfl, rfl, trivial⟩
      rw [← s4]
      cases s with
      | zero => rfl
      | succ s => rw [scanDown_succ, if_neg (by simp only [Bool.and_eq_true, decide_eq_true_eq]; rintro ⟨h, _⟩; exact hsj h)]
  rintro j2 W2 ⟨v1, v4, v5, v6⟩
  rw [← u4, ← v4] at hres
  repeat (first | refine xtm rfl rfl rfl ?_ | refine xgr rfl ?_ | refine xgs rfl rfl ?_ | refine xg0 rfl ?_ | refine xct rfl ?_ | refine xcf rfl ?_ | refine xbk ?_ | refine xsq ?_ | refine xbl ?_ | refine xex rfl ?_)
  by_cases hij : j2 < i2
  · refine xpu (pv_gtrI (a := i2) (b := j2) (q := true) rfl rfl (by simpa using hij)) rfl ?_
    repeat (first | refine xtm rfl rfl rfl ?_ | refine xgr rfl ?_ | refine xgs rfl rfl ?_ | refine xg0 rfl ?_ | refine xct rfl ?_ | refine xcf rfl ?_ | refine xbk ?_ | refine xsq ?_ | refine xbl ?_ | refine xex rfl ?_)
    refine exec_dws [b] 13 (fun W => Blk W b (splice (row dk rest) (0 + j2 * 1) (Value.cells (u64V dk[x]!)).toList)) (fun W W' h hu => h.upd hu) rfl rfl rfl ?_
    repeat (first | refine ws_auto rfl rfl rfl ?_ | refine ws_gauto rfl rfl rfl rfl ?_ | refine wgs rfl rfl ?_)
    refine ws_any _ rfl (fun W => ok_iaddr (b := b) (o := 0) (len := n) (cap := cap) rfl rfl (x) rfl (by omega)) ?_
    refine ws_ok (u64V dk[x]!) rfl rfl (fun W hu => ok_load1 (b := b) (o := 0 + (x) * 1) rfl ((v5.upd hu).cell (row_get (by omega)))) ?_
    repeat (first | refine ws_auto rfl rfl rfl ?_ | refine ws_gauto rfl rfl rfl rfl ?_ | refine wgs rfl rfl ?_)
    refine ws_any _ rfl (fun W => ok_iaddr (b := b) (o := 0) (len := n) (cap := cap) rfl rfl (j2) rfl (by omega)) ?_
    refine ws_ok (u64V dk[j2]!) rfl rfl (fun W hu => ok_load1 (b := b) (o := 0 + (j2) * 1) rfl ((v5.upd hu).cell (row_get (by omega)))) ?_
    refine ws_any _ rfl (fun W => ok_iaddr (b := b) (o := 0) (len := n) (cap := cap) rfl rfl (j2) rfl (by omega)) ?_
    refine ws_store rfl rfl rfl v5 rfl (by rw [row_length]; omega) rfl (by simp) (fun W h => h) ?_
    refine ws_end fun W_a hu_a hW_a => ?_
    refine xju (ok_iaddr (b := b) (o := 0) (len := n) (cap := cap) rfl rfl (x) rfl (by omega)) rfl ?_
    refine exec_store (b := b) (o := 0 + (x) * 1) (v := u64V dk[j2]!) rfl rfl (hW_a rfl) rfl (by rw [row_set (by omega), row_length]; simp; omega) rfl ?_
    intro W3 hu_b _ hB3
    rw [row_swp (by omega) (by omega)] at hB3
    have hu3 := hu_a.trans hu_b (by simp)
    repeat (first | refine xtm rfl rfl rfl ?_ | refine xgr rfl ?_ | refine xgs rfl rfl ?_ | refine xg0 rfl ?_ | refine xct rfl ?_ | refine xcf rfl ?_ | refine xbk ?_ | refine xsq ?_ | refine xbl ?_ | refine xex rfl ?_)
    refine xre hc [_, _] ⟨rfl, rfl, trivial⟩ ?_
    rw [hres, if_pos hij]
    exact ⟨rfl, hB3, v6.trans hu3 (by simp)⟩
  · refine xpu (pv_gtrI (a := i2) (b := j2) (q := false) rfl rfl (by simpa using hij)) rfl ?_
    repeat (first | refine xtm rfl rfl rfl ?_ | refine xgr rfl ?_ | refine xgs rfl rfl ?_ | refine xg0 rfl ?_ | refine xct rfl ?_ | refine xcf rfl ?_ | refine xbk ?_ | refine xsq ?_ | refine xbl ?_ | refine xex rfl ?_)
    rw [if_neg hij] at hres
    refine exec_dws [b] 13 (fun W => Blk W b (splice (row dk rest) (0 + i2 * 1) (Value.cells (u64V dk[j2]!)).toList)) (fun W W' h hu => h.upd hu) rfl rfl rfl ?_
    repeat (first | refine ws_auto rfl rfl rfl ?_ | refine ws_gauto rfl rfl rfl rfl ?_ | refine wgs rfl rfl ?_)
    refine ws_any _ rfl (fun W => ok_iaddr (b := b) (o := 0) (len := n) (cap := cap) rfl rfl (j2) rfl (by omega)) ?_
    refine ws_ok (u64V dk[j2]!) rfl rfl (fun W hu => ok_load1 (b := b) (o := 0 + (j2) * 1) rfl ((v5.upd hu).cell (row_get (by omega)))) ?_
    repeat (first | refine ws_auto rfl rfl rfl ?_ | refine ws_gauto rfl rfl rfl rfl ?_ | refine wgs rfl rfl ?_)
    refine ws_any _ rfl (fun W => ok_iaddr (b := b) (o := 0) (len := n) (cap := cap) rfl rfl (i2) rfl (by omega)) ?_
    refine ws_ok (u64V dk[i2]!) rfl rfl (fun W hu => ok_load1 (b := b) (o := 0 + (i2) * 1) rfl ((v5.upd hu).cell (row_get (by omega)))) ?_
    refine ws_any _ rfl (fun W => ok_iaddr (b := b) (o := 0) (len := n) (cap := cap) rfl rfl (i2) rfl (by omega)) ?_
    refine ws_store rfl rfl rfl v5 rfl (by rw [row_length]; omega) rfl (by simp) (fun W h => h) ?_
    refine ws_end fun W_a hu_a hW_a => ?_
    refine xju (ok_iaddr (b := b) (o := 0) (len := n) (cap := cap) rfl rfl (j2) rfl (by omega)) rfl ?_
    refine exec_store (b := b) (o := 0 + (j2) * 1) (v := u64V dk[i2]!) rfl rfl (hW_a rfl) rfl (by rw [row_set (by omega), row_length]; simp; omega) rfl ?_
    intro W3 hu_b _ hB3
    rw [row_swp (by omega) (by omega)] at hB3
    have hu3 := hu_a.trans hu_b (by simp)
    repeat (first | refine xtm rfl rfl rfl ?_ | refine xgr rfl ?_ | refine xgs rfl rfl ?_ | refine xg0 rfl ?_ | refine xct rfl ?_ | refine xcf rfl ?_ | refine xbk ?_ | refine xsq ?_ | refine xbl ?_ | refine xex rfl ?_)
    refine xpu (pv_addI (a := i2) (b := 1) rfl rfl (by omega)) rfl ?_
    repeat (first | refine xtm rfl rfl rfl ?_ | refine xgr rfl ?_ | refine xgs rfl rfl ?_ | refine xg0 rfl ?_ | refine xct rfl ?_ | refine xcf rfl ?_ | refine xbk ?_ | refine xsq ?_ | refine xbl ?_ | refine xex rfl ?_)
    refine xpu (pv_subI (a := j2) (b := 1) rfl rfl (by omega) (by omega)) rfl ?_
    repeat (first | refine xtm rfl rfl rfl ?_ | refine xgr rfl ?_ | refine xgs rfl rfl ?_ | refine xg0 rfl ?_ | refine xct rfl ?_ | refine xcf rfl ?_ | refine xbk ?_ | refine xsq ?_ | refine xbl ?_ | refine xex rfl ?_)
    have hj2 : j2 < y := by omega
    have hu4 := v6.trans hu3 (by simp)
    generalize hpl : partLoop ltN x (i2 + 1) (j2 - 1) (swp dk i2 j2) = pl at hres
    clear g5 g6 u5 u6 v5 v6
    refine xlo (S := Nat × Nat × Array Nat) (fun s W => x < s.1 ∧ s.1 ≤ s.2.1 + 2 ∧ s.2.1 < y ∧ s.2.2.size = n ∧ partLoop ltN x s.1 s.2.1 s.2.2 = pl ∧ Blk W b (row s.2.2 rest) ∧ Upd [b] w W)
      (fun s => [(0, slV b n cap), (1, intV' x), (2, intV' y), (10, intV' s.1), (11, intV' s.2.1)]) (fun s => s.2.1 + 3 - s.1) (i2 + 1, j2 - 1, swp dk i2 j2) ⟨by show x < i2 + 1; omega, by show i2 + 1 ≤ j2 - 1 + 2; omega, by show j2 - 1 < y; omega, by rw [swp_size]; exact g4, hpl, hB3, hu4⟩ ⟨rfl, rfl, rfl, rfl, rfl, trivial⟩ ?_
    rintro ⟨i, j, dk⟩ W ⟨g1, g2, g3, g4, gE, g5, g6⟩
    simp only at g1 g2 g3 g4 gE g5
    rw [partLoop_eq] at gE
    repeat (first | refine xtm rfl rfl rfl ?_ | refine xgr rfl ?_ | refine xgs rfl rfl ?_ | refine xg0 rfl ?_ | refine xct rfl ?_ | refine xcf rfl ?_ | refine xbk ?_ | refine xsq ?_ | refine xbl ?_ | refine xex rfl ?_)
    repeat (first | refine xtm rfl rfl rfl ?_ | refine xgr rfl ?_ | refine xgs rfl rfl ?_ | refine xg0 rfl ?_ | refine xct rfl ?_ | refine xcf rfl ?_ | refine xbk ?_ | refine xsq ?_ | refine xbl ?_ | refine xex rfl ?_)
    refine exec_inner_join (S := Nat) (fun i2 W => x < i2 ∧ i2 ≤ j + 2 ∧ i ≤ i2 ∧ i2 = scanUp (fun z => ltN z dk[x]!) dk j i ∧ Blk W b (row dk rest) ∧ Upd [b] w W) (fun i2 => [(0, slV b n cap), (1, intV' x), (2, intV' y), (10, intV' i2), (11, intV' j)]) ?_ ?_
    · refine xlo (S := Nat) (fun s W => x < s ∧ s ≤ j + 2 ∧ i ≤ s ∧ scanUp (fun z => ltN z dk[x]!) dk j s = scanUp (fun z => ltN z dk[x]!) dk j i ∧ Blk W b (row dk rest) ∧ Upd [b] w W) (fun s => [(0, slV b n cap), (1, intV' x), (2, intV' y), (10, intV' s), (11, intV' j)]) (fun s => j + 3 - s) i ⟨by omega, by omega, Nat.le_refl _, rfl, g5, g6⟩ ⟨rfl, rfl, rfl, rfl, rfl, trivial⟩ ?_
      rintro s W_1 ⟨s1, s2, s3, s4, s5, s6⟩
      by_cases hsj : s ≤ j
      · refine exec_dw [] rfl rfl rfl ?_
        refine dau rfl (fun _ => rfl) ?_
        refine dau rfl (fun _ => rfl) ?_
        refine dw_val (fun _ => pv_leqI (a := s) (b := j) (q := true) rfl rfl (by simpa using hsj)) ?_
        repeat (first | refine dau rfl (fun _ => rfl) ?_ | refine dga rfl (fun _ => rfl) (fun _ => rfl) ?_ | refine dgs (fun _ => rfl) ?_)
        refine dw_gok _ (fun _ => rfl) (fun vs W' hu _ => (ok_iaddr (b := b) (o := 0) (len := n) (cap := cap) rfl rfl (s) rfl (by omega)).keep _) ?_
        refine dw_gok (u64V dk[s]!) (fun _ => rfl) (fun vs W' hu _ => (ok_load1 (b := b) (o := 0 + (s) * 1) rfl ((s5.upd hu).cell (row_get (by omega)))).keep _) ?_
        repeat (first | refine dau rfl (fun _ => rfl) ?_ | refine dga rfl (fun _ => rfl) (fun _ => rfl) ?_ | refine dgs (fun _ => rfl) ?_)
        refine dw_gok _ (fun _ => rfl) (fun vs W' hu _ => (ok_iaddr (b := b) (o := 0) (len := n) (cap := cap) rfl rfl (x) rfl (by omega)).keep _) ?_
        refine dw_gok (u64V dk[x]!) (fun _ => rfl) (fun vs W' hu _ => (ok_load1 (b := b) (o := 0 + (x) * 1) rfl ((s5.upd hu).cell (row_get (by omega)))).keep _) ?_
        refine dw_end fun vs W_2 hu_2 _ => ?_
        repeat (first | refine xtm rfl rfl rfl ?_ | refine xgr rfl ?_ | refine xgs rfl rfl ?_ | refine xg0 rfl ?_ | refine xct rfl ?_ | refine xcf rfl ?_ | refine xbk ?_ | refine xsq ?_ | refine xbl ?_ | refine xex rfl ?_)
        refine xca rfl rfl (less_ok A.h_nan A.h_less dk[s]! dk[x]!) ?_
        rintro v W_3 ⟨rfl, hu_3⟩
        have hu_23 := hu_2.trans hu_3
        repeat (first | refine xtm rfl rfl rfl ?_ | refine xgr rfl ?_ | refine xgs rfl rfl ?_ | refine xg0 rfl ?_ | refine xct rfl ?_ | refine xcf rfl ?_ | refine xbk ?_ | refine xsq ?_ | refine xbl ?_ | refine xex rfl ?_)
        refine exec_cond rfl (fun hq => ?_) (fun hq => ?_)
        · repeat (first | refine xtm rfl rfl rfl ?_ | refine xgr rfl ?_ | refine xgs rfl rfl ?_ | refine xg0 rfl ?_ | refine xct rfl ?_ | refine xcf rfl ?_ | refine xbk ?_ | refine xsq ?_ | refine xbl ?_ | refine xex rfl ?_)
          refine xpu (pv_addI (a := s) (b := 1) rfl rfl (by omega)) rfl ?_
          repeat (first | refine xtm rfl rfl rfl ?_ | refine xgr rfl ?_ | refine xgs rfl rfl ?_ | refine xg0 rfl ?_ | refine xct rfl ?_ | refine xcf rfl ?_ | refine xbk ?_ | refine xsq ?_ | refine xbl ?_ | refine xex rfl ?_)
          refine xag (s + 1) ⟨by omega, by omega, by omega, ?_, s5.upd hu_23, s6.trans hu_23 (by simp)⟩ (by show j + 3 - (s + 1) < j + 3 - s; omega) ⟨rfl, rfl, rfl, rfl, rfl, trivial⟩
          rw [← s4, scanUp_if _ _ _ s, if_pos (by simp only [Bool.and_eq_true, decide_eq_true_eq]; exact ⟨hsj, hq⟩)]
        · repeat (first | refine xtm rfl rfl rfl ?_ | refine xgr rfl ?_ | refine xgs rfl rfl ?_ | refine xg0 rfl ?_ | refine xct rfl ?_ | refine xcf rfl ?_ | refine xbk ?_ | refine xsq ?_ | refine xbl ?_ | refine xex rfl ?_)
          refine exec_meet s ⟨s1, s2, s3, ?_, s5.upd hu_23, s6.trans hu_23 (by simp)⟩ ⟨rfl, rfl, rfl, rfl, rfl, trivial⟩
          rw [← s4, scanUp_if _ _ _ s, if_neg (by simp only [Bool.and_eq_true, decide_eq_true_eq]; rintro ⟨_, h⟩; exact Bool.false_ne_true (hq.symm.trans h))]
      · refine exec_dw [] rfl rfl rfl ?_
        refine dau rfl (fun _ => rfl) ?_
        refine dau rfl (fun _ => rfl) ?_
        refine dw_val (fun _ => pv_leqI (a := s) (b := j) (q := false) rfl rfl (by simpa using hsj)) ?_
        repeat (first | refine dau rfl (fun _ => rfl) ?_ | refine dga rfl (fun _ => rfl) (fun _ => rfl) ?_ | refine dgs (fun _ => rfl) ?_)
        refine dw_end fun vs W_2 hu_2 _ => ?_
        repeat (first | refine xtm rfl rfl rfl ?_ | refine xgr rfl ?_ | refine xgs rfl rfl ?_ | refine xg0 rfl ?_ | refine xct rfl ?_ | refine xcf rfl ?_ | refine xbk ?_ | refine xsq ?_ | refine xbl ?_ | refine xex rfl ?_)
        refine exec_meet s ⟨s1, s2, s3, ?_, s5.upd hu_2, s6.trans hu_2 (by simp)⟩ ⟨rfl, rfl, rfl, rfl, rfl, trivial⟩
        rw [← s4, scanUp_if _ _ _ s, if_neg (by simp only [Bool.and_eq_true, decide_eq_true_eq]; rintro ⟨h, _⟩; exact hsj h)]
    rintro i2 W1 ⟨u1, u2, u3, u4, u5, u6⟩
    repeat (first | refine xtm rfl rfl rfl ?_ | refine xgr rfl ?_ | refine xgs rfl rfl ?_ | refine xg0 rfl ?_ | refine xct rfl ?_ | refine xcf rfl ?_ | refine xbk ?_ | refine xsq ?_ | refine xbl ?_ | refine xex rfl ?_)
    refine exec_inner_join (S := Nat) (fun j2 W => j2 ≤ j ∧ j2 = scanDown (fun z => !ltN z dk[x]!) dk i2 j ∧ Blk W b (row dk rest) ∧ Upd [b] w W) (fun j2 => [(0, slV b n cap), (1, intV' x), (2, intV' y), (10, intV' i2), (11, intV' j2)]) ?_ ?_
    · refine xlo (S := Nat) (fun s W => s ≤ j ∧ scanDown (fun z => !ltN z dk[x]!) dk i2 s = scanDown (fun z => !ltN z dk[x]!) dk i2 j ∧ Blk W b (row dk rest) ∧ Upd [b] w W) (fun s => [(0, slV b n cap), (1, intV' x), (2, intV' y), (10, intV' i2), (11, intV' s)]) (fun s => s) j ⟨Nat.le_refl _, rfl, u5, u6⟩ ⟨rfl, rfl, rfl, rfl, rfl, trivial⟩ ?_
      rintro s W_1 ⟨s1, s4, s5, s6⟩
      by_cases hsj : i2 ≤ s
      · obtain ⟨s, rfl⟩ : ∃ t, s = t + 1 := ⟨s - 1, by omega⟩
        refine exec_dw [] rfl rfl rfl ?_
        refine dau rfl (fun _ => rfl) ?_
        refine dau rfl (fun _ => rfl) ?_
        refine dw_val (fun _ => pv_leqI (a := i2) (b := s + 1) (q := true) rfl rfl (by simpa using hsj)) ?_
        repeat (first | refine dau rfl (fun _ => rfl) ?_ | refine dga rfl (fun _ => rfl) (fun _ => rfl) ?_ | refine dgs (fun _ => rfl) ?_)
        refine dw_gok _ (fun _ => rfl) (fun vs W' hu _ => (ok_iaddr (b := b) (o := 0) (len := n) (cap := cap) rfl rfl (s + 1) rfl (by omega)).keep _) ?_
        refine dw_gok (u64V dk[s + 1]!) (fun _ => rfl) (fun vs W' hu _ => (ok_load1 (b := b) (o := 0 + (s + 1) * 1) rfl ((s5.upd hu).cell (row_get (by omega)))).keep _) ?_
        repeat (first | refine dau rfl (fun _ => rfl) ?_ | refine dga rfl (fun _ => rfl) (fun _ => rfl) ?_ | refine dgs (fun _ => rfl) ?_)
        refine dw_gok _ (fun _ => rfl) (fun vs W' hu _ => (ok_iaddr (b := b) (o := 0) (len := n) (cap := cap) rfl rfl (x) rfl (by omega)).keep _) ?_
        refine dw_gok (u64V dk[x]!) (fun _ => rfl) (fun vs W' hu _ => (ok_load1 (b := b) (o := 0 + (x) * 1) rfl ((s5.upd hu).cell (row_get (by omega)))).keep _) ?_
        refine dw_end fun vs W_2 hu_2 _ => ?_
        repeat (first | refine xtm rfl rfl rfl ?_ | refine xgr rfl ?_ | refine xgs rfl rfl ?_ | refine xg0 rfl ?_ | refine xct rfl ?_ | refine xcf rfl ?_ | refine xbk ?_ | refine xsq ?_ | refine xbl ?_ | refine xex rfl ?_)
        refine xca rfl rfl (less_ok A.h_nan A.h_less dk[s + 1]! dk[x]!) ?_
        rintro v W_3 ⟨rfl, hu_3⟩
        have hu_23 := hu_2.trans hu_3
        repeat (first | refine xtm rfl rfl rfl ?_ | refine xgr rfl ?_ | refine xgs rfl rfl ?_ | refine xg0 rfl ?_ | refine xct rfl ?_ | refine xcf rfl ?_ | refine xbk ?_ | refine xsq ?_ | refine xbl ?_ | refine xex rfl ?_)
        refine exec_cond rfl (fun hq => ?_) (fun hq => ?_)
        · repeat (first | refine xtm rfl rfl rfl ?_ | refine xgr rfl ?_ | refine xgs rfl rfl ?_ | refine xg0 rfl ?_ | refine xct rfl ?_ | refine xcf rfl ?_ | refine xbk ?_ | refine xsq ?_ | refine xbl ?_ | refine xex rfl ?_)
          refine xpu (pv_subI (a := s + 1) (b := 1) rfl rfl (by omega) (by omega)) rfl ?_
          repeat (first | refine xtm rfl rfl rfl ?_ | refine xgr rfl ?_ | refine xgs rfl rfl ?_ | refine xg0 rfl ?_ | refine xct rfl ?_ | refine xcf rfl ?_ | refine xbk ?_ | refine xsq ?_ | refine xbl ?_ | refine xex rfl ?_)
          refine xag s ⟨by omega, ?_, s5.upd hu_23, s6.trans hu_23 (by simp)⟩ (by show s < s + 1; omega) ⟨rfl, rfl, rfl, rfl, rfl, trivial⟩
          rw [← s4, scanDown_succ, if_pos (by simp only [Bool.and_eq_true, decide_eq_true_eq]; exact ⟨hsj, hq⟩)]
        · repeat (first | refine xtm rfl rfl rfl ?_ | refine xgr rfl ?_ | refine xgs rfl rfl ?_ | refine xg0 rfl ?_ | refine xct rfl ?_ | refine xcf rfl ?_ | refine xbk ?_ | refine xsq ?_ | refine xbl ?_ | refine xex rfl ?_)
          refine exec_meet (s + 1) ⟨s1, ?_, s5.upd hu_23, s6.trans hu_23 (by simp)⟩ ⟨rfl, rfl, rfl, rfl, rfl, trivial⟩
          rw [← s4, scanDown_succ, if_neg (by simp only [Bool.and_eq_true, decide_eq_true_eq]; rintro ⟨_, h⟩; exact Bool.false_ne_true (hq.symm.trans h))]
      · refine exec_dw [] rfl rfl rfl ?_
        refine dau rfl (fun _ => rfl) ?_
        refine dau rfl (fun _ => rfl) ?_
        refine dw_val (fun _ => pv_leqI (a := i2) (b := s) (q := false) rfl rfl (by simpa using hsj)) ?_
        repeat (first | refine dau rfl (fun _ => rfl) ?_ | refine dga rfl (fun _ => rfl) (fun _ => rfl) ?_ | refine dgs (fun _ => rfl) ?_)
        refine dw_end fun vs W_2 hu_2 _ => ?_
        repeat (first | refine xtm rfl rfl rfl ?_ | refine xgr rfl ?_ | refine xgs rfl rfl ?_ | refine xg0 rfl ?_ | refine xct rfl ?_ | refine xcf rfl ?_ | refine xbk ?_ | refine xsq ?_ | refine xbl ?_ | refine xex rfl ?_)
        refine exec_meet s ⟨s1, ?_, s5.upd hu_2, s6.trans hu_2 (by simp)⟩ ⟨rfl, rfl, rfl, rfl, rfl, trivial⟩
        rw [← s4]
        cases s with
        | zero => rfl
        | succ s => rw [scanDown_succ, if_neg (by simp only [Bool.and_eq_true, decide_eq_true_eq]; rintro ⟨h, _⟩; exact hsj h)]
    rintro j2 W2 ⟨v1, v4, v5, v6⟩
    repeat (first | refine xtm rfl rfl rfl ?_ | refine xgr rfl ?_ | refine xgs rfl rfl ?_ | refine xg0 rfl ?_ | refine xct rfl ?_ | refine xcf rfl ?_ | refine xbk ?_ | refine xsq ?_ | refine xbl ?_ | refine xex rfl ?_)
    by_cases hij : j2 < i2
    · refine xpu (pv_gtrI (a := i2) (b := j2) (q := true) rfl rfl (by simpa using hij)) rfl ?_
      repeat (first | refine xtm rfl rfl rfl ?_ | refine xgr rfl ?_ | refine xgs rfl rfl ?_ | refine xg0 rfl ?_ | refine xct rfl ?_ | refine xcf rfl ?_ | refine xbk ?_ | refine xsq ?_ | refine xbl ?_ | refine xex rfl ?_)
      refine exec_dws [b] 13 (fun W => Blk W b (splice (row dk rest) (0 + j2 * 1) (Value.cells (u64V dk[x]!)).toList)) (fun W W' h hu => h.upd hu) rfl rfl rfl ?_
      repeat (first | refine ws_auto rfl rfl rfl ?_ | refine ws_gauto rfl rfl rfl rfl ?_ | refine wgs rfl rfl ?_)
      refine ws_any _ rfl (fun W => ok_iaddr (b := b) (o := 0) (len := n) (cap := cap) rfl rfl (x) rfl (by omega)) ?_
      refine ws_ok (u64V dk[x]!) rfl rfl (fun W hu => ok_load1 (b := b) (o := 0 + (x) * 1) rfl ((v5.upd hu).cell (row_get (by omega)))) ?_
      repeat (first | refine ws_auto rfl rfl rfl ?_ | refine ws_gauto rfl rfl rfl rfl ?_ | refine wgs rfl rfl ?_)
      refine ws_any _ rfl (fun W => ok_iaddr (b := b) (o := 0) (len := n) (cap := cap) rfl rfl (j2) rfl (by omega)) ?_
      refine ws_ok (u64V dk[j2]!) rfl rfl (fun W hu => ok_load1 (b := b) (o := 0 + (j2) * 1) rfl ((v5.upd hu).cell (row_get (by omega)))) ?_
      refine ws_any _ rfl (fun W => ok_iaddr (b := b) (o := 0) (len := n) (cap := cap) rfl rfl (j2) rfl (by omega)) ?_
      refine ws_store rfl rfl rfl v5 rfl (by rw [row_length]; omega) rfl (by simp) (fun W h => h) ?_
      refine ws_end fun W_a hu_a hW_a => ?_
      refine xju (ok_iaddr (b := b) (o := 0) (len := n) (cap := cap) rfl rfl (x) rfl (by omega)) rfl ?_
      refine exec_store (b := b) (o := 0 + (x) * 1) (v := u64V dk[j2]!) rfl rfl (hW_a rfl) rfl (by rw [row_set (by omega), row_length]; simp; omega) rfl ?_
      intro W3 hu_b _ hB3
      rw [row_swp (by omega) (by omega)] at hB3
      have hu3 := hu_a.trans hu_b (by simp)
      repeat (first | refine xtm rfl rfl rfl ?_ | refine xgr rfl ?_ | refine xgs rfl rfl ?_ | refine xg0 rfl ?_ | refine xct rfl ?_ | refine xcf rfl ?_ | refine xbk ?_ | refine xsq ?_ | refine xbl ?_ | refine xex rfl ?_)
      refine xre hc [_, _] ⟨rfl, rfl, trivial⟩ ?_
      rw [← u4, ← v4, if_pos hij] at gE
      rw [hres, ← gE]
      exact ⟨rfl, hB3, v6.trans hu3 (by simp)⟩
    · refine xpu (pv_gtrI (a := i2) (b := j2) (q := false) rfl rfl (by simpa using hij)) rfl ?_
      repeat (first | refine xtm rfl rfl rfl ?_ | refine xgr rfl ?_ | refine xgs rfl rfl ?_ | refine xg0 rfl ?_ | refine xct rfl ?_ | refine xcf rfl ?_ | refine xbk ?_ | refine xsq ?_ | refine xbl ?_ | refine xex rfl ?_)
      refine exec_dws [b] 13 (fun W => Blk W b (splice (row dk rest) (0 + i2 * 1) (Value.cells (u64V dk[j2]!)).toList)) (fun W W' h hu => h.upd hu) rfl rfl rfl ?_
      repeat (first | refine ws_auto rfl rfl rfl ?_ | refine ws_gauto rfl rfl rfl rfl ?_ | refine wgs rfl rfl ?_)
      refine ws_any _ rfl (fun W => ok_iaddr (b := b) (o := 0) (len := n) (cap := cap) rfl rfl (j2) rfl (by omega)) ?_
      refine ws_ok (u64V dk[j2]!) rfl rfl (fun W hu => ok_load1 (b := b) (o := 0 + (j2) * 1) rfl ((v5.upd hu).cell (row_get (by omega)))) ?_
      repeat (first | refine ws_auto rfl rfl rfl ?_ | refine ws_gauto rfl rfl rfl rfl ?_ | refine wgs rfl rfl ?_)
      refine ws_any _ rfl (fun W => ok_iaddr (b := b) (o := 0) (len := n) (cap := cap) rfl rfl (i2) rfl (by omega)) ?_
      refine ws_ok (u64V dk[i2]!) rfl rfl (fun W hu => ok_load1 (b := b) (o := 0 + (i2) * 1) rfl ((v5.upd hu).cell (row_get (by omega)))) ?_
      refine ws_any _ rfl (fun W => ok_iaddr (b := b) (o := 0) (len := n) (cap := cap) rfl rfl (i2) rfl (by omega)) ?_
      refine ws_store rfl rfl rfl v5 rfl (by rw [row_length]; omega) rfl (by simp) (fun W h => h) ?_
      refine ws_end fun W_a hu_a hW_a => ?_
      refine xju (ok_iaddr (b := b) (o := 0) (len := n) (cap := cap) rfl rfl (j2) rfl (by omega)) rfl ?_
      refine exec_store (b := b) (o := 0 + (j2) * 1) (v := u64V dk[i2]!) rfl rfl (hW_a rfl) rfl (by rw [row_set (by omega), row_length]; simp; omega) rfl ?_
      intro W3 hu_b _ hB3
      rw [row_swp (by omega) (by omega)] at hB3
      have hu3 := hu_a.trans hu_b (by simp)
      repeat (first | refine xtm rfl rfl rfl ?_ | refine xgr rfl ?_ | refine xgs rfl rfl ?_ | refine xg0 rfl ?_ | refine xct rfl ?_ | refine xcf rfl ?_ | refine xbk ?_ | refine xsq ?_ | refine xbl ?_ | refine xex rfl ?_)
      refine xpu (pv_addI (a := i2) (b := 1) rfl rfl (by omega)) rfl ?_
      repeat (first | refine xtm rfl rfl rfl ?_ | refine xgr rfl ?_ | refine xgs rfl rfl ?_ | refine xg0 rfl ?_ | refine xct rfl ?_ | refine xcf rfl ?_ | refine xbk ?_ | refine xsq ?_ | refine xbl ?_ | refine xex rfl ?_)
      refine xpu (pv_subI (a := j2) (b := 1) rfl rfl (by omega) (by omega)) rfl ?_
      repeat (first | refine xtm rfl rfl rfl ?_ | refine xgr rfl ?_ | refine xgs rfl rfl ?_ | refine xg0 rfl ?_ | refine xct rfl ?_ | refine xcf rfl ?_ | refine xbk ?_ | refine xsq ?_ | refine xbl ?_ | refine xex rfl ?_)
      refine xag (i2 + 1, j2 - 1, swp dk i2 j2) ⟨by show x < i2 + 1; omega, by show i2 + 1 ≤ j2 - 1 + 2; omega, by show j2 - 1 < y; omega, by rw [swp_size]; exact g4, ?_, hB3, v6.trans hu3 (by simp)⟩ (by show j2 - 1 + 3 - (i2 + 1) < j + 3 - i; omega) ⟨rfl, rfl, rfl, rfl, rfl, trivial⟩
      rw [← u4, ← v4, if_neg hij] at gE
      exact gE
end
end Go.Sp

namespace Go.Sp
open Go.Sort (swp scanSorted shiftDown shiftUp partialIns partialInsertionSort partialIns_succ)
theorem scanSorted_if (lt : Nat → Nat → Bool) (d : Array Nat) (b i : Nat) : scanSorted lt d b i = if i < b && !lt d[i]! d[i - 1]! then scanSorted lt d b (i + 1) else i := by rw [scanSorted]
theorem shiftUp_if (lt : Nat → Nat → Bool) (b j : Nat) (d : Array Nat) : shiftUp lt b j d = if j < b then (if !lt d[j]! d[j - 1]! then d else shiftUp lt b (j + 1) (swp d j (j - 1))) else d := by rw [shiftUp]
theorem shiftDown_succ (lt : Nat → Nat → Bool) (j : Nat) (d : Array Nat) : shiftDown lt (j + 1) d = if !lt d[j + 1]! d[j]! then d else shiftDown lt j (swp d (j + 1) j) := rfl
section
variable {P : Program} {f : Nat} {w : World} (A : SortF P)
set_option maxHeartbeats 1000000 in
theorem partial_ok (h : Has P f (b_slices_partialInsertionSortOrdered_uint64 A.less)) {b n cap x y : Nat} {d : Array Nat} {rest : List Value} (hB : Blk w b (row d rest)) (hd : d.size = n) (hxy : x < y) (hy : y ≤ n) (hn : n < 2 ^ 40) :
    Ret P f [slV b n cap, intV' x, intV' y] w fun v w' => v = .bool (partialInsertionSort ltN d x y).2 ∧ Blk w' b (row (partialInsertionSort ltN d x y).1 rest) ∧ Upd [b] w w' := by
  refine Ret.of_exec h (Nat.le_of_ble_eq_true rfl) fun c hc => ?_
  dsimp only [b_slices_partialInsertionSortOrdered_uint64, argEnv]
  repeat (first | refine xtm rfl rfl rfl ?_ | refine xgr rfl ?_ | refine xgs rfl rfl ?_ | refine xg0 rfl ?_ | refine xct rfl ?_ | refine xcf rfl ?_ | refine xbk ?_ | refine xsq ?_ | refine xbl ?_ | refine xex rfl ?_)
  refine xpu (pv_addI (a := x) (b := 1) rfl rfl (by omega)) rfl ?_
  repeat (first | refine xtm rfl rfl rfl ?_ | refine xgr rfl ?_ | refine xgs rfl rfl ?_ | refine xg0 rfl ?_ | refine xct rfl ?_ | refine xcf rfl ?_ | refine xbk ?_ | refine xsq ?_ | refine xbl ?_ | refine xex rfl ?_)
  refine xlo (S := Nat × Nat × Array Nat) (fun s W => s.1 ≤ 5 ∧ x < s.2.1 ∧ s.2.1 ≤ y ∧ s.2.2.size = n ∧ partialIns ltN x y (5 - s.1) s.2.1 s.2.2 = partialInsertionSort ltN d x y ∧ Blk W b (row s.2.2 rest) ∧ Upd [b] w W)
    (fun s => [(0, slV b n cap), (1, intV' x), (2, intV' y), (7, intV' s.2.1), (8, intV' s.1)]) (fun s => 5 - s.1) (0, x + 1, d) ⟨by show 0 ≤ 5; omega, by show x < x + 1; omega, by show x + 1 ≤ y; omega, hd, rfl, hB, Upd.refl _ _⟩ ⟨rfl, rfl, rfl, rfl, rfl, trivial⟩ ?_
  rintro ⟨t, i, dk⟩ W ⟨t1, t2, t3, t4, tE, g5, g6⟩
  simp only at t1 t2 t3 t4 tE g5
  repeat (first | refine xtm rfl rfl rfl ?_ | refine xgr rfl ?_ | refine xgs rfl rfl ?_ | refine xg0 rfl ?_ | refine xct rfl ?_ | refine xcf rfl ?_ | refine xbk ?_ | refine xsq ?_ | refine xbl ?_ | refine xex rfl ?_)
  by_cases ht : t < 5
  · refine xpu (pv_lssI (a := t) (b := 5) (q := true) rfl rfl (by simpa using ht)) rfl ?_
    repeat (first | refine xtm rfl rfl rfl ?_ | refine xgr rfl ?_ | refine xgs rfl rfl ?_ | refine xg0 rfl ?_ | refine xct rfl ?_ | refine xcf rfl ?_ | refine xbk ?_ | refine xsq ?_ | refine xbl ?_ | refine xex rfl ?_)
    obtain ⟨q, hq5⟩ : ∃ q, 5 - t = q + 1 := ⟨4 - t, by omega⟩
    rw [hq5, partialIns_succ] at tE
    refine exec_inner_join (S := Nat) (fun i2 W => x < i2 ∧ i2 ≤ y ∧ i2 = scanSorted ltN dk y i ∧ Blk W b (row dk rest) ∧ Upd [b] w W) (fun i2 => [(0, slV b n cap), (1, intV' x), (2, intV' y), (7, intV' i2), (8, intV' t)]) ?_ ?_
    · refine xlo (S := Nat) (fun s W => x < s ∧ s ≤ y ∧ scanSorted ltN dk y s = scanSorted ltN dk y i ∧ Blk W b (row dk rest) ∧ Upd [b] w W) (fun s => [(0, slV b n cap), (1, intV' x), (2, intV' y), (7, intV' s), (8, intV' t)]) (fun s => y - s) i ⟨t2, t3, rfl, g5, g6⟩ ⟨rfl, rfl, rfl, rfl, rfl, trivial⟩ ?_
      rintro s W_1 ⟨s1, s2, s4, s5, s6⟩
      by_cases hsj : s < y
      · refine exec_dw [] rfl rfl rfl ?_
        refine dau rfl (fun _ => rfl) ?_
        refine dau rfl (fun _ => rfl) ?_
        refine dw_val (fun _ => pv_lssI (a := s) (b := y) (q := true) rfl rfl (by simpa using hsj)) ?_
        repeat (first | refine dau rfl (fun _ => rfl) ?_ | refine dga rfl (fun _ => rfl) (fun _ => rfl) ?_ | refine dgs (fun _ => rfl) ?_)
        refine dw_gok _ (fun _ => rfl) (fun vs W' hu _ => (ok_iaddr (b := b) (o := 0) (len := n) (cap := cap) rfl rfl (s) rfl (by omega)).keep _) ?_
        refine dw_gok (u64V dk[s]!) (fun _ => rfl) (fun vs W' hu _ => (ok_load1 (b := b) (o := 0 + (s) * 1) rfl ((s5.upd hu).cell (row_get (by omega)))).keep _) ?_
        repeat (first | refine dau rfl (fun _ => rfl) ?_ | refine dga rfl (fun _ => rfl) (fun _ => rfl) ?_ | refine dgs (fun _ => rfl) ?_)
        refine dw_gval (fun _ => rfl) (fun _ => pv_subI (a := s) (b := 1) rfl rfl (by omega) (by omega)) ?_
        refine dw_gok _ (fun _ => rfl) (fun vs W' hu _ => (ok_iaddr (b := b) (o := 0) (len := n) (cap := cap) rfl rfl (s - 1) rfl (by omega)).keep _) ?_
        refine dw_gok (u64V dk[s - 1]!) (fun _ => rfl) (fun vs W' hu _ => (ok_load1 (b := b) (o := 0 + (s - 1) * 1) rfl ((s5.upd hu).cell (row_get (by omega)))).keep _) ?_
        refine dw_end fun vs W_2 hu_2 _ => ?_
        repeat (first | refine xtm rfl rfl rfl ?_ | refine xgr rfl ?_ | refine xgs rfl rfl ?_ | refine xg0 rfl ?_ | refine xct rfl ?_ | refine xcf rfl ?_ | refine xbk ?_ | refine xsq ?_ | refine xbl ?_ | refine xex rfl ?_)
        refine xca rfl rfl (less_ok A.h_nan A.h_less dk[s]! dk[s - 1]!) ?_
        rintro v W_3 ⟨rfl, hu_3⟩
        have hu_23 := hu_2.trans hu_3
        repeat (first | refine xtm rfl rfl rfl ?_ | refine xgr rfl ?_ | refine xgs rfl rfl ?_ | refine xg0 rfl ?_ | refine xct rfl ?_ | refine xcf rfl ?_ | refine xbk ?_ | refine xsq ?_ | refine xbl ?_ | refine xex rfl ?_)
        refine exec_cond rfl (fun hq => ?_) (fun hq => ?_)
        · repeat (first | refine xtm rfl rfl rfl ?_ | refine xgr rfl ?_ | refine xgs rfl rfl ?_ | refine xg0 rfl ?_ | refine xct rfl ?_ | refine xcf rfl ?_ | refine xbk ?_ | refine xsq ?_ | refine xbl ?_ | refine xex rfl ?_)
          refine xpu (pv_addI (a := s) (b := 1) rfl rfl (by omega)) rfl ?_
          repeat (first | refine xtm rfl rfl rfl ?_ | refine xgr rfl ?_ | refine xgs rfl rfl ?_ | refine xg0 rfl ?_ | refine xct rfl ?_ | refine xcf rfl ?_ | refine xbk ?_ | refine xsq ?_ | refine xbl ?_ | refine xex rfl ?_)
          refine xag (s + 1) ⟨by omega, by omega, ?_, s5.upd hu_23, s6.trans hu_23 (by simp)⟩ (by show y - (s + 1) < y - s; omega) ⟨rfl, rfl, rfl, rfl, rfl, trivial⟩
          rw [← s4, scanSorted_if _ _ _ s, if_pos (by simp only [Bool.and_eq_true, decide_eq_true_eq]; exact ⟨hsj, hq⟩)]
        · repeat (first | refine xtm rfl rfl rfl ?_ | refine xgr rfl ?_ | refine xgs rfl rfl ?_ | refine xg0 rfl ?_ | refine xct rfl ?_ | refine xcf rfl ?_ | refine xbk ?_ | refine xsq ?_ | refine xbl ?_ | refine xex rfl ?_)
          refine exec_meet s ⟨s1, s2, ?_, s5.upd hu_23, s6.trans hu_23 (by simp)⟩ ⟨rfl, rfl, rfl, rfl, rfl, trivial⟩
          rw [← s4, scanSorted_if _ _ _ s, if_neg (by simp only [Bool.and_eq_true, decide_eq_true_eq]; rintro ⟨_, h⟩; exact Bool.false_ne_true (hq.symm.trans h))]
      · refine exec_dw [] rfl rfl rfl ?_
        refine dau rfl (fun _ => rfl) ?_
        refine dau rfl (fun _ => rfl) ?_
        refine dw_val (fun _ => pv_lssI (a := s) (b := y) (q := false) rfl rfl (by simpa using hsj)) ?_
        repeat (first | refine dau rfl (fun _ => rfl) ?_ | refine dga rfl (fun _ => rfl) (fun _ => rfl) ?_ | refine dgs (fun _ => rfl) ?_)
        refine dw_end fun vs W_2 hu_2 _ => ?_
        repeat (first | refine xtm rfl rfl rfl ?_ | refine xgr rfl ?_ | refine xgs rfl rfl ?_ | refine xg0 rfl ?_ | refine xct rfl ?_ | refine xcf rfl ?_ | refine xbk ?_ | refine xsq ?_ | refine xbl ?_ | refine xex rfl ?_)
        refine exec_meet s ⟨s1, s2, ?_, s5.upd hu_2, s6.trans hu_2 (by simp)⟩ ⟨rfl, rfl, rfl, rfl, rfl, trivial⟩
        rw [← s4, scanSorted_if _ _ _ s, if_neg (by simp only [Bool.and_eq_true, decide_eq_true_eq]; rintro ⟨h, _⟩; exact hsj h)]
    rintro i2 W1 ⟨u1, u2, u4, u5, u6⟩
    rw [← u4] at tE
    repeat (first | refine xtm rfl rfl rfl ?_ | refine xgr rfl ?_ | refine xgs rfl rfl ?_ | refine xg0 rfl ?_ | refine xct rfl ?_ | refine xcf rfl ?_ | refine xbk ?_ | refine xsq ?_ | refine xbl ?_ | refine xex rfl ?_)
    by_cases hiy : i2 = y
    · refine xpu (pv_eqlI (a := i2) (b := y) (q := true) rfl rfl (by simpa using hiy)) rfl ?_
      repeat (first | refine xtm rfl rfl rfl ?_ | refine xgr rfl ?_ | refine xgs rfl rfl ?_ | refine xg0 rfl ?_ | refine xct rfl ?_ | refine xcf rfl ?_ | refine xbk ?_ | refine xsq ?_ | refine xbl ?_ | refine xex rfl ?_)
      refine xre hc [_] ⟨rfl, trivial⟩ ?_
      rw [if_pos hiy] at tE
      rw [← tE]
      exact ⟨rfl, u5, u6⟩
    refine xpu (pv_eqlI (a := i2) (b := y) (q := false) rfl rfl (by simpa using hiy)) rfl ?_
    rw [if_neg hiy] at tE
    repeat (first | refine xtm rfl rfl rfl ?_ | refine xgr rfl ?_ | refine xgs rfl rfl ?_ | refine xg0 rfl ?_ | refine xct rfl ?_ | refine xcf rfl ?_ | refine xbk ?_ | refine xsq ?_ | refine xbl ?_ | refine xex rfl ?_)
    refine xpu (pv_subI (a := y) (b := x) rfl rfl (by omega) (by omega)) rfl ?_
    by_cases h50 : y - x < 50
    · refine xpu (pv_lssI (a := y - x) (b := 50) (q := true) rfl rfl (by simpa using h50)) rfl ?_
      repeat (first | refine xtm rfl rfl rfl ?_ | refine xgr rfl ?_ | refine xgs rfl rfl ?_ | refine xg0 rfl ?_ | refine xct rfl ?_ | refine xcf rfl ?_ | refine xbk ?_ | refine xsq ?_ | refine xbl ?_ | refine xex rfl ?_)
      refine xre hc [_] ⟨rfl, trivial⟩ ?_
      rw [if_pos h50] at tE
      rw [← tE]
      exact ⟨rfl, u5, u6⟩
    refine xpu (pv_lssI (a := y - x) (b := 50) (q := false) rfl rfl (by simpa using h50)) rfl ?_
    rw [if_neg h50] at tE
    repeat (first | refine xtm rfl rfl rfl ?_ | refine xgr rfl ?_ | refine xgs rfl rfl ?_ | refine xg0 rfl ?_ | refine xct rfl ?_ | refine xcf rfl ?_ | refine xbk ?_ | refine xsq ?_ | refine xbl ?_ | refine xex rfl ?_)
    refine exec_dws [b] 15 (fun W => Blk W b (splice (row dk rest) (0 + (i2) * 1) (Value.cells (u64V dk[i2 - 1]!)).toList)) (fun W W' h hu => h.upd hu) rfl rfl rfl ?_
    repeat (first | refine ws_auto rfl rfl rfl ?_ | refine ws_gauto rfl rfl rfl rfl ?_ | refine wgs rfl rfl ?_)
    refine ws_val rfl (pv_subI (a := i2) (b := 1) rfl rfl (by omega) (by omega)) ?_
    repeat (first | refine ws_auto rfl rfl rfl ?_ | refine ws_gauto rfl rfl rfl rfl ?_ | refine wgs rfl rfl ?_)
    refine ws_val rfl (pv_subI (a := i2) (b := 1) rfl rfl (by omega) (by omega)) ?_
    refine ws_any _ rfl (fun W => ok_iaddr (b := b) (o := 0) (len := n) (cap := cap) rfl rfl (i2 - 1) rfl (by omega)) ?_
    refine ws_ok (u64V dk[i2 - 1]!) rfl rfl (fun W hu => ok_load1 (b := b) (o := 0 + (i2 - 1) * 1) rfl ((u5.upd hu).cell (row_get (by omega)))) ?_
    repeat (first | refine ws_auto rfl rfl rfl ?_ | refine ws_gauto rfl rfl rfl rfl ?_ | refine wgs rfl rfl ?_)
    refine ws_any _ rfl (fun W => ok_iaddr (b := b) (o := 0) (len := n) (cap := cap) rfl rfl (i2) rfl (by omega)) ?_
    refine ws_ok (u64V dk[i2]!) rfl rfl (fun W hu => ok_load1 (b := b) (o := 0 + (i2) * 1) rfl ((u5.upd hu).cell (row_get (by omega)))) ?_
    refine ws_any _ rfl (fun W => ok_iaddr (b := b) (o := 0) (len := n) (cap := cap) rfl rfl (i2) rfl (by omega)) ?_
    refine ws_store rfl rfl rfl u5 rfl (by rw [row_length]; omega) rfl (by simp) (fun W h => h) ?_
    refine ws_end fun W_a hu_a hW_a => ?_
    refine xju (ok_iaddr (b := b) (o := 0) (len := n) (cap := cap) rfl rfl (i2 - 1) rfl (by omega)) rfl ?_
    refine exec_store (b := b) (o := 0 + (i2 - 1) * 1) (v := u64V dk[i2]!) rfl rfl (hW_a rfl) rfl (by rw [row_set (by omega), row_length]; simp; omega) rfl ?_
    intro W2 hu_b _ hB2
    rw [row_swp (by omega) (by omega)] at hB2
    have hu2 := hu_a.trans hu_b (by simp)
    have sz2 : (swp dk i2 (i2 - 1)).size = n := by rw [swp_size]; exact t4
    generalize swp dk i2 (i2 - 1) = d2 at *
    have hU2 := u6.trans hu2 (by simp)
    repeat (first | refine xtm rfl rfl rfl ?_ | refine xgr rfl ?_ | refine xgs rfl rfl ?_ | refine xg0 rfl ?_ | refine xct rfl ?_ | refine xcf rfl ?_ | refine xbk ?_ | refine xsq ?_ | refine xbl ?_ | refine xex rfl ?_)
    refine xpu (pv_subI (a := i2) (b := x) rfl rfl (by omega) (by omega)) rfl ?_
    refine xpu (pv_geqI (a := i2 - x) (b := 2) (q := decide (2 ≤ i2 - x)) rfl rfl rfl) rfl ?_
    refine exec_cond_join (S := Array Nat) (fun d3 W => d3.size = n ∧ d3 = (if i2 - x ≥ 2 then shiftDown ltN (i2 - 1) d2 else d2) ∧ Blk W b (row d3 rest) ∧ Upd [b] w W) (fun _ => [(0, slV b n cap), (1, intV' x), (2, intV' y), (7, intV' i2), (8, intV' t)]) rfl (fun hq => ?_) (fun hq => ?_) ?_
    · simp only [decide_eq_true_eq] at hq
      repeat (first | refine xtm rfl rfl rfl ?_ | refine xgr rfl ?_ | refine xgs rfl rfl ?_ | refine xg0 rfl ?_ | refine xct rfl ?_ | refine xcf rfl ?_ | refine xbk ?_ | refine xsq ?_ | refine xbl ?_ | refine xex rfl ?_)
      refine xpu (pv_subI (a := i2) (b := 1) rfl rfl (by omega) (by omega)) rfl ?_
      repeat (first | refine xtm rfl rfl rfl ?_ | refine xgr rfl ?_ | refine xgs rfl rfl ?_ | refine xg0 rfl ?_ | refine xct rfl ?_ | refine xcf rfl ?_ | refine xbk ?_ | refine xsq ?_ | refine xbl ?_ | refine xex rfl ?_)
      refine xlo (S := Nat × Array Nat) (fun s W => s.1 ≤ i2 - 1 ∧ s.2.size = n ∧ shiftDown ltN s.1 s.2 = shiftDown ltN (i2 - 1) d2 ∧ Blk W b (row s.2 rest) ∧ Upd [b] w W) (fun s => [(0, slV b n cap), (1, intV' x), (2, intV' y), (7, intV' i2), (8, intV' t), (9, intV' s.1)]) (fun s => s.1) (i2 - 1, d2) ⟨Nat.le_refl _, sz2, rfl, hB2, hU2⟩ ⟨rfl, rfl, rfl, rfl, rfl, rfl, trivial⟩ ?_
      rintro ⟨k, dj⟩ W3 ⟨k1, k2, k3, k5, k6⟩
      simp only at k1 k2 k3 k5
      repeat (first | refine xtm rfl rfl rfl ?_ | refine xgr rfl ?_ | refine xgs rfl rfl ?_ | refine xg0 rfl ?_ | refine xct rfl ?_ | refine xcf rfl ?_ | refine xbk ?_ | refine xsq ?_ | refine xbl ?_ | refine xex rfl ?_)
      cases k with
      | zero =>
        refine xpu (pv_geqI (a := 0) (b := 1) (q := false) rfl rfl (by simp)) rfl ?_
        repeat (first | refine xtm rfl rfl rfl ?_ | refine xgr rfl ?_ | refine xgs rfl rfl ?_ | refine xg0 rfl ?_ | refine xct rfl ?_ | refine xcf rfl ?_ | refine xbk ?_ | refine xsq ?_ | refine xbl ?_ | refine xex rfl ?_)
        refine exec_meet dj ⟨k2, ?_, k5, k6⟩ ⟨rfl, rfl, rfl, rfl, rfl, trivial⟩
        rw [if_pos hq, ← k3]; rfl
      | succ k =>
        refine xpu (pv_geqI (a := k + 1) (b := 1) (q := true) rfl rfl (by simp)) rfl ?_
        repeat (first | refine xtm rfl rfl rfl ?_ | refine xgr rfl ?_ | refine xgs rfl rfl ?_ | refine xg0 rfl ?_ | refine xct rfl ?_ | refine xcf rfl ?_ | refine xbk ?_ | refine xsq ?_ | refine xbl ?_ | refine xex rfl ?_)
        refine exec_dw [] rfl rfl rfl ?_
        repeat (first | refine dau rfl (fun _ => rfl) ?_ | refine dga rfl (fun _ => rfl) (fun _ => rfl) ?_ | refine dgs (fun _ => rfl) ?_)
        refine dw_keep _ (fun vs W' hu _ => ok_iaddr (b := b) (o := 0) (len := n) (cap := cap) rfl rfl (k + 1) rfl (by omega)) ?_
        refine dw_keep (u64V dj[k + 1]!) (fun vs W' hu _ => ok_load1 (b := b) (o := 0 + (k + 1) * 1) rfl ((k5.upd hu).cell (row_get (by omega)))) ?_
        repeat (first | refine dau rfl (fun _ => rfl) ?_ | refine dga rfl (fun _ => rfl) (fun _ => rfl) ?_ | refine dgs (fun _ => rfl) ?_)
        refine dw_val (fun _ => pv_subI (a := k + 1) (b := 1) rfl rfl (by omega) (by omega)) ?_
        refine dw_keep _ (fun vs W' hu _ => ok_iaddr (b := b) (o := 0) (len := n) (cap := cap) rfl rfl (k) rfl (by omega)) ?_
        refine dw_keep (u64V dj[k]!) (fun vs W' hu _ => ok_load1 (b := b) (o := 0 + (k) * 1) rfl ((k5.upd hu).cell (row_get (by omega)))) ?_
        refine dw_end fun vs W_2 hu_2 _ => ?_
        refine xca rfl rfl (less_ok A.h_nan A.h_less dj[k + 1]! dj[k]!) ?_
        rintro v W_3 ⟨rfl, hu_3⟩
        have hu_23 := hu_2.trans hu_3
        have k5' := k5.upd hu_23
        refine xtm rfl rfl rfl ?_
        refine exec_cond rfl (fun hl => ?_) (fun hl => ?_)
        · repeat (first | refine xtm rfl rfl rfl ?_ | refine xgr rfl ?_ | refine xgs rfl rfl ?_ | refine xg0 rfl ?_ | refine xct rfl ?_ | refine xcf rfl ?_ | refine xbk ?_ | refine xsq ?_ | refine xbl ?_ | refine xex rfl ?_)
          refine exec_meet dj ⟨k2, ?_, k5', k6.trans hu_23 (by simp)⟩ ⟨rfl, rfl, rfl, rfl, rfl, trivial⟩
          rw [if_pos hq, ← k3, shiftDown_succ, if_pos hl]
        · repeat (first | refine xtm rfl rfl rfl ?_ | refine xgr rfl ?_ | refine xgs rfl rfl ?_ | refine xg0 rfl ?_ | refine xct rfl ?_ | refine xcf rfl ?_ | refine xbk ?_ | refine xsq ?_ | refine xbl ?_ | refine xex rfl ?_)
          refine exec_dws [b] 15 (fun W => Blk W b (splice (row dj rest) (0 + (k + 1) * 1) (Value.cells (u64V dj[k]!)).toList)) (fun W W' h hu => h.upd hu) rfl rfl rfl ?_
          repeat (first | refine ws_auto rfl rfl rfl ?_ | refine ws_gauto rfl rfl rfl rfl ?_ | refine wgs rfl rfl ?_)
          refine ws_val rfl (pv_subI (a := k + 1) (b := 1) rfl rfl (by omega) (by omega)) ?_
          repeat (first | refine ws_auto rfl rfl rfl ?_ | refine ws_gauto rfl rfl rfl rfl ?_ | refine wgs rfl rfl ?_)
          refine ws_val rfl (pv_subI (a := k + 1) (b := 1) rfl rfl (by omega) (by omega)) ?_
          refine ws_any _ rfl (fun W => ok_iaddr (b := b) (o := 0) (len := n) (cap := cap) rfl rfl (k) rfl (by omega)) ?_
          refine ws_ok (u64V dj[k]!) rfl rfl (fun W hu => ok_load1 (b := b) (o := 0 + (k) * 1) rfl ((k5'.upd hu).cell (row_get (by omega)))) ?_
          repeat (first | refine ws_auto rfl rfl rfl ?_ | refine ws_gauto rfl rfl rfl rfl ?_ | refine wgs rfl rfl ?_)
          refine ws_any _ rfl (fun W => ok_iaddr (b := b) (o := 0) (len := n) (cap := cap) rfl rfl (k + 1) rfl (by omega)) ?_
          refine ws_ok (u64V dj[k + 1]!) rfl rfl (fun W hu => ok_load1 (b := b) (o := 0 + (k + 1) * 1) rfl ((k5'.upd hu).cell (row_get (by omega)))) ?_
          refine ws_any _ rfl (fun W => ok_iaddr (b := b) (o := 0) (len := n) (cap := cap) rfl rfl (k + 1) rfl (by omega)) ?_
          refine ws_store rfl rfl rfl k5' rfl (by rw [row_length]; omega) rfl (by simp) (fun W h => h) ?_
          refine ws_end fun W_a hu_a hW_a => ?_
          refine xju (ok_iaddr (b := b) (o := 0) (len := n) (cap := cap) rfl rfl (k) rfl (by omega)) rfl ?_
          refine exec_store (b := b) (o := 0 + (k) * 1) (v := u64V dj[k + 1]!) rfl rfl (hW_a rfl) rfl (by rw [row_set (by omega), row_length]; simp; omega) rfl ?_
          intro W4 hu_b _ hB4
          rw [row_swp (by omega) (by omega)] at hB4
          have hu4 := hu_a.trans hu_b (by simp)
          repeat (first | refine xtm rfl rfl rfl ?_ | refine xgr rfl ?_ | refine xgs rfl rfl ?_ | refine xg0 rfl ?_ | refine xct rfl ?_ | refine xcf rfl ?_ | refine xbk ?_ | refine xsq ?_ | refine xbl ?_ | refine xex rfl ?_)
          refine xpu (pv_subI (a := k + 1) (b := 1) rfl rfl (by omega) (by omega)) rfl ?_
          repeat (first | refine xtm rfl rfl rfl ?_ | refine xgr rfl ?_ | refine xgs rfl rfl ?_ | refine xg0 rfl ?_ | refine xct rfl ?_ | refine xcf rfl ?_ | refine xbk ?_ | refine xsq ?_ | refine xbl ?_ | refine xex rfl ?_)
          refine xag (k, swp dj (k + 1) k) ⟨by show k ≤ i2 - 1; omega, by rw [swp_size]; exact k2, ?_, hB4, (k6.trans hu_23 (by simp)).trans hu4 (by simp)⟩ (by show k < k + 1; omega) ⟨rfl, rfl, rfl, rfl, rfl, rfl, trivial⟩
          rw [← k3]
          show shiftDown ltN k _ = shiftDown ltN (k + 1) dj
          rw [shiftDown_succ, if_neg (by rw [hl]; simp)]
    · simp only [decide_eq_false_iff_not] at hq
      exact exec_meet d2 ⟨sz2, by rw [if_neg hq], hB2, hU2⟩ ⟨rfl, rfl, rfl, rfl, rfl, trivial⟩
    rintro d3 W3 ⟨sz3, e3, hB3, hU3⟩
    repeat (first | refine xtm rfl rfl rfl ?_ | refine xgr rfl ?_ | refine xgs rfl rfl ?_ | refine xg0 rfl ?_ | refine xct rfl ?_ | refine xcf rfl ?_ | refine xbk ?_ | refine xsq ?_ | refine xbl ?_ | refine xex rfl ?_)
    refine xpu (pv_subI (a := y) (b := i2) rfl rfl (by omega) (by omega)) rfl ?_
    refine xpu (pv_geqI (a := y - i2) (b := 2) (q := decide (2 ≤ y - i2)) rfl rfl rfl) rfl ?_
    refine exec_cond_join (S := Array Nat) (fun d4 W => d4.size = n ∧ d4 = (if y - i2 ≥ 2 then shiftUp ltN y (i2 + 1) d3 else d3) ∧ Blk W b (row d4 rest) ∧ Upd [b] w W) (fun _ => [(0, slV b n cap), (1, intV' x), (2, intV' y), (7, intV' i2), (8, intV' t)]) rfl (fun hq => ?_) (fun hq => ?_) ?_
    · simp only [decide_eq_true_eq] at hq
      repeat (first | refine xtm rfl rfl rfl ?_ | refine xgr rfl ?_ | refine xgs rfl rfl ?_ | refine xg0 rfl ?_ | refine xct rfl ?_ | refine xcf rfl ?_ | refine xbk ?_ | refine xsq ?_ | refine xbl ?_ | refine xex rfl ?_)
      refine xpu (pv_addI (a := i2) (b := 1) rfl rfl (by omega)) rfl ?_
      repeat (first | refine xtm rfl rfl rfl ?_ | refine xgr rfl ?_ | refine xgs rfl rfl ?_ | refine xg0 rfl ?_ | refine xct rfl ?_ | refine xcf rfl ?_ | refine xbk ?_ | refine xsq ?_ | refine xbl ?_ | refine xex rfl ?_)
      refine xlo (S := Nat × Array Nat) (fun s W => i2 < s.1 ∧ s.1 ≤ y ∧ s.2.size = n ∧ shiftUp ltN y s.1 s.2 = shiftUp ltN y (i2 + 1) d3 ∧ Blk W b (row s.2 rest) ∧ Upd [b] w W) (fun s => [(0, slV b n cap), (1, intV' x), (2, intV' y), (7, intV' i2), (8, intV' t), (10, intV' s.1)]) (fun s => y - s.1) (i2 + 1, d3) ⟨by show i2 < i2 + 1; omega, by show i2 + 1 ≤ y; omega, sz3, rfl, hB3, hU3⟩ ⟨rfl, rfl, rfl, rfl, rfl, rfl, trivial⟩ ?_
      rintro ⟨k, dj⟩ W3 ⟨k0, k1, k2, k3, k5, k6⟩
      simp only at k0 k1 k2 k3 k5
      repeat (first | refine xtm rfl rfl rfl ?_ | refine xgr rfl ?_ | refine xgs rfl rfl ?_ | refine xg0 rfl ?_ | refine xct rfl ?_ | refine xcf rfl ?_ | refine xbk ?_ | refine xsq ?_ | refine xbl ?_ | refine xex rfl ?_)
      by_cases hky : k < y
      · refine xpu (pv_lssI (a := k) (b := y) (q := true) rfl rfl (by simpa using hky)) rfl ?_
        repeat (first | refine xtm rfl rfl rfl ?_ | refine xgr rfl ?_ | refine xgs rfl rfl ?_ | refine xg0 rfl ?_ | refine xct rfl ?_ | refine xcf rfl ?_ | refine xbk ?_ | refine xsq ?_ | refine xbl ?_ | refine xex rfl ?_)
        refine exec_dw [] rfl rfl rfl ?_
        repeat (first | refine dau rfl (fun _ => rfl) ?_ | refine dga rfl (fun _ => rfl) (fun _ => rfl) ?_ | refine dgs (fun _ => rfl) ?_)
        refine dw_keep _ (fun vs W' hu _ => ok_iaddr (b := b) (o := 0) (len := n) (cap := cap) rfl rfl (k) rfl (by omega)) ?_
        refine dw_keep (u64V dj[k]!) (fun vs W' hu _ => ok_load1 (b := b) (o := 0 + (k) * 1) rfl ((k5.upd hu).cell (row_get (by omega)))) ?_
        repeat (first | refine dau rfl (fun _ => rfl) ?_ | refine dga rfl (fun _ => rfl) (fun _ => rfl) ?_ | refine dgs (fun _ => rfl) ?_)
        refine dw_val (fun _ => pv_subI (a := k) (b := 1) rfl rfl (by omega) (by omega)) ?_
        refine dw_keep _ (fun vs W' hu _ => ok_iaddr (b := b) (o := 0) (len := n) (cap := cap) rfl rfl (k - 1) rfl (by omega)) ?_
        refine dw_keep (u64V dj[k - 1]!) (fun vs W' hu _ => ok_load1 (b := b) (o := 0 + (k - 1) * 1) rfl ((k5.upd hu).cell (row_get (by omega)))) ?_
        refine dw_end fun vs W_2 hu_2 _ => ?_
        refine xca rfl rfl (less_ok A.h_nan A.h_less dj[k]! dj[k - 1]!) ?_
        rintro v W_3 ⟨rfl, hu_3⟩
        have hu_23 := hu_2.trans hu_3
        have k5' := k5.upd hu_23
        refine xtm rfl rfl rfl ?_
        refine exec_cond rfl (fun hl => ?_) (fun hl => ?_)
        · repeat (first | refine xtm rfl rfl rfl ?_ | refine xgr rfl ?_ | refine xgs rfl rfl ?_ | refine xg0 rfl ?_ | refine xct rfl ?_ | refine xcf rfl ?_ | refine xbk ?_ | refine xsq ?_ | refine xbl ?_ | refine xex rfl ?_)
          refine exec_meet dj ⟨k2, ?_, k5', k6.trans hu_23 (by simp)⟩ ⟨rfl, rfl, rfl, rfl, rfl, trivial⟩
          rw [if_pos hq, ← k3, shiftUp_if _ _ k, if_pos hky, if_pos hl]
        · repeat (first | refine xtm rfl rfl rfl ?_ | refine xgr rfl ?_ | refine xgs rfl rfl ?_ | refine xg0 rfl ?_ | refine xct rfl ?_ | refine xcf rfl ?_ | refine xbk ?_ | refine xsq ?_ | refine xbl ?_ | refine xex rfl ?_)
          refine exec_dws [b] 15 (fun W => Blk W b (splice (row dj rest) (0 + (k) * 1) (Value.cells (u64V dj[k - 1]!)).toList)) (fun W W' h hu => h.upd hu) rfl rfl rfl ?_
          repeat (first | refine ws_auto rfl rfl rfl ?_ | refine ws_gauto rfl rfl rfl rfl ?_ | refine wgs rfl rfl ?_)
          refine ws_val rfl (pv_subI (a := k) (b := 1) rfl rfl (by omega) (by omega)) ?_
          repeat (first | refine ws_auto rfl rfl rfl ?_ | refine ws_gauto rfl rfl rfl rfl ?_ | refine wgs rfl rfl ?_)
          refine ws_val rfl (pv_subI (a := k) (b := 1) rfl rfl (by omega) (by omega)) ?_
          refine ws_any _ rfl (fun W => ok_iaddr (b := b) (o := 0) (len := n) (cap := cap) rfl rfl (k - 1) rfl (by omega)) ?_
          refine ws_ok (u64V dj[k - 1]!) rfl rfl (fun W hu => ok_load1 (b := b) (o := 0 + (k - 1) * 1) rfl ((k5'.upd hu).cell (row_get (by omega)))) ?_
          repeat (first | refine ws_auto rfl rfl rfl ?_ | refine ws_gauto rfl rfl rfl rfl ?_ | refine wgs rfl rfl ?_)
          refine ws_any _ rfl (fun W => ok_iaddr (b := b) (o := 0) (len := n) (cap := cap) rfl rfl (k) rfl (by omega)) ?_
          refine ws_ok (u64V dj[k]!) rfl rfl (fun W hu => ok_load1 (b := b) (o := 0 + (k) * 1) rfl ((k5'.upd hu).cell (row_get (by omega)))) ?_
          refine ws_any _ rfl (fun W => ok_iaddr (b := b) (o := 0) (len := n) (cap := cap) rfl rfl (k) rfl (by omega)) ?_
          refine ws_store rfl rfl rfl k5' rfl (by rw [row_length]; omega) rfl (by simp) (fun W h => h) ?_
          refine ws_end fun W_a hu_a hW_a => ?_
          refine xju (ok_iaddr (b := b) (o := 0) (len := n) (cap := cap) rfl rfl (k - 1) rfl (by omega)) rfl ?_
          refine exec_store (b := b) (o := 0 + (k - 1) * 1) (v := u64V dj[k]!) rfl rfl (hW_a rfl) rfl (by rw [row_set (by omega), row_length]; simp; omega) rfl ?_
          intro W4 hu_b _ hB4
          rw [row_swp (by omega) (by omega)] at hB4
          have hu4 := hu_a.trans hu_b (by simp)
          repeat (first | refine xtm rfl rfl rfl ?_ | refine xgr rfl ?_ | refine xgs rfl rfl ?_ | refine xg0 rfl ?_ | refine xct rfl ?_ | refine xcf rfl ?_ | refine xbk ?_ | refine xsq ?_ | refine xbl ?_ | refine xex rfl ?_)
          refine xpu (pv_addI (a := k) (b := 1) rfl rfl (by omega)) rfl ?_
          repeat (first | refine xtm rfl rfl rfl ?_ | refine xgr rfl ?_ | refine xgs rfl rfl ?_ | refine xg0 rfl ?_ | refine xct rfl ?_ | refine xcf rfl ?_ | refine xbk ?_ | refine xsq ?_ | refine xbl ?_ | refine xex rfl ?_)
          refine xag (k + 1, swp dj k (k - 1)) ⟨by show i2 < k + 1; omega, by show k + 1 ≤ y; omega, by rw [swp_size]; exact k2, ?_, hB4, (k6.trans hu_23 (by simp)).trans hu4 (by simp)⟩ (by show y - (k + 1) < y - k; omega) ⟨rfl, rfl, rfl, rfl, rfl, rfl, trivial⟩
          rw [← k3]
          show shiftUp ltN y (k + 1) _ = shiftUp ltN y k dj
          rw [shiftUp_if _ _ k, if_pos hky, if_neg (by rw [hl]; simp)]
      · refine xpu (pv_lssI (a := k) (b := y) (q := false) rfl rfl (by simpa using hky)) rfl ?_
        repeat (first | refine xtm rfl rfl rfl ?_ | refine xgr rfl ?_ | refine xgs rfl rfl ?_ | refine xg0 rfl ?_ | refine xct rfl ?_ | refine xcf rfl ?_ | refine xbk ?_ | refine xsq ?_ | refine xbl ?_ | refine xex rfl ?_)
        refine exec_meet dj ⟨k2, ?_, k5, k6⟩ ⟨rfl, rfl, rfl, rfl, rfl, trivial⟩
        rw [if_pos hq, ← k3, shiftUp_if _ _ k, if_neg hky]
    · simp only [decide_eq_false_iff_not] at hq
      exact exec_meet d3 ⟨sz3, by rw [if_neg hq], hB3, hU3⟩ ⟨rfl, rfl, rfl, rfl, rfl, trivial⟩
    rintro d4 W4 ⟨sz4, e4, hB4, hU4⟩
    repeat (first | refine xtm rfl rfl rfl ?_ | refine xgr rfl ?_ | refine xgs rfl rfl ?_ | refine xg0 rfl ?_ | refine xct rfl ?_ | refine xcf rfl ?_ | refine xbk ?_ | refine xsq ?_ | refine xbl ?_ | refine xex rfl ?_)
    refine xpu (pv_addI (a := t) (b := 1) rfl rfl (by omega)) rfl ?_
    repeat (first | refine xtm rfl rfl rfl ?_ | refine xgr rfl ?_ | refine xgs rfl rfl ?_ | refine xg0 rfl ?_ | refine xct rfl ?_ | refine xcf rfl ?_ | refine xbk ?_ | refine xsq ?_ | refine xbl ?_ | refine xex rfl ?_)
    refine xag (t + 1, i2, d4) ⟨by show t + 1 ≤ 5; omega, u1, u2, sz4, ?_, hB4, hU4⟩ (by show 5 - (t + 1) < 5 - t; omega) ⟨rfl, rfl, rfl, rfl, rfl, trivial⟩
    rw [← tE, e4, e3, show 5 - (t + 1) = q by omega]
    rfl
  · refine xpu (pv_lssI (a := t) (b := 5) (q := false) rfl rfl (by simpa using ht)) rfl ?_
    repeat (first | refine xtm rfl rfl rfl ?_ | refine xgr rfl ?_ | refine xgs rfl rfl ?_ | refine xg0 rfl ?_ | refine xct rfl ?_ | refine xcf rfl ?_ | refine xbk ?_ | refine xsq ?_ | refine xbl ?_ | refine xex rfl ?_)
    refine xre hc [_] ⟨rfl, trivial⟩ ?_
    rw [show 5 - t = 0 by omega] at tE
    rw [← tE]
    exact ⟨rfl, g5, g6⟩
end
end Go.Sp
