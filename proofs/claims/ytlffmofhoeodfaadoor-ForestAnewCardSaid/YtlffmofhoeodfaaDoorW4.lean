/- Proved: for every list of steps spinneylaw14.ForestAnew returns true and leaves its argument as it was; no condition. This text: part 4 of 11. -/
import Derived.Test.YtlffmofhoeodfaaDoorW3
namespace Go.Sp
theorem wrap_u64 (x : Int) : IntKind.u64.wrap x = x % 18446744073709551616 := by simp [IntKind.wrap, IntKind.signed, IntKind.bits]
theorem wrap_i64 {x : Int} (h1 : -9223372036854775808 ≤ x) (h2 : x < 9223372036854775808) : IntKind.i64.wrap x = x := by
  simp [IntKind.wrap, IntKind.signed, IntKind.bits, Int.bmod]; omega
theorem wrap_u64_nat {n : Nat} (h : n < 18446744073709551616) : IntKind.u64.wrap (n : Int) = n := by rw [wrap_u64]; omega
theorem wrap_u8 (x : Int) : IntKind.u8.wrap x = x % 256 := by simp [IntKind.wrap, IntKind.signed, IntKind.bits]
theorem shr_nat (a j : Nat) : ((a : Int).fdiv (2 ^ j)) = ((a >>> j : Nat) : Int) := by
  rw [Int.fdiv_eq_ediv_of_nonneg _ (Int.le_of_lt (Int.pow_pos (by decide))), Nat.shiftRight_eq_div_pow]
  norm_cast
theorem shl_nat (a j : Nat) : ((a : Int) * 2 ^ j) = ((a * 2 ^ j : Nat) : Int) := by simp
theorem ofInt_toNat {a : Nat} (ha : a < 18446744073709551616) : (BitVec.ofInt 64 (a : Int)).toNat = a := by
  rw [BitVec.toNat_ofInt]; omega
theorem and_nat {a b : Nat} (ha : a < 18446744073709551616) (hb : b < 18446744073709551616) : ((BitVec.ofInt 64 (a : Int) &&& BitVec.ofInt 64 (b : Int)).toNat : Int) = ((a &&& b : Nat) : Int) := by
  rw [BitVec.toNat_and, ofInt_toNat ha, ofInt_toNat hb]
theorem or_nat {a b : Nat} (ha : a < 18446744073709551616) (hb : b < 18446744073709551616) : ((BitVec.ofInt 64 (a : Int) ||| BitVec.ofInt 64 (b : Int)).toNat : Int) = ((a ||| b : Nat) : Int) := by
  rw [BitVec.toNat_or, ofInt_toNat ha, ofInt_toNat hb]
theorem xor_nat {a b : Nat} (ha : a < 18446744073709551616) (hb : b < 18446744073709551616) : ((BitVec.ofInt 64 (a : Int) ^^^ BitVec.ofInt 64 (b : Int)).toNat : Int) = ((a ^^^ b : Nat) : Int) := by
  rw [BitVec.toNat_xor, ofInt_toNat ha, ofInt_toNat hb]
theorem and_mask (a k : Nat) : a &&& (2 ^ k - 1) = a % 2 ^ k := Nat.and_two_pow_sub_one_eq_mod a k
/-- operations that are done without a thought -/
def plainOp : MOp → Bool
  | .ibin op _ _ => match op with
    | .eql => true
    | .neq => true
    | .lss => true
    | .leq => true
    | .gtr => true
    | .geq => true
    | _ => false
  | .un op _ => match op with
    | .not => true
    | _ => false
  | .mov _ => true
  | .pick _ _ _ => true
  | .nilc _ => true
  | .fn _ _ _ => true
  | .faddr _ _ => true
  | .fld _ _ _ _ => true
  | .ext _ _ => true
  | .lenS _ => true
  | _ => false
section
variable {P : Program} {n : Nat} {c : Ctx} {D : List Deferred} {is : List Ins} {k : Kont} {e : Env} {w : World}
variable {l : List Nat} {ds : List DOp} {F : List (Nat × DR) → Prop} {done : List (Nat × DR)} {i : Nat} {deps : List Nat} {m : MOp} {r : List DOp} {s : Nat} {b : Bool}
theorem xau {d : Nat} {v : Value} (hp : plainOp m = true) (hv : pureV e m = some v) (hd' : Nat.blt d n = true)
    (hx : Exec P n c D is k ((d, v) :: e) w) : Exec P n c D (.op none (some d) m :: is) k e w := xpu hv hd' hx
theorem dau {d : Option Nat} {v : Value} (hp : plainOp m = true) (hv : ∀ vs, pureV (envA ds done vs deps ++ keepEnv ds i e) m = some v) (h : DW P l ds e w F (i + 1) ((i, .val v) :: done) r) : DW P l ds e w F i done ((deps, none, d, m) :: r) := dw_val hv h
theorem dga {d : Option Nat} {v : Value} (hp : plainOp m = true) (hg : ∀ vs, (envA ds done vs deps ++ keepEnv ds i e).get s = some (.bool b)) (hv : ∀ vs, pureV (envA ds done vs deps ++ keepEnv ds i e) m = some v)
    (h : DW P l ds e w F (i + 1) ((i, .val v) :: done) r) : DW P l ds e w F i done ((deps, some (some s, b), d, m) :: r) := dw_gval hg hv h
theorem dw_keep {d : Option Nat} (v : Value) (hv : ∀ vs W, Upd l w W → depFactsA done W vs deps → OpOK P m (envA ds done vs deps ++ keepEnv ds i e) W (Just v W))
    (h : DW P l ds e w F (i + 1) ((i, .val v) :: done) r) : DW P l ds e w F i done ((deps, none, d, m) :: r) := dw_ok v (fun vs W h1 h2 => (hv vs W h1 h2).keep l) h
end
section
variable {P : Program} {e : Env} {w : World} {x y : Operand} {a b : Nat}
theorem pv_addU (hx : e.ev x = some (u64V a)) (hy : e.ev y = some (u64V b)) (h : a + b < 18446744073709551616) : pureV e (.ibin .add x y) = some (u64V (a + b)) := by
  simp only [pureV, hx, hy, binV, decide_true, intV]
  rw [show ((a : Int) + (b : Int)) = ((a + b : Nat) : Int) by omega, wrap_u64_nat h]
theorem pv_subU (hx : e.ev x = some (u64V a)) (hy : e.ev y = some (u64V b)) (h : b ≤ a) (ha : a < 18446744073709551616) : pureV e (.ibin .sub x y) = some (u64V (a - b)) := by
  simp only [pureV, hx, hy, binV, decide_true, intV]
  rw [show ((a : Int) - (b : Int)) = ((a - b : Nat) : Int) by omega, wrap_u64_nat (by omega)]
theorem pv_andU (hx : e.ev x = some (u64V a)) (hy : e.ev y = some (u64V b)) (ha : a < 18446744073709551616) (hb : b < 18446744073709551616) : pureV e (.ibin .and x y) = some (u64V (a &&& b)) := by
  simp only [pureV, hx, hy, binV, decide_true, intV]
  show some (Value.int .u64 (IntKind.u64.wrap (((BitVec.ofInt 64 (a : Int) &&& BitVec.ofInt 64 (b : Int)).toNat : Nat) : Int))) = _
  rw [and_nat ha hb, wrap_u64_nat (Nat.lt_of_le_of_lt Nat.and_le_left ha)]
theorem pv_orU (hx : e.ev x = some (u64V a)) (hy : e.ev y = some (u64V b)) (ha : a < 18446744073709551616) (hb : b < 18446744073709551616) : pureV e (.ibin .or x y) = some (u64V (a ||| b)) := by
  simp only [pureV, hx, hy, binV, decide_true, intV]
  show some (Value.int .u64 (IntKind.u64.wrap (((BitVec.ofInt 64 (a : Int) ||| BitVec.ofInt 64 (b : Int)).toNat : Nat) : Int))) = _
  rw [or_nat ha hb, wrap_u64_nat (Nat.or_lt_two_pow (n := 64) ha hb)]
theorem pv_xorU (hx : e.ev x = some (u64V a)) (hy : e.ev y = some (u64V b)) (ha : a < 18446744073709551616) (hb : b < 18446744073709551616) : pureV e (.ibin .xor x y) = some (u64V (a ^^^ b)) := by
  simp only [pureV, hx, hy, binV, decide_true, intV]
  show some (Value.int .u64 (IntKind.u64.wrap (((BitVec.ofInt 64 (a : Int) ^^^ BitVec.ofInt 64 (b : Int)).toNat : Nat) : Int))) = _
  rw [xor_nat ha hb, wrap_u64_nat (Nat.xor_lt_two_pow (n := 64) ha hb)]
theorem pv_notU (hx : e.ev x = some (u64V a)) (ha : a < 18446744073709551616) : pureV e (.un .xor x) = some (u64V (18446744073709551615 - a)) := by
  have h1 : (if IntKind.u64.signed = true then (-1 : Int) else IntKind.u64.max) = ((18446744073709551615 : Nat) : Int) := by decide
  simp only [pureV, hx, unV, h1]
  show some (Value.int .u64 (IntKind.u64.wrap (((BitVec.ofInt 64 ((18446744073709551615 : Nat) : Int) ^^^ BitVec.ofInt 64 (a : Int)).toNat : Nat) : Int))) = _
  have h2 : BitVec.ofInt 64 ((18446744073709551615 : Nat) : Int) = BitVec.allOnes 64 := by decide
  rw [h2, BitVec.allOnes_xor, BitVec.toNat_not, ofInt_toNat ha, wrap_u64_nat (by omega)]
theorem pv_addI (hx : e.ev x = some (intV' a)) (hy : e.ev y = some (intV' b)) (h : a + b < 9223372036854775808) : pureV e (.ibin .add x y) = some (intV' (a + b)) := by
  simp only [pureV, hx, hy, binV, decide_true, intV]
  rw [show ((a : Int) + (b : Int)) = ((a + b : Nat) : Int) by omega, wrap_i64 (by omega) (by omega)]
theorem pv_subI (hx : e.ev x = some (intV' a)) (hy : e.ev y = some (intV' b)) (h : b ≤ a) (ha : a < 9223372036854775808) : pureV e (.ibin .sub x y) = some (intV' (a - b)) := by
  simp only [pureV, hx, hy, binV, decide_true, intV]
  rw [show ((a : Int) - (b : Int)) = ((a - b : Nat) : Int) by omega, wrap_i64 (by omega) (by omega)]
theorem pv_subZ {a b : Int} (hx : e.ev x = some (.int .i64 a)) (hy : e.ev y = some (.int .i64 b)) (h : -9223372036854775808 ≤ a - b) (h2 : a - b < 9223372036854775808) : pureV e (.ibin .sub x y) = some (.int .i64 (a - b)) := by
  simp only [pureV, hx, hy, binV, decide_true, intV]
  rw [wrap_i64 h h2]
theorem pv_toI {k : IntKind} (hx : e.ev x = some (.int k (a : Int))) (h : a < 9223372036854775808) : pureV e (.toInt .i64 x) = some (intV' a) := by
  simp only [pureV, hx]
  rw [wrap_i64 (by omega) (by omega)]
theorem pv_toU {k : IntKind} (hx : e.ev x = some (.int k (a : Int))) (h : a < 18446744073709551616) : pureV e (.toInt .u64 x) = some (u64V a) := by
  simp only [pureV, hx]
  rw [wrap_u64_nat h]
theorem ok_shrU {K : IntKind} {j : Nat} (hx : e.ev x = some (u64V a)) (hy : e.ev y = some (.int K (j : Int))) (ha : a < 18446744073709551616) : OpOK P (.ibin .shr x y) e w (Just (u64V (a / 2 ^ j)) w) := by
  have h := ok_shr (P := P) (w := w) hx hy (by omega)
  have e1 : ((a : Int).fdiv (2 ^ (min ((j : Int).toNat) IntKind.u64.bits))) = ((a / 2 ^ j : Nat) : Int) := by
    rw [shr_nat, Nat.shiftRight_eq_div_pow]
    simp only [Int.toNat_natCast, IntKind.bits]
    rcases Nat.lt_or_ge j 64 with hj | hj
    · rw [Nat.min_eq_left (by omega)]
    · rw [Nat.min_eq_right hj, Nat.div_eq_of_lt (by omega : a < 2 ^ 64), Nat.div_eq_of_lt]
      exact Nat.lt_of_lt_of_le (by omega : a < 2 ^ 64) (Nat.pow_le_pow_right (by omega) hj)
  rw [e1] at h
  exact h
theorem ok_shlU {K : IntKind} {j : Nat} (hx : e.ev x = some (u64V a)) (hy : e.ev y = some (.int K (j : Int))) : OpOK P (.ibin .shl x y) e w (Just (u64V (a * 2 ^ j % 18446744073709551616)) w) := by
  have h := ok_shl (P := P) (w := w) hx hy (by omega)
  have e1 : IntKind.u64.wrap ((a : Int) * 2 ^ (min ((j : Int).toNat) IntKind.u64.bits)) = ((a * 2 ^ j % 18446744073709551616 : Nat) : Int) := by
    rw [shl_nat, wrap_u64]
    simp only [Int.toNat_natCast, IntKind.bits]
    rcases Nat.lt_or_ge j 64 with hj | hj
    · rw [Nat.min_eq_left (by omega)]; omega
    · rw [Nat.min_eq_right hj]
      have h1 : a * 2 ^ j % 18446744073709551616 = 0 := by
        rw [show j = (j - 64) + 64 by omega, Nat.pow_add, ← Nat.mul_assoc]
        exact Nat.mul_mod_left _ _
      rw [h1]
      have h2 : ((a * 2 ^ 64 : Nat) : Int) % 18446744073709551616 = 0 := by omega
      rw [h2]; rfl
  rw [e1] at h
  exact h
end
section
variable {P : Program} {n : Nat} {c : Ctx} {D : List Deferred} {is : List Ins} {k : Kont} {e : Env} {w : World}
/-- a literal slice -/
theorem exec_lit {T : TypeId} {N m d : Nat} {z cells : Array Value} {ps : List (Nat × Nat × Operand)} {l : List (Nat × Nat × Value)} (cs : List Value) (hp : partsV e ps = some l) (hf : fillP z l = some cells) (hcs : cells.toList = cs) (hl : cs.length = m * N) (hd : Nat.blt d n = true)
    (next : ∀ b w', b = w.heap.size → w'.heap.size = w.heap.size + 1 → Ext w w' → OwnC w' (.slice (some ⟨b, 0, none⟩) m m) N m cs → Exec P n c D is k ((d, .slice (some ⟨b, 0, none⟩) m m) :: e) w') :
    Exec P n c D (.op none (some d) (.mkSlice T m z ps) :: is) k e w := by
  refine exec_ok (ok_mkSlice hp hf) hd ?_
  rintro v W ⟨rfl, rfl⟩
  refine next _ _ rfl (by simp) (Upd.alloc _ _ _) (.inr ⟨_, m, [], rfl, ?_, hl, by simpa using hl, Nat.le_refl _⟩)
  subst hcs
  have := alloc_blk w cells.toList T
  simpa using this
end
def rleL : List (Nat × Value) → List Value
  | [] => []
  | (n, v) :: r => List.replicate n v ++ rleL r
theorem rle_toList : ∀ l, (rle l).toList = rleL l := by
  intro l
  induction l with
  | nil => rfl
  | cons p l ih => obtain ⟨n, v⟩ := p; simp [rle, rleL, ih]
def cellL : Value → List Value
  | .agg cs => cs.toList
  | v => [v]
theorem cellL_eq (v : Value) : v.cells.toList = cellL v := by cases v <;> rfl
def fillL (cs : List Value) : List (Nat × Nat × Value) → Option (List Value)
  | [] => some cs
  | (off, size, v) :: r => match Nat.beq (cellL v).length size with
    | true => match Nat.ble (off + size) cs.length with
      | true => fillL (splice cs off (cellL v)) r
      | false => none
    | false => none
theorem fillL_ok : ∀ (l : List (Nat × Nat × Value)) (z : Array Value) (cs : List Value), fillL z.toList l = some cs → fillP z l = some cs.toArray := by
  intro l
  induction l with
  | nil => intro z cs h; simp [fillL] at h; subst h; simp [fillP]
  | cons p l ih =>
    obtain ⟨off, size, v⟩ := p
    intro z cs h
    simp only [fillL] at h
    split at h
    · rename_i h1
      split at h
      · rename_i h2
        have h1 := Nat.eq_of_beq_eq_true h1
        have h2 := Nat.le_of_ble_eq_true h2
        rw [fillP_cons (by rw [← cellL_eq] at h1; simpa using h1) (by simpa using h2), cellL_eq]
        exact ih _ _ (by simpa using h)
      · cases h
    · cases h
section
variable {P : Program} {n : Nat} {c : Ctx} {D : List Deferred} {is : List Ins} {k : Kont} {e : Env} {w : World}
theorem ok_mkL {zl : List (Nat × Value)} {ps : List (Nat × Nat × Operand)} {l : List (Nat × Nat × Value)} {cs : List Value} (hp : partsV e ps = some l) (hf : fillL (rleL zl) l = some cs) : OpOK P (.mk (rle zl) ps) e w (Just (.agg cs.toArray) w) :=
  ok_mk hp (fillL_ok l _ cs (by rw [rle_toList]; exact hf))
/-- a literal slice -/
theorem exec_litL {T : TypeId} {N m d : Nat} {zl : List (Nat × Value)} {ps : List (Nat × Nat × Operand)} {l : List (Nat × Nat × Value)} {cs : List Value} (hp : partsV e ps = some l) (hf : fillL (rleL zl) l = some cs) (hl : cs.length = m * N) (hd : Nat.blt d n = true)
    (next : ∀ b w', b = w.heap.size → w'.heap.size = w.heap.size + 1 → Ext w w' → OwnC w' (.slice (some ⟨b, 0, none⟩) m m) N m cs → Exec P n c D is k ((d, .slice (some ⟨b, 0, none⟩) m m) :: e) w') :
    Exec P n c D (.op none (some d) (.mkSlice T m (rle zl) ps) :: is) k e w :=
  exec_lit cs hp (fillL_ok l _ cs (by rw [rle_toList]; exact hf)) (by simp) hl hd next
end
end Go.Sp

namespace Go.Sp
def bl : Nat → Nat → Nat
  | 0, _ => 0
  | f + 1, n => if n = 0 then 0 else bl f (n / 2) + 1
/-- how many bits a number has -/
def bitLen (n : Nat) : Nat := bl 64 n
def IsLen (n k : Nat) : Prop := n < 2 ^ k ∧ (k = 0 ∨ 2 ^ (k - 1) ≤ n)
theorem IsLen.uniq {n k j : Nat} (h : IsLen n k) (h' : IsLen n j) : k = j := by
  rcases Nat.lt_trichotomy k j with hl | hl | hl
  · exfalso
    rcases h'.2 with h2 | h2
    · omega
    · have : 2 ^ k ≤ 2 ^ (j - 1) := Nat.pow_le_pow_right (by omega) (by omega)
      have := h.1; omega
  · exact hl
  · exfalso
    rcases h.2 with h2 | h2
    · omega
    · have : 2 ^ j ≤ 2 ^ (k - 1) := Nat.pow_le_pow_right (by omega) (by omega)
      have := h'.1; omega
theorem bl_is : ∀ f n, n < 2 ^ f → IsLen n (bl f n) := by
  intro f
  induction f with
  | zero => intro n h; simp at h; subst h; exact ⟨by simp [bl], .inl rfl⟩
  | succ f ih =>
    intro n h
    simp only [bl]
    split
    · rename_i h0; subst h0; exact ⟨by simp, .inl rfl⟩
    · rename_i h0
      have h1 := ih (n / 2) (by rw [Nat.pow_succ] at h; omega)
      refine ⟨by have := h1.1; rw [Nat.pow_succ]; omega, .inr ?_⟩
      simp only [Nat.add_sub_cancel]
      rcases h1.2 with h2 | h2
      · rw [h2]; simp; omega
      · rcases Nat.eq_zero_or_pos (bl f (n / 2)) with h3 | h3
        · rw [h3]; simp; omega
        · have : 2 ^ bl f (n / 2) = 2 * 2 ^ (bl f (n / 2) - 1) := by rw [← Nat.pow_succ']; congr 1; omega
          omega
theorem bitLen_is {n : Nat} (h : n < 2 ^ 64) : IsLen n (bitLen n) := bl_is 64 n h
theorem bitLen_eq {n k : Nat} (h : n < 2 ^ 64) (hk : IsLen n k) : bitLen n = k := (bitLen_is h).uniq hk
theorem bitLen_le {n k : Nat} (h : n < 2 ^ 64) (hk : n < 2 ^ k) : bitLen n ≤ k := by
  have h1 := bitLen_is h
  rcases Nat.lt_or_ge k (bitLen n) with hl | hl
  · rcases h1.2 with h2 | h2
    · omega
    · have : 2 ^ k ≤ 2 ^ (bitLen n - 1) := Nat.pow_le_pow_right (by omega) (by omega)
      omega
  · exact hl
theorem bitLen_pos {n : Nat} (h : n < 2 ^ 64) (h0 : 0 < n) : 0 < bitLen n := by
  have := bitLen_is h
  rcases Nat.eq_zero_or_pos (bitLen n) with h1 | h1
  · have := this.1; rw [h1] at this; simp at this; omega
  · exact h1
theorem bitLen_shr {n k : Nat} (h : n < 2 ^ 64) (hk : 2 ^ k ≤ n) : bitLen n = bitLen (n / 2 ^ k) + k := by
  have hd : n / 2 ^ k < 2 ^ 64 := Nat.lt_of_le_of_lt (Nat.div_le_self _ _) h
  have hp : 0 < n / 2 ^ k := Nat.div_pos hk (Nat.pow_pos (by omega))
  have h1 := bitLen_is hd
  refine bitLen_eq h ⟨?_, .inr ?_⟩
  · rw [Nat.pow_add]
    exact (Nat.div_lt_iff_lt_mul (Nat.pow_pos (by omega))).1 h1.1
  · rcases h1.2 with h2 | h2
    · have := h1.1; rw [h2] at this; omega
    · rcases Nat.eq_zero_or_pos (bitLen (n / 2 ^ k)) with h3 | h3
      · have := h1.1; rw [h3] at this; omega
      · have : bitLen (n / 2 ^ k) + k - 1 = (bitLen (n / 2 ^ k) - 1) + k := by omega
        rw [this, Nat.pow_add]
        exact (Nat.le_div_iff_mul_le (Nat.pow_pos (by omega))).1 h2
/-- the rows of a forest of n leaves -/
def rowsN (n : Nat) : Nat := if n = 0 then 0 else bitLen (n - 1)
/-- where a row begins -/
def beginN (row rows : Nat) : Nat := 2 ^ (rows + 1) - 2 ^ (rows + 1 - row)
/-- a position's row; none: there is no such position -/
def rowN (p rows : Nat) : Option Nat := if p + 1 < 2 ^ (rows + 1) then some (rows + 1 - bitLen (2 ^ (rows + 1) - 1 - p)) else none
def leftN (p rows : Nat) : Option Nat := match rowN p rows with
  | none => none
  | some r => if r = 0 then none else some (2 * p % 2 ^ (rows + 1))
def bitN (n h : Nat) : Bool := n / 2 ^ h % 2 == 1
/-- the heights of a forest's trees, the highest first -/
def treesBelow (n : Nat) : Nat → List Nat
  | 0 => []
  | h + 1 => if bitN n h then h :: treesBelow n h else treesBelow n h
def treesN (n : Nat) : List Nat := if n < 2 ^ 63 then treesBelow n 63 else []
def rootN (n h : Nat) : Option Nat := if n < 2 ^ 63 ∧ h ≤ rowsN n ∧ bitN n h = true then some (beginN h (rowsN n) + n / 2 ^ (h + 1) * 2) else none
theorem rowsN_le {n : Nat} (h : n < 2 ^ 63) : rowsN n ≤ 63 := by
  unfold rowsN
  split
  · omega
  · exact bitLen_le (by omega) (by omega)
theorem le_rows {n : Nat} (h : n < 2 ^ 63) : n ≤ 2 ^ rowsN n := by
  unfold rowsN
  split
  · omega
  · have := (bitLen_is (n := n - 1) (by omega)).1; omega
theorem rootN_lt {n h q : Nat} (hq : rootN n h = some q) : q + 1 < 2 ^ (rowsN n + 1) := by
  unfold rootN at hq
  split at hq
  · rename_i hc
    obtain ⟨h1, h2, h3⟩ := hc
    cases hq
    have hle := le_rows h1
    have e1 : n / 2 ^ (h + 1) = n / 2 ^ h / 2 := by rw [Nat.pow_succ, Nat.div_div_eq_div_mul]
    have e2 : n / 2 ^ h ≤ 2 ^ (rowsN n - h) := by
      have := Nat.div_le_div_right (c := 2 ^ h) hle
      rwa [show 2 ^ rowsN n / 2 ^ h = 2 ^ (rowsN n - h) from Nat.pow_div h2 (by omega)] at this
    have hb : n / 2 ^ h % 2 = 1 := by simpa [bitN] using h3
    have e3 : (2 : Nat) ^ (rowsN n + 1 - h) = 2 * 2 ^ (rowsN n - h) := by rw [show rowsN n + 1 - h = rowsN n - h + 1 by omega, Nat.pow_succ]; omega
    have e4 : (2 : Nat) ^ (rowsN n + 1 - h) ≤ 2 ^ (rowsN n + 1) := Nat.pow_le_pow_right (by omega) (by omega)
    simp only [beginN, e1]
    omega
  · cases hq
end Go.Sp

namespace Go.Sp
section
variable {P : Program} {f : Nat} {w : World}
abbrev RetV (P : Program) (f : FuncId) (args : List Value) (w : World) (v : Value) : Prop := Ret P f args w fun u w' => u = v ∧ Ext w w'
theorem tab_ok : ∀ y : Fin 256, (ByteArray.mk #[0, 1, 2, 2, 3, 3, 3, 3, 4, 4, 4, 4, 4, 4, 4, 4, 5, 5, 5, 5, 5, 5, 5, 5, 5, 5, 5, 5, 5, 5, 5, 5, 6, 6, 6, 6, 6, 6, 6, 6, 6, 6, 6, 6, 6, 6, 6, 6, 6, 6, 6, 6, 6, 6, 6, 6, 6, 6, 6, 6, 6, 6, 6, 6, 7, 7, 7, 7, 7, 7, 7, 7, 7, 7, 7, 7, 7, 7, 7, 7, 7, 7, 7, 7, 7, 7, 7, 7, 7, 7, 7, 7, 7, 7, 7, 7, 7, 7, 7, 7, 7, 7, 7, 7, 7, 7, 7, 7, 7, 7, 7, 7, 7, 7, 7, 7, 7, 7, 7, 7, 7, 7, 7, 7, 7, 7, 7, 7, 8, 8, 8, 8, 8, 8, 8, 8, 8, 8, 8, 8, 8, 8, 8, 8, 8, 8, 8, 8, 8, 8, 8, 8, 8, 8, 8, 8, 8, 8, 8, 8, 8, 8, 8, 8, 8, 8, 8, 8, 8, 8, 8, 8, 8, 8, 8, 8, 8, 8, 8, 8, 8, 8, 8, 8, 8, 8, 8, 8, 8, 8, 8, 8, 8, 8, 8, 8, 8, 8, 8, 8, 8, 8, 8, 8, 8, 8, 8, 8, 8, 8, 8, 8, 8, 8, 8, 8, 8, 8, 8, 8, 8, 8, 8, 8, 8, 8, 8, 8, 8, 8, 8, 8, 8, 8, 8, 8, 8, 8, 8, 8, 8, 8, 8, 8, 8, 8, 8, 8, 8, 8, 8, 8, 8, 8, 8, 8])[y.1]? = some (UInt8.ofNat (bitLen y.1)) := by decide +kernel
theorem len64_ok (h : Has P f b_math_bits_Len64) (x : Nat) (hx : x < 2 ^ 64) : RetV P f [u64V x] w (intV' (bitLen x)) := by
  refine Ret.of_exec h (Nat.le_of_ble_eq_true rfl) fun c hc => ?_
  dsimp only [b_math_bits_Len64, argEnv]
  let J : Nat → Nat × Nat → World → Prop := fun b s w' => w' = w ∧ s.1 < 2 ^ b ∧ s.2 + bitLen s.1 = bitLen x ∧ s.2 < 64
  let en : Nat × Nat → Env := fun s => [(0, u64V s.1), (2, intV' s.2)]
  repeat refine xau rfl rfl rfl ?_
  refine exec_cond_join (J 32) en rfl (fun h1 => ?_) (fun h1 => ?_) ?_
  · simp only [ge_iff_le, decide_eq_true_eq] at h1
    repeat refine xau rfl rfl rfl ?_
    refine xju (ok_shrU (j := 32) rfl rfl (by omega)) rfl ?_
    repeat refine xau rfl rfl rfl ?_
    have h5 := bitLen_shr (k := 32) hx (by omega)
    exact exec_meet (x / 2 ^ 32, 32) ⟨rfl, by show x / 2 ^ 32 < 2 ^ 32; omega, by show 32 + bitLen (x / 2 ^ 32) = _; omega, by show 32 < 64; omega⟩ ⟨rfl, rfl, trivial⟩
  · simp only [ge_iff_le, decide_eq_false_iff_not] at h1
    exact exec_meet (x, 0) ⟨rfl, by show x < 2 ^ 32; omega, by simp, by show 0 < 64; omega⟩ ⟨rfl, rfl, trivial⟩
  rintro ⟨y, a⟩ w1 ⟨rfl, h2, h3, h4⟩
  simp only at h2 h3 h4
  dsimp only [en]
  repeat refine xau rfl rfl rfl ?_
  refine exec_cond_join (J 16) en rfl (fun h1 => ?_) (fun h1 => ?_) ?_
  · simp only [ge_iff_le, decide_eq_true_eq] at h1
    have h5 := bitLen_shr (n := y) (k := 16) (by omega) (by omega)
    have h6 := bitLen_le (n := x) (k := 64) hx hx
    have h7 := bitLen_pos (n := y / 2 ^ 16) (by omega) (by omega)
    repeat refine xau rfl rfl rfl ?_
    refine xju (ok_shrU (j := 16) rfl rfl (by omega)) rfl ?_
    repeat refine xau rfl rfl rfl ?_
    refine xpu (pv_addI (b := 16) rfl rfl (by omega)) rfl ?_
    repeat refine xau rfl rfl rfl ?_
    exact exec_meet (y / 2 ^ 16, a + 16) ⟨rfl, by show y / 2 ^ 16 < 2 ^ 16; omega, by show a + 16 + bitLen (y / 2 ^ 16) = _; omega, by show a + 16 < 64; omega⟩ ⟨rfl, rfl, trivial⟩
  · simp only [ge_iff_le, decide_eq_false_iff_not] at h1
    exact exec_meet (y, a) ⟨rfl, by show y < 2 ^ 16; omega, h3, h4⟩ ⟨rfl, rfl, trivial⟩
  rintro ⟨y, a⟩ w1 ⟨rfl, h2, h3, h4⟩
  simp only at h2 h3 h4
  dsimp only [en]
  repeat refine xau rfl rfl rfl ?_
  refine exec_cond_join (J 8) en rfl (fun h1 => ?_) (fun h1 => ?_) ?_
  · simp only [ge_iff_le, decide_eq_true_eq] at h1
    have h5 := bitLen_shr (n := y) (k := 8) (by omega) (by omega)
    have h6 := bitLen_le (n := x) (k := 64) hx hx
    have h7 := bitLen_pos (n := y / 2 ^ 8) (by omega) (by omega)
    repeat refine xau rfl rfl rfl ?_
    refine xju (ok_shrU (j := 8) rfl rfl (by omega)) rfl ?_
    repeat refine xau rfl rfl rfl ?_
    refine xpu (pv_addI (b := 8) rfl rfl (by omega)) rfl ?_
    repeat refine xau rfl rfl rfl ?_
    exact exec_meet (y / 2 ^ 8, a + 8) ⟨rfl, by show y / 2 ^ 8 < 2 ^ 8; omega, by show a + 8 + bitLen (y / 2 ^ 8) = _; omega, by show a + 8 < 64; omega⟩ ⟨rfl, rfl, trivial⟩
  · simp only [ge_iff_le, decide_eq_false_iff_not] at h1
    exact exec_meet (y, a) ⟨rfl, by show y < 2 ^ 8; omega, h3, h4⟩ ⟨rfl, rfl, trivial⟩
  rintro ⟨y, a⟩ w1 ⟨rfl, h2, h3, h4⟩
  simp only at h2 h3 h4
  dsimp only [en]
  have h6 := bitLen_le (n := x) (k := 64) hx hx
  repeat refine xau rfl rfl rfl ?_
  refine xpu rfl rfl ?_
  have hy : IntKind.u8.wrap (y : Int) = y := by rw [wrap_u8]; omega
  rw [hy]
  refine xju (ok_sidx rfl rfl y rfl (tab_ok ⟨y, h2⟩)) rfl ?_
  have h7 : bitLen y ≤ 8 := bitLen_le (by omega) (by omega)
  have h8 : (UInt8.ofNat (bitLen y)).toNat = bitLen y := by simp; omega
  rw [h8]
  refine xpu (pv_toI rfl (by omega)) rfl ?_
  refine xpu (pv_addI (a := a) (b := bitLen y) rfl rfl (by omega)) rfl ?_
  repeat refine xau rfl rfl rfl ?_
  rw [h3]
  exact xre hc [_] ⟨rfl, trivial⟩ ⟨rfl, Upd.refl _ _⟩
theorem lz64_ok {g : Nat} (hg : Has P g b_math_bits_Len64) (h : Has P f (b_math_bits_LeadingZeros64 g)) (x : Nat) (hx : x < 2 ^ 64) : RetV P f [u64V x] w (intV' (64 - bitLen x)) := by
  refine Ret.of_exec h (Nat.le_of_ble_eq_true rfl) fun c hc => ?_
  dsimp only [b_math_bits_LeadingZeros64, argEnv]
  repeat refine xau rfl rfl rfl ?_
  refine xca rfl rfl (len64_ok hg x hx) ?_
  rintro v w' ⟨rfl, hu⟩
  have h6 := bitLen_le (n := x) (k := 64) hx hx
  refine xpu (pv_subI (a := 64) (b := bitLen x) rfl rfl h6 (by omega)) rfl ?_
  repeat refine xau rfl rfl rfl ?_
  exact xre hc [_] ⟨rfl, trivial⟩ ⟨rfl, hu⟩
/-- the numbers under which pos's functions lie -/
structure PosF (P : Program) where
  len64 : Nat
  lz : Nat
  rows : Nat
  may : Nat
  begin_ : Nat
  row : Nat
  parent : Nat
  left : Nat
  sibling : Nat
  root : Nat
  h_len64 : Has P len64 b_math_bits_Len64
  h_lz : Has P lz (b_math_bits_LeadingZeros64 len64)
  h_rows : Has P rows (b_pos_Rows len64)
  h_may : Has P may b_pos_may
  h_begin : Has P begin_ b_pos_begin
  h_row : Has P row (b_pos_Row may lz)
  h_parent : Has P parent (b_pos_Parent row)
  h_left : Has P left (b_pos_Left row)
  h_sibling : Has P sibling (b_pos_Sibling parent)
  h_root : Has P root (b_pos_Root rows begin_)
variable (A : PosF P)
theorem rows_ok (n : Nat) (hn : n < 2 ^ 64) : RetV P A.rows [u64V n] w (if n < 2 ^ 63 then .tuple #[intV' (rowsN n), .bool true] else .tuple #[intV' 0, .bool false]) := by
  refine Ret.of_exec A.h_rows (Nat.le_of_ble_eq_true rfl) fun c hc => ?_
  dsimp only [b_pos_Rows, argEnv]
  repeat (first | refine xau rfl rfl rfl ?_ | refine xgr rfl ?_ | refine xgs rfl rfl ?_ | refine xg0 rfl ?_ | refine xct rfl ?_ | refine xcf rfl ?_ | refine xbk ?_ | refine xsq ?_ | refine xbl ?_ | refine xex rfl ?_)
  refine exec_cond rfl (fun h1 => ?_) (fun h1 => ?_)
  · repeat (first | refine xau rfl rfl rfl ?_ | refine xgr rfl ?_ | refine xgs rfl rfl ?_ | refine xg0 rfl ?_ | refine xct rfl ?_ | refine xcf rfl ?_ | refine xbk ?_ | refine xsq ?_ | refine xbl ?_ | refine xex rfl ?_)
    simp only [gt_iff_lt, decide_eq_true_eq] at h1
    refine xre hc [_, _] ⟨rfl, rfl, trivial⟩ ⟨?_, Upd.refl _ _⟩
    rw [if_neg (by omega)]; rfl
  · simp only [gt_iff_lt, decide_eq_false_iff_not] at h1
    repeat (first | refine xau rfl rfl rfl ?_ | refine xgr rfl ?_ | refine xgs rfl rfl ?_ | refine xg0 rfl ?_ | refine xct rfl ?_ | refine xcf rfl ?_ | refine xbk ?_ | refine xsq ?_ | refine xbl ?_ | refine xex rfl ?_)
    refine exec_cond rfl (fun h2 => ?_) (fun h2 => ?_)
    · repeat (first | refine xau rfl rfl rfl ?_ | refine xgr rfl ?_ | refine xgs rfl rfl ?_ | refine xg0 rfl ?_ | refine xct rfl ?_ | refine xcf rfl ?_ | refine xbk ?_ | refine xsq ?_ | refine xbl ?_ | refine xex rfl ?_)
      simp only [beq_iff_eq] at h2
      have : n = 0 := by omega
      subst this
      exact xre hc [_, _] ⟨rfl, rfl, trivial⟩ ⟨rfl, Upd.refl _ _⟩
    · repeat (first | refine xau rfl rfl rfl ?_ | refine xgr rfl ?_ | refine xgs rfl rfl ?_ | refine xg0 rfl ?_ | refine xct rfl ?_ | refine xcf rfl ?_ | refine xbk ?_ | refine xsq ?_ | refine xbl ?_ | refine xex rfl ?_)
      have h3 : n ≠ 0 := fun h => by subst h; simp at h2
      refine xpu (pv_subU (a := n) (b := 1) rfl rfl (by omega) (by omega)) rfl ?_
      refine xca rfl rfl (len64_ok A.h_len64 (n - 1) (by omega)) ?_
      rintro v w' ⟨rfl, hu⟩
      repeat refine xau rfl rfl rfl ?_
      refine xre hc [_, _] ⟨rfl, rfl, trivial⟩ ⟨?_, hu⟩
      rw [if_pos (by omega)]
      simp [single, rowsN, h3]
theorem may_ok (rows : Int) : RetV P A.may [.int .i64 rows] w (.bool (decide (0 ≤ rows ∧ rows ≤ 63))) := by
  refine Ret.of_exec A.h_may (Nat.le_of_ble_eq_true rfl) fun c hc => ?_
  dsimp only [b_pos_may, argEnv]
  repeat refine xau rfl rfl rfl ?_
  refine exec_split 5 rfl (fun h1 => ?_) (fun h1 => ?_)
  · repeat (first | refine xau rfl rfl rfl ?_ | refine xgr rfl ?_ | refine xgs rfl rfl ?_ | refine xg0 rfl ?_ | refine xct rfl ?_ | refine xcf rfl ?_ | refine xbk ?_ | refine xsq ?_ | refine xbl ?_ | refine xex rfl ?_)
    refine xre hc [_] ⟨rfl, trivial⟩ ⟨?_, Upd.refl _ _⟩
    simp at h1
    simp [single, h1]
  · repeat (first | refine xau rfl rfl rfl ?_ | refine xgr rfl ?_ | refine xgs rfl rfl ?_ | refine xg0 rfl ?_ | refine xct rfl ?_ | refine xcf rfl ?_ | refine xbk ?_ | refine xsq ?_ | refine xbl ?_ | refine xex rfl ?_)
    refine xre hc [_] ⟨rfl, trivial⟩ ⟨?_, Upd.refl _ _⟩
    simp at h1
    simp [single]
    omega
theorem begin_ok (row rows : Nat) (h1 : row ≤ rows) (h2 : rows ≤ 63) : RetV P A.begin_ [intV' row, intV' rows] w (u64V (beginN row rows)) := by
  refine Ret.of_exec A.h_begin (Nat.le_of_ble_eq_true rfl) fun c hc => ?_
  dsimp only [b_pos_begin, argEnv]
  repeat refine xau rfl rfl rfl ?_
  refine exec_dw [] rfl rfl rfl ?_
  repeat (first | refine dau rfl (fun _ => rfl) ?_ | refine dga rfl (fun _ => rfl) (fun _ => rfl) ?_ | refine dgs (fun _ => rfl) ?_)
  refine dw_keep _ (fun vs W _ _ => ok_shlU (a := 2) (j := rows) rfl rfl) ?_
  repeat (first | refine dau rfl (fun _ => rfl) ?_ | refine dga rfl (fun _ => rfl) (fun _ => rfl) ?_ | refine dgs (fun _ => rfl) ?_)
  refine dw_val (v := intV' (rows - row)) (fun _ => pv_subI rfl rfl h1 (by omega)) ?_
  refine dw_keep _ (fun vs W _ _ => ok_shlU (a := 2) (j := rows - row) rfl rfl) ?_
  refine dw_end fun vs W hu _ => ?_
  have hp : (2 : Nat) ^ (rows + 1) ≤ 2 ^ 64 := Nat.pow_le_pow_right (by omega) (by omega)
  have hp2 : (2 : Nat) ^ (rows + 1 - row) ≤ 2 ^ (rows + 1) := Nat.pow_le_pow_right (by omega) (by omega)
  have e1 : 2 * 2 ^ rows = 2 ^ (rows + 1) := by rw [Nat.pow_succ]; omega
  have e2 : 2 * 2 ^ (rows - row) = 2 ^ (rows + 1 - row) := by rw [show rows + 1 - row = rows - row + 1 by omega, Nat.pow_succ]; omega
  have e3 : 0 < (2 : Nat) ^ (rows + 1 - row) := Nat.pow_pos (by omega)
  rw [e1, e2]
  refine xpu (v := u64V (beginN row rows)) ?_ rfl ?_
  · show some (Value.int .u64 (IntKind.u64.wrap _)) = _
    rw [wrap_u64]
    refine congrArg (fun z => some (Value.int .u64 z)) ?_
    simp only [beginN]
    generalize 2 ^ (rows + 1) = X at *
    generalize 2 ^ (rows + 1 - row) = Y at *
    omega
  repeat (first | refine xau rfl rfl rfl ?_ | refine xgr rfl ?_ | refine xgs rfl rfl ?_ | refine xg0 rfl ?_ | refine xct rfl ?_ | refine xcf rfl ?_ | refine xbk ?_ | refine xsq ?_ | refine xbl ?_ | refine xex rfl ?_)
  exact xre hc [_] ⟨rfl, trivial⟩ ⟨rfl, hu⟩
def optV (f : Nat → Value) : Option Nat → Value
  | none => .tuple #[f 0, .bool false]
  | some n => .tuple #[f n, .bool true]
theorem pow64 {r : Nat} (h : r ≤ 63) : (2 : Nat) ^ (r + 1) ≤ 18446744073709551616 := Nat.pow_le_pow_right (n := 2) (by omega) (by omega : r + 1 ≤ 64)
theorem row_ok (p rows : Nat) (hp : p < 2 ^ 64) (hr : rows ≤ 63) : RetV P A.row [u64V p, intV' rows] w (optV intV' (rowN p rows)) := by
  refine Ret.of_exec A.h_row (Nat.le_of_ble_eq_true rfl) fun c hc => ?_
  dsimp only [b_pos_Row, argEnv]
  repeat (first | refine xau rfl rfl rfl ?_ | refine xgr rfl ?_ | refine xgs rfl rfl ?_ | refine xg0 rfl ?_ | refine xct rfl ?_ | refine xcf rfl ?_ | refine xbk ?_ | refine xsq ?_ | refine xbl ?_ | refine xex rfl ?_)
  refine xca rfl rfl (may_ok A rows) ?_
  rintro v w1 ⟨rfl, hu1⟩
  have e1 : decide (0 ≤ (rows : Int) ∧ (rows : Int) ≤ 63) = true := by simp; omega
  rw [e1]
  have h64 := pow64 hr
  have hpos : 0 < (2 : Nat) ^ (rows + 1) := Nat.pow_pos (by omega)
  have e2 : 2 * 2 ^ rows = 2 ^ (rows + 1) := by rw [Nat.pow_succ]; omega
  repeat (first | refine xau rfl rfl rfl ?_ | refine xgr rfl ?_ | refine xgs rfl rfl ?_ | refine xg0 rfl ?_ | refine xct rfl ?_ | refine xcf rfl ?_ | refine xbk ?_ | refine xsq ?_ | refine xbl ?_ | refine xex rfl ?_)
  refine xju (ok_shlU (a := 2) (j := rows) rfl rfl) rfl ?_
  rw [e2]
  repeat (first | refine xau rfl rfl rfl ?_ | refine xgr rfl ?_ | refine xgs rfl rfl ?_ | refine xg0 rfl ?_ | refine xct rfl ?_ | refine xcf rfl ?_ | refine xbk ?_ | refine xsq ?_ | refine xbl ?_ | refine xex rfl ?_)
  refine xpu (v := u64V (2 ^ (rows + 1) - 1)) ?_ rfl ?_
  · show some (Value.int .u64 (IntKind.u64.wrap _)) = _
    rw [wrap_u64]
    refine congrArg (fun z => some (Value.int .u64 z)) ?_
    generalize (2 : Nat) ^ (rows + 1) = X at *
    omega
  repeat (first | refine xau rfl rfl rfl ?_ | refine xgr rfl ?_ | refine xgs rfl rfl ?_ | refine xg0 rfl ?_ | refine xct rfl ?_ | refine xcf rfl ?_ | refine xbk ?_ | refine xsq ?_ | refine xbl ?_ | refine xex rfl ?_)
  refine exec_cond rfl (fun h1 => ?_) (fun h1 => ?_)
  · repeat (first | refine xau rfl rfl rfl ?_ | refine xgr rfl ?_ | refine xgs rfl rfl ?_ | refine xg0 rfl ?_ | refine xct rfl ?_ | refine xcf rfl ?_ | refine xbk ?_ | refine xsq ?_ | refine xbl ?_ | refine xex rfl ?_)
    refine xre hc [_, _] ⟨rfl, rfl, trivial⟩ ⟨?_, hu1⟩
    simp only [ge_iff_le, decide_eq_true_eq] at h1
    unfold rowN
    rw [if_neg (by generalize (2 : Nat) ^ (rows + 1) = X at *; omega)]; rfl
  · simp only [ge_iff_le, decide_eq_false_iff_not] at h1
    repeat (first | refine xau rfl rfl rfl ?_ | refine xgr rfl ?_ | refine xgs rfl rfl ?_ | refine xg0 rfl ?_ | refine xct rfl ?_ | refine xcf rfl ?_ | refine xbk ?_ | refine xsq ?_ | refine xbl ?_ | refine xex rfl ?_)
    have hlt : p + 1 < 2 ^ (rows + 1) := by generalize (2 : Nat) ^ (rows + 1) = X at *; omega
    refine xpu (pv_subI (a := 63) (b := rows) rfl rfl hr (by omega)) rfl ?_
    refine xju (ok_shlU (a := p) (j := 63 - rows) rfl rfl) rfl ?_
    have hlt2 : p * 2 ^ (63 - rows) < 18446744073709551616 := by
      have h2 : (p + 1) * 2 ^ (63 - rows) ≤ 2 ^ (rows + 1) * 2 ^ (63 - rows) := Nat.mul_le_mul_right _ (by omega)
      rw [← Nat.pow_add, show rows + 1 + (63 - rows) = 64 by omega, Nat.add_mul] at h2
      have h3 : 0 < (2 : Nat) ^ (63 - rows) := Nat.pow_pos (by omega)
      omega
    rw [Nat.mod_eq_of_lt hlt2]
    refine xpu (pv_notU (a := p * 2 ^ (63 - rows)) rfl hlt2) rfl ?_
    refine xca rfl rfl (lz64_ok A.h_len64 A.h_lz (18446744073709551615 - p * 2 ^ (63 - rows)) (by omega)) ?_
    rintro v w2 ⟨rfl, hu2⟩
    repeat (first | refine xau rfl rfl rfl ?_ | refine xgr rfl ?_ | refine xgs rfl rfl ?_ | refine xg0 rfl ?_ | refine xct rfl ?_ | refine xcf rfl ?_ | refine xbk ?_ | refine xsq ?_ | refine xbl ?_ | refine xex rfl ?_)
    refine xre hc [_, _] ⟨rfl, rfl, trivial⟩ ⟨?_, hu1.trans hu2⟩
    unfold rowN
    rw [if_pos hlt]
    simp only [single, optV]
    refine congrArg (fun z => Value.tuple #[intV' z, .bool true]) ?_
    -- the leading ones
    have hm := bitLen_is (n := 2 ^ (rows + 1) - 1 - p) (by omega)
    have hpos2 : 0 < 2 ^ (rows + 1) - 1 - p := by omega
    have hb0 : 0 < bitLen (2 ^ (rows + 1) - 1 - p) := bitLen_pos (by omega) hpos2
    have hle : bitLen (2 ^ (rows + 1) - 1 - p) ≤ rows + 1 := bitLen_le (by omega) (by omega)
    have h3 : 0 < (2 : Nat) ^ (63 - rows) := Nat.pow_pos (by omega)
    have hbig : 2 ^ (rows + 1) * 2 ^ (63 - rows) = 18446744073709551616 := by
      rw [← Nat.pow_add, show rows + 1 + (63 - rows) = 64 by omega]
    have hsplit : 18446744073709551615 - p * 2 ^ (63 - rows) = (2 ^ (rows + 1) - 1 - p) * 2 ^ (63 - rows) + (2 ^ (63 - rows) - 1) := by
      have h4 : (2 ^ (rows + 1) - 1 - p) * 2 ^ (63 - rows) = 2 ^ (rows + 1) * 2 ^ (63 - rows) - (1 + p) * 2 ^ (63 - rows) := by
        rw [Nat.sub_sub, Nat.sub_mul]
      rw [h4, hbig, Nat.add_mul]
      have h5 : (p + 1) * 2 ^ (63 - rows) ≤ 2 ^ (rows + 1) * 2 ^ (63 - rows) := Nat.mul_le_mul_right _ (by omega)
      rw [hbig, Nat.add_mul] at h5
      omega
    have hlen : bitLen (18446744073709551615 - p * 2 ^ (63 - rows)) = bitLen (2 ^ (rows + 1) - 1 - p) + (63 - rows) := by
      refine bitLen_eq (by omega) ⟨?_, .inr ?_⟩
      · rw [hsplit, Nat.pow_add 2 (bitLen _) (63 - rows)]
        have h6 : (2 ^ (rows + 1) - 1 - p + 1) * 2 ^ (63 - rows) ≤ 2 ^ bitLen (2 ^ (rows + 1) - 1 - p) * 2 ^ (63 - rows) := Nat.mul_le_mul_right _ hm.1
        rw [Nat.add_mul] at h6
        omega
      · rcases hm.2 with h7 | h7
        · omega
        · rw [hsplit, show bitLen (2 ^ (rows + 1) - 1 - p) + (63 - rows) - 1 = (bitLen (2 ^ (rows + 1) - 1 - p) - 1) + (63 - rows) by omega, Nat.pow_add]
          have := Nat.mul_le_mul_right (2 ^ (63 - rows)) h7
          omega
    rw [hlen]
    omega
theorem left_ok (p rows : Nat) (hp : p < 2 ^ 64) (hr : rows ≤ 63) : RetV P A.left [u64V p, intV' rows] w (optV u64V (leftN p rows)) := by
  refine Ret.of_exec A.h_left (Nat.le_of_ble_eq_true rfl) fun c hc => ?_
  dsimp only [b_pos_Left, argEnv]
  repeat (first | refine xau rfl rfl rfl ?_ | refine xgr rfl ?_ | refine xgs rfl rfl ?_ | refine xg0 rfl ?_ | refine xct rfl ?_ | refine xcf rfl ?_ | refine xbk ?_ | refine xsq ?_ | refine xbl ?_ | refine xex rfl ?_)
  refine xca rfl rfl (row_ok A p rows hp hr) ?_
  rintro v w1 ⟨rfl, hu1⟩
  cases hrow : rowN p rows with
  | none =>
    repeat (first | refine xau rfl rfl rfl ?_ | refine xgr rfl ?_ | refine xgs rfl rfl ?_ | refine xg0 rfl ?_ | refine xct rfl ?_ | refine xcf rfl ?_ | refine xbk ?_ | refine xsq ?_ | refine xbl ?_ | refine xex rfl ?_)
    refine xre hc [_, _] ⟨rfl, rfl, trivial⟩ ⟨?_, hu1⟩
    simp only [leftN, hrow]; rfl
  | some r =>
    repeat (first | refine xau rfl rfl rfl ?_ | refine xgr rfl ?_ | refine xgs rfl rfl ?_ | refine xg0 rfl ?_ | refine xct rfl ?_ | refine xcf rfl ?_ | refine xbk ?_ | refine xsq ?_ | refine xbl ?_ | refine xex rfl ?_)
    refine exec_cond rfl (fun h1 => ?_) (fun h1 => ?_)
    · repeat (first | refine xau rfl rfl rfl ?_ | refine xgr rfl ?_ | refine xgs rfl rfl ?_ | refine xg0 rfl ?_ | refine xct rfl ?_ | refine xcf rfl ?_ | refine xbk ?_ | refine xsq ?_ | refine xbl ?_ | refine xex rfl ?_)
      simp only [beq_iff_eq] at h1
      refine xre hc [_, _] ⟨rfl, rfl, trivial⟩ ⟨?_, hu1⟩
      simp only [leftN, hrow, show r = 0 by omega, if_true]; rfl
    · have h1' : r ≠ 0 := fun h => by subst h; simp at h1
      repeat (first | refine xau rfl rfl rfl ?_ | refine xgr rfl ?_ | refine xgs rfl rfl ?_ | refine xg0 rfl ?_ | refine xct rfl ?_ | refine xcf rfl ?_ | refine xbk ?_ | refine xsq ?_ | refine xbl ?_ | refine xex rfl ?_)
      have h64 := pow64 hr
      have hpos : 0 < (2 : Nat) ^ (rows + 1) := Nat.pow_pos (by omega)
      have e2 : 2 * 2 ^ rows = 2 ^ (rows + 1) := by rw [Nat.pow_succ]; omega
      refine xju (ok_shlU (a := p) (j := 1) rfl rfl) rfl ?_
      repeat (first | refine xau rfl rfl rfl ?_ | refine xgr rfl ?_ | refine xgs rfl rfl ?_ | refine xg0 rfl ?_ | refine xct rfl ?_ | refine xcf rfl ?_ | refine xbk ?_ | refine xsq ?_ | refine xbl ?_ | refine xex rfl ?_)
      refine xju (ok_shlU (a := 2) (j := rows) rfl rfl) rfl ?_
      rw [e2]
      refine xpu (v := u64V (2 ^ (rows + 1) - 1)) ?_ rfl ?_
      · show some (Value.int .u64 (IntKind.u64.wrap _)) = _
        rw [wrap_u64]
        refine congrArg (fun z => some (Value.int .u64 z)) ?_
        generalize (2 : Nat) ^ (rows + 1) = X at *
        omega
      refine xpu (pv_andU (a := p * 2 ^ 1 % 18446744073709551616) (b := 2 ^ (rows + 1) - 1) rfl rfl (by omega) (by omega)) rfl ?_
      have e4 : p * 2 ^ 1 % 18446744073709551616 &&& (2 ^ (rows + 1) - 1) = 2 * p % 2 ^ (rows + 1) := by
        rw [and_mask]
        have : (2 : Nat) ^ (rows + 1) ∣ 18446744073709551616 := ⟨2 ^ (63 - rows), by rw [← Nat.pow_add, show rows + 1 + (63 - rows) = 64 by omega]⟩
        rw [Nat.mod_mod_of_dvd _ this]
        congr 1; omega
      rw [e4]
      repeat (first | refine xau rfl rfl rfl ?_ | refine xgr rfl ?_ | refine xgs rfl rfl ?_ | refine xg0 rfl ?_ | refine xct rfl ?_ | refine xcf rfl ?_ | refine xbk ?_ | refine xsq ?_ | refine xbl ?_ | refine xex rfl ?_)
      refine xre hc [_, _] ⟨rfl, rfl, trivial⟩ ⟨?_, hu1⟩
      simp only [leftN, hrow, h1', if_false]; rfl
theorem root_ok (n h : Nat) (hn : n < 2 ^ 64) (hh : h < 2 ^ 63) : RetV P A.root [u64V n, intV' h] w (optV u64V (rootN n h)) := by
  refine Ret.of_exec A.h_root (Nat.le_of_ble_eq_true rfl) fun c hc => ?_
  dsimp only [b_pos_Root, argEnv]
  repeat (first | refine xau rfl rfl rfl ?_ | refine xgr rfl ?_ | refine xgs rfl rfl ?_ | refine xg0 rfl ?_ | refine xct rfl ?_ | refine xcf rfl ?_ | refine xbk ?_ | refine xsq ?_ | refine xbl ?_ | refine xex rfl ?_)
  refine xca rfl rfl (rows_ok A n hn) ?_
  rintro v w1 ⟨rfl, hu1⟩
  by_cases h63 : n < 2 ^ 63
  · rw [if_pos h63]
    have hle := rowsN_le h63
    repeat (first | refine xau rfl rfl rfl ?_ | refine xgr rfl ?_ | refine xgs rfl rfl ?_ | refine xg0 rfl ?_ | refine xct rfl ?_ | refine xcf rfl ?_ | refine xbk ?_ | refine xsq ?_ | refine xbl ?_ | refine xex rfl ?_)
    have e0 : decide ((h : Int) < 0) = false := by simp
    rw [e0]
    repeat (first | refine xau rfl rfl rfl ?_ | refine xgr rfl ?_ | refine xgs rfl rfl ?_ | refine xg0 rfl ?_ | refine xct rfl ?_ | refine xcf rfl ?_ | refine xbk ?_ | refine xsq ?_ | refine xbl ?_ | refine xex rfl ?_)
    refine exec_split 24 rfl (fun h1 => ?_) (fun h1 => ?_)
    · repeat (first | refine xau rfl rfl rfl ?_ | refine xgr rfl ?_ | refine xgs rfl rfl ?_ | refine xg0 rfl ?_ | refine xct rfl ?_ | refine xcf rfl ?_ | refine xbk ?_ | refine xsq ?_ | refine xbl ?_ | refine xex rfl ?_)
      simp only [gt_iff_lt, decide_eq_true_eq] at h1
      refine xre hc [_, _] ⟨rfl, rfl, trivial⟩ ⟨?_, hu1⟩
      rw [rootN, if_neg (by omega)]; rfl
    · simp only [gt_iff_lt, decide_eq_false_iff_not] at h1
      repeat (first | refine xau rfl rfl rfl ?_ | refine xgr rfl ?_ | refine xgs rfl rfl ?_ | refine xg0 rfl ?_ | refine xct rfl ?_ | refine xcf rfl ?_ | refine xbk ?_ | refine xsq ?_ | refine xbl ?_ | refine xex rfl ?_)
      refine xju (ok_shrU (j := h) rfl rfl hn) rfl ?_
      repeat (first | refine xau rfl rfl rfl ?_ | refine xgr rfl ?_ | refine xgs rfl rfl ?_ | refine xg0 rfl ?_ | refine xct rfl ?_ | refine xcf rfl ?_ | refine xbk ?_ | refine xsq ?_ | refine xbl ?_ | refine xex rfl ?_)
      refine xpu (pv_andU (a := n / 2 ^ h) (b := 1) rfl rfl (Nat.lt_of_le_of_lt (Nat.div_le_self _ _) hn) (by omega)) rfl ?_
      rw [Nat.and_one_is_mod]
      repeat (first | refine xau rfl rfl rfl ?_ | refine xgr rfl ?_ | refine xgs rfl rfl ?_ | refine xg0 rfl ?_ | refine xct rfl ?_ | refine xcf rfl ?_ | refine xbk ?_ | refine xsq ?_ | refine xbl ?_ | refine xex rfl ?_)
      refine exec_cond rfl (fun h2 => ?_) (fun h2 => ?_)
      · repeat (first | refine xau rfl rfl rfl ?_ | refine xgr rfl ?_ | refine xgs rfl rfl ?_ | refine xg0 rfl ?_ | refine xct rfl ?_ | refine xcf rfl ?_ | refine xbk ?_ | refine xsq ?_ | refine xbl ?_ | refine xex rfl ?_)
        simp only [beq_iff_eq] at h2
        refine xre hc [_, _] ⟨rfl, rfl, trivial⟩ ⟨?_, hu1⟩
        rw [rootN, if_neg]; · rfl
        rintro ⟨_, _, h3⟩
        simp only [bitN, beq_iff_eq] at h3
        omega
      · have h2' : n / 2 ^ h % 2 = 1 := by
          simp only [beq_eq_false_iff_ne, ne_eq] at h2; omega
        repeat (first | refine xau rfl rfl rfl ?_ | refine xgr rfl ?_ | refine xgs rfl rfl ?_ | refine xg0 rfl ?_ | refine xct rfl ?_ | refine xcf rfl ?_ | refine xbk ?_ | refine xsq ?_ | refine xbl ?_ | refine xex rfl ?_)
        refine exec_dw [] rfl rfl rfl ?_
        repeat (first | refine dau rfl (fun _ => rfl) ?_ | refine dga rfl (fun _ => rfl) (fun _ => rfl) ?_ | refine dgs (fun _ => rfl) ?_)
        refine dw_ok (u64V (beginN h (rowsN n))) (fun vs W hu _ => (ok_call rfl (begin_ok A h (rowsN n) (by omega) hle)).mono fun u W' hx => ⟨hx.2, hx.1⟩) ?_
        repeat (first | refine dau rfl (fun _ => rfl) ?_ | refine dga rfl (fun _ => rfl) (fun _ => rfl) ?_ | refine dgs (fun _ => rfl) ?_)
        refine dw_keep _ (fun vs W _ _ => ok_shrU (a := n) (j := h) rfl rfl hn) ?_
        refine dw_keep _ (fun vs W _ _ => ok_shrU (a := n / 2 ^ h) (j := 1) rfl rfl (Nat.lt_of_le_of_lt (Nat.div_le_self _ _) hn)) ?_
        refine dw_keep _ (fun vs W _ _ => ok_shlU (a := n / 2 ^ h / 2 ^ 1) (j := 1) rfl rfl) ?_
        refine dw_end fun vs W hu2 _ => ?_
        have e5 : n / 2 ^ h / 2 ^ 1 = n / 2 ^ (h + 1) := by rw [Nat.div_div_eq_div_mul, ← Nat.pow_add]
        have hd : n / 2 ^ (h + 1) ≤ n / 2 ^ 1 := Nat.div_le_div_left (Nat.pow_le_pow_right (by omega) (by omega)) (by omega)
        have e6 : n / 2 ^ (h + 1) * 2 ^ 1 % 18446744073709551616 = n / 2 ^ (h + 1) * 2 := by rw [Nat.mod_eq_of_lt]; omega
        rw [e5, e6]
        have hroot : rootN n h = some (beginN h (rowsN n) + n / 2 ^ (h + 1) * 2) := by rw [rootN, if_pos ⟨h63, by omega, by simp [bitN, h2']⟩]
        have hb : beginN h (rowsN n) + n / 2 ^ (h + 1) * 2 < 18446744073709551616 := by
          have := rootN_lt hroot
          have := pow64 hle
          omega
        refine xpu (pv_addU (a := beginN h (rowsN n)) (b := n / 2 ^ (h + 1) * 2) rfl rfl hb) rfl ?_
        repeat (first | refine xau rfl rfl rfl ?_ | refine xgr rfl ?_ | refine xgs rfl rfl ?_ | refine xg0 rfl ?_ | refine xct rfl ?_ | refine xcf rfl ?_ | refine xbk ?_ | refine xsq ?_ | refine xbl ?_ | refine xex rfl ?_)
        refine xre hc [_, _] ⟨rfl, rfl, trivial⟩ ⟨?_, hu1.trans hu2⟩
        rw [hroot]; rfl
  · rw [if_neg h63]
    repeat (first | refine xau rfl rfl rfl ?_ | refine xgr rfl ?_ | refine xgs rfl rfl ?_ | refine xg0 rfl ?_ | refine xct rfl ?_ | refine xcf rfl ?_ | refine xbk ?_ | refine xsq ?_ | refine xbl ?_ | refine xex rfl ?_)
    refine xre hc [_, _] ⟨rfl, rfl, trivial⟩ ⟨?_, hu1⟩
    rw [rootN, if_neg (by omega)]; rfl
end
end Go.Sp

namespace Go.Sp
section
variable {P : Program} {f : Nat} {w : World}
abbrev ptrV' (b : Nat) : Value := .pointer (some ⟨b, 0, none⟩)
/-- a slice handed out: its block -/
theorem SlC.at {w : World} {v : Value} {N len : Nat} {cs : List Value} (h : SlC w v N len cs) (h0 : 0 < len) : ∃ b o cap, v = .slice (some ⟨b, o, none⟩) len cap ∧ Mem w b o cs ∧ len ≤ cap := by
  rcases h with ⟨_, h, _⟩ | ⟨b, o, cap, h1, h2, _, h3⟩
  · omega
  · exact ⟨b, o, cap, h1, h2, h3⟩
theorem SlC.lenS {e : Env} {v : Value} {N len : Nat} {cs : List Value} {x : Operand} (h : SlC w v N len cs) (hx : e.ev x = some v) : pureV e (.lenS x) = some (intV' len) := by
  rcases h with ⟨rfl | ⟨b, o, s, cap, rfl⟩, rfl, _⟩ | ⟨b, o, cap, rfl, _⟩ <;> simp [pureV, hx]
theorem SlC.nil_or {v : Value} {N len : Nat} {cs : List Value} (h : SlC w v N len cs) : (v = .slice none 0 0 ∧ len = 0 ∧ cs = []) ∨ ∃ a l cap, v = .slice (some a) l cap := by
  rcases h with ⟨rfl | ⟨b, o, s, cap, rfl⟩, h1, h2⟩ | ⟨b, o, cap, rfl, _⟩
  · exact .inl ⟨rfl, h1, h2⟩
  · exact .inr ⟨_, _, _, rfl⟩
  · exact .inr ⟨_, _, _, rfl⟩
end
end Go.Sp

namespace Go.Sp
def firstW : List Nat := [7640891576956012808, 13503953896175478587, 4354685564936845355, 11912009170470909681, 5840696475078001361, 11170449401992604703, 2270897969802886507, 6620516959819538809]
def constW : List Nat := [4794697086780616226, 8158064640168781261, 13096744586834688815, 16840607885511220156, 4131703408338449720, 6480981068601479193, 10538285296894168987, 12329834152419229976, 15566598209576043074, 1334009975649890238, 2608012711638119052, 6128411473006802146, 8268148722764581231, 9286055187155687089, 11230858885718282805, 13951009754708518548, 16472876342353939154, 17275323862435702243, 1135362057144423861, 2597628984639134821, 3308224258029322869, 5365058923640841347, 6679025012923562964, 8573033837759648693, 10970295158949994411, 12119686244451234320, 12683024718118986047, 13788192230050041572, 14330467153632333762, 15395433587784984357, 489312712824947311, 1452737877330783856, 2861767655752347644, 3322285676063803686, 5560940570517711597, 5996557281743188959, 7280758554555802590, 8532644243296465576, 9350256976987008742, 10552545826968843579, 11727347734174303076, 12113106623233404929, 14000437183269869457, 14369950271660146224, 15101387698204529176, 15463397548674623760, 17586052441742319658, 1182934255886127544, 1847814050463011016, 2177327727835720531, 2830643537854262169, 3796741975233480872, 4115178125766777443, 5681478168544905931, 6601373596472566643, 7507060721942968483, 8399075790359081724, 8693463985226723168, 9568029438360202098, 10144078919501101548, 10430055236837252648, 11840083180663258601, 13761210420658862357, 14299343276471374635, 14566680578165727644, 15097957966210449927, 16922976911328602910, 17689382322260857208, 500013540394364858, 748580250866718886, 1242879168328830382, 1977374033974150939, 2944078676154940804, 3659926193048069267, 4368137639120453308, 4836135668995329356, 5532061633213252278, 6448918945643986474, 6902733635092675308, 7801388544844847127]
def rotr (x n : Nat) : Nat := x * 2 ^ (64 - n) % 18446744073709551616 ||| x / 2 ^ n
/-- of eight bytes a word -/
def wordN (b : List Nat) : Nat := b.foldl (fun w x => w * 256 % 18446744073709551616 ||| x) 0
/-- of a word eight bytes -/
def layN (w : Nat) : List Nat := (List.range 8).map fun i => w / 2 ^ (56 - 8 * i) % 256
def nextW (w : List Nat) : Nat :=
  ((((rotr (w.getD (w.length - 2) 0) 19 ^^^ rotr (w.getD (w.length - 2) 0) 61 ^^^ w.getD (w.length - 2) 0 / 2 ^ 6) + w.getD (w.length - 7) 0) % 18446744073709551616 +
    (rotr (w.getD (w.length - 15) 0) 1 ^^^ rotr (w.getD (w.length - 15) 0) 8 ^^^ w.getD (w.length - 15) 0 / 2 ^ 7)) % 18446744073709551616 + w.getD (w.length - 16) 0) % 18446744073709551616
def growW : Nat → List Nat → List Nat
  | 0, w => w
  | k + 1, w => growW k (w ++ [nextW w])
def words16 (b : List Nat) : List Nat := (List.range 16).map fun t => wordN ((b.drop (8 * t)).take 8)
def spreadN (b : List Nat) : List Nat := growW 64 (words16 b)
def notW (x : Nat) : Nat := 18446744073709551615 - x
def roundN (v : List Nat) (k w : Nat) : List Nat :=
  match v with
  | [a, b, c, d, e, f, g, h] =>
    let t1 := ((((h + (rotr e 14 ^^^ rotr e 18 ^^^ rotr e 41)) % 18446744073709551616 + (e &&& f ^^^ notW e &&& g)) % 18446744073709551616 + k) % 18446744073709551616 + w) % 18446744073709551616
    let t2 := ((rotr a 28 ^^^ rotr a 34 ^^^ rotr a 39) + (a &&& b ^^^ a &&& c ^^^ b &&& c)) % 18446744073709551616
    [(t1 + t2) % 18446744073709551616, a, b, c, (d + t1) % 18446744073709551616, e, f, g]
  | _ => v
def roundsN (v : List Nat) : List Nat → List Nat → List Nat
  | k :: ks, w :: ws => roundsN (roundN v k w) ks ws
  | _, _ => v
def takeN (h : List Nat) (b : List Nat) : List Nat := List.zipWith (fun x y => (x + y) % 18446744073709551616) h (roundsN h constW (spreadN b))
def padN (n : Nat) : Nat := (112 + 128 - (n + 1) % 128) % 128
def filledN (b : List Nat) : List Nat := b ++ [128] ++ List.replicate (padN b.length) 0 ++ layN (b.length / 2 ^ 61) ++ layN (b.length * 8 % 18446744073709551616)
def takesN (h : List Nat) : Nat → List Nat → List Nat
  | 0, _ => h
  | k + 1, b => takesN (takeN h (b.take 128)) k (b.drop 128)
def digestN (h b : List Nat) : List Nat := (takesN h ((filledN b).length / 128) (filledN b)).flatMap layN
def wordsN : List Nat := (List.range 8).map fun i => wordN (((digestN (firstW.map (· ^^^ 11936128518282651045)) [83, 72, 65, 45, 53, 49, 50, 47, 50, 53, 54]).drop (8 * i)).take 8)
def sum256N (b : List Nat) : List Nat := (digestN wordsN b).take 32
end Go.Sp

namespace Go.Sp
abbrev u8N (n : Nat) : Value := .int .u8 (n : Int)
theorem rotr_lt (x n : Nat) (hx : x < 18446744073709551616) : rotr x n < 18446744073709551616 := by
  unfold rotr
  exact Nat.or_lt_two_pow (n := 64) (Nat.mod_lt _ (by decide)) (Nat.lt_of_le_of_lt (Nat.div_le_self _ _) hx)
section
variable {P : Program} {f : Nat} {w : World}
theorem rot_ok (h : Has P f b_math_bits_RotateLeft64) (x n : Nat) (hx : x < 18446744073709551616) (h0 : 0 < n) (h1 : n < 64) : RetV P f [u64V x, .int .i64 (-(n : Int))] w (u64V (rotr x n)) := by
  refine Ret.of_exec h (Nat.le_of_ble_eq_true rfl) fun c hc => ?_
  dsimp only [b_math_bits_RotateLeft64, argEnv]
  repeat (first | refine xau rfl rfl rfl ?_ | refine xgr rfl ?_ | refine xgs rfl rfl ?_ | refine xg0 rfl ?_ | refine xct rfl ?_ | refine xcf rfl ?_ | refine xbk ?_ | refine xsq ?_ | refine xbl ?_ | refine xex rfl ?_)
  refine xpu (v := u64V (18446744073709551616 - n)) ?_ rfl ?_
  · show some (Value.int .u64 (IntKind.u64.wrap _)) = _
    rw [wrap_u64]
    exact congrArg (fun z => some (Value.int .u64 z)) (by omega)
  refine xpu (pv_andU (a := 18446744073709551616 - n) (b := 63) rfl rfl (by omega) (by omega)) rfl ?_
  have e1 : (18446744073709551616 - n) &&& 63 = 64 - n := by
    have := and_mask (18446744073709551616 - n) 6
    simp only [show (2 : Nat) ^ 6 - 1 = 63 from rfl] at this
    rw [this]; omega
  rw [e1]
  repeat (first | refine xau rfl rfl rfl ?_ | refine xgr rfl ?_ | refine xgs rfl rfl ?_ | refine xg0 rfl ?_ | refine xct rfl ?_ | refine xcf rfl ?_ | refine xbk ?_ | refine xsq ?_ | refine xbl ?_ | refine xex rfl ?_)
  refine xju (ok_shlU (a := x) (j := 64 - n) rfl rfl) rfl ?_
  repeat (first | refine xau rfl rfl rfl ?_ | refine xgr rfl ?_ | refine xgs rfl rfl ?_ | refine xg0 rfl ?_ | refine xct rfl ?_ | refine xcf rfl ?_ | refine xbk ?_ | refine xsq ?_ | refine xbl ?_ | refine xex rfl ?_)
  refine xpu (pv_subU (a := 64) (b := 64 - n) rfl rfl (by omega) (by omega)) rfl ?_
  rw [show 64 - (64 - n) = n by omega]
  refine xju (ok_shrU (a := x) (j := n) rfl rfl hx) rfl ?_
  refine xpu (pv_orU (a := x * 2 ^ (64 - n) % 18446744073709551616) (b := x / 2 ^ n) rfl rfl (Nat.mod_lt _ (by decide)) (Nat.lt_of_le_of_lt (Nat.div_le_self _ _) hx)) rfl ?_
  repeat (first | refine xau rfl rfl rfl ?_ | refine xgr rfl ?_ | refine xgs rfl rfl ?_ | refine xg0 rfl ?_ | refine xct rfl ?_ | refine xcf rfl ?_ | refine xbk ?_ | refine xsq ?_ | refine xbl ?_ | refine xex rfl ?_)
  exact xre hc [_] ⟨rfl, trivial⟩ ⟨rfl, Upd.refl _ _⟩
theorem right_ok {g : Nat} (hg : Has P g b_math_bits_RotateLeft64) (h : Has P f (b_sha512_right g)) (x n : Nat) (hx : x < 18446744073709551616) (h0 : 0 < n) (h1 : n < 64) : RetV P f [u64V x, intV' n] w (u64V (rotr x n)) := by
  refine Ret.of_exec h (Nat.le_of_ble_eq_true rfl) fun c hc => ?_
  dsimp only [b_sha512_right, argEnv]
  repeat (first | refine xau rfl rfl rfl ?_ | refine xgr rfl ?_ | refine xgs rfl rfl ?_ | refine xg0 rfl ?_ | refine xct rfl ?_ | refine xcf rfl ?_ | refine xbk ?_ | refine xsq ?_ | refine xbl ?_ | refine xex rfl ?_)
  refine xpu (v := .int .i64 (-(n : Int))) ?_ rfl ?_
  · show some (Value.int .i64 (IntKind.i64.wrap _)) = _
    rw [wrap_i64 (by omega) (by omega)]
    exact congrArg (fun z => some (Value.int .i64 z)) (by omega)
  refine xca rfl rfl (rot_ok hg x n hx h0 h1) ?_
  rintro v w1 ⟨rfl, hu⟩
  repeat (first | refine xau rfl rfl rfl ?_ | refine xgr rfl ?_ | refine xgs rfl rfl ?_ | refine xg0 rfl ?_ | refine xct rfl ?_ | refine xcf rfl ?_ | refine xbk ?_ | refine xsq ?_ | refine xbl ?_ | refine xex rfl ?_)
  exact xre hc [_] ⟨rfl, trivial⟩ ⟨rfl, hu⟩
theorem or_byte {a b : Nat} (hb : b < 256) : a * 256 % 18446744073709551616 ||| b < 18446744073709551616 :=
  Nat.or_lt_two_pow (n := 64) (Nat.mod_lt _ (by decide)) (by omega)
theorem wordN_lt (l : List Nat) (h : ∀ x ∈ l, x < 256) : wordN l < 18446744073709551616 := by
  have : ∀ (l : List Nat) (a : Nat), a < 18446744073709551616 → (∀ x ∈ l, x < 256) → l.foldl (fun w x => w * 256 % 18446744073709551616 ||| x) a < 18446744073709551616 := by
    intro l
    induction l with
    | nil => intro a ha _; exact ha
    | cons x l ih => intro a ha hx; exact ih _ (or_byte (hx x List.mem_cons_self)) fun y hy => hx y (List.mem_cons_of_mem _ hy)
  exact this l 0 (by omega) h
theorem word_ok (h : Has P f b_sha512_word) {v : Value} {len : Nat} {l : List Nat} (hS : SlC w v 1 len (l.map u8N)) (hl : 8 ≤ l.length) (hll : l.length = len) (hb : ∀ x ∈ l, x < 256) : RetV P f [v] w (u64V (wordN (l.take 8))) := by
  refine Ret.of_exec h (Nat.le_of_ble_eq_true rfl) fun c hc => ?_
  dsimp only [b_sha512_word, argEnv]
  repeat (first | refine xau rfl rfl rfl ?_ | refine xgr rfl ?_ | refine xgs rfl rfl ?_ | refine xg0 rfl ?_ | refine xct rfl ?_ | refine xcf rfl ?_ | refine xbk ?_ | refine xsq ?_ | refine xbl ?_ | refine xex rfl ?_)
  obtain ⟨b, o, cap, rfl, hm, hcap⟩ := hS.at (by omega)
  refine xlo (S := Nat) (fun i W => i ≤ 8 ∧ Ext w W) (fun i => [(0, .slice (some ⟨b, o, none⟩) len cap), (3, u64V (wordN (l.take i))), (5, intV' i)]) (fun i => 8 - i) 0
    ⟨by omega, Upd.refl _ _⟩ ⟨rfl, rfl, rfl, trivial⟩ ?_
  rintro i W ⟨hi, hE⟩
  repeat (first | refine xau rfl rfl rfl ?_ | refine xgr rfl ?_ | refine xgs rfl rfl ?_ | refine xg0 rfl ?_ | refine xct rfl ?_ | refine xcf rfl ?_ | refine xbk ?_ | refine xsq ?_ | refine xbl ?_ | refine xex rfl ?_)
  refine exec_cond rfl (fun h1 => ?_) (fun h1 => ?_)
  · simp only [decide_eq_true_eq] at h1
    have hi8 : i < 8 := by omega
    obtain ⟨x, hx⟩ : ∃ x, l[i]? = some x := ⟨_, List.getElem?_eq_getElem (by omega)⟩
    have hx256 := hb x (List.mem_of_getElem? hx)
    have hw := wordN_lt (l.take i) (fun y hy => hb y (List.mem_of_mem_take hy))
    repeat (first | refine xau rfl rfl rfl ?_ | refine xgr rfl ?_ | refine xgs rfl rfl ?_ | refine xg0 rfl ?_ | refine xct rfl ?_ | refine xcf rfl ?_ | refine xbk ?_ | refine xsq ?_ | refine xbl ?_ | refine xex rfl ?_)
    refine xju (ok_shlU (a := wordN (l.take i)) (j := 8) rfl rfl) rfl ?_
    repeat (first | refine xau rfl rfl rfl ?_ | refine xgr rfl ?_ | refine xgs rfl rfl ?_ | refine xg0 rfl ?_ | refine xct rfl ?_ | refine xcf rfl ?_ | refine xbk ?_ | refine xsq ?_ | refine xbl ?_ | refine xex rfl ?_)
    refine xju (ok_iaddr rfl rfl i rfl (by omega)) rfl ?_
    refine exec_load1 (b := b) (o := o + i * 1) (v := u8N x) rfl rfl (by rw [Nat.mul_one]; exact (hm.upd hE) i _ (by simp [hx])) ?_
    refine xpu (pv_toU (a := x) rfl (by omega)) rfl ?_
    refine xpu (pv_orU (a := wordN (l.take i) * 2 ^ 8 % 18446744073709551616) (b := x) rfl rfl (Nat.mod_lt _ (by decide)) (by omega)) rfl ?_
    repeat (first | refine xau rfl rfl rfl ?_ | refine xgr rfl ?_ | refine xgs rfl rfl ?_ | refine xg0 rfl ?_ | refine xct rfl ?_ | refine xcf rfl ?_ | refine xbk ?_ | refine xsq ?_ | refine xbl ?_ | refine xex rfl ?_)
    refine xpu (pv_addI (a := i) (b := 1) rfl rfl (by omega)) rfl ?_
    repeat (first | refine xau rfl rfl rfl ?_ | refine xgr rfl ?_ | refine xgs rfl rfl ?_ | refine xg0 rfl ?_ | refine xct rfl ?_ | refine xcf rfl ?_ | refine xbk ?_ | refine xsq ?_ | refine xbl ?_ | refine xex rfl ?_)
    refine xag (i + 1) ⟨by omega, hE⟩ (by omega) ⟨rfl, ?_, rfl, trivial⟩
    refine congrArg (fun z : Nat => some (u64V z)) ?_
    rw [List.take_add_one, hx]
    simp [wordN, List.foldl_append]
  · simp only [decide_eq_false_iff_not] at h1
    have : i = 8 := by omega
    subst this
    repeat (first | refine xau rfl rfl rfl ?_ | refine xgr rfl ?_ | refine xgs rfl rfl ?_ | refine xg0 rfl ?_ | refine xct rfl ?_ | refine xcf rfl ?_ | refine xbk ?_ | refine xsq ?_ | refine xbl ?_ | refine xex rfl ?_)
    exact xre hc [_] ⟨rfl, trivial⟩ ⟨rfl, hE⟩
theorem lay_ok {T : Nat} (h : Has P f (b_sha512_lay T)) {v : Value} {l : List Nat} (x : Nat) (hO : OwnC w v 1 l.length (l.map u8N)) (hlen : l.length < 2 ^ 40) (hx : x < 18446744073709551616) :
    Ret P f [v, u64V x] w fun v' w' => OwnC w' v' 1 (l.length + 8) ((l ++ layN x).map u8N) ∧ Upd (blkOf v) w w' ∧ ∀ b ∈ blkOf v', b ∈ blkOf v ∨ w.heap.size ≤ b := by
  refine Ret.of_exec h (Nat.le_of_ble_eq_true rfl) fun c hc => ?_
  dsimp only [b_sha512_lay, argEnv]
  repeat (first | refine xau rfl rfl rfl ?_ | refine xgr rfl ?_ | refine xgs rfl rfl ?_ | refine xg0 rfl ?_ | refine xct rfl ?_ | refine xcf rfl ?_ | refine xbk ?_ | refine xsq ?_ | refine xbl ?_ | refine xex rfl ?_)
  have hlt : ∀ i, ((layN x).take i).length ≤ 8 := by intro i; simp [layN]; omega
  refine xlo (S := Nat × Value) (fun s W => s.1 ≤ 8 ∧ OwnC W s.2 1 (l.length + s.1) ((l ++ (layN x).take s.1).map u8N) ∧ Upd (blkOf v) w W ∧ ∀ b ∈ blkOf s.2, b ∈ blkOf v ∨ w.heap.size ≤ b) (fun s => [(0, s.2), (1, u64V x), (6, intV' s.1)]) (fun s => 8 - s.1) (0, v)
    ⟨by omega, by simpa using hO, Upd.refl _ _, fun b hb => .inl hb⟩ ⟨rfl, rfl, rfl, trivial⟩ ?_
  rintro ⟨i, v1⟩ W ⟨hi, hO1, hu, hf⟩
  simp only at hi hO1 hf
  repeat (first | refine xau rfl rfl rfl ?_ | refine xgr rfl ?_ | refine xgs rfl rfl ?_ | refine xg0 rfl ?_ | refine xct rfl ?_ | refine xcf rfl ?_ | refine xbk ?_ | refine xsq ?_ | refine xbl ?_ | refine xex rfl ?_)
  refine exec_cond rfl (fun h1 => ?_) (fun h1 => ?_)
  · simp only [decide_eq_true_eq] at h1
    have hi8 : i < 8 := by omega
    repeat (first | refine xau rfl rfl rfl ?_ | refine xgr rfl ?_ | refine xgs rfl rfl ?_ | refine xg0 rfl ?_ | refine xct rfl ?_ | refine xcf rfl ?_ | refine xbk ?_ | refine xsq ?_ | refine xbl ?_ | refine xex rfl ?_)
    refine xpu (v := intV' (8 * i)) ?_ rfl ?_
    · show some (Value.int .i64 (IntKind.i64.wrap _)) = _
      rw [wrap_i64 (by omega) (by omega)]
      exact congrArg (fun z => some (Value.int .i64 z)) (by omega)
    refine xpu (pv_subI (a := 56) (b := 8 * i) rfl rfl (by omega) (by omega)) rfl ?_
    refine xju (ok_shrU (a := x) (j := 56 - 8 * i) rfl rfl hx) rfl ?_
    refine xpu (v := u8N (x / 2 ^ (56 - 8 * i) % 256)) ?_ rfl ?_
    · show some (Value.int .u8 (IntKind.u8.wrap _)) = _
      rw [wrap_u8]
      exact congrArg (fun z => some (Value.int .u8 z)) (by omega)
    refine exec_litL (N := 1) rfl rfl rfl rfl ?_
    intro b w1 hb1 hs1 hu1 hO2
    have hz := hu.size
    refine exec_ok (ok_append (N := 1) rfl rfl (hO1.upd hu1 (by simp)) hO2.sl rfl (by decide) (by omega) rfl) rfl ?_
    rintro v2 w2 ⟨hO3, hu2, hf2, _⟩
    repeat (first | refine xau rfl rfl rfl ?_ | refine xgr rfl ?_ | refine xgs rfl rfl ?_ | refine xg0 rfl ?_ | refine xct rfl ?_ | refine xcf rfl ?_ | refine xbk ?_ | refine xsq ?_ | refine xbl ?_ | refine xex rfl ?_)
    refine xpu (pv_addI (a := i) (b := 1) rfl rfl (by omega)) rfl ?_
    repeat (first | refine xau rfl rfl rfl ?_ | refine xgr rfl ?_ | refine xgs rfl rfl ?_ | refine xg0 rfl ?_ | refine xct rfl ?_ | refine xcf rfl ?_ | refine xbk ?_ | refine xsq ?_ | refine xbl ?_ | refine xex rfl ?_)
    have ht : (layN x).take (i + 1) = (layN x).take i ++ [x / 2 ^ (56 - 8 * i) % 256] := by
      rw [List.take_add_one]
      simp [layN, hi8]
    refine xag (i + 1, v2) ⟨by omega, ?_, ?_, ?_⟩ (by show 8 - (i + 1) < 8 - i; omega) ⟨rfl, rfl, rfl, trivial⟩
    · show OwnC w2 v2 1 (l.length + (i + 1)) _
      rw [ht, ← List.append_assoc, List.map_append]
      exact hO3
    · exact (hu.trans hu1).trans hu2 (fun b hb => hf b hb)
    · intro b hb
      rcases hf2 b hb with h4 | h4
      · exact hf b h4
      · right; have := hu1.size; omega
  · simp only [decide_eq_false_iff_not] at h1
    have : i = 8 := by omega
    subst this
    repeat (first | refine xau rfl rfl rfl ?_ | refine xgr rfl ?_ | refine xgs rfl rfl ?_ | refine xg0 rfl ?_ | refine xct rfl ?_ | refine xcf rfl ?_ | refine xbk ?_ | refine xsq ?_ | refine xbl ?_ | refine xex rfl ?_)
    refine xre hc [_] ⟨rfl, trivial⟩ ⟨?_, hu, hf⟩
    have : (layN x).take 8 = layN x := List.take_of_length_le (by simp [layN])
    rw [this] at hO1
    exact hO1
end
end Go.Sp

namespace Go.Sp
section
variable {P : Program} {f : Nat} {w : World}
/-- a fresh slice comes back -/
abbrev RetS (P : Program) (f : FuncId) (args : List Value) (w : World) (N len : Nat) (cs : List Value) : Prop :=
  Ret P f args w fun v w' => OwnC w' v N len cs ∧ Ext w w' ∧ ∀ b ∈ blkOf v, w.heap.size ≤ b
end
end Go.Sp

namespace Go.Sp
section
variable {P : Program} {f : Nat} {w : World}
section
variable {n : Nat} {c : Ctx} {D : List Deferred} {is : List Ins} {k : Kont} {e : Env}
theorem ok_slS3 {N b o len cap : Nat} {x lo hi mx : Operand} {K1 K2 K3 : IntKind} (l h m : Nat) (hx : e.ev x = some (.slice (some ⟨b, o, none⟩) len cap))
    (hlo : e.ev lo = some (.int K1 (l : Int))) (hhi : e.ev hi = some (.int K2 (h : Int))) (hmx : e.ev mx = some (.int K3 (m : Int)))
    (h1 : l ≤ h) (h2 : h ≤ m) (h3 : m ≤ cap) : OpOK P (.slS3 N x (some lo) (some hi) (some mx)) e w (Just (.slice (some (if m = l then ⟨b, o, none⟩ else ⟨b, o + l * N, none⟩)) (h - l) (m - l)) w) :=
  ok_val fun a hk => by
    have e1 : (Instr.sliceBounds true len cap (some (a.eval lo)) (some (a.eval hi)) (some (a.eval mx))).run P w = .ok (l, h, m) w := by
      unfold Instr.sliceBounds
      simp [sliceBound_run hk hmx h3, sliceBound_run hk hhi h2, sliceBound_run hk hlo h1]
    simp only [MOp.sem, Env.ok_ev hk hx, Sem.run_bind, Option.map_some, e1, Result.andThen_ok, Sem.run_pure, add_mk]
    split <;> rfl
end
theorem u8N_cell (l : List Nat) : (l.map u8N).all cellValue = true := by
  rw [List.all_eq_true]; intro v hv; simp only [List.mem_map] at hv; obtain ⟨b, _, rfl⟩ := hv; rfl
/-- slices.Clone, of bytes -/
theorem cloneB_ok {T1 T2 E : Nat} (h : Has P f (b_slices_Clone_byte_byte T1 T2)) (hT : P.underlying T1 = some (.slice E)) {v : Value} {l : List Nat} (hS : SlC w v 1 l.length (l.map u8N)) (hl : l.length < 2 ^ 40) :
    RetS P f [v] w 1 l.length (l.map u8N) := by
  refine Ret.of_exec h (Nat.le_of_ble_eq_true rfl) fun c hc => ?_
  dsimp only [b_slices_Clone_byte_byte, argEnv]
  repeat (first | refine xau rfl rfl rfl ?_ | refine xgr rfl ?_ | refine xgs rfl rfl ?_ | refine xg0 rfl ?_ | refine xct rfl ?_ | refine xcf rfl ?_ | refine xbk ?_ | refine xsq ?_ | refine xbl ?_ | refine xex rfl ?_)
  rcases hS.nil_or with ⟨rfl, h0, h1⟩ | ⟨ad, ll, cap, rfl⟩
  · refine xju (ok_eq_nilslice hT rfl rfl) rfl ?_
    repeat (first | refine xau rfl rfl rfl ?_ | refine xgr rfl ?_ | refine xgs rfl rfl ?_ | refine xg0 rfl ?_ | refine xct rfl ?_ | refine xcf rfl ?_ | refine xbk ?_ | refine xsq ?_ | refine xbl ?_ | refine xex rfl ?_)
    exact xre hc [_] ⟨rfl, trivial⟩ ⟨.inl ⟨rfl, h0, h1⟩, Upd.refl _ _, by simp [single, blkOf]⟩
  · refine xju (ok_eq_nilslice hT rfl rfl) rfl ?_
    repeat (first | refine xau rfl rfl rfl ?_ | refine xgr rfl ?_ | refine xgs rfl rfl ?_ | refine xg0 rfl ?_ | refine xct rfl ?_ | refine xcf rfl ?_ | refine xbk ?_ | refine xsq ?_ | refine xbl ?_ | refine xex rfl ?_)
    refine exec_litL (N := 1) rfl rfl rfl rfl ?_
    intro b1 w1 hb1 hs1 hu1 hO1
    repeat (first | refine xau rfl rfl rfl ?_ | refine xgr rfl ?_ | refine xgs rfl rfl ?_ | refine xg0 rfl ?_ | refine xct rfl ?_ | refine xcf rfl ?_ | refine xbk ?_ | refine xsq ?_ | refine xbl ?_ | refine xex rfl ?_)
    have hS1 := hS.upd hu1 (by simp)
    refine exec_ok (ok_append (N := 1) rfl rfl hO1 hS1 rfl (by decide) (by omega) (u8N_cell l)) rfl ?_
    rintro v2 w2 ⟨hO2, hu2, hf2, _⟩
    repeat (first | refine xau rfl rfl rfl ?_ | refine xgr rfl ?_ | refine xgs rfl rfl ?_ | refine xg0 rfl ?_ | refine xct rfl ?_ | refine xcf rfl ?_ | refine xbk ?_ | refine xsq ?_ | refine xbl ?_ | refine xex rfl ?_)
    refine xre hc [_] ⟨rfl, trivial⟩ ⟨by simpa [rleL, single] using hO2, hu1.trans hu2 (fun b hb => by simp [blkOf] at hb; right; omega), fun b hb => ?_⟩
    rcases hf2 b hb with h | h
    · simp [blkOf] at h; omega
    · omega
theorem padN_lt (n : Nat) : padN n < 128 := Nat.mod_lt _ (by decide)
theorem filled_ok {g1 g2 T T1 T2 E TL : Nat} (h1 : Has P g1 (b_slices_Clone_byte_byte T1 T2)) (hT : P.underlying T1 = some (.slice E)) (h2 : Has P g2 (b_sha512_lay TL)) (h : Has P f (b_sha512_filled g1 g2 T)) {v : Value} {l : List Nat}
    (hS : SlC w v 1 l.length (l.map u8N)) (hl : l.length < 2 ^ 30) : RetS P f [v] w 1 (filledN l).length ((filledN l).map u8N) := by
  refine Ret.of_exec h (Nat.le_of_ble_eq_true rfl) fun c hc => ?_
  dsimp only [b_sha512_filled, argEnv]
  repeat (first | refine xau rfl rfl rfl ?_ | refine xgr rfl ?_ | refine xgs rfl rfl ?_ | refine xg0 rfl ?_ | refine xct rfl ?_ | refine xcf rfl ?_ | refine xbk ?_ | refine xsq ?_ | refine xbl ?_ | refine xex rfl ?_)
  refine xca rfl rfl (cloneB_ok h1 hT hS (by omega)) ?_
  rintro v1 w1 ⟨hO1, hu1, hf1⟩
  refine exec_litL (N := 1) (cs := [u8N 128]) rfl rfl rfl rfl ?_
  intro b2 w2 hb2 hs2 hu2 hO2
  refine exec_ok (ok_append (N := 1) rfl rfl (hO1.upd hu2 (by simp)) hO2.sl rfl (by decide) (by omega) rfl) rfl ?_
  rintro v3 w3 ⟨hO3, hu3, hf3, _⟩
  have z1 := hu1.size
  have z2 := hu2.size
  have hE3 : Ext w w3 := (hu1.trans hu2).trans hu3 (fun b hb => .inr (hf1 b hb))
  have hF3 : ∀ b ∈ blkOf v3, w.heap.size ≤ b := fun b hb => by
    rcases hf3 b hb with h | h
    · exact hf1 b h
    · omega
  repeat (first | refine xau rfl rfl rfl ?_ | refine xgr rfl ?_ | refine xgs rfl rfl ?_ | refine xg0 rfl ?_ | refine xct rfl ?_ | refine xcf rfl ?_ | refine xbk ?_ | refine xsq ?_ | refine xbl ?_ | refine xex rfl ?_)
  have hpad := padN_lt l.length
  have hpd : padN l.length = (112 + 128 - (l.length + 1) % 128) % 128 := rfl
  refine xlo (S := Nat × Value) (fun s W => s.1 ≤ padN l.length ∧ OwnC W s.2 1 (l.length + 1 + s.1) ((l ++ [128] ++ List.replicate s.1 0).map u8N) ∧ Ext w W ∧ ∀ b ∈ blkOf s.2, w.heap.size ≤ b) (fun s => [(0, v), (3, s.2)]) (fun s => padN l.length - s.1) (0, v3)
    ⟨Nat.zero_le _, by simpa using hO3, hE3, hF3⟩ ⟨rfl, rfl, trivial⟩ ?_
  rintro ⟨j, v4⟩ W ⟨hj, hO4, hE4, hF4⟩
  simp only at hj hO4 hF4
  repeat (first | refine xau rfl rfl rfl ?_ | refine xgr rfl ?_ | refine xgs rfl rfl ?_ | refine xg0 rfl ?_ | refine xct rfl ?_ | refine xcf rfl ?_ | refine xbk ?_ | refine xsq ?_ | refine xbl ?_ | refine xex rfl ?_)
  refine xpu (hO4.sl.lenS rfl) rfl ?_
  refine xju (ok_rem rfl rfl (by decide)) rfl ?_
  have e1 : (((l.length + 1 + j : Nat) : Int).tmod 128) = (((l.length + 1 + j) % 128 : Nat) : Int) := rfl
  rw [e1]
  repeat (first | refine xau rfl rfl rfl ?_ | refine xgr rfl ?_ | refine xgs rfl rfl ?_ | refine xg0 rfl ?_ | refine xct rfl ?_ | refine xcf rfl ?_ | refine xbk ?_ | refine xsq ?_ | refine xbl ?_ | refine xex rfl ?_)
  refine exec_cond rfl (fun h5 => ?_) (fun h5 => ?_)
  · have hne : (l.length + 1 + j) % 128 ≠ 112 := by
      simp only [bne_iff_ne, ne_eq] at h5; omega
    have hjl : j < padN l.length := by omega
    repeat (first | refine xau rfl rfl rfl ?_ | refine xgr rfl ?_ | refine xgs rfl rfl ?_ | refine xg0 rfl ?_ | refine xct rfl ?_ | refine xcf rfl ?_ | refine xbk ?_ | refine xsq ?_ | refine xbl ?_ | refine xex rfl ?_)
    refine exec_litL (N := 1) (cs := [u8N 0]) rfl rfl rfl rfl ?_
    intro b5 w5 hb5 hs5 hu5 hO5
    refine exec_ok (ok_append (N := 1) rfl rfl (hO4.upd hu5 (by simp)) hO5.sl rfl (by decide) (by omega) rfl) rfl ?_
    rintro v6 w6 ⟨hO6, hu6, hf6, _⟩
    have z5 := hE4.size
    have z6 := hu5.size
    repeat (first | refine xau rfl rfl rfl ?_ | refine xgr rfl ?_ | refine xgs rfl rfl ?_ | refine xg0 rfl ?_ | refine xct rfl ?_ | refine xcf rfl ?_ | refine xbk ?_ | refine xsq ?_ | refine xbl ?_ | refine xex rfl ?_)
    refine xag (j + 1, v6) ⟨hjl, ?_, (hE4.trans hu5).trans hu6 (fun b hb => .inr (hF4 b hb)), fun b hb => ?_⟩ (by show padN l.length - (j + 1) < padN l.length - j; omega) ⟨rfl, rfl, trivial⟩
    · show OwnC w6 v6 1 (l.length + 1 + (j + 1)) _
      rw [List.replicate_succ', ← List.append_assoc, List.map_append]
      exact hO6
    · rcases hf6 b hb with h | h
      · exact hF4 b h
      · omega
  · have heq : (l.length + 1 + j) % 128 = 112 := by
      simp only [bne_eq_false_iff_eq] at h5; omega
    have hjp : j = padN l.length := by omega
    subst hjp
    repeat (first | refine xau rfl rfl rfl ?_ | refine xgr rfl ?_ | refine xgs rfl rfl ?_ | refine xg0 rfl ?_ | refine xct rfl ?_ | refine xcf rfl ?_ | refine xbk ?_ | refine xsq ?_ | refine xbl ?_ | refine xex rfl ?_)
    have hlen4 : (l ++ [128] ++ List.replicate (padN l.length) 0).length = l.length + 1 + padN l.length := by simp; omega
    have hSv : SlC W v 1 l.length (l.map u8N) := hS.upd hE4 (by simp)
    refine xpu (hSv.lenS rfl) rfl ?_
    refine xpu (pv_toU (a := l.length) rfl (by omega)) rfl ?_
    refine xju (ok_shrU (a := l.length) (j := 61) rfl rfl (by omega)) rfl ?_
    refine xca rfl rfl (lay_ok h2 (l := l ++ [128] ++ List.replicate (padN l.length) 0) (l.length / 2 ^ 61) (by rw [hlen4]; exact hO4) (by omega) (by omega)) ?_
    rintro v7 w7 ⟨hO7, hu7, hf7⟩
    have hSv7 : SlC w7 v 1 l.length (l.map u8N) := hS.upd (hE4.trans hu7 (fun b hb => .inr (hF4 b hb))) (by simp)
    repeat (first | refine xau rfl rfl rfl ?_ | refine xgr rfl ?_ | refine xgs rfl rfl ?_ | refine xg0 rfl ?_ | refine xct rfl ?_ | refine xcf rfl ?_ | refine xbk ?_ | refine xsq ?_ | refine xbl ?_ | refine xex rfl ?_)
    refine xpu (hSv7.lenS rfl) rfl ?_
    refine xpu (pv_toU (a := l.length) rfl (by omega)) rfl ?_
    refine xju (ok_shlU (a := l.length) (j := 3) rfl rfl) rfl ?_
    refine xca rfl rfl (lay_ok h2 (l := l ++ [128] ++ List.replicate (padN l.length) 0 ++ layN (l.length / 2 ^ 61)) (l.length * 2 ^ 3 % 18446744073709551616) (by rw [List.length_append, show (layN (l.length / 2 ^ 61)).length = 8 by simp [layN]]; exact hO7) (by rw [List.length_append, hlen4]; simp [layN]; omega) (Nat.mod_lt _ (by decide))) ?_
    rintro v8 w8 ⟨hO8, hu8, hf8⟩
    repeat (first | refine xau rfl rfl rfl ?_ | refine xgr rfl ?_ | refine xgs rfl rfl ?_ | refine xg0 rfl ?_ | refine xct rfl ?_ | refine xcf rfl ?_ | refine xbk ?_ | refine xsq ?_ | refine xbl ?_ | refine xex rfl ?_)
    have hF7 : ∀ b ∈ blkOf v7, w.heap.size ≤ b := fun b hb => by
      rcases hf7 b hb with h | h
      · exact hF4 b h
      · have := hE4.size; omega
    have hE7 : Ext w w7 := hE4.trans hu7 (fun b hb => .inr (hF4 b hb))
    refine xre hc [_] ⟨rfl, trivial⟩ ⟨?_, hE7.trans hu8 (fun b hb => .inr (hF7 b hb)), fun b hb => ?_⟩
    · have e2 : filledN l = l ++ [128] ++ List.replicate (padN l.length) 0 ++ layN (l.length / 2 ^ 61) ++ layN (l.length * 2 ^ 3 % 18446744073709551616) := rfl
      rw [e2]
      have e3 : (l ++ [128] ++ List.replicate (padN l.length) 0 ++ layN (l.length / 2 ^ 61) ++ layN (l.length * 2 ^ 3 % 18446744073709551616)).length = (l ++ [128] ++ List.replicate (padN l.length) 0 ++ layN (l.length / 2 ^ 61)).length + 8 := by
        rw [List.length_append (bs := layN (l.length * 2 ^ 3 % 18446744073709551616))]; simp [layN]
      rw [e3]
      exact hO8
    · rcases hf8 b hb with h | h
      · exact hF7 b h
      · have := hE7.size; omega
end
end Go.Sp

namespace Go.Sp
section
variable {P : Program} {f : Nat} {w : World}
def chunkV (b : Nat) (k : Nat) : Value := .slice (some ⟨b, 128 * k, none⟩) 128 128
theorem chunk1_ok (h : Has P f b_slices_Chunk_byte_byte_1) {bs bn b K len cap : Nat} (hB : Blk w bs [.slice (some ⟨b, 0, none⟩) len cap]) (hN : Blk w bn [intV' 128]) (hlen : len = 128 * K) (hcap : len ≤ cap) (hK : len < 2 ^ 40) :
    SeqOK P f [ptrV' bs, ptrV' bn] w [bs, bn] [] (fun k => [chunkV b k]) (List.range K) := by
  refine SeqOK.of_ret fun S y n0 ws loc J Jx s0 hJ hJx h0 hn0 hl0 hwr hrd hrounds => ?_
  refine Ret.of_exec h (Nat.le_of_ble_eq_true rfl) fun c hc => ?_
  dsimp only [b_slices_Chunk_byte_byte_1, argEnv]
  repeat (first | refine xau rfl rfl rfl ?_ | refine xgr rfl ?_ | refine xgs rfl rfl ?_ | refine xg0 rfl ?_ | refine xct rfl ?_ | refine xcf rfl ?_ | refine xbk ?_ | refine xsq ?_ | refine xbl ?_ | refine xex rfl ?_)
  refine xlo (S := Nat × S) (fun s W => s.1 ≤ K ∧ J s.1 s.2 W ∧ Blk W bs [.slice (some ⟨b, 0, none⟩) len cap] ∧ Blk W bn [intV' 128] ∧ bs ∉ ws ++ loc s.2 ∧ bn ∉ ws ++ loc s.2 ∧ (∀ b ∈ ws ++ loc s.2, b < W.heap.size))
    (fun s => [(0, .func (.yield y) #[] #[]), (1, ptrV' bs), (2, ptrV' bn), (4, intV' (128 * s.1))]) (fun s => K - s.1) (0, s0)
    ⟨Nat.zero_le _, h0, hB, hN, by simp [hrd bs], by simp [hrd bn], hl0⟩ ⟨rfl, rfl, rfl, rfl, trivial⟩ ?_
  rintro ⟨i, s⟩ W ⟨hi, hJi, hBi, hNi, hbs, hbn, hlw⟩
  simp only at hi hJi hbs hbn hlw
  repeat (first | refine xau rfl rfl rfl ?_ | refine xgr rfl ?_ | refine xgs rfl rfl ?_ | refine xg0 rfl ?_ | refine xct rfl ?_ | refine xcf rfl ?_ | refine xbk ?_ | refine xsq ?_ | refine xbl ?_ | refine xex rfl ?_)
  refine exec_load1 (b := bs) (o := 0) rfl rfl (hBi.cell rfl) ?_
  repeat (first | refine xau rfl rfl rfl ?_ | refine xgr rfl ?_ | refine xgs rfl rfl ?_ | refine xg0 rfl ?_ | refine xct rfl ?_ | refine xcf rfl ?_ | refine xbk ?_ | refine xsq ?_ | refine xbl ?_ | refine xex rfl ?_)
  refine exec_cond rfl (fun h1 => ?_) (fun h1 => ?_)
  · simp only [decide_eq_true_eq] at h1
    have hik : i < K := by omega
    repeat (first | refine xau rfl rfl rfl ?_ | refine xgr rfl ?_ | refine xgs rfl rfl ?_ | refine xg0 rfl ?_ | refine xct rfl ?_ | refine xcf rfl ?_ | refine xbk ?_ | refine xsq ?_ | refine xbl ?_ | refine xex rfl ?_)
    refine exec_dw [] rfl rfl rfl ?_
    repeat (first | refine dau rfl (fun _ => rfl) ?_ | refine dga rfl (fun _ => rfl) (fun _ => rfl) ?_ | refine dgs (fun _ => rfl) ?_)
    refine dw_keep (intV' 128) (fun vs W' hu _ => ok_load1 (b := bn) (o := 0) rfl ((hNi.upd hu (by simp)).cell rfl)) ?_
    refine dw_keep (.slice (some ⟨b, 0, none⟩) len cap) (fun vs W' hu _ => ok_load1 (b := bs) (o := 0) rfl ((hBi.upd hu (by simp)).cell rfl)) ?_
    repeat (first | refine dau rfl (fun _ => rfl) ?_ | refine dga rfl (fun _ => rfl) (fun _ => rfl) ?_ | refine dgs (fun _ => rfl) ?_)
    refine dw_keep _ (fun vs W' hu _ => ok_slS (b := b) (o := 0) (len := len) (cap := cap) (128 * i) len rfl ⟨.i64, rfl⟩ rfl (by omega) hcap) ?_
    repeat (first | refine dau rfl (fun _ => rfl) ?_ | refine dga rfl (fun _ => rfl) (fun _ => rfl) ?_ | refine dgs (fun _ => rfl) ?_)
    refine dw_end fun vs W1 hu1 _ => ?_
    refine xju (ok_min2 rfl rfl) rfl ?_
    have e1 : (if ((len - 128 * i : Nat) : Int) < ((128 : Nat) : Int) then ((len - 128 * i : Nat) : Int) else ((128 : Nat) : Int)) = 128 := by
      split <;> omega
    rw [e1]
    repeat (first | refine xau rfl rfl rfl ?_ | refine xgr rfl ?_ | refine xgs rfl rfl ?_ | refine xg0 rfl ?_ | refine xct rfl ?_ | refine xcf rfl ?_ | refine xbk ?_ | refine xsq ?_ | refine xbl ?_ | refine xex rfl ?_)
    have hB1 := hBi.upd hu1 (by simp)
    refine exec_load1 (b := bs) (o := 0) rfl rfl (hB1.cell rfl) ?_
    repeat (first | refine xau rfl rfl rfl ?_ | refine xgr rfl ?_ | refine xgs rfl rfl ?_ | refine xg0 rfl ?_ | refine xct rfl ?_ | refine xcf rfl ?_ | refine xbk ?_ | refine xsq ?_ | refine xbl ?_ | refine xex rfl ?_)
    refine xpu (pv_addI (a := 128 * i) (b := 128) rfl rfl (by omega)) rfl ?_
    repeat (first | refine xau rfl rfl rfl ?_ | refine xgr rfl ?_ | refine xgs rfl rfl ?_ | refine xg0 rfl ?_ | refine xct rfl ?_ | refine xcf rfl ?_ | refine xbk ?_ | refine xsq ?_ | refine xbl ?_ | refine xex rfl ?_)
    refine xpu (pv_addI (a := 128 * i) (b := 128) rfl rfl (by omega)) rfl ?_
    refine xju (ok_slS3 (N := 1) (128 * i) (128 * i + 128) (128 * i + 128) rfl rfl rfl rfl (by omega) (Nat.le_refl _) (by omega)) rfl ?_
    have e2 : (Value.slice (some (if 128 * i + 128 = 128 * i then ⟨b, 0, none⟩ else ⟨b, 0 + 128 * i * 1, none⟩)) (128 * i + 128 - 128 * i) (128 * i + 128 - 128 * i)) = chunkV b i := by
      rw [if_neg (by omega), show 128 * i + 128 - 128 * i = 128 by omega, show 0 + 128 * i * 1 = 128 * i by omega]; rfl
    rw [e2]
    have hx : (List.range K)[i]? = some i := by simp [hik]
    have hJ1 := hJ i s _ _ [] hJi hu1 (by simp)
    have z1 := hu1.size
    refine exec_yield (l := y) (vs := [chunkV b i]) rfl rfl rfl (hrounds i s W1 i hJ1 hx (fun b' hb' => by have := hlw b' hb'; omega)) ?_
    rintro go W2 ⟨s1, hgo, hu2, hfr, hlt⟩
    have z2 := hu2.size
    have hB2 := hB1.upd hu2 hbs
    have hN2 := (hNi.upd hu1 (by simp)).upd hu2 hbn
    cases go with
    | false =>
      repeat (first | refine xau rfl rfl rfl ?_ | refine xgr rfl ?_ | refine xgs rfl rfl ?_ | refine xg0 rfl ?_ | refine xct rfl ?_ | refine xcf rfl ?_ | refine xbk ?_ | refine xsq ?_ | refine xbl ?_ | refine xex rfl ?_)
      exact xre hc [] trivial (.inr ⟨s1, hgo⟩)
    | true =>
      simp only [if_true] at hgo
      repeat (first | refine xau rfl rfl rfl ?_ | refine xgr rfl ?_ | refine xgs rfl rfl ?_ | refine xg0 rfl ?_ | refine xct rfl ?_ | refine xcf rfl ?_ | refine xbk ?_ | refine xsq ?_ | refine xbl ?_ | refine xex rfl ?_)
      refine exec_load1 (b := bn) (o := 0) rfl rfl (hN2.cell rfl) ?_
      refine xpu (pv_addI (a := 128 * i) (b := 128) rfl rfl (by omega)) rfl ?_
      repeat (first | refine xau rfl rfl rfl ?_ | refine xgr rfl ?_ | refine xgs rfl rfl ?_ | refine xg0 rfl ?_ | refine xct rfl ?_ | refine xcf rfl ?_ | refine xbk ?_ | refine xsq ?_ | refine xbl ?_ | refine xex rfl ?_)
      have stay : ∀ x, x ∉ ws ++ loc s → x < W1.heap.size → x ∉ ws ++ loc s1 := by
        intro x hx hl
        simp only [List.mem_append, not_or] at hx ⊢
        refine ⟨hx.1, fun hm => ?_⟩
        rcases hfr _ hm with h4 | h4
        · exact hx.2 h4
        · omega
      refine xag (i + 1, s1) ⟨hik, hgo, hB2, hN2, stay _ hbs hB1.lt, stay _ hbn (by have := hNi.lt; omega), fun b' hb' => ?_⟩ (by show K - (i + 1) < K - i; omega) ⟨rfl, rfl, rfl, rfl, trivial⟩
      rcases List.mem_append.1 hb' with h2 | h2
      · have := hlw b' (List.mem_append_left _ h2); omega
      · exact hlt b' h2
  · simp only [decide_eq_false_iff_not] at h1
    have : i = K := by omega
    subst this
    repeat (first | refine xau rfl rfl rfl ?_ | refine xgr rfl ?_ | refine xgs rfl rfl ?_ | refine xg0 rfl ?_ | refine xct rfl ?_ | refine xcf rfl ?_ | refine xbk ?_ | refine xsq ?_ | refine xbl ?_ | refine xex rfl ?_)
    exact exec_end hc [] trivial (.inl ⟨s, by simpa using hJi⟩)
theorem chunk_ok {g T1 T2 T3 : Nat} (h : Has P f (b_slices_Chunk_byte_byte g T1 T2 T3)) (v : Value) (hv : v.cells.toList = [v]) : Ret P f [v, intV' 128] w fun v' w' => ∃ bs bn, v' = .func (.func g) #[] #[ptrV' bs, ptrV' bn] ∧ Blk w' bs [v] ∧ Blk w' bn [intV' 128] ∧ w.heap.size ≤ bs ∧ w.heap.size ≤ bn ∧ Ext w w' := by
  refine Ret.of_exec h (Nat.le_of_ble_eq_true rfl) fun c hc => ?_
  dsimp only [b_slices_Chunk_byte_byte, argEnv]
  refine exec_box rfl rfl ?_
  intro bs w1 hb1 hs1 hu1 hB1
  rw [hv] at hB1
  refine exec_box rfl rfl ?_
  intro bn w2 hb2 hs2 hu2 hB2
  repeat (first | refine xau rfl rfl rfl ?_ | refine xgr rfl ?_ | refine xgs rfl rfl ?_ | refine xg0 rfl ?_ | refine xct rfl ?_ | refine xcf rfl ?_ | refine xbk ?_ | refine xsq ?_ | refine xbl ?_ | refine xex rfl ?_)
  refine exec_load1 (b := bn) (o := 0) rfl rfl (hB2.cell rfl) ?_
  repeat (first | refine xau rfl rfl rfl ?_ | refine xgr rfl ?_ | refine xgs rfl rfl ?_ | refine xg0 rfl ?_ | refine xct rfl ?_ | refine xcf rfl ?_ | refine xbk ?_ | refine xsq ?_ | refine xbl ?_ | refine xex rfl ?_)
  exact xre hc [_] ⟨rfl, trivial⟩ ⟨bs, bn, rfl, hB1.upd hu2, hB2, by omega, by omega, hu1.trans hu2⟩
theorem nextW_lt (l : List Nat) : nextW l < 18446744073709551616 := Nat.mod_lt _ (by decide)
theorem rleL_one (n : Nat) (v : Value) : rleL [(n, v)] = List.replicate n v := by simp [rleL]
theorem pv_addW {e : Env} {x y : Operand} {a b : Nat} (hx : e.ev x = some (u64V a)) (hy : e.ev y = some (u64V b)) : pureV e (.ibin .add x y) = some (u64V ((a + b) % 18446744073709551616)) := by
  simp only [pureV, hx, hy, binV, decide_true, intV]
  rw [wrap_u64]
  exact congrArg (fun z => some (Value.int .u64 z)) (by omega)
theorem splice_at {xs zs : List Value} {z v : Value} {i : Nat} (h : xs.length = i) : splice (xs ++ z :: zs) i [v] = xs ++ v :: zs := by
  subst h
  simp [splice]
theorem growW_len (k : Nat) : ∀ w, (growW k w).length = w.length + k := by
  induction k with
  | zero => intro w; rfl
  | succ k ih => intro w; simp only [growW, ih]; simp; omega
theorem spread_ok {g1 g2 g3 T : Nat} (h1 : Has P g1 b_sha512_word) (h2 : Has P g2 (b_sha512_right g3)) (h3 : Has P g3 b_math_bits_RotateLeft64) (h : Has P f (b_sha512_spread g1 g2 T)) {b o cap len : Nat} {l : List Nat}
    (hm : Mem w b o (l.map u8N)) (hl : l.length = 128) (hlen : len = 128) (hcap : len ≤ cap) (hb : ∀ x ∈ l, x < 256) :
    RetV P f [.slice (some ⟨b, o, none⟩) len cap] w (.agg ((spreadN l).map u64V).toArray) := by
  subst hlen
  refine Ret.of_exec h (Nat.le_of_ble_eq_true rfl) fun c hc => ?_
  dsimp only [b_sha512_spread, argEnv]
  refine exec_new rfl ?_
  intro b2 w1 hb2 hs1 hu1 hB2
  refine exec_new rfl ?_
  intro b3 w2 hb3 hs2 hu2 hB3
  rw [rle_toList, rleL_one] at hB2 hB3
  have h16 : (words16 l).length = 16 := by simp [words16]
  repeat (first | refine xau rfl rfl rfl ?_ | refine xgr rfl ?_ | refine xgs rfl rfl ?_ | refine xg0 rfl ?_ | refine xct rfl ?_ | refine xcf rfl ?_ | refine xbk ?_ | refine xsq ?_ | refine xbl ?_ | refine xex rfl ?_)
  refine xlo (S := Nat) (fun i W => i ≤ 16 ∧ Ext w W ∧ Blk W b2 (List.replicate 80 (u64V 0)) ∧ Blk W b3 (((words16 l).take i).map u64V ++ List.replicate (80 - i) (u64V 0)))
    (fun i => [(0, .slice (some ⟨b, o, none⟩) 128 cap), (2, ptrV' b2), (3, ptrV' b3), (10, intV' i)]) (fun i => 16 - i) 0
    ⟨by omega, hu1.trans hu2, hB2.upd hu2, hB3⟩ ⟨rfl, rfl, rfl, rfl, trivial⟩ ?_
  rintro i W ⟨hi, hE, hA2, hA3⟩
  repeat (first | refine xau rfl rfl rfl ?_ | refine xgr rfl ?_ | refine xgs rfl rfl ?_ | refine xg0 rfl ?_ | refine xct rfl ?_ | refine xcf rfl ?_ | refine xbk ?_ | refine xsq ?_ | refine xbl ?_ | refine xex rfl ?_)
  refine exec_cond rfl (fun h5 => ?_) (fun h5 => ?_)
  · simp only [decide_eq_true_eq] at h5
    have hi16 : i < 16 := by omega
    repeat (first | refine xau rfl rfl rfl ?_ | refine xgr rfl ?_ | refine xgs rfl rfl ?_ | refine xg0 rfl ?_ | refine xct rfl ?_ | refine xcf rfl ?_ | refine xbk ?_ | refine xsq ?_ | refine xbl ?_ | refine xex rfl ?_)
    refine xpu (v := intV' (8 * i)) ?_ rfl ?_
    · show some (Value.int .i64 (IntKind.i64.wrap _)) = _
      rw [wrap_i64 (by omega) (by omega)]
      exact congrArg (fun z => some (Value.int .i64 z)) (by omega)
    refine xju (ok_slS (8 * i) 128 rfl ⟨.i64, rfl⟩ rfl (by omega) hcap) rfl ?_
    rw [if_neg (by omega)]
    have hS : SlC W (.slice (some ⟨b, o + 8 * i * 1, none⟩) (128 - 8 * i) (cap - 8 * i)) 1 (128 - 8 * i) ((l.drop (8 * i)).map u8N) := by
      refine .inr ⟨b, o + 8 * i * 1, cap - 8 * i, rfl, ?_, by simp; omega, by omega⟩
      have := (hm.upd hE).at (8 * i) 128
      rw [Nat.mul_one, List.map_drop]
      rw [List.take_of_length_le (by simp; omega)] at this
      exact this
    refine xca rfl rfl (word_ok h1 hS (by simp; omega) (by simp; omega) (fun x hx => hb x (List.mem_of_mem_drop hx))) ?_
    rintro v w5 ⟨rfl, hu5⟩
    refine xju (ok_iaddrA rfl rfl i rfl (by omega)) rfl ?_
    have hA3' := hA3.upd hu5
    rw [show 80 - i = (80 - (i + 1)) + 1 by omega, List.replicate_succ] at hA3'
    refine exec_store (b := b3) (o := 0 + i * 1) (v := u64V (wordN ((l.drop (8 * i)).take 8))) rfl rfl hA3' rfl (by simp; omega) rfl ?_
    intro w6 hu6 hs6 hA6
    repeat (first | refine xau rfl rfl rfl ?_ | refine xgr rfl ?_ | refine xgs rfl rfl ?_ | refine xg0 rfl ?_ | refine xct rfl ?_ | refine xcf rfl ?_ | refine xbk ?_ | refine xsq ?_ | refine xbl ?_ | refine xex rfl ?_)
    refine xpu (pv_addI (a := i) (b := 1) rfl rfl (by omega)) rfl ?_
    repeat (first | refine xau rfl rfl rfl ?_ | refine xgr rfl ?_ | refine xgs rfl rfl ?_ | refine xg0 rfl ?_ | refine xct rfl ?_ | refine xcf rfl ?_ | refine xbk ?_ | refine xsq ?_ | refine xbl ?_ | refine xex rfl ?_)
    have hz1 : b2 ≠ b3 := by omega
    refine xag (i + 1) ⟨by omega, (hE.trans hu5).trans hu6 (fun b hb => .inr (by simp at hb; omega)), (hA2.upd hu5).upd hu6 (by simp; exact hz1), ?_⟩ (by omega) ⟨rfl, rfl, rfl, rfl, trivial⟩
    have e1 : (words16 l).take (i + 1) = (words16 l).take i ++ [wordN ((l.drop (8 * i)).take 8)] := by
      rw [List.take_add_one]; simp [words16, hi16]
    rw [e1, List.map_append, List.append_assoc]
    have e2 := splice_at (xs := ((words16 l).take i).map u64V) (zs := List.replicate (80 - (i + 1)) (u64V 0)) (z := u64V 0) (v := u64V (wordN ((l.drop (8 * i)).take 8))) (i := 0 + i * 1) (by simp; omega)
    have e3 : (u64V (wordN ((l.drop (8 * i)).take 8))).cells.toList = [u64V (wordN ((l.drop (8 * i)).take 8))] := rfl
    rw [e3, e2] at hA6
    exact hA6
  · simp only [decide_eq_false_iff_not] at h5
    have : i = 16 := by omega
    subst this
    repeat (first | refine xau rfl rfl rfl ?_ | refine xgr rfl ?_ | refine xgs rfl rfl ?_ | refine xg0 rfl ?_ | refine xct rfl ?_ | refine xcf rfl ?_ | refine xbk ?_ | refine xsq ?_ | refine xbl ?_ | refine xex rfl ?_)
    rw [List.take_of_length_le (by omega)] at hA3
    have hlt16 : ∀ x ∈ words16 l, x < 18446744073709551616 := by
      intro x hx
      simp only [words16, List.mem_map] at hx
      obtain ⟨t, _, rfl⟩ := hx
      exact wordN_lt _ (fun y hy => hb y (List.mem_of_mem_drop (List.mem_of_mem_take hy)))
    refine xlo (S := Nat × List Nat) (fun s W => s.1 ≤ 80 ∧ 16 ≤ s.1 ∧ s.2.length = s.1 ∧ growW (80 - s.1) s.2 = spreadN l ∧ (∀ x ∈ s.2, x < 18446744073709551616) ∧ Ext w W ∧ Blk W b2 (List.replicate 80 (u64V 0)) ∧ Blk W b3 (s.2.map u64V ++ List.replicate (80 - s.1) (u64V 0)))
      (fun s => [(2, ptrV' b2), (3, ptrV' b3), (5, intV' s.1)]) (fun s => 80 - s.1) (16, words16 l)
      ⟨by show 16 ≤ 80; omega, Nat.le_refl _, h16, rfl, hlt16, hE, hA2, hA3⟩ ⟨rfl, rfl, rfl, trivial⟩ ?_
    rintro ⟨t, cur⟩ W2 ⟨ht80, ht16, hcl, hgr, hcl64, hE2, hC2, hC3⟩
    simp only at ht80 ht16 hcl hgr hcl64 hC3
    repeat (first | refine xau rfl rfl rfl ?_ | refine xgr rfl ?_ | refine xgs rfl rfl ?_ | refine xg0 rfl ?_ | refine xct rfl ?_ | refine xcf rfl ?_ | refine xbk ?_ | refine xsq ?_ | refine xbl ?_ | refine xex rfl ?_)
    refine exec_cond rfl (fun h6 => ?_) (fun h6 => ?_)
    · simp only [decide_eq_true_eq] at h6
      have htl : t < 80 := by omega
      have hget : ∀ j, j < t → (cur.map u64V ++ List.replicate (80 - t) (u64V 0))[0 + j * 1]? = some (u64V (cur.getD j 0)) := by
        intro j hj
        rw [Nat.zero_add, Nat.mul_one, List.getElem?_append_left (by simp; omega)]
        simp [List.getElem?_map, List.getD_eq_getElem?_getD, List.getElem?_eq_getElem (show j < cur.length by omega)]
      have hg64 : ∀ j, cur.getD j 0 < 18446744073709551616 := by
        intro j
        rw [List.getD_eq_getElem?_getD]
        cases hx : cur[j]? with
        | none => simp
        | some x => exact hcl64 x (List.mem_of_getElem? hx)
      have hld : ∀ (W' : World) (j : Nat), Upd [] W2 W' → j < t → W'.cell? ⟨b3, 0 + j * 1, none⟩ = some (u64V (cur.getD j 0)) := fun W' j hu hj => (hC3.upd hu).cell (hget j hj)
      repeat (first | refine xau rfl rfl rfl ?_ | refine xgr rfl ?_ | refine xgs rfl rfl ?_ | refine xg0 rfl ?_ | refine xct rfl ?_ | refine xcf rfl ?_ | refine xbk ?_ | refine xsq ?_ | refine xbl ?_ | refine xex rfl ?_)
      refine exec_dw [] rfl rfl rfl ?_
      repeat (first | refine dau rfl (fun _ => rfl) ?_ | refine dga rfl (fun _ => rfl) (fun _ => rfl) ?_ | refine dgs (fun _ => rfl) ?_)
      refine dw_val (v := intV' (t - 15)) (fun _ => pv_subI (a := t) (b := 15) rfl rfl (by omega) (by omega)) ?_
      refine dw_keep _ (fun vs W' hu _ => ok_iaddrA (b := b3) (o := 0) rfl rfl (t - 15) rfl (by omega)) ?_
      refine dw_keep _ (fun vs W' hu _ => ok_load1 rfl (hld W' (t - 15) hu (by omega))) ?_
      repeat (first | refine dau rfl (fun _ => rfl) ?_ | refine dga rfl (fun _ => rfl) (fun _ => rfl) ?_ | refine dgs (fun _ => rfl) ?_)
      refine dw_val (v := intV' (t - 2)) (fun _ => pv_subI (a := t) (b := 2) rfl rfl (by omega) (by omega)) ?_
      refine dw_keep _ (fun vs W' hu _ => ok_iaddrA (b := b3) (o := 0) rfl rfl (t - 2) rfl (by omega)) ?_
      refine dw_keep _ (fun vs W' hu _ => ok_load1 rfl (hld W' (t - 2) hu (by omega))) ?_
      repeat (first | refine dau rfl (fun _ => rfl) ?_ | refine dga rfl (fun _ => rfl) (fun _ => rfl) ?_ | refine dgs (fun _ => rfl) ?_)
      refine dw_end fun vs W3 hu3 _ => ?_
      generalize hx : cur.getD (t - 15) 0 = x
      generalize hy : cur.getD (t - 2) 0 = y
      have hx64 : x < 18446744073709551616 := hx ▸ hg64 _
      have hy64 : y < 18446744073709551616 := hy ▸ hg64 _
      repeat (first | refine xau rfl rfl rfl ?_ | refine xgr rfl ?_ | refine xgs rfl rfl ?_ | refine xg0 rfl ?_ | refine xct rfl ?_ | refine xcf rfl ?_ | refine xbk ?_ | refine xsq ?_ | refine xbl ?_ | refine xex rfl ?_)
      refine xca rfl rfl (right_ok h3 h2 x 1 hx64 (by omega) (by omega)) ?_
      rintro v W4 ⟨rfl, hu4⟩
      repeat (first | refine xau rfl rfl rfl ?_ | refine xgr rfl ?_ | refine xgs rfl rfl ?_ | refine xg0 rfl ?_ | refine xct rfl ?_ | refine xcf rfl ?_ | refine xbk ?_ | refine xsq ?_ | refine xbl ?_ | refine xex rfl ?_)
      refine xca rfl rfl (right_ok h3 h2 x 8 hx64 (by omega) (by omega)) ?_
      rintro v W5 ⟨rfl, hu5⟩
      have r1 := rotr_lt x 1 hx64
      have r8 := rotr_lt x 8 hx64
      have r19 := rotr_lt y 19 hy64
      have r61 := rotr_lt y 61 hy64
      have lx : ∀ {p q : Nat}, p < 18446744073709551616 → q < 18446744073709551616 → p ^^^ q < 18446744073709551616 := fun hp hq => Nat.xor_lt_two_pow (n := 64) hp hq
      refine xpu (pv_xorU (a := rotr x 1) (b := rotr x 8) rfl rfl r1 r8) rfl ?_
      repeat (first | refine xau rfl rfl rfl ?_ | refine xgr rfl ?_ | refine xgs rfl rfl ?_ | refine xg0 rfl ?_ | refine xct rfl ?_ | refine xcf rfl ?_ | refine xbk ?_ | refine xsq ?_ | refine xbl ?_ | refine xex rfl ?_)
      refine xju (ok_shrU (a := x) (j := 7) rfl rfl hx64) rfl ?_
      have x7 : x / 2 ^ 7 < 18446744073709551616 := Nat.lt_of_le_of_lt (Nat.div_le_self _ _) hx64
      have y6 : y / 2 ^ 6 < 18446744073709551616 := Nat.lt_of_le_of_lt (Nat.div_le_self _ _) hy64
      refine xpu (pv_xorU (a := rotr x 1 ^^^ rotr x 8) (b := x / 2 ^ 7) rfl rfl (lx r1 r8) x7) rfl ?_
      repeat (first | refine xau rfl rfl rfl ?_ | refine xgr rfl ?_ | refine xgs rfl rfl ?_ | refine xg0 rfl ?_ | refine xct rfl ?_ | refine xcf rfl ?_ | refine xbk ?_ | refine xsq ?_ | refine xbl ?_ | refine xex rfl ?_)
      refine xca rfl rfl (right_ok h3 h2 y 19 hy64 (by omega) (by omega)) ?_
      rintro v W6 ⟨rfl, hu6⟩
      repeat (first | refine xau rfl rfl rfl ?_ | refine xgr rfl ?_ | refine xgs rfl rfl ?_ | refine xg0 rfl ?_ | refine xct rfl ?_ | refine xcf rfl ?_ | refine xbk ?_ | refine xsq ?_ | refine xbl ?_ | refine xex rfl ?_)
      refine xca rfl rfl (right_ok h3 h2 y 61 hy64 (by omega) (by omega)) ?_
      rintro v W7 ⟨rfl, hu7⟩
      refine xpu (pv_xorU (a := rotr y 19) (b := rotr y 61) rfl rfl r19 r61) rfl ?_
      repeat (first | refine xau rfl rfl rfl ?_ | refine xgr rfl ?_ | refine xgs rfl rfl ?_ | refine xg0 rfl ?_ | refine xct rfl ?_ | refine xcf rfl ?_ | refine xbk ?_ | refine xsq ?_ | refine xbl ?_ | refine xex rfl ?_)
      refine xju (ok_shrU (a := y) (j := 6) rfl rfl hy64) rfl ?_
      refine xpu (pv_xorU (a := rotr y 19 ^^^ rotr y 61) (b := y / 2 ^ 6) rfl rfl (lx r19 r61) y6) rfl ?_
      repeat (first | refine xau rfl rfl rfl ?_ | refine xgr rfl ?_ | refine xgs rfl rfl ?_ | refine xg0 rfl ?_ | refine xct rfl ?_ | refine xcf rfl ?_ | refine xbk ?_ | refine xsq ?_ | refine xbl ?_ | refine xex rfl ?_)
      have hU7 : Upd [] W2 W7 := (((hu3.trans hu4).trans hu5).trans hu6).trans hu7
      refine exec_dw [] rfl rfl rfl ?_
      repeat (first | refine dau rfl (fun _ => rfl) ?_ | refine dga rfl (fun _ => rfl) (fun _ => rfl) ?_ | refine dgs (fun _ => rfl) ?_)
      refine dw_val (v := intV' (t - 7)) (fun _ => pv_subI (a := t) (b := 7) rfl rfl (by omega) (by omega)) ?_
      refine dw_keep _ (fun vs W' hu _ => ok_iaddrA (b := b3) (o := 0) rfl rfl (t - 7) rfl (by omega)) ?_
      refine dw_keep _ (fun vs W' hu _ => ok_load1 rfl (hld W' (t - 7) (hU7.trans hu) (by omega))) ?_
      refine dw_val (v := u64V (((rotr y 19 ^^^ rotr y 61 ^^^ y / 2 ^ 6) + cur.getD (t - 7) 0) % 18446744073709551616)) (fun _ => pv_addW rfl rfl) ?_
      repeat (first | refine dau rfl (fun _ => rfl) ?_ | refine dga rfl (fun _ => rfl) (fun _ => rfl) ?_ | refine dgs (fun _ => rfl) ?_)
      refine dw_val (fun _ => pv_addW rfl rfl) ?_
      repeat (first | refine dau rfl (fun _ => rfl) ?_ | refine dga rfl (fun _ => rfl) (fun _ => rfl) ?_ | refine dgs (fun _ => rfl) ?_)
      refine dw_val (v := intV' (t - 16)) (fun _ => pv_subI (a := t) (b := 16) rfl rfl (by omega) (by omega)) ?_
      refine dw_keep _ (fun vs W' hu _ => ok_iaddrA (b := b3) (o := 0) rfl rfl (t - 16) rfl (by omega)) ?_
      refine dw_keep _ (fun vs W' hu _ => ok_load1 rfl (hld W' (t - 16) (hU7.trans hu) (by omega))) ?_
      refine dw_val (fun _ => pv_addW rfl rfl) ?_
      refine dw_end fun vs W8 hu8 _ => ?_
      have hn : nextW cur = ((((rotr y 19 ^^^ rotr y 61 ^^^ y / 2 ^ 6) + cur.getD (t - 7) 0) % 18446744073709551616 + (rotr x 1 ^^^ rotr x 8 ^^^ x / 2 ^ 7)) % 18446744073709551616 + cur.getD (t - 16) 0) % 18446744073709551616 := by
        rw [← hx, ← hy]; simp only [nextW, hcl]
      rw [← hn]
      refine xju (ok_iaddrA (b := b3) (o := 0) rfl rfl t rfl (by omega)) rfl ?_
      have hC8 := hC3.upd (hU7.trans hu8)
      rw [show 80 - t = (80 - (t + 1)) + 1 by omega, List.replicate_succ] at hC8
      refine exec_store (b := b3) (o := 0 + t * 1) (v := u64V (nextW cur)) rfl rfl hC8 rfl (by simp; omega) rfl ?_
      intro W9 hu9 hs9 hC9
      repeat (first | refine xau rfl rfl rfl ?_ | refine xgr rfl ?_ | refine xgs rfl rfl ?_ | refine xg0 rfl ?_ | refine xct rfl ?_ | refine xcf rfl ?_ | refine xbk ?_ | refine xsq ?_ | refine xbl ?_ | refine xex rfl ?_)
      refine xpu (pv_addI (a := t) (b := 1) rfl rfl (by omega)) rfl ?_
      repeat (first | refine xau rfl rfl rfl ?_ | refine xgr rfl ?_ | refine xgs rfl rfl ?_ | refine xg0 rfl ?_ | refine xct rfl ?_ | refine xcf rfl ?_ | refine xbk ?_ | refine xsq ?_ | refine xbl ?_ | refine xex rfl ?_)
      have hz1 : b2 ≠ b3 := by omega
      refine xag (t + 1, cur ++ [nextW cur]) ⟨htl, by omega, by simp [hcl], ?_, ?_, (hE2.trans (hU7.trans hu8)).trans hu9 (fun b hb => .inr (by simp at hb; omega)), (hC2.upd (hU7.trans hu8)).upd hu9 (by simp; exact hz1), ?_⟩ (by show 80 - (t + 1) < 80 - t; omega) ⟨rfl, rfl, rfl, trivial⟩
      · rw [← hgr, show 80 - t = (80 - (t + 1)) + 1 by omega]; rfl
      · intro z hz
        rcases List.mem_append.1 hz with h | h
        · exact hcl64 z h
        · simp at h; subst h; exact nextW_lt cur
      · have e2 := splice_at (xs := cur.map u64V) (zs := List.replicate (80 - (t + 1)) (u64V 0)) (z := u64V 0) (v := u64V (nextW cur)) (i := 0 + t * 1) (by simp [hcl])
        have e3 : (u64V (nextW cur)).cells.toList = [u64V (nextW cur)] := rfl
        rw [e3, e2] at hC9
        show Blk W9 b3 ((cur ++ [nextW cur]).map u64V ++ List.replicate (80 - (t + 1)) (u64V 0))
        rw [List.map_append, List.append_assoc]
        exact hC9
    · simp only [decide_eq_false_iff_not] at h6
      have : t = 80 := by omega
      subst this
      repeat (first | refine xau rfl rfl rfl ?_ | refine xgr rfl ?_ | refine xgs rfl rfl ?_ | refine xg0 rfl ?_ | refine xct rfl ?_ | refine xcf rfl ?_ | refine xbk ?_ | refine xsq ?_ | refine xbl ?_ | refine xex rfl ?_)
      have hcs : cur = spreadN l := hgr
      rw [hcs] at hC3
      simp only [Nat.sub_self, List.replicate_zero, List.append_nil] at hC3
      refine exec_loadN (b := b3) (o := 0) (vs := (spreadN l).map u64V) rfl rfl hC3.memAll (by rw [← hcs]; simp [hcl]) ?_
      refine exec_store (b := b2) (o := 0) (v := .agg ((spreadN l).map u64V).toArray) rfl rfl hC2 (by simp [Value.cells, ← hcs, hcl]) (by simp) ?_ ?_
      · simp only [Value.cells]
        rw [List.all_eq_true]; intro v hv; simp at hv; obtain ⟨b, _, rfl⟩ := hv; rfl
      intro w6 hu6 hs6 hA6
      have e1 : splice (List.replicate 80 (u64V 0)) 0 (Value.agg ((spreadN l).map u64V).toArray).cells.toList = (spreadN l).map u64V := by
        simp [splice, Value.cells, ← hcs, hcl]
      rw [e1] at hA6
      refine xre hc [_] ⟨⟨b2, 0, _, rfl, hA6.memAll, by rw [← hcs]; simp [hcl], rfl⟩, trivial⟩ ⟨rfl, hE2.trans hu6 (fun b hb => .inr (by simp at hb; omega))⟩
end
end Go.Sp

namespace Go.Sp
def DStepsS (P : Program) (Rel Rel0 : World → World → Prop) (wr : Nat) (bef : Nat → Prop) (ds : List DOp) (Rs : Nat → World → (Nat → Value) → Prop) (e : Env) (w : World) : Nat → List DOp → Prop
  | _, [] => True
  | i, (deps, g, _, m) :: r => (∀ (vs : Nat → Value) (W : World), Rel w W → (bef i → Rel0 w W) → (∀ j ∈ deps, Rs j W vs) → DStep P (fun a b => Rel a b ∧ (i ≠ wr → Rel0 a b)) g m (dEnv ds vs deps ++ keepEnv ds i e) W fun W' v => Rs i W' (put vs i v)) ∧ DStepsS P Rel Rel0 wr bef ds Rs e w (i + 1) r
theorem DStepsS.get {P : Program} {Rel Rel0 : World → World → Prop} {wr : Nat} {bef : Nat → Prop} {ds : List DOp} {Rs : Nat → World → (Nat → Value) → Prop} {e : Env} {w : World} : ∀ (l : List DOp) (i : Nat), DStepsS P Rel Rel0 wr bef ds Rs e w i l →
    ∀ (j : Nat) deps g d m, l[j]? = some (deps, g, d, m) → ∀ (vs : Nat → Value) (W : World), Rel w W → (bef (i + j) → Rel0 w W) → (∀ j ∈ deps, Rs j W vs) → DStep P (fun a b => Rel a b ∧ (i + j ≠ wr → Rel0 a b)) g m (dEnv ds vs deps ++ keepEnv ds (i + j) e) W fun W' v => Rs (i + j) W' (put vs (i + j) v) := by
  intro l
  induction l with
  | nil => intro i _ j deps g d m h; simp at h
  | cons x l ih =>
    obtain ⟨deps0, g0, d0, m0⟩ := x
    intro i h j deps g d m hj
    cases j with
    | zero =>
      simp at hj
      obtain ⟨rfl, rfl, rfl, rfl⟩ := hj
      exact h.1
    | succ j =>
      have := ih (i + 1) h.2 j deps g d m (by simpa using hj)
      rw [show i + (j + 1) = i + 1 + j from by omega]
      exact this
section
variable {P : Program} {rd : Option Nat} {ops : Array Oper} {is : List Ins} {Q : Exit → Act → World → Prop}
structure InvS (P : Program) (ops : Array Oper) (n s wr : Nat) (D : List Deferred) (Rel Rel0 : World → World → Prop) (Rs : Nat → World → (Nat → Value) → Prop) (e : Env) (w : World) (vs : Nat → Value) (listed : Array Bool) (a : Act) (W : World) : Prop where
  size : listed.size = ops.size
  low : ∀ j, j < ops.size → listed.getD j true = true → j < s
  closed : ∀ j c g d m, (allD P ops)[j]? = some (c, g, d, m) → listed.getD j true = true → ∀ x ∈ c, listed.getD x true = true
  rel : Rel w W
  rel0 : listed.getD wr true = false → Rel0 w W
  vals : ∀ j c g d m, (allD P ops)[j]? = some (c, g, d, m) → listed.getD j true = true → Rs j W vs ∧ ∀ t, d = some t → a.tmps[t]? = some (vs j)
  keep : ∀ t v, e.get t = some v → (∀ j c g m, (allD P ops)[j]? = some (c, g, some t, m) → j < s → listed.getD j true = false) → a.tmps[t]? = some v
  tm : a.tmps.size = n
  df : a.defers = D
theorem phase1S {n s wr : Nat} {bef : Nat → Prop} {c : Ctx} {D : List Deferred} {k : Kont} {Rel Rel0 : World → World → Prop} {Rs : Nat → World → (Nat → Value) → Prop} {e : Env} {w : World}
    (hdef : ops.any isDefer = false) (hwell : wellDeps 0 (allD P ops) = true) (hb : behindAll s ((allD P ops).drop s) = true) (hs : s ≤ ops.size)
    (hrfl : ∀ a, Rel a a) (htr : ∀ a b c, Rel a b → Rel b c → Rel a c) (h0fl : ∀ a, Rel0 a a) (h0tr : ∀ a b c, Rel0 a b → Rel0 b c → Rel0 a c) (hmo0 : ∀ i W W' vs, i < s → Rel0 W W' → Rs i W vs → Rs i W' vs) (hmo1 : ∀ i W W' vs, i < s → i ≠ wr → Rel w W → Rel W W' → Rs i W vs → Rs i W' vs)
    (hbef : ∀ i, bef i → i = wr ∨ ∃ c g d m, (allD P ops)[wr]? = some (c, g, d, m) ∧ i ∈ c)
    (hloc : ∀ i c g d m j W vs v, ((allD P ops).take s)[i]? = some (c, g, d, m) → j ∉ c → j ≠ i → Rs i W vs → Rs i W (put vs j v))
    (hdst : ∀ t ∈ dsts ((allD P ops).take s), t < n) (hnd : nodupB (dsts ((allD P ops).take s)) = true)
    (hst : DStepsS P Rel Rel0 wr bef ((allD P ops).take s) Rs e w 0 ((allD P ops).take s))
    (next : ∀ vs W, Rel w W → (∀ i, i < s → Rs i W vs) → Exec P n c D (tailIns ((allD P ops).drop s) ++ is) k (outEnv vs 0 ((allD P ops).take s) ++ e) W) :
    ∀ (fuel : Nat) (listed : Array Bool) (vs : Nat → Value) (a : Act) (W : World), left listed ≤ fuel → InvS P ops n s wr D Rel Rel0 Rs e w vs listed a W →
      wpAnyIn (FW c.rd) 0 P .any ops (Exit.then (denL P c.rd is (k.sem P c)) (k.sem P c)) fuel listed a W := by
  have hget : ∀ j, j < s → (allD P ops)[j]? = ((allD P ops).take s)[j]? := fun j hj => by rw [List.getElem?_take]; simp [hj]
  intro fuel
  induction fuel with
  | zero =>
    intro listed vs a W hf hI
    have hall : ∀ j, j < ops.size → listed.getD j true = true := by
      intro j hj
      cases h : listed.getD j true with
      | true => rfl
      | false => have := left_pos h; omega
    have hsn : s = ops.size := by
      rcases Nat.lt_or_ge s ops.size with h | h
      · have := hI.low s h (hall s h); omega
      · omega
    have he : Env.ok (outEnv vs 0 ((allD P ops).take s) ++ e) a.tmps := by
      intro t v hg
      rw [append_get] at hg
      cases ho : (outEnv vs 0 ((allD P ops).take s)).get t with
      | some u =>
        rw [ho] at hg; simp at hg; subst hg
        obtain ⟨j, c', g, m, h1, h2⟩ := outEnv_get _ _ _ _ ho
        have hj : j < s := by
          have := (List.getElem?_eq_some_iff.1 h1).1
          simp at this; omega
        rw [← hget j hj] at h1
        have := (hI.vals j _ _ _ _ h1 (hall j (by omega))).2 t rfl
        rw [this, h2]; simp
      | none =>
        rw [ho] at hg; simp at hg
        refine hI.keep t v hg fun j c' g m hj hlt => ?_
        rw [hget j hlt] at hj
        exact absurd rfl (outEnv_none _ _ _ ho j _ _ _ _ hj)
    have hx := (next vs W hI.rel (fun i hi => by
      obtain ⟨c', g, d, m, hC⟩ := allD_some (P := P) (ops := ops) (fun _ _ => trivial) i (by omega)
      exact (hI.vals i _ _ _ _ hC (hall i (by omega))).1)).run a hI.tm he hI.df
    exact phase2 hdef hwell s hb (ops.size - s) s 0 listed a W (by omega) (Nat.le_refl _) (by omega)
      (fun j hj => ⟨fun _ => by omega, fun _ => hall j hj⟩) hI.size hx
  | succ fuel ih =>
    intro listed vs a W hf hI
    by_cases hfree : ∃ j, j < s ∧ listed.getD j true = false
    · -- some free operation is still to run
      obtain ⟨j0, hj0, hl0⟩ := hfree
      obtain ⟨j1, hj1, hp1, hmin⟩ := minOf (p := fun j => !listed.getD j true) (j := j0) (by simp [hl0])
      simp only [Bool.not_eq_true', Bool.not_eq_false'] at hp1 hmin
      have hr1 : j1 ∈ Region.ready .any ops listed := by
        obtain ⟨c', g, d, m, hC⟩ := allD_some (P := P) (ops := ops) (fun _ _ => trivial) j1 (by omega)
        obtain ⟨o, ho, _, _, _, hdir, _⟩ := allD_get hC
        refine ready_mem.2 ⟨o, ho, hp1, fun x hx hbn => ?_⟩
        have hlt : x.on < j1 := by simpa using wellDeps_get _ 0 hwell j1 _ _ _ _ hC x.on (hdir x hx hbn)
        rw [getD_true (by rw [hI.size]; omega)]
        exact hmin _ hlt
      refine ⟨fun hr => by rw [hr] at hr1; simp at hr1, fun j hj => ?_⟩
      obtain ⟨o, ho, hlj, haft⟩ := ready_mem.1 hj
      have hjn : j < ops.size := (Array.getElem?_eq_some_iff.1 ho).1
      obtain ⟨cj, g, d, m, hC⟩ := allD_some (P := P) (ops := ops) (fun _ _ => trivial) j hjn
      obtain ⟨o', ho', rfl, rfl, rfl, hdir, hclo⟩ := allD_get hC
      rw [ho] at ho'; cases ho'
      have hcl : ∀ x ∈ cj, listed.getD x true = true := by
        intro x hx
        obtain ⟨ev, he, hbn, hx⟩ := hclo x hx
        have hlt : ev.on < j := by simpa using wellDeps_get _ 0 hwell j _ _ _ _ hC ev.on (hdir ev he hbn)
        have hon : listed.getD ev.on true = true := by
          rw [← getD_true (by rw [hI.size]; omega) false]; exact haft ev he hbn
        rcases hx with rfl | ⟨c2, g2, d2, m2, hC2, hx⟩
        · exact hon
        · exact hI.closed _ _ _ _ _ hC2 hon x hx
      have hjs : j < s := by
        rcases Nat.lt_or_ge j s with h | h
        · exact h
        · exfalso
          have hin : j0 ∈ cj := behindAll_get _ s hb (j - s) cj _ _ _ (by rw [List.getElem?_drop]; rw [show s + (j - s) = j from by omega]; exact hC) j0 (by omega)
          have := hcl j0 hin
          rw [hl0] at this; cases this
      have hCt : ((allD P ops).take s)[j]? = some (cj, convG ops o, o.dst, convO P o) := by rw [← hget j hjs]; exact hC
      have hbj : bef j → Rel0 w W := by
        intro hbf
        rcases hbef j hbf with rfl | ⟨c', g', d', m', hCw, hin⟩
        · exact hI.rel0 hlj
        · refine hI.rel0 ?_
          cases hlw : listed.getD wr true with
          | false => rfl
          | true =>
            have := hI.closed wr _ _ _ _ hCw hlw j hin
            rw [hlj] at this; cases this
      have hstep := hst.get _ 0 j _ _ _ _ hCt vs W hI.rel (by rw [Nat.zero_add]; exact hbj) (fun x hx => by
        have hxj : x < j := by simpa using wellDeps_get _ 0 hwell j _ _ _ _ hC x hx
        obtain ⟨c', g', d', m', hC'⟩ := allD_some (P := P) (ops := ops) (fun _ _ => trivial) x (by omega)
        exact (hI.vals x _ _ _ _ hC' (hcl x hx)).1)
      simp only [Nat.zero_add] at hstep
      have henv : Env.ok (dEnv ((allD P ops).take s) vs cj ++ keepEnv ((allD P ops).take s) j e) a.tmps := by
        intro t v hg
        rw [append_get] at hg
        cases hd : (dEnv ((allD P ops).take s) vs cj).get t with
        | some u =>
          rw [hd] at hg; simp at hg; subst hg
          obtain ⟨x, hx, rfl, c', g', m', hC'⟩ := dEnv_get _ _ _ hd
          have hxs : x < s := by
            have := (List.getElem?_eq_some_iff.1 hC').1
            simp at this; omega
          rw [← hget x hxs] at hC'
          exact (hI.vals x _ _ _ _ hC' (hcl x hx)).2 t rfl
        | none =>
          rw [hd] at hg; simp at hg
          obtain ⟨hsty, u, hu, _⟩ := keepEnv_get e t v hg
          rw [keepEnv_eq e t hsty] at hg
          refine hI.keep t v hg fun x c' g' m' hC' hxs => ?_
          cases hlx : listed.getD x true with
          | false => rfl
          | true =>
            rw [hget x hxs] at hC'
            have := stays_get _ hsty x _ _ _ hC'
            rw [← hget x hxs] at hC'
            have := hI.closed x _ _ _ _ hC' hlx j this
            rw [hlj] at this; cases this
      -- behind the operation
      have hnext : ∀ v W', (Rel W W' ∧ (j ≠ wr → Rel0 W W')) → Rs j W' (put vs j v) → wpAnyIn (FW c.rd) 0 P .any ops (Exit.then (denL P c.rd is (k.sem P c)) (k.sem P c)) fuel (listed.setIfInBounds j true) (a.put o.dst v) W' := by
        rintro v W' ⟨hrel, hrel0⟩ hR
        refine ih _ (put vs j v) _ _ (by have := left_set hlj; omega) ?_
        refine ⟨by simp [hI.size], ?_, ?_, htr _ _ _ hI.rel hrel, ?_, ?_, ?_, ?_, ?_⟩
        · intro x hx hl
          rw [getD_set (by rw [hI.size]; exact hx)] at hl
          split at hl
          · omega
          · exact hI.low x hx hl
        · intro x c' g' d' m' hC' hl y hy
          have hxn : x < ops.size := by
            have := (List.getElem?_eq_some_iff.1 hC').1
            rwa [allD_length] at this
          have hyx : y < x := by simpa using wellDeps_get _ 0 hwell x _ _ _ _ hC' y hy
          rw [getD_set (by rw [hI.size]; omega)] at hl ⊢
          split
          · rfl
          · split at hl
            · rename_i hxj; subst hxj
              rw [hC] at hC'; cases hC'
              exact hcl y hy
            · exact hI.closed x _ _ _ _ hC' hl y hy
        · intro hl
          by_cases hwn : wr < ops.size
          · rw [getD_set (by rw [hI.size]; exact hwn)] at hl
            split at hl
            · cases hl
            · rename_i hne
              exact h0tr _ _ _ (hI.rel0 hl) (hrel0 fun h => hne h.symm)
          · rw [Array.getD_eq_getD_getElem?, Array.getElem?_eq_none (by simp [hI.size]; omega)] at hl
            cases hl
        · intro x c' g' d' m' hC' hl
          have hxn : x < ops.size := by
            have := (List.getElem?_eq_some_iff.1 hC').1
            rwa [allD_length] at this
          rw [getD_set (by rw [hI.size]; omega)] at hl
          by_cases hxj : x = j
          · subst hxj
            rw [hC] at hC'; cases hC'
            refine ⟨hR, fun t ht => ?_⟩
            have htn : t < n := hdst t (mem_dsts _ x t _ _ _ (by rw [ht] at hCt; exact hCt))
            rw [ht]
            simp [Act.put, hI.tm, htn, put]
          · rw [if_neg hxj] at hl
            obtain ⟨h1, h2⟩ := hI.vals x _ _ _ _ hC' hl
            have hxs := hI.low x hxn hl
            have hjc : j ∉ c' := fun hin => by
              have := hI.closed x _ _ _ _ hC' hl j hin
              rw [hlj] at this; cases this
            refine ⟨hloc x _ _ _ _ j _ _ v (by rw [← hget x hxs]; exact hC') hjc (fun h => hxj h.symm) (by
              by_cases hjw : j = wr
              · exact hmo1 x W W' _ hxs (fun h => hxj (h.trans hjw.symm)) hI.rel hrel h1
              · exact hmo0 x W W' _ hxs (hrel0 hjw) h1), fun t ht => ?_⟩
            have h3 : a.tmps[t]? = some (put vs j v x) := by rw [h2 t ht]; simp [put, hxj]
            subst ht
            cases hod : o.dst with
            | none => simpa [Act.put] using h3
            | some t' =>
              have hne : t' ≠ t := by
                intro h; subst h
                rw [hod] at hCt
                rw [hget x hxs] at hC'
                exact hxj (dsts_uniq _ hnd _ _ _ _ _ _ _ _ _ hC' hCt)
              simp only [Act.put]
              rw [Array.getElem?_setIfInBounds_ne hne]
              exact h3
        · intro t v' hg hno
          have hno' : ∀ x c' g' m', (allD P ops)[x]? = some (c', g', some t, m') → x < s → listed.getD x true = false := by
            intro x c' g' m' hC' hxs
            have := hno x c' g' m' hC' hxs
            rw [getD_set (by rw [hI.size]; omega)] at this
            split at this
            · cases this
            · exact this
          have h3 := hI.keep t v' hg hno'
          cases hod : o.dst with
          | none => simpa [Act.put] using h3
          | some t' =>
            have hne : t' ≠ t := by
              intro h; subst h
              rw [hod] at hC
              have := hno j _ _ _ hC hjs
              rw [getD_set (by rw [hI.size]; omega)] at this
              simp at this
            simp only [Act.put]
            rw [Array.getElem?_setIfInBounds_ne hne]
            exact h3
        · cases hod : o.dst <;> simp [Act.put, hI.tm]
        · cases hod : o.dst <;> simp [Act.put, hI.df]
      refine wpOp_of_step ho (notDefer hdef ho) ?_
      unfold stepOp
      unfold DStep at hstep
      split at hstep
      · rename_i hg
        rw [hg]
        simp only [gOK, if_true]
        exact hstep a henv _ _ _ _ fun v W' h => hnext v W' h.1 h.2
      · exact hstep.elim
      · rename_i x b hg
        rw [hg]
        rcases hstep with ⟨hb', hok⟩ | ⟨hb', hok⟩
        · simp only [gOK, Option.bind_some, henv x _ hb', BEq.rfl, if_true]
          exact hok a henv _ _ _ _ fun v W' h => hnext v W' h.1 h.2
        · have hbb : (!b) == b ↔ False := by cases b <;> simp
          simp only [gOK, Option.bind_some, henv x _ hb', hbb, if_false]
          exact hnext undef W ⟨hrfl W, fun _ => h0fl W⟩ hok
    · -- the tail
      have hall : ∀ j, j < s → listed.getD j true = true := by
        intro j hj
        cases h : listed.getD j true with
        | true => rfl
        | false => exact absurd ⟨j, hj, h⟩ hfree
      have hiff : ∀ j, j < ops.size → (listed.getD j true = true ↔ j < s) := fun j hj => ⟨hI.low j hj, hall j⟩
      have hleft := left_eq hI.size hiff
      have he : Env.ok (outEnv vs 0 ((allD P ops).take s) ++ e) a.tmps := by
        intro t v hg
        rw [append_get] at hg
        cases ho : (outEnv vs 0 ((allD P ops).take s)).get t with
        | some u =>
          rw [ho] at hg; simp at hg; subst hg
          obtain ⟨j, c', g, m, h1, h2⟩ := outEnv_get _ _ _ _ ho
          have hj : j < s := by
            have := (List.getElem?_eq_some_iff.1 h1).1
            simp at this; omega
          rw [← hget j hj] at h1
          have := (hI.vals j _ _ _ _ h1 (hall j hj)).2 t rfl
          rw [this, h2]; simp
        | none =>
          rw [ho] at hg; simp at hg
          refine hI.keep t v hg fun j c' g m hj hlt => ?_
          rw [hget j hlt] at hj
          exact absurd rfl (outEnv_none _ _ _ ho j _ _ _ _ hj)
      have hx := (next vs W hI.rel (fun i hi => by
        obtain ⟨c', g, d, m, hC⟩ := allD_some (P := P) (ops := ops) (fun _ _ => trivial) i (by omega)
        exact (hI.vals i _ _ _ _ hC (hall i hi)).1)).run a hI.tm he hI.df
      exact phase2 hdef hwell s hb (ops.size - s) s (fuel + 1) listed a W (by omega) (Nat.le_refl _) (by omega) hiff hI.size hx
end
section
variable {P : Program} {n : Nat} {c : Ctx} {D : List Deferred} {is : List Ins} {k : Kont} {e : Env} {w : World}
theorem exec_drawS {fr : List DOp} {tl : List Ins} (wr : Nat) (bef : Nat → Prop) (Rel Rel0 : World → World → Prop) (Rs : Nat → World → (Nat → Value) → Prop)
    (hrfl : ∀ a, Rel a a) (htr : ∀ a b c, Rel a b → Rel b c → Rel a c) (h0fl : ∀ a, Rel0 a a) (h0tr : ∀ a b c, Rel0 a b → Rel0 b c → Rel0 a c) (hmo0 : ∀ i W W' vs, i < fr.length → Rel0 W W' → Rs i W vs → Rs i W' vs) (hmo1 : ∀ i W W' vs, i < fr.length → i ≠ wr → Rel { w with drawn := w.drawn + 1 } W → Rel W W' → Rs i W vs → Rs i W' vs)
    (hbef : ∀ i, bef i → i = wr ∨ ∃ c g d m, fr[wr]? = some (c, g, d, m) ∧ i ∈ c)
    (hloc : ∀ i c g d m j W vs v, fr[i]? = some (c, g, d, m) → j ∉ c → j ≠ i → Rs i W vs → Rs i W (put vs j v))
    (hdst : (dsts fr).all (fun t => Nat.blt t n) = true) (hnd : nodupB (dsts fr) = true)
    (hst : DStepsS P Rel Rel0 wr bef fr Rs e { w with drawn := w.drawn + 1 } 0 fr)
    (next : ∀ vs W, Rel { w with drawn := w.drawn + 1 } W → (∀ i, i < fr.length → Rs i W vs) → Exec P n c D (tl ++ is) k (outEnv vs 0 fr ++ e) W) :
    Exec P n c D (.draw fr tl :: is) k e w := .intro fun a hn hk hd => by
  simp only [denL, denI]
  intro ops hfr htl hdef hwell
  obtain ⟨hb, hs⟩ := splitAtD_spec (allD P ops) ops.size (by rw [List.drop_eq_nil_of_le (by rw [allD_length]; exact Nat.le_refl _)]; rfl)
  have hlen : fr.length = splitAtD (allD P ops) ops.size := by rw [← hfr, List.length_take, allD_length]; omega
  subst hfr
  subst htl
  rw [hlen] at hmo0 hmo1
  refine phase1S (wr := wr) (bef := bef) (Rel := Rel) (Rel0 := Rel0) hdef hwell hb hs hrfl htr h0fl h0tr hmo0 hmo1 (fun i hi => (hbef i hi).imp id fun ⟨c, g, d, m, h1, h2⟩ => ⟨c, g, d, m, (by
    rw [List.getElem?_take] at h1; split at h1
    · exact h1
    · cases h1), h2⟩) hloc (fun t ht => by simpa using List.all_eq_true.1 hdst t ht) hnd hst
    (fun vs W h1 h2 => next vs W h1 (by rw [hlen]; exact h2)) ops.size _ (fun _ => undef) a _ ?_ ?_
  · unfold left; simp
  · refine ⟨by simp, ?_, ?_, hrfl _, fun _ => h0fl _, ?_, ?_, hn, hd⟩
    · intro j hj h; simp [Array.getD_eq_getD_getElem?, hj] at h
    · intro j c' g d m hC h
      have : j < ops.size := by
        have := (List.getElem?_eq_some_iff.1 hC).1
        rwa [allD_length] at this
      simp [Array.getD_eq_getD_getElem?, this] at h
    · intro j c' g d m hC h
      have : j < ops.size := by
        have := (List.getElem?_eq_some_iff.1 hC).1
        rwa [allD_length] at this
      simp [Array.getD_eq_getD_getElem?, this] at h
    · intro t v hg _; exact hk t v hg
end
end Go.Sp

namespace Go.Sp
def getV : List (Nat × Value) → Nat → Value
  | [], _ => undef
  | (i, v) :: r, j => match Nat.beq i j with
    | true => v
    | false => getV r j
def envV (ds : List DOp) (done : List (Nat × Value)) : List Nat → Env
  | [] => []
  | j :: deps => match ds[j]? with
    | some (_, _, some d, _) => (d, getV done j) :: envV ds done deps
    | _ => envV ds done deps
def outV (done : List (Nat × Value)) : Nat → List DOp → Env
  | _, [] => []
  | i, (_, _, d, _) :: r => match d with
    | some d => (d, getV done i) :: outV done (i + 1) r
    | none => outV done (i + 1) r
/-- may operation i count on it that wr has not run? -/
def befB (ds : List DOp) (wr i : Nat) : Bool := Nat.beq i wr || match ds[wr]? with
  | some (c, _) => c.contains i
  | none => false
def DWS (P : Program) (l : List Nat) (wr : Nat) (Wr : World → Prop) (ds : List DOp) (e : Env) (w : World) (Fin : List (Nat × Value) → Prop) : Nat → List (Nat × Value) → List DOp → Prop
  | _, done, [] => Fin done
  | i, done, (deps, g, _, m) :: r => ∃ v, (∀ W, Upd l w W → (befB ds wr i = true → Ext w W) →
      DStep P (fun a b => Upd l a b ∧ (i ≠ wr → Ext a b)) g m (envV ds done deps ++ keepEnv ds i e) W fun W' u => u = v ∧ (i = wr → Wr W')) ∧ DWS P l wr Wr ds e w Fin (i + 1) ((i, v) :: done) r
def FinS (P : Program) (n : Nat) (c : Ctx) (D : List Deferred) (is : List Ins) (k : Kont) (l : List Nat) (wr : Nat) (Wr : World → Prop) (ds : List DOp) (e : Env) (w : World) (tl : List Ins) (done : List (Nat × Value)) : Prop :=
  ∀ W, Upd l w W → (Nat.blt wr ds.length = true → Wr W) → Exec P n c D (tl ++ is) k (outV done 0 ds ++ e) W
theorem envV_eq {ds : List DOp} {done : List (Nat × Value)} {vs : Nat → Value} : ∀ deps : List Nat, (∀ j ∈ deps, getV done j = vs j) → envV ds done deps = dEnv ds vs deps := by
  intro deps
  induction deps with
  | nil => intro _; rfl
  | cons j deps ih =>
    intro h
    simp only [envV, dEnv, h j List.mem_cons_self, ih fun x hx => h x (List.mem_cons_of_mem _ hx)]
    rfl
theorem outV_eq {done : List (Nat × Value)} {vs : Nat → Value} : ∀ (l : List DOp) (i : Nat), (∀ j, j < l.length → getV done (i + j) = vs (i + j)) → outV done i l = outEnv vs i l := by
  intro l
  induction l with
  | nil => intro i _; rfl
  | cons p l ih =>
    obtain ⟨deps, g, d, m⟩ := p
    intro i h
    have h1 := h 0 (by simp)
    have h2 := ih (i + 1) fun j hj => by have := h (j + 1) (by simpa using hj); rw [show i + (j + 1) = i + 1 + j from by omega] at this; exact this
    simp only [outV, outEnv]
    simp only [Nat.add_zero] at h1
    cases d <;> simp [h1, h2]
theorem DWS.out {P : Program} {l : List Nat} {wr : Nat} {Wr : World → Prop} {ds : List DOp} {e : Env} {w : World} {F : List (Nat × Value) → Prop} : ∀ (rest : List DOp) (i : Nat) (done : List (Nat × Value)), wellDeps i rest = true →
    DWS P l wr Wr ds e w F i done rest → ∃ done', F done' ∧ (∀ j, j < i → getV done' j = getV done j) ∧ ∀ (k : Nat) deps g d m, rest[k]? = some (deps, g, d, m) →
      ∀ W, Upd l w W → (befB ds wr (i + k) = true → Ext w W) → DStep P (fun a b => Upd l a b ∧ (i + k ≠ wr → Ext a b)) g m (envV ds done' deps ++ keepEnv ds (i + k) e) W fun W' u => u = getV done' (i + k) ∧ (i + k = wr → Wr W') := by
  intro rest
  induction rest with
  | nil => intro i done _ h; exact ⟨done, h, fun _ _ => rfl, fun k deps g d m h => by simp at h⟩
  | cons p rest ih =>
    obtain ⟨deps0, g0, d0, m0⟩ := p
    intro i done hw h
    simp only [wellDeps, Bool.and_eq_true] at hw
    obtain ⟨v, h1, h2⟩ := h
    obtain ⟨done', hF, hlow, hr⟩ := ih (i + 1) _ hw.2 h2
    have hlow' : ∀ j, j < i → getV done' j = getV done j := by
      intro j hj
      rw [hlow j (by omega)]
      simp only [getV]
      split
      · rename_i hb; have := Nat.eq_of_beq_eq_true hb; omega
      · rfl
    refine ⟨done', hF, hlow', fun k deps g d m hk W hW hb => ?_⟩
    cases k with
    | zero =>
      simp at hk
      obtain ⟨rfl, rfl, rfl, rfl⟩ := hk
      have hv : getV done' (i + 0) = v := by
        rw [Nat.add_zero, hlow i (by omega)]
        simp [getV]
      rw [hv]
      have he : envV ds done' deps0 = envV ds done deps0 := by
        rw [envV_eq (vs := getV done) deps0 (fun j hj => hlow' j (by have := List.all_eq_true.1 hw.1 j hj; simpa using this)), envV_eq (vs := getV done) deps0 (fun _ _ => rfl)]
      rw [he]
      exact h1 W hW hb
    | succ k =>
      have := hr k deps g d m (by simpa using hk) W hW (by rw [show i + 1 + k = i + (k + 1) from by omega]; exact hb)
      rw [show i + 1 + k = i + (k + 1) from by omega] at this
      exact this
section
variable {P : Program} {n : Nat} {c : Ctx} {D : List Deferred} {is : List Ins} {k : Kont} {e : Env} {w : World}
theorem exec_dws {fr : List DOp} {tl : List Ins} (l : List Nat) (wr : Nat) (Wr : World → Prop) (hWr : ∀ W W', Wr W → Ext W W' → Wr W') (hdst : (dsts fr).all (fun t => Nat.blt t n) = true) (hnd : nodupB (dsts fr) = true) (hwd : wellDeps 0 fr = true)
    (h : DWS P l wr Wr fr e w (FinS P n c D is k l wr Wr fr e w tl) 0 [] fr) : Exec P n c D (.draw fr tl :: is) k e w := by
  obtain ⟨done, hF, _, hs⟩ := DWS.out fr 0 [] hwd h
  have hw0 : Ext w { w with drawn := w.drawn + 1 } := Upd.drew [] w _
  have hup : ∀ {W}, Upd l { w with drawn := w.drawn + 1 } W → Upd l w W := fun h => (hw0.mono (by simp)).trans h (fun x hx => .inl hx)
  have tr : ∀ a b c, Upd l a b → Upd l b c → Upd l a c := fun a b c h1 h2 => h1.trans h2 (fun x hx => .inl hx)
  refine exec_drawS wr (fun i => befB fr wr i = true) (Upd l) Ext (fun i W vs => vs i = getV done i ∧ (i = wr → Wr W)) (fun a => Upd.refl _ _) tr (fun a => Upd.refl _ _) (fun a b c h1 h2 => h1.trans h2) ?_ ?_ ?_ ?_ hdst hnd ?_ ?_
  · intro i W W' vs _ hr ⟨h1, h2⟩; exact ⟨h1, fun hi => hWr _ _ (h2 hi) hr⟩
  · intro i W W' vs _ hne _ _ ⟨h1, _⟩; exact ⟨h1, fun hi => absurd hi hne⟩
  · intro i hb
    simp only [befB, Bool.or_eq_true] at hb
    rcases hb with hb | hb
    · exact .inl (Nat.eq_of_beq_eq_true hb)
    · right
      split at hb
      · rename_i c' rest hc
        exact ⟨c', rest.1, rest.2.1, rest.2.2, hc, by simpa using hb⟩
      · cases hb
  · intro i c' g d m j W vs v _ _ hne ⟨h1, h2⟩
    exact ⟨by simp only [put, if_neg (Ne.symm hne)]; exact h1, h2⟩
  · suffices ∀ (r : List DOp) (i : Nat), (∀ j, r[j]? = fr[i + j]?) → DStepsS P (Upd l) Ext wr (fun i => befB fr wr i = true) fr (fun i W vs => vs i = getV done i ∧ (i = wr → Wr W)) e { w with drawn := w.drawn + 1 } i r from this fr 0 (by simp)
    intro r
    induction r with
    | nil => intro i _; trivial
    | cons y r ih =>
      obtain ⟨deps, g, d, m⟩ := y
      intro i hr
      refine ⟨?_, ih (i + 1) fun j => by have := hr (j + 1); rw [show i + (j + 1) = i + 1 + j from by omega] at this; simpa using this⟩
      intro vs W hW hb hdeps
      have hi : fr[i]? = some (deps, g, d, m) := by have := hr 0; simpa using this.symm
      have h4 := hs i deps g d m hi W (hup hW) (by rw [Nat.zero_add]; exact fun h => hw0.trans (hb h))
      rw [Nat.zero_add, envV_eq (vs := vs) deps (fun j hj => (hdeps j hj).1.symm)] at h4
      unfold DStep at h4 ⊢
      have h5 : ∀ W' u, (u = getV done i ∧ (i = wr → Wr W')) → put vs i u i = getV done i ∧ (i = wr → Wr W') := fun W' u h => ⟨by simp [put, h.1], h.2⟩
      split
      · exact h4.mono fun v W' h => ⟨h.1, h5 _ _ h.2⟩
      · exact h4
      · rcases h4 with ⟨ha, hb⟩ | ⟨ha, hb⟩
        · exact .inl ⟨ha, hb.mono fun v W' h => ⟨h.1, h5 _ _ h.2⟩⟩
        · exact .inr ⟨ha, h5 _ _ hb⟩
  · intro vs W hW hR
    have h1 : outV done 0 fr = outEnv vs 0 fr := outV_eq fr 0 fun j hj => by rw [Nat.zero_add]; exact ((hR j hj).1).symm
    rw [← h1]
    exact hF W (hup hW) fun hwr => (hR wr (by simpa using hwr)).2 rfl
variable {l : List Nat} {wr : Nat} {Wr : World → Prop} {ds : List DOp} {F : List (Nat × Value) → Prop} {done : List (Nat × Value)} {i : Nat} {deps : List Nat} {d : Option Nat} {m : MOp} {r : List DOp} {s : Nat} {b : Bool}
theorem ws_val {v : Value} (hne : Nat.beq i wr = false) (hv : pureV (envV ds done deps ++ keepEnv ds i e) m = some v) (h : DWS P l wr Wr ds e w F (i + 1) ((i, v) :: done) r) : DWS P l wr Wr ds e w F i done ((deps, none, d, m) :: r) :=
  ⟨v, fun W _ _ => (ok_pure hv).mono fun u W' hu => ⟨⟨hu.2 ▸ Upd.refl _ _, fun _ => hu.2 ▸ Upd.refl _ _⟩, hu.1, fun hi => by subst hi; simp at hne⟩, h⟩
theorem ws_gval {v : Value} (hne : Nat.beq i wr = false) (hg : (envV ds done deps ++ keepEnv ds i e).get s = some (.bool b)) (hv : pureV (envV ds done deps ++ keepEnv ds i e) m = some v)
    (h : DWS P l wr Wr ds e w F (i + 1) ((i, v) :: done) r) : DWS P l wr Wr ds e w F i done ((deps, some (some s, b), d, m) :: r) :=
  ⟨v, fun W _ _ => .inl ⟨hg, (ok_pure hv).mono fun u W' hu => ⟨⟨hu.2 ▸ Upd.refl _ _, fun _ => hu.2 ▸ Upd.refl _ _⟩, hu.1, fun hi => by subst hi; simp at hne⟩⟩, h⟩
theorem wgs (hne : Nat.beq i wr = false) (hg : (envV ds done deps ++ keepEnv ds i e).get s = some (.bool !b))
    (h : DWS P l wr Wr ds e w F (i + 1) ((i, undef) :: done) r) : DWS P l wr Wr ds e w F i done ((deps, some (some s, b), d, m) :: r) :=
  ⟨undef, fun W _ _ => .inr ⟨hg, rfl, fun hi => by subst hi; simp at hne⟩, h⟩
/-- an operation that may read, ahead of the one that writes -/
theorem ws_ok (v : Value) (hne : Nat.beq i wr = false) (hb : befB ds wr i = true) (hv : ∀ W, Ext w W → OpOK P m (envV ds done deps ++ keepEnv ds i e) W (Just v W))
    (h : DWS P l wr Wr ds e w F (i + 1) ((i, v) :: done) r) : DWS P l wr Wr ds e w F i done ((deps, none, d, m) :: r) :=
  ⟨v, fun W _ h2 => (hv W (h2 hb)).mono fun u W' hu => ⟨⟨hu.2 ▸ Upd.refl _ _, fun _ => hu.2 ▸ Upd.refl _ _⟩, hu.1, fun hi => by subst hi; simp at hne⟩, h⟩
/-- an operation that reads no memory, wherever it runs -/
theorem ws_any (v : Value) (hne : Nat.beq i wr = false) (hv : ∀ W, OpOK P m (envV ds done deps ++ keepEnv ds i e) W (Just v W))
    (h : DWS P l wr Wr ds e w F (i + 1) ((i, v) :: done) r) : DWS P l wr Wr ds e w F i done ((deps, none, d, m) :: r) :=
  ⟨v, fun W _ _ => (hv W).mono fun u W' hu => ⟨⟨hu.2 ▸ Upd.refl _ _, fun _ => hu.2 ▸ Upd.refl _ _⟩, hu.1, fun hi => by subst hi; simp at hne⟩, h⟩
/-- the one that writes -/
theorem ws_store {N B o : Nat} {x y : Operand} {v : Value} {cs : List Value} (hwr : Nat.beq i wr = true) (hx : (envV ds done deps ++ keepEnv ds i e).ev x = some (.pointer (some ⟨B, o, none⟩))) (hy : (envV ds done deps ++ keepEnv ds i e).ev y = some v)
    (hB : Blk w B cs) (hl : v.cells.size = N) (hle : o + N ≤ cs.length) (hv : v.cells.toList.all cellValue = true) (hBl : B ∈ l) (hW : ∀ W, Blk W B (splice cs o v.cells.toList) → Wr W)
    (h : DWS P l wr Wr ds e w F (i + 1) ((i, undef) :: done) r) : DWS P l wr Wr ds e w F i done ((deps, none, none, .store N x y) :: r) := by
  have hi := Nat.eq_of_beq_eq_true hwr
  refine ⟨undef, fun W _ h2 => ?_, h⟩
  have hE : Ext w W := h2 (by simp [befB, hwr])
  intro a hk rd d next Q hn
  obtain ⟨w', hr, hu, hs, hb'⟩ := storeCells_run (P := P) (o := o) v.cells.toList 0 W cs (hB.upd hE) (by simp [hl]; omega) hv
  have : ((MOp.store N x y).sem a.eval).run P W = .ok .skip w' := by
    simp [MOp.sem, Env.ok_ev hk hx, Env.ok_ev hk hy, Instr.sureAddr, hl, hr]
  rw [this]
  rw [Oper.uponIn_skip]
  exact hn undef w' ⟨⟨hu.mono (by simpa using hBl), fun h => absurd hi h⟩, rfl, fun _ => hW w' hb'⟩
theorem ws_end {tl : List Ins} (h : ∀ W, Upd l w W → (Nat.blt wr ds.length = true → Wr W) → Exec P n c D (tl ++ is) k (outV done 0 ds ++ e) W) : DWS P l wr Wr ds e w (FinS P n c D is k l wr Wr ds e w tl) i done [] := h
end
end Go.Sp

namespace Go.Sp
section
variable {P : Program} {n : Nat} {c : Ctx} {D : List Deferred} {is : List Ins} {k : Kont} {e : Env} {w : World}
variable {l : List Nat} {wr : Nat} {Wr : World → Prop} {ds : List DOp} {F : List (Nat × Value) → Prop} {done : List (Nat × Value)} {i : Nat} {deps : List Nat} {d : Option Nat} {m : MOp} {r : List DOp} {s : Nat} {b : Bool}
theorem ws_auto {v : Value} (hp : plainOp m = true) (hne : Nat.beq i wr = false) (hv : pureV (envV ds done deps ++ keepEnv ds i e) m = some v) (h : DWS P l wr Wr ds e w F (i + 1) ((i, v) :: done) r) : DWS P l wr Wr ds e w F i done ((deps, none, d, m) :: r) := ws_val hne hv h
/-- an operation of a region in which none writes -/
theorem ws_keep (v : Value) (hne : Nat.beq i wr = false) (hv : ∀ W, Ext w W → OpOK P m (envV ds done deps ++ keepEnv ds i e) W (Just v W))
    (h : DWS P [] wr Wr ds e w F (i + 1) ((i, v) :: done) r) : DWS P [] wr Wr ds e w F i done ((deps, none, d, m) :: r) :=
  ⟨v, fun W h1 _ => (hv W h1).mono fun u W' hu => ⟨⟨hu.2 ▸ Upd.refl _ _, fun _ => hu.2 ▸ Upd.refl _ _⟩, hu.1, fun hi => by subst hi; simp at hne⟩, h⟩
theorem ws_gkeep (v : Value) (hne : Nat.beq i wr = false) (hg : (envV ds done deps ++ keepEnv ds i e).get s = some (.bool b)) (hv : ∀ W, Ext w W → OpOK P m (envV ds done deps ++ keepEnv ds i e) W (Just v W))
    (h : DWS P [] wr Wr ds e w F (i + 1) ((i, v) :: done) r) : DWS P [] wr Wr ds e w F i done ((deps, some (some s, b), d, m) :: r) :=
  ⟨v, fun W h1 _ => .inl ⟨hg, (hv W h1).mono fun u W' hu => ⟨⟨hu.2 ▸ Upd.refl _ _, fun _ => hu.2 ▸ Upd.refl _ _⟩, hu.1, fun hi => by subst hi; simp at hne⟩⟩, h⟩
/-- an operation that may lay new blocks, of a region in which none writes -/
theorem ws_ext (v : Value) (hne : Nat.beq i wr = false) (hv : ∀ W, Ext w W → OpOK P m (envV ds done deps ++ keepEnv ds i e) W (fun u W' => u = v ∧ Ext W W'))
    (h : DWS P [] wr Wr ds e w F (i + 1) ((i, v) :: done) r) : DWS P [] wr Wr ds e w F i done ((deps, none, d, m) :: r) :=
  ⟨v, fun W h1 _ => (hv W h1).mono fun u W' hu => ⟨⟨hu.2, fun _ => hu.2⟩, hu.1, fun hi => by subst hi; simp at hne⟩, h⟩
theorem ws_gext (v : Value) (hne : Nat.beq i wr = false) (hg : (envV ds done deps ++ keepEnv ds i e).get s = some (.bool b)) (hv : ∀ W, Ext w W → OpOK P m (envV ds done deps ++ keepEnv ds i e) W (fun u W' => u = v ∧ Ext W W'))
    (h : DWS P [] wr Wr ds e w F (i + 1) ((i, v) :: done) r) : DWS P [] wr Wr ds e w F i done ((deps, some (some s, b), d, m) :: r) :=
  ⟨v, fun W h1 _ => .inl ⟨hg, (hv W h1).mono fun u W' hu => ⟨⟨hu.2, fun _ => hu.2⟩, hu.1, fun hi => by subst hi; simp at hne⟩⟩, h⟩
theorem exec_dwr {fr : List DOp} {tl : List Ins} (hdst : (dsts fr).all (fun t => Nat.blt t n) = true) (hnd : nodupB (dsts fr) = true) (hwd : wellDeps 0 fr = true)
    (h : DWS P [] 1000 (fun _ => True) fr e w (FinS P n c D is k [] 1000 (fun _ => True) fr e w tl) 0 [] fr) : Exec P n c D (.draw fr tl :: is) k e w :=
  exec_dws [] 1000 (fun _ => True) (fun _ _ _ _ => trivial) hdst hnd hwd h
theorem ws_fin {tl : List Ins} (h : ∀ W, Ext w W → Exec P n c D (tl ++ is) k (outV done 0 ds ++ e) W) : DWS P [] wr Wr ds e w (FinS P n c D is k [] wr Wr ds e w tl) i done [] := fun W hW _ => h W hW
end
/-- the same, but no comparison -/
def tameOp : MOp → Bool
  | .un op _ => match op with
    | .not => true
    | _ => false
  | .mov _ => true
  | .pick _ _ _ => true
  | .nilc _ => true
  | .fn _ _ _ => true
  | .faddr _ _ => true
  | .fld _ _ _ _ => true
  | .ext _ _ => true
  | .lenS _ => true
  | _ => false
section
variable {P : Program} {n : Nat} {c : Ctx} {D : List Deferred} {is : List Ins} {k : Kont} {e : Env} {w : World} {m : MOp}
theorem xtm {d : Nat} {v : Value} (hp : tameOp m = true) (hv : pureV e m = some v) (hd' : Nat.blt d n = true)
    (hx : Exec P n c D is k ((d, v) :: e) w) : Exec P n c D (.op none (some d) m :: is) k e w := xpu hv hd' hx
end
section
variable {P : Program} {n : Nat} {c : Ctx} {D : List Deferred} {is : List Ins} {k : Kont} {e : Env} {w : World}
variable {l : List Nat} {wr : Nat} {Wr : World → Prop} {ds : List DOp} {F : List (Nat × Value) → Prop} {done : List (Nat × Value)} {i : Nat} {deps : List Nat} {d : Option Nat} {m : MOp} {r : List DOp} {s : Nat} {b : Bool}
theorem wtm {v : Value} (hp : tameOp m = true) (hne : Nat.beq i wr = false) (hv : pureV (envV ds done deps ++ keepEnv ds i e) m = some v) (h : DWS P l wr Wr ds e w F (i + 1) ((i, v) :: done) r) : DWS P l wr Wr ds e w F i done ((deps, none, d, m) :: r) := ws_val hne hv h
theorem wgt {v : Value} (hp : tameOp m = true) (hne : Nat.beq i wr = false) (hg : (envV ds done deps ++ keepEnv ds i e).get s = some (.bool b)) (hv : pureV (envV ds done deps ++ keepEnv ds i e) m = some v)
    (h : DWS P l wr Wr ds e w F (i + 1) ((i, v) :: done) r) : DWS P l wr Wr ds e w F i done ((deps, some (some s, b), d, m) :: r) := ws_gval hne hg hv h
end
section
variable {P : Program} {e : Env} {w : World} {x y : Operand} {a b : Nat} {q : Bool}
theorem pv_lssI {K : IntKind} (hx : e.ev x = some (.int K (a : Int))) (hy : e.ev y = some (.int K (b : Int))) (h : decide (a < b) = q) : pureV e (.ibin .lss x y) = some (.bool q) := by
  subst h
  simp [pureV, hx, hy, binV, intV]
theorem pv_gtrI {K : IntKind} (hx : e.ev x = some (.int K (a : Int))) (hy : e.ev y = some (.int K (b : Int))) (h : decide (b < a) = q) : pureV e (.ibin .gtr x y) = some (.bool q) := by
  subst h
  simp [pureV, hx, hy, binV, intV]
theorem pv_leqI {K : IntKind} (hx : e.ev x = some (.int K (a : Int))) (hy : e.ev y = some (.int K (b : Int))) (h : decide (a ≤ b) = q) : pureV e (.ibin .leq x y) = some (.bool q) := by
  subst h
  simp [pureV, hx, hy, binV, intV]
theorem pv_geqI {K : IntKind} (hx : e.ev x = some (.int K (a : Int))) (hy : e.ev y = some (.int K (b : Int))) (h : decide (b ≤ a) = q) : pureV e (.ibin .geq x y) = some (.bool q) := by
  subst h
  simp [pureV, hx, hy, binV, intV]
theorem pv_eqlI {K : IntKind} (hx : e.ev x = some (.int K (a : Int))) (hy : e.ev y = some (.int K (b : Int))) (h : decide (a = b) = q) : pureV e (.ibin .eql x y) = some (.bool q) := by
  subst h
  simp only [pureV, hx, hy, binV, intV, decide_true]
  by_cases h : a = b
  · simp [h]
  · simp [h, show ¬ (a : Int) = (b : Int) by omega]
theorem pv_neqI {K : IntKind} (hx : e.ev x = some (.int K (a : Int))) (hy : e.ev y = some (.int K (b : Int))) (h : decide (a ≠ b) = q) : pureV e (.ibin .neq x y) = some (.bool q) := by
  subst h
  simp only [pureV, hx, hy, binV, intV, decide_true]
  by_cases h : a = b
  · simp [h]
  · simp [h, show ¬ (a : Int) = (b : Int) by omega]
theorem pv_mulI (hx : e.ev x = some (intV' a)) (hy : e.ev y = some (intV' b)) (h : a * b < 9223372036854775808) : pureV e (.ibin .mul x y) = some (intV' (a * b)) := by
  simp only [pureV, hx, hy, binV, decide_true, intV]
  rw [show ((a : Int) * (b : Int)) = ((a * b : Nat) : Int) by simp, wrap_i64 (by omega) (by omega)]
theorem ok_quoI (hx : e.ev x = some (intV' a)) (hy : e.ev y = some (intV' b)) (h0 : 0 < b) (ha : a < 9223372036854775808) : OpOK P (.ibin .quo x y) e w (Just (intV' (a / b)) w) := by
  have h := ok_quo (P := P) (w := w) hx hy (by omega)
  have e1 : IntKind.i64.wrap ((a : Int).tdiv (b : Int)) = ((a / b : Nat) : Int) := by
    rw [show ((a : Int).tdiv (b : Int)) = ((a / b : Nat) : Int) from rfl]
    have := Nat.div_le_self a b
    generalize a / b = q at *
    exact wrap_i64 (by omega) (by omega)
  rw [e1] at h
  exact h
end
section
variable {P : Program} {n : Nat} {c : Ctx} {D : List Deferred} {is : List Ins} {k : Kont} {e : Env} {w : World}
theorem xgu {j : Nat} {b : Bool} {d : Nat} {m : MOp} (hv : e.get j = some undef) (hd' : Nat.blt d n = true) (hx : Exec P n c D is k ((d, undef) :: e) w) :
    Exec P n c D (.op (some (some j, b)) (some d) m :: is) k e w := .intro fun a hn hk hd => by
  have hq : gOK (some (some j, b)) a.tmps = false := by
    simp only [gOK, Option.bind_some, hk j _ hv]
    rfl
  simp only [denL, denI, stepOp, hq, Bool.false_eq_true, if_false]
  refine hx.run (a.put (some d) undef) ?_ ?_ hd
  · simp [Act.put, hn]
  · exact Env.ok_set hk (by rw [hn]; simpa using hd')
/-- a block that one is in: left by its end or by its exit, it ends in J -/
theorem exec_inner_join {S : Type} {id : Nat} {b : List Ins} (J : S → World → Prop) (en : S → Env)
    (h1 : Exec P n c D b (.blk id (.stop (Join n D J en) k)) e w)
    (h2 : ∀ s w', J s w' → Exec P n c D is k (en s) w') : Exec P n c D b (.blk id (.seq is k)) e w := .intro fun a hn hk hd => by
  have := (h1).run a hn hk hd
  refine denL_mono b (blockMono ?_) this
  refine thenMono ?_ (fun _ _ _ h => h)
  rintro a' w' ⟨s, hJ, hn', hk', hd'⟩
  exact (h2 s w' hJ).run a' hn' hk' hd'
end
end Go.Sp
