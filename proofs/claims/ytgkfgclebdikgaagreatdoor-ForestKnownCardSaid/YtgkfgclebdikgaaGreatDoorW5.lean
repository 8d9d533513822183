/- spinneylaw14.ForestKnown returns true for every input, and its arguments read afterwards as before: the card. No condition. This text: part 5 of 10. -/
import Derived.Test.YtgkfgclebdikgaaGreatDoorW4
set_option linter.unusedVariables false
set_option linter.unusedSimpArgs false
set_option linter.unusedSectionVars false
namespace Go.Sp
theorem two_pow_split {R r : Nat} (h : r ≤ R) : (2 : Nat) ^ (R + 1 - r) = 2 * 2 ^ (R - r) := by rw [show R + 1 - r = R - r + 1 by omega, Nat.pow_succ]; omega
theorem rowN_iff {p R r : Nat} (hR : R ≤ 63) : rowN p R = some r ↔ r ≤ R ∧ beginN r R ≤ p ∧ p < beginN r R + 2 ^ (R - r) := by
  have h64 : (2 : Nat) ^ (R + 1) ≤ 2 ^ 64 := Nat.pow_le_pow_right (by omega) (by omega)
  constructor
  · intro h
    have hr := (rowN_le h hR)
    unfold rowN at h
    rw [if_pos hr.2] at h
    cases h
    have hm := bitLen_is (n := 2 ^ (R + 1) - 1 - p) (by omega)
    have hb0 : 0 < bitLen (2 ^ (R + 1) - 1 - p) := bitLen_pos (by omega) (by omega)
    generalize bitLen (2 ^ (R + 1) - 1 - p) = k at *
    have hk : k ≤ R + 1 := by
      rcases Nat.lt_or_ge (R + 1) k with h' | h'
      · exfalso
        rcases hm.2 with h2 | h2
        · omega
        · have : (2 : Nat) ^ (R + 1) ≤ 2 ^ (k - 1) := Nat.pow_le_pow_right (by omega) (by omega)
          omega
      · exact h'
    have e1 : R + 1 - (R + 1 - k) = k := by omega
    have e2 : R - (R + 1 - k) = k - 1 := by omega
    have e3 : (2 : Nat) ^ k = 2 * 2 ^ (k - 1) := by rw [← Nat.pow_succ']; congr 1; omega
    have e4 : (2 : Nat) ^ k ≤ 2 ^ (R + 1) := Nat.pow_le_pow_right (by omega) hk
    simp only [beginN, e1, e2]
    refine ⟨by omega, ?_, ?_⟩
    · have := hm.1; omega
    · rcases hm.2 with h2 | h2 <;> omega
  · rintro ⟨h1, h2, h3⟩
    have e1 := two_pow_split h1
    have e4 : (2 : Nat) ^ (R + 1 - r) ≤ 2 ^ (R + 1) := Nat.pow_le_pow_right (by omega) (by omega)
    have e5 : 0 < (2 : Nat) ^ (R - r) := Nat.pow_pos (by omega)
    simp only [beginN] at h2 h3
    have hlt : p + 1 < 2 ^ (R + 1) ∨ p + 1 = 2 ^ (R + 1) - 2 ^ (R - r) + 0 ∨ True := .inr (.inr trivial)
    unfold rowN
    have hp : p + 1 < 2 ^ (R + 1) := by omega
    rw [if_pos hp]
    have : bitLen (2 ^ (R + 1) - 1 - p) = R + 1 - r := bitLen_eq (by omega) ⟨by omega, .inr (by rw [show R + 1 - r - 1 = R - r by omega]; omega)⟩
    rw [this]
    congr 1; omega
theorem row_posN {R r i : Nat} (hR : R ≤ 63) (h : r ≤ R) (hi : i < 2 ^ (R - r)) : rowN (beginN r R + i) R = some r := (rowN_iff hR).2 ⟨h, by omega, by omega⟩
theorem parent_posN {R r i : Nat} (hR : R ≤ 63) (h : r < R) (hi : i < 2 ^ (R - r)) : parentN (beginN r R + i) R = some (beginN (r + 1) R + i / 2) := by
  unfold parentN
  rw [row_posN hR (by omega) hi]
  simp only
  rw [if_neg (by omega)]
  have e1 := two_pow_split (R := R) (r := r) (by omega)
  have e2 : (2 : Nat) ^ (R + 1 - (r + 1)) = 2 ^ (R - r) := by congr 1; omega
  have e3 : (2 : Nat) ^ (R + 1) = 2 * 2 ^ R := by rw [Nat.pow_succ]; omega
  have e4 : (2 : Nat) ^ (R - r) ≤ 2 ^ R := Nat.pow_le_pow_right (by omega) (by omega)
  simp only [beginN, e1, e2, e3]
  congr 1; omega
theorem parent_none {R r i : Nat} (hR : R ≤ 63) (h : r = R) (hi : i < 2 ^ (R - r)) : parentN (beginN r R + i) R = none := by
  unfold parentN
  rw [row_posN hR (by omega) hi]
  simp [h]
theorem row_parent {p q R r : Nat} (hR : R ≤ 63) (hr : rowN p R = some r) (h : parentN p R = some q) : rowN q R = some (r + 1) ∧ r < R := by
  have h1 := (rowN_iff hR).1 hr
  obtain ⟨i, rfl⟩ : ∃ i, p = beginN r R + i := ⟨p - beginN r R, by omega⟩
  rcases Nat.lt_or_ge r R with hl | hl
  · rw [parent_posN hR hl (by omega)] at h
    cases h
    refine ⟨row_posN hR (by omega) ?_, hl⟩
    have e1 := two_pow_split (R := R) (r := r + 1) (by omega)
    have e2 : (2 : Nat) ^ (R + 1 - (r + 1)) = 2 ^ (R - r) := by congr 1; omega
    omega
  · rw [parent_none hR (by omega) (by omega)] at h; cases h
theorem parent_row {p q R : Nat} (h : parentN p R = some q) : ∃ r, rowN p R = some r := by
  unfold parentN at h
  split at h
  · cases h
  · rename_i r hr; exact ⟨r, hr⟩
/-- a position and all above it -/
def chainN : Nat → Nat → Nat → List Nat
  | 0, _, p => [p]
  | f + 1, R, p => p :: (match parentN p R with
    | none => []
    | some q => chainN f R q)
/-- as many rows as are above it, are enough -/
def enough (f R p : Nat) : Prop := match rowN p R with
  | none => True
  | some r => R - r ≤ f
theorem enough_step {f R p q : Nat} (hR : R ≤ 63) (h : enough (f + 1) R p) (hq : parentN p R = some q) : enough f R q := by
  obtain ⟨r, hr⟩ := parent_row hq
  have h1 := row_parent hR hr hq
  unfold enough at h ⊢
  rw [hr] at h
  rw [h1.1]
  simp only at h ⊢
  omega
theorem enough_zero {R p : Nat} (hR : R ≤ 63) (h : enough 0 R p) : parentN p R = none := by
  cases hq : parentN p R with
  | none => rfl
  | some q =>
    obtain ⟨r, hr⟩ := parent_row hq
    have h1 := row_parent hR hr hq
    unfold enough at h
    rw [hr] at h
    simp only at h
    omega
/-- as far as the first root of the forest -/
def wayCut (n : Nat) : Nat → List Nat → Option (List Nat)
  | _, [] => none
  | row, q :: qs => if rootN n row = some q then some [q] else (wayCut n (row + 1) qs).map (q :: ·)
def wayN (n p : Nat) : List Nat := if n < 2 ^ 63 then (match rowN p (rowsN n) with
  | none => []
  | some row => (wayCut n row (chainN 64 (rowsN n) p)).getD []) else []
def treeN (n p : Nat) : Option Nat := match (wayN n p).getLast? with
  | none => none
  | some q => rowN q (rowsN n)
theorem enough64 {R p : Nat} (hR : R ≤ 63) : enough 64 R p := by
  unfold enough
  split
  · trivial
  · omega
theorem chainN_lt {f R p : Nat} (hR : R ≤ 63) (hp : p < 2 ^ 64) : ∀ q ∈ chainN f R p, q < 2 ^ 64 := by
  induction f generalizing p with
  | zero => intro q hq; simp [chainN] at hq; subst hq; exact hp
  | succ f ih =>
    intro q hq
    simp only [chainN, List.mem_cons] at hq
    rcases hq with rfl | hq
    · exact hp
    · split at hq
      · simp at hq
      · rename_i q' hq'
        have h1 := parentN_lt hq' hR
        have : (2 : Nat) ^ (R + 1) ≤ 2 ^ 64 := Nat.pow_le_pow_right (by omega) (by omega)
        exact ih (by omega) q hq
theorem chainN_length (f R p : Nat) : (chainN f R p).length ≤ f + 1 := by
  induction f generalizing p with
  | zero => simp [chainN]
  | succ f ih =>
    simp only [chainN, List.length_cons]
    split
    · simp
    · rename_i q _; have := ih q; omega
theorem wayCut_sub {n : Nat} : ∀ (l : List Nat) (row : Nat) (r : List Nat), wayCut n row l = some r → ∃ k, r = l.take k ∧ 0 < k ∧ k ≤ l.length := by
  intro l
  induction l with
  | nil => intro row r h; simp [wayCut] at h
  | cons q l ih =>
    intro row r h
    simp only [wayCut] at h
    split at h
    · cases h; exact ⟨1, by simp, by omega, by simp⟩
    · simp only [Option.map_eq_some_iff] at h
      obtain ⟨r', h', rfl⟩ := h
      obtain ⟨k, h1, h2, h3⟩ := ih _ _ h'
      exact ⟨k + 1, by simp [h1], by omega, by simp; omega⟩
theorem wayN_lt {n p : Nat} (hp : p < 2 ^ 64) : ∀ q ∈ wayN n p, q < 2 ^ 64 := by
  intro q hq
  unfold wayN at hq
  split at hq
  · rename_i hn
    split at hq
    · simp at hq
    · rename_i row hrow
      cases hc : wayCut n row (chainN 64 (rowsN n) p) with
      | none => simp [hc] at hq
      | some r =>
        simp only [hc, Option.getD_some] at hq
        obtain ⟨k, rfl, _⟩ := wayCut_sub _ _ _ hc
        exact chainN_lt (rowsN_le hn) hp q (List.mem_of_mem_take hq)
  · simp at hq
theorem wayN_length (n p : Nat) : (wayN n p).length ≤ 65 := by
  unfold wayN
  split
  · split
    · simp
    · rename_i row hrow
      cases hc : wayCut n row (chainN 64 (rowsN n) p) with
      | none => simp
      | some r =>
        simp only [Option.getD_some]
        obtain ⟨k, rfl, _⟩ := wayCut_sub _ _ _ hc
        have := chainN_length 64 (rowsN n) p
        simp; omega
  · simp
end Go.Sp

namespace Go.Sp
section
variable {P : Program} {f : Nat} {w : World} (A : PosF P)
abbrev ptrV (b : Nat) : Value := .pointer (some ⟨b, 0, none⟩)
theorem parentN_lt64 {p R q : Nat} (h : parentN p R = some q) (hR : R ≤ 63) : q < 2 ^ 64 := by
  have := parentN_lt h hR
  have := pow64 hR
  omega
theorem up1_ok (h : Has P f (b_pos_up_1 A.parent)) {bp br R p fu : Nat} (hB : Blk w bp [u64V p]) (hB2 : Blk w br [intV' R]) (hne : bp ≠ br) (hR : R ≤ 63) (hp : p < 2 ^ 64) (hf : enough fu R p) :
    SeqOK P f [ptrV bp, ptrV br] w [br] [bp] (fun q => [u64V q]) (chainN fu R p) := by
  refine SeqOK.of_ret fun S l n0 ws loc J Jx s0 hJ hJx h0 hn0 hl0 hwr hrd hrounds => ?_
  obtain ⟨hw1, hw2, hw3, hw4⟩ := hwr bp (by simp)
  obtain ⟨hr1, hr3, hr4⟩ := hrd br (by simp)
  refine Ret.of_exec h (Nat.le_of_ble_eq_true rfl) fun c hc => ?_
  dsimp only [b_pos_up_1, argEnv, ym, yo, yg, ys, yt, yd, ye]
  refine xr 2 rfl ?_
  refine xlo (S := Nat × S × Nat × Nat × Bool) (fun s W => J s.1 s.2.1 W ∧ Blk W bp [u64V s.2.2.1] ∧ Blk W br [intV' R] ∧ s.2.2.1 < 2 ^ 64 ∧ bp ∉ loc s.2.1 ∧ br ∉ loc s.2.1 ∧ (∀ b ∈ ws ++ loc s.2.1, b < W.heap.size) ∧ n0 ≤ W.heap.size ∧
      (match s.2.2.2.2 with
        | true => enough s.2.2.2.1 R s.2.2.1 ∧ ∃ pre, chainN fu R p = pre ++ chainN s.2.2.2.1 R s.2.2.1 ∧ pre.length = s.1
        | false => s.1 = (chainN fu R p).length))
    (fun s => [(0, .func (.yield l) #[] #[]), (1, ptrV bp), (2, ptrV br), (4, .bool s.2.2.2.2)]) (fun s => s.2.2.2.1 + (if s.2.2.2.2 then 1 else 0)) (0, s0, p, fu, true)
    ⟨h0, hB, hB2, hp, hw4, hr4, hl0, hn0, hf, [], rfl, rfl⟩ ⟨rfl, rfl, rfl, rfl, trivial⟩ ?_
  rintro ⟨i, s, q, g, ok⟩ W ⟨hi, hBp, hBr, hq, hnp, hnr, hlw, hn0W, hrest⟩
  cases ok with
  | false =>
    simp only at hi hrest
    refine xr 9 rfl ?_
    refine exec_end hc [] trivial (.inl ⟨s, by rw [← hrest]; exact hi⟩)
  | true =>
    simp only at hi hBp hq hnp hnr hlw hrest
    obtain ⟨hen, pre, hpre, hlen⟩ := hrest
    have hx : (chainN fu R p)[i]? = some q := by
      rw [hpre, List.getElem?_append_right (by omega)]
      rw [show i - pre.length = 0 by omega]
      cases g <;> rfl
    refine xr 5 rfl ?_
    refine exec_load1 (b := bp) (o := 0) rfl rfl (hBp.cell rfl) ?_
    refine xr 1 rfl ?_
    refine exec_yield (l := l) (vs := [u64V q]) rfl rfl rfl (hrounds i s W q hi hx hlw) ?_
    rintro go W1 ⟨s1, hgo, hu1, hfr, hlt⟩
    have hbw : bp ∉ ws ++ loc s := by simp [hw3, hnp]
    have hrw : br ∉ ws ++ loc s := by simp [hr3, hnr]
    have hnp1 : bp ∉ loc s1 := fun hm => by rcases hfr _ hm with h | h; exact hnp h; have := hBp.lt; omega
    have hnr1 : br ∉ loc s1 := fun hm => by rcases hfr _ hm with h | h; exact hnr h; have := hBr.lt; omega
    have hBp1 := hBp.upd hu1 hbw
    have hBr1 := hBr.upd hu1 hrw
    have hsz1 := hu1.size
    cases go with
    | false =>
      refine xr 4 rfl ?_
      exact exec_end hc [] trivial (.inr ⟨s1, hgo⟩)
    | true =>
      simp only [if_true] at hgo
      refine xr 4 rfl ?_
      refine exec_load1 (b := bp) (o := 0) rfl rfl (hBp1.cell rfl) ?_
      refine exec_load1 (b := br) (o := 0) rfl rfl (hBr1.cell rfl) ?_
      refine xca rfl rfl (parent_ok A q R hq hR) ?_
      rintro v W2 ⟨rfl, hu2⟩
      have hBp2 := hBp1.upd hu2
      have hBr2 := hBr1.upd hu2
      have hsz2 := hu2.size
      have hgo2 := hJ (i + 1) s1 _ _ [] hgo hu2 (by simp)
      cases hpar : parentN q R with
      | none =>
        refine xr 3 rfl ?_
        refine exec_store (b := bp) (o := 0) (v := u64V 0) rfl rfl hBp2 rfl (by simp) rfl ?_
        intro W3 hu3 hs3 hBp3
        refine xr 3 rfl ?_
        refine xag (i + 1, s1, 0, g, false) ⟨hJ (i + 1) s1 _ _ [bp] hgo2 hu3 (by intro b hb; simp at hb; subst hb; exact ⟨hw2, hnp1⟩), hBp3, hBr2.upd hu3 (by simp; exact fun h => hne h.symm), by show 0 < 2 ^ 64; omega, hnp1, hnr1, ?_, by omega, ?_⟩ (by simp) ⟨rfl, rfl, rfl, rfl, trivial⟩
        · intro b hb
          rcases List.mem_append.1 hb with h | h
          · have := hlw b (List.mem_append_left _ h); omega
          · have := hlt b h; omega
        · simp only
          rw [hpre, List.length_append, hlen]
          cases g <;> simp [chainN, hpar]
      | some q' =>
        obtain ⟨g', rfl⟩ : ∃ g', g = g' + 1 := by
          cases g with
          | zero => rw [enough_zero hR hen] at hpar; cases hpar
          | succ g' => exact ⟨g', rfl⟩
        refine xr 3 rfl ?_
        refine exec_store (b := bp) (o := 0) (v := u64V q') rfl rfl hBp2 rfl (by simp) rfl ?_
        intro W3 hu3 hs3 hBp3
        refine xr 3 rfl ?_
        refine xag (i + 1, s1, q', g', true) ⟨hJ (i + 1) s1 _ _ [bp] hgo2 hu3 (by intro b hb; simp at hb; subst hb; exact ⟨hw2, hnp1⟩), hBp3, hBr2.upd hu3 (by simp; exact fun h => hne h.symm), parentN_lt64 hpar hR, hnp1, hnr1, ?_, by omega, ?_⟩ (by simp) ⟨rfl, rfl, rfl, rfl, trivial⟩
        · intro b hb
          rcases List.mem_append.1 hb with h | h
          · have := hlw b (List.mem_append_left _ h); omega
          · have := hlt b h; omega
        · refine ⟨enough_step hR hen hpar, pre ++ [q], ?_, by simp [hlen]⟩
          rw [hpre]
          simp [chainN, hpar]
/-- the function values that pos.up hands out -/
theorem up_ok {g T1 T2 : Nat} (h : Has P f (b_pos_up g T1 T2)) (p R : Nat) : Ret P f [u64V p, intV' R] w fun v w' => ∃ bp br, v = .func (.func g) #[] #[ptrV bp, ptrV br] ∧ Blk w' bp [u64V p] ∧ Blk w' br [intV' R] ∧ bp ≠ br ∧ w.heap.size ≤ bp ∧ w.heap.size ≤ br ∧ Ext w w' := by
  refine Ret.of_exec h (Nat.le_of_ble_eq_true rfl) fun c hc => ?_
  dsimp only [b_pos_up, argEnv, ym, yo, yg, ys, yt, yd, ye]
  refine exec_box rfl rfl ?_
  intro bp w1 hb1 hs1 hu1 hB1
  refine exec_box rfl rfl ?_
  intro br w2 hb2 hs2 hu2 hB2
  refine xr 3 rfl ?_
  refine xre hc [_] ⟨rfl, trivial⟩ ⟨bp, br, rfl, hB1.upd hu2, hB2, by omega, by omega, by omega, hu1.trans hu2⟩
structure WayF (P : Program) extends PosF P where
  up1 : Nat
  up : Nat
  way : Nat
  tree : Nat
  T1 : Nat
  T2 : Nat
  T3 : Nat
  h_up1 : Has P up1 (b_pos_up_1 parent)
  h_up : Has P up (b_pos_up up1 T1 T2)
  h_way : Has P way (b_pos_Way rows row up root T1 T3 T2)
  h_tree : Has P tree (b_pos_Tree way rows row)
variable (B : WayF P)
theorem way_ok (n p : Nat) (hn : n < 2 ^ 64) (hp : p < 2 ^ 64) : RetS P B.way [u64V n, u64V p] w 1 (wayN n p).length ((wayN n p).map u64V) := by
  refine Ret.of_exec B.h_way (Nat.le_of_ble_eq_true rfl) fun c hc => ?_
  dsimp only [b_pos_Way, argEnv, ym, yo, yg, ys, yt, yd, ye]
  refine exec_box rfl rfl ?_
  intro b2 w1 hb2 hs1 hu1 hB2
  refine exec_new rfl ?_
  intro b4 w2 hb4 hs2 hu2 hB4
  skip
  refine exec_load1 (b := b2) (o := 0) rfl rfl ((hB2.upd hu2).cell rfl) ?_
  refine xca rfl rfl (rows_ok B.toPosF n hn) ?_
  rintro v w3 ⟨rfl, hu3⟩
  have e0 : Ext w w3 := (hu1.trans hu2).trans hu3
  -- the answer 'nothing'
  have nothing : ∀ (W : World) (D : List Deferred) (ms : List Nat) (is : List Ins) (k : Kont) (e : Env), wayN n p = [] → Ext w W → Blk W b4 [.slice none 0 0] → D = ms.map markOf → ms.Nodup → (∀ r ∈ ms, W.heap[r]? = some (.deferred (some [])) ∧ w.heap.size ≤ r ∧ r ≠ b4) → e.get 4 = some (ptrV b4) → Exec P 52 c D (.ret :: is) k e W := by
    intro W D ms is k e hw hu hB hD hnd hms he
    refine exec_returnM hc ms hD hnd (fun r hr => (hms r hr).1) [.slice none 0 0] fun W' hu' hs' => ?_
    have hB' := hB.upd hu' (fun h => (hms _ h).2.2 rfl)
    refine ⟨⟨⟨b4, 0, he, hB'.cell rfl⟩, trivial⟩, ?_⟩
    rw [hw]
    exact ⟨.inl (by simp [single]), hu.trans hu' (fun b hb => .inr (hms b hb).2.1), by simp [single, blkOf]⟩
  obtain ⟨R, ok, hRok, hR, hR2⟩ : ∃ (R : Nat) (ok : Bool), (if n < 2 ^ 63 then Value.tuple #[intV' (rowsN n), .bool true] else .tuple #[intV' 0, .bool false]) = .tuple #[intV' R, .bool ok] ∧ R ≤ 63 ∧ (ok = true → n < 2 ^ 63 ∧ R = rowsN n) ∧ (ok = false → ¬ n < 2 ^ 63) := by
    by_cases h63 : n < 2 ^ 63
    · exact ⟨rowsN n, true, by rw [if_pos h63], rowsN_le h63, fun _ => ⟨h63, rfl⟩, fun h => by cases h⟩
    · exact ⟨0, false, by rw [if_neg h63], by omega, fun h => (by cases h), fun _ => h63⟩
  rw [hRok]
  refine xr 7 rfl ?_
  refine xca rfl rfl (row_ok B.toPosF p R hp hR) ?_
  rintro v w4 ⟨rfl, hu4⟩
  obtain ⟨row0, is0, hrw, hrow⟩ : ∃ (r : Nat) (is0 : Bool), optV intV' (rowN p R) = .tuple #[intV' r, .bool is0] ∧ (rowN p R = if is0 then some r else none) := by
    cases rowN p R with
    | none => exact ⟨0, false, rfl, rfl⟩
    | some r => exact ⟨r, true, rfl, rfl⟩
  rw [hrw]
  refine xr 3 rfl ?_
  refine exec_new_store (v := intV' row0) rfl rfl rfl rfl rfl rfl ?_
  intro b7 w5 hb7 hs5 hu5 hB7
  have hB2' : Blk w5 b2 [u64V n] := (((hB2.upd hu2).upd hu3).upd hu4).upd hu5
  have hB4' : Blk w5 b4 [.slice none 0 0] := ((hB4.upd hu3).upd hu4).upd hu5
  have e5 : Ext w w5 := (e0.trans hu4).trans hu5
  have z3 := hu3.size
  have z4 := hu4.size
  have z5 := hu5.size
  refine xr 4 rfl ?_
  by_cases hbad : ok = true ∧ is0 = true
  · obtain ⟨rfl, rfl⟩ := hbad
    obtain ⟨h63, rfl⟩ := hR2.1 rfl
    simp only [if_true] at hrow
    refine xr 9 rfl ?_
    refine xca rfl rfl (up_ok B.h_up p (rowsN n)) ?_
    rintro v w6 ⟨bp, br, rfl, hBp, hBr, hpr, hgp, hgr, hu6⟩
    have hB2'' := hB2'.upd hu6
    have hB4'' := hB4'.upd hu6
    have hB7'' := hB7.upd hu6
    have z6 := hu6.size
    have l2 := hB2''.lt
    have l4 := hB4''.lt
    have l7 := hB7''.lt
    have hway : wayN n p = (wayCut n row0 (chainN 64 (rowsN n) p)).getD [] := by simp only [wayN, if_pos h63, hrow]
    refine xr 1 rfl ?_
    refine exec_rangeF (S := Nat × Value) rfl B.h_up1.enters hc.rd [br] [bp] (fun q => [u64V q]) (chainN 64 (rowsN n) p)
      (fun W hu => up1_ok B.toPosF B.h_up1 (hBp.upd hu) (hBr.upd hu) hpr hR hp (enough64 hR)) u64V (fun _ => rfl) rfl
      w.heap.size [] (fun s => b2 :: b4 :: b7 :: blkOf s.2)
      (fun i s W => s.1 = i ∧ Blk W b2 [u64V n] ∧ Blk W b4 [s.2] ∧ Blk W b7 [intV' (row0 + i)] ∧ OwnC W s.2 1 i (((chainN 64 (rowsN n) p).take i).map u64V) ∧ i ≤ (chainN 64 (rowsN n) p).length ∧ Ext w W ∧ (∀ b ∈ blkOf s.2, w.heap.size ≤ b ∧ b ≠ b2 ∧ b ≠ b4 ∧ b ≠ b7) ∧
        wayCut n row0 (chainN 64 (rowsN n) p) = (wayCut n (row0 + i) ((chainN 64 (rowsN n) p).drop i)).map ((chainN 64 (rowsN n) p).take i ++ ·))
      (fun cd s W => cd = none ∧ Blk W b4 [s.2] ∧ OwnC W s.2 1 (wayN n p).length ((wayN n p).map u64V) ∧ Ext w W ∧ (∀ b ∈ blkOf s.2, w.heap.size ≤ b ∧ b ≠ b4)) (0, .slice none 0 0) ?_ ?_ ?_ ?_ ?_ ?_ ?_ (fun _ => rfl) rfl ?_ ?_ ?_
    · intro i s W W' l' ⟨h1, h2, h3, h4, h5, h6, h7, h8, h9⟩ hu hb
      refine ⟨h1, h2.upd hu ?_, h3.upd hu ?_, h4.upd hu ?_, h5.upd hu ?_, h6, h7.trans hu (fun b hb' => .inr (hb b hb').1), h8, h9⟩
      · intro hm; exact (hb _ hm).2 (by simp)
      · intro hm; exact (hb _ hm).2 (by simp)
      · intro hm; exact (hb _ hm).2 (by simp)
      · intro b hb1 hm; exact (hb _ hm).2 (by simp [hb1])
    · intro cd s W W' l' ⟨h1, h2, h3, h4, h5⟩ hu hb
      refine ⟨h1, h2.upd hu ?_, h3.upd hu ?_, h4.trans hu (fun b hb' => .inr (hb b hb').1), h5⟩
      · intro hm; exact (hb _ hm).2 (by simp)
      · intro b hb1 hm; exact (hb _ hm).2 (by simp [hb1])
    · refine ⟨rfl, hB2'', hB4'', hB7'', .inl (by simp), Nat.zero_le _, e5.trans hu6, by simp [blkOf], ?_⟩
      simp
    · omega
    · intro b hb; simp [blkOf] at hb; omega
    · intro b hb; simp at hb; subst hb
      exact ⟨hBp.lt, by omega, by simp, by simp [blkOf]; omega⟩
    · intro b hb; simp at hb; subst hb
      exact ⟨hBr.lt, by simp, by simp [blkOf]; omega⟩
    · -- a round
      rintro l c' i ⟨i', v⟩ W q hc' ⟨h1, h2, h3, h4, h5, h6, h7, h8, h9⟩ hq hlw hnw
      simp only at h1 h2 h3 h4 h5 h8
      subst h1
      have hql : i' < (chainN 64 (rowsN n) p).length := (List.getElem?_eq_some_iff.1 hq).1
      have hlen := chainN_length 64 (rowsN n) p
      have hq64 : q < 2 ^ 64 := chainN_lt hR hp q (List.mem_of_getElem? hq)
      have htk : (chainN 64 (rowsN n) p).take (i' + 1) = (chainN 64 (rowsN n) p).take i' ++ [q] := by
        rw [List.take_add_one, hq]; rfl
      have hdr : (chainN 64 (rowsN n) p).drop i' = q :: (chainN 64 (rowsN n) p).drop (i' + 1) := by
        rw [List.drop_eq_getElem_cons hql]; congr 1; exact (List.getElem?_eq_some_iff.1 hq).2
      refine xbk ?_
      refine exec_load1 (b := b4) (o := 0) rfl rfl (h3.cell rfl) ?_
      refine xr 1 rfl ?_
      refine exec_lit (N := 1) [u64V q] rfl rfl rfl rfl rfl ?_
      intro bl w7 hbl hs7 hu7 hO7
      refine exec_ok (ok_append (N := 1) rfl rfl (h5.upd hu7 (by simp)) hO7.sl rfl (by decide) (by omega) rfl) rfl ?_
      rintro v2 w8 ⟨hO8, hu8, hf8, hl8⟩
      have n2 : b2 ∉ blkOf v := fun h => (h8 _ h).2.1 rfl
      have n4 : b4 ∉ blkOf v := fun h => (h8 _ h).2.2.1 rfl
      have n7 : b7 ∉ blkOf v := fun h => (h8 _ h).2.2.2 rfl
      have z7 := hu7.size
      have z8 := hu8.size
      have k2 := h2.lt
      have k4 := h3.lt
      have k7 := h4.lt
      have g2 := (h2.upd hu7).upd hu8 n2
      have g4 := (h3.upd hu7).upd hu8 n4
      have g7 := (h4.upd hu7).upd hu8 n7
      have n2' : ∀ b ∈ blkOf v2, w.heap.size ≤ b ∧ b ≠ b2 ∧ b ≠ b4 ∧ b ≠ b7 := by
        intro b hb
        rcases hf8 b hb with h | h
        · exact h8 b h
        · refine ⟨by omega, by omega, by omega, by omega⟩
      refine exec_store (b := b4) (o := 0) (v := v2) rfl rfl g4 ?_ (by simp) ?_ ?_
      · rcases hO8 with ⟨h, _⟩ | ⟨_, _, _, h, _⟩ <;> rw [h] <;> rfl
      · rcases hO8 with ⟨h, _⟩ | ⟨_, _, _, h, _⟩ <;> rw [h] <;> rfl
      intro w9 hu9 hs9 hB9
      have hB9' : Blk w9 b4 [v2] := by
        have : splice [v] 0 v2.cells.toList = [v2] := by
          rcases hO8 with ⟨h, _⟩ | ⟨_, _, _, h, _⟩ <;> rw [h] <;> rfl
        rw [← this]; exact hB9
      have g2' := g2.upd hu9 (by simp; omega)
      have g7' := g7.upd hu9 (by simp; omega)
      have hO9 := hO8.upd hu9 (fun b hb => by simp; exact (n2' b hb).2.2.1)
      have z9 := hu9.size
      refine exec_load1 (b := b2) (o := 0) rfl rfl (g2'.cell rfl) ?_
      refine exec_load1 (b := b7) (o := 0) rfl rfl (g7'.cell rfl) ?_
      refine xca rfl rfl (root_ok B.toPosF n (row0 + i') hn (by have := (rowN_le hrow hR).1; omega)) ?_
      rintro v3 w10 ⟨rfl, hu10⟩
      have z10 := hu10.size
      have hE : Ext w w10 := ((((h7.trans hu7).trans hu8 (fun b hb => .inr (h8 b hb).1)).trans hu9 (fun b hb => .inr (by simp at hb; omega)))).trans hu10
      have hUU : Upd ([] ++ (b2 :: b4 :: b7 :: blkOf v)) W w10 := by
        refine Upd.trans (Upd.trans (Upd.trans (hu7.mono (by simp)) hu8 (fun b hb => .inl (by simp [hb]))) hu9 (fun b hb => .inl (by simp at hb; simp [hb]))) hu10 (by simp)
      have hfr : ∀ b ∈ b2 :: b4 :: b7 :: blkOf v2, b ∈ b2 :: b4 :: b7 :: blkOf v ∨ W.heap.size ≤ b := by
        intro b hb
        simp only [List.mem_cons] at hb ⊢
        rcases hb with h | h | h | h
        · exact .inl (.inl h)
        · exact .inl (.inr (.inl h))
        · exact .inl (.inr (.inr (.inl h)))
        · rcases hf8 b h with h' | h'
          · exact .inl (.inr (.inr (.inr h')))
          · exact .inr (by omega)
      have hlt : ∀ b ∈ b2 :: b4 :: b7 :: blkOf v2, b < w10.heap.size := by
        intro b hb
        simp only [List.mem_cons] at hb
        rcases hb with h | h | h | h
        · omega
        · omega
        · omega
        · have := hl8 b h; omega
      obtain ⟨rt, isr, hrt, hroot⟩ : ∃ (r : Nat) (is0 : Bool), optV u64V (rootN n (row0 + i')) = .tuple #[u64V r, .bool is0] ∧ (rootN n (row0 + i') = if is0 then some r else none) := by
        cases rootN n (row0 + i') with
        | none => exact ⟨0, false, rfl, rfl⟩
        | some r => exact ⟨r, true, rfl, rfl⟩
      rw [hrt]
      have onward : rootN n (row0 + i') ≠ some q → ∀ e, e.get 7 = some (ptrV b7) → Exec P 52 c' [] [.op none (some 50) (.load1 (.tmp 7)), .op none (some 51) (.ibin .add (.tmp 50) (.const (.int .i64 1))), .op none none (.store 1 (.tmp 7) (.tmp 51))] (.blk 1 (.seq [] .done)) e w10 := by
        intro hnr e he
        refine exec_load1 (b := b7) (o := 0) he rfl ((g7'.upd hu10).cell rfl) ?_
        refine xpu (pv_addI (a := row0 + i') (b := 1) rfl rfl (by have := (rowN_le hrow hR).1; omega)) rfl ?_
        refine exec_store (b := b7) (o := 0) (v := intV' (row0 + i' + 1)) (by simp only [Env.ev, Env.get]; exact he) rfl (g7'.upd hu10) rfl (by simp) rfl ?_
        intro w11 hu11 hs11 hB11
        refine xr 2 rfl ?_
        refine exec_round_end hc' ⟨(i' + 1, v2), ⟨rfl, (g2'.upd hu10).upd hu11 (by simp; omega), (hB9'.upd hu10).upd hu11 (by simp; omega), hB11, ?_, hql, hE.trans hu11 (fun b hb => .inr (by simp at hb; omega)), n2', ?_⟩, ?_, hfr, fun b hb => by have := hlt b hb; omega⟩
        · have := (hO9.upd hu10 (by simp)).upd hu11 (fun b hb => by simp; exact (n2' b hb).2.2.2)
          rw [htk, List.map_append]; exact this
        · rw [h9, hdr]
          simp only [wayCut]
          rw [if_neg hnr, htk, Option.map_map]
          congr 1
          funext x
          simp
        · exact hUU.trans hu11 (fun b hb => .inl (by simp at hb; simp [hb]))
      cases isr with
      | false =>
        refine xr 13 rfl ?_
        exact onward (by rw [hroot]; simp) _ rfl
      | true =>
        simp only [if_true] at hroot
        refine xr 14 rfl ?_
        refine exec_cond rfl (fun hb => ?_) (fun hb => ?_)
        · simp only [beq_iff_eq] at hb
          have hrq : rt = q := by omega
          subst hrq
          refine exec_load1 (b := b4) (o := 0) rfl rfl ((hB9'.upd hu10).cell rfl) ?_
          refine exec_store (b := b4) (o := 0) (v := v2) rfl rfl (hB9'.upd hu10) ?_ (by simp) ?_ ?_
          · rcases hO8 with ⟨h, _⟩ | ⟨_, _, _, h, _⟩ <;> rw [h] <;> rfl
          · rcases hO8 with ⟨h, _⟩ | ⟨_, _, _, h, _⟩ <;> rw [h] <;> rfl
          intro w11 hu11 hs11 hB11
          have hB11' : Blk w11 b4 [v2] := by
            have : splice [v2] 0 v2.cells.toList = [v2] := by
              rcases hO8 with ⟨h, _⟩ | ⟨_, _, _, h, _⟩ <;> rw [h] <;> rfl
            rw [← this]; exact hB11
          have hw : wayN n p = (chainN 64 (rowsN n) p).take (i' + 1) := by
            rw [hway, h9, hdr]
            simp only [wayCut, hroot, if_true, Option.map_some, Option.getD_some]
            rw [htk]
          refine exec_round_ret hc' ⟨(i' + 1, v2), ⟨rfl, hB11', ?_, hE.trans hu11 (fun b hb => .inr (by simp at hb; omega)), fun b hb => ⟨(n2' b hb).1, (n2' b hb).2.2.1⟩⟩, hUU.trans hu11 (fun b hb => .inl (by simp at hb; simp [hb])), hfr, fun b hb => by have := hlt b hb; omega⟩
          have := (hO9.upd hu10 (by simp)).upd hu11 (fun b hb => by simp; exact (n2' b hb).2.2.1)
          rw [hw, htk, List.map_append]
          have e3 : ((chainN 64 (rowsN n) p).take i' ++ [rt]).length = i' + 1 := by simp; omega
          rw [e3]
          exact this
        · refine xr 1 rfl ?_
          refine onward (fun h => ?_) _ rfl
          rw [hroot] at h
          cases h
          simp at hb
    · -- all have come
      rintro D0 ⟨i', v⟩ W hD ⟨h1, h2, h3, h4, h5, h6, h7, h8, h9⟩ hsh hnl
      simp only at h1 h3 h8
      subst h1
      refine xr 2 rfl ?_
      refine exec_store (b := b4) (o := 0) (v := .slice none 0 0) rfl rfl h3 rfl (by simp) rfl ?_
      intro w8 hu8 hs8 hB8
      have hne4 : D0 ≠ b4 := by omega
      refine nothing w8 _ [D0] _ _ _ ?_ (h7.trans hu8 (fun b hb => .inr (by simp at hb; omega))) hB8 rfl (by simp) (fun r hr => ?_) rfl
      · rw [hway, h9]; simp [wayCut]
      · simp at hr; subst hr
        exact ⟨(hu8.block _ (Array.getElem?_eq_some_iff.1 hsh).1 (by simp; exact hne4)).trans hsh, by omega, hne4⟩
    · rintro cd D0 ⟨i', v⟩ W hD ⟨rfl, h2, h3, h4, h5⟩ hsh hnl
      simp only at h2 h3 h5
      have hne4 : D0 ≠ b4 := by omega
      refine exec_returnM hc [D0] rfl (by simp) (fun r hr => by simp at hr; subst hr; exact hsh) [v] fun W' hu' hs' => ?_
      refine ⟨⟨⟨b4, 0, rfl, (h2.upd hu' (by simp; omega)).cell rfl⟩, trivial⟩, ?_⟩
      refine ⟨h3.upd hu' (fun b hb => ?_), h4.trans hu' (fun b hb => .inr (by simp at hb; omega)), fun b hb => (h5 b hb).1⟩
      intro h
      simp only [List.mem_singleton] at h
      subst h
      exact hnl (by simp [hb])
  · have hw : wayN n p = [] := by
      unfold wayN
      split
      · rename_i h63
        cases ok with
        | false => exact absurd h63 (hR2.2 rfl)
        | true =>
          obtain ⟨_, rfl⟩ := hR2.1 rfl
          cases is0 with
          | true => exact absurd ⟨rfl, rfl⟩ hbad
          | false => rw [hrow]; rfl
      · rfl
    refine exec_split 25 rfl (fun hb => ?_) (fun hb => ?_)
    · refine xr 4 rfl ?_
      refine exec_store (b := b4) (o := 0) (v := .slice none 0 0) rfl rfl hB4' rfl (by simp) rfl ?_
      intro w8 hu8 hs8 hB8
      exact nothing w8 _ [] _ _ _ hw (e5.trans hu8 (fun b hb => .inr (by simp at hb; omega))) hB8 rfl (by simp) (by simp) rfl
    · have : is0 = false := by
        cases ok <;> cases is0 <;> simp_all
      subst this
      refine xr 6 rfl ?_
      refine exec_store (b := b4) (o := 0) (v := .slice none 0 0) rfl rfl hB4' rfl (by simp) rfl ?_
      intro w8 hu8 hs8 hB8
      exact nothing w8 _ [] _ _ _ hw (e5.trans hu8 (fun b hb => .inr (by simp at hb; omega))) hB8 rfl (by simp) (by simp) rfl
theorem tree_ok (n p : Nat) (hn : n < 2 ^ 64) (hp : p < 2 ^ 64) : RetV P B.tree [u64V n, u64V p] w (optV intV' (treeN n p)) := by
  refine Ret.of_exec B.h_tree (Nat.le_of_ble_eq_true rfl) fun c hc => ?_
  dsimp only [b_pos_Tree, argEnv, ym, yo, yg, ys, yt, yd, ye]
  refine xr 4 rfl ?_
  refine xca rfl rfl (way_ok B n p hn hp) ?_
  rintro v w1 ⟨hO, hu1, hf⟩
  have hlen := wayN_length n p
  rcases hO with ⟨rfl, h0, _⟩ | ⟨b, cap, rest, rfl, hB, h1, h2, h3⟩
  · refine xr 7 rfl ?_
    have hw : wayN n p = [] := List.length_eq_zero_iff.1 h0
    refine xre hc [_, _] ⟨rfl, rfl, trivial⟩ ⟨?_, hu1⟩
    simp only [treeN, hw]; rfl
  · refine xr 4 rfl ?_
    refine exec_cond rfl (fun hb => ?_) (fun hb => ?_)
    · refine xr 2 rfl ?_
      simp only [beq_iff_eq] at hb
      have hw : wayN n p = [] := List.length_eq_zero_iff.1 (by omega)
      refine xre hc [_, _] ⟨rfl, rfl, trivial⟩ ⟨?_, hu1⟩
      simp only [treeN, hw]; rfl
    · have hpos : 0 < (wayN n p).length := by
        rcases Nat.eq_zero_or_pos (wayN n p).length with h | h
        · rw [h] at hb; simp at hb
        · exact h
      refine xr 2 rfl ?_
      refine xca rfl rfl (rows_ok B.toPosF n hn) ?_
      rintro v w2 ⟨rfl, hu2⟩
      have h63 : n < 2 ^ 63 := by
        rcases Nat.lt_or_ge n (2 ^ 63) with h | h
        · exact h
        · rw [wayN, if_neg (by omega)] at hpos; simp at hpos
      rw [if_pos h63]
      refine xr 8 rfl ?_
      refine xpu (pv_subI (a := (wayN n p).length) (b := 1) rfl rfl hpos (by omega)) rfl ?_
      refine xju (ok_iaddr rfl rfl ((wayN n p).length - 1) rfl (by omega)) rfl ?_
      obtain ⟨q, hq⟩ : ∃ q, (wayN n p)[(wayN n p).length - 1]? = some q := ⟨_, List.getElem?_eq_getElem (by omega)⟩
      have hq64 := wayN_lt hp q (List.mem_of_getElem? hq)
      refine exec_load1 (b := b) (o := 0 + ((wayN n p).length - 1) * 1) (v := u64V q) rfl rfl ((hB.upd hu2).cell ?_) ?_
      · rw [Nat.zero_add, Nat.mul_one, List.getElem?_append_left (by simp; omega), List.getElem?_map, hq]; rfl
      refine xr 1 rfl ?_
      refine xca rfl rfl (row_ok B.toPosF q (rowsN n) hq64 (rowsN_le h63)) ?_
      rintro v w3 ⟨rfl, hu3⟩
      have ht : treeN n p = rowN q (rowsN n) := by
        simp only [treeN, List.getLast?_eq_getElem?, hq]
      have e1 := (hu1.trans hu2).trans hu3
      cases hrq : rowN q (rowsN n) with
      | none =>
        refine xr 4 rfl ?_
        exact xre hc [_, _] ⟨rfl, rfl, trivial⟩ ⟨by rw [ht, hrq]; rfl, e1⟩
      | some r =>
        refine xr 4 rfl ?_
        exact xre hc [_, _] ⟨rfl, rfl, trivial⟩ ⟨by rw [ht, hrq]; rfl, e1⟩
end
end Go.Sp

namespace Go.Sp
open Go.Sort (swp insInner insOuter insertionSort)
def ltN (a b : Nat) : Bool := decide (a < b)
theorem insOuter_if (lt : Nat → Nat → Bool) (a b i : Nat) (d : Array Nat) : insOuter lt a b i d = if i < b then insOuter lt a b (i + 1) (insInner lt a i d) else d := by rw [insOuter]
theorem insInner_succ (lt : Nat → Nat → Bool) (a j : Nat) (d : Array Nat) : insInner lt a (j + 1) d = if j + 1 > a && lt d[j + 1]! d[j]! then insInner lt a j (swp d (j + 1) j) else d := rfl
/-- the cells of a row, and what lies behind it -/
def row (d : Array Nat) (rest : List Value) : List Value := d.toList.map u64V ++ rest
abbrev slV (b n cap : Nat) : Value := .slice (some ⟨b, 0, none⟩) n cap
theorem row_length (d : Array Nat) (rest : List Value) : (row d rest).length = d.size + rest.length := by simp [row]
theorem row_get {d : Array Nat} {rest : List Value} {i : Nat} (h : i < d.size) : (row d rest)[0 + i * 1]? = some (u64V d[i]!) := by
  rw [Nat.zero_add, Nat.mul_one, row, List.getElem?_append_left (by simpa using h), List.getElem?_map]
  simp [h]
theorem splice_one (cs : List Value) (o : Nat) (v : Value) (h : o < cs.length) : splice cs o [v] = cs.set o v := by
  rw [← splice_cons cs o v [] h, splice]
  simp
theorem row_set {d : Array Nat} {rest : List Value} {i x : Nat} (h : i < d.size) : splice (row d rest) (0 + i * 1) (Value.cells (u64V x)).toList = row (d.setIfInBounds i x) rest := by
  have e1 : (Value.cells (u64V x)).toList = [u64V x] := rfl
  rw [e1, splice_one _ _ _ (by rw [row_length]; omega), Nat.zero_add, Nat.mul_one, row, row, List.set_append_left _ _ (by simpa using h)]
  simp [List.map_set]
theorem row_swp {d : Array Nat} {rest : List Value} {i j : Nat} (hi : i < d.size) (hj : j < d.size) :
    splice (splice (row d rest) (0 + i * 1) (Value.cells (u64V d[j]!)).toList) (0 + j * 1) (Value.cells (u64V d[i]!)).toList = row (swp d i j) rest := by
  rw [row_set hi, row_set (by simpa using hj)]
  rfl
theorem swp_size (d : Array Nat) (i j : Nat) : (swp d i j).size = d.size := by simp [swp]
section
variable {P : Program} {f : Nat} {w : World}
theorem isNaN_ok (h : Has P f b_cmp_isNaN_uint64) (a : Nat) : RetV P f [u64V a] w (.bool false) := by
  refine Ret.of_exec h (Nat.le_of_ble_eq_true rfl) fun c hc => ?_
  dsimp only [b_cmp_isNaN_uint64, argEnv, ym, yo, yg, ys, yt, yd, ye]
  refine xau rfl rfl rfl ?_
  refine xau rfl rfl rfl ?_
  refine xau rfl rfl rfl ?_
  refine xpu (pv_neqI (a := a) (b := a) (q := false) rfl rfl (by simp)) rfl ?_
  refine xr 1 rfl ?_
  exact xre hc [_] ⟨rfl, trivial⟩ ⟨rfl, Upd.refl _ _⟩
theorem less_ok {g : Nat} (h0 : Has P g b_cmp_isNaN_uint64) (h : Has P f (b_cmp_Less_uint64 g)) (a b : Nat) : RetV P f [u64V a, u64V b] w (.bool (ltN a b)) := by
  refine Ret.of_exec h (Nat.le_of_ble_eq_true rfl) fun c hc => ?_
  dsimp only [b_cmp_Less_uint64, argEnv, ym, yo, yg, ys, yt, yd, ye]
  refine xr 2 rfl ?_
  refine xca rfl rfl (isNaN_ok h0 a) ?_
  rintro v w1 ⟨rfl, hu1⟩
  refine xr 11 rfl ?_
  refine xpu (pv_lssI (a := a) (b := b) (q := ltN a b) rfl rfl rfl) rfl ?_
  refine xr 2 rfl ?_
  exact xre hc [_] ⟨rfl, trivial⟩ ⟨rfl, hu1⟩
end
/-- the functions of the sort -/
structure SortF (P : Program) extends PosF P where
  nan : Nat
  less : Nat
  h_nan : Has P nan b_cmp_isNaN_uint64
  h_less : Has P less (b_cmp_Less_uint64 nan)
section
variable {P : Program} {f : Nat} {w : World} (A : SortF P)
theorem ins_ok (h : Has P f (b_slices_insertionSortOrdered_uint64 A.less)) {b n cap x y : Nat} {d : Array Nat} {rest : List Value} (hB : Blk w b (row d rest)) (hd : d.size = n) (hxy : x ≤ y) (hy : y ≤ n) (hn : n < 2 ^ 40) :
    Ret P f [slV b n cap, intV' x, intV' y] w fun _ w' => Blk w' b (row (insertionSort ltN d x y) rest) ∧ Upd [b] w w' := by
  refine Ret.of_exec h (Nat.le_of_ble_eq_true rfl) fun c hc => ?_
  dsimp only [b_slices_insertionSortOrdered_uint64, argEnv, ym, yo, yg, ys, yt, yd, ye]
  refine xr 1 rfl ?_
  refine xpu (pv_addI (a := x) (b := 1) rfl rfl (by omega)) rfl ?_
  refine xr 2 rfl ?_
  refine xlo (S := Nat × Array Nat) (fun s W => x < s.1 ∧ s.1 ≤ max y (x + 1) ∧ s.2.size = n ∧ insOuter ltN x y s.1 s.2 = insertionSort ltN d x y ∧ Blk W b (row s.2 rest) ∧ Upd [b] w W)
    (fun s => [(0, slV b n cap), (1, intV' x), (2, intV' y), (6, intV' s.1)]) (fun s => y + 1 - s.1) (x + 1, d) ⟨by show x < x + 1; omega, by show x + 1 ≤ max y (x + 1); omega, hd, rfl, hB, Upd.refl _ _⟩ ⟨rfl, rfl, rfl, rfl, trivial⟩ ?_
  rintro ⟨i, dk⟩ W ⟨h1, h2, h3, h4, h5, h6⟩
  simp only at h1 h2 h3 h4 h5
  refine xr 2 rfl ?_
  by_cases hiy : i < y
  · refine xpu (pv_lssI (a := i) (b := y) (q := true) rfl rfl (by simpa using hiy)) rfl ?_
    refine xr 6 rfl ?_
    refine exec_inner_join (S := Array Nat) (fun dj W => dj.size = n ∧ dj = insInner ltN x i dk ∧ Blk W b (row dj rest) ∧ Upd [b] w W) (fun _ => [(0, slV b n cap), (1, intV' x), (2, intV' y), (6, intV' i)]) ?_ ?_
    rotate_left
    · rintro dj W2 ⟨q0, q1, q2, q3⟩
      refine xr 3 rfl ?_
      refine xpu (pv_addI (a := i) (b := 1) rfl rfl (by omega)) rfl ?_
      refine xr 1 rfl ?_
      refine xag (i + 1, dj) ⟨by show x < i + 1; omega, by show i + 1 ≤ max y (x + 1); omega, q0, ?_, q2, q3⟩ (by show y + 1 - (i + 1) < y + 1 - i; omega) ⟨rfl, rfl, rfl, rfl, trivial⟩
      rw [← h4]
      show insOuter ltN x y (i + 1) dj = insOuter ltN x y i dk
      rw [insOuter_if ltN x y i dk, if_pos hiy, q1]
    refine xlo (S := Nat × Array Nat) (fun s W => x ≤ s.1 ∧ s.1 ≤ i ∧ s.2.size = n ∧ insInner ltN x s.1 s.2 = insInner ltN x i dk ∧ Blk W b (row s.2 rest) ∧ Upd [b] w W)
      (fun s => [(0, slV b n cap), (1, intV' x), (2, intV' y), (6, intV' i), (7, intV' s.1)]) (fun s => s.1) (i, dk) ⟨by show x ≤ i; omega, Nat.le_refl _, h3, rfl, h5, h6⟩ ⟨rfl, rfl, rfl, rfl, rfl, trivial⟩ ?_
    rintro ⟨j, dj⟩ W1 ⟨g1, g2, g3, g4, g5, g6⟩
    simp only at g1 g2 g3 g4 g5
    by_cases hjx : x < j
    · obtain ⟨k, rfl⟩ : ∃ k, j = k + 1 := ⟨j - 1, by omega⟩
      have hk1 : k + 1 < dj.size := by omega
      have hk : k < dj.size := by omega
      refine exec_dw [] rfl rfl rfl ?_
      refine dau rfl (fun _ => rfl) ?_
      refine dau rfl (fun _ => rfl) ?_
      refine dw_val (fun _ => pv_gtrI (a := k + 1) (b := x) (q := true) rfl rfl (by simpa using hjx)) ?_
      repeat (first | refine dau rfl (fun _ => rfl) ?_ | refine dga rfl (fun _ => rfl) (fun _ => rfl) ?_ | refine dgs (fun _ => rfl) ?_)
      refine dw_gok _ (fun _ => rfl) (fun vs W' hu _ => (ok_iaddr (b := b) (o := 0) (len := n) (cap := cap) rfl rfl (k + 1) rfl (by omega)).keep _) ?_
      refine dw_gok (u64V dj[k + 1]!) (fun _ => rfl) (fun vs W' hu _ => (ok_load1 (b := b) (o := 0 + (k + 1) * 1) rfl ((g5.upd hu).cell (row_get (by omega)))).keep _) ?_
      repeat (first | refine dau rfl (fun _ => rfl) ?_ | refine dga rfl (fun _ => rfl) (fun _ => rfl) ?_ | refine dgs (fun _ => rfl) ?_)
      refine dw_gval (fun _ => rfl) (fun _ => pv_subI (a := k + 1) (b := 1) rfl rfl (by omega) (by omega)) ?_
      refine dw_gok _ (fun _ => rfl) (fun vs W' hu _ => (ok_iaddr (b := b) (o := 0) (len := n) (cap := cap) rfl rfl (k) rfl (by omega)).keep _) ?_
      refine dw_gok (u64V dj[k]!) (fun _ => rfl) (fun vs W' hu _ => (ok_load1 (b := b) (o := 0 + (k) * 1) rfl ((g5.upd hu).cell (row_get (by omega)))).keep _) ?_
      refine dw_end fun vs W2 hu2 _ => ?_
      refine xr 1 rfl ?_
      refine xca rfl rfl (less_ok A.h_nan A.h_less dj[k + 1]! dj[k]!) ?_
      rintro v W3 ⟨rfl, hu3⟩
      refine xr 1 rfl ?_
      have hu23 : Ext W1 W3 := hu2.trans hu3
      have g5' := g5.upd hu23
      refine exec_cond rfl (fun hc2 => ?_) (fun hc2 => ?_)
      · refine xr 2 rfl ?_
        refine exec_dws [b] 15 (fun W => Blk W b (splice (row dj rest) (0 + (k + 1) * 1) (Value.cells (u64V dj[k]!)).toList)) (fun W W' h hu => h.upd hu) rfl rfl rfl ?_
        repeat (first | refine ws_auto rfl rfl rfl ?_ | refine ws_gauto rfl rfl rfl rfl ?_ | refine wgs rfl rfl ?_)
        refine ws_val rfl (pv_subI (a := k + 1) (b := 1) rfl rfl (by omega) (by omega)) ?_
        repeat (first | refine ws_auto rfl rfl rfl ?_ | refine ws_gauto rfl rfl rfl rfl ?_ | refine wgs rfl rfl ?_)
        refine ws_val rfl (pv_subI (a := k + 1) (b := 1) rfl rfl (by omega) (by omega)) ?_
        refine ws_any _ rfl (fun W => ok_iaddr (b := b) (o := 0) (len := n) (cap := cap) rfl rfl (k) rfl (by omega)) ?_
        refine ws_ok (u64V dj[k]!) rfl rfl (fun W hu => ok_load1 (b := b) (o := 0 + (k) * 1) rfl ((g5'.upd hu).cell (row_get (by omega)))) ?_
        repeat (first | refine ws_auto rfl rfl rfl ?_ | refine ws_gauto rfl rfl rfl rfl ?_ | refine wgs rfl rfl ?_)
        refine ws_any _ rfl (fun W => ok_iaddr (b := b) (o := 0) (len := n) (cap := cap) rfl rfl (k + 1) rfl (by omega)) ?_
        refine ws_ok (u64V dj[k + 1]!) rfl rfl (fun W hu => ok_load1 (b := b) (o := 0 + (k + 1) * 1) rfl ((g5'.upd hu).cell (row_get (by omega)))) ?_
        refine ws_any _ rfl (fun W => ok_iaddr (b := b) (o := 0) (len := n) (cap := cap) rfl rfl (k + 1) rfl (by omega)) ?_
        refine ws_store rfl rfl rfl g5' rfl (by rw [row_length]; omega) rfl (by simp) (fun W h => h) ?_
        refine ws_end fun W_a hu_a hW_a => ?_
        refine xju (ok_iaddr (b := b) (o := 0) (len := n) (cap := cap) rfl rfl (k) rfl (by omega)) rfl ?_
        refine exec_store (b := b) (o := 0 + (k) * 1) (v := u64V dj[k + 1]!) rfl rfl (hW_a rfl) rfl (by rw [row_set (by omega), row_length]; simp; omega) rfl ?_
        intro W5 hu_b _ hB5
        rw [row_swp (by omega) (by omega)] at hB5
        have hu5 := hu_a.trans hu_b (by simp)
        refine xr 3 rfl ?_
        refine xpu (pv_subI (a := k + 1) (b := 1) rfl rfl (by omega) (by omega)) rfl ?_
        refine xr 1 rfl ?_
        refine xag (k, swp dj (k + 1) k) ⟨by show x ≤ k; omega, by show k ≤ i; omega, by rw [swp_size]; exact g3, ?_, hB5, ?_⟩ (by show k < k + 1; omega) ⟨rfl, rfl, rfl, rfl, rfl, trivial⟩
        · rw [← g4]
          show insInner ltN x k _ = insInner ltN x (k + 1) dj
          rw [insInner_succ, if_pos (by simp only [Bool.and_eq_true, decide_eq_true_eq]; exact ⟨hjx, hc2⟩)]
        · exact (g6.trans hu23 (by simp)).trans hu5 (by simp)
      · refine xr 1 rfl ?_
        refine exec_meet dj ⟨g3, ?_, g5', g6.trans hu23 (by simp)⟩ ⟨rfl, rfl, rfl, rfl, trivial⟩
        rw [← g4, insInner_succ, if_neg (by rw [hc2]; simp)]
    · refine exec_dw [] rfl rfl rfl ?_
      refine dau rfl (fun _ => rfl) ?_
      refine dau rfl (fun _ => rfl) ?_
      refine dw_val (fun _ => pv_gtrI (a := j) (b := x) (q := false) rfl rfl (by simpa using hjx)) ?_
      repeat (first | refine dau rfl (fun _ => rfl) ?_ | refine dga rfl (fun _ => rfl) (fun _ => rfl) ?_ | refine dgs (fun _ => rfl) ?_)
      refine dw_end fun vs W2 hu2 _ => ?_
      refine xr 4 rfl ?_
      refine exec_meet dj ⟨g3, ?_, g5.upd hu2, g6.trans hu2 (by simp)⟩ ⟨rfl, rfl, rfl, rfl, trivial⟩
      rw [← g4]
      cases j with
      | zero => rfl
      | succ j => rw [insInner_succ, if_neg]; simp; omega
  · refine xpu (pv_lssI (a := i) (b := y) (q := false) rfl rfl (by simpa using hiy)) rfl ?_
    refine xr 3 rfl ?_
    refine exec_end hc [] trivial ?_
    have : insertionSort ltN d x y = dk := by rw [← h4, insOuter_if, if_neg hiy]
    rw [this]
    exact ⟨h5, h6⟩
end
end Go.Sp

namespace Go.Sp
def b_Pforest_Forest_Prove (f0 f1 f2 f3 f4 : Nat) (T0 T1 T2 : Nat) : Body := { n := 82,res := [.cell true 2 4,.tmp 5],code := [yo 4 (.new T0 (rle [(2,.slice none 0 0)])),yo 5 (.mov (.const (.int .i64 0))),ym 19 0,
 yo 20 (.call f0 #[(yt 19)]),yo 21 (.un .not (yt 20)),.cond (yt 21) [yo 22 (.mk (rle [(2,.slice none 0 0)]) []),ys 2 4 22,yo 5 (.mov (.const (.int .i64 1))),.ret] [],ym 24 0,ym 25 1,yo 26 (.call f1 #[(yt 24),(yt 25)]),
 ym 23 26,yo 27 (.ext (yt 23) 0),yo 28 (.ext (yt 23) 1),ym 6 27,ym 7 28,ym 29 7,yo 30 (.ibin .neq (yt 29) (.const (.int .i64 0))),.cond (yt 30) [yo 31 (.mk (rle [(2,.slice none 0 0)]) []),ym 32 7,ys 2 4 31,ym 5 32,
 .ret] [],yo 8 (.new T0 (rle [(2,.slice none 0 0)])),ym 33 1,yo 34 (.lenS (yt 33)),yo 35 (.mov (.const (.int .i64 0))),.block 0 [.loop [yo 36 (.ibin .lss (yt 35) (yt 34)),.cond (yt 36) [] [.exit 0],.block 1 [
 yo 37 (.iaddr 32 (yt 33) (yt 35)),yo 38 (.loadN 32 (yt 37)),yo 10 (.new T1 (rle [(32,.int .u8 0)])),ys 32 10 38,ym 40 0,yo 41 (.loadN 32 (yt 10)),yo 42 (.call f2 #[(yt 40),(yt 41)]),ym 39 42,yo 43 (.ext (yt 39) 0),
 yo 44 (.ext (yt 39) 1),ym 11 43,ym 12 44,yo 45 (.faddr 0 (yt 8)),yo 46 (.load1 (yt 45)),ym 47 11,yo 48 (.mkSlice T2 1 (rle [(1,.int .u64 0)]) [(0,1,(yt 47))]),
 yo 49 (.append T2 1 8 (rle [(1,.int .u64 0)]) (yt 46) (yt 48)),yo 50 (.faddr 0 (yt 8)),ys 1 50 49],yo 51 (.ibin .add (yt 35) (.const (.int .i64 1))),ym 35 51]],.draw [yd [] 53 (.mov (yt 0)),yd [0] 54 (.nilc (yt 53)),
 yd [1,0] 55 (.faddr 0 (yt 54)),yd [2,1,0] 56 (.load1 (yt 55)),yd [] 57 (.faddr 0 (yt 8)),yd [4] 58 (.load1 (yt 57)),yd [3,5,2,1,0,4] 59 (.call f3 #[(yt 56),(yt 58)]),yd [6,3,5,2,1,0,4] 52 (.mov (yt 59)),
 yd [7,6,3,5,2,1,0,4] 60 (.ext (yt 52) 0),yd [7,6,3,5,2,1,0,4] 61 (.ext (yt 52) 1),yd [8,6,0,1,2,3,4,5,7] 13 (.mov (yt 60))] [ym 14 61],ym 62 13,yo 63 (.lenS (yt 62)),yo 64 (.mov (.const (.int .i64 0))),.block 2 [.loop [
 yo 65 (.ibin .lss (yt 64) (yt 63)),.cond (yt 65) [] [.exit 2],.block 3 [yo 66 (.iaddr 1 (yt 62) (yt 64)),yo 67 (.load1 (yt 66)),ym 16 67,ym 69 0,ym 70 16,yo 71 (.call f4 #[(yt 69),(yt 70)]),ym 68 71,
 yo 72 (.ext (yt 68) 0),yo 73 (.ext (yt 68) 1),yo 17 (.new T1 (rle [(32,.int .u8 0)])),ys 32 17 72,ym 18 73,yo 74 (.faddr 1 (yt 8)),yo 75 (.load1 (yt 74)),yo 76 (.loadN 32 (yt 17)),
 yo 77 (.mkSlice T1 1 (rle [(32,.int .u8 0)]) [(0,32,(yt 76))]),yo 78 (.append T1 32 32 (rle [(32,.int .u8 0)]) (yt 75) (yt 77)),yo 79 (.faddr 1 (yt 8)),ys 1 79 78],yo 80 (.ibin .add (yt 64) (.const (.int .i64 1))),
 ym 64 80]],yo 81 (.loadN 2 (yt 8)),ys 2 4 81,yo 5 (.mov (.const (.int .i64 0))),.ret] }
def b_Pforest_Forest_Where (f0 f1 f2 f3 f4 f5 : Nat) (T0 T1 T2 : Nat) : Body := { n := 77,res := [.tmp 4,.tmp 5],code := [yo 3 (.box T0 (yt 1)),yo 4 (.mov (.const (.int .u64 0))),yo 5 (.mov (.const (.bool false))),
 ym 11 0,yo 12 (.call f0 #[(yt 11)]),yo 13 (.un .not (yt 12)),.cond (yt 13) [yo 4 (.mov (.const (.int .u64 0))),yo 5 (.mov (.const (.bool false))),.ret] [],.draw [yd [] 15 (.mov (yt 0)),yd [0] 16 (.nilc (yt 15)),
 yd [1,0] 17 (.faddr 2 (yt 16)),yd [2,1,0] 18 (.load1 (yt 17)),yd [] 19 (.loadN 32 (yt 3)),yd [3,4,2,1,0] 20 (.lookup T0 (.int .u64 0) (yt 18) (yt 19) true),yd [5,3,4,2,1,0] 14 (.mov (yt 20)),
 yd [6,5,3,4,2,1,0] 21 (.ext (yt 14) 0),yd [6,5,3,4,2,1,0] 22 (.ext (yt 14) 1),yd [] 6 (.new T1 (rle [(1,.int .u64 0)])),([9,7,0,1,2,3,4,5,6],none,none,.store 1 (yt 6) (yt 21))] [ym 7 22],ym 23 7,
 yo 24 (.un .not (yt 23)),.cond (yt 24) [yo 4 (.mov (.const (.int .u64 0))),yo 5 (.mov (.const (.bool false))),.ret] [],ym 25 0,yo 26 (.nilc (yt 25)),yo 27 (.faddr 1 (yt 26)),yo 28 (.load1 (yt 27)),
 yo 29 (.fn f1 #[] #[(yt 6)]),yo 30 (.call f2 #[(yt 28),(yt 29)]),ym 8 30,.draw [yd [] 31 (.mov (yt 0)),yd [] 32 (.mov (yt 0)),yd [1] 33 (.nilc (yt 32)),yd [2,1] 34 (.faddr 1 (yt 33)),yd [3,2,1] 35 (.load1 (yt 34)),
 yd [] 36 (.mov (yt 8)),yd [4,5,3,2,1] 37 (.iaddr 3 (yt 35) (yt 36)),yd [6,4,5,3,2,1] 38 (.loadN 3 (yt 37)),yd [0,7,6,4,5,3,2,1] 39 (.call f3 #[(yt 31),(yt 38)]),yd [] 40 (.mov (yt 0)),yd [9] 41 (.nilc (yt 40)),
 yd [10,9] 42 (.faddr 1 (yt 41)),yd [11,10,9] 43 (.load1 (yt 42)),yd [] 44 (.mov (yt 8)),yd [12,13,11,10,9] 45 (.iaddr 3 (yt 43) (yt 44)),yd [14,12,13,11,10,9] 46 (.faddr 0 (yt 45)),
 yd [15,14,12,13,11,10,9] 47 (.load1 (yt 46)),yd [8,0,1,2,3,4,5,6,7] 9 (.mov (yt 39))] [ym 10 47],.block 0 [.loop [ym 48 10,yo 49 (.nilc (yt 48)),yo 50 (.faddr 32 (yt 49)),yo 51 (.load1 (yt 50)),
 yo 52 (.bin .neq T2 (yt 51) (.const (.pointer none))),.cond (yt 52) [] [.exit 0],.block 1 [ym 54 9,ym 55 0,yo 56 (.call f4 #[(yt 55)]),yo 57 (.call f5 #[(yt 54),(yt 56)]),ym 53 57,yo 58 (.ext (yt 53) 0),
 yo 59 (.ext (yt 53) 1),ym 9 58,.draw [yd [] 60 (.load1 (yt 6)),yd [] 61 (.mov (yt 10)),yd [1] 62 (.nilc (yt 61)),yd [2,1] 63 (.faddr 34 (yt 62)),yd [3,2,1] 64 (.load1 (yt 63))] [yo 65 (.ibin .lss (yt 60) (yt 64))],
 .cond (yt 65) [ym 66 10,yo 67 (.nilc (yt 66)),yo 68 (.faddr 32 (yt 67)),yo 69 (.load1 (yt 68)),ym 10 69] [ym 70 10,yo 71 (.nilc (yt 70)),yo 72 (.faddr 33 (yt 71)),yo 73 (.load1 (yt 72)),ym 10 73,ym 74 9,
 yo 75 (.ibin .add (yt 74) (.const (.int .u64 1))),ym 9 75]]]],ym 76 9,ym 4 76,yo 5 (.mov (.const (.bool true))),.ret] }
def b_Pforest_Forest_Stump (f0 : Nat) (T0 T1 T2 T3 : Nat) : Body := { n := 42,res := [.cell true 2 2],code := [yo 2 (.new T0 (rle [(1,.int .u64 0),(1,.slice none 0 0)])),ym 7 0,yo 8 (.call f0 #[(yt 7)]),
 yo 9 (.un .not (yt 8)),.cond (yt 9) [yo 10 (.mk (rle [(1,.int .u64 0),(1,.slice none 0 0)]) []),ys 2 2 10,.ret] [],ym 11 0,yo 12 (.nilc (yt 11)),yo 13 (.faddr 0 (yt 12)),yo 14 (.load1 (yt 13)),
 yo 15 (.mk (rle [(1,.int .u64 0),(1,.slice none 0 0)]) [(0,1,(yt 14))]),yo 3 (.new T0 (rle [(1,.int .u64 0),(1,.slice none 0 0)])),ys 2 3 15,ym 16 0,yo 17 (.nilc (yt 16)),yo 18 (.faddr 1 (yt 17)),yo 19 (.load1 (yt 18)),
 yo 20 (.lenS (yt 19)),yo 21 (.mov (.const (.int .i64 0))),.block 0 [.loop [yo 22 (.ibin .lss (yt 21) (yt 20)),.cond (yt 22) [] [.exit 0],.block 1 [yo 23 (.iaddr 3 (yt 19) (yt 21)),yo 24 (.loadN 3 (yt 23)),
 yo 5 (.new T1 (rle [(1,.pointer none),(1,.int .u64 0),(1,.int .i64 0)])),ys 3 5 24,yo 6 (.new T2 (rle [(1,.bool false),(32,.int .u8 0)])),yo 25 (.faddr 0 (yt 5)),yo 26 (.load1 (yt 25)),
 yo 27 (.bin .neq T3 (yt 26) (.const (.pointer none))),.cond (yt 27) [yo 28 (.faddr 0 (yt 5)),yo 29 (.load1 (yt 28)),yo 30 (.nilc (yt 29)),yo 31 (.faddr 0 (yt 30)),yo 32 (.loadN 32 (yt 31)),
 yo 33 (.mk (rle [(1,.bool false),(32,.int .u8 0)]) [(0,1,(.const (.bool true))),(1,32,(yt 32))]),ys 33 6 33] [],yo 34 (.faddr 1 (yt 3)),yo 35 (.load1 (yt 34)),yo 36 (.loadN 33 (yt 6)),
 yo 37 (.mkSlice T2 1 (rle [(1,.bool false),(32,.int .u8 0)]) [(0,33,(yt 36))]),yo 38 (.append T2 33 33 (rle [(1,.bool false),(32,.int .u8 0)]) (yt 35) (yt 37)),yo 39 (.faddr 1 (yt 3)),ys 1 39 38],
 yo 40 (.ibin .add (yt 21) (.const (.int .i64 1))),ym 21 40]],yo 41 (.loadN 2 (yt 3)),ys 2 2 41,.ret] }
def b_forest_New (T0 : Nat) : Body := { n := 4,res := [.tmp 0],code := [yo 0 (.mov (.const (.pointer none))),yo 1 (.mkMap),
 yo 2 (.mk (rle [(1,.int .u64 0),(1,.slice none 0 0),(1,.map none),(2,.int .i64 0)]) [(2,1,(yt 1))]),yo 3 (.box T0 (yt 2)),ym 0 3,.ret] }
def b_Pforest_Forest_Copy (f0 f1 f2 : Nat) (T0 : Nat) : Body := { n := 22,res := [.tmp 2],code := [yo 2 (.mov (.const (.pointer none))),ym 4 0,yo 5 (.call f0 #[(yt 4)]),yo 6 (.un .not (yt 5)),.cond (yt 6) [
 yo 2 (.mov (.const (.pointer none))),.ret] [],ym 7 0,yo 8 (.nilc (yt 7)),yo 9 (.loadN 5 (yt 8)),yo 3 (.new T0 (rle [(1,.int .u64 0),(1,.slice none 0 0),(1,.map none),(2,.int .i64 0)])),ys 5 3 9,.draw [
 yd [] 10 (.mov (yt 0)),yd [0] 11 (.nilc (yt 10)),yd [1,0] 12 (.faddr 1 (yt 11)),yd [2,1,0] 13 (.load1 (yt 12)),yd [3,2,1,0] 14 (.call f1 #[(yt 13)]),yd [] 15 (.mov (yt 0)),yd [5] 16 (.nilc (yt 15)),
 yd [6,5] 17 (.faddr 2 (yt 16)),yd [7,6,5] 18 (.load1 (yt 17))] [yo 19 (.call f2 #[(yt 18)]),yo 20 (.faddr 1 (yt 3)),ys 1 20 14,yo 21 (.faddr 2 (yt 3)),ys 1 21 19],ym 2 3,.ret] }
def b_Pforest_Forest_Modify (f0 f1 f2 f3 f4 f5 f6 f7 : Nat) (T0 T1 : Nat) : Body := { n := 110,res := [.cell true 7 6,.tmp 7],code := [
 yo 6 (.new T0 (rle [(1,.pointer none),(2,.int .i64 0),(1,.int .u64 0),(1,.slice none 0 0),(2,.map none)])),yo 7 (.mov (.const (.int .i64 0))),ym 15 0,yo 16 (.call f0 #[(yt 15)]),yo 17 (.un .not (yt 16)),.cond (yt 17) [
 yo 18 (.mk (rle [(1,.pointer none),(2,.int .i64 0),(1,.int .u64 0),(1,.slice none 0 0),(2,.map none)]) []),ys 7 6 18,yo 7 (.mov (.const (.int .i64 1))),.ret] [],ym 20 0,ym 21 1,yo 22 (.call f1 #[(yt 20),(yt 21)]),
 ym 19 22,yo 23 (.ext (yt 19) 0),yo 24 (.ext (yt 19) 1),ym 8 23,ym 9 24,ym 25 9,yo 26 (.ibin .neq (yt 25) (.const (.int .i64 0))),.cond (yt 26) [
 yo 27 (.mk (rle [(1,.pointer none),(2,.int .i64 0),(1,.int .u64 0),(1,.slice none 0 0),(2,.map none)]) []),ym 28 9,ys 7 6 27,ym 7 28,.ret] [],ym 30 0,ym 31 2,ym 32 8,yo 33 (.call f2 #[(yt 30),(yt 31),(yt 32)]),ym 29 33,
 yo 34 (.ext (yt 29) 0),yo 35 (.ext (yt 29) 1),ym 10 34,ym 9 35,ym 36 9,yo 37 (.ibin .neq (yt 36) (.const (.int .i64 0))),.cond (yt 37) [
 yo 38 (.mk (rle [(1,.pointer none),(2,.int .i64 0),(1,.int .u64 0),(1,.slice none 0 0),(2,.map none)]) []),ym 39 9,ys 7 6 38,ym 7 39,.ret] [],ym 40 0,yo 41 (.nilc (yt 40)),yo 42 (.faddr 4 (yt 41)),
 yo 43 (.load1 (yt 42)),yo 44 (.ibin .add (yt 43) (.const (.int .i64 1))),yo 45 (.nilc (yt 40)),yo 46 (.faddr 4 (yt 45)),ys 1 46 44,.draw [yd [] 47 (.mov (yt 0)),yd [] 48 (.mov (yt 0)),yd [1] 49 (.nilc (yt 48)),
 yd [2,1] 50 (.faddr 4 (yt 49)),yd [3,2,1] 51 (.load1 (yt 50)),yd [] 52 (.mov (yt 0)),yd [5] 53 (.nilc (yt 52)),yd [6,5] 54 (.faddr 3 (yt 53)),yd [7,6,5] 55 (.load1 (yt 54)),yd [] 56 (.mov (yt 0)),
 yd [9] 57 (.nilc (yt 56)),yd [10,9] 58 (.faddr 0 (yt 57)),yd [11,10,9] 59 (.load1 (yt 58)),yd [] 60 (.mov (yt 0)),yd [13] 61 (.nilc (yt 60)),yd [14,13] 62 (.faddr 1 (yt 61)),yd [15,14,13] 63 (.load1 (yt 62)),
 yd [] 64 (.mov (yt 8)),yd [] 65 (.mov (yt 10)),
 yd [0,4,8,12,16,17,18,3,2,1,7,6,5,11,10,9,15,14,13] 66 (.mk (rle [(1,.pointer none),(2,.int .i64 0),(1,.int .u64 0),(1,.slice none 0 0),(2,.map none)]) [(0,1,(yt 47)),(1,1,(yt 51)),(2,1,(yt 55)),(3,1,(yt 59)),(4,1,(yt 63)),(5,1,(yt 64)),(6,1,(yt 65))]),
 yd [] 11 (.new T0 (rle [(1,.pointer none),(2,.int .i64 0),(1,.int .u64 0),(1,.slice none 0 0),(2,.map none)]))] [ys 7 11 66],.draw [yd [] 67 (.mov (yt 0)),yd [0] 68 (.nilc (yt 67)),yd [1,0] 69 (.faddr 1 (yt 68)),
 yd [2,1,0] 70 (.load1 (yt 69)),yd [] 71 (.mov (yt 8)),yd [4] 72 (.call f3 #[(yt 71)]),yd [5,4] 73 (.call f4 #[(yt 72)])] [yo 74 (.call f5 #[(yt 70),(yt 73)]),ym 12 74],ym 75 2,yo 76 (.lenS (yt 75)),
 yo 77 (.mov (.const (.int .i64 0))),.block 0 [.loop [yo 78 (.ibin .lss (yt 77) (yt 76)),.cond (yt 78) [] [.exit 0],.block 1 [yo 79 (.iaddr 32 (yt 75) (yt 77)),yo 80 (.loadN 32 (yt 79)),
 yo 14 (.new T1 (rle [(32,.int .u8 0)])),ys 32 14 80,.draw [yd [] 81 (.mov (yt 12)),yd [] 82 (.loadN 32 (yt 14)),yd [] 83 (.mov (yt 0)),yd [2] 84 (.nilc (yt 83)),yd [3,2] 85 (.faddr 0 (yt 84)),
 yd [4,3,2] 86 (.load1 (yt 85))] [yo 87 (.call f6 #[(yt 81),(yt 82),(yt 86)]),ym 12 87],ym 88 0,yo 89 (.nilc (yt 88)),yo 90 (.faddr 0 (yt 89)),yo 91 (.load1 (yt 90)),yo 92 (.ibin .add (yt 91) (.const (.int .u64 1))),
 yo 93 (.nilc (yt 88)),yo 94 (.faddr 0 (yt 93)),ys 1 94 92],yo 95 (.ibin .add (yt 77) (.const (.int .i64 1))),ym 77 95]],.draw [yd [] 96 (.mov (yt 0)),yd [] 97 (.mov (yt 0)),yd [] 98 (.mov (yt 12)),
 yd [] 99 (.faddr 1 (yt 11)),yd [3] 100 (.load1 (yt 99)),yd [0,2] 101 (.nilc (yt 96)),yd [5,0,2] 102 (.faddr 1 (yt 101)),([6,2,0,5],none,none,.store 1 (yt 102) (yt 98))] [yo 103 (.nilc (yt 97)),
 yo 104 (.faddr 3 (yt 103)),ys 1 104 100],ym 105 0,ym 106 8,ym 107 10,yo 108 (.call f7 #[(yt 105),(yt 106),(yt 107)]),yo 109 (.loadN 7 (yt 11)),ys 7 6 109,yo 7 (.mov (.const (.int .i64 0))),.ret] }
def b_Pforest_Forest_Undo (f0 f1 : Nat) (T0 T1 : Nat) : Body := { n := 44,res := [.tmp 4],code := [yo 3 (.box T0 (yt 1)),yo 4 (.mov (.const (.int .i64 0))),.block 0 [ym 6 0,yo 7 (.call f0 #[(yt 6)]),
 yo 8 (.un .not (yt 7)),ym 5 8,.cond (yt 5) [yo 4 (.mov (.const (.int .i64 1))),.ret] [.draw [yd [] 10 (.faddr 0 (yt 3)),yd [0] 11 (.load1 (yt 10)),yd [] 12 (.mov (yt 0)),yd [1,2,0] 13 (.bin .neq T1 (yt 11) (yt 12)),
 yd [3,1,2,0] 14 (.mov (yt 13)),ye [4,3,1,2,0] 14 false 15 (.faddr 1 (yt 3)),ye [5,4,3,1,2,0] 14 false 16 (.load1 (yt 15)),ye [4,3,1,2,0] 14 false 17 (.mov (yt 0)),ye [7,4,3,1,2,0] 14 false 18 (.nilc (yt 17)),
 ye [8,4,7,3,1,2,0] 14 false 19 (.faddr 3 (yt 18)),ye [9,4,8,7,3,1,2,0] 14 false 20 (.load1 (yt 19))] [yg 14 false 21 (.ibin .neq (yt 16) (yt 20)),yo 22 (.pick (yt 14) (.const (.bool true)) (yt 21)),ym 9 22],
 .cond (yt 9) [yo 4 (.mov (.const (.int .i64 2))),.ret] []]],.draw [yd [] 23 (.mov (yt 0)),yd [] 24 (.mov (yt 0)),yd [] 25 (.mov (yt 0)),yd [] 26 (.faddr 3 (yt 3)),yd [3] 27 (.load1 (yt 26)),yd [] 28 (.faddr 4 (yt 3)),
 yd [5] 29 (.load1 (yt 28)),yd [] 30 (.faddr 2 (yt 3)),yd [7] 31 (.load1 (yt 30)),yd [0,3,4] 32 (.nilc (yt 23)),yd [9,0,3,4] 33 (.faddr 0 (yt 32)),([10,4,0,3,9],none,none,.store 1 (yt 33) (yt 27)),
 yd [1,0,3,4,5,6,9,10,11] 34 (.nilc (yt 24)),yd [12,0,1,3,4,5,6,9,10,11] 35 (.faddr 1 (yt 34)),([13,6,11,0,1,3,4,5,9,10,12],none,none,.store 1 (yt 35) (yt 29))] [yo 36 (.nilc (yt 25)),yo 37 (.faddr 3 (yt 36)),
 ys 1 37 31],ym 38 0,yo 39 (.faddr 6 (yt 3)),yo 40 (.load1 (yt 39)),yo 41 (.faddr 5 (yt 3)),yo 42 (.load1 (yt 41)),yo 43 (.call f1 #[(yt 38),(yt 40),(yt 42)]),yo 4 (.mov (.const (.int .i64 0))),.ret] }
def b_Pforest_Forest_Leaves (f0 f1 f2 f3 : Nat) (T0 : Nat) : Body := { n := 13,res := [.tmp 2],code := [yo 1 (.box T0 (yt 0)),yo 2 (.mov (.const (.slice none 0 0))),yo 3 (.load1 (yt 1)),yo 4 (.call f0 #[(yt 3)]),
 yo 5 (.un .not (yt 4)),.cond (yt 5) [yo 2 (.mov (.const (.slice none 0 0))),.ret] [],yo 6 (.load1 (yt 1)),yo 7 (.nilc (yt 6)),yo 8 (.faddr 2 (yt 7)),yo 9 (.load1 (yt 8)),yo 10 (.call f1 #[(yt 9)]),
 yo 11 (.fn f2 #[] #[(yt 1)]),yo 12 (.call f3 #[(yt 10),(yt 11)]),ym 2 12,.ret] }
def b_Pforest_Forest_At (f0 f1 : Nat) (T0 T1 : Nat) : Body := { n := 21,res := [.cell true 32 4,.tmp 5],code := [yo 4 (.new T0 (rle [(32,.int .u8 0)])),yo 5 (.mov (.const (.bool false))),ym 7 0,yo 8 (.call f0 #[(yt 7)]),
 yo 9 (.un .not (yt 8)),.cond (yt 9) [yo 10 (.mk (rle [(32,.int .u8 0)]) []),ys 32 4 10,yo 5 (.mov (.const (.bool false))),.ret] [],ym 11 0,ym 12 1,yo 13 (.call f1 #[(yt 11),(yt 12)]),ym 6 13,ym 14 6,
 yo 15 (.bin .eql T1 (yt 14) (.const (.pointer none))),.cond (yt 15) [yo 16 (.mk (rle [(32,.int .u8 0)]) []),ys 32 4 16,yo 5 (.mov (.const (.bool false))),.ret] [],ym 17 6,yo 18 (.nilc (yt 17)),yo 19 (.faddr 0 (yt 18)),
 yo 20 (.loadN 32 (yt 19)),ys 32 4 20,yo 5 (.mov (.const (.bool true))),.ret] }
def b_Pforest_Forest_Texts (f0 f1 f2 f3 f4 : Nat) (T0 T1 T2 : Nat) : Body := { n := 47,res := [.tmp 2],code := [yo 2 (.mov (.const (.slice none 0 0))),ym 9 0,yo 10 (.call f0 #[(yt 9)]),yo 11 (.un .not (yt 10)),
 .cond (yt 11) [yo 2 (.mov (.const (.slice none 0 0))),.ret] [],yo 12 (.mkMap),ym 3 12,ym 13 0,yo 14 (.nilc (yt 13)),yo 15 (.faddr 1 (yt 14)),yo 16 (.load1 (yt 15)),yo 17 (.lenS (yt 16)),
 yo 18 (.mov (.const (.int .i64 0))),.block 0 [.loop [yo 19 (.ibin .lss (yt 18) (yt 17)),.cond (yt 19) [] [.exit 0],.block 1 [yo 20 (.iaddr 3 (yt 16) (yt 18)),yo 21 (.loadN 3 (yt 20)),
 yo 5 (.new T0 (rle [(1,.pointer none),(1,.int .u64 0),(1,.int .i64 0)])),ys 3 5 21,.draw [yd [] 22 (.mov (yt 0)),yd [] 23 (.faddr 0 (yt 5)),yd [1] 24 (.load1 (yt 23)),yd [] 25 (.mov (yt 0)),yd [] 26 (.loadN 3 (yt 5)),
 yd [3,4] 27 (.call f1 #[(yt 25),(yt 26)]),yd [] 28 (.mov (yt 3))] [yo 29 (.call f2 #[(yt 22),(yt 24),(yt 27),(yt 28)])]],yo 30 (.ibin .add (yt 18) (.const (.int .i64 1))),ym 18 30]],
 yo 6 (.mov (.const (.slice none 0 0))),ym 31 3,yo 32 (.call f3 #[(yt 31)]),yo 33 (.call f4 #[(yt 32)]),yo 34 (.lenS (yt 33)),yo 35 (.mov (.const (.int .i64 0))),.block 2 [.loop [yo 36 (.ibin .lss (yt 35) (yt 34)),
 .cond (yt 36) [] [.exit 2],.block 3 [yo 37 (.iaddr 1 (yt 33) (yt 35)),yo 38 (.load1 (yt 37)),ym 8 38,ym 39 6,ym 40 3,ym 41 8,yo 42 (.lookup T1 (.slice none 0 0) (yt 40) (yt 41) false),
 yo 43 (.mkSlice T2 1 (rle [(1,.slice none 0 0)]) [(0,1,(yt 42))]),yo 44 (.append T2 1 24 (rle [(1,.slice none 0 0)]) (yt 39) (yt 43)),ym 6 44],yo 45 (.ibin .add (yt 35) (.const (.int .i64 1))),ym 35 45]],ym 46 6,
 ym 2 46,.ret] }
def b_Pforest_Forest_is (T0 T1 : Nat) : Body := { n := 12,res := [.tmp 2],code := [yo 2 (.mov (.const (.bool false))),ym 3 0,yo 4 (.bin .neq T0 (yt 3) (.const (.pointer none))),ym 5 4,yg 5 true 6 (.mov (yt 0)),
 yg 5 true 7 (.nilc (yt 6)),yg 5 true 8 (.faddr 2 (yt 7)),yg 5 true 9 (.load1 (yt 8)),yg 5 true 10 (.bin .neq T1 (yt 9) (.const (.map none))),yo 11 (.pick (yt 5) (yt 10) (.const (.bool false))),ym 2 11,.ret] }
def b_Pforest_Forest_going (T0 : Nat) : Body := { n := 48,res := [.tmp 4,.tmp 5],code := [yo 4 (.mov (.const (.map none))),yo 5 (.mov (.const (.int .i64 0))),yo 14 (.mkMap),ym 6 14,yo 7 (.mov (.const (.bool false))),
 ym 15 1,yo 16 (.lenS (yt 15)),yo 17 (.mov (.const (.int .i64 0))),.block 0 [.loop [yo 18 (.ibin .lss (yt 17) (yt 16)),.cond (yt 18) [] [.exit 0],.block 1 [yo 19 (.iaddr 32 (yt 15) (yt 17)),yo 20 (.loadN 32 (yt 19)),
 yo 9 (.new T0 (rle [(32,.int .u8 0)])),ys 32 9 20,.draw [yd [] 22 (.mov (yt 0)),yd [0] 23 (.nilc (yt 22)),yd [1,0] 24 (.faddr 2 (yt 23)),yd [2,1,0] 25 (.load1 (yt 24)),yd [] 26 (.loadN 32 (yt 9)),
 yd [3,4,2,1,0] 27 (.lookup T0 (.int .u64 0) (yt 25) (yt 26) true),yd [5,3,4,2,1,0] 21 (.mov (yt 27)),yd [6,5,3,4,2,1,0] 28 (.ext (yt 21) 0),yd [6,5,3,4,2,1,0] 29 (.ext (yt 21) 1),
 yd [7,0,1,2,3,4,5,6] 10 (.mov (yt 28))] [ym 11 29],ym 30 11,yo 31 (.un .not (yt 30)),.cond (yt 31) [yo 4 (.mov (.const (.map none))),yo 5 (.mov (.const (.int .i64 5))),.ret] [],ym 33 6,yo 34 (.loadN 32 (yt 9)),
 yo 35 (.lookup T0 (.int .u64 0) (yt 33) (yt 34) true),ym 32 35,yo 36 (.ext (yt 32) 0),yo 37 (.ext (yt 32) 1),ym 12 36,ym 13 37,ym 38 7,ym 39 38,yg 39 false 40 (.mov (yt 13)),
 yo 41 (.pick (yt 39) (.const (.bool true)) (yt 40)),ym 7 41,ym 42 6,yo 43 (.loadN 32 (yt 9)),ym 44 10,.op none none (.mapUpd T0 (yt 42) (yt 43) (yt 44))],yo 45 (.ibin .add (yt 17) (.const (.int .i64 1))),ym 17 45]],
 ym 46 7,.cond (yt 46) [yo 4 (.mov (.const (.map none))),yo 5 (.mov (.const (.int .i64 24))),.ret] [],ym 47 6,ym 4 47,yo 5 (.mov (.const (.int .i64 0))),.ret] }
def b_Pforest_Forest_Where_1 (f0 : Nat) (T0 : Nat) : Body := { n := 17,res := [.tmp 3],code := [yo 2 (.box T0 (yt 0)),yo 3 (.mov (.const (.bool false))),.draw [yd [] 4 (.load1 (yt 1)),yd [] 5 (.faddr 1 (yt 2)),
 yd [1] 6 (.load1 (yt 5)),yd [0,2,1] 7 (.ibin .geq (yt 4) (yt 6)),yd [3,0,2,1] 8 (.mov (yt 7)),ye [4,3,0,2,1] 8 true 9 (.load1 (yt 1)),ye [4,3,0,2,1] 8 true 10 (.faddr 1 (yt 2)),
 ye [6,4,3,0,2,1] 8 true 11 (.load1 (yt 10)),ye [5,7,4,3,0,2,1,6] 8 true 12 (.ibin .sub (yt 9) (yt 11)),ye [4,3,0,2,1] 8 true 13 (.loadN 3 (yt 2)),ye [9,4,3,0,2,1] 8 true 14 (.call f0 #[(yt 13)])] [
 yg 8 true 15 (.ibin .lss (yt 12) (yt 14)),yo 16 (.pick (yt 8) (yt 15) (.const (.bool false))),ym 3 16],.ret] }
def b_forest_tree_size (T0 : Nat) : Body := { n := 6,res := [.tmp 2],code := [yo 1 (.box T0 (yt 0)),yo 2 (.mov (.const (.int .u64 0))),yo 3 (.faddr 2 (yt 1)),yo 4 (.load1 (yt 3)),
 yo 5 (.ibin .shl (.const (.int .u64 1)) (yt 4)),ym 2 5,.ret] }
def b_Pforest_Forest_root (f0 : Nat) (T0 : Nat) : Body := { n := 18,res := [.tmp 4],code := [yo 3 (.box T0 (yt 1)),yo 4 (.mov (.const (.int .u64 0))),.draw [yd [] 8 (.mov (yt 0)),yd [0] 9 (.nilc (yt 8)),
 yd [1,0] 10 (.faddr 0 (yt 9)),yd [2,1,0] 11 (.load1 (yt 10)),yd [] 12 (.faddr 2 (yt 3)),yd [4] 13 (.load1 (yt 12)),yd [3,5,2,1,0,4] 14 (.call f0 #[(yt 11),(yt 13)]),yd [6,3,5,2,1,0,4] 7 (.mov (yt 14)),
 yd [7,6,3,5,2,1,0,4] 15 (.ext (yt 7) 0),yd [7,6,3,5,2,1,0,4] 16 (.ext (yt 7) 1),yd [8,6,0,1,2,3,4,5,7] 5 (.mov (yt 15))] [ym 6 16],ym 17 5,ym 4 17,.ret] }
def b_Pforest_Forest_rows (f0 : Nat) : Body := { n := 14,res := [.tmp 2],code := [yo 2 (.mov (.const (.int .i64 0))),ym 6 0,yo 7 (.nilc (yt 6)),yo 8 (.faddr 0 (yt 7)),yo 9 (.load1 (yt 8)),yo 10 (.call f0 #[(yt 9)]),
 ym 5 10,yo 11 (.ext (yt 5) 0),yo 12 (.ext (yt 5) 1),ym 3 11,ym 4 12,ym 13 3,ym 2 13,.ret] }
def b_Pforest_Forest_coming (T0 : Nat) : Body := { n := 74,res := [.tmp 6,.tmp 7],code := [yo 6 (.mov (.const (.map none))),yo 7 (.mov (.const (.int .i64 0))),yo 17 (.mkMap),ym 8 17,ym 18 1,yo 19 (.lenS (yt 18)),
 yo 20 (.mov (.const (.int .i64 0))),.block 0 [.loop [yo 21 (.ibin .lss (yt 20) (yt 19)),.cond (yt 21) [] [.exit 0],.block 1 [ym 22 20,yo 23 (.iaddr 32 (yt 18) (yt 20)),yo 24 (.loadN 32 (yt 23)),
 yo 10 (.new T0 (rle [(32,.int .u8 0)])),ym 9 22,ys 32 10 24,.draw [yd [] 26 (.mov (yt 0)),yd [0] 27 (.nilc (yt 26)),yd [1,0] 28 (.faddr 2 (yt 27)),yd [2,1,0] 29 (.load1 (yt 28)),yd [] 30 (.loadN 32 (yt 10)),
 yd [3,4,2,1,0] 31 (.lookup T0 (.int .u64 0) (yt 29) (yt 30) true),yd [5,3,4,2,1,0] 25 (.mov (yt 31)),yd [6,5,3,4,2,1,0] 32 (.ext (yt 25) 0),yd [6,5,3,4,2,1,0] 33 (.ext (yt 25) 1),
 yd [7,0,1,2,3,4,5,6] 11 (.mov (yt 32))] [ym 12 33],ym 35 2,yo 36 (.loadN 32 (yt 10)),yo 37 (.lookup T0 (.int .u64 0) (yt 35) (yt 36) true),ym 34 37,yo 38 (.ext (yt 34) 0),yo 39 (.ext (yt 34) 1),ym 13 38,ym 14 39,
 ym 41 8,yo 42 (.loadN 32 (yt 10)),yo 43 (.lookup T0 (.int .u64 0) (yt 41) (yt 42) true),ym 40 43,yo 44 (.ext (yt 40) 0),yo 45 (.ext (yt 40) 1),ym 15 44,ym 16 45,ym 46 12,ym 47 46,yg 47 true 48 (.mov (yt 14)),
 yg 47 true 49 (.un .not (yt 48)),yo 50 (.pick (yt 47) (yt 49) (.const (.bool false))),ym 51 50,yg 51 false 52 (.mov (yt 16)),yo 53 (.pick (yt 51) (.const (.bool true)) (yt 52)),.cond (yt 53) [
 yo 6 (.mov (.const (.map none))),yo 7 (.mov (.const (.int .i64 6))),.ret] [],.draw [yd [] 54 (.mov (yt 8)),yd [] 55 (.loadN 32 (yt 10)),yd [] 56 (.mov (yt 0)),yd [2] 57 (.nilc (yt 56)),yd [3,2] 58 (.faddr 0 (yt 57)),
 yd [4,3,2] 59 (.load1 (yt 58)),yd [] 60 (.mov (yt 9)),yd [6] 61 (.toInt .u64 (yt 60)),yd [5,7,4,3,2,6] 62 (.ibin .add (yt 59) (yt 61))] [.op none none (.mapUpd T0 (yt 54) (yt 55) (yt 62))]],
 yo 63 (.ibin .add (yt 20) (.const (.int .i64 1))),ym 20 63]],ym 64 1,yo 65 (.lenS (yt 64)),yo 66 (.toInt .u64 (yt 65)),ym 67 0,yo 68 (.nilc (yt 67)),yo 69 (.faddr 0 (yt 68)),yo 70 (.load1 (yt 69)),
 yo 71 (.ibin .sub (.const (.int .u64 9223372036854775807)) (yt 70)),yo 72 (.ibin .gtr (yt 66) (yt 71)),.cond (yt 72) [yo 6 (.mov (.const (.map none))),yo 7 (.mov (.const (.int .i64 35))),.ret] [],ym 73 8,ym 6 73,
 yo 7 (.mov (.const (.int .i64 0))),.ret] }
def b_forest_deleted (f0 f1 f2 f3 : Nat) (T0 : Nat) : Body := { n := 51,res := [.tmp 4],code := [yo 4 (.mov (.const (.slice none 0 0))),ym 12 0,yo 13 (.call f0 #[(yt 12)]),ym 5 13,ym 14 5,yo 15 (.lenS (yt 14)),
 yo 16 (.mov (.const (.int .i64 0))),.block 0 [.loop [yo 17 (.ibin .lss (yt 16) (yt 15)),.cond (yt 17) [] [.exit 0],.block 1 [ym 18 16,yo 19 (.iaddr 3 (yt 14) (yt 16)),yo 20 (.loadN 3 (yt 19)),
 yo 7 (.new T0 (rle [(1,.pointer none),(1,.int .u64 0),(1,.int .i64 0)])),ym 6 18,ys 3 7 20,ym 22 1,yo 23 (.faddr 1 (yt 7)),yo 24 (.load1 (yt 23)),yo 25 (.call f1 #[(yt 22),(yt 24)]),ym 21 25,yo 26 (.ext (yt 21) 0),
 yo 27 (.ext (yt 21) 1),ym 8 26,ym 9 27,.draw [yd [] 29 (.mov (yt 1)),yd [] 30 (.faddr 1 (yt 7)),yd [1] 31 (.load1 (yt 30)),yd [] 32 (.loadN 3 (yt 7)),yd [3] 33 (.call f2 #[(yt 32)]),
 yd [2,4,1,3] 34 (.ibin .add (yt 31) (yt 33)),yd [0,5,4,2,1,3] 35 (.call f1 #[(yt 29),(yt 34)]),yd [6,0,5,4,2,1,3] 28 (.mov (yt 35)),yd [7,6,0,5,4,2,1,3] 36 (.ext (yt 28) 0),yd [7,6,0,5,4,2,1,3] 37 (.ext (yt 28) 1),
 yd [8,6,0,1,2,3,4,5,7] 10 (.mov (yt 36))] [ym 11 37],.draw [yd [] 38 (.mov (yt 5)),yd [] 39 (.mov (yt 6)),yd [] 40 (.faddr 0 (yt 7)),yd [2] 41 (.load1 (yt 40)),yd [] 42 (.mov (yt 1)),yd [] 43 (.mov (yt 8)),
 yd [] 44 (.mov (yt 10)),yd [4,5,6] 45 (.slS 1 (yt 42) (some (yt 43)) (some (yt 44))),yd [3,7,2,4,5,6] 46 (.call f3 #[(yt 41),(yt 45)])] [yo 47 (.iaddr 3 (yt 38) (yt 39)),yo 48 (.faddr 0 (yt 47)),ys 1 48 46]],
 yo 49 (.ibin .add (yt 16) (.const (.int .i64 1))),ym 16 49]],ym 50 5,ym 4 50,.ret] }
def b_forest_grown (f0 : Nat) (T0 T1 T2 : Nat) : Body := { n := 57,res := [.tmp 6],code := [yo 4 (.box T0 (yt 1)),yo 6 (.mov (.const (.slice none 0 0))),yo 9 (.loadN 32 (yt 4)),
 yo 10 (.mk (rle [(32,.int .u8 0),(2,.pointer none),(1,.int .u64 0)]) [(0,32,(yt 9))]),yo 11 (.box T1 (yt 10)),ym 12 2,yo 13 (.mk (rle [(1,.pointer none),(1,.int .u64 0),(1,.int .i64 0)]) [(0,1,(yt 11)),(1,1,(yt 12))]),
 yo 7 (.new T2 (rle [(1,.pointer none),(1,.int .u64 0),(1,.int .i64 0)])),ys 3 7 13,.block 0 [.loop [.draw [yd [] 14 (.mov (yt 0)),yd [0] 15 (.lenS (yt 14)),yd [1,0] 16 (.ibin .gtr (yt 15) (.const (.int .i64 0))),
 yd [2,1,0] 17 (.mov (yt 16)),ye [3,2,1,0] 17 true 18 (.mov (yt 0)),ye [3,2,1,0] 17 true 19 (.mov (yt 0)),ye [5,3,2,1,0] 17 true 20 (.lenS (yt 19)),ye [6,3,5,2,1,0] 17 true 21 (.ibin .sub (yt 20) (.const (.int .i64 1))),
 ye [4,7,3,2,1,0,6,5] 17 true 22 (.iaddr 3 (yt 18) (yt 21)),ye [8,3,4,7,2,1,0,6,5] 17 true 23 (.faddr 2 (yt 22)),ye [9,3,8,4,7,2,1,0,6,5] 17 true 24 (.load1 (yt 23)),ye [3,2,1,0] 17 true 25 (.faddr 2 (yt 7)),
 ye [11,3,2,1,0] 17 true 26 (.load1 (yt 25))] [yg 17 true 27 (.ibin .eql (yt 24) (yt 26)),yo 28 (.pick (yt 17) (yt 27) (.const (.bool false)))],.cond (yt 28) [] [.exit 0],.block 1 [ym 29 0,ym 30 0,yo 31 (.lenS (yt 30)),
 yo 32 (.ibin .sub (yt 31) (.const (.int .i64 1))),yo 33 (.iaddr 3 (yt 29) (yt 32)),yo 34 (.loadN 3 (yt 33)),yo 8 (.new T2 (rle [(1,.pointer none),(1,.int .u64 0),(1,.int .i64 0)])),ys 3 8 34,ym 35 0,ym 36 0,
 yo 37 (.lenS (yt 36)),yo 38 (.ibin .sub (yt 37) (.const (.int .i64 1))),yo 39 (.slS 3 (yt 35) none (some (yt 38))),ym 0 39,.draw [yd [] 40 (.faddr 0 (yt 8)),yd [0] 41 (.load1 (yt 40)),yd [] 42 (.faddr 0 (yt 7)),
 yd [2] 43 (.load1 (yt 42)),yd [] 44 (.faddr 1 (yt 7)),yd [4] 45 (.load1 (yt 44)),yd [1,3,5,0,2,4] 46 (.call f0 #[(yt 41),(yt 43),(yt 45)]),yd [] 47 (.faddr 1 (yt 8)),yd [7] 48 (.load1 (yt 47)),
 yd [] 49 (.faddr 2 (yt 7)),yd [9] 50 (.load1 (yt 49)),yd [10,9] 51 (.ibin .add (yt 50) (.const (.int .i64 1)))] [
 yo 52 (.mk (rle [(1,.pointer none),(1,.int .u64 0),(1,.int .i64 0)]) [(0,1,(yt 46)),(1,1,(yt 48)),(2,1,(yt 51))]),ys 3 7 52]]]],ym 53 0,yo 54 (.loadN 3 (yt 7)),
 yo 55 (.mkSlice T2 1 (rle [(1,.pointer none),(1,.int .u64 0),(1,.int .i64 0)]) [(0,3,(yt 54))]),yo 56 (.append T2 3 24 (rle [(1,.pointer none),(1,.int .u64 0),(1,.int .i64 0)]) (yt 53) (yt 55)),ym 6 56,.ret] }
def b_Pforest_Forest_change (f0 : Nat) (T0 : Nat) : Body := { n := 24,res := [],code := [ym 7 1,yo 8 (.range (yt 7)),.block 0 [.loop [yo 9 (.next (yt 8)),yo 10 (.ext (yt 9) 0),.cond (yt 10) [] [.exit 0],.block 1 [
 yo 11 (.entry (yt 8)),yo 12 (.ext (yt 11) 0),yo 6 (.new T0 (rle [(32,.int .u8 0)])),ys 32 6 12,.draw [yd [] 13 (.mov (yt 0)),yd [0] 14 (.nilc (yt 13)),yd [1,0] 15 (.faddr 2 (yt 14)),yd [2,1,0] 16 (.load1 (yt 15)),
 yd [] 17 (.loadN 32 (yt 6))] [.op none none (.delete T0 (yt 16) (yt 17))]]]],ym 18 0,yo 19 (.nilc (yt 18)),yo 20 (.faddr 2 (yt 19)),yo 21 (.load1 (yt 20)),ym 22 2,yo 23 (.call f0 #[(yt 21),(yt 22)])] }
def b_Pforest_Forest_Leaves_1 (f0 : Nat) (T0 : Nat) : Body := { n := 19,res := [.tmp 5],code := [yo 3 (.box T0 (yt 0)),yo 4 (.box T0 (yt 1)),yo 5 (.mov (.const (.int .i64 0))),.draw [yd [] 6 (.load1 (yt 2)),
 yd [0] 7 (.nilc (yt 6)),yd [1,0] 8 (.faddr 2 (yt 7)),yd [2,1,0] 9 (.load1 (yt 8)),yd [] 10 (.loadN 32 (yt 3)),yd [3,4,2,1,0] 11 (.lookup T0 (.int .u64 0) (yt 9) (yt 10) false),yd [] 12 (.load1 (yt 2)),
 yd [6] 13 (.nilc (yt 12)),yd [7,6] 14 (.faddr 2 (yt 13)),yd [8,7,6] 15 (.load1 (yt 14)),yd [] 16 (.loadN 32 (yt 4)),yd [9,10,8,7,6] 17 (.lookup T0 (.int .u64 0) (yt 15) (yt 16) false)] [
 yo 18 (.call f0 #[(yt 11),(yt 17)]),ym 5 18],.ret] }
def b_Pforest_Forest_node (f0 f1 f2 f3 f4 f5 : Nat) (T0 T1 : Nat) : Body := { n := 71,res := [.cell false 1 4],code := [yo 4 (.new T0 (rle [(1,.pointer none)])),ym 13 0,yo 14 (.nilc (yt 13)),yo 15 (.faddr 0 (yt 14)),
 yo 16 (.load1 (yt 15)),ym 17 1,yo 18 (.call f0 #[(yt 16),(yt 17)]),ym 12 18,yo 19 (.ext (yt 12) 0),yo 20 (.ext (yt 12) 1),yo 5 (.new T1 (rle [(1,.int .i64 0)])),ys 1 5 19,ym 6 20,ym 21 6,yo 22 (.un .not (yt 21)),
 .cond (yt 22) [.op none none (.store 1 (yt 4) (.const (.pointer none))),.ret] [],ym 23 0,yo 24 (.nilc (yt 23)),yo 25 (.faddr 1 (yt 24)),yo 26 (.load1 (yt 25)),yo 27 (.fn f1 #[] #[(yt 5)]),
 yo 28 (.call f2 #[(yt 26),(yt 27)]),ym 7 28,ym 29 0,yo 30 (.nilc (yt 29)),yo 31 (.faddr 1 (yt 30)),yo 32 (.load1 (yt 31)),ym 33 7,yo 34 (.iaddr 3 (yt 32) (yt 33)),yo 35 (.faddr 0 (yt 34)),yo 36 (.load1 (yt 35)),
 yo 8 (.new T0 (rle [(1,.pointer none)])),ys 1 8 36,ym 37 0,yo 38 (.nilc (yt 37)),yo 39 (.faddr 0 (yt 38)),yo 40 (.load1 (yt 39)),ym 41 1,yo 42 (.call f3 #[(yt 40),(yt 41)]),ym 9 42,ym 43 9,ym 44 9,yo 45 (.lenS (yt 44)),
 yo 46 (.ibin .sub (yt 45) (.const (.int .i64 1))),yo 47 (.slS 1 (yt 43) none (some (yt 46))),yo 48 (.call f4 #[(yt 47)]),.block 0 [.rangeF (yt 48) #[49,50] [ym 11 50] [.block 1 [yo 51 (.load1 (yt 8)),
 yo 52 (.bin .eql T0 (yt 51) (.const (.pointer none))),ym 53 52,yg 53 false 54 (.load1 (yt 8)),yg 53 false 55 (.nilc (yt 54)),yg 53 false 56 (.faddr 32 (yt 55)),yg 53 false 57 (.load1 (yt 56)),
 yg 53 false 58 (.bin .eql T0 (yt 57) (.const (.pointer none))),yo 59 (.pick (yt 53) (.const (.bool true)) (yt 58)),.cond (yt 59) [.op none none (.store 1 (yt 4) (.const (.pointer none))),.ret] [],ym 60 11,
 yo 61 (.call f5 #[(yt 60)]),.cond (yt 61) [yo 62 (.load1 (yt 8)),yo 63 (.nilc (yt 62)),yo 64 (.faddr 32 (yt 63)),yo 65 (.load1 (yt 64)),ys 1 8 65] [yo 66 (.load1 (yt 8)),yo 67 (.nilc (yt 66)),yo 68 (.faddr 33 (yt 67)),
 yo 69 (.load1 (yt 68)),ys 1 8 69]]]],yo 70 (.load1 (yt 8)),ys 1 4 70,.ret] }
def b_Pforest_node_without (f0 f1 f2 : Nat) (T0 : Nat) : Body := { n := 46,res := [.tmp 4],code := [yo 4 (.mov (.const (.pointer none))),ym 7 1,yo 8 (.lenS (yt 7)),yo 9 (.ibin .eql (yt 8) (.const (.int .i64 0))),
 .cond (yt 9) [ym 10 0,ym 4 10,.ret] [],ym 11 0,yo 12 (.nilc (yt 11)),yo 13 (.faddr 32 (yt 12)),yo 14 (.load1 (yt 13)),yo 15 (.bin .eql T0 (yt 14) (.const (.pointer none))),.cond (yt 15) [
 yo 4 (.mov (.const (.pointer none))),.ret] [],ym 17 1,ym 18 0,yo 19 (.nilc (yt 18)),yo 20 (.faddr 34 (yt 19)),yo 21 (.load1 (yt 20)),yo 22 (.call f0 #[(yt 17),(yt 21)]),ym 16 22,yo 23 (.ext (yt 16) 0),
 yo 24 (.ext (yt 16) 1),ym 5 23,ym 6 24,.draw [yd [] 25 (.mov (yt 0)),yd [0] 26 (.nilc (yt 25)),yd [1,0] 27 (.faddr 32 (yt 26)),yd [2,1,0] 28 (.load1 (yt 27)),yd [] 29 (.mov (yt 1)),yd [] 30 (.mov (yt 5)),
 yd [4,5] 31 (.slS 1 (yt 29) none (some (yt 30))),yd [3,6,2,1,0,4,5] 32 (.call f1 #[(yt 28),(yt 31)]),yd [] 33 (.mov (yt 0)),yd [8] 34 (.nilc (yt 33)),yd [9,8] 35 (.faddr 33 (yt 34)),yd [10,9,8] 36 (.load1 (yt 35)),
 yd [] 37 (.mov (yt 1)),yd [] 38 (.mov (yt 5)),yd [12,13] 39 (.slS 1 (yt 37) (some (yt 38)) none),yd [11,14,7,10,9,8,12,13,3,6,2,1,0,4,5] 40 (.call f1 #[(yt 36),(yt 39)]),yd [] 41 (.mov (yt 0)),
 yd [16] 42 (.nilc (yt 41)),yd [17,16] 43 (.faddr 34 (yt 42)),yd [18,17,16] 44 (.load1 (yt 43))] [yo 45 (.call f2 #[(yt 32),(yt 40),(yt 44)]),ym 4 45],.ret] }
def b_forest_joined (f0 : Nat) (T0 T1 : Nat) : Body := { n := 29,res := [.tmp 6],code := [yo 6 (.mov (.const (.pointer none))),.block 0 [ym 8 0,yo 9 (.bin .eql T0 (yt 8) (.const (.pointer none))),ym 7 9,.cond (yt 7) [
 ym 10 1,ym 6 10,.ret] [ym 12 1,yo 13 (.bin .eql T0 (yt 12) (.const (.pointer none))),ym 11 13,.cond (yt 11) [ym 14 0,ym 6 14,.ret] []]],.draw [yd [] 15 (.mov (yt 0)),yd [0] 16 (.nilc (yt 15)),
 yd [1,0] 17 (.faddr 0 (yt 16)),yd [2,1,0] 18 (.loadN 32 (yt 17)),yd [] 19 (.mov (yt 1)),yd [4] 20 (.nilc (yt 19)),yd [5,4] 21 (.faddr 0 (yt 20)),yd [6,5,4] 22 (.loadN 32 (yt 21)),
 yd [3,7,2,1,0,6,5,4] 23 (.call f0 #[(yt 18),(yt 22)]),yd [] 24 (.mov (yt 0)),yd [] 25 (.mov (yt 1)),yd [] 26 (.mov (yt 2))] [
 yo 27 (.mk (rle [(32,.int .u8 0),(2,.pointer none),(1,.int .u64 0)]) [(0,32,(yt 23)),(32,1,(yt 24)),(33,1,(yt 25)),(34,1,(yt 26))]),yo 28 (.box T1 (yt 27)),ym 6 28],.ret] }
def b_Pforest_Forest_node_1 (T0 : Nat) : Body := { n := 8,res := [.tmp 3],code := [yo 2 (.box T0 (yt 0)),yo 3 (.mov (.const (.bool false))),yo 4 (.faddr 2 (yt 2)),yo 5 (.load1 (yt 4)),yo 6 (.load1 (yt 1)),
 yo 7 (.ibin .eql (yt 5) (yt 6)),ym 3 7,.ret] }
end Go.Sp

namespace Go.Sp
section
variable {H : Type} (par : H → H → H)
inductive Tr (H : Type) where
  | leaf (h : H)
  | pair (h : H) (l r : Tr H) (m : Nat)
def Tr.hash {H : Type} : Tr H → H
  | .leaf h => h
  | .pair h _ _ _ => h
def joinT : Option (Tr H) → Option (Tr H) → Nat → Option (Tr H)
  | none, r, _ => r
  | some l, none, _ => some l
  | some l, some r, m => some (.pair (par l.hash r.hash) l r m)
/-- a tree without the leaves of these numbers -/
def withoutT : Tr H → List Nat → Option (Tr H)
  | .leaf h, l => if l = [] then some (.leaf h) else none
  | .pair h a b m, l => if l = [] then some (.pair h a b m) else joinT par (withoutT a (l.filter fun x => decide (x < m))) (withoutT b (l.filter fun x => decide (m ≤ x))) m
def withoutO : Option (Tr H) → List Nat → Option (Tr H)
  | none, _ => none
  | some t, l => withoutT par t l
/-- the tree over 2 ^ k leaves from number f on -/
def buildT (L : Nat → Option H) : Nat → Nat → Option (Tr H)
  | 0, f => (L f).map .leaf
  | k + 1, f => joinT par (buildT L k f) (buildT L k (f + 2 ^ k)) (f + 2 ^ k)
def delL (L : Nat → Option H) (l : List Nat) (i : Nat) : Option H := if i ∈ l then none else L i
theorem buildT_congr {L L' : Nat → Option H} : ∀ (k f : Nat), (∀ i, f ≤ i → i < f + 2 ^ k → L i = L' i) → buildT par L k f = buildT par L' k f := by
  intro k
  induction k with
  | zero => intro f h; simp only [buildT]; rw [h f (Nat.le_refl _) (by simp)]
  | succ k ih =>
    intro f h
    simp only [buildT]
    have hp : 0 < 2 ^ k := Nat.pow_pos (by omega)
    rw [ih f fun i h1 h2 => h i h1 (by rw [Nat.pow_succ]; omega), ih (f + 2 ^ k) fun i h1 h2 => h i (by omega) (by rw [Nat.pow_succ]; omega)]
theorem joinT_none {a b : Option (Tr H)} {m : Nat} : joinT par a b m = none ↔ a = none ∧ b = none := by
  cases a <;> cases b <;> simp [joinT]
theorem buildT_none {L : Nat → Option H} : ∀ (k f : Nat), buildT par L k f = none ↔ ∀ i, f ≤ i → i < f + 2 ^ k → L i = none := by
  intro k
  induction k with
  | zero =>
    intro f
    simp only [buildT, Option.map_eq_none_iff]
    constructor
    · intro h i h1 h2
      have : i = f := by simp at h2; omega
      rw [this]; exact h
    · intro h; exact h f (Nat.le_refl _) (by simp)
  | succ k ih =>
    intro f
    have hp : 0 < 2 ^ k := Nat.pow_pos (by omega)
    simp only [buildT, joinT_none, ih]
    constructor
    · rintro ⟨h1, h2⟩ i h3 h4
      rw [Nat.pow_succ] at h4
      rcases Nat.lt_or_ge i (f + 2 ^ k) with h | h
      · exact h1 i h3 h
      · exact h2 i h (by omega)
    · intro h
      exact ⟨fun i h1 h2 => h i h1 (by rw [Nat.pow_succ]; omega), fun i h1 h2 => h i (by omega) (by rw [Nat.pow_succ]; omega)⟩
theorem withoutT_nil (t : Tr H) : withoutT par t [] = some t := by cases t <;> simp [withoutT]
theorem without_build {L : Nat → Option H} : ∀ (k f : Nat) (l : List Nat), (∀ x ∈ l, f ≤ x ∧ x < f + 2 ^ k ∧ (L x).isSome = true) → withoutO par (buildT par L k f) l = buildT par (delL L l) k f := by
  intro k
  induction k with
  | zero =>
    intro f l h
    have hl : ∀ x ∈ l, x = f := fun x hx => by have := h x hx; simp at this; omega
    simp only [buildT]
    cases hf : L f with
    | none =>
      have : l = [] := by
        cases l with
        | nil => rfl
        | cons x l =>
          have h1 := (h x List.mem_cons_self).2.2
          rw [hl x List.mem_cons_self, hf] at h1; cases h1
      subst this
      simp [withoutO, delL, hf]
    | some a =>
      simp only [Option.map_some, withoutO, withoutT]
      split
      · rename_i h0; subst h0; simp [delL, hf]
      · rename_i h0
        have : f ∈ l := by
          cases l with
          | nil => exact absurd rfl h0
          | cons x l => rw [← hl x List.mem_cons_self]; exact List.mem_cons_self
        simp [delL, this]
  | succ k ih =>
    intro f l h
    have hp : 0 < 2 ^ k := Nat.pow_pos (by omega)
    have ha : ∀ x ∈ l.filter fun x => decide (x < f + 2 ^ k), f ≤ x ∧ x < f + 2 ^ k ∧ (L x).isSome = true := by
      intro x hx
      simp only [List.mem_filter, decide_eq_true_eq] at hx
      exact ⟨(h x hx.1).1, hx.2, (h x hx.1).2.2⟩
    have hb : ∀ x ∈ l.filter fun x => decide (f + 2 ^ k ≤ x), f + 2 ^ k ≤ x ∧ x < f + 2 ^ k + 2 ^ k ∧ (L x).isSome = true := by
      intro x hx
      simp only [List.mem_filter, decide_eq_true_eq] at hx
      have := (h x hx.1).2.1
      rw [Nat.pow_succ] at this
      exact ⟨hx.2, by omega, (h x hx.1).2.2⟩
    have iha := ih f _ ha
    have ihb := ih (f + 2 ^ k) _ hb
    have ca : buildT par (delL L (l.filter fun x => decide (x < f + 2 ^ k))) k f = buildT par (delL L l) k f := by
      refine buildT_congr par k f fun i h1 h2 => ?_
      simp only [delL, List.mem_filter, decide_eq_true_eq, h2, and_true]
    have cb : buildT par (delL L (l.filter fun x => decide (f + 2 ^ k ≤ x))) k (f + 2 ^ k) = buildT par (delL L l) k (f + 2 ^ k) := by
      refine buildT_congr par k _ fun i h1 h2 => ?_
      simp only [delL, List.mem_filter, decide_eq_true_eq, h1, and_true]
    rw [ca] at iha
    rw [cb] at ihb
    simp only [buildT]
    have noneOf : ∀ g, buildT par L k g = none → ∀ m : List Nat, (∀ x ∈ m, g ≤ x ∧ x < g + 2 ^ k ∧ (L x).isSome = true) → m = [] := by
      intro g hg m hm
      cases m with
      | nil => rfl
      | cons x m =>
        have h1 := hm x List.mem_cons_self
        have := (buildT_none par k g).1 hg x h1.1 h1.2.1
        rw [this] at h1; simp at h1
    cases hA : buildT par L k f with
    | none =>
      have hn : buildT par (delL L l) k f = none := by rw [← iha, hA]; rfl
      have he := noneOf f hA _ ha
      have hall : (l.filter fun x => decide (f + 2 ^ k ≤ x)) = l := by
        rw [List.filter_eq_self]
        intro x hx
        have : ¬ x < f + 2 ^ k := fun hlt => by
          have : x ∈ l.filter fun x => decide (x < f + 2 ^ k) := by simp [hx, hlt]
          rw [he] at this; simp at this
        simp; omega
      rw [hall] at ihb
      rw [hn]
      simp only [joinT]
      exact ihb
    | some ta =>
      cases hB : buildT par L k (f + 2 ^ k) with
      | none =>
        have hn : buildT par (delL L l) k (f + 2 ^ k) = none := by rw [← ihb, hB]; rfl
        have he := noneOf _ hB _ hb
        have hall : (l.filter fun x => decide (x < f + 2 ^ k)) = l := by
          rw [List.filter_eq_self]
          intro x hx
          have : ¬ f + 2 ^ k ≤ x := fun hlt => by
            have : x ∈ l.filter fun x => decide (f + 2 ^ k ≤ x) := by simp [hx, hlt]
            rw [he] at this; simp at this
          simp; omega
        rw [hall, hA] at iha
        rw [hn, ← iha]
        simp only [joinT, withoutO]
        cases withoutT par ta l <;> rfl
      | some tb =>
        simp only [joinT, withoutO, withoutT]
        rw [hA] at iha
        rw [hB] at ihb
        simp only [withoutO] at iha ihb
        split
        · rename_i h0
          subst h0
          simp only [List.filter_nil, withoutT_nil] at iha ihb
          rw [← iha, ← ihb]
        · rw [iha, ihb]
/-- the first leaf's number of the tree of height h -/
def firstN (n h : Nat) : Nat := n / 2 ^ (h + 1) * 2 ^ (h + 1)
abbrev TT (H : Type) := Option (Tr H) × Nat × Nat
/-- the trees of a forest of n leaves, the highest first -/
def treesT (L : Nat → Option H) (n : Nat) : List (TT H) := (treesN n).map fun h => (buildT par L h (firstN n h), firstN n h, h)
/-- the heights of the trees, the lowest first, from j on -/
def highs (n j : Nat) : List Nat := (List.range' j (63 - j)).filter (bitN n)
theorem treesBelow_rev (n : Nat) : ∀ k, (treesBelow n k).reverse = (List.range k).filter (bitN n) := by
  intro k
  induction k with
  | zero => rfl
  | succ k ih =>
    rw [List.range_succ, List.filter_append, ← ih, treesBelow]
    by_cases h : bitN n k = true
    · simp [h]
    · simp [h]
theorem treesN_rev {n : Nat} (h : n < 2 ^ 63) : (treesN n).reverse = highs n 0 := by
  rw [treesN, if_pos h, treesBelow_rev, highs, List.range_eq_range']
/-- a leaf more: from the lowest tree on -/
def growT : List (TT H) → TT H → List (TT H)
  | [], t => [t]
  | l :: r, t => if l.2.2 = t.2.2 then growT r (joinT par l.1 t.1 t.2.1, l.2.1, t.2.2 + 1) else t :: l :: r
theorem highs_step {n j : Nat} (hj : j < 63) : highs n j = if bitN n j = true then j :: highs n (j + 1) else highs n (j + 1) := by
  unfold highs
  rw [show 63 - j = (63 - (j + 1)) + 1 by omega, List.range'_succ, List.filter_cons]
theorem bit_above {n q j i : Nat} (hn : n = q * 2 ^ j + (2 ^ j - 1)) (hi : j < i) (hq : q % 2 = 0) : bitN (n + 1) i = bitN n i ∧ (n + 1) / 2 ^ (i + 1) = n / 2 ^ (i + 1) := by
  have hp : 0 < 2 ^ j := Nat.pow_pos (by omega)
  have e1 : n + 1 = (q + 1) * 2 ^ j := by rw [hn, Nat.add_mul]; omega
  have key : ∀ i, j < i → (n + 1) / 2 ^ i = n / 2 ^ i := by
    intro i hi
    obtain ⟨d, rfl⟩ : ∃ d, i = j + 1 + d := ⟨i - (j + 1), by omega⟩
    have a1 : (n + 1) / 2 ^ j = q + 1 := by rw [e1]; exact Nat.mul_div_cancel _ hp
    have a2 : n / 2 ^ j = q := by
      rw [hn, Nat.mul_comm, Nat.mul_add_div hp, Nat.div_eq_of_lt (by omega)]; rfl
    rw [Nat.pow_add, Nat.pow_succ, Nat.mul_assoc, ← Nat.div_div_eq_div_mul, ← Nat.div_div_eq_div_mul, ← Nat.div_div_eq_div_mul, ← Nat.div_div_eq_div_mul, a1, a2]
    congr 1
    omega
  exact ⟨by simp only [bitN, key i hi], key (i + 1) (by omega)⟩
/-- the trees of n + 1 leaves, of those of n -/
theorem grow_trees {L : Nat → Option H} {n : Nat} {L' : Nat → Option H} (hL : ∀ i, i < n → L' i = L i) : ∀ (d j q : Nat), d + j = 63 → n = q * 2 ^ j + (2 ^ j - 1) → n + 1 < 2 ^ 63 →
    growT par ((highs n j).map fun h => (buildT par L h (firstN n h), firstN n h, h)) (buildT par L' j (n + 1 - 2 ^ j), n + 1 - 2 ^ j, j) =
      (highs (n + 1) j).map fun h => (buildT par L' h (firstN (n + 1) h), firstN (n + 1) h, h) := by
  intro d
  induction d with
  | zero =>
    intro j q hd hn h63
    have : j = 63 := by omega
    subst this
    have : 0 < 2 ^ 63 := by decide
    have : q = 0 := by
      rcases Nat.eq_zero_or_pos q with h | h
      · exact h
      · have := Nat.le_mul_of_pos_left (2 ^ 63) h; omega
    subst this
    omega
  | succ d ih =>
    intro j q hd hn h63
    have hj : j < 63 := by omega
    have hp : 0 < 2 ^ j := Nat.pow_pos (by omega)
    have a2 : n / 2 ^ j = q := by
      rw [hn, Nat.mul_comm, Nat.mul_add_div hp, Nat.div_eq_of_lt (by omega)]; rfl
    have e1 : n + 1 = (q + 1) * 2 ^ j := by rw [Nat.add_mul]; omega
    have a1 : (n + 1) / 2 ^ j = q + 1 := by rw [e1]; exact Nat.mul_div_cancel _ hp
    have hbn : bitN n j = (q % 2 == 1) := by rw [bitN, a2]
    have hbn1 : bitN (n + 1) j = ((q + 1) % 2 == 1) := by rw [bitN, a1]
    rw [highs_step hj]
    by_cases hq : q % 2 = 1
    · rw [if_pos (by rw [hbn]; simp [hq])]
      simp only [List.map_cons, growT, if_true]
      have hf : firstN n j + 2 ^ j = n + 1 - 2 ^ j := by
        rw [firstN, Nat.pow_succ, ← Nat.div_div_eq_div_mul, a2]
        have : q / 2 * (2 ^ j * 2) = (q / 2 * 2) * 2 ^ j := by rw [Nat.mul_comm (2 ^ j) 2, Nat.mul_assoc]
        rw [this, show q / 2 * 2 = q - 1 by omega, hn]
        obtain ⟨p, rfl⟩ : ∃ p, q = p + 1 := ⟨q - 1, by omega⟩
        rw [Nat.add_sub_cancel, Nat.add_mul]
        omega
      have hfl : firstN n j = n + 1 - 2 ^ (j + 1) := by rw [Nat.pow_succ]; omega
      have hjoin : joinT par (buildT par L j (firstN n j)) (buildT par L' j (n + 1 - 2 ^ j)) (n + 1 - 2 ^ j) = buildT par L' (j + 1) (n + 1 - 2 ^ (j + 1)) := by
        simp only [buildT]
        rw [← hfl, hf]
        congr 1
        refine buildT_congr par j _ fun i h1 h2 => (hL i ?_).symm
        omega
      rw [hjoin, hfl]
      have := ih (j + 1) (q / 2) (by omega) (by
        have : q / 2 * 2 ^ (j + 1) = (q / 2 * 2) * 2 ^ j := by rw [Nat.pow_succ, Nat.mul_comm (2 ^ j) 2, Nat.mul_assoc]
        rw [this, show q / 2 * 2 = q - 1 by omega, Nat.pow_succ]
        obtain ⟨p, rfl⟩ : ∃ p, q = p + 1 := ⟨q - 1, by omega⟩
        rw [hn, Nat.add_sub_cancel, Nat.add_mul]
        omega) h63
      rw [this]
      rw [highs_step (n := n + 1) hj, if_neg (by rw [hbn1]; simp; omega)]
    · have hq0 : q % 2 = 0 := by omega
      rw [if_neg (by rw [hbn]; simp; omega)]
      have hstop : ∀ (l : List Nat) (t : TT H), (∀ h ∈ l, t.2.2 < h) → growT par (l.map fun h => (buildT par L h (firstN n h), firstN n h, h)) t = t :: l.map fun h => (buildT par L h (firstN n h), firstN n h, h) := by
        intro l t hl
        cases l with
        | nil => rfl
        | cons x l =>
          simp only [List.map_cons, growT]
          rw [if_neg (by have := hl x List.mem_cons_self; omega)]
      have hgt : ∀ h ∈ highs n (j + 1), j < h := by
        intro h hh
        simp only [highs, List.mem_filter, List.mem_range'_1] at hh
        omega
      rw [hstop _ _ hgt, highs_step (n := n + 1) hj, if_pos (by rw [hbn1]; simp; omega), List.map_cons]
      have hfj : firstN (n + 1) j = n + 1 - 2 ^ j := by
        rw [firstN, Nat.pow_succ, ← Nat.div_div_eq_div_mul, a1]
        have : (q + 1) / 2 * (2 ^ j * 2) = ((q + 1) / 2 * 2) * 2 ^ j := by rw [Nat.mul_comm (2 ^ j) 2, Nat.mul_assoc]
        rw [this, show (q + 1) / 2 * 2 = q by omega, hn]
        omega
      rw [hfj]
      congr 1
      have hsame : highs (n + 1) (j + 1) = highs n (j + 1) := by
        unfold highs
        refine List.filter_congr fun i hi => ?_
        simp only [List.mem_range'_1] at hi
        exact (bit_above hn (by omega) hq0).1
      rw [hsame]
      refine List.map_congr_left fun h hh => ?_
      have hjh := hgt h hh
      have hfs : firstN (n + 1) h = firstN n h := by rw [firstN, firstN, (bit_above hn hjh hq0).2]
      rw [hfs]
      congr 1
      refine buildT_congr par h _ fun i h1 h2 => (hL i ?_).symm
      -- below n
      have hb : bitN n h = true := by
        simp only [highs, List.mem_filter] at hh; exact hh.2
      have hdiv : n / 2 ^ h = 2 * (n / 2 ^ (h + 1)) + 1 := by
        rw [Nat.pow_succ, ← Nat.div_div_eq_div_mul]
        have : n / 2 ^ h % 2 = 1 := by simpa [bitN] using hb
        omega
      have hle : n / 2 ^ h * 2 ^ h ≤ n := Nat.div_mul_le_self _ _
      rw [hdiv] at hle
      have : (2 * (n / 2 ^ (h + 1)) + 1) * 2 ^ h = firstN n h + 2 ^ h := by
        rw [firstN, Nat.pow_succ, Nat.add_mul, Nat.one_mul]
        congr 1
        rw [Nat.mul_comm 2, Nat.mul_assoc, Nat.mul_comm 2]
      omega
theorem grown_trees {L : Nat → Option H} {n : Nat} {L' : Nat → Option H} (hL : ∀ i, i < n → L' i = L i) (h63 : n + 1 < 2 ^ 63) :
    (growT par (treesT par L n).reverse ((L' n).map .leaf, n, 0)).reverse = treesT par L' (n + 1) := by
  have := grow_trees par hL 63 0 n rfl (by simp) h63
  rw [show n + 1 - 2 ^ 0 = n by simp] at this
  rw [treesT, ← List.map_reverse, treesN_rev (by omega)]
  rw [show (L' n).map Tr.leaf = buildT par L' 0 n from rfl, this, treesT, ← List.map_reverse, ← treesN_rev h63, List.reverse_reverse]
end
end Go.Sp

namespace Go.Sp
/-- where a tree's nodes lie -/
def TrAt (w : World) : Value → Tr Hash → Prop
  | v, .leaf h => ∃ b, v = ptrV b ∧ Blk w b (hC h ++ [.pointer none, .pointer none, u64V 0])
  | v, .pair h l r m => ∃ b vl vr, v = ptrV b ∧ Blk w b (hC h ++ [vl, vr, u64V m]) ∧ m < 2 ^ 62 ∧ TrAt w vl l ∧ TrAt w vr r
def OTr (w : World) (v : Value) : Option (Tr Hash) → Prop
  | none => v = .pointer none
  | some t => TrAt w v t
/-- none of these blocks is a node's -/
def NoNode (w : World) (l : List Nat) : Prop := ∀ b ∈ l, ∀ cs, Blk w b cs → ¬ (cs.length = 35 ∧ ∃ n, cs[0]? = some (.int .u8 n))
theorem hC_head (h : Hash) (r : List Value) : ∃ n, (hC h ++ r)[0]? = some (.int .u8 n) := by
  obtain ⟨l, hl⟩ := h
  cases l with
  | nil => simp at hl
  | cons x l => exact ⟨_, rfl⟩
theorem NoNode.nil (w : World) : NoNode w [] := fun b hb => by simp at hb
theorem TrAt.upd {l : List Nat} {w w' : World} (hu : Upd l w w') (hl : NoNode w l) : ∀ (t : Tr Hash) {v : Value}, TrAt w v t → TrAt w' v t := by
  intro t
  induction t with
  | leaf h =>
    rintro v ⟨b, rfl, hB⟩
    exact ⟨b, rfl, hB.upd hu fun hm => hl b hm _ hB ⟨by simp [hC_length], hC_head _ _⟩⟩
  | pair h a c m iha ihc =>
    rintro v ⟨b, vl, vr, rfl, hB, hm, h1, h2⟩
    exact ⟨b, vl, vr, rfl, hB.upd hu fun hm => hl b hm _ hB ⟨by simp [hC_length], hC_head _ _⟩, hm, iha h1, ihc h2⟩
theorem OTr.upd {l : List Nat} {w w' : World} {v : Value} {t : Option (Tr Hash)} (h : OTr w v t) (hu : Upd l w w') (hl : NoNode w l) : OTr w' v t := by
  cases t with
  | none => exact h
  | some t => exact TrAt.upd hu hl t h
theorem OTr.ext {w w' : World} {v : Value} {t : Option (Tr Hash)} (h : OTr w v t) (hu : Ext w w') : OTr w' v t := h.upd hu (NoNode.nil w)
theorem TrAt.ext {w w' : World} {v : Value} {t : Tr Hash} (h : TrAt w v t) (hu : Ext w w') : TrAt w' v t := TrAt.upd hu (NoNode.nil w) t h
/-- what a node's block bears -/
theorem TrAt.node {w : World} {v : Value} {t : Tr Hash} (h : TrAt w v t) : ∃ b x y m, v = ptrV b ∧ Blk w b (hC t.hash ++ [x, y, u64V m]) := by
  cases t with
  | leaf h' => obtain ⟨b, rfl, hB⟩ := h; exact ⟨b, _, _, _, rfl, hB⟩
  | pair h' a c m => obtain ⟨b, vl, vr, rfl, hB, _⟩ := h; exact ⟨b, _, _, _, rfl, hB⟩
theorem node_cell0 {w : World} {b : Nat} {h : Hash} {x y z : Value} (hB : Blk w b (hC h ++ [x, y, z])) : Mem w b 0 (hC h) ∧ w.cell? ⟨b, 0 + 32, none⟩ = some x ∧ w.cell? ⟨b, 0 + 33, none⟩ = some y ∧ w.cell? ⟨b, 0 + 34, none⟩ = some z := by
  refine ⟨hB.memPre, hB.cell ?_, hB.cell ?_, hB.cell ?_⟩
  all_goals rw [List.getElem?_append_right (by rw [hC_length]; omega), hC_length]; rfl
theorem fillL_cons {cs : List Value} {off size : Nat} {v : Value} {r : List (Nat × Nat × Value)} (h1 : (cellL v).length = size) (h2 : off + size ≤ cs.length) : fillL cs ((off, size, v) :: r) = fillL (splice cs off (cellL v)) r := by
  subst h1
  rw [fillL]
  simp only [Nat.beq_refl]
  rw [show Nat.ble (off + (cellL v).length) cs.length = true from Nat.ble_eq_true_of_le h2]
theorem splice_head {a b vs : List Value} (h : vs.length = a.length) : splice (a ++ b) 0 vs = vs ++ b := by
  rw [splice, List.take_zero, List.nil_append, Nat.zero_add, h, List.drop_left]
theorem leaf_fill (h : Hash) : fillL (rleL [(32, .int .u8 0), (2, .pointer none), (1, .int .u64 0)]) [(0, 32, hV h)] = some (hC h ++ [.pointer none, .pointer none, u64V 0]) := by
  have e0 : rleL [(32, Value.int .u8 0), (2, .pointer none), (1, .int .u64 0)] = List.replicate 32 (.int .u8 0) ++ [.pointer none, .pointer none, u64V 0] := rfl
  have e1 : cellL (hV h) = hC h := by simp [hV, cellL]
  rw [e0, fillL_cons (by rw [e1, hC_length]) (by simp), e1, splice_head (by rw [hC_length, List.length_replicate])]
  rfl
theorem node_fill (h : Hash) (b1 b2 : Nat) (m : Nat) : fillL (rleL [(32, .int .u8 0), (2, .pointer none), (1, .int .u64 0)]) [(0, 32, hV h), (32, 1, ptrV b1), (33, 1, ptrV b2), (34, 1, u64V m)] = some (hC h ++ [ptrV b1, ptrV b2, u64V m]) := by
  have e0 : rleL [(32, Value.int .u8 0), (2, .pointer none), (1, .int .u64 0)] = List.replicate 32 (.int .u8 0) ++ [.pointer none, .pointer none, u64V 0] := rfl
  have e1 : cellL (hV h) = hC h := by simp [hV, cellL]
  have hl := hC_length h
  rw [e0, fillL_cons (by rw [e1, hC_length]) (by simp), e1, splice_head (by rw [hC_length, List.length_replicate])]
  rw [fillL_cons (size := 1) rfl (by simp [hl])]
  rw [show splice (hC h ++ [.pointer none, .pointer none, u64V 0]) 32 (cellL (ptrV b1)) = hC h ++ [ptrV b1, .pointer none, u64V 0] from splice_at hl]
  rw [fillL_cons (size := 1) rfl (by simp [hl])]
  rw [show hC h ++ [ptrV b1, .pointer none, u64V 0] = (hC h ++ [ptrV b1]) ++ [.pointer none, u64V 0] by simp]
  rw [show splice ((hC h ++ [ptrV b1]) ++ [.pointer none, u64V 0]) 33 (cellL (ptrV b2)) = (hC h ++ [ptrV b1]) ++ [ptrV b2, u64V 0] from splice_at (by simp [hl])]
  rw [fillL_cons (size := 1) rfl (by simp [hl])]
  rw [show (hC h ++ [ptrV b1]) ++ [ptrV b2, u64V 0] = (hC h ++ [ptrV b1, ptrV b2]) ++ [u64V 0] by simp]
  rw [show splice ((hC h ++ [ptrV b1, ptrV b2]) ++ [u64V 0]) 34 (cellL (u64V m)) = (hC h ++ [ptrV b1, ptrV b2]) ++ [u64V m] from splice_at (by simp [hl])]
  simp [fillL]
/-- the functions of forest -/
structure ForF (P : Program) extends LeafF P where
  joined : Nat
  TNode : Nat
  TNodeS : Nat
  TNE : Nat
  h_joined : Has P joined (b_forest_joined parent TNode TNodeS)
  h_TNode : P.underlying TNode = some (.pointer TNE)
section
variable {P : Program} {f : Nat} {w : World}
theorem ok_eq_ptrnil {T E : Nat} {e : Env} {x y : Operand} {b : Nat} (hT : P.underlying T = some (.pointer E)) (hx : e.ev x = some (ptrV b)) (hy : e.ev y = some (.pointer none)) : OpOK P (.bin .eql T x y) e w (Just (.bool false) w) := ok_eq_nil hT hx hy
theorem ok_eq_nilnil {T E : Nat} {e : Env} {x y : Operand} (hT : P.underlying T = some (.pointer E)) (hx : e.ev x = some (.pointer none)) (hy : e.ev y = some (.pointer none)) : OpOK P (.bin .eql T x y) e w (Just (.bool true) w) := ok_eq_nil hT hx hy
theorem joined_ok (A : ForF P) (hT : Tabs A.toShaF w) {vl vr : Value} {a c : Option (Tr Hash)} (m : Nat) (hm : m < 2 ^ 62) (hl : OTr w vl a) (hr : OTr w vr c) :
    Ret P A.joined [vl, vr, u64V m] w fun v w' => OTr w' v (joinT parH a c m) ∧ Ext w w' := by
  refine Ret.of_exec A.h_joined (Nat.le_of_ble_eq_true rfl) fun ct hc => ?_
  dsimp only [b_forest_joined, argEnv, ym, yo, yg, ys, yt, yd, ye]
  refine xr 3 rfl ?_
  cases a with
  | none =>
    have : vl = .pointer none := hl
    subst this
    refine xju (ok_eq_nilnil A.h_TNode rfl rfl) rfl ?_
    refine xr 4 rfl ?_
    exact xre hc [_] ⟨rfl, trivial⟩ ⟨hr, Upd.refl _ _⟩
  | some ta =>
    obtain ⟨bl, x1, y1, m1, rfl, hBl⟩ := TrAt.node hl
    refine xju (ok_eq_ptrnil A.h_TNode rfl rfl) rfl ?_
    refine xr 3 rfl ?_
    cases c with
    | none =>
      have : vr = .pointer none := hr
      subst this
      refine xju (ok_eq_nilnil A.h_TNode rfl rfl) rfl ?_
      refine xr 4 rfl ?_
      exact xre hc [_] ⟨rfl, trivial⟩ ⟨hl, Upd.refl _ _⟩
    | some tc =>
      obtain ⟨br, x2, y2, m2, rfl, hBr⟩ := TrAt.node hr
      refine xju (ok_eq_ptrnil A.h_TNode rfl rfl) rfl ?_
      refine xr 6 rfl ?_
      refine xen [(0, ptrV bl), (1, ptrV br), (2, u64V m)] ⟨rfl, rfl, rfl, trivial⟩ ?_
      refine exec_dwr rfl rfl rfl ?_
      repeat (first | refine wtm rfl rfl rfl ?_ | refine wgt rfl rfl rfl rfl ?_ | refine wgs rfl rfl ?_)
      refine ws_keep (hV ta.hash) rfl (fun W hu => ok_loadN (b := bl) (o := 0 + 0) rfl (node_cell0 (hBl.upd hu)).1 (hC_length _)) ?_
      repeat (first | refine wtm rfl rfl rfl ?_ | refine wgt rfl rfl rfl rfl ?_ | refine wgs rfl rfl ?_)
      refine ws_keep (hV tc.hash) rfl (fun W hu => ok_loadN (b := br) (o := 0 + 0) rfl (node_cell0 (hBr.upd hu)).1 (hC_length _)) ?_
      refine ws_ext (hV (parH ta.hash tc.hash)) rfl (fun W hu => ok_call rfl (parH_ok A.toLeafF (hT.upd hu) ta.hash tc.hash)) ?_
      repeat (first | refine wtm rfl rfl rfl ?_ | refine wgt rfl rfl rfl rfl ?_ | refine wgs rfl rfl ?_)
      refine ws_fin fun W hu => ?_
      refine xju (ok_mkL (l := [(0, 32, hV (parH ta.hash tc.hash)), (32, 1, ptrV bl), (33, 1, ptrV br), (34, 1, u64V m)]) (cs := hC (parH ta.hash tc.hash) ++ [ptrV bl, ptrV br, u64V m]) rfl (node_fill _ _ _ _)) rfl ?_
      refine exec_box rfl rfl ?_
      intro b w2 hb hs hu2 hB
      refine xr 1 rfl ?_
      refine xre hc [_] ⟨rfl, trivial⟩ ⟨?_, hu.trans hu2⟩
      exact ⟨b, _, _, rfl, by simpa [Value.cells] using hB, hm, (TrAt.ext hl hu).ext hu2, (TrAt.ext hr hu).ext hu2⟩
end
end Go.Sp

namespace Go.Sp
theorem count_at {l : List Nat} {x i : Nat} (hi : i ≤ l.length) (h1 : ∀ j v, j < i → l[j]? = some v → v < x) (h2 : ∀ j v, i ≤ j → l[j]? = some v → ¬ v < x) :
    l.take i = l.filter (fun y => decide (y < x)) ∧ l.drop i = l.filter (fun y => decide (x ≤ y)) := by
  have ht : ∀ y ∈ l.take i, y < x := by
    intro y hy
    obtain ⟨j, hj⟩ := List.getElem?_of_mem hy
    rw [List.getElem?_take] at hj
    split at hj
    · exact h1 j y (by assumption) hj
    · cases hj
  have hd : ∀ y ∈ l.drop i, ¬ y < x := by
    intro y hy
    obtain ⟨j, hj⟩ := List.getElem?_of_mem hy
    rw [List.getElem?_drop] at hj
    exact h2 (i + j) y (by omega) hj
  constructor
  · conv => rhs; rw [← List.take_append_drop i l]
    rw [List.filter_append, List.filter_eq_self.2 (by intro y hy; simpa using ht y hy), List.filter_eq_nil_iff.2 (by intro y hy; simpa using hd y hy), List.append_nil]
  · conv => rhs; rw [← List.take_append_drop i l]
    rw [List.filter_append, List.filter_eq_nil_iff.2 (by intro y hy; have := ht y hy; simp; omega), List.filter_eq_self.2 (by intro y hy; have := hd y hy; simp; omega), List.nil_append]
theorem sorted_get {l : List Nat} (hs : l.Pairwise (· ≤ ·)) {i j : Nat} {a b : Nat} (hij : i ≤ j) (ha : l[i]? = some a) (hb : l[j]? = some b) : a ≤ b := by
  obtain ⟨hi, rfl⟩ := List.getElem?_eq_some_iff.1 ha
  obtain ⟨hj, rfl⟩ := List.getElem?_eq_some_iff.1 hb
  rcases Nat.eq_or_lt_of_le hij with h | h
  · subst h; exact Nat.le_refl _
  · exact List.pairwise_iff_getElem.1 hs i j hi hj h
/-- the functions of forest that find and take out -/
structure ForG (P : Program) extends ForF P where
  sf : SortF P
  snan : Nat
  bins : Nat
  without : Nat
  h_snan : Has P snan b_slices_isNaN_uint64
  h_bins : Has P bins (b_slices_BinarySearch_uint64_uint64 sf.less snan)
  h_without : Has P without (b_Pforest_node_without bins without joined TNode)
section
variable {P : Program} {f : Nat} {w : World}
theorem snan_ok (h : Has P f b_slices_isNaN_uint64) (a : Nat) : RetV P f [u64V a] w (.bool false) := by
  refine Ret.of_exec h (Nat.le_of_ble_eq_true rfl) fun c hc => ?_
  dsimp only [b_slices_isNaN_uint64, argEnv, ym, yo, yg, ys, yt, yd, ye]
  refine xr 3 rfl ?_
  refine xpu (pv_neqI (a := a) (b := a) (q := false) rfl rfl (by simp)) rfl ?_
  refine xr 1 rfl ?_
  exact xre hc [_] ⟨rfl, trivial⟩ ⟨rfl, Upd.refl _ _⟩
/-- how many are below x; whether x stands behind them -/
def cntN (l : List Nat) (x : Nat) : Nat := (l.filter (fun y => decide (y < x))).length
def foundN (l : List Nat) (x : Nat) : Bool := l[cntN l x]? == some x
theorem cntN_le (l : List Nat) (x : Nat) : cntN l x ≤ l.length := List.length_filter_le _ _
theorem cntN_of {l : List Nat} {x i : Nat} (hi : i ≤ l.length) (h : l.take i = l.filter (fun y => decide (y < x))) : cntN l x = i := by
  rw [cntN, ← h]; simp; omega
theorem cntN_split {l : List Nat} (hs : l.Pairwise (· ≤ ·)) (x : Nat) : l.take (cntN l x) = l.filter (fun y => decide (y < x)) ∧ l.drop (cntN l x) = l.filter (fun y => decide (x ≤ y)) := by
  induction l with
  | nil => simp [cntN]
  | cons a l ih =>
    obtain ⟨ha, hl⟩ := List.pairwise_cons.1 hs
    by_cases h : a < x
    · have e : cntN (a :: l) x = cntN l x + 1 := by simp [cntN, h]
      obtain ⟨i1, i2⟩ := ih hl
      rw [e]
      simp only [List.take_succ_cons, List.drop_succ_cons, i1, i2]
      simp [h]
    · have hn : l.filter (fun y => decide (y < x)) = [] := List.filter_eq_nil_iff.2 fun y hy => by have := ha y hy; simp; omega
      have hall : l.filter (fun y => decide (x ≤ y)) = l := List.filter_eq_self.2 fun y hy => by have := ha y hy; simp; omega
      have e : cntN (a :: l) x = 0 := by simp [cntN, h, hn]
      rw [e]
      simp only [List.take_zero, List.drop_zero]
      simp [h, hn, hall, show x ≤ a by omega]
/-- slices.BinarySearch at numbers that rise -/
theorem bins_ok (A : ForG P) {v : Value} {l : List Nat} (x : Nat) (hS : SlC w v 1 l.length (l.map u64V)) (hs : l.Pairwise (· ≤ ·)) (hl : l.length < 2 ^ 40) :
    RetV P A.bins [v, u64V x] w (.tuple #[intV' (cntN l x), .bool (foundN l x)]) := by
  refine Ret.of_exec A.h_bins (Nat.le_of_ble_eq_true rfl) fun c hc => ?_
  dsimp only [b_slices_BinarySearch_uint64_uint64, argEnv, ym, yo, yg, ys, yt, yd, ye]
  refine xtm rfl rfl rfl ?_
  refine xtm rfl rfl rfl ?_
  refine xtm rfl rfl rfl ?_
  refine xpu (hS.lenS rfl) rfl ?_
  refine xr 5 rfl ?_
  have hcell : ∀ (W : World) (j y : Nat), Ext w W → l[j]? = some y → ∃ b o cap, v = .slice (some ⟨b, o, none⟩) l.length cap ∧ W.cell? ⟨b, o + j * 1, none⟩ = some (u64V y) := by
    intro W j y hu hy
    have hj := (List.getElem?_eq_some_iff.1 hy).1
    obtain ⟨b, o, cap, hv, hm, _⟩ := (hS.upd hu (by simp)).at (by omega)
    exact ⟨b, o, cap, hv, by rw [Nat.mul_one]; exact hm j _ (by rw [List.getElem?_map, hy]; rfl)⟩
  refine exec_inner_join (S := Nat) (fun i W => i ≤ l.length ∧ (∀ j v, j < i → l[j]? = some v → v < x) ∧ (∀ j v, i ≤ j → l[j]? = some v → ¬ v < x) ∧ Ext w W)
    (fun i => [(0, v), (1, u64V x), (6, intV' l.length), (7, intV' i)]) ?_ ?_
  · refine xlo (S := Nat × Nat) (fun s W => s.1 ≤ s.2 ∧ s.2 ≤ l.length ∧ (∀ j v, j < s.1 → l[j]? = some v → v < x) ∧ (∀ j v, s.2 ≤ j → l[j]? = some v → ¬ v < x) ∧ Ext w W)
      (fun s => [(0, v), (1, u64V x), (6, intV' l.length), (7, intV' s.1), (8, intV' s.2)]) (fun s => s.2 - s.1) (0, l.length) ⟨Nat.zero_le _, Nat.le_refl _, fun j v h => by simp at h, fun j v h hj => by have := (List.getElem?_eq_some_iff.1 hj).1; simp at h; omega, Upd.refl _ _⟩ ⟨rfl, rfl, rfl, rfl, rfl, trivial⟩ ?_
    rintro ⟨i, j⟩ W ⟨i1, i2, i3, i4, iU⟩
    simp only at i1 i2 i3 i4
    refine xr 2 rfl ?_
    by_cases hij : i < j
    · refine xpu (pv_lssI (a := i) (b := j) (q := true) rfl rfl (by simpa using hij)) rfl ?_
      refine xr 5 rfl ?_
      refine xpu (pv_addI (a := i) (b := j) rfl rfl (by omega)) rfl ?_
      refine xpu (pv_toU (a := i + j) rfl (by omega)) rfl ?_
      refine xju (ok_shrU (a := i + j) (j := 1) rfl rfl (by omega)) rfl ?_
      refine xpu (pv_toI (a := (i + j) / 2 ^ 1) rfl (by omega)) rfl ?_
      generalize hh : (i + j) / 2 ^ 1 = h
      have h1 : i ≤ h ∧ h < j := by omega
      refine xr 3 rfl ?_
      obtain ⟨y, hy⟩ : ∃ y, l[h]? = some y := ⟨_, List.getElem?_eq_getElem (by omega)⟩
      obtain ⟨b, o, cap, hv, hm⟩ := hcell W h y iU hy
      refine xju (ok_iaddr (N := 1) (b := b) (o := o) (len := l.length) (cap := cap) (by rw [← hv]; rfl) rfl h rfl (by omega)) rfl ?_
      refine exec_load1 (b := b) (o := o + h * 1) (v := u64V y) rfl rfl hm ?_
      refine xr 1 rfl ?_
      refine xca rfl rfl (less_ok A.sf.h_nan A.sf.h_less y x) ?_
      rintro _ W1 ⟨rfl, hu1⟩
      refine exec_cond rfl (fun hq => ?_) (fun hq => ?_)
      · simp only [ltN, decide_eq_true_eq] at hq
        refine xr 1 rfl ?_
        refine xpu (pv_addI (a := h) (b := 1) rfl rfl (by omega)) rfl ?_
        refine xr 4 rfl ?_
        refine xag (h + 1, j) ⟨by show h + 1 ≤ j; omega, i2, fun k z hk hz => ?_, i4, iU.trans hu1⟩ (by show j - (h + 1) < j - i; omega) ⟨rfl, rfl, rfl, rfl, rfl, trivial⟩
        have := sorted_get hs (show k ≤ h by have : k < h + 1 := hk; omega) hz hy
        omega
      · simp only [ltN, decide_eq_false_iff_not] at hq
        refine xr 5 rfl ?_
        refine xag (i, h) ⟨h1.1, by show h ≤ l.length; omega, i3, fun k z hk hz => ?_, iU.trans hu1⟩ (by show h - i < j - i; omega) ⟨rfl, rfl, rfl, rfl, rfl, trivial⟩
        have := sorted_get hs (show h ≤ k from hk) hy hz
        omega
    · refine xpu (pv_lssI (a := i) (b := j) (q := false) rfl rfl (by simpa using hij)) rfl ?_
      refine xr 2 rfl ?_
      have : i = j := by omega
      subst this
      exact exec_meet i ⟨i2, i3, i4, iU⟩ ⟨rfl, rfl, rfl, rfl, trivial⟩
  rintro i W ⟨i1, i3, i4, iU⟩
  obtain ⟨c1, c2⟩ := count_at i1 i3 i4
  have hci := cntN_of i1 c1
  have hfo : foundN l x = (l[i]? == some x) := by rw [foundN, hci]
  rw [hci] at hc
  refine xr 3 rfl ?_
  by_cases hin : i < l.length
  · refine xpu (pv_lssI (a := i) (b := l.length) (q := true) rfl rfl (by simpa using hin)) rfl ?_
    refine xr 6 rfl ?_
    obtain ⟨y, hy⟩ : ∃ y, l[i]? = some y := ⟨_, List.getElem?_eq_getElem hin⟩
    obtain ⟨b, o, cap, hv, hm⟩ := hcell W i y iU hy
    refine xju (ok_iaddr (N := 1) (b := b) (o := o) (len := l.length) (cap := cap) (by rw [← hv]; rfl) rfl i rfl hin) rfl ?_
    refine xgr rfl ?_
    refine exec_load1 (b := b) (o := o + i * 1) (v := u64V y) rfl rfl hm ?_
    refine xr 3 rfl ?_
    by_cases hyx : y = x
    · refine xpu (pv_eqlI (a := y) (b := x) (q := true) rfl rfl (by simpa using hyx)) rfl ?_
      refine xr 16 rfl ?_
      refine xre hc [_, _] ⟨rfl, rfl, trivial⟩ ⟨?_, iU⟩
      rw [hfo, hy, hyx]; simp [single]
    · refine xpu (pv_eqlI (a := y) (b := x) (q := false) rfl rfl (by simpa using hyx)) rfl ?_
      refine xr 7 rfl ?_
      refine xju (ok_iaddr (N := 1) (b := b) (o := o) (len := l.length) (cap := cap) (by rw [← hv]; rfl) rfl i rfl hin) rfl ?_
      refine xgr rfl ?_
      refine exec_load1 (b := b) (o := o + i * 1) (v := u64V y) rfl rfl hm ?_
      refine xgr rfl ?_
      refine xca rfl rfl (snan_ok A.h_snan y) ?_
      rintro _ W1 ⟨rfl, hu1⟩
      refine xr 11 rfl ?_
      refine xre hc [_, _] ⟨rfl, rfl, trivial⟩ ⟨?_, iU.trans hu1⟩
      rw [hfo, hy]; simp [single, hyx]
  · refine xpu (pv_lssI (a := i) (b := l.length) (q := false) rfl rfl (by simpa using hin)) rfl ?_
    refine xr 21 rfl ?_
    refine xre hc [_, _] ⟨rfl, rfl, trivial⟩ ⟨?_, iU⟩
    rw [hfo, List.getElem?_eq_none (by omega)]; simp [single]
/-- a part of a slice -/
def subV (v : Value) (N l h : Nat) : Value := match v with
  | .slice (some ⟨b, o, none⟩) _ cap => .slice (some (if cap = l then ⟨b, o, none⟩ else ⟨b, o + l * N, none⟩)) (h - l) (cap - l)
  | v => v
theorem ok_slSd {N len : Nat} {e : Env} {x : Operand} {v : Value} {cs : List Value} (lo hi : Option Operand) (l h : Nat) (hx : e.ev x = some v) (hs : SlC w v N len cs)
    (hlo : match lo with | none => l = 0 | some y => ∃ K, e.ev y = some (.int K (l : Int))) (hhi : match hi with | none => h = len | some y => ∃ K, e.ev y = some (.int K (h : Int)))
    (h1 : l ≤ h) (h2 : h ≤ len) : OpOK P (.slS N x lo hi) e w (Just (subV v N l h) w) := by
  rcases hs with ⟨rfl | ⟨b, o, s, cap, rfl⟩, rfl, rfl⟩ | ⟨b, o, cap, rfl, hm, hl, hc⟩
  · have hh : h = 0 := by omega
    subst hh
    have hl0 : l = 0 := by omega
    subst hl0
    exact ok_slS_nil hx (by cases lo <;> simp_all) (by cases hi <;> simp_all)
  · have hh : h = 0 := by omega
    subst hh
    have hl0 : l = 0 := by omega
    subst hl0
    exact ok_slS_odd hx (by cases lo <;> simp_all) (by cases hi <;> simp_all)
  · exact ok_slS l h hx hlo hhi h1 (by omega)
theorem subV_sl {N len l h : Nat} {v : Value} {cs : List Value} (hs : SlC w v N len cs) (h1 : l ≤ h) (h2 : h ≤ len) : SlC w (subV v N l h) N (h - l) ((cs.take (h * N)).drop (l * N)) := by
  rcases hs with ⟨rfl | ⟨b, o, s, cap, rfl⟩, rfl, rfl⟩ | ⟨b, o, cap, rfl, hm, hl, hc⟩
  · have hh : h = 0 := by omega
    subst hh
    have hl0 : l = 0 := by omega
    subst hl0
    exact .inl ⟨.inl rfl, rfl, by simp⟩
  · have hh : h = 0 := by omega
    subst hh
    have hl0 : l = 0 := by omega
    subst hl0
    exact .inl ⟨.inr ⟨_, _, _, _, rfl⟩, rfl, by simp⟩
  · have hN : h * N ≤ len * N := Nat.mul_le_mul_right _ h2
    simp only [subV]
    split
    · have e1 : (cs.take (h * N)).drop (l * N) = [] := List.drop_eq_nil_of_le (by
        have : h = l := by omega
        subst this
        simp; omega)
      rw [e1]
      exact .inr ⟨b, o, _, rfl, fun i v hi => by simp at hi, by rw [show h - l = 0 by omega]; simp, by omega⟩
    · refine .inr ⟨b, o + l * N, _, rfl, hm.at _ _, ?_, by omega⟩
      simp only [List.length_drop, List.length_take, hl]
      rw [Nat.min_eq_left hN, Nat.sub_mul]
/-- a tree without some of its leaves -/
theorem without_ok (A : ForG P) : ∀ (t : Tr Hash) (w : World) (v sv : Value) (l : List Nat), Tabs A.toShaF w → TrAt w v t → SlC w sv 1 l.length (l.map u64V) → l.Pairwise (· ≤ ·) → l.length < 2 ^ 40 →
    Ret P A.without [v, sv] w fun r w' => OTr w' r (withoutT parH t l) ∧ Ext w w' := by
  intro t
  induction t with
  | leaf h =>
    intro w v sv l hT ht hS hs hl
    refine Ret.of_exec A.h_without (Nat.le_of_ble_eq_true rfl) fun c hc => ?_
    dsimp only [b_Pforest_node_without, argEnv, ym, yo, yg, ys, yt, yd, ye]
    refine xtm rfl rfl rfl ?_
    refine xtm rfl rfl rfl ?_
    refine xpu (hS.lenS rfl) rfl ?_
    by_cases hl0 : l.length = 0
    · refine xpu (pv_eqlI (a := l.length) (b := 0) (q := true) rfl rfl (by simpa using hl0)) rfl ?_
      refine xr 3 rfl ?_
      have : l = [] := List.length_eq_zero_iff.1 hl0
      subst this
      exact xre hc [_] ⟨rfl, trivial⟩ ⟨by rw [withoutT_nil]; exact ht, Upd.refl _ _⟩
    refine xpu (pv_eqlI (a := l.length) (b := 0) (q := false) rfl rfl (by simpa using hl0)) rfl ?_
    obtain ⟨b, rfl, hB⟩ := ht
    refine xr 5 rfl ?_
    refine exec_load1 (b := b) (o := 0 + 32) rfl rfl (node_cell0 hB).2.1 ?_
    refine xju (ok_eq_nilnil A.h_TNode rfl rfl) rfl ?_
    refine xr 2 rfl ?_
    refine xre hc [_] ⟨rfl, trivial⟩ ⟨?_, Upd.refl _ _⟩
    rw [withoutT, if_neg (by intro h; subst h; exact hl0 rfl)]
    rfl
  | pair h a cc m iha ihc =>
    intro w v sv l hT ht hS hs hl
    refine Ret.of_exec A.h_without (Nat.le_of_ble_eq_true rfl) fun c hc => ?_
    dsimp only [b_Pforest_node_without, argEnv, ym, yo, yg, ys, yt, yd, ye]
    refine xtm rfl rfl rfl ?_
    refine xtm rfl rfl rfl ?_
    refine xpu (hS.lenS rfl) rfl ?_
    by_cases hl0 : l.length = 0
    · refine xpu (pv_eqlI (a := l.length) (b := 0) (q := true) rfl rfl (by simpa using hl0)) rfl ?_
      refine xr 3 rfl ?_
      have : l = [] := List.length_eq_zero_iff.1 hl0
      subst this
      exact xre hc [_] ⟨rfl, trivial⟩ ⟨by rw [withoutT_nil]; exact ht, Upd.refl _ _⟩
    refine xpu (pv_eqlI (a := l.length) (b := 0) (q := false) rfl rfl (by simpa using hl0)) rfl ?_
    obtain ⟨b, vl, vr, rfl, hB, hm, hl1, hr1⟩ := ht
    obtain ⟨bl, _, _, _, rfl, hBl⟩ := TrAt.node hl1
    refine xr 5 rfl ?_
    refine exec_load1 (b := b) (o := 0 + 32) rfl rfl (node_cell0 hB).2.1 ?_
    refine xju (ok_eq_ptrnil A.h_TNode rfl rfl) rfl ?_
    refine xr 6 rfl ?_
    refine exec_load1 (b := b) (o := 0 + 34) rfl rfl (node_cell0 hB).2.2.2 ?_
    refine xca rfl rfl (bins_ok A m hS hs hl) ?_
    rintro _ w1 ⟨rfl, hu1⟩
    obtain ⟨ht1, ht2⟩ := cntN_split hs m
    have hk := cntN_le l m
    generalize cntN l m = k at *
    refine xr 5 rfl ?_
    have hB1 := hB.upd hu1
    have hS1 := hS.upd hu1 (by simp)
    refine xen [(0, ptrV b), (1, sv), (5, intV' k)] ⟨rfl, rfl, rfl, trivial⟩ ?_
    refine exec_dw [] rfl rfl rfl ?_
    repeat (first | refine dau rfl (fun _ => rfl) ?_ | refine dga rfl (fun _ => rfl) (fun _ => rfl) ?_ | refine dgs (fun _ => rfl) ?_)
    refine dw_keep (ptrV bl) (fun vs W hu _ => ok_load1 (b := b) (o := 0 + 32) rfl (node_cell0 (hB1.upd hu)).2.1) ?_
    repeat (first | refine dau rfl (fun _ => rfl) ?_ | refine dga rfl (fun _ => rfl) (fun _ => rfl) ?_ | refine dgs (fun _ => rfl) ?_)
    refine dw_rel [] (fun W _ u => SlC W u 1 (l.take k).length ((l.take k).map u64V)) rfl (fun W W' xs u _ hu h => h.upd hu (by simp)) ?_ ?_
    · intro vs W hu _
      refine (ok_slSc (N := 1) (len := l.length) (lo := none) (hi := some (.tmp 30)) 0 k rfl (hS1.upd hu (by simp)) rfl ⟨.i64, rfl⟩ (Nat.zero_le _) hk).mono ?_
      rintro u W' ⟨rfl, hs', _⟩
      refine ⟨Upd.refl _ _, ?_⟩
      have e1 : (l.take k).length = k - 0 := by simp; omega
      have e2 : (((l.map u64V).take (k * 1)).drop (0 * 1)) = (l.take k).map u64V := by simp [List.map_take]
      rw [e1, ← e2]; exact hs'
    refine dw_rel [] (fun W _ u => OTr W u (withoutT parH a (l.take k))) rfl (fun W W' xs u _ hu h => h.ext hu) ?_ ?_
    · intro vs W hu hd
      obtain ⟨h6, _⟩ := hd
      have hW := hu1.trans hu
      refine (ok_call rfl (iha W (ptrV bl) (vs 6) (l.take k) (hT.upd hW) (TrAt.ext hl1 hW) h6 (hs.sublist (List.take_sublist _ _)) (by have := List.length_take_le k l; omega))).mono ?_
      rintro u W' ⟨h1, h2⟩
      exact ⟨h2, h1⟩
    repeat (first | refine dau rfl (fun _ => rfl) ?_ | refine dga rfl (fun _ => rfl) (fun _ => rfl) ?_ | refine dgs (fun _ => rfl) ?_)
    refine dw_keep vr (fun vs W hu _ => ok_load1 (b := b) (o := 0 + 33) rfl (node_cell0 (hB1.upd hu)).2.2.1) ?_
    repeat (first | refine dau rfl (fun _ => rfl) ?_ | refine dga rfl (fun _ => rfl) (fun _ => rfl) ?_ | refine dgs (fun _ => rfl) ?_)
    refine dw_rel [] (fun W _ u => SlC W u 1 (l.drop k).length ((l.drop k).map u64V)) rfl (fun W W' xs u _ hu h => h.upd hu (by simp)) ?_ ?_
    · intro vs W hu _
      refine (ok_slSc (N := 1) (len := l.length) (lo := some (.tmp 38)) (hi := none) k l.length rfl (hS1.upd hu (by simp)) ⟨.i64, rfl⟩ rfl hk (Nat.le_refl _)).mono ?_
      rintro u W' ⟨rfl, hs', _⟩
      refine ⟨Upd.refl _ _, ?_⟩
      have e1 : (l.drop k).length = l.length - k := by simp
      have e2 : (((l.map u64V).take (l.length * 1)).drop (k * 1)) = (l.drop k).map u64V := by rw [Nat.mul_one, Nat.mul_one, List.take_of_length_le (by simp), List.map_drop]
      rw [e1, ← e2]; exact hs'
    refine dw_rel [] (fun W _ u => OTr W u (withoutT parH cc (l.drop k))) rfl (fun W W' xs u _ hu h => h.ext hu) ?_ ?_
    · intro vs W hu hd
      obtain ⟨h14, _⟩ := hd
      have hW := hu1.trans hu
      refine (ok_call rfl (ihc W vr (vs 14) (l.drop k) (hT.upd hW) (TrAt.ext hr1 hW) h14 (hs.sublist (List.drop_sublist _ _)) (by simp; omega))).mono ?_
      rintro u W' ⟨h1, h2⟩
      exact ⟨h2, h1⟩
    repeat (first | refine dau rfl (fun _ => rfl) ?_ | refine dga rfl (fun _ => rfl) (fun _ => rfl) ?_ | refine dgs (fun _ => rfl) ?_)
    refine dw_keep (u64V m) (fun vs W hu _ => ok_load1 (b := b) (o := 0 + 34) rfl (node_cell0 (hB1.upd hu)).2.2.2) ?_
    refine dw_end fun vs W hu hf => ?_
    obtain ⟨h15, _, h7, _, _⟩ := hf
    refine xca rfl rfl (joined_ok A.toForF (hT.upd (hu1.trans hu)) m hm h7 h15) ?_
    rintro r w3 ⟨hr, hu3⟩
    refine xr 1 rfl ?_
    refine xre hc [_] ⟨rfl, trivial⟩ ⟨?_, (hu1.trans hu).trans hu3⟩
    rw [withoutT, if_neg (by intro h; subst h; exact hl0 rfl), ← ht1, ← ht2]
    exact hr
end
end Go.Sp

namespace Go.Sp
def cellsT : List Value → List (TT Hash) → List Value
  | v :: vs, t :: ts => v :: u64V t.2.1 :: intV' t.2.2 :: cellsT vs ts
  | _, _ => []
structure TreesR (w : World) (vs : List Value) (ts : List (TT Hash)) : Prop where
  len : vs.length = ts.length
  at' : ∀ (i : Nat) (v : Value) (t : TT Hash), vs[i]? = some v → ts[i]? = some t → OTr w v t.1
def TreesAt (w : World) (sv : Value) (ts : List (TT Hash)) : Prop := ∃ vs, TreesR w vs ts ∧ SlC w sv 3 ts.length (cellsT vs ts)
def TreesOwn (w : World) (sv : Value) (ts : List (TT Hash)) : Prop := ∃ vs, TreesR w vs ts ∧ OwnC w sv 3 ts.length (cellsT vs ts)
theorem TreesOwn.sl {w : World} {sv : Value} {ts : List (TT Hash)} (h : TreesOwn w sv ts) : TreesAt w sv ts := let ⟨vs, h1, h2⟩ := h; ⟨vs, h1, h2.sl⟩
theorem TreesR.upd {l : List Nat} {w w' : World} {vs : List Value} {ts : List (TT Hash)} (h : TreesR w vs ts) (hu : Upd l w w') (hl : NoNode w l) : TreesR w' vs ts := ⟨h.len, fun i v t h1 h2 => (h.at' i v t h1 h2).upd hu hl⟩
theorem TreesOwn.ext {w w' : World} {sv : Value} {ts : List (TT Hash)} (h : TreesOwn w sv ts) (hu : Ext w w') : TreesOwn w' sv ts := let ⟨vs, h1, h2⟩ := h; ⟨vs, h1.upd hu (NoNode.nil _), h2.upd hu (by simp)⟩
theorem cellsT_len : ∀ (vs : List Value) (ts : List (TT Hash)), vs.length = ts.length → (cellsT vs ts).length = ts.length * 3 := by
  intro vs
  induction vs with
  | nil => intro ts h; cases ts with
    | nil => rfl
    | cons t ts => simp at h
  | cons v vs ih => intro ts h; cases ts with
    | nil => simp at h
    | cons t ts => simp only [cellsT, List.length_cons, ih ts (by simpa using h)]; omega
theorem cellsT_get : ∀ (vs : List Value) (ts : List (TT Hash)) (i : Nat) (v : Value) (t : TT Hash), vs[i]? = some v → ts[i]? = some t → (cellsT vs ts)[i * 3]? = some v ∧ (cellsT vs ts)[i * 3 + 1]? = some (u64V t.2.1) ∧ (cellsT vs ts)[i * 3 + 2]? = some (intV' t.2.2) := by
  intro vs
  induction vs with
  | nil => intro ts i v t h; simp at h
  | cons v0 vs ih =>
    intro ts i v t h1 h2
    cases ts with
    | nil => simp at h2
    | cons t0 ts =>
      cases i with
      | zero => simp at h1 h2; subst h1; subst h2; simp [cellsT]
      | succ i =>
        have := ih ts i v t (by simpa using h1) (by simpa using h2)
        simp only [cellsT, show (i + 1) * 3 = i * 3 + 1 + 1 + 1 by omega, List.getElem?_cons_succ, show i * 3 + 1 + 1 + 1 + 1 = (i * 3 + 1) + 1 + 1 + 1 by omega, show i * 3 + 1 + 1 + 1 + 2 = (i * 3 + 2) + 1 + 1 + 1 by omega]
        exact this
theorem cellsT_take : ∀ (vs : List Value) (ts : List (TT Hash)) (k : Nat), vs.length = ts.length → (cellsT vs ts).take (k * 3) = cellsT (vs.take k) (ts.take k) := by
  intro vs
  induction vs with
  | nil => intro ts k h; simp [cellsT]
  | cons v vs ih =>
    intro ts k h
    cases ts with
    | nil => simp at h
    | cons t ts =>
      cases k with
      | zero => simp [cellsT]
      | succ k => simp only [cellsT, show (k + 1) * 3 = k * 3 + 1 + 1 + 1 by omega, List.take_succ_cons, ih ts k (by simpa using h)]
theorem cellsT_set : ∀ (vs : List Value) (ts : List (TT Hash)) (i : Nat) (v : Value), vs.length = ts.length → i < ts.length → (cellsT vs ts).set (i * 3) v = cellsT (vs.set i v) ts := by
  intro vs
  induction vs with
  | nil => intro ts i v h hi; simp at h; omega
  | cons v0 vs ih =>
    intro ts i v h hi
    cases ts with
    | nil => simp at h
    | cons t ts =>
      cases i with
      | zero => simp [cellsT]
      | succ i =>
        simp only [cellsT, show (i + 1) * 3 = i * 3 + 1 + 1 + 1 by omega, List.set_cons_succ]
        rw [ih ts i v (by simpa using h) (by simpa using hi)]
theorem cellsT_append : ∀ (vs us : List Value) (ts ss : List (TT Hash)), vs.length = ts.length → cellsT (vs ++ us) (ts ++ ss) = cellsT vs ts ++ cellsT us ss := by
  intro vs
  induction vs with
  | nil => intro us ts ss h; cases ts with
    | nil => rfl
    | cons t ts => simp at h
  | cons v vs ih => intro us ts ss h; cases ts with
    | nil => simp at h
    | cons t ts => simp only [List.cons_append, cellsT, ih us ts ss (by simpa using h)]
theorem cellsT_ok (vs : List Value) (ts : List (TT Hash)) (hv : ∀ v ∈ vs, cellValue v = true) : (cellsT vs ts).all cellValue = true := by
  induction vs generalizing ts with
  | nil => rfl
  | cons v vs ih =>
    cases ts with
    | nil => rfl
    | cons t ts =>
      simp only [cellsT, List.all_cons, Bool.and_eq_true]
      exact ⟨hv v List.mem_cons_self, rfl, rfl, ih ts fun u hu => hv u (List.mem_cons_of_mem _ hu)⟩
/-- a part of a sorted list -/
theorem part_sorted {l : List Nat} {f s k1 k2 : Nat} (h1 : l.take k1 = l.filter (fun y => decide (y < f))) (h1' : l.drop k1 = l.filter (fun y => decide (f ≤ y))) (h2 : l.take k2 = l.filter (fun y => decide (y < f + s))) (hk1 : k1 ≤ l.length) (hk2 : k2 ≤ l.length) :
    k1 ≤ k2 ∧ (l.take k2).drop k1 = l.filter (fun y => decide (f ≤ y ∧ y < f + s)) := by
  have e0 : l = l.filter (fun y => decide (y < f)) ++ l.filter (fun y => decide (f ≤ y)) := by rw [← h1, ← h1', List.take_append_drop]
  have e1 : k1 = (l.filter (fun y => decide (y < f))).length := by rw [← h1]; simp; omega
  have e2 : l.filter (fun y => decide (y < f + s)) = l.filter (fun y => decide (y < f)) ++ l.filter (fun y => decide (f ≤ y ∧ y < f + s)) := by
    conv => lhs; rw [e0]
    rw [List.filter_append, List.filter_filter, List.filter_filter]
    congr 1
    · refine List.filter_congr fun y _ => ?_
      rw [Bool.eq_iff_iff]; simp; omega
    · refine List.filter_congr fun y _ => ?_
      rw [Bool.eq_iff_iff]; simp; omega
  have e3 : k2 = (l.filter (fun y => decide (y < f + s))).length := by rw [← h2]; simp; omega
  refine ⟨?_, ?_⟩
  · rw [e1, e3, e2, List.length_append]; omega
  · rw [h2, e2, e1, List.drop_left]
/-- the functions of forest, on -/
structure ForH (P : Program) extends ForG P where
  size : Nat
  cloneT : Nat
  deleted : Nat
  TTree : Nat
  TSl : Nat
  TSe : Nat
  TCl : Nat
  TDel : Nat
  h_size : Has P size (b_forest_tree_size TTree)
  h_cloneT : Has P cloneT (b_slices_Clone_forest_tree_forest_tree TSl TCl)
  h_TSl : P.underlying TSl = some (.slice TSe)
  h_deleted : Has P deleted (b_forest_deleted cloneT bins size without TDel)
section
variable {P : Program} {f : Nat} {w : World}
theorem treeSize_ok (A : ForH P) (v : Value) (t : TT Hash) (ht : t.2.2 < 64) : RetV P A.size [.agg #[v, u64V t.2.1, intV' t.2.2]] w (u64V (2 ^ t.2.2)) := by
  refine Ret.of_exec A.h_size (Nat.le_of_ble_eq_true rfl) fun c hc => ?_
  dsimp only [b_forest_tree_size, argEnv, ym, yo, yg, ys, yt, yd, ye]
  refine exec_box rfl rfl ?_
  intro b w1 hb hs hu hB
  have hB' : Blk w1 b [v, u64V t.2.1, intV' t.2.2] := by simpa [Value.cells] using hB
  refine xr 2 rfl ?_
  refine exec_load1 (b := b) (o := 0 + 2) rfl rfl (hB'.cell rfl) ?_
  refine xju (ok_shlU (a := 1) (j := t.2.2) rfl rfl) rfl ?_
  have : 2 ^ t.2.2 < 2 ^ 64 := Nat.pow_lt_pow_right (by omega) ht
  rw [Nat.one_mul, Nat.mod_eq_of_lt this]
  refine xr 1 rfl ?_
  exact xre hc [_] ⟨rfl, trivial⟩ ⟨rfl, hu⟩
theorem otr_cell {v : Value} {t : Option (Tr Hash)} (h : OTr w v t) : cellValue v = true := by
  cases t with
  | none => rw [show v = .pointer none from h]; rfl
  | some t => obtain ⟨b, _, _, _, rfl, _⟩ := TrAt.node h; rfl
theorem TreesR.cells {vs : List Value} {ts : List (TT Hash)} (h : TreesR w vs ts) : (cellsT vs ts).all cellValue = true := by
  refine cellsT_ok vs ts fun v hv => ?_
  obtain ⟨i, hi⟩ := List.getElem?_of_mem hv
  have hlt := (List.getElem?_eq_some_iff.1 hi).1
  exact otr_cell (h.at' i v _ hi (List.getElem?_eq_getElem (by rw [← h.len]; exact hlt)))
theorem cloneT_ok (A : ForH P) {sv : Value} {ts : List (TT Hash)} (h : TreesAt w sv ts) (hl : ts.length < 2 ^ 30) : Ret P A.cloneT [sv] w fun v w' => TreesOwn w' v ts ∧ Ext w w' ∧ (∀ b ∈ blkOf v, w.heap.size ≤ b) ∧ (sv = .slice none 0 0 → v = .slice none 0 0) := by
  obtain ⟨vs, hR, hS⟩ := h
  refine Ret.of_exec A.h_cloneT (Nat.le_of_ble_eq_true rfl) fun c hc => ?_
  dsimp only [b_slices_Clone_forest_tree_forest_tree, argEnv, ym, yo, yg, ys, yt, yd, ye]
  refine xr 2 rfl ?_
  have hS0 := hS
  rcases hS.nil_or with ⟨rfl, h0, h1⟩ | ⟨ad, ll, cap, rfl⟩
  · refine xju (ok_eq_nilslice A.h_TSl rfl rfl) rfl ?_
    refine xr 2 rfl ?_
    refine xre hc [_] ⟨rfl, trivial⟩ ⟨⟨vs, hR, .inl ⟨rfl, h0, h1⟩⟩, Upd.refl _ _, by simp [single, blkOf], fun _ => rfl⟩
  · refine xju (ok_eq_nilslice A.h_TSl rfl rfl) rfl ?_
    refine xr 2 rfl ?_
    refine exec_litL (N := 3) (cs := []) rfl rfl rfl rfl ?_
    intro b1 w1 hb1 hs1 hu1 hO1
    refine xr 1 rfl ?_
    refine exec_ok (ok_append (N := 3) rfl rfl hO1 (hS0.upd hu1 (by simp)) rfl (by decide) (by omega) hR.cells) rfl ?_
    rintro v w2 ⟨hO2, hu2, hf2, _⟩
    refine xr 1 rfl ?_
    refine xre hc [_] ⟨rfl, trivial⟩ ⟨⟨vs, ?_, by simpa [single] using hO2⟩, ?_, ?_, fun h => by cases h⟩
    · refine (hR.upd hu1 (NoNode.nil _)).upd hu2 ?_
      intro b' hb' cs hcs
      have : b' = b1 := by simpa [blkOf] using hb'
      subst this
      rcases hO1 with ⟨h, _⟩ | ⟨b'', cap', rest', hv, hBl, _, hll, _⟩
      · cases h
      · cases hv
        obtain ⟨T1, hh1⟩ := hcs
        obtain ⟨T2, hh2⟩ := hBl
        rw [hh1] at hh2
        have : cs = [] ++ rest' := by
          have := congrArg (fun o => match o with | some (Obj.cells c _ _) => c.toList | _ => []) hh2
          simpa using this
        rintro ⟨hn, _⟩; rw [this, hll] at hn; simp at hn
    · exact hu1.trans hu2 (fun b hb => .inr (by have : b = b1 := by simpa [blkOf] using hb
                                                omega))
    · intro b' hb'
      rcases hf2 b' hb' with h | h
      · have : b' = b1 := by simpa [blkOf] using h
        omega
      · have := hu1.size; omega
end
end Go.Sp

namespace Go.Sp
def partOf' (l : List Nat) (t : TT Hash) : List Nat := l.filter (fun y => decide (t.2.1 ≤ y ∧ y < t.2.1 + 2 ^ t.2.2))
def delT (l : List Nat) (t : TT Hash) : TT Hash := (withoutO parH t.1 (partOf' l t), t.2.1, t.2.2)
theorem splice_cellsT {vs : List Value} {ts : List (TT Hash)} {rest : List Value} (i : Nat) (v : Value) (hl : vs.length = ts.length) (hi : i < ts.length) :
    splice (cellsT vs ts ++ rest) (0 + i * 3 + 0) [v] = cellsT (vs.set i v) ts ++ rest := by
  have h1 := cellsT_len vs ts hl
  rw [splice_one _ _ _ (by simp [h1]; omega), Nat.zero_add, Nat.add_zero, List.set_append_left _ _ (by omega), cellsT_set vs ts i v hl hi]
section
variable {P : Program} {f : Nat} {w : World}
theorem withoutO_ok (A : ForG P) (o : Option (Tr Hash)) (w : World) (v sv : Value) (l : List Nat) (hT : Tabs A.toShaF w) (ho : OTr w v o) (hS : SlC w sv 1 l.length (l.map u64V)) (hs : l.Pairwise (· ≤ ·)) (hl : l.length < 2 ^ 40) (hn : o = none → l = []) :
    Ret P A.without [v, sv] w fun r w' => OTr w' r (withoutO parH o l) ∧ Ext w w' := by
  cases o with
  | some t => exact without_ok A t w v sv l hT ho hS hs hl
  | none =>
    have hv : v = .pointer none := ho
    have := hn rfl
    subst hv; subst this
    refine Ret.of_exec A.h_without (Nat.le_of_ble_eq_true rfl) fun c hc => ?_
    dsimp only [b_Pforest_node_without, argEnv, ym, yo, yg, ys, yt, yd, ye]
    refine xtm rfl rfl rfl ?_
    refine xtm rfl rfl rfl ?_
    refine xpu (hS.lenS rfl) rfl ?_
    refine xpu (pv_eqlI (a := ([] : List Nat).length) (b := 0) (q := true) rfl rfl rfl) rfl ?_
    refine xr 3 rfl ?_
    exact xre hc [_] ⟨rfl, trivial⟩ ⟨rfl, Upd.refl _ _⟩
set_option maxHeartbeats 800000 in
theorem deleted_ok (A : ForH P) (hT : Tabs A.toShaF w) {sv lv : Value} {ts : List (TT Hash)} {l : List Nat} (h : TreesAt w sv ts) (hl : ts.length < 2 ^ 30) (hS : SlC w lv 1 l.length (l.map u64V)) (hs : l.Pairwise (· ≤ ·)) (hll : l.length < 2 ^ 40)
    (hn : ∀ t ∈ ts, t.1 = none → partOf' l t = []) (hb : ∀ t ∈ ts, t.2.1 + 2 ^ t.2.2 < 2 ^ 63 ∧ t.2.2 < 63) :
    Ret P A.deleted [sv, lv] w fun v w' => TreesOwn w' v (ts.map (delT l)) ∧ Ext w w' ∧ (∀ b ∈ blkOf v, w.heap.size ≤ b) ∧ (sv = .slice none 0 0 → v = .slice none 0 0) := by
  refine Ret.of_exec A.h_deleted (Nat.le_of_ble_eq_true rfl) fun c hc => ?_
  dsimp only [b_forest_deleted, argEnv, ym, yo, yg, ys, yt, yd, ye]
  refine xr 2 rfl ?_
  refine xca rfl rfl (cloneT_ok A h hl) ?_
  rintro v w1 ⟨⟨vs, hR, hO⟩, hu1, hf1, hnil1⟩
  refine xtm rfl rfl rfl ?_
  refine xtm rfl rfl rfl ?_
  refine xpu (hO.sl.lenS rfl) rfl ?_
  refine xr 2 rfl ?_
  have hlen := hR.len
  refine xlo (S := Nat × List Value) (fun s W => s.1 ≤ ts.length ∧ Ext w W ∧ s.2.length = ts.length ∧ OwnC W v 3 ts.length (cellsT s.2 ts) ∧ (∀ j u t, j < s.1 → s.2[j]? = some u → ts[j]? = some t → OTr W u (delT l t).1) ∧ (∀ j u t, s.1 ≤ j → s.2[j]? = some u → ts[j]? = some t → OTr W u t.1))
    (fun s => [(1, lv), (5, v), (14, v), (15, intV' ts.length), (16, intV' s.1)]) (fun s => ts.length - s.1) (0, vs)
    ⟨Nat.zero_le _, hu1, hlen, hO, fun j u t hj => by simp at hj, fun j u t _ h1 h2 => hR.at' j u t h1 h2⟩ ⟨rfl, rfl, rfl, rfl, rfl, trivial⟩ ?_
  rintro ⟨i, us⟩ W ⟨i1, iU, iL, iO, iD, iT⟩
  simp only at i1 iL iO iD iT
  skip
  by_cases hi : i < ts.length
  · refine xpu (pv_lssI (a := i) (b := ts.length) (q := true) rfl rfl (by simpa using hi)) rfl ?_
    refine xr 4 rfl ?_
    obtain ⟨u, hu⟩ : ∃ u, us[i]? = some u := ⟨_, List.getElem?_eq_getElem (by omega)⟩
    obtain ⟨t, ht⟩ : ∃ t, ts[i]? = some t := ⟨_, List.getElem?_eq_getElem hi⟩
    obtain ⟨hb1, hb2⟩ := hb t (List.mem_of_getElem? ht)
    have hOt := iT i u t (Nat.le_refl _) hu ht
    have hcell := otr_cell hOt
    obtain ⟨g0, g1, g2⟩ := cellsT_get us ts i u t hu ht
    rcases iO with ⟨_, h0, _⟩ | ⟨bo, cap, rest, rfl, hBo, ho1, ho2, ho3⟩
    · omega
    have hbof := hf1 bo (by simp [blkOf])
    refine xju (ok_iaddr (N := 3) (b := bo) (o := 0) (len := ts.length) (cap := cap) rfl rfl i rfl hi) rfl ?_
    have hM3 : Mem W bo (0 + i * 3) [u, u64V t.2.1, intV' t.2.2] := hBo.memPre.sub (i * 3) (us := [u, u64V t.2.1, intV' t.2.2]) (fun k x hk => by
      match k, hk with
      | 0, hk => cases hk; exact g0
      | 1, hk => cases hk; exact g1
      | 2, hk => cases hk; exact g2)
    refine exec_loadN (b := bo) (o := 0 + i * 3) (vs := [u, u64V t.2.1, intV' t.2.2]) rfl rfl hM3 rfl ?_
    refine exec_new rfl ?_
    intro b7 w2 hb7 hs2 hu2 hB7
    refine xtm rfl rfl rfl ?_
    refine exec_store (b := b7) (o := 0) (v := .agg #[u, u64V t.2.1, intV' t.2.2]) rfl rfl hB7 rfl (by simp [rle]) (by simp [Value.cells, hcell]; exact ⟨rfl, rfl⟩) ?_
    intro w3 hu3 _ hB7'
    have hB7 : Blk w3 b7 [u, u64V t.2.1, intV' t.2.2] := hB7'
    clear hB7'
    have zW := iU.size
    have hWw3 : Ext W w3 := hu2.trans hu3 (fun b hb => .inr (by simp at hb; omega))
    have hww3 : Ext w w3 := iU.trans hWw3
    refine xr 2 rfl ?_
    refine exec_load1 (b := b7) (o := 0 + 1) (v := u64V t.2.1) rfl rfl (hB7.cell rfl) ?_
    refine xca rfl rfl (bins_ok A.toForG t.2.1 (hS.upd hww3 (by simp)) hs hll) ?_
    rintro _ w4 ⟨rfl, hu4⟩
    obtain ⟨sp1, sp1'⟩ := cntN_split hs t.2.1
    obtain ⟨sp2, sp2'⟩ := cntN_split hs (t.2.1 + 2 ^ t.2.2)
    have hk1 := cntN_le l t.2.1
    have hk2 := cntN_le l (t.2.1 + 2 ^ t.2.2)
    obtain ⟨hk12, hpart⟩ := part_sorted sp1 sp1' sp2 hk1 hk2
    refine xr 5 rfl ?_
    refine xen [(1, lv), (5, .slice (some ⟨bo, 0, none⟩) ts.length cap), (6, intV' i), (7, ptrV b7), (8, intV' (cntN l t.2.1)), (14, .slice (some ⟨bo, 0, none⟩) ts.length cap), (15, intV' ts.length), (16, intV' i)] ⟨rfl, rfl, rfl, rfl, rfl, rfl, rfl, rfl, trivial⟩ ?_
    have hB74 := hB7.upd hu4
    have hpw : 2 ^ t.2.2 < 2 ^ 63 := by omega
    have hww4 := hww3.trans hu4
    refine exec_dwr rfl rfl rfl ?_
    repeat (first | refine wtm rfl rfl rfl ?_ | refine wgt rfl rfl rfl rfl ?_ | refine wgs rfl rfl ?_)
    refine ws_keep (u64V t.2.1) rfl (fun X hx => ok_load1 (b := b7) (o := 0 + 1) rfl ((hB74.upd hx).cell rfl)) ?_
    refine ws_keep (.agg #[u, u64V t.2.1, intV' t.2.2]) rfl (fun X hx => ok_loadN (b := b7) (o := 0) (vs := [u, u64V t.2.1, intV' t.2.2]) rfl (hB74.upd hx).memAll rfl) ?_
    refine ws_ext (u64V (2 ^ t.2.2)) rfl (fun X hx => ok_call rfl (treeSize_ok A u t (by omega))) ?_
    refine ws_val rfl (pv_addU (a := t.2.1) (b := 2 ^ t.2.2) rfl rfl (by omega)) ?_
    refine ws_ext _ rfl (fun X hx => ok_call rfl (bins_ok A.toForG (t.2.1 + 2 ^ t.2.2) ((hS.upd hww4 (by simp)).upd hx (by simp)) hs hll)) ?_
    repeat (first | refine wtm rfl rfl rfl ?_ | refine wgt rfl rfl rfl rfl ?_ | refine wgs rfl rfl ?_)
    refine ws_fin fun w5 hu5 => ?_
    refine xr 1 rfl ?_
    refine xen [(1, lv), (5, .slice (some ⟨bo, 0, none⟩) ts.length cap), (6, intV' i), (7, ptrV b7), (8, intV' (cntN l t.2.1)), (10, intV' (cntN l (t.2.1 + 2 ^ t.2.2))), (14, .slice (some ⟨bo, 0, none⟩) ts.length cap), (15, intV' ts.length), (16, intV' i)] ⟨rfl, rfl, rfl, rfl, rfl, rfl, rfl, rfl, rfl, trivial⟩ ?_
    have hS5 := (hS.upd hww4 (by simp)).upd hu5 (by simp)
    have hsub := subV_sl hS5 hk12 hk2
    have hsub' : SlC w5 (subV lv 1 (cntN l t.2.1) (cntN l (t.2.1 + 2 ^ t.2.2))) 1 (partOf' l t).length ((partOf' l t).map u64V) := by
      have e1 : ((l.map u64V).take (cntN l (t.2.1 + 2 ^ t.2.2) * 1)).drop (cntN l t.2.1 * 1) = (partOf' l t).map u64V := by
        rw [Nat.mul_one, Nat.mul_one, ← List.map_take, ← List.map_drop, hpart]; rfl
      have e2 : cntN l (t.2.1 + 2 ^ t.2.2) - cntN l t.2.1 = (partOf' l t).length := by
        rw [partOf', ← hpart]; simp; omega
      rw [e1, e2] at hsub; exact hsub
    have hww5 := hww4.trans hu5
    have hWw5 : Ext W w5 := (hWw3.trans hu4).trans hu5
    refine exec_dw [] rfl rfl rfl ?_
    repeat (first | refine dau rfl (fun _ => rfl) ?_ | refine dga rfl (fun _ => rfl) (fun _ => rfl) ?_ | refine dgs (fun _ => rfl) ?_)
    refine dw_keep u (fun vs' X hx _ => ok_load1 (b := b7) (o := 0 + 0) rfl (((hB74.upd hu5).upd hx).cell rfl)) ?_
    repeat (first | refine dau rfl (fun _ => rfl) ?_ | refine dga rfl (fun _ => rfl) (fun _ => rfl) ?_ | refine dgs (fun _ => rfl) ?_)
    refine dw_keep _ (fun vs' X hx _ => ok_slSd (N := 1) (len := l.length) (some (.tmp 43)) (some (.tmp 44)) (cntN l t.2.1) (cntN l (t.2.1 + 2 ^ t.2.2)) rfl (hS5.upd hx (by simp)) ⟨.i64, rfl⟩ ⟨.i64, rfl⟩ hk12 hk2) ?_
    refine dw_rel [] (fun X _ r => OTr X r (delT l t).1) rfl (fun X X' xs r _ hx h => h.ext hx) ?_ ?_
    · intro vs' X hx _
      refine (ok_call rfl (withoutO_ok A.toForG t.1 X u _ (partOf' l t) ((hT.upd hww5).upd hx) ((hOt.ext hWw5).ext hx) (hsub'.upd hx (by simp)) (hs.sublist List.filter_sublist) (Nat.lt_of_le_of_lt (List.length_filter_le _ _) hll) (fun hnn => hn t (List.mem_of_getElem? ht) hnn))).mono ?_
      rintro r X' ⟨h1, h2⟩
      exact ⟨h2, h1⟩
    refine dw_end fun vs' w6 hu6 hf => ?_
    obtain ⟨hr8, _⟩ := hf
    have hWw6 := hWw5.trans hu6
    generalize hr : vs' 8 = r at *
    have hBo6 := hBo.upd hWw6
    refine xju (ok_iaddr (N := 3) (b := bo) (o := 0) (len := ts.length) (cap := cap) rfl rfl i rfl hi) rfl ?_
    refine xr 1 rfl ?_
    have hrc := otr_cell hr8
    have hrcells : r.cells.toList = [r] := by
      cases hd : (delT l t).1 with
      | none => rw [hd] at hr8; rw [show r = .pointer none from hr8]; rfl
      | some t' => rw [hd] at hr8; obtain ⟨b', _, _, _, rfl, _⟩ := TrAt.node hr8; rfl
    refine exec_store (b := bo) (o := 0 + i * 3 + 0) (v := r) rfl (by show some (vs' 8) = some r; rw [hr]) hBo6 (by rw [← Array.length_toList, hrcells]; rfl) (by simp [ho1]; omega) (by rw [hrcells]; simp [hrc]) ?_
    intro w7 hu7 _ hBo7
    rw [hrcells, splice_cellsT i r iL hi] at hBo7
    refine xr 2 rfl ?_
    refine xpu (pv_addI (a := i) (b := 1) rfl rfl (by omega)) rfl ?_
    refine xr 1 rfl ?_
    have hno : NoNode w6 [bo] := by
      intro b' hb' cs hcs
      have : b' = bo := by simpa using hb'
      subst this
      obtain ⟨T1, hh1⟩ := hcs
      obtain ⟨T2, hh2⟩ := hBo6
      rw [hh1] at hh2
      have : cs = cellsT us ts ++ rest := by
        have := congrArg (fun o => match o with | some (Obj.cells c _ _) => c.toList | _ => []) hh2
        simpa using this
      rintro ⟨hn, _⟩; rw [this, ho2] at hn; omega
    refine xag (i + 1, us.set i r) ⟨by show i + 1 ≤ ts.length; omega, (iU.trans hWw6).trans hu7 (fun b hb => .inr (by simp at hb; omega)), by simp [iL], .inr ⟨bo, cap, rest, rfl, hBo7, ?_, ?_, ho3⟩, ?_, ?_⟩ (by show ts.length - (i + 1) < ts.length - i; omega) ⟨rfl, rfl, rfl, rfl, rfl, trivial⟩
    · exact cellsT_len _ _ (by simp [iL])
    · rw [List.length_append, cellsT_len _ _ (by simp [iL]), ← ho2, List.length_append, cellsT_len _ _ iL]
    · intro j u' t' hj h1 h2
      by_cases hji : j = i
      · subst hji
        rw [ht] at h2; cases h2
        rw [List.getElem?_set_self (by omega)] at h1
        cases h1
        exact hr8.upd hu7 hno
      · rw [List.getElem?_set_ne (Ne.symm hji)] at h1
        exact ((iD j u' t' (by have : j < i + 1 := hj; omega) h1 h2).ext hWw6).upd hu7 hno
    · intro j u' t' hj h1 h2
      have : i + 1 ≤ j := hj
      rw [List.getElem?_set_ne (by omega)] at h1
      exact ((iT j u' t' (by omega) h1 h2).ext hWw6).upd hu7 hno
  · refine xpu (pv_lssI (a := i) (b := ts.length) (q := false) rfl rfl (by simpa using hi)) rfl ?_
    have : i = ts.length := by omega
    subst this
    refine xr 5 rfl ?_
    refine xre hc [_] ⟨rfl, trivial⟩ ⟨⟨us, ⟨by simp [iL], ?_⟩, ?_⟩, iU, hf1, hnil1⟩
    · intro j u t h1 h2
      rw [List.getElem?_map] at h2
      cases htj : ts[j]? with
      | none => rw [htj] at h2; cases h2
      | some t' =>
        rw [htj] at h2; cases h2
        exact iD j u t' (List.getElem?_eq_some_iff.1 htj).1 h1 htj
    · have : cellsT us (ts.map (delT l)) = cellsT us ts := by
        have key : ∀ (us : List Value) (ts : List (TT Hash)), cellsT us (ts.map (delT l)) = cellsT us ts := by
          intro us
          induction us with
          | nil => intro ts; cases ts <;> rfl
          | cons u us ih => intro ts; cases ts with
            | nil => rfl
            | cons t ts => simp only [List.map_cons, cellsT, ih]; rfl
        exact key us ts
      rw [this, List.length_map]
      exact iO
end
end Go.Sp
