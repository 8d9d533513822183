/- spinneylaw14.ForestKnown returns true for every input, and its arguments read afterwards as before: the card. No condition. This text: part 4 of 10. -/
import Derived.Test.YtgkfgclebdikgaaGreatDoorW3
set_option linter.unusedVariables false
set_option linter.unusedSimpArgs false
set_option linter.unusedSectionVars false
namespace Go.Sp
section
variable {P : Program} {f : Nat} {w : World}
section
variable {n : Nat} {c : Ctx} {D : List Deferred} {is : List Ins} {k : Kont} {e : Env}
theorem ok_slS3 {N b o len cap : Nat} {x lo hi mx : Operand} {K1 K2 K3 : IntKind} (l h m : Nat) (hx : e.ev x = some (.slice (some ⟨b, o, none⟩) len cap))
    (hlo : e.ev lo = some (.int K1 (l : Int))) (hhi : e.ev hi = some (.int K2 (h : Int))) (hmx : e.ev mx = some (.int K3 (m : Int)))
    (h1 : l ≤ h) (h2 : h ≤ m) (h3 : m ≤ cap) : OpOK P (.slS3 N x (some lo) (some hi) (some mx)) e w (Just (.slice (some (if m = l then ⟨b, o, none⟩ else ⟨b, o + l * N, none⟩)) (h - l) (m - l)) w) :=
  ok_val fun a hk => by
    have e1 : (Instr.sliceBounds true len cap (some (a.eval lo)) (some (a.eval hi)) (some (a.eval mx))).run P w = .ok (l, h, m) w := by
      unfold Instr.sliceBounds
      simp [sliceBound_run hk hmx h3, sliceBound_run hk hhi h2, sliceBound_run hk hlo h1]
    simp only [MOp.sem, Env.ok_ev hk hx, Sem.run_bind, Option.map_some, e1, Result.andThen_ok, Sem.run_pure, add_mk]
    split <;> rfl
end
theorem u8N_cell (l : List Nat) : (l.map u8N).all cellValue = true := by
  rw [List.all_eq_true]; intro v hv; simp only [List.mem_map] at hv; obtain ⟨b, _, rfl⟩ := hv; rfl
/-- slices.Clone, of bytes -/
theorem cloneB_ok {T1 T2 E : Nat} (h : Has P f (b_slices_Clone_byte_byte T1 T2)) (hT : P.underlying T1 = some (.slice E)) {v : Value} {l : List Nat} (hS : SlC w v 1 l.length (l.map u8N)) (hl : l.length < 2 ^ 40) :
    RetS P f [v] w 1 l.length (l.map u8N) := by
  refine Ret.of_exec h (Nat.le_of_ble_eq_true rfl) fun c hc => ?_
  dsimp only [b_slices_Clone_byte_byte, argEnv, ym, yo, yg, ys, yt, yd, ye]
  refine xr 2 rfl ?_
  rcases hS.nil_or with ⟨rfl, h0, h1⟩ | ⟨ad, ll, cap, rfl⟩
  · refine xju (ok_eq_nilslice hT rfl rfl) rfl ?_
    refine xr 2 rfl ?_
    exact xre hc [_] ⟨rfl, trivial⟩ ⟨.inl ⟨rfl, h0, h1⟩, Upd.refl _ _, by simp [single, blkOf]⟩
  · refine xju (ok_eq_nilslice hT rfl rfl) rfl ?_
    refine xr 2 rfl ?_
    refine exec_litL (N := 1) rfl rfl rfl rfl ?_
    intro b1 w1 hb1 hs1 hu1 hO1
    refine xr 1 rfl ?_
    have hS1 := hS.upd hu1 (by simp)
    refine exec_ok (ok_append (N := 1) rfl rfl hO1 hS1 rfl (by decide) (by omega) (u8N_cell l)) rfl ?_
    rintro v2 w2 ⟨hO2, hu2, hf2, _⟩
    refine xr 1 rfl ?_
    refine xre hc [_] ⟨rfl, trivial⟩ ⟨by simpa [rleL, single] using hO2, hu1.trans hu2 (fun b hb => by simp [blkOf] at hb; right; omega), fun b hb => ?_⟩
    rcases hf2 b hb with h | h
    · simp [blkOf] at h; omega
    · omega
theorem padN_lt (n : Nat) : padN n < 128 := Nat.mod_lt _ (by decide)
theorem filled_ok {g1 g2 T T1 T2 E TL : Nat} (h1 : Has P g1 (b_slices_Clone_byte_byte T1 T2)) (hT : P.underlying T1 = some (.slice E)) (h2 : Has P g2 (b_sha512_lay TL)) (h : Has P f (b_sha512_filled g1 g2 T)) {v : Value} {l : List Nat}
    (hS : SlC w v 1 l.length (l.map u8N)) (hl : l.length < 2 ^ 30) : RetS P f [v] w 1 (filledN l).length ((filledN l).map u8N) := by
  refine Ret.of_exec h (Nat.le_of_ble_eq_true rfl) fun c hc => ?_
  dsimp only [b_sha512_filled, argEnv, ym, yo, yg, ys, yt, yd, ye]
  refine xr 2 rfl ?_
  refine xca rfl rfl (cloneB_ok h1 hT hS (by omega)) ?_
  rintro v1 w1 ⟨hO1, hu1, hf1⟩
  refine exec_litL (N := 1) (cs := [u8N 128]) rfl rfl rfl rfl ?_
  intro b2 w2 hb2 hs2 hu2 hO2
  refine exec_ok (ok_append (N := 1) rfl rfl (hO1.upd hu2 (by simp)) hO2.sl rfl (by decide) (by omega) rfl) rfl ?_
  rintro v3 w3 ⟨hO3, hu3, hf3, _⟩
  have z1 := hu1.size
  have z2 := hu2.size
  have hE3 : Ext w w3 := (hu1.trans hu2).trans hu3 (fun b hb => .inr (hf1 b hb))
  have hF3 : ∀ b ∈ blkOf v3, w.heap.size ≤ b := fun b hb => by
    rcases hf3 b hb with h | h
    · exact hf1 b h
    · omega
  refine xr 2 rfl ?_
  have hpad := padN_lt l.length
  have hpd : padN l.length = (112 + 128 - (l.length + 1) % 128) % 128 := rfl
  refine xlo (S := Nat × Value) (fun s W => s.1 ≤ padN l.length ∧ OwnC W s.2 1 (l.length + 1 + s.1) ((l ++ [128] ++ List.replicate s.1 0).map u8N) ∧ Ext w W ∧ ∀ b ∈ blkOf s.2, w.heap.size ≤ b) (fun s => [(0, v), (3, s.2)]) (fun s => padN l.length - s.1) (0, v3)
    ⟨Nat.zero_le _, by simpa using hO3, hE3, hF3⟩ ⟨rfl, rfl, trivial⟩ ?_
  rintro ⟨j, v4⟩ W ⟨hj, hO4, hE4, hF4⟩
  simp only at hj hO4 hF4
  refine xr 1 rfl ?_
  refine xpu (hO4.sl.lenS rfl) rfl ?_
  refine xju (ok_rem rfl rfl (by decide)) rfl ?_
  have e1 : (((l.length + 1 + j : Nat) : Int).tmod 128) = (((l.length + 1 + j) % 128 : Nat) : Int) := rfl
  rw [e1]
  refine xr 1 rfl ?_
  refine exec_cond rfl (fun h5 => ?_) (fun h5 => ?_)
  · have hne : (l.length + 1 + j) % 128 ≠ 112 := by
      simp only [bne_iff_ne, ne_eq] at h5; omega
    have hjl : j < padN l.length := by omega
    refine xr 3 rfl ?_
    refine exec_litL (N := 1) (cs := [u8N 0]) rfl rfl rfl rfl ?_
    intro b5 w5 hb5 hs5 hu5 hO5
    refine exec_ok (ok_append (N := 1) rfl rfl (hO4.upd hu5 (by simp)) hO5.sl rfl (by decide) (by omega) rfl) rfl ?_
    rintro v6 w6 ⟨hO6, hu6, hf6, _⟩
    have z5 := hE4.size
    have z6 := hu5.size
    refine xr 3 rfl ?_
    refine xag (j + 1, v6) ⟨hjl, ?_, (hE4.trans hu5).trans hu6 (fun b hb => .inr (hF4 b hb)), fun b hb => ?_⟩ (by show padN l.length - (j + 1) < padN l.length - j; omega) ⟨rfl, rfl, trivial⟩
    · show OwnC w6 v6 1 (l.length + 1 + (j + 1)) _
      rw [List.replicate_succ', ← List.append_assoc, List.map_append]
      exact hO6
    · rcases hf6 b hb with h | h
      · exact hF4 b h
      · omega
  · have heq : (l.length + 1 + j) % 128 = 112 := by
      simp only [bne_eq_false_iff_eq] at h5; omega
    have hjp : j = padN l.length := by omega
    subst hjp
    refine xr 4 rfl ?_
    have hlen4 : (l ++ [128] ++ List.replicate (padN l.length) 0).length = l.length + 1 + padN l.length := by simp; omega
    have hSv : SlC W v 1 l.length (l.map u8N) := hS.upd hE4 (by simp)
    refine xpu (hSv.lenS rfl) rfl ?_
    refine xpu (pv_toU (a := l.length) rfl (by omega)) rfl ?_
    refine xju (ok_shrU (a := l.length) (j := 61) rfl rfl (by omega)) rfl ?_
    refine xca rfl rfl (lay_ok h2 (l := l ++ [128] ++ List.replicate (padN l.length) 0) (l.length / 2 ^ 61) (by rw [hlen4]; exact hO4) (by omega) (by omega)) ?_
    rintro v7 w7 ⟨hO7, hu7, hf7⟩
    have hSv7 : SlC w7 v 1 l.length (l.map u8N) := hS.upd (hE4.trans hu7 (fun b hb => .inr (hF4 b hb))) (by simp)
    refine xr 1 rfl ?_
    refine xpu (hSv7.lenS rfl) rfl ?_
    refine xpu (pv_toU (a := l.length) rfl (by omega)) rfl ?_
    refine xju (ok_shlU (a := l.length) (j := 3) rfl rfl) rfl ?_
    refine xca rfl rfl (lay_ok h2 (l := l ++ [128] ++ List.replicate (padN l.length) 0 ++ layN (l.length / 2 ^ 61)) (l.length * 2 ^ 3 % 18446744073709551616) (by rw [List.length_append, show (layN (l.length / 2 ^ 61)).length = 8 by simp [layN]]; exact hO7) (by rw [List.length_append, hlen4]; simp [layN]; omega) (Nat.mod_lt _ (by decide))) ?_
    rintro v8 w8 ⟨hO8, hu8, hf8⟩
    refine xr 1 rfl ?_
    have hF7 : ∀ b ∈ blkOf v7, w.heap.size ≤ b := fun b hb => by
      rcases hf7 b hb with h | h
      · exact hF4 b h
      · have := hE4.size; omega
    have hE7 : Ext w w7 := hE4.trans hu7 (fun b hb => .inr (hF4 b hb))
    refine xre hc [_] ⟨rfl, trivial⟩ ⟨?_, hE7.trans hu8 (fun b hb => .inr (hF7 b hb)), fun b hb => ?_⟩
    · have e2 : filledN l = l ++ [128] ++ List.replicate (padN l.length) 0 ++ layN (l.length / 2 ^ 61) ++ layN (l.length * 2 ^ 3 % 18446744073709551616) := rfl
      rw [e2]
      have e3 : (l ++ [128] ++ List.replicate (padN l.length) 0 ++ layN (l.length / 2 ^ 61) ++ layN (l.length * 2 ^ 3 % 18446744073709551616)).length = (l ++ [128] ++ List.replicate (padN l.length) 0 ++ layN (l.length / 2 ^ 61)).length + 8 := by
        rw [List.length_append (bs := layN (l.length * 2 ^ 3 % 18446744073709551616))]; simp [layN]
      rw [e3]
      exact hO8
    · rcases hf8 b hb with h | h
      · exact hF7 b h
      · have := hE7.size; omega
end
end Go.Sp

namespace Go.Sp
section
variable {P : Program} {f : Nat} {w : World}
def chunkV (b : Nat) (k : Nat) : Value := .slice (some ⟨b, 128 * k, none⟩) 128 128
theorem chunk1_ok (h : Has P f b_slices_Chunk_byte_byte_1) {bs bn b K len cap : Nat} (hB : Blk w bs [.slice (some ⟨b, 0, none⟩) len cap]) (hN : Blk w bn [intV' 128]) (hlen : len = 128 * K) (hcap : len ≤ cap) (hK : len < 2 ^ 40) :
    SeqOK P f [ptrV' bs, ptrV' bn] w [bs, bn] [] (fun k => [chunkV b k]) (List.range K) := by
  refine SeqOK.of_ret fun S y n0 ws loc J Jx s0 hJ hJx h0 hn0 hl0 hwr hrd hrounds => ?_
  refine Ret.of_exec h (Nat.le_of_ble_eq_true rfl) fun c hc => ?_
  dsimp only [b_slices_Chunk_byte_byte_1, argEnv, ym, yo, yg, ys, yt, yd, ye]
  refine xr 2 rfl ?_
  refine xlo (S := Nat × S) (fun s W => s.1 ≤ K ∧ J s.1 s.2 W ∧ Blk W bs [.slice (some ⟨b, 0, none⟩) len cap] ∧ Blk W bn [intV' 128] ∧ bs ∉ ws ++ loc s.2 ∧ bn ∉ ws ++ loc s.2 ∧ (∀ b ∈ ws ++ loc s.2, b < W.heap.size))
    (fun s => [(0, .func (.yield y) #[] #[]), (1, ptrV' bs), (2, ptrV' bn), (4, intV' (128 * s.1))]) (fun s => K - s.1) (0, s0)
    ⟨Nat.zero_le _, h0, hB, hN, by simp [hrd bs], by simp [hrd bn], hl0⟩ ⟨rfl, rfl, rfl, rfl, trivial⟩ ?_
  rintro ⟨i, s⟩ W ⟨hi, hJi, hBi, hNi, hbs, hbn, hlw⟩
  simp only at hi hJi hbs hbn hlw
  refine xr 1 rfl ?_
  refine exec_load1 (b := bs) (o := 0) rfl rfl (hBi.cell rfl) ?_
  refine xr 2 rfl ?_
  refine exec_cond rfl (fun h1 => ?_) (fun h1 => ?_)
  · simp only [decide_eq_true_eq] at h1
    have hik : i < K := by omega
    refine xr 2 rfl ?_
    refine exec_dw [] rfl rfl rfl ?_
    repeat (first | refine dau rfl (fun _ => rfl) ?_ | refine dga rfl (fun _ => rfl) (fun _ => rfl) ?_ | refine dgs (fun _ => rfl) ?_)
    refine dw_keep (intV' 128) (fun vs W' hu _ => ok_load1 (b := bn) (o := 0) rfl ((hNi.upd hu (by simp)).cell rfl)) ?_
    refine dw_keep (.slice (some ⟨b, 0, none⟩) len cap) (fun vs W' hu _ => ok_load1 (b := bs) (o := 0) rfl ((hBi.upd hu (by simp)).cell rfl)) ?_
    repeat (first | refine dau rfl (fun _ => rfl) ?_ | refine dga rfl (fun _ => rfl) (fun _ => rfl) ?_ | refine dgs (fun _ => rfl) ?_)
    refine dw_keep _ (fun vs W' hu _ => ok_slS (b := b) (o := 0) (len := len) (cap := cap) (128 * i) len rfl ⟨.i64, rfl⟩ rfl (by omega) hcap) ?_
    repeat (first | refine dau rfl (fun _ => rfl) ?_ | refine dga rfl (fun _ => rfl) (fun _ => rfl) ?_ | refine dgs (fun _ => rfl) ?_)
    refine dw_end fun vs W1 hu1 _ => ?_
    refine xju (ok_min2 rfl rfl) rfl ?_
    have e1 : (if ((len - 128 * i : Nat) : Int) < ((128 : Nat) : Int) then ((len - 128 * i : Nat) : Int) else ((128 : Nat) : Int)) = 128 := by
      split <;> omega
    rw [e1]
    refine xr 2 rfl ?_
    have hB1 := hBi.upd hu1 (by simp)
    refine exec_load1 (b := bs) (o := 0) rfl rfl (hB1.cell rfl) ?_
    refine xr 3 rfl ?_
    refine xpu (pv_addI (a := 128 * i) (b := 128) rfl rfl (by omega)) rfl ?_
    refine xr 2 rfl ?_
    refine xpu (pv_addI (a := 128 * i) (b := 128) rfl rfl (by omega)) rfl ?_
    refine xju (ok_slS3 (N := 1) (128 * i) (128 * i + 128) (128 * i + 128) rfl rfl rfl rfl (by omega) (Nat.le_refl _) (by omega)) rfl ?_
    have e2 : (Value.slice (some (if 128 * i + 128 = 128 * i then ⟨b, 0, none⟩ else ⟨b, 0 + 128 * i * 1, none⟩)) (128 * i + 128 - 128 * i) (128 * i + 128 - 128 * i)) = chunkV b i := by
      rw [if_neg (by omega), show 128 * i + 128 - 128 * i = 128 by omega, show 0 + 128 * i * 1 = 128 * i by omega]; rfl
    rw [e2]
    have hx : (List.range K)[i]? = some i := by simp [hik]
    have hJ1 := hJ i s _ _ [] hJi hu1 (by simp)
    have z1 := hu1.size
    refine exec_yield (l := y) (vs := [chunkV b i]) rfl rfl rfl (hrounds i s W1 i hJ1 hx (fun b' hb' => by have := hlw b' hb'; omega)) ?_
    rintro go W2 ⟨s1, hgo, hu2, hfr, hlt⟩
    have z2 := hu2.size
    have hB2 := hB1.upd hu2 hbs
    have hN2 := (hNi.upd hu1 (by simp)).upd hu2 hbn
    cases go with
    | false =>
      refine xr 2 rfl ?_
      exact xre hc [] trivial (.inr ⟨s1, hgo⟩)
    | true =>
      simp only [if_true] at hgo
      refine xr 6 rfl ?_
      refine exec_load1 (b := bn) (o := 0) rfl rfl (hN2.cell rfl) ?_
      refine xpu (pv_addI (a := 128 * i) (b := 128) rfl rfl (by omega)) rfl ?_
      refine xr 1 rfl ?_
      have stay : ∀ x, x ∉ ws ++ loc s → x < W1.heap.size → x ∉ ws ++ loc s1 := by
        intro x hx hl
        simp only [List.mem_append, not_or] at hx ⊢
        refine ⟨hx.1, fun hm => ?_⟩
        rcases hfr _ hm with h4 | h4
        · exact hx.2 h4
        · omega
      refine xag (i + 1, s1) ⟨hik, hgo, hB2, hN2, stay _ hbs hB1.lt, stay _ hbn (by have := hNi.lt; omega), fun b' hb' => ?_⟩ (by show K - (i + 1) < K - i; omega) ⟨rfl, rfl, rfl, rfl, trivial⟩
      rcases List.mem_append.1 hb' with h2 | h2
      · have := hlw b' (List.mem_append_left _ h2); omega
      · exact hlt b' h2
  · simp only [decide_eq_false_iff_not] at h1
    have : i = K := by omega
    subst this
    refine xr 2 rfl ?_
    exact exec_end hc [] trivial (.inl ⟨s, by simpa using hJi⟩)
theorem chunk_ok {g T1 T2 T3 : Nat} (h : Has P f (b_slices_Chunk_byte_byte g T1 T2 T3)) (v : Value) (hv : v.cells.toList = [v]) : Ret P f [v, intV' 128] w fun v' w' => ∃ bs bn, v' = .func (.func g) #[] #[ptrV' bs, ptrV' bn] ∧ Blk w' bs [v] ∧ Blk w' bn [intV' 128] ∧ w.heap.size ≤ bs ∧ w.heap.size ≤ bn ∧ Ext w w' := by
  refine Ret.of_exec h (Nat.le_of_ble_eq_true rfl) fun c hc => ?_
  dsimp only [b_slices_Chunk_byte_byte, argEnv, ym, yo, yg, ys, yt, yd, ye]
  refine exec_box rfl rfl ?_
  intro bs w1 hb1 hs1 hu1 hB1
  rw [hv] at hB1
  refine exec_box rfl rfl ?_
  intro bn w2 hb2 hs2 hu2 hB2
  refine xr 1 rfl ?_
  refine exec_load1 (b := bn) (o := 0) rfl rfl (hB2.cell rfl) ?_
  refine xr 5 rfl ?_
  exact xre hc [_] ⟨rfl, trivial⟩ ⟨bs, bn, rfl, hB1.upd hu2, hB2, by omega, by omega, hu1.trans hu2⟩
theorem nextW_lt (l : List Nat) : nextW l < 18446744073709551616 := Nat.mod_lt _ (by decide)
theorem rleL_one (n : Nat) (v : Value) : rleL [(n, v)] = List.replicate n v := by simp [rleL]
theorem pv_addW {e : Env} {x y : Operand} {a b : Nat} (hx : e.ev x = some (u64V a)) (hy : e.ev y = some (u64V b)) : pureV e (.ibin .add x y) = some (u64V ((a + b) % 18446744073709551616)) := by
  simp only [pureV, hx, hy, binV, decide_true, intV]
  rw [wrap_u64]
  exact congrArg (fun z => some (Value.int .u64 z)) (by omega)
theorem splice_at {xs zs : List Value} {z v : Value} {i : Nat} (h : xs.length = i) : splice (xs ++ z :: zs) i [v] = xs ++ v :: zs := by
  subst h
  simp [splice]
theorem growW_len (k : Nat) : ∀ w, (growW k w).length = w.length + k := by
  induction k with
  | zero => intro w; rfl
  | succ k ih => intro w; simp only [growW, ih]; simp; omega
theorem spread_ok {g1 g2 g3 T : Nat} (h1 : Has P g1 b_sha512_word) (h2 : Has P g2 (b_sha512_right g3)) (h3 : Has P g3 b_math_bits_RotateLeft64) (h : Has P f (b_sha512_spread g1 g2 T)) {b o cap len : Nat} {l : List Nat}
    (hm : Mem w b o (l.map u8N)) (hl : l.length = 128) (hlen : len = 128) (hcap : len ≤ cap) (hb : ∀ x ∈ l, x < 256) :
    RetV P f [.slice (some ⟨b, o, none⟩) len cap] w (.agg ((spreadN l).map u64V).toArray) := by
  subst hlen
  refine Ret.of_exec h (Nat.le_of_ble_eq_true rfl) fun c hc => ?_
  dsimp only [b_sha512_spread, argEnv, ym, yo, yg, ys, yt, yd, ye]
  refine exec_new rfl ?_
  intro b2 w1 hb2 hs1 hu1 hB2
  refine exec_new rfl ?_
  intro b3 w2 hb3 hs2 hu2 hB3
  rw [rle_toList, rleL_one] at hB2 hB3
  have h16 : (words16 l).length = 16 := by simp [words16]
  refine xr 2 rfl ?_
  refine xlo (S := Nat) (fun i W => i ≤ 16 ∧ Ext w W ∧ Blk W b2 (List.replicate 80 (u64V 0)) ∧ Blk W b3 (((words16 l).take i).map u64V ++ List.replicate (80 - i) (u64V 0)))
    (fun i => [(0, .slice (some ⟨b, o, none⟩) 128 cap), (2, ptrV' b2), (3, ptrV' b3), (10, intV' i)]) (fun i => 16 - i) 0
    ⟨by omega, hu1.trans hu2, hB2.upd hu2, hB3⟩ ⟨rfl, rfl, rfl, rfl, trivial⟩ ?_
  rintro i W ⟨hi, hE, hA2, hA3⟩
  refine xr 1 rfl ?_
  refine exec_cond rfl (fun h5 => ?_) (fun h5 => ?_)
  · simp only [decide_eq_true_eq] at h5
    have hi16 : i < 16 := by omega
    refine xr 7 rfl ?_
    refine xpu (v := intV' (8 * i)) ?_ rfl ?_
    · show some (Value.int .i64 (IntKind.i64.wrap _)) = _
      rw [wrap_i64 (by omega) (by omega)]
      exact congrArg (fun z => some (Value.int .i64 z)) (by omega)
    refine xju (ok_slS (8 * i) 128 rfl ⟨.i64, rfl⟩ rfl (by omega) hcap) rfl ?_
    rw [if_neg (by omega)]
    have hS : SlC W (.slice (some ⟨b, o + 8 * i * 1, none⟩) (128 - 8 * i) (cap - 8 * i)) 1 (128 - 8 * i) ((l.drop (8 * i)).map u8N) := by
      refine .inr ⟨b, o + 8 * i * 1, cap - 8 * i, rfl, ?_, by simp; omega, by omega⟩
      have := (hm.upd hE).at (8 * i) 128
      rw [Nat.mul_one, List.map_drop]
      rw [List.take_of_length_le (by simp; omega)] at this
      exact this
    refine xca rfl rfl (word_ok h1 hS (by simp; omega) (by simp; omega) (fun x hx => hb x (List.mem_of_mem_drop hx))) ?_
    rintro v w5 ⟨rfl, hu5⟩
    refine xju (ok_iaddrA rfl rfl i rfl (by omega)) rfl ?_
    have hA3' := hA3.upd hu5
    rw [show 80 - i = (80 - (i + 1)) + 1 by omega, List.replicate_succ] at hA3'
    refine exec_store (b := b3) (o := 0 + i * 1) (v := u64V (wordN ((l.drop (8 * i)).take 8))) rfl rfl hA3' rfl (by simp; omega) rfl ?_
    intro w6 hu6 hs6 hA6
    refine xr 2 rfl ?_
    refine xpu (pv_addI (a := i) (b := 1) rfl rfl (by omega)) rfl ?_
    refine xr 1 rfl ?_
    have hz1 : b2 ≠ b3 := by omega
    refine xag (i + 1) ⟨by omega, (hE.trans hu5).trans hu6 (fun b hb => .inr (by simp at hb; omega)), (hA2.upd hu5).upd hu6 (by simp; exact hz1), ?_⟩ (by omega) ⟨rfl, rfl, rfl, rfl, trivial⟩
    have e1 : (words16 l).take (i + 1) = (words16 l).take i ++ [wordN ((l.drop (8 * i)).take 8)] := by
      rw [List.take_add_one]; simp [words16, hi16]
    rw [e1, List.map_append, List.append_assoc]
    have e2 := splice_at (xs := ((words16 l).take i).map u64V) (zs := List.replicate (80 - (i + 1)) (u64V 0)) (z := u64V 0) (v := u64V (wordN ((l.drop (8 * i)).take 8))) (i := 0 + i * 1) (by simp; omega)
    have e3 : (u64V (wordN ((l.drop (8 * i)).take 8))).cells.toList = [u64V (wordN ((l.drop (8 * i)).take 8))] := rfl
    rw [e3, e2] at hA6
    exact hA6
  · simp only [decide_eq_false_iff_not] at h5
    have : i = 16 := by omega
    subst this
    refine xr 4 rfl ?_
    rw [List.take_of_length_le (by omega)] at hA3
    have hlt16 : ∀ x ∈ words16 l, x < 18446744073709551616 := by
      intro x hx
      simp only [words16, List.mem_map] at hx
      obtain ⟨t, _, rfl⟩ := hx
      exact wordN_lt _ (fun y hy => hb y (List.mem_of_mem_drop (List.mem_of_mem_take hy)))
    refine xlo (S := Nat × List Nat) (fun s W => s.1 ≤ 80 ∧ 16 ≤ s.1 ∧ s.2.length = s.1 ∧ growW (80 - s.1) s.2 = spreadN l ∧ (∀ x ∈ s.2, x < 18446744073709551616) ∧ Ext w W ∧ Blk W b2 (List.replicate 80 (u64V 0)) ∧ Blk W b3 (s.2.map u64V ++ List.replicate (80 - s.1) (u64V 0)))
      (fun s => [(2, ptrV' b2), (3, ptrV' b3), (5, intV' s.1)]) (fun s => 80 - s.1) (16, words16 l)
      ⟨by show 16 ≤ 80; omega, Nat.le_refl _, h16, rfl, hlt16, hE, hA2, hA3⟩ ⟨rfl, rfl, rfl, trivial⟩ ?_
    rintro ⟨t, cur⟩ W2 ⟨ht80, ht16, hcl, hgr, hcl64, hE2, hC2, hC3⟩
    simp only at ht80 ht16 hcl hgr hcl64 hC3
    refine xr 2 rfl ?_
    refine exec_cond rfl (fun h6 => ?_) (fun h6 => ?_)
    · simp only [decide_eq_true_eq] at h6
      have htl : t < 80 := by omega
      have hget : ∀ j, j < t → (cur.map u64V ++ List.replicate (80 - t) (u64V 0))[0 + j * 1]? = some (u64V (cur.getD j 0)) := by
        intro j hj
        rw [Nat.zero_add, Nat.mul_one, List.getElem?_append_left (by simp; omega)]
        simp [List.getElem?_map, List.getD_eq_getElem?_getD, List.getElem?_eq_getElem (show j < cur.length by omega)]
      have hg64 : ∀ j, cur.getD j 0 < 18446744073709551616 := by
        intro j
        rw [List.getD_eq_getElem?_getD]
        cases hx : cur[j]? with
        | none => simp
        | some x => exact hcl64 x (List.mem_of_getElem? hx)
      have hld : ∀ (W' : World) (j : Nat), Upd [] W2 W' → j < t → W'.cell? ⟨b3, 0 + j * 1, none⟩ = some (u64V (cur.getD j 0)) := fun W' j hu hj => (hC3.upd hu).cell (hget j hj)
      refine xr 2 rfl ?_
      refine exec_dw [] rfl rfl rfl ?_
      repeat (first | refine dau rfl (fun _ => rfl) ?_ | refine dga rfl (fun _ => rfl) (fun _ => rfl) ?_ | refine dgs (fun _ => rfl) ?_)
      refine dw_val (v := intV' (t - 15)) (fun _ => pv_subI (a := t) (b := 15) rfl rfl (by omega) (by omega)) ?_
      refine dw_keep _ (fun vs W' hu _ => ok_iaddrA (b := b3) (o := 0) rfl rfl (t - 15) rfl (by omega)) ?_
      refine dw_keep _ (fun vs W' hu _ => ok_load1 rfl (hld W' (t - 15) hu (by omega))) ?_
      repeat (first | refine dau rfl (fun _ => rfl) ?_ | refine dga rfl (fun _ => rfl) (fun _ => rfl) ?_ | refine dgs (fun _ => rfl) ?_)
      refine dw_val (v := intV' (t - 2)) (fun _ => pv_subI (a := t) (b := 2) rfl rfl (by omega) (by omega)) ?_
      refine dw_keep _ (fun vs W' hu _ => ok_iaddrA (b := b3) (o := 0) rfl rfl (t - 2) rfl (by omega)) ?_
      refine dw_keep _ (fun vs W' hu _ => ok_load1 rfl (hld W' (t - 2) hu (by omega))) ?_
      repeat (first | refine dau rfl (fun _ => rfl) ?_ | refine dga rfl (fun _ => rfl) (fun _ => rfl) ?_ | refine dgs (fun _ => rfl) ?_)
      refine dw_end fun vs W3 hu3 _ => ?_
      generalize hx : cur.getD (t - 15) 0 = x
      generalize hy : cur.getD (t - 2) 0 = y
      have hx64 : x < 18446744073709551616 := hx ▸ hg64 _
      have hy64 : y < 18446744073709551616 := hy ▸ hg64 _
      refine xr 2 rfl ?_
      refine xca rfl rfl (right_ok h3 h2 x 1 hx64 (by omega) (by omega)) ?_
      rintro v W4 ⟨rfl, hu4⟩
      refine xr 1 rfl ?_
      refine xca rfl rfl (right_ok h3 h2 x 8 hx64 (by omega) (by omega)) ?_
      rintro v W5 ⟨rfl, hu5⟩
      have r1 := rotr_lt x 1 hx64
      have r8 := rotr_lt x 8 hx64
      have r19 := rotr_lt y 19 hy64
      have r61 := rotr_lt y 61 hy64
      have lx : ∀ {p q : Nat}, p < 18446744073709551616 → q < 18446744073709551616 → p ^^^ q < 18446744073709551616 := fun hp hq => Nat.xor_lt_two_pow (n := 64) hp hq
      refine xpu (pv_xorU (a := rotr x 1) (b := rotr x 8) rfl rfl r1 r8) rfl ?_
      refine xr 1 rfl ?_
      refine xju (ok_shrU (a := x) (j := 7) rfl rfl hx64) rfl ?_
      have x7 : x / 2 ^ 7 < 18446744073709551616 := Nat.lt_of_le_of_lt (Nat.div_le_self _ _) hx64
      have y6 : y / 2 ^ 6 < 18446744073709551616 := Nat.lt_of_le_of_lt (Nat.div_le_self _ _) hy64
      refine xpu (pv_xorU (a := rotr x 1 ^^^ rotr x 8) (b := x / 2 ^ 7) rfl rfl (lx r1 r8) x7) rfl ?_
      refine xr 2 rfl ?_
      refine xca rfl rfl (right_ok h3 h2 y 19 hy64 (by omega) (by omega)) ?_
      rintro v W6 ⟨rfl, hu6⟩
      refine xr 1 rfl ?_
      refine xca rfl rfl (right_ok h3 h2 y 61 hy64 (by omega) (by omega)) ?_
      rintro v W7 ⟨rfl, hu7⟩
      refine xpu (pv_xorU (a := rotr y 19) (b := rotr y 61) rfl rfl r19 r61) rfl ?_
      refine xr 1 rfl ?_
      refine xju (ok_shrU (a := y) (j := 6) rfl rfl hy64) rfl ?_
      refine xpu (pv_xorU (a := rotr y 19 ^^^ rotr y 61) (b := y / 2 ^ 6) rfl rfl (lx r19 r61) y6) rfl ?_
      refine xr 1 rfl ?_
      have hU7 : Upd [] W2 W7 := (((hu3.trans hu4).trans hu5).trans hu6).trans hu7
      refine exec_dw [] rfl rfl rfl ?_
      repeat (first | refine dau rfl (fun _ => rfl) ?_ | refine dga rfl (fun _ => rfl) (fun _ => rfl) ?_ | refine dgs (fun _ => rfl) ?_)
      refine dw_val (v := intV' (t - 7)) (fun _ => pv_subI (a := t) (b := 7) rfl rfl (by omega) (by omega)) ?_
      refine dw_keep _ (fun vs W' hu _ => ok_iaddrA (b := b3) (o := 0) rfl rfl (t - 7) rfl (by omega)) ?_
      refine dw_keep _ (fun vs W' hu _ => ok_load1 rfl (hld W' (t - 7) (hU7.trans hu) (by omega))) ?_
      refine dw_val (v := u64V (((rotr y 19 ^^^ rotr y 61 ^^^ y / 2 ^ 6) + cur.getD (t - 7) 0) % 18446744073709551616)) (fun _ => pv_addW rfl rfl) ?_
      repeat (first | refine dau rfl (fun _ => rfl) ?_ | refine dga rfl (fun _ => rfl) (fun _ => rfl) ?_ | refine dgs (fun _ => rfl) ?_)
      refine dw_val (fun _ => pv_addW rfl rfl) ?_
      repeat (first | refine dau rfl (fun _ => rfl) ?_ | refine dga rfl (fun _ => rfl) (fun _ => rfl) ?_ | refine dgs (fun _ => rfl) ?_)
      refine dw_val (v := intV' (t - 16)) (fun _ => pv_subI (a := t) (b := 16) rfl rfl (by omega) (by omega)) ?_
      refine dw_keep _ (fun vs W' hu _ => ok_iaddrA (b := b3) (o := 0) rfl rfl (t - 16) rfl (by omega)) ?_
      refine dw_keep _ (fun vs W' hu _ => ok_load1 rfl (hld W' (t - 16) (hU7.trans hu) (by omega))) ?_
      refine dw_val (fun _ => pv_addW rfl rfl) ?_
      refine dw_end fun vs W8 hu8 _ => ?_
      have hn : nextW cur = ((((rotr y 19 ^^^ rotr y 61 ^^^ y / 2 ^ 6) + cur.getD (t - 7) 0) % 18446744073709551616 + (rotr x 1 ^^^ rotr x 8 ^^^ x / 2 ^ 7)) % 18446744073709551616 + cur.getD (t - 16) 0) % 18446744073709551616 := by
        rw [← hx, ← hy]; simp only [nextW, hcl]
      rw [← hn]
      refine xju (ok_iaddrA (b := b3) (o := 0) rfl rfl t rfl (by omega)) rfl ?_
      have hC8 := hC3.upd (hU7.trans hu8)
      rw [show 80 - t = (80 - (t + 1)) + 1 by omega, List.replicate_succ] at hC8
      refine exec_store (b := b3) (o := 0 + t * 1) (v := u64V (nextW cur)) rfl rfl hC8 rfl (by simp; omega) rfl ?_
      intro W9 hu9 hs9 hC9
      refine xr 3 rfl ?_
      refine xpu (pv_addI (a := t) (b := 1) rfl rfl (by omega)) rfl ?_
      refine xr 1 rfl ?_
      have hz1 : b2 ≠ b3 := by omega
      refine xag (t + 1, cur ++ [nextW cur]) ⟨htl, by omega, by simp [hcl], ?_, ?_, (hE2.trans (hU7.trans hu8)).trans hu9 (fun b hb => .inr (by simp at hb; omega)), (hC2.upd (hU7.trans hu8)).upd hu9 (by simp; exact hz1), ?_⟩ (by show 80 - (t + 1) < 80 - t; omega) ⟨rfl, rfl, rfl, trivial⟩
      · rw [← hgr, show 80 - t = (80 - (t + 1)) + 1 by omega]; rfl
      · intro z hz
        rcases List.mem_append.1 hz with h | h
        · exact hcl64 z h
        · simp at h; subst h; exact nextW_lt cur
      · have e2 := splice_at (xs := cur.map u64V) (zs := List.replicate (80 - (t + 1)) (u64V 0)) (z := u64V 0) (v := u64V (nextW cur)) (i := 0 + t * 1) (by simp [hcl])
        have e3 : (u64V (nextW cur)).cells.toList = [u64V (nextW cur)] := rfl
        rw [e3, e2] at hC9
        show Blk W9 b3 ((cur ++ [nextW cur]).map u64V ++ List.replicate (80 - (t + 1)) (u64V 0))
        rw [List.map_append, List.append_assoc]
        exact hC9
    · simp only [decide_eq_false_iff_not] at h6
      have : t = 80 := by omega
      subst this
      refine xr 2 rfl ?_
      have hcs : cur = spreadN l := hgr
      rw [hcs] at hC3
      simp only [Nat.sub_self, List.replicate_zero, List.append_nil] at hC3
      refine exec_loadN (b := b3) (o := 0) (vs := (spreadN l).map u64V) rfl rfl hC3.memAll (by rw [← hcs]; simp [hcl]) ?_
      refine exec_store (b := b2) (o := 0) (v := .agg ((spreadN l).map u64V).toArray) rfl rfl hC2 (by simp [Value.cells, ← hcs, hcl]) (by simp) ?_ ?_
      · simp only [Value.cells]
        rw [List.all_eq_true]; intro v hv; simp at hv; obtain ⟨b, _, rfl⟩ := hv; rfl
      intro w6 hu6 hs6 hA6
      have e1 : splice (List.replicate 80 (u64V 0)) 0 (Value.agg ((spreadN l).map u64V).toArray).cells.toList = (spreadN l).map u64V := by
        simp [splice, Value.cells, ← hcs, hcl]
      rw [e1] at hA6
      refine xre hc [_] ⟨⟨b2, 0, _, rfl, hA6.memAll, by rw [← hcs]; simp [hcl], rfl⟩, trivial⟩ ⟨rfl, hE2.trans hu6 (fun b hb => .inr (by simp at hb; omega))⟩
end
end Go.Sp

namespace Go.Sp
def DStepsS (P : Program) (Rel Rel0 : World → World → Prop) (wr : Nat) (bef : Nat → Prop) (ds : List DOp) (Rs : Nat → World → (Nat → Value) → Prop) (e : Env) (w : World) : Nat → List DOp → Prop
  | _, [] => True
  | i, (deps, g, _, m) :: r => (∀ (vs : Nat → Value) (W : World), Rel w W → (bef i → Rel0 w W) → (∀ j ∈ deps, Rs j W vs) → DStep P (fun a b => Rel a b ∧ (i ≠ wr → Rel0 a b)) g m (dEnv ds vs deps ++ keepEnv ds i e) W fun W' v => Rs i W' (put vs i v)) ∧ DStepsS P Rel Rel0 wr bef ds Rs e w (i + 1) r
theorem DStepsS.get {P : Program} {Rel Rel0 : World → World → Prop} {wr : Nat} {bef : Nat → Prop} {ds : List DOp} {Rs : Nat → World → (Nat → Value) → Prop} {e : Env} {w : World} : ∀ (l : List DOp) (i : Nat), DStepsS P Rel Rel0 wr bef ds Rs e w i l →
    ∀ (j : Nat) deps g d m, l[j]? = some (deps, g, d, m) → ∀ (vs : Nat → Value) (W : World), Rel w W → (bef (i + j) → Rel0 w W) → (∀ j ∈ deps, Rs j W vs) → DStep P (fun a b => Rel a b ∧ (i + j ≠ wr → Rel0 a b)) g m (dEnv ds vs deps ++ keepEnv ds (i + j) e) W fun W' v => Rs (i + j) W' (put vs (i + j) v) := by
  intro l
  induction l with
  | nil => intro i _ j deps g d m h; simp at h
  | cons x l ih =>
    obtain ⟨deps0, g0, d0, m0⟩ := x
    intro i h j deps g d m hj
    cases j with
    | zero =>
      simp at hj
      obtain ⟨rfl, rfl, rfl, rfl⟩ := hj
      exact h.1
    | succ j =>
      have := ih (i + 1) h.2 j deps g d m (by simpa using hj)
      rw [show i + (j + 1) = i + 1 + j from by omega]
      exact this
section
variable {P : Program} {rd : Option Nat} {ops : Array Oper} {is : List Ins} {Q : Exit → Act → World → Prop}
structure InvS (P : Program) (ops : Array Oper) (n s wr : Nat) (D : List Deferred) (Rel Rel0 : World → World → Prop) (Rs : Nat → World → (Nat → Value) → Prop) (e : Env) (w : World) (vs : Nat → Value) (listed : Array Bool) (a : Act) (W : World) : Prop where
  size : listed.size = ops.size
  low : ∀ j, j < ops.size → listed.getD j true = true → j < s
  closed : ∀ j c g d m, (allD P ops)[j]? = some (c, g, d, m) → listed.getD j true = true → ∀ x ∈ c, listed.getD x true = true
  rel : Rel w W
  rel0 : listed.getD wr true = false → Rel0 w W
  vals : ∀ j c g d m, (allD P ops)[j]? = some (c, g, d, m) → listed.getD j true = true → Rs j W vs ∧ ∀ t, d = some t → a.tmps[t]? = some (vs j)
  keep : ∀ t v, e.get t = some v → (∀ j c g m, (allD P ops)[j]? = some (c, g, some t, m) → j < s → listed.getD j true = false) → a.tmps[t]? = some v
  tm : a.tmps.size = n
  df : a.defers = D
theorem phase1S {n s wr : Nat} {bef : Nat → Prop} {c : Ctx} {D : List Deferred} {k : Kont} {Rel Rel0 : World → World → Prop} {Rs : Nat → World → (Nat → Value) → Prop} {e : Env} {w : World}
    (hdef : ops.any isDefer = false) (hwell : wellDeps 0 (allD P ops) = true) (hb : behindAll s ((allD P ops).drop s) = true) (hs : s ≤ ops.size)
    (hrfl : ∀ a, Rel a a) (htr : ∀ a b c, Rel a b → Rel b c → Rel a c) (h0fl : ∀ a, Rel0 a a) (h0tr : ∀ a b c, Rel0 a b → Rel0 b c → Rel0 a c) (hmo0 : ∀ i W W' vs, i < s → Rel0 W W' → Rs i W vs → Rs i W' vs) (hmo1 : ∀ i W W' vs, i < s → i ≠ wr → Rel w W → Rel W W' → Rs i W vs → Rs i W' vs)
    (hbef : ∀ i, bef i → i = wr ∨ ∃ c g d m, (allD P ops)[wr]? = some (c, g, d, m) ∧ i ∈ c)
    (hloc : ∀ i c g d m j W vs v, ((allD P ops).take s)[i]? = some (c, g, d, m) → j ∉ c → j ≠ i → Rs i W vs → Rs i W (put vs j v))
    (hdst : ∀ t ∈ dsts ((allD P ops).take s), t < n) (hnd : nodupB (dsts ((allD P ops).take s)) = true)
    (hst : DStepsS P Rel Rel0 wr bef ((allD P ops).take s) Rs e w 0 ((allD P ops).take s))
    (next : ∀ vs W, Rel w W → (∀ i, i < s → Rs i W vs) → Exec P n c D (tailIns ((allD P ops).drop s) ++ is) k (outEnv vs 0 ((allD P ops).take s) ++ e) W) :
    ∀ (fuel : Nat) (listed : Array Bool) (vs : Nat → Value) (a : Act) (W : World), left listed ≤ fuel → InvS P ops n s wr D Rel Rel0 Rs e w vs listed a W →
      wpAnyIn (FW c.rd) 0 P .any ops (Exit.then (denL P c.rd is (k.sem P c)) (k.sem P c)) fuel listed a W := by
  have hget : ∀ j, j < s → (allD P ops)[j]? = ((allD P ops).take s)[j]? := fun j hj => by rw [List.getElem?_take]; simp [hj]
  intro fuel
  induction fuel with
  | zero =>
    intro listed vs a W hf hI
    have hall : ∀ j, j < ops.size → listed.getD j true = true := by
      intro j hj
      cases h : listed.getD j true with
      | true => rfl
      | false => have := left_pos h; omega
    have hsn : s = ops.size := by
      rcases Nat.lt_or_ge s ops.size with h | h
      · have := hI.low s h (hall s h); omega
      · omega
    have he : Env.ok (outEnv vs 0 ((allD P ops).take s) ++ e) a.tmps := by
      intro t v hg
      rw [append_get] at hg
      cases ho : (outEnv vs 0 ((allD P ops).take s)).get t with
      | some u =>
        rw [ho] at hg; simp at hg; subst hg
        obtain ⟨j, c', g, m, h1, h2⟩ := outEnv_get _ _ _ _ ho
        have hj : j < s := by
          have := (List.getElem?_eq_some_iff.1 h1).1
          simp at this; omega
        rw [← hget j hj] at h1
        have := (hI.vals j _ _ _ _ h1 (hall j (by omega))).2 t rfl
        rw [this, h2]; simp
      | none =>
        rw [ho] at hg; simp at hg
        refine hI.keep t v hg fun j c' g m hj hlt => ?_
        rw [hget j hlt] at hj
        exact absurd rfl (outEnv_none _ _ _ ho j _ _ _ _ hj)
    have hx := (next vs W hI.rel (fun i hi => by
      obtain ⟨c', g, d, m, hC⟩ := allD_some (P := P) (ops := ops) (fun _ _ => trivial) i (by omega)
      exact (hI.vals i _ _ _ _ hC (hall i (by omega))).1)).run a hI.tm he hI.df
    exact phase2 hdef hwell s hb (ops.size - s) s 0 listed a W (by omega) (Nat.le_refl _) (by omega)
      (fun j hj => ⟨fun _ => by omega, fun _ => hall j hj⟩) hI.size hx
  | succ fuel ih =>
    intro listed vs a W hf hI
    by_cases hfree : ∃ j, j < s ∧ listed.getD j true = false
    · -- some free operation is still to run
      obtain ⟨j0, hj0, hl0⟩ := hfree
      obtain ⟨j1, hj1, hp1, hmin⟩ := minOf (p := fun j => !listed.getD j true) (j := j0) (by simp [hl0])
      simp only [Bool.not_eq_true', Bool.not_eq_false'] at hp1 hmin
      have hr1 : j1 ∈ Region.ready .any ops listed := by
        obtain ⟨c', g, d, m, hC⟩ := allD_some (P := P) (ops := ops) (fun _ _ => trivial) j1 (by omega)
        obtain ⟨o, ho, _, _, _, hdir, _⟩ := allD_get hC
        refine ready_mem.2 ⟨o, ho, hp1, fun x hx hbn => ?_⟩
        have hlt : x.on < j1 := by simpa using wellDeps_get _ 0 hwell j1 _ _ _ _ hC x.on (hdir x hx hbn)
        rw [getD_true (by rw [hI.size]; omega)]
        exact hmin _ hlt
      refine ⟨fun hr => by rw [hr] at hr1; simp at hr1, fun j hj => ?_⟩
      obtain ⟨o, ho, hlj, haft⟩ := ready_mem.1 hj
      have hjn : j < ops.size := (Array.getElem?_eq_some_iff.1 ho).1
      obtain ⟨cj, g, d, m, hC⟩ := allD_some (P := P) (ops := ops) (fun _ _ => trivial) j hjn
      obtain ⟨o', ho', rfl, rfl, rfl, hdir, hclo⟩ := allD_get hC
      rw [ho] at ho'; cases ho'
      have hcl : ∀ x ∈ cj, listed.getD x true = true := by
        intro x hx
        obtain ⟨ev, he, hbn, hx⟩ := hclo x hx
        have hlt : ev.on < j := by simpa using wellDeps_get _ 0 hwell j _ _ _ _ hC ev.on (hdir ev he hbn)
        have hon : listed.getD ev.on true = true := by
          rw [← getD_true (by rw [hI.size]; omega) false]; exact haft ev he hbn
        rcases hx with rfl | ⟨c2, g2, d2, m2, hC2, hx⟩
        · exact hon
        · exact hI.closed _ _ _ _ _ hC2 hon x hx
      have hjs : j < s := by
        rcases Nat.lt_or_ge j s with h | h
        · exact h
        · exfalso
          have hin : j0 ∈ cj := behindAll_get _ s hb (j - s) cj _ _ _ (by rw [List.getElem?_drop]; rw [show s + (j - s) = j from by omega]; exact hC) j0 (by omega)
          have := hcl j0 hin
          rw [hl0] at this; cases this
      have hCt : ((allD P ops).take s)[j]? = some (cj, convG ops o, o.dst, convO P o) := by rw [← hget j hjs]; exact hC
      have hbj : bef j → Rel0 w W := by
        intro hbf
        rcases hbef j hbf with rfl | ⟨c', g', d', m', hCw, hin⟩
        · exact hI.rel0 hlj
        · refine hI.rel0 ?_
          cases hlw : listed.getD wr true with
          | false => rfl
          | true =>
            have := hI.closed wr _ _ _ _ hCw hlw j hin
            rw [hlj] at this; cases this
      have hstep := hst.get _ 0 j _ _ _ _ hCt vs W hI.rel (by rw [Nat.zero_add]; exact hbj) (fun x hx => by
        have hxj : x < j := by simpa using wellDeps_get _ 0 hwell j _ _ _ _ hC x hx
        obtain ⟨c', g', d', m', hC'⟩ := allD_some (P := P) (ops := ops) (fun _ _ => trivial) x (by omega)
        exact (hI.vals x _ _ _ _ hC' (hcl x hx)).1)
      simp only [Nat.zero_add] at hstep
      have henv : Env.ok (dEnv ((allD P ops).take s) vs cj ++ keepEnv ((allD P ops).take s) j e) a.tmps := by
        intro t v hg
        rw [append_get] at hg
        cases hd : (dEnv ((allD P ops).take s) vs cj).get t with
        | some u =>
          rw [hd] at hg; simp at hg; subst hg
          obtain ⟨x, hx, rfl, c', g', m', hC'⟩ := dEnv_get _ _ _ hd
          have hxs : x < s := by
            have := (List.getElem?_eq_some_iff.1 hC').1
            simp at this; omega
          rw [← hget x hxs] at hC'
          exact (hI.vals x _ _ _ _ hC' (hcl x hx)).2 t rfl
        | none =>
          rw [hd] at hg; simp at hg
          obtain ⟨hsty, u, hu, _⟩ := keepEnv_get e t v hg
          rw [keepEnv_eq e t hsty] at hg
          refine hI.keep t v hg fun x c' g' m' hC' hxs => ?_
          cases hlx : listed.getD x true with
          | false => rfl
          | true =>
            rw [hget x hxs] at hC'
            have := stays_get _ hsty x _ _ _ hC'
            rw [← hget x hxs] at hC'
            have := hI.closed x _ _ _ _ hC' hlx j this
            rw [hlj] at this; cases this
      -- behind the operation
      have hnext : ∀ v W', (Rel W W' ∧ (j ≠ wr → Rel0 W W')) → Rs j W' (put vs j v) → wpAnyIn (FW c.rd) 0 P .any ops (Exit.then (denL P c.rd is (k.sem P c)) (k.sem P c)) fuel (listed.setIfInBounds j true) (a.put o.dst v) W' := by
        rintro v W' ⟨hrel, hrel0⟩ hR
        refine ih _ (put vs j v) _ _ (by have := left_set hlj; omega) ?_
        refine ⟨by simp [hI.size], ?_, ?_, htr _ _ _ hI.rel hrel, ?_, ?_, ?_, ?_, ?_⟩
        · intro x hx hl
          rw [getD_set (by rw [hI.size]; exact hx)] at hl
          split at hl
          · omega
          · exact hI.low x hx hl
        · intro x c' g' d' m' hC' hl y hy
          have hxn : x < ops.size := by
            have := (List.getElem?_eq_some_iff.1 hC').1
            rwa [allD_length] at this
          have hyx : y < x := by simpa using wellDeps_get _ 0 hwell x _ _ _ _ hC' y hy
          rw [getD_set (by rw [hI.size]; omega)] at hl ⊢
          split
          · rfl
          · split at hl
            · rename_i hxj; subst hxj
              rw [hC] at hC'; cases hC'
              exact hcl y hy
            · exact hI.closed x _ _ _ _ hC' hl y hy
        · intro hl
          by_cases hwn : wr < ops.size
          · rw [getD_set (by rw [hI.size]; exact hwn)] at hl
            split at hl
            · cases hl
            · rename_i hne
              exact h0tr _ _ _ (hI.rel0 hl) (hrel0 fun h => hne h.symm)
          · rw [Array.getD_eq_getD_getElem?, Array.getElem?_eq_none (by simp [hI.size]; omega)] at hl
            cases hl
        · intro x c' g' d' m' hC' hl
          have hxn : x < ops.size := by
            have := (List.getElem?_eq_some_iff.1 hC').1
            rwa [allD_length] at this
          rw [getD_set (by rw [hI.size]; omega)] at hl
          by_cases hxj : x = j
          · subst hxj
            rw [hC] at hC'; cases hC'
            refine ⟨hR, fun t ht => ?_⟩
            have htn : t < n := hdst t (mem_dsts _ x t _ _ _ (by rw [ht] at hCt; exact hCt))
            rw [ht]
            simp [Act.put, hI.tm, htn, put]
          · rw [if_neg hxj] at hl
            obtain ⟨h1, h2⟩ := hI.vals x _ _ _ _ hC' hl
            have hxs := hI.low x hxn hl
            have hjc : j ∉ c' := fun hin => by
              have := hI.closed x _ _ _ _ hC' hl j hin
              rw [hlj] at this; cases this
            refine ⟨hloc x _ _ _ _ j _ _ v (by rw [← hget x hxs]; exact hC') hjc (fun h => hxj h.symm) (by
              by_cases hjw : j = wr
              · exact hmo1 x W W' _ hxs (fun h => hxj (h.trans hjw.symm)) hI.rel hrel h1
              · exact hmo0 x W W' _ hxs (hrel0 hjw) h1), fun t ht => ?_⟩
            have h3 : a.tmps[t]? = some (put vs j v x) := by rw [h2 t ht]; simp [put, hxj]
            subst ht
            cases hod : o.dst with
            | none => simpa [Act.put] using h3
            | some t' =>
              have hne : t' ≠ t := by
                intro h; subst h
                rw [hod] at hCt
                rw [hget x hxs] at hC'
                exact hxj (dsts_uniq _ hnd _ _ _ _ _ _ _ _ _ hC' hCt)
              simp only [Act.put]
              rw [Array.getElem?_setIfInBounds_ne hne]
              exact h3
        · intro t v' hg hno
          have hno' : ∀ x c' g' m', (allD P ops)[x]? = some (c', g', some t, m') → x < s → listed.getD x true = false := by
            intro x c' g' m' hC' hxs
            have := hno x c' g' m' hC' hxs
            rw [getD_set (by rw [hI.size]; omega)] at this
            split at this
            · cases this
            · exact this
          have h3 := hI.keep t v' hg hno'
          cases hod : o.dst with
          | none => simpa [Act.put] using h3
          | some t' =>
            have hne : t' ≠ t := by
              intro h; subst h
              rw [hod] at hC
              have := hno j _ _ _ hC hjs
              rw [getD_set (by rw [hI.size]; omega)] at this
              simp at this
            simp only [Act.put]
            rw [Array.getElem?_setIfInBounds_ne hne]
            exact h3
        · cases hod : o.dst <;> simp [Act.put, hI.tm]
        · cases hod : o.dst <;> simp [Act.put, hI.df]
      refine wpOp_of_step ho (notDefer hdef ho) ?_
      unfold stepOp
      unfold DStep at hstep
      split at hstep
      · rename_i hg
        rw [hg]
        simp only [gOK, if_true]
        exact hstep a henv _ _ _ _ fun v W' h => hnext v W' h.1 h.2
      · exact hstep.elim
      · rename_i x b hg
        rw [hg]
        rcases hstep with ⟨hb', hok⟩ | ⟨hb', hok⟩
        · simp only [gOK, Option.bind_some, henv x _ hb', BEq.rfl, if_true]
          exact hok a henv _ _ _ _ fun v W' h => hnext v W' h.1 h.2
        · have hgk : gOK (some (some x, b)) a.tmps = false := by
            rcases hb' with hb' | hb'
            · simp only [gOK, Option.bind_some, henv x _ hb']
              cases b <;> rfl
            · simp only [gOK, Option.bind_some, henv x _ hb']
              rfl
          simp only [hgk, Bool.false_eq_true, if_false]
          exact hnext undef W ⟨hrfl W, fun _ => h0fl W⟩ hok
    · -- the tail
      have hall : ∀ j, j < s → listed.getD j true = true := by
        intro j hj
        cases h : listed.getD j true with
        | true => rfl
        | false => exact absurd ⟨j, hj, h⟩ hfree
      have hiff : ∀ j, j < ops.size → (listed.getD j true = true ↔ j < s) := fun j hj => ⟨hI.low j hj, hall j⟩
      have hleft := left_eq hI.size hiff
      have he : Env.ok (outEnv vs 0 ((allD P ops).take s) ++ e) a.tmps := by
        intro t v hg
        rw [append_get] at hg
        cases ho : (outEnv vs 0 ((allD P ops).take s)).get t with
        | some u =>
          rw [ho] at hg; simp at hg; subst hg
          obtain ⟨j, c', g, m, h1, h2⟩ := outEnv_get _ _ _ _ ho
          have hj : j < s := by
            have := (List.getElem?_eq_some_iff.1 h1).1
            simp at this; omega
          rw [← hget j hj] at h1
          have := (hI.vals j _ _ _ _ h1 (hall j hj)).2 t rfl
          rw [this, h2]; simp
        | none =>
          rw [ho] at hg; simp at hg
          refine hI.keep t v hg fun j c' g m hj hlt => ?_
          rw [hget j hlt] at hj
          exact absurd rfl (outEnv_none _ _ _ ho j _ _ _ _ hj)
      have hx := (next vs W hI.rel (fun i hi => by
        obtain ⟨c', g, d, m, hC⟩ := allD_some (P := P) (ops := ops) (fun _ _ => trivial) i (by omega)
        exact (hI.vals i _ _ _ _ hC (hall i hi)).1)).run a hI.tm he hI.df
      exact phase2 hdef hwell s hb (ops.size - s) s (fuel + 1) listed a W (by omega) (Nat.le_refl _) (by omega) hiff hI.size hx
end
section
variable {P : Program} {n : Nat} {c : Ctx} {D : List Deferred} {is : List Ins} {k : Kont} {e : Env} {w : World}
theorem exec_drawS {fr : List DOp} {tl : List Ins} (wr : Nat) (bef : Nat → Prop) (Rel Rel0 : World → World → Prop) (Rs : Nat → World → (Nat → Value) → Prop)
    (hrfl : ∀ a, Rel a a) (htr : ∀ a b c, Rel a b → Rel b c → Rel a c) (h0fl : ∀ a, Rel0 a a) (h0tr : ∀ a b c, Rel0 a b → Rel0 b c → Rel0 a c) (hmo0 : ∀ i W W' vs, i < fr.length → Rel0 W W' → Rs i W vs → Rs i W' vs) (hmo1 : ∀ i W W' vs, i < fr.length → i ≠ wr → Rel { w with drawn := w.drawn + 1 } W → Rel W W' → Rs i W vs → Rs i W' vs)
    (hbef : ∀ i, bef i → i = wr ∨ ∃ c g d m, fr[wr]? = some (c, g, d, m) ∧ i ∈ c)
    (hloc : ∀ i c g d m j W vs v, fr[i]? = some (c, g, d, m) → j ∉ c → j ≠ i → Rs i W vs → Rs i W (put vs j v))
    (hdst : (dsts fr).all (fun t => Nat.blt t n) = true) (hnd : nodupB (dsts fr) = true)
    (hst : DStepsS P Rel Rel0 wr bef fr Rs e { w with drawn := w.drawn + 1 } 0 fr)
    (next : ∀ vs W, Rel { w with drawn := w.drawn + 1 } W → (∀ i, i < fr.length → Rs i W vs) → Exec P n c D (tl ++ is) k (outEnv vs 0 fr ++ e) W) :
    Exec P n c D (.draw fr tl :: is) k e w := .intro fun a hn hk hd => by
  simp only [denL, denI]
  intro ops hfr htl hdef hwell
  obtain ⟨hb, hs⟩ := splitAtD_spec (allD P ops) ops.size (by rw [List.drop_eq_nil_of_le (by rw [allD_length]; exact Nat.le_refl _)]; rfl)
  have hlen : fr.length = splitAtD (allD P ops) ops.size := by rw [← hfr, List.length_take, allD_length]; omega
  subst hfr
  subst htl
  rw [hlen] at hmo0 hmo1
  refine phase1S (wr := wr) (bef := bef) (Rel := Rel) (Rel0 := Rel0) hdef hwell hb hs hrfl htr h0fl h0tr hmo0 hmo1 (fun i hi => (hbef i hi).imp id fun ⟨c, g, d, m, h1, h2⟩ => ⟨c, g, d, m, (by
    rw [List.getElem?_take] at h1; split at h1
    · exact h1
    · cases h1), h2⟩) hloc (fun t ht => by simpa using List.all_eq_true.1 hdst t ht) hnd hst
    (fun vs W h1 h2 => next vs W h1 (by rw [hlen]; exact h2)) ops.size _ (fun _ => undef) a _ ?_ ?_
  · unfold left; simp
  · refine ⟨by simp, ?_, ?_, hrfl _, fun _ => h0fl _, ?_, ?_, hn, hd⟩
    · intro j hj h; simp [Array.getD_eq_getD_getElem?, hj] at h
    · intro j c' g d m hC h
      have : j < ops.size := by
        have := (List.getElem?_eq_some_iff.1 hC).1
        rwa [allD_length] at this
      simp [Array.getD_eq_getD_getElem?, this] at h
    · intro j c' g d m hC h
      have : j < ops.size := by
        have := (List.getElem?_eq_some_iff.1 hC).1
        rwa [allD_length] at this
      simp [Array.getD_eq_getD_getElem?, this] at h
    · intro t v hg _; exact hk t v hg
end
end Go.Sp

namespace Go.Sp
def getV : List (Nat × Value) → Nat → Value
  | [], _ => undef
  | (i, v) :: r, j => match Nat.beq i j with
    | true => v
    | false => getV r j
def envV (ds : List DOp) (done : List (Nat × Value)) : List Nat → Env
  | [] => []
  | j :: deps => match ds[j]? with
    | some (_, _, some d, _) => (d, getV done j) :: envV ds done deps
    | _ => envV ds done deps
def outV (done : List (Nat × Value)) : Nat → List DOp → Env
  | _, [] => []
  | i, (_, _, d, _) :: r => match d with
    | some d => (d, getV done i) :: outV done (i + 1) r
    | none => outV done (i + 1) r
/-- may operation i count on it that wr has not run? -/
def befB (ds : List DOp) (wr i : Nat) : Bool := Nat.beq i wr || match ds[wr]? with
  | some (c, _) => c.contains i
  | none => false
def DWS (P : Program) (l : List Nat) (wr : Nat) (Wr : World → Prop) (ds : List DOp) (e : Env) (w : World) (Fin : List (Nat × Value) → Prop) : Nat → List (Nat × Value) → List DOp → Prop
  | _, done, [] => Fin done
  | i, done, (deps, g, _, m) :: r => ∃ v, (∀ W, Upd l w W → (befB ds wr i = true → Ext w W) →
      DStep P (fun a b => Upd l a b ∧ (i ≠ wr → Ext a b)) g m (envV ds done deps ++ keepEnv ds i e) W fun W' u => u = v ∧ (i = wr → Wr W')) ∧ DWS P l wr Wr ds e w Fin (i + 1) ((i, v) :: done) r
def FinS (P : Program) (n : Nat) (c : Ctx) (D : List Deferred) (is : List Ins) (k : Kont) (l : List Nat) (wr : Nat) (Wr : World → Prop) (ds : List DOp) (e : Env) (w : World) (tl : List Ins) (done : List (Nat × Value)) : Prop :=
  ∀ W, Upd l w W → (Nat.blt wr ds.length = true → Wr W) → Exec P n c D (tl ++ is) k (outV done 0 ds ++ e) W
theorem envV_eq {ds : List DOp} {done : List (Nat × Value)} {vs : Nat → Value} : ∀ deps : List Nat, (∀ j ∈ deps, getV done j = vs j) → envV ds done deps = dEnv ds vs deps := by
  intro deps
  induction deps with
  | nil => intro _; rfl
  | cons j deps ih =>
    intro h
    simp only [envV, dEnv, h j List.mem_cons_self, ih fun x hx => h x (List.mem_cons_of_mem _ hx)]
    rfl
theorem outV_eq {done : List (Nat × Value)} {vs : Nat → Value} : ∀ (l : List DOp) (i : Nat), (∀ j, j < l.length → getV done (i + j) = vs (i + j)) → outV done i l = outEnv vs i l := by
  intro l
  induction l with
  | nil => intro i _; rfl
  | cons p l ih =>
    obtain ⟨deps, g, d, m⟩ := p
    intro i h
    have h1 := h 0 (by simp)
    have h2 := ih (i + 1) fun j hj => by have := h (j + 1) (by simpa using hj); rw [show i + (j + 1) = i + 1 + j from by omega] at this; exact this
    simp only [outV, outEnv]
    simp only [Nat.add_zero] at h1
    cases d <;> simp [h1, h2]
theorem DWS.out {P : Program} {l : List Nat} {wr : Nat} {Wr : World → Prop} {ds : List DOp} {e : Env} {w : World} {F : List (Nat × Value) → Prop} : ∀ (rest : List DOp) (i : Nat) (done : List (Nat × Value)), wellDeps i rest = true →
    DWS P l wr Wr ds e w F i done rest → ∃ done', F done' ∧ (∀ j, j < i → getV done' j = getV done j) ∧ ∀ (k : Nat) deps g d m, rest[k]? = some (deps, g, d, m) →
      ∀ W, Upd l w W → (befB ds wr (i + k) = true → Ext w W) → DStep P (fun a b => Upd l a b ∧ (i + k ≠ wr → Ext a b)) g m (envV ds done' deps ++ keepEnv ds (i + k) e) W fun W' u => u = getV done' (i + k) ∧ (i + k = wr → Wr W') := by
  intro rest
  induction rest with
  | nil => intro i done _ h; exact ⟨done, h, fun _ _ => rfl, fun k deps g d m h => by simp at h⟩
  | cons p rest ih =>
    obtain ⟨deps0, g0, d0, m0⟩ := p
    intro i done hw h
    simp only [wellDeps, Bool.and_eq_true] at hw
    obtain ⟨v, h1, h2⟩ := h
    obtain ⟨done', hF, hlow, hr⟩ := ih (i + 1) _ hw.2 h2
    have hlow' : ∀ j, j < i → getV done' j = getV done j := by
      intro j hj
      rw [hlow j (by omega)]
      simp only [getV]
      split
      · rename_i hb; have := Nat.eq_of_beq_eq_true hb; omega
      · rfl
    refine ⟨done', hF, hlow', fun k deps g d m hk W hW hb => ?_⟩
    cases k with
    | zero =>
      simp at hk
      obtain ⟨rfl, rfl, rfl, rfl⟩ := hk
      have hv : getV done' (i + 0) = v := by
        rw [Nat.add_zero, hlow i (by omega)]
        simp [getV]
      rw [hv]
      have he : envV ds done' deps0 = envV ds done deps0 := by
        rw [envV_eq (vs := getV done) deps0 (fun j hj => hlow' j (by have := List.all_eq_true.1 hw.1 j hj; simpa using this)), envV_eq (vs := getV done) deps0 (fun _ _ => rfl)]
      rw [he]
      exact h1 W hW hb
    | succ k =>
      have := hr k deps g d m (by simpa using hk) W hW (by rw [show i + 1 + k = i + (k + 1) from by omega]; exact hb)
      rw [show i + 1 + k = i + (k + 1) from by omega] at this
      exact this
section
variable {P : Program} {n : Nat} {c : Ctx} {D : List Deferred} {is : List Ins} {k : Kont} {e : Env} {w : World}
theorem exec_dws {fr : List DOp} {tl : List Ins} (l : List Nat) (wr : Nat) (Wr : World → Prop) (hWr : ∀ W W', Wr W → Ext W W' → Wr W') (hdst : (dsts fr).all (fun t => Nat.blt t n) = true) (hnd : nodupB (dsts fr) = true) (hwd : wellDeps 0 fr = true)
    (h : DWS P l wr Wr fr e w (FinS P n c D is k l wr Wr fr e w tl) 0 [] fr) : Exec P n c D (.draw fr tl :: is) k e w := by
  obtain ⟨done, hF, _, hs⟩ := DWS.out fr 0 [] hwd h
  have hw0 : Ext w { w with drawn := w.drawn + 1 } := Upd.drew [] w _
  have hup : ∀ {W}, Upd l { w with drawn := w.drawn + 1 } W → Upd l w W := fun h => (hw0.mono (by simp)).trans h (fun x hx => .inl hx)
  have tr : ∀ a b c, Upd l a b → Upd l b c → Upd l a c := fun a b c h1 h2 => h1.trans h2 (fun x hx => .inl hx)
  refine exec_drawS wr (fun i => befB fr wr i = true) (Upd l) Ext (fun i W vs => vs i = getV done i ∧ (i = wr → Wr W)) (fun a => Upd.refl _ _) tr (fun a => Upd.refl _ _) (fun a b c h1 h2 => h1.trans h2) ?_ ?_ ?_ ?_ hdst hnd ?_ ?_
  · intro i W W' vs _ hr ⟨h1, h2⟩; exact ⟨h1, fun hi => hWr _ _ (h2 hi) hr⟩
  · intro i W W' vs _ hne _ _ ⟨h1, _⟩; exact ⟨h1, fun hi => absurd hi hne⟩
  · intro i hb
    simp only [befB, Bool.or_eq_true] at hb
    rcases hb with hb | hb
    · exact .inl (Nat.eq_of_beq_eq_true hb)
    · right
      split at hb
      · rename_i c' rest hc
        exact ⟨c', rest.1, rest.2.1, rest.2.2, hc, by simpa using hb⟩
      · cases hb
  · intro i c' g d m j W vs v _ _ hne ⟨h1, h2⟩
    exact ⟨by simp only [put, if_neg (Ne.symm hne)]; exact h1, h2⟩
  · suffices ∀ (r : List DOp) (i : Nat), (∀ j, r[j]? = fr[i + j]?) → DStepsS P (Upd l) Ext wr (fun i => befB fr wr i = true) fr (fun i W vs => vs i = getV done i ∧ (i = wr → Wr W)) e { w with drawn := w.drawn + 1 } i r from this fr 0 (by simp)
    intro r
    induction r with
    | nil => intro i _; trivial
    | cons y r ih =>
      obtain ⟨deps, g, d, m⟩ := y
      intro i hr
      refine ⟨?_, ih (i + 1) fun j => by have := hr (j + 1); rw [show i + (j + 1) = i + 1 + j from by omega] at this; simpa using this⟩
      intro vs W hW hb hdeps
      have hi : fr[i]? = some (deps, g, d, m) := by have := hr 0; simpa using this.symm
      have h4 := hs i deps g d m hi W (hup hW) (by rw [Nat.zero_add]; exact fun h => hw0.trans (hb h))
      rw [Nat.zero_add, envV_eq (vs := vs) deps (fun j hj => (hdeps j hj).1.symm)] at h4
      unfold DStep at h4 ⊢
      have h5 : ∀ W' u, (u = getV done i ∧ (i = wr → Wr W')) → put vs i u i = getV done i ∧ (i = wr → Wr W') := fun W' u h => ⟨by simp [put, h.1], h.2⟩
      split
      · exact h4.mono fun v W' h => ⟨h.1, h5 _ _ h.2⟩
      · exact h4
      · rcases h4 with ⟨ha, hb⟩ | ⟨ha, hb⟩
        · exact .inl ⟨ha, hb.mono fun v W' h => ⟨h.1, h5 _ _ h.2⟩⟩
        · exact .inr ⟨ha, h5 _ _ hb⟩
  · intro vs W hW hR
    have h1 : outV done 0 fr = outEnv vs 0 fr := outV_eq fr 0 fun j hj => by rw [Nat.zero_add]; exact ((hR j hj).1).symm
    rw [← h1]
    exact hF W (hup hW) fun hwr => (hR wr (by simpa using hwr)).2 rfl
variable {l : List Nat} {wr : Nat} {Wr : World → Prop} {ds : List DOp} {F : List (Nat × Value) → Prop} {done : List (Nat × Value)} {i : Nat} {deps : List Nat} {d : Option Nat} {m : MOp} {r : List DOp} {s : Nat} {b : Bool}
theorem ws_val {v : Value} (hne : Nat.beq i wr = false) (hv : pureV (envV ds done deps ++ keepEnv ds i e) m = some v) (h : DWS P l wr Wr ds e w F (i + 1) ((i, v) :: done) r) : DWS P l wr Wr ds e w F i done ((deps, none, d, m) :: r) :=
  ⟨v, fun W _ _ => (ok_pure hv).mono fun u W' hu => ⟨⟨hu.2 ▸ Upd.refl _ _, fun _ => hu.2 ▸ Upd.refl _ _⟩, hu.1, fun hi => by subst hi; simp at hne⟩, h⟩
theorem ws_gval {v : Value} (hne : Nat.beq i wr = false) (hg : (envV ds done deps ++ keepEnv ds i e).get s = some (.bool b)) (hv : pureV (envV ds done deps ++ keepEnv ds i e) m = some v)
    (h : DWS P l wr Wr ds e w F (i + 1) ((i, v) :: done) r) : DWS P l wr Wr ds e w F i done ((deps, some (some s, b), d, m) :: r) :=
  ⟨v, fun W _ _ => .inl ⟨hg, (ok_pure hv).mono fun u W' hu => ⟨⟨hu.2 ▸ Upd.refl _ _, fun _ => hu.2 ▸ Upd.refl _ _⟩, hu.1, fun hi => by subst hi; simp at hne⟩⟩, h⟩
theorem wgs (hne : Nat.beq i wr = false) (hg : (envV ds done deps ++ keepEnv ds i e).get s = some (.bool !b))
    (h : DWS P l wr Wr ds e w F (i + 1) ((i, undef) :: done) r) : DWS P l wr Wr ds e w F i done ((deps, some (some s, b), d, m) :: r) :=
  ⟨undef, fun W _ _ => .inr ⟨.inl hg, rfl, fun hi => by subst hi; simp at hne⟩, h⟩
/-- an operation that may read, ahead of the one that writes -/
theorem ws_ok (v : Value) (hne : Nat.beq i wr = false) (hb : befB ds wr i = true) (hv : ∀ W, Ext w W → OpOK P m (envV ds done deps ++ keepEnv ds i e) W (Just v W))
    (h : DWS P l wr Wr ds e w F (i + 1) ((i, v) :: done) r) : DWS P l wr Wr ds e w F i done ((deps, none, d, m) :: r) :=
  ⟨v, fun W _ h2 => (hv W (h2 hb)).mono fun u W' hu => ⟨⟨hu.2 ▸ Upd.refl _ _, fun _ => hu.2 ▸ Upd.refl _ _⟩, hu.1, fun hi => by subst hi; simp at hne⟩, h⟩
/-- an operation that reads no memory, wherever it runs -/
theorem ws_any (v : Value) (hne : Nat.beq i wr = false) (hv : ∀ W, OpOK P m (envV ds done deps ++ keepEnv ds i e) W (Just v W))
    (h : DWS P l wr Wr ds e w F (i + 1) ((i, v) :: done) r) : DWS P l wr Wr ds e w F i done ((deps, none, d, m) :: r) :=
  ⟨v, fun W _ _ => (hv W).mono fun u W' hu => ⟨⟨hu.2 ▸ Upd.refl _ _, fun _ => hu.2 ▸ Upd.refl _ _⟩, hu.1, fun hi => by subst hi; simp at hne⟩, h⟩
/-- the one that writes -/
theorem ws_store {N B o : Nat} {x y : Operand} {v : Value} {cs : List Value} (hwr : Nat.beq i wr = true) (hx : (envV ds done deps ++ keepEnv ds i e).ev x = some (.pointer (some ⟨B, o, none⟩))) (hy : (envV ds done deps ++ keepEnv ds i e).ev y = some v)
    (hB : Blk w B cs) (hl : v.cells.size = N) (hle : o + N ≤ cs.length) (hv : v.cells.toList.all cellValue = true) (hBl : B ∈ l) (hW : ∀ W, Blk W B (splice cs o v.cells.toList) → Wr W)
    (h : DWS P l wr Wr ds e w F (i + 1) ((i, undef) :: done) r) : DWS P l wr Wr ds e w F i done ((deps, none, none, .store N x y) :: r) := by
  have hi := Nat.eq_of_beq_eq_true hwr
  refine ⟨undef, fun W _ h2 => ?_, h⟩
  have hE : Ext w W := h2 (by simp [befB, hwr])
  intro a hk rd d next Q hn
  obtain ⟨w', hr, hu, hs, hb'⟩ := storeCells_run (P := P) (o := o) v.cells.toList 0 W cs (hB.upd hE) (by simp [hl]; omega) hv
  have : ((MOp.store N x y).sem a.eval).run P W = .ok .skip w' := by
    simp [MOp.sem, Env.ok_ev hk hx, Env.ok_ev hk hy, Instr.sureAddr, hl, hr]
  rw [this]
  rw [Oper.uponIn_skip]
  exact hn undef w' ⟨⟨hu.mono (by simpa using hBl), fun h => absurd hi h⟩, rfl, fun _ => hW w' hb'⟩
theorem ws_end {tl : List Ins} (h : ∀ W, Upd l w W → (Nat.blt wr ds.length = true → Wr W) → Exec P n c D (tl ++ is) k (outV done 0 ds ++ e) W) : DWS P l wr Wr ds e w (FinS P n c D is k l wr Wr ds e w tl) i done [] := h
end
end Go.Sp

namespace Go.Sp
section
variable {P : Program} {n : Nat} {c : Ctx} {D : List Deferred} {is : List Ins} {k : Kont} {e : Env} {w : World}
variable {l : List Nat} {wr : Nat} {Wr : World → Prop} {ds : List DOp} {F : List (Nat × Value) → Prop} {done : List (Nat × Value)} {i : Nat} {deps : List Nat} {d : Option Nat} {m : MOp} {r : List DOp} {s : Nat} {b : Bool}
theorem ws_auto {v : Value} (hp : plainOp m = true) (hne : Nat.beq i wr = false) (hv : pureV (envV ds done deps ++ keepEnv ds i e) m = some v) (h : DWS P l wr Wr ds e w F (i + 1) ((i, v) :: done) r) : DWS P l wr Wr ds e w F i done ((deps, none, d, m) :: r) := ws_val hne hv h
/-- an operation of a region in which none writes -/
theorem ws_keep (v : Value) (hne : Nat.beq i wr = false) (hv : ∀ W, Ext w W → OpOK P m (envV ds done deps ++ keepEnv ds i e) W (Just v W))
    (h : DWS P [] wr Wr ds e w F (i + 1) ((i, v) :: done) r) : DWS P [] wr Wr ds e w F i done ((deps, none, d, m) :: r) :=
  ⟨v, fun W h1 _ => (hv W h1).mono fun u W' hu => ⟨⟨hu.2 ▸ Upd.refl _ _, fun _ => hu.2 ▸ Upd.refl _ _⟩, hu.1, fun hi => by subst hi; simp at hne⟩, h⟩
theorem ws_gkeep (v : Value) (hne : Nat.beq i wr = false) (hg : (envV ds done deps ++ keepEnv ds i e).get s = some (.bool b)) (hv : ∀ W, Ext w W → OpOK P m (envV ds done deps ++ keepEnv ds i e) W (Just v W))
    (h : DWS P [] wr Wr ds e w F (i + 1) ((i, v) :: done) r) : DWS P [] wr Wr ds e w F i done ((deps, some (some s, b), d, m) :: r) :=
  ⟨v, fun W h1 _ => .inl ⟨hg, (hv W h1).mono fun u W' hu => ⟨⟨hu.2 ▸ Upd.refl _ _, fun _ => hu.2 ▸ Upd.refl _ _⟩, hu.1, fun hi => by subst hi; simp at hne⟩⟩, h⟩
/-- an operation that may lay new blocks, of a region in which none writes -/
theorem ws_ext (v : Value) (hne : Nat.beq i wr = false) (hv : ∀ W, Ext w W → OpOK P m (envV ds done deps ++ keepEnv ds i e) W (fun u W' => u = v ∧ Ext W W'))
    (h : DWS P [] wr Wr ds e w F (i + 1) ((i, v) :: done) r) : DWS P [] wr Wr ds e w F i done ((deps, none, d, m) :: r) :=
  ⟨v, fun W h1 _ => (hv W h1).mono fun u W' hu => ⟨⟨hu.2, fun _ => hu.2⟩, hu.1, fun hi => by subst hi; simp at hne⟩, h⟩
theorem ws_gext (v : Value) (hne : Nat.beq i wr = false) (hg : (envV ds done deps ++ keepEnv ds i e).get s = some (.bool b)) (hv : ∀ W, Ext w W → OpOK P m (envV ds done deps ++ keepEnv ds i e) W (fun u W' => u = v ∧ Ext W W'))
    (h : DWS P [] wr Wr ds e w F (i + 1) ((i, v) :: done) r) : DWS P [] wr Wr ds e w F i done ((deps, some (some s, b), d, m) :: r) :=
  ⟨v, fun W h1 _ => .inl ⟨hg, (hv W h1).mono fun u W' hu => ⟨⟨hu.2, fun _ => hu.2⟩, hu.1, fun hi => by subst hi; simp at hne⟩⟩, h⟩
theorem exec_dwr {fr : List DOp} {tl : List Ins} (hdst : (dsts fr).all (fun t => Nat.blt t n) = true) (hnd : nodupB (dsts fr) = true) (hwd : wellDeps 0 fr = true)
    (h : DWS P [] 1000 (fun _ => True) fr e w (FinS P n c D is k [] 1000 (fun _ => True) fr e w tl) 0 [] fr) : Exec P n c D (.draw fr tl :: is) k e w :=
  exec_dws [] 1000 (fun _ => True) (fun _ _ _ _ => trivial) hdst hnd hwd h
theorem ws_fin {tl : List Ins} (h : ∀ W, Ext w W → Exec P n c D (tl ++ is) k (outV done 0 ds ++ e) W) : DWS P [] wr Wr ds e w (FinS P n c D is k [] wr Wr ds e w tl) i done [] := fun W hW _ => h W hW
end
/-- the same, but no comparison -/
def tameOp : MOp → Bool
  | .un op _ => match op with
    | .not => true
    | _ => false
  | .mov _ => true
  | .pick _ _ _ => true
  | .nilc _ => true
  | .fn _ _ _ => true
  | .faddr _ _ => true
  | .fld _ _ _ _ => true
  | .ext _ _ => true
  | .lenS _ => true
  | _ => false
section
variable {P : Program} {n : Nat} {c : Ctx} {D : List Deferred} {is : List Ins} {k : Kont} {e : Env} {w : World} {m : MOp}
theorem xtm {d : Nat} {v : Value} (hp : tameOp m = true) (hv : pureV e m = some v) (hd' : Nat.blt d n = true)
    (hx : Exec P n c D is k ((d, v) :: e) w) : Exec P n c D (.op none (some d) m :: is) k e w := xpu hv hd' hx
end
section
variable {P : Program} {n : Nat} {c : Ctx} {D : List Deferred} {is : List Ins} {k : Kont} {e : Env} {w : World}
variable {l : List Nat} {wr : Nat} {Wr : World → Prop} {ds : List DOp} {F : List (Nat × Value) → Prop} {done : List (Nat × Value)} {i : Nat} {deps : List Nat} {d : Option Nat} {m : MOp} {r : List DOp} {s : Nat} {b : Bool}
theorem wtm {v : Value} (hp : tameOp m = true) (hne : Nat.beq i wr = false) (hv : pureV (envV ds done deps ++ keepEnv ds i e) m = some v) (h : DWS P l wr Wr ds e w F (i + 1) ((i, v) :: done) r) : DWS P l wr Wr ds e w F i done ((deps, none, d, m) :: r) := ws_val hne hv h
theorem wgt {v : Value} (hp : tameOp m = true) (hne : Nat.beq i wr = false) (hg : (envV ds done deps ++ keepEnv ds i e).get s = some (.bool b)) (hv : pureV (envV ds done deps ++ keepEnv ds i e) m = some v)
    (h : DWS P l wr Wr ds e w F (i + 1) ((i, v) :: done) r) : DWS P l wr Wr ds e w F i done ((deps, some (some s, b), d, m) :: r) := ws_gval hne hg hv h
end
section
variable {P : Program} {e : Env} {w : World} {x y : Operand} {a b : Nat} {q : Bool}
theorem pv_lssI {K : IntKind} (hx : e.ev x = some (.int K (a : Int))) (hy : e.ev y = some (.int K (b : Int))) (h : decide (a < b) = q) : pureV e (.ibin .lss x y) = some (.bool q) := by
  subst h
  simp [pureV, hx, hy, binV, intV]
theorem pv_gtrI {K : IntKind} (hx : e.ev x = some (.int K (a : Int))) (hy : e.ev y = some (.int K (b : Int))) (h : decide (b < a) = q) : pureV e (.ibin .gtr x y) = some (.bool q) := by
  subst h
  simp [pureV, hx, hy, binV, intV]
theorem pv_leqI {K : IntKind} (hx : e.ev x = some (.int K (a : Int))) (hy : e.ev y = some (.int K (b : Int))) (h : decide (a ≤ b) = q) : pureV e (.ibin .leq x y) = some (.bool q) := by
  subst h
  simp [pureV, hx, hy, binV, intV]
theorem pv_geqI {K : IntKind} (hx : e.ev x = some (.int K (a : Int))) (hy : e.ev y = some (.int K (b : Int))) (h : decide (b ≤ a) = q) : pureV e (.ibin .geq x y) = some (.bool q) := by
  subst h
  simp [pureV, hx, hy, binV, intV]
theorem pv_eqlI {K : IntKind} (hx : e.ev x = some (.int K (a : Int))) (hy : e.ev y = some (.int K (b : Int))) (h : decide (a = b) = q) : pureV e (.ibin .eql x y) = some (.bool q) := by
  subst h
  simp only [pureV, hx, hy, binV, intV, decide_true]
  by_cases h : a = b
  · simp [h]
  · simp [h, show ¬ (a : Int) = (b : Int) by omega]
theorem pv_neqI {K : IntKind} (hx : e.ev x = some (.int K (a : Int))) (hy : e.ev y = some (.int K (b : Int))) (h : decide (a ≠ b) = q) : pureV e (.ibin .neq x y) = some (.bool q) := by
  subst h
  simp only [pureV, hx, hy, binV, intV, decide_true]
  by_cases h : a = b
  · simp [h]
  · simp [h, show ¬ (a : Int) = (b : Int) by omega]
theorem pv_mulI (hx : e.ev x = some (intV' a)) (hy : e.ev y = some (intV' b)) (h : a * b < 9223372036854775808) : pureV e (.ibin .mul x y) = some (intV' (a * b)) := by
  simp only [pureV, hx, hy, binV, decide_true, intV]
  rw [show ((a : Int) * (b : Int)) = ((a * b : Nat) : Int) by simp, wrap_i64 (by omega) (by omega)]
theorem ok_quoI (hx : e.ev x = some (intV' a)) (hy : e.ev y = some (intV' b)) (h0 : 0 < b) (ha : a < 9223372036854775808) : OpOK P (.ibin .quo x y) e w (Just (intV' (a / b)) w) := by
  have h := ok_quo (P := P) (w := w) hx hy (by omega)
  have e1 : IntKind.i64.wrap ((a : Int).tdiv (b : Int)) = ((a / b : Nat) : Int) := by
    rw [show ((a : Int).tdiv (b : Int)) = ((a / b : Nat) : Int) from rfl]
    have := Nat.div_le_self a b
    generalize a / b = q at *
    exact wrap_i64 (by omega) (by omega)
  rw [e1] at h
  exact h
end
section
variable {P : Program} {n : Nat} {c : Ctx} {D : List Deferred} {is : List Ins} {k : Kont} {e : Env} {w : World}
/-- a block that one is in: left by its end or by its exit, it ends in J -/
theorem exec_inner_join {S : Type} {id : Nat} {b : List Ins} (J : S → World → Prop) (en : S → Env)
    (h1 : Exec P n c D b (.blk id (.stop (Join n D J en) k)) e w)
    (h2 : ∀ s w', J s w' → Exec P n c D is k (en s) w') : Exec P n c D b (.blk id (.seq is k)) e w := .intro fun a hn hk hd => by
  have := (h1).run a hn hk hd
  refine denL_mono b (blockMono ?_) this
  refine thenMono ?_ (fun _ _ _ h => h)
  rintro a' w' ⟨s, hJ, hn', hk', hd'⟩
  exact (h2 s w' hJ).run a' hn' hk' hd'
end
end Go.Sp

namespace Go.Sp
theorem and_lt {a b : Nat} (ha : a < 18446744073709551616) : a &&& b < 18446744073709551616 := Nat.lt_of_le_of_lt Nat.and_le_left ha
theorem xor_lt {a b : Nat} (ha : a < 18446744073709551616) (hb : b < 18446744073709551616) : a ^^^ b < 18446744073709551616 := Nat.xor_lt_two_pow (n := 64) ha hb
section
variable {P : Program} {w : World} {c : Ctx} {D : List Deferred} {is : List Ins} {k : Kont} {b5 gl2 i : Nat} {a b' c' d e f g h s1 s0 ki wi : Nat} {v2 v4 v17 v18 : Value}
theorem take_t1 (hA : Blk w b5 [u64V a, u64V b', u64V c', u64V d, u64V e, u64V f, u64V g, u64V h]) (hG : w.cell? ⟨gl2, 0 + i * 1, none⟩ = some (u64V ki)) (hGm : ∀ W, Ext w W → W.cell? ⟨gl2, 0 + i * 1, none⟩ = some (u64V ki)) (hi : i < 80)
    (he : e < 18446744073709551616) (hf : f < 18446744073709551616) (hg : g < 18446744073709551616) (t1 : Nat)
    (ht1 : t1 = ((((h + s1) % 18446744073709551616 + (e &&& f ^^^ notW e &&& g)) % 18446744073709551616 + ki) % 18446744073709551616 + wi) % 18446744073709551616)
    (hx : ∀ W, Ext w W → Exec P 106 c D is k [(12, u64V t1), (2, v2), (4, v4), (5, ptrV' b5), (8, u64V a), (11, u64V s0), (17, v17), (18, v18)] W) :
    Exec P 106 c D (.draw [
            ([], none, (some 42), .iaddrA 8 1 (.tmp 5) (.const (.int .i64 7))),
            ([0], none, (some 43), .load1 (.tmp 42)),
            ([], none, (some 44), .mov (.tmp 10)),
            ([1, 2, 0], none, (some 45), .ibin .add (.tmp 43) (.tmp 44)),
            ([], none, (some 46), .mov (.tmp 9)),
            ([], none, (some 47), .iaddrA 8 1 (.tmp 5) (.const (.int .i64 5))),
            ([5], none, (some 48), .load1 (.tmp 47)),
            ([4, 6, 5], none, (some 49), .ibin .and (.tmp 46) (.tmp 48)),
            ([], none, (some 50), .mov (.tmp 9)),
            ([8], none, (some 51), .un .xor (.tmp 50)),
            ([], none, (some 52), .iaddrA 8 1 (.tmp 5) (.const (.int .i64 6))),
            ([10], none, (some 53), .load1 (.tmp 52)),
            ([9, 11, 8, 10], none, (some 54), .ibin .and (.tmp 51) (.tmp 53)),
            ([7, 12, 4, 6, 5, 9, 11, 8, 10], none, (some 55), .ibin .xor (.tmp 49) (.tmp 54)),
            ([3, 13, 1, 2, 0, 7, 12, 4, 6, 5, 9, 11, 8, 10], none, (some 56), .ibin .add (.tmp 45) (.tmp 55)),
            ([], none, (some 57), .mov (.tmp 6)),
            ([15], none, (some 58), .iaddrA 80 1 (.global gl2) (.tmp 57)),
            ([16, 15], none, (some 59), .load1 (.tmp 58)),
            ([14, 17, 3, 13, 1, 2, 0, 7, 12, 4, 6, 5, 9, 11, 8, 10, 16, 15], none, (some 60), .ibin .add (.tmp 56) (.tmp 59)),
            ([], none, (some 61), .mov (.tmp 7))] [
            .op none (some 62) (.ibin .add (.tmp 60) (.tmp 61)),
            .op none (some 12) (.mov (.tmp 62))] :: is) k [(5, ptrV' b5), (6, intV' i), (7, u64V wi), (9, u64V e), (10, u64V s1), (2, v2), (4, v4), (8, u64V a), (11, u64V s0), (17, v17), (18, v18)] w := by
  have hnw : notW e < 18446744073709551616 := by unfold notW; omega
  refine exec_dwr rfl rfl rfl ?_
  refine ws_keep _ rfl (fun W hu => ok_iaddrA (b := b5) (o := 0) rfl rfl 7 rfl (by omega)) ?_
  refine ws_keep (u64V h) rfl (fun W hu => ok_load1 (b := b5) (o := 0 + 7 * 1) rfl ((hA.upd hu).cell rfl)) ?_
  repeat (first | refine ws_auto rfl rfl rfl ?_ | refine ws_gauto rfl rfl rfl rfl ?_ | refine wgs rfl rfl ?_)
  refine ws_val rfl (pv_addW (a := h) (b := s1) rfl rfl) ?_
  repeat (first | refine ws_auto rfl rfl rfl ?_ | refine ws_gauto rfl rfl rfl rfl ?_ | refine wgs rfl rfl ?_)
  refine ws_keep _ rfl (fun W hu => ok_iaddrA (b := b5) (o := 0) rfl rfl 5 rfl (by omega)) ?_
  refine ws_keep (u64V f) rfl (fun W hu => ok_load1 (b := b5) (o := 0 + 5 * 1) rfl ((hA.upd hu).cell rfl)) ?_
  refine ws_val rfl (pv_andU (a := e) (b := f) rfl rfl he hf) ?_
  repeat (first | refine ws_auto rfl rfl rfl ?_ | refine ws_gauto rfl rfl rfl rfl ?_ | refine wgs rfl rfl ?_)
  refine ws_val (v := u64V (notW e)) rfl (pv_notU (a := e) rfl he) ?_
  refine ws_keep _ rfl (fun W hu => ok_iaddrA (b := b5) (o := 0) rfl rfl 6 rfl (by omega)) ?_
  refine ws_keep (u64V g) rfl (fun W hu => ok_load1 (b := b5) (o := 0 + 6 * 1) rfl ((hA.upd hu).cell rfl)) ?_
  generalize hnn : notW e = ne at *
  refine ws_val rfl (pv_andU (a := ne) (b := g) rfl rfl hnw hg) ?_
  generalize hx1 : e &&& f = x1 at *
  generalize hx2 : ne &&& g = x2 at *
  have l1 : x1 < 18446744073709551616 := by rw [← hx1]; exact and_lt he
  have l2 : x2 < 18446744073709551616 := by rw [← hx2]; exact and_lt hnw
  refine ws_val rfl (pv_xorU (a := x1) (b := x2) rfl rfl l1 l2) ?_
  generalize hx3 : x1 ^^^ x2 = x3 at *
  generalize hx4 : (h + s1) % 18446744073709551616 = x4 at *
  refine ws_val rfl (pv_addW (a := x4) (b := x3) rfl rfl) ?_
  generalize hx5 : (x4 + x3) % 18446744073709551616 = x5 at *
  repeat (first | refine ws_auto rfl rfl rfl ?_ | refine ws_gauto rfl rfl rfl rfl ?_ | refine wgs rfl rfl ?_)
  refine ws_keep _ rfl (fun W hu => ok_iaddrA (b := gl2) (o := 0) rfl rfl i rfl hi) ?_
  refine ws_keep (u64V ki) rfl (fun W hu => ok_load1 (b := gl2) (o := 0 + i * 1) rfl (hGm W hu)) ?_
  refine ws_val rfl (pv_addW (a := x5) (b := ki) rfl rfl) ?_
  generalize hx6 : (x5 + ki) % 18446744073709551616 = x6 at *
  repeat (first | refine ws_auto rfl rfl rfl ?_ | refine ws_gauto rfl rfl rfl rfl ?_ | refine wgs rfl rfl ?_)
  refine ws_fin fun W hu => ?_
  refine xpu (pv_addW (a := x6) (b := wi) rfl rfl) rfl ?_
  rw [← ht1]
  refine xtm rfl rfl rfl ?_
  refine xen _ ?_ (hx W hu)
  exact ⟨rfl, rfl, rfl, rfl, rfl, rfl, rfl, rfl, trivial⟩
theorem take_t2 (hA : Blk w b5 [u64V a, u64V b', u64V c', u64V d, u64V e, u64V f, u64V g, u64V h]) (ha : a < 18446744073709551616) (hb : b' < 18446744073709551616) (hc : c' < 18446744073709551616) {t1 t2 : Nat}
    (ht2 : t2 = (s0 + (a &&& b' ^^^ a &&& c' ^^^ b' &&& c')) % 18446744073709551616)
    (hx : Exec P 106 c D is k [(12, u64V t1), (13, u64V t2), (2, v2), (4, v4), (5, ptrV' b5), (17, v17), (18, v18)] w) :
    Exec P 106 c D (.op none (some 63) (.mov (.tmp 11)) ::
          .op none (some 64) (.mov (.tmp 8)) ::
          .op none (some 65) (.iaddrA 8 1 (.tmp 5) (.const (.int .i64 1))) ::
          .op none (some 66) (.load1 (.tmp 65)) ::
          .op none (some 67) (.ibin .and (.tmp 64) (.tmp 66)) ::
          .op none (some 68) (.mov (.tmp 8)) ::
          .op none (some 69) (.iaddrA 8 1 (.tmp 5) (.const (.int .i64 2))) ::
          .op none (some 70) (.load1 (.tmp 69)) ::
          .op none (some 71) (.ibin .and (.tmp 68) (.tmp 70)) ::
          .op none (some 72) (.ibin .xor (.tmp 67) (.tmp 71)) ::
          .op none (some 73) (.iaddrA 8 1 (.tmp 5) (.const (.int .i64 1))) ::
          .op none (some 74) (.load1 (.tmp 73)) ::
          .op none (some 75) (.iaddrA 8 1 (.tmp 5) (.const (.int .i64 2))) ::
          .op none (some 76) (.load1 (.tmp 75)) ::
          .op none (some 77) (.ibin .and (.tmp 74) (.tmp 76)) ::
          .op none (some 78) (.ibin .xor (.tmp 72) (.tmp 77)) ::
          .op none (some 79) (.ibin .add (.tmp 63) (.tmp 78)) ::
          .op none (some 13) (.mov (.tmp 79)) :: is) k [(12, u64V t1), (2, v2), (4, v4), (5, ptrV' b5), (8, u64V a), (11, u64V s0), (17, v17), (18, v18)] w := by
  refine xr 2 rfl ?_
  refine xju (ok_iaddrA (b := b5) (o := 0) rfl rfl 1 rfl (by omega)) rfl ?_
  refine exec_load1 (b := b5) (o := 0 + 1 * 1) (v := u64V b') rfl rfl (hA.cell rfl) ?_
  refine xpu (pv_andU (a := a) (b := b') rfl rfl ha hb) rfl ?_
  generalize hx1 : a &&& b' = x1 at *
  have l1 : x1 < 18446744073709551616 := by rw [← hx1]; exact and_lt ha
  refine xr 1 rfl ?_
  refine xju (ok_iaddrA (b := b5) (o := 0) rfl rfl 2 rfl (by omega)) rfl ?_
  refine exec_load1 (b := b5) (o := 0 + 2 * 1) (v := u64V c') rfl rfl (hA.cell rfl) ?_
  refine xpu (pv_andU (a := a) (b := c') rfl rfl ha hc) rfl ?_
  generalize hx2 : a &&& c' = x2 at *
  have l2 : x2 < 18446744073709551616 := by rw [← hx2]; exact and_lt ha
  refine xpu (pv_xorU (a := x1) (b := x2) rfl rfl l1 l2) rfl ?_
  generalize hx3 : x1 ^^^ x2 = x3 at *
  have l3 : x3 < 18446744073709551616 := by rw [← hx3]; exact xor_lt l1 l2
  refine xju (ok_iaddrA (b := b5) (o := 0) rfl rfl 1 rfl (by omega)) rfl ?_
  refine exec_load1 (b := b5) (o := 0 + 1 * 1) (v := u64V b') rfl rfl (hA.cell rfl) ?_
  refine xju (ok_iaddrA (b := b5) (o := 0) rfl rfl 2 rfl (by omega)) rfl ?_
  refine exec_load1 (b := b5) (o := 0 + 2 * 1) (v := u64V c') rfl rfl (hA.cell rfl) ?_
  refine xpu (pv_andU (a := b') (b := c') rfl rfl hb hc) rfl ?_
  generalize hx4 : b' &&& c' = x4 at *
  have l4 : x4 < 18446744073709551616 := by rw [← hx4]; exact and_lt hb
  refine xpu (pv_xorU (a := x3) (b := x4) rfl rfl l3 l4) rfl ?_
  generalize hx5 : x3 ^^^ x4 = x5 at *
  refine xpu (pv_addW (a := s0) (b := x5) rfl rfl) rfl ?_
  rw [← ht2]
  refine xtm rfl rfl rfl ?_
  refine xen _ ?_ hx
  exact ⟨rfl, rfl, rfl, rfl, rfl, rfl, rfl, trivial⟩
theorem take_put (hA : Blk w b5 [u64V a, u64V b', u64V c', u64V d, u64V e, u64V f, u64V g, u64V h]) {t1 t2 : Nat}
    (hx : ∀ W, Upd [b5] w W → Blk W b5 [u64V ((t1 + t2) % 18446744073709551616), u64V a, u64V b', u64V c', u64V ((d + t1) % 18446744073709551616), u64V e, u64V f, u64V g] → Exec P 106 c D is k [(2, v2), (4, v4), (5, ptrV' b5), (17, v17), (18, v18)] W) :
    Exec P 106 c D (.draw [
            ([], none, (some 80), .slA 8 1 (.tmp 5) (some (.const (.int .i64 1))) none),
            ([], none, (some 81), .slA 8 1 (.tmp 5) none (some (.const (.int .i64 7))))] [
            .op none (some 82) (.copy 1 (.tmp 80) (.tmp 81))] ::
          .op none (some 83) (.iaddrA 8 1 (.tmp 5) (.const (.int .i64 4))) ::
          .op none (some 84) (.load1 (.tmp 83)) ::
          .op none (some 85) (.mov (.tmp 12)) ::
          .op none (some 86) (.ibin .add (.tmp 84) (.tmp 85)) ::
          .op none (some 87) (.iaddrA 8 1 (.tmp 5) (.const (.int .i64 4))) ::
          .op none none (.store 1 (.tmp 87) (.tmp 86)) ::
          .op none (some 88) (.mov (.tmp 12)) ::
          .op none (some 89) (.mov (.tmp 13)) ::
          .op none (some 90) (.ibin .add (.tmp 88) (.tmp 89)) ::
          .op none (some 91) (.iaddrA 8 1 (.tmp 5) (.const (.int .i64 0))) ::
          .op none none (.store 1 (.tmp 91) (.tmp 90)) :: is) k [(12, u64V t1), (13, u64V t2), (2, v2), (4, v4), (5, ptrV' b5), (17, v17), (18, v18)] w := by
  refine exec_dwr rfl rfl rfl ?_
  refine ws_keep _ rfl (fun W hu => ok_slA (b := b5) (o := 0) 1 8 rfl ⟨.i64, rfl⟩ rfl (by omega) (by omega)) ?_
  refine ws_keep _ rfl (fun W hu => ok_slA (b := b5) (o := 0) 0 7 rfl rfl ⟨.i64, rfl⟩ (by omega) (by omega)) ?_
  refine ws_fin fun W9 hu9 => ?_
  have hA59 := hA.upd hu9
  have hS9 : SlC W9 (.slice (some ⟨b5, 0, none⟩) 7 8) 1 7 [u64V a, u64V b', u64V c', u64V d, u64V e, u64V f, u64V g] :=
    .inr ⟨b5, 0, 8, rfl, hA59.mem 0 (by intro j v hj; rw [Nat.zero_add]; match j, hj with
      | 0, hj => exact hj
      | 1, hj => exact hj
      | 2, hj => exact hj
      | 3, hj => exact hj
      | 4, hj => exact hj
      | 5, hj => exact hj
      | 6, hj => exact hj), rfl, by omega⟩
  refine exec_ok (ok_copy (b := b5) (o := 0 + 1 * 1) (dl := 7) (N := 1) rfl rfl hA59 (by simp) hS9 rfl) rfl ?_
  rintro v W10 ⟨rfl, hu10, hs10, hA10⟩
  have esp : splice [u64V a, u64V b', u64V c', u64V d, u64V e, u64V f, u64V g, u64V h] (0 + 1 * 1) ([u64V a, u64V b', u64V c', u64V d, u64V e, u64V f, u64V g].take (min 7 7 * 1)) = [u64V a, u64V a, u64V b', u64V c', u64V d, u64V e, u64V f, u64V g] := by simp [splice]
  rw [esp] at hA10
  refine xju (ok_iaddrA (b := b5) (o := 0) rfl rfl 4 rfl (by omega)) rfl ?_
  refine exec_load1 (b := b5) (o := 0 + 4 * 1) (v := u64V d) rfl rfl (hA10.cell rfl) ?_
  refine xr 1 rfl ?_
  refine xpu (pv_addW (a := d) (b := t1) rfl rfl) rfl ?_
  generalize (d + t1) % 18446744073709551616 = y1 at *
  refine xju (ok_iaddrA (b := b5) (o := 0) rfl rfl 4 rfl (by omega)) rfl ?_
  refine exec_store (b := b5) (o := 0 + 4 * 1) (v := u64V y1) rfl rfl hA10 rfl (by simp) rfl ?_
  intro W11 hu11 hs11 hA11
  refine xr 2 rfl ?_
  refine xpu (pv_addW (a := t1) (b := t2) rfl rfl) rfl ?_
  generalize (t1 + t2) % 18446744073709551616 = y2 at *
  refine xju (ok_iaddrA (b := b5) (o := 0) rfl rfl 0 rfl (by omega)) rfl ?_
  refine exec_store (b := b5) (o := 0 + 0 * 1) (v := u64V y2) rfl rfl hA11 rfl (by simp [splice]) rfl ?_
  intro W12 hu12 hs12 hA12
  refine xen _ ?_ (hx W12 ?_ hA12)
  · exact ⟨rfl, rfl, rfl, rfl, rfl, trivial⟩
  · exact (((hu9.mono (m := [b5]) (by simp)).trans hu10 (by simp)).trans hu11 (by simp)).trans hu12 (by simp)
end
end Go.Sp

namespace Go.Sp
section
variable {P : Program} {f : Nat} {w : World}
theorem drop_cons {α : Type} {L : List α} {i : Nat} {x : α} (h : L[i]? = some x) : L.drop i = x :: L.drop (i + 1) := by
  have hlt := (List.getElem?_eq_some_iff.1 h).1
  rw [List.drop_eq_getElem_cons hlt, (List.getElem?_eq_some_iff.1 h).2]
theorem roundsN_cons (v : List Nat) (k w : Nat) (ks ws : List Nat) : roundsN v (k :: ks) (w :: ws) = roundsN (roundN v k w) ks ws := by
  cases v <;> rfl
theorem roundsN_nil (v ws : List Nat) : roundsN v [] ws = v := by cases v <;> cases ws <;> rfl
theorem list8 {α : Type} {H : List α} (h : H.length = 8) : ∃ a b c d e f g h, H = [a, b, c, d, e, f, g, h] := by
  match H, h with
  | [a, b, c, d, e, f, g, h], _ => exact ⟨a, b, c, d, e, f, g, h, rfl⟩
theorem zip_step (F : Nat → Nat → Value) (G : Nat → Value) (X Y : List Nat) (hX : X.length = 8) (hY : Y.length = 8) (j : Nat) (hj : j < 8) : ∃ x y, (List.zipWith F (X.take j) (Y.take j) ++ (X.drop j).map G)[0 + j * 1]? = some (G x) ∧ (Y.map G)[0 + j * 1]? = some (G y) ∧
    splice (List.zipWith F (X.take j) (Y.take j) ++ (X.drop j).map G) (0 + j * 1) [F x y] = List.zipWith F (X.take (j + 1)) (Y.take (j + 1)) ++ (X.drop (j + 1)).map G := by
  obtain ⟨x, hx⟩ : ∃ x, X[j]? = some x := ⟨_, List.getElem?_eq_getElem (by omega)⟩
  obtain ⟨y, hy⟩ : ∃ y, Y[j]? = some y := ⟨_, List.getElem?_eq_getElem (by omega)⟩
  have e1 : X.drop j = x :: X.drop (j + 1) := by
    rw [List.drop_eq_getElem_cons (by omega)]; congr 1; exact (List.getElem?_eq_some_iff.1 hx).2
  have el : (List.zipWith F (X.take j) (Y.take j)).length = j := by simp; omega
  refine ⟨x, y, ?_, ?_, ?_⟩
  · rw [Nat.zero_add, Nat.mul_one, List.getElem?_append_right (by omega), el, e1]; simp
  · rw [Nat.zero_add, Nat.mul_one, List.getElem?_map, hy]; rfl
  · rw [Nat.zero_add, Nat.mul_one, e1, List.map_cons, splice_at el, List.take_add_one, List.take_add_one, hx, hy, Option.toList_some, Option.toList_some, List.zipWith_append (by simp; omega)]
    simp
theorem roundN_spec (a b c d e f g h k w : Nat) : ∃ t1 t2, t1 = ((((h + (rotr e 14 ^^^ rotr e 18 ^^^ rotr e 41)) % 18446744073709551616 + (e &&& f ^^^ notW e &&& g)) % 18446744073709551616 + k) % 18446744073709551616 + w) % 18446744073709551616 ∧
    t2 = ((rotr a 28 ^^^ rotr a 34 ^^^ rotr a 39) + (a &&& b ^^^ a &&& c ^^^ b &&& c)) % 18446744073709551616 ∧ roundN [a, b, c, d, e, f, g, h] k w = [(t1 + t2) % 18446744073709551616, a, b, c, (d + t1) % 18446744073709551616, e, f, g] := ⟨_, _, rfl, rfl, rfl⟩
theorem take_ok {gl1 gl2 g1 g2 g3 g4 T T2 : Nat} (h1 : Has P g1 b_sha512_word) (h2 : Has P g2 (b_sha512_right g3)) (h3 : Has P g3 b_math_bits_RotateLeft64) (h4 : Has P g4 (b_sha512_spread g1 g2 T2)) (h : Has P f (b_sha512_take gl1 gl2 g4 g2 T))
    (hG : Mem w gl2 0 (constW.map u64V)) {b o cap len : Nat} {l H : List Nat} (hm : Mem w b o (l.map u8N)) (hl : l.length = 128) (hlen : len = 128) (hcap : len ≤ cap) (hb : ∀ x ∈ l, x < 256) (hH : H.length = 8) (hH64 : ∀ x ∈ H, x < 18446744073709551616) :
    RetV P f [.agg (H.map u64V).toArray, .slice (some ⟨b, o, none⟩) len cap] w (.agg ((takeN H l).map u64V).toArray) := by
  refine Ret.of_exec h (Nat.le_of_ble_eq_true rfl) fun c hc => ?_
  dsimp only [b_sha512_take, argEnv, ym, yo, yg, ys, yt, yd, ye]
  have hcells : (Value.agg (H.map u64V).toArray).cells.toList = H.map u64V := by simp [Value.cells]
  refine exec_box rfl rfl ?_
  intro b2 w1 hb2 hs1 hu1 hB2
  rw [hcells] at hB2
  refine exec_new rfl ?_
  intro b4 w2 hb4 hs2 hu2 hB4
  rw [rle_toList, rleL_one] at hB4
  have hB2' := hB2.upd hu2
  refine exec_loadN (b := b2) (o := 0) (vs := H.map u64V) rfl rfl hB2'.memAll (by simp [hH]) ?_
  refine exec_new_store (v := .agg (H.map u64V).toArray) rfl rfl rfl (by simp [Value.cells, hH]) (by simp [rle]) ?_ ?_
  · rw [hcells, List.all_eq_true]; intro v hv; simp at hv; obtain ⟨x, _, rfl⟩ := hv; rfl
  intro b5 w3 hb5 hs3 hu3 hB5
  rw [hcells] at hB5
  refine xr 1 rfl ?_
  have hE3 : Ext w w3 := (hu1.trans hu2).trans hu3
  refine xca rfl rfl (spread_ok h1 h2 h3 h4 (hm.upd hE3) hl hlen hcap hb) ?_
  rintro v w4 ⟨rfl, hu4⟩
  have hne : b2 ≠ b4 ∧ b2 ≠ b5 ∧ b4 ≠ b5 := by omega
  have hglt : gl2 < w.heap.size := hG.lt (by simp [constW])
  have hsl : (spreadN l).length = 80 := by simp [spreadN, growW_len, words16]
  have hcl : constW.length = 80 := rfl
  have hs64 : ∀ x ∈ spreadN l, x < 18446744073709551616 := by
    have : ∀ (k : Nat) (w : List Nat), (∀ x ∈ w, x < 18446744073709551616) → ∀ x ∈ growW k w, x < 18446744073709551616 := by
      intro k
      induction k with
      | zero => intro w hw; exact hw
      | succ k ih =>
        intro w hw
        refine ih _ fun x hx => ?_
        rcases List.mem_append.1 hx with h | h
        · exact hw x h
        · simp at h; subst h; exact nextW_lt w
    refine this 64 _ fun x hx => ?_
    simp only [words16, List.mem_map] at hx
    obtain ⟨t, _, rfl⟩ := hx
    exact wordN_lt _ (fun y hy => hb y (List.mem_of_mem_drop (List.mem_of_mem_take hy)))
  have hk64 : ∀ x ∈ constW, x < 18446744073709551616 := by decide
  refine xr 2 rfl ?_
  refine xlo (S := Nat × List Nat) (fun s W => s.1 ≤ 80 ∧ s.2.length = 8 ∧ (∀ x ∈ s.2, x < 18446744073709551616) ∧ roundsN s.2 (constW.drop s.1) ((spreadN l).drop s.1) = roundsN H constW (spreadN l) ∧ Ext w W ∧ Blk W b2 (H.map u64V) ∧ Blk W b4 (List.replicate 8 (u64V 0)) ∧ Blk W b5 (s.2.map u64V))
    (fun s => [(2, ptrV' b2), (4, ptrV' b4), (5, ptrV' b5), (17, .agg ((spreadN l).map u64V).toArray), (18, intV' s.1)]) (fun s => 80 - s.1) (0, H)
    ⟨by show 0 ≤ 80; omega, hH, hH64, rfl, hE3.trans hu4, (hB2'.upd hu3).upd hu4, (hB4.upd hu3).upd hu4, hB5.upd hu4⟩ ⟨rfl, rfl, rfl, rfl, rfl, trivial⟩ ?_
  rintro ⟨i, cur⟩ W ⟨hi, hcur, hc64, hres, hE, hA2, hA4, hA5⟩
  simp only at hi hcur hc64 hres hA5
  refine xr 1 rfl ?_
  refine exec_cond rfl (fun h5 => ?_) (fun h5 => ?_)
  · simp only [decide_eq_true_eq] at h5
    have hi80 : i < 80 := by omega
    obtain ⟨wi, hwi⟩ : ∃ x, (spreadN l)[i]? = some x := ⟨_, List.getElem?_eq_getElem (by omega)⟩
    obtain ⟨ki, hki⟩ : ∃ x, constW[i]? = some x := ⟨_, List.getElem?_eq_getElem (by rw [hcl]; omega)⟩
    have hw64 := hs64 wi (List.mem_of_getElem? hwi)
    refine xr 3 rfl ?_
    refine xju (ok_idx1 (v := u64V wi) rfl rfl i rfl (by omega) (by rw [List.getElem?_toArray, List.getElem?_map, hwi]; rfl)) rfl ?_
    refine xr 2 rfl ?_
    obtain ⟨a, b', c', d, e, f', g, h', rfl⟩ : ∃ a b c d e f g h, cur = [a, b, c, d, e, f, g, h] := list8 hcur
    have ha : a < 18446744073709551616 := hc64 a (by simp)
    have he : e < 18446744073709551616 := hc64 e (by simp)
    have hf : f' < 18446744073709551616 := hc64 f' (by simp)
    have hg : g < 18446744073709551616 := hc64 g (by simp)
    have hbb : b' < 18446744073709551616 := hc64 b' (by simp)
    have hcc : c' < 18446744073709551616 := hc64 c' (by simp)
    simp only [List.map_cons, List.map_nil] at hA5
    refine exec_dwr rfl rfl rfl ?_
    refine ws_keep _ rfl (fun W' hu => ok_iaddrA (b := b5) (o := 0) rfl rfl 0 rfl (by omega)) ?_
    refine ws_keep (u64V a) rfl (fun W' hu => ok_load1 (b := b5) (o := 0 + 0 * 1) rfl ((hA5.upd hu).cell rfl)) ?_
    refine ws_keep _ rfl (fun W' hu => ok_iaddrA (b := b5) (o := 0) rfl rfl 4 rfl (by omega)) ?_
    refine ws_keep (u64V e) rfl (fun W' hu => ok_load1 (b := b5) (o := 0 + 4 * 1) rfl ((hA5.upd hu).cell rfl)) ?_
    repeat (first | refine ws_auto rfl rfl rfl ?_ | refine ws_gauto rfl rfl rfl rfl ?_ | refine wgs rfl rfl ?_)
    refine ws_fin fun W1 hu1 => ?_
    refine xr 2 rfl ?_
    refine xen [(2, ptrV' b2), (4, ptrV' b4), (5, ptrV' b5), (6, intV' i), (7, u64V wi), (8, u64V a), (9, u64V e), (26, u64V e), (17, .agg ((spreadN l).map u64V).toArray), (18, intV' i)] ⟨rfl, rfl, rfl, rfl, rfl, rfl, rfl, rfl, rfl, rfl, trivial⟩ ?_
    refine xca rfl rfl (right_ok h3 h2 e 14 he (by omega) (by omega)) ?_
    rintro v W2 ⟨rfl, hu2⟩
    refine xr 1 rfl ?_
    refine xca rfl rfl (right_ok h3 h2 e 18 he (by omega) (by omega)) ?_
    rintro v W3 ⟨rfl, hu3⟩
    refine xpu (pv_xorU (a := rotr e 14) (b := rotr e 18) rfl rfl (rotr_lt _ _ he) (rotr_lt _ _ he)) rfl ?_
    refine xr 1 rfl ?_
    refine xca rfl rfl (right_ok h3 h2 e 41 he (by omega) (by omega)) ?_
    rintro v W4 ⟨rfl, hu4⟩
    refine xpu (pv_xorU (a := rotr e 14 ^^^ rotr e 18) (b := rotr e 41) rfl rfl (xor_lt (rotr_lt _ _ he) (rotr_lt _ _ he)) (rotr_lt _ _ he)) rfl ?_
    refine xr 2 rfl ?_
    refine xca rfl rfl (right_ok h3 h2 a 28 ha (by omega) (by omega)) ?_
    rintro v W5 ⟨rfl, hu5⟩
    refine xr 1 rfl ?_
    refine xca rfl rfl (right_ok h3 h2 a 34 ha (by omega) (by omega)) ?_
    rintro v W6 ⟨rfl, hu6⟩
    refine xpu (pv_xorU (a := rotr a 28) (b := rotr a 34) rfl rfl (rotr_lt _ _ ha) (rotr_lt _ _ ha)) rfl ?_
    refine xr 1 rfl ?_
    refine xca rfl rfl (right_ok h3 h2 a 39 ha (by omega) (by omega)) ?_
    rintro v W7 ⟨rfl, hu7⟩
    refine xpu (pv_xorU (a := rotr a 28 ^^^ rotr a 34) (b := rotr a 39) rfl rfl (xor_lt (rotr_lt _ _ ha) (rotr_lt _ _ ha)) (rotr_lt _ _ ha)) rfl ?_
    refine xr 1 rfl ?_
    have hU7 : Upd [] W W7 := (((((hu1.trans hu2).trans hu3).trans hu4).trans hu5).trans hu6).trans hu7
    have hG7 : Mem W7 gl2 0 (constW.map u64V) := (hG.upd hE).upd hU7
    have hki2 : (constW.map u64V)[i]? = some (u64V ki) := by rw [List.getElem?_map, hki]; rfl
    obtain ⟨t1, t2, ht1, ht2, hround⟩ := roundN_spec a b' c' d e f' g h' ki wi
    refine xen [(5, ptrV' b5), (6, intV' i), (7, u64V wi), (9, u64V e), (10, u64V (rotr e 14 ^^^ rotr e 18 ^^^ rotr e 41)), (2, ptrV' b2), (4, ptrV' b4), (8, u64V a), (11, u64V (rotr a 28 ^^^ rotr a 34 ^^^ rotr a 39)), (17, .agg ((spreadN l).map u64V).toArray), (18, intV' i)] ⟨rfl, rfl, rfl, rfl, rfl, rfl, rfl, rfl, rfl, rfl, rfl, trivial⟩ ?_
    generalize rotr e 14 ^^^ rotr e 18 ^^^ rotr e 41 = s1 at *
    generalize rotr a 28 ^^^ rotr a 34 ^^^ rotr a 39 = s0 at *
    refine take_t1 (hA5.upd hU7) (by rw [Nat.mul_one]; exact hG7 i _ hki2) (fun W hu => by rw [Nat.mul_one]; exact (hG7.upd hu) i _ hki2) hi80 he hf hg t1 ht1 ?_
    intro W8 hu8
    refine take_t2 ((hA5.upd hU7).upd hu8) ha hbb hcc ht2 ?_
    refine take_put ((hA5.upd hU7).upd hu8) ?_
    intro W12 hu12 hA12
    refine xr 2 rfl ?_
    refine xpu (pv_addI (a := i) (b := 1) rfl rfl (by omega)) rfl ?_
    refine xr 1 rfl ?_
    have hU12 : Upd [b5] W W12 := ((hU7.trans hu8).mono (m := [b5]) (by simp)).trans hu12 (by simp)
    refine xag (i + 1, roundN [a, b', c', d, e, f', g, h'] ki wi) ⟨hi80, by rw [hround]; rfl, ?_, ?_, hE.trans hU12 (fun b hb => .inr (by simp at hb; omega)), hA2.upd hU12 (by simp; omega), hA4.upd hU12 (by simp; omega), ?_⟩ (by show 80 - (i + 1) < 80 - i; omega) ⟨rfl, rfl, rfl, rfl, rfl, trivial⟩
    · rw [hround]
      intro x hx
      simp only [List.mem_cons, List.not_mem_nil, or_false] at hx
      rcases hx with rfl | rfl | rfl | rfl | rfl | rfl | rfl | rfl
      all_goals first | exact Nat.mod_lt _ (by decide) | assumption
    · rw [← hres]
      rw [drop_cons hki, drop_cons hwi, roundsN_cons]
    · rw [hround]; exact hA12
  · simp only [decide_eq_false_iff_not] at h5
    have : i = 80 := by omega
    subst this
    have hfin : takeN H l = List.zipWith (fun x y => (x + y) % 18446744073709551616) H cur := by
      rw [takeN, ← hres]
      rw [List.drop_eq_nil_of_le (Nat.le_of_eq hcl), roundsN_nil]
    obtain ⟨x0, x1, x2, x3, x4, x5, x6, x7, rfl⟩ : ∃ a b c d e f g h, H = [a, b, c, d, e, f, g, h] := list8 hH
    obtain ⟨y0, y1, y2, y3, y4, y5, y6, y7, rfl⟩ : ∃ a b c d e f g h, cur = [a, b, c, d, e, f, g, h] := list8 hcur
    refine xr 4 rfl ?_
    refine xlo (S := Nat) (fun j V => j ≤ 8 ∧ Upd [b2] W V ∧ Blk V b2 ((List.zipWith (fun x y => u64V ((x + y) % 18446744073709551616)) ([x0, x1, x2, x3, x4, x5, x6, x7].take j) ([y0, y1, y2, y3, y4, y5, y6, y7].take j)) ++ ([x0, x1, x2, x3, x4, x5, x6, x7].drop j).map u64V))
      (fun j => [(2, ptrV' b2), (4, ptrV' b4), (5, ptrV' b5), (93, intV' j)]) (fun j => 8 - j) 0 ⟨by omega, Upd.refl _ _, hA2⟩ ⟨rfl, rfl, rfl, rfl, trivial⟩ ?_
    rintro j V ⟨j1, jU, jB⟩
    skip
    by_cases hj8 : j < 8
    · refine xpu (pv_lssI (a := j) (b := 8) (q := true) rfl rfl (by simpa using hj8)) rfl ?_
      refine xr 5 rfl ?_
      have hV5 : Blk V b5 ([y0, y1, y2, y3, y4, y5, y6, y7].map u64V) := hA5.upd jU (by simp; omega)
      obtain ⟨xx, yy, hxx, hyy, hsp⟩ := zip_step (fun x y => u64V ((x + y) % 18446744073709551616)) u64V [x0, x1, x2, x3, x4, x5, x6, x7] [y0, y1, y2, y3, y4, y5, y6, y7] rfl rfl j hj8
      have hlen : ((List.zipWith (fun x y => u64V ((x + y) % 18446744073709551616)) ([x0, x1, x2, x3, x4, x5, x6, x7].take j) ([y0, y1, y2, y3, y4, y5, y6, y7].take j)) ++ ([x0, x1, x2, x3, x4, x5, x6, x7].drop j).map u64V).length = 8 := by
        simp; omega
      refine exec_dwr rfl rfl rfl ?_
      repeat (first | refine ws_auto rfl rfl rfl ?_ | refine ws_gauto rfl rfl rfl rfl ?_ | refine wgs rfl rfl ?_)
      refine ws_keep _ rfl (fun W' hu => ok_iaddrA (b := b2) (o := 0) rfl rfl j rfl hj8) ?_
      refine ws_keep (u64V xx) rfl (fun W' hu => ok_load1 (b := b2) (o := 0 + j * 1) rfl ((jB.upd hu).cell hxx)) ?_
      repeat (first | refine ws_auto rfl rfl rfl ?_ | refine ws_gauto rfl rfl rfl rfl ?_ | refine wgs rfl rfl ?_)
      refine ws_keep _ rfl (fun W' hu => ok_iaddrA (b := b5) (o := 0) rfl rfl j rfl hj8) ?_
      refine ws_keep (u64V yy) rfl (fun W' hu => ok_load1 (b := b5) (o := 0 + j * 1) rfl ((hV5.upd hu).cell hyy)) ?_
      refine ws_fin fun V1 hv1 => ?_
      refine xpu (pv_addW (a := xx) (b := yy) rfl rfl) rfl ?_
      refine xju (ok_iaddrA (b := b2) (o := 0) rfl rfl j rfl hj8) rfl ?_
      refine exec_store (b := b2) (o := 0 + j * 1) (v := u64V ((xx + yy) % 18446744073709551616)) rfl rfl (jB.upd hv1) rfl (by rw [hlen]; omega) rfl ?_
      intro V2 hv2 _ hB2'
      refine xr 2 rfl ?_
      refine xpu (pv_addI (a := j) (b := 1) rfl rfl (by omega)) rfl ?_
      refine xr 1 rfl ?_
      refine xag (j + 1) ⟨by omega, (jU.trans hv1 (by simp)).trans hv2 (by simp), ?_⟩ (by show 8 - (j + 1) < 8 - j; omega) ⟨rfl, rfl, rfl, rfl, trivial⟩
      rw [← hsp]; exact hB2'
    · refine xpu (pv_lssI (a := j) (b := 8) (q := false) rfl rfl (by simpa using hj8)) rfl ?_
      have : j = 8 := by omega
      subst this
      refine xr 3 rfl ?_
      have hlast : (List.zipWith (fun x y => u64V ((x + y) % 18446744073709551616)) ([x0, x1, x2, x3, x4, x5, x6, x7].take 8) ([y0, y1, y2, y3, y4, y5, y6, y7].take 8)) ++ ([x0, x1, x2, x3, x4, x5, x6, x7].drop 8).map u64V = (takeN [x0, x1, x2, x3, x4, x5, x6, x7] l).map u64V := by
        rw [hfin]; rfl
      rw [hlast] at jB
      have hlt8 : ((takeN [x0, x1, x2, x3, x4, x5, x6, x7] l).map u64V).length = 8 := by rw [hfin]; rfl
      refine exec_loadN (b := b2) (o := 0) (vs := (takeN [x0, x1, x2, x3, x4, x5, x6, x7] l).map u64V) rfl rfl jB.memAll hlt8 ?_
      have hB4' : Blk V b4 (List.replicate 8 (u64V 0)) := hA4.upd jU (by simp; omega)
      refine exec_store (b := b4) (o := 0) (v := .agg ((takeN [x0, x1, x2, x3, x4, x5, x6, x7] l).map u64V).toArray) rfl rfl hB4' (by simp [Value.cells, ← hlt8]) (by simp) (by
        simp only [Value.cells, List.all_eq_true]; intro v hv; simp at hv; obtain ⟨x, _, rfl⟩ := hv; rfl) ?_
      intro V3 hv3 _ hB4
      have hB4'' : Blk V3 b4 ((takeN [x0, x1, x2, x3, x4, x5, x6, x7] l).map u64V) := by
        have : splice (List.replicate 8 (u64V 0)) 0 (Value.agg ((takeN [x0, x1, x2, x3, x4, x5, x6, x7] l).map u64V).toArray).cells.toList = (takeN [x0, x1, x2, x3, x4, x5, x6, x7] l).map u64V := by
          simp only [Value.cells, splice, List.take_zero, List.nil_append, Nat.zero_add]
          rw [List.drop_eq_nil_of_le (by rw [List.length_replicate]; exact Nat.le_of_eq hlt8.symm)]
          simp
        rw [this] at hB4; exact hB4
      refine xre hc [_] ⟨⟨b4, 0, _, rfl, hB4''.memAll, hlt8, rfl⟩, trivial⟩ ⟨rfl, ?_⟩
      exact ((hE.trans jU (fun b hb => .inr (by simp at hb; omega))).trans hv3 (fun b hb => .inr (by simp at hb; omega)))
end
end Go.Sp

namespace Go.Sp
section
variable {P : Program} {e : Env} {w : World}
theorem _root_.Go.Sp.Blk.memPre {b : Nat} {cs rest : List Value} (h : Blk w b (cs ++ rest)) : Mem w b 0 cs := h.mem 0 fun i v hi => by
  rw [Nat.zero_add, List.getElem?_append_left (List.getElem?_eq_some_iff.1 hi).1]; exact hi
theorem ok_s2arr {x : Operand} {a : Option Addr} {len cap m : Nat} (hx : e.ev x = some (.slice a len cap)) (h : m ≤ len) : OpOK P (.s2arr m x) e w (Just (.pointer a) w) :=
  ok_val fun b hk => by simp [MOp.sem, Env.ok_ev hk hx, show ¬ len < m by omega]
theorem ok_b2b {x : Operand} {b o len cap : Nat} {cs : List Value} (hx : e.ev x = some (.slice (some ⟨b, o, none⟩) len cap)) (hB : Blk w b cs) :
    OpOK P (.b2b x) e w fun v W => v = .slice (some ⟨b, o, none⟩) len cap ∧ Upd [b] w W ∧ W.heap.size = w.heap.size ∧ Mem W b 0 cs := by
  obtain ⟨T, hT⟩ := hB
  have hsh : w.shape? b = some (T, cs.length) := by simp [World.shape?, hT]
  have hblt : b < w.heap.size := (Array.getElem?_eq_some_iff.1 hT).1
  have hWs : (w.freeze ⟨b, cs.length, none⟩ 1).heap.size = w.heap.size := by simp [World.freeze]
  have hWb : (w.freeze ⟨b, cs.length, none⟩ 1).heap[b]? = some (.cells cs.toArray T (cs.length, cs.length + 1)) := by
    simp [World.freeze, Array.getElem?_modify, hT]
  have hWo : ∀ k, k ≠ b → (w.freeze ⟨b, cs.length, none⟩ 1).heap[k]? = w.heap[k]? := by
    intro k hk
    simp [World.freeze, Array.getElem?_modify, Ne.symm hk]
  intro a hk rd d next Q hn
  have hr : ((MOp.b2b x).sem a.eval).run P w = .ok (.value (.slice (some ⟨b, o, none⟩) len cap)) (w.freeze ⟨b, cs.length, none⟩ 1) := by
    simp [MOp.sem, Env.ok_ev hk hx, markStringish, hsh, World.freeze]
  rw [hr]
  refine hn _ _ ⟨rfl, ⟨rfl, rfl, rfl, ?_, ?_, Nat.le_refl _⟩, ?_, ?_⟩
  · exact Nat.le_of_eq hWs.symm
  · intro k _ hkb
    exact hWo k (by simpa using hkb)
  · exact hWs
  · intro i v hv
    have this := hWb
    simp [World.cell?, this, hv]
theorem ok_growN {T : TypeId} {z : Array Value} {x y : Operand} {m : Nat} (hx : e.ev x = some (.slice none 0 0)) (hy : e.ev y = some (.int .i64 (m : Int))) (h0 : 0 < m) (hm : m < 2 ^ 40) (hz : z.size = 1) :
    OpOK P (.growN T 1 1 z x y) e w fun v W => ∃ b cap cs, v = .slice (some ⟨b, 0, none⟩) m cap ∧ Blk W b cs ∧ cs.length = cap ∧ m ≤ cap ∧ w.heap.size ≤ b ∧ Ext w W := by
  intro a hk rd d next Q hn
  have hcapn := nextslicecap_le (need := m) (cap := 0) (by omega)
  obtain ⟨nc, hnc⟩ : ∃ nc, Question.cut (.appendCap m 0 T) (w.tape w.drawn (.appendCap m 0 T)) = nc := ⟨_, rfl⟩
  have hge : m ≤ nc := by rw [← hnc]; simp [Question.cut]
  obtain ⟨L1, hL1⟩ : ∃ l : List Value, Builtin.zeroCells z m = l.toArray := ⟨_, Array.toArray_toList.symm⟩
  obtain ⟨L2, hL2⟩ : ∃ l : List Value, Builtin.zeroCells z (nc - m) = l.toArray := ⟨_, Array.toArray_toList.symm⟩
  have hl1 : L1.length = m := by
    have : (Builtin.zeroCells z m).size = L1.length := by rw [hL1]; simp
      
    rw [← this]; simp [Builtin.zeroCells, hz]
  have hl2 : L2.length = nc - m := by
    have : (Builtin.zeroCells z (nc - m)).size = L2.length := by rw [hL2]; simp
    rw [← this]; simp [Builtin.zeroCells, hz]
  have hw : IntKind.i64.wrap (m : Int) = m := wrap_i64 (by omega) (by omega)
  have hrun : (growTo T 1 1 z (.slice none 0 0) (.int .i64 m)).run P w = .ok (.slice (some ⟨w.heap.size, 0, none⟩) m nc) (w.drew.alloc (.cells (L1 ++ L2).toArray T)) := by
    have q1 : ¬ ((m : Int) < 0) := by omega
    have q2 : ¬ ((m : Int) * 1 > 2 ^ 48) := by omega
    have q3 : ¬ (0 + m ≤ 0) := by omega
    have q4 : ¬ (((0 + m : Nat) : Int) > IntKind.i64.max) := by simp [IntKind.max, IntKind.bits, IntKind.signed]; omega
    have q5 : ¬ (Builtin.nextslicecap (0 + m) 0 * 1 > 2 ^ 48) := by rw [Nat.zero_add]; omega
    have q6 : ¬ (m * 1 = 0) := by omega
    have hai : (asInt (.int .i64 (m : Int))).run P w = .ok (m : Int) w := by simp [asInt, asIntOf]
    simp only [growTo, Sem.run_bind, hai, Sem.run_pure, Result.andThen_ok, hw, q1, if_false, Int.natCast_one, q2, Int.toNat_natCast, q3, q4, q5, q6, Sem.run_ite]
    simp [hnc, Question.forced, newRow, hL1, hL2, Builtin.firstCells]
  simp only [MOp.sem, Env.ok_ev hk hx, Env.ok_ev hk hy, Sem.run_bind, hrun, Result.andThen_ok, Sem.run_pure]
  refine hn _ _ ⟨w.heap.size, nc, L1 ++ L2, rfl, alloc_blk w.drew _ T, by simp [hl1, hl2]; omega, hge, Nat.le_refl _, ?_⟩
  exact ((Upd.drew [] w _).trans (Upd.alloc [] _ _)).mono (by simp)
theorem ok_litL {T : TypeId} {m : Nat} {zl : List (Nat × Value)} {ps : List (Nat × Nat × Operand)} {l : List (Nat × Nat × Value)} (cs : List Value) (hp : partsV e ps = some l) (hf : fillL (rleL zl) l = some cs) :
    OpOK P (.mkSlice T m (rle zl) ps) e w fun v W => ∃ b, v = .slice (some ⟨b, 0, none⟩) m m ∧ Blk W b cs ∧ b = w.heap.size ∧ W.heap.size = w.heap.size + 1 ∧ Ext w W := by
  refine (ok_mkSlice hp (fillL_ok l _ cs (by rw [rle_toList]; exact hf))).mono ?_
  rintro v W ⟨rfl, rfl⟩
  exact ⟨w.heap.size, rfl, alloc_blk w cs T, rfl, by simp, Upd.alloc _ _ _⟩
end
end Go.Sp

namespace Go.Sp
theorem splice_all {cs vs : List Value} (h : vs.length = cs.length) : splice cs 0 vs = vs := by
  rw [splice, List.take_zero, List.nil_append, Nat.zero_add, List.drop_eq_nil_of_le (Nat.le_of_eq h.symm), List.append_nil]
theorem filledN_mod (l : List Nat) : (filledN l).length % 128 = 0 := by
  simp [filledN, padN, layN]; omega
theorem layN_len (w : Nat) : (layN w).length = 8 := by simp [layN]
theorem layN_lt (w x : Nat) (h : x ∈ layN w) : x < 256 := by
  simp only [layN, List.mem_map] at h
  obtain ⟨i, _, rfl⟩ := h
  exact Nat.mod_lt _ (by decide)
theorem filledN_lt (l : List Nat) (h : ∀ x ∈ l, x < 256) : ∀ x ∈ filledN l, x < 256 := by
  intro x hx
  simp only [filledN, List.mem_append, List.mem_singleton, List.mem_replicate] at hx
  rcases hx with (((hx | hx) | hx) | hx) | hx
  · exact h x hx
  · omega
  · omega
  · exact layN_lt _ x hx
  · exact layN_lt _ x hx
theorem filledN_len (l : List Nat) : (filledN l).length ≤ l.length + 145 := by
  have : padN l.length < 128 := Nat.mod_lt _ (by decide)
  simp [filledN, layN]; omega
theorem takeN_len {H : List Nat} (hH : H.length = 8) (hr : ∀ b, (roundsN H constW (spreadN b)).length = 8) (l : List Nat) : (takeN H l).length = 8 := by
  rw [takeN, List.length_zipWith, hH, hr]; rfl
theorem roundN_len {v : List Nat} (h : v.length = 8) (k w : Nat) : (roundN v k w).length = 8 := by
  obtain ⟨a, b, c, d, e, f, g, hh, rfl⟩ := list8 h
  rfl
theorem roundsN_len : ∀ (ks ws v : List Nat), v.length = 8 → (roundsN v ks ws).length = 8 := by
  intro ks
  induction ks with
  | nil => intro ws v h; rw [roundsN_nil]; exact h
  | cons k ks ih =>
    intro ws v h
    cases ws with
    | nil => cases v <;> exact h
    | cons w ws => rw [roundsN_cons]; exact ih ws _ (roundN_len h k w)
theorem takeN_length {H : List Nat} (hH : H.length = 8) (l : List Nat) : (takeN H l).length = 8 := takeN_len hH (fun b => roundsN_len _ _ _ hH) l
theorem takeN_lt (H l : List Nat) : ∀ x ∈ takeN H l, x < 18446744073709551616 := by
  have key : ∀ (a b : List Nat), ∀ x ∈ List.zipWith (fun x y => (x + y) % 18446744073709551616) a b, x < 18446744073709551616 := by
    intro a
    induction a with
    | nil => intro b x hx; simp at hx
    | cons y a ih =>
      intro b x hx
      cases b with
      | nil => simp at hx
      | cons z b =>
        simp only [List.zipWith_cons_cons, List.mem_cons] at hx
        rcases hx with rfl | hx
        · exact Nat.mod_lt _ (by decide)
        · exact ih b x hx
  exact key _ _
theorem takesN_ok : ∀ (k : Nat) (H b : List Nat), H.length = 8 → (∀ x ∈ H, x < 18446744073709551616) → (takesN H k b).length = 8 ∧ ∀ x ∈ takesN H k b, x < 18446744073709551616 := by
  intro k
  induction k with
  | zero => intro H b h1 h2; exact ⟨h1, h2⟩
  | succ k ih => intro H b h1 h2; exact ih _ _ (takeN_length h1 _) (takeN_lt _ _)
theorem digestN_len {H : List Nat} (l : List Nat) (hH : H.length = 8) (h64 : ∀ x ∈ H, x < 18446744073709551616) : (digestN H l).length = 64 := by
  obtain ⟨h1, _⟩ := takesN_ok ((filledN l).length / 128) H (filledN l) hH h64
  rw [digestN]
  obtain ⟨a, b, c, d, e, f, g, h, hh⟩ := list8 h1
  rw [hh]
  simp [layN_len]
theorem digestN_lt (H l : List Nat) : ∀ x ∈ digestN H l, x < 256 := by
  intro x hx
  simp only [digestN, List.mem_flatMap] at hx
  obtain ⟨w, _, hw⟩ := hx
  exact layN_lt w x hw
/-- the functions of sha512 -/
structure ShaF (P : Program) where
  gFirst : Nat
  gConst : Nat
  word : Nat
  rot : Nat
  right : Nat
  spread : Nat
  take : Nat
  cloneB : Nat
  lay : Nat
  filled : Nat
  chunk1 : Nat
  chunk : Nat
  digest : Nat
  words : Nat
  sum : Nat
  TS80 : Nat
  T8 : Nat
  TC1 : Nat
  TC2 : Nat
  TL : Nat
  TF : Nat
  TH1 : Nat
  TH2 : Nat
  TH3 : Nat
  T64 : Nat
  TU8 : Nat
  THash : Nat
  E1 : Nat
  h_word : Has P word b_sha512_word
  h_rot : Has P rot b_math_bits_RotateLeft64
  h_right : Has P right (b_sha512_right rot)
  h_spread : Has P spread (b_sha512_spread word right TS80)
  h_take : Has P take (b_sha512_take gFirst gConst spread right T8)
  h_cloneB : Has P cloneB (b_slices_Clone_byte_byte TC1 TC2)
  h_TC1 : P.underlying TC1 = some (.slice E1)
  h_lay : Has P lay (b_sha512_lay TL)
  h_filled : Has P filled (b_sha512_filled cloneB lay TF)
  h_chunk1 : Has P chunk1 b_slices_Chunk_byte_byte_1
  h_chunk : Has P chunk (b_slices_Chunk_byte_byte chunk1 TH1 TH2 TH3)
  h_digest : Has P digest (b_sha512_digest filled chunk take lay T8 T64)
  h_words : Has P words (b_sha512_Words gFirst gConst digest word T8 TU8 T64)
  h_sum : Has P sum (b_sha512_Sum256 words digest THash T64)
/-- where sha512's tables lie -/
structure Tabs {P : Program} (A : ShaF P) (w : World) : Prop where
  first : Mem w A.gFirst 0 (firstW.map u64V)
  const : Mem w A.gConst 0 (constW.map u64V)
theorem Tabs.upd {P : Program} {A : ShaF P} {w w' : World} {l : List Nat} (h : Tabs A w) (hu : Upd l w w') (h1 : A.gFirst ∉ l := by simp) (h2 : A.gConst ∉ l := by simp) : Tabs A w' := ⟨h.first.upd hu h1, h.const.upd hu h2⟩
section
variable {P : Program} {f : Nat} {w : World} (A : ShaF P)
theorem u64cells (H : List Nat) : (Value.agg (H.map u64V).toArray).cells.toList = H.map u64V := by simp [Value.cells]
theorem u64cellok (H : List Nat) : (H.map u64V).all cellValue = true := by
  rw [List.all_eq_true]; intro v hv; simp at hv; obtain ⟨x, _, rfl⟩ := hv; rfl
set_option maxHeartbeats 400000 in
theorem digest_ok (hT : Tabs A w) {v : Value} {H l : List Nat} (hS : SlC w v 1 l.length (l.map u8N)) (hl : l.length < 2 ^ 29) (hb : ∀ x ∈ l, x < 256) (hH : H.length = 8) (h64 : ∀ x ∈ H, x < 18446744073709551616) :
    RetV P A.digest [.agg (H.map u64V).toArray, v] w (.agg ((digestN H l).map u8N).toArray) := by
  refine Ret.of_exec A.h_digest (Nat.le_of_ble_eq_true rfl) fun c hc => ?_
  dsimp only [b_sha512_digest, argEnv, ym, yo, yg, ys, yt, yd, ye]
  refine exec_box rfl rfl ?_
  intro b2 w1 hb2 hs1 hu1 hB2
  rw [u64cells] at hB2
  refine exec_new rfl ?_
  intro b4 w2 hb4 hs2 hu2 hB4
  rw [rle_toList, rleL_one] at hB4
  refine xr 1 rfl ?_
  refine xca rfl rfl (filled_ok A.h_cloneB A.h_TC1 A.h_lay A.h_filled (hS.upd (hu1.trans hu2) (by simp)) (by omega)) ?_
  rintro v1 w3 ⟨hO, hu3, hf3⟩
  have hlen := filledN_mod l
  have hlen2 := filledN_len l
  have hlen0 : 0 < (filledN l).length := by simp [filledN]; omega
  have hfl := filledN_lt l hb
  have hdig : digestN H l = (takesN H ((filledN l).length / 128) (filledN l)).flatMap layN := rfl
  obtain ⟨htk1, htk2⟩ := takesN_ok ((filledN l).length / 128) H (filledN l) hH h64
  generalize filledN l = B at *
  obtain ⟨K, hK⟩ : ∃ K, K = B.length / 128 := ⟨_, rfl⟩
  have hBK : B.length = 128 * K := by omega
  rw [← hK] at hdig htk1 htk2
  rcases hO with ⟨_, h0, _⟩ | ⟨bF, cap, rest, rfl, hBF, hF1, hF2, hF3⟩
  · omega
  have hMF : Mem w3 bF 0 (B.map u8N) := hBF.mem 0 (fun i v hi => by rw [Nat.zero_add, List.getElem?_append_left (by have := (List.getElem?_eq_some_iff.1 hi).1; exact this)]; exact hi)
  have hbF := hf3 bF (by simp [blkOf])
  have hbFlt := hBF.lt
  refine xca rfl rfl (chunk_ok A.h_chunk _ rfl) ?_
  rintro v2 w4 ⟨bs, bn, rfl, hBs, hBn, hbs, hbn, hu4⟩
  refine xr 1 rfl ?_
  have z1 := hu1.size
  have z2 := hu2.size
  have z3 := hu3.size
  have z4 := hu4.size
  have j2 := ((hB2.upd hu2).upd hu3).upd hu4
  have j4 := (hB4.upd hu3).upd hu4
  have jF := hMF.upd hu4
  have jE : Ext w w4 := ((hu1.trans hu2).trans hu3).trans hu4
  have l2 := j2.lt
  have l4 := j4.lt
  have lF : bF < w4.heap.size := by omega
  refine exec_rangeF (S := Unit) rfl A.h_chunk1.enters hc.rd [bs, bn] [] (fun k => [chunkV bF k]) (List.range K)
    (fun W hu => chunk1_ok A.h_chunk1 (hBs.upd hu) (hBn.upd hu) hBK hF3 (by omega)) (chunkV bF) (fun _ => rfl) rfl
    w.heap.size [] (fun _ => [b2, b4, bF])
    (fun k _ W => Ext w W ∧ Blk W b4 (List.replicate 64 (.int .u8 0)) ∧ Mem W bF 0 (B.map u8N) ∧ ∃ cur : List Nat, cur.length = 8 ∧ (∀ x ∈ cur, x < 18446744073709551616) ∧ k ≤ K ∧ takesN cur (K - k) (B.drop (128 * k)) = takesN H K B ∧ Blk W b2 (cur.map u64V))
    (fun _ _ _ => False) () ?_ ?_ ?_ ?_ ?_ ?_ ?_ (fun _ => rfl) rfl ?_ ?_ ?_
  · rintro k _ W W' l' ⟨q1, q2, q3, cur, q4, q5, q6, q7, q8⟩ hu hb
    have nn : ∀ x, x ∈ [b2, b4, bF] → x ∉ l' := fun x hx hm => (hb x hm).2 hx
    exact ⟨q1.trans hu (fun b hb' => .inr (hb b hb').1), q2.upd hu (nn _ (by simp)), q3.upd hu (nn _ (by simp)), cur, q4, q5, q6, q7, q8.upd hu (nn _ (by simp))⟩
  · rintro cd _ W W' l' h; exact h.elim
  · exact ⟨jE, j4, jF, H, hH, h64, Nat.zero_le _, by simp, j2⟩
  · omega
  · intro b' hb'
    simp only [List.nil_append, List.mem_cons, List.not_mem_nil, or_false] at hb'
    rcases hb' with h | h | h <;> omega
  · simp
  · intro b' hb'
    simp only [List.mem_cons, List.not_mem_nil, or_false] at hb'
    have hbs' := hBs.lt
    have hbn' := hBn.lt
    rcases hb' with rfl | rfl
    · exact ⟨hbs', by simp, by simp; omega⟩
    · exact ⟨hbn', by simp, by simp; omega⟩
  · rintro y c' k _ W k' hc' ⟨q1, q2, q3, cur, q4, q5, q6, q7, q8⟩ hk' hlw hnw
    have hkk : k' = k ∧ k < K := by
      have h1 := (List.getElem?_eq_some_iff.1 hk')
      obtain ⟨h2, h3⟩ := h1
      simp at h2 h3
      exact ⟨h3.symm, h2⟩
    obtain ⟨rfl, hkK⟩ := hkk
    refine xbk ?_
    refine exec_loadN (b := b2) (o := 0) (vs := cur.map u64V) rfl rfl q8.memAll (by simp [q4]) ?_
    refine xr 1 rfl ?_
    have hmem : Mem W bF (128 * k') (((B.drop (128 * k')).take 128).map u8N) := by
      have := q3.sub (128 * k') (us := ((B.drop (128 * k')).take 128).map u8N) (fun i v hi => by
        rw [List.getElem?_map] at hi ⊢
        rw [List.getElem?_take] at hi
        split at hi
        · rw [List.getElem?_drop] at hi; exact hi
        · simp at hi)
      rw [Nat.zero_add] at this; exact this
    have hcl : ((B.drop (128 * k')).take 128).length = 128 := by
      have : 128 * (k' + 1) ≤ 128 * K := Nat.mul_le_mul_left _ hkK
      simp; omega
    refine xca rfl rfl (take_ok A.h_word A.h_right A.h_rot A.h_spread A.h_take (hT.const.upd q1) hmem hcl rfl (Nat.le_refl _) (fun x hx => hfl x (List.mem_of_mem_drop (List.mem_of_mem_take hx))) q4 q5) ?_
    rintro v W1 ⟨rfl, hv1⟩
    refine exec_store (b := b2) (o := 0) (v := .agg ((takeN cur ((B.drop (128 * k')).take 128)).map u64V).toArray) rfl rfl (q8.upd hv1) (by simp [Value.cells, takeN_length q4]) (by simp [q4]) (by rw [u64cells]; exact u64cellok _) ?_
    intro W2 hv2 _ hB2'
    have hnew : splice (cur.map u64V) 0 (Value.agg ((takeN cur ((B.drop (128 * k')).take 128)).map u64V).toArray).cells.toList = (takeN cur ((B.drop (128 * k')).take 128)).map u64V := by
      rw [u64cells]; exact splice_all (by simp [q4, takeN_length q4])
    rw [hnew] at hB2'
    refine xr 2 rfl ?_
    have hb24 : b2 ≠ b4 ∧ b2 ≠ bF := by omega
    refine exec_round_end hc' ⟨(), ⟨(q1.trans hv1).trans hv2 (fun b hb => .inr (by simp at hb; omega)), (q2.upd hv1).upd hv2 (by simp; omega), (q3.upd hv1).upd hv2 (by simp; omega), takeN cur ((B.drop (128 * k')).take 128), takeN_length q4 _, takeN_lt _ _, hkK, ?_, hB2'⟩, ?_, ?_, ?_⟩
    · rw [← q7, show K - k' = (K - (k' + 1)) + 1 by omega]
      show _ = takesN (takeN cur ((B.drop (128 * k')).take 128)) (K - (k' + 1)) ((B.drop (128 * k')).drop 128)
      rw [List.drop_drop]
      congr 2
    · exact (hv1.mono (m := [] ++ [b2, b4, bF]) (by simp)).trans (hv2.mono (m := [] ++ [b2, b4, bF]) (by simp)) (by simp)
    · intro b' hb'; exact .inl hb'
    · intro b' hb'
      have := hlw b' (by simpa using hb')
      have := hv1.size
      have := hv2.size
      omega
  · rintro D0 _ W hD0 ⟨q1, q2, q3, cur, q4, q5, q6, q7, q8⟩ hDm hDn
    rw [List.length_range] at q7
    have hcur : cur = takesN H K B := by rw [← q7]; simp [takesN]
    have hDlt := (Array.getElem?_eq_some_iff.1 hDm).1
    have hDn' : D0 ≠ b2 ∧ D0 ≠ b4 ∧ D0 ≠ bF := by simpa using hDn
    refine xr 3 rfl ?_
    refine exec_loadN (b := b2) (o := 0) (vs := cur.map u64V) rfl rfl q8.memAll (by simp [q4]) ?_
    refine xr 2 rfl ?_
    rw [← hcur] at hdig
    have hdlen : (digestN H l).length = 64 := digestN_len l hH h64
    refine xlo (S := Nat × Value) (fun s V => s.1 ≤ 8 ∧ OwnC V s.2 1 ((cur.take s.1).flatMap layN).length (((cur.take s.1).flatMap layN).map u8N) ∧ Ext W V ∧ ∀ b ∈ blkOf s.2, W.heap.size ≤ b)
      (fun s => [(4, ptrV' b4), (6, s.2), (16, .agg (cur.map u64V).toArray), (17, intV' s.1)]) (fun s => 8 - s.1) (0, .slice none 0 0) ⟨by show 0 ≤ 8; omega, .inl ⟨rfl, rfl, rfl⟩, Upd.refl _ _, by simp [blkOf]⟩ ⟨rfl, rfl, rfl, rfl, trivial⟩ ?_
    rintro ⟨j, out⟩ V ⟨j1, jO, jU, jf⟩
    simp only at j1 jO jf
    skip
    by_cases hj8 : j < 8
    · refine xpu (pv_lssI (a := j) (b := 8) (q := true) rfl rfl (by simpa using hj8)) rfl ?_
      refine xr 3 rfl ?_
      obtain ⟨x, hx⟩ : ∃ x, cur[j]? = some x := ⟨_, List.getElem?_eq_getElem (by omega)⟩
      refine xju (ok_idx1 (v := u64V x) rfl rfl j rfl hj8 (by simp [hx])) rfl ?_
      refine xr 3 rfl ?_
      have hlj : ((cur.take j).flatMap layN).length ≤ 64 := by
        have : ∀ L : List Nat, (L.flatMap layN).length = 8 * L.length := by
          intro L
          induction L with
          | nil => rfl
          | cons a L ih => simp only [List.flatMap_cons, List.length_append, List.length_cons, layN_len, ih]; omega
        rw [this]; simp; omega
      refine xca rfl rfl (lay_ok A.h_lay x jO (by omega) (q5 x (List.mem_of_getElem? hx))) ?_
      rintro v W1 ⟨hO1, hv1, hf1⟩
      refine xr 3 rfl ?_
      refine xpu (pv_addI (a := j) (b := 1) rfl rfl (by omega)) rfl ?_
      refine xr 1 rfl ?_
      have htj : cur.take (j + 1) = cur.take j ++ [x] := by rw [List.take_add_one, hx]; rfl
      have hfm : (cur.take (j + 1)).flatMap layN = (cur.take j).flatMap layN ++ layN x := by rw [htj, List.flatMap_append]; simp
      have hjs := jU.size
      refine xag (j + 1, v) ⟨hj8, ?_, jU.trans hv1 (fun b hb => .inr (jf b hb)), ?_⟩ (by show 8 - (j + 1) < 8 - j; omega) ⟨rfl, rfl, rfl, rfl, trivial⟩
      · show OwnC W1 v 1 ((cur.take (j + 1)).flatMap layN).length _
        rw [hfm, List.length_append, layN_len]; exact hO1
      · intro b hb
        rcases hf1 b hb with h | h
        · exact jf b h
        · omega
    · refine xpu (pv_lssI (a := j) (b := 8) (q := false) rfl rfl (by simpa using hj8)) rfl ?_
      have : j = 8 := by omega
      subst this
      refine xr 4 rfl ?_
      have e8 : cur.take 8 = cur := List.take_of_length_le (by omega)
      rw [e8, ← hdig, hdlen] at jO
      rcases jO with ⟨_, h0, _⟩ | ⟨bo, cap', rest', rfl, hBo, ho1, ho2, ho3⟩
      · cases h0
      have hbo := jf bo (by simp [blkOf])
      refine xju (ok_s2arr rfl (by omega)) rfl ?_
      have hmo : Mem V bo 0 ((digestN H l).map u8N) := hBo.mem 0 (fun i v hi => by rw [Nat.zero_add, List.getElem?_append_left (by have := (List.getElem?_eq_some_iff.1 hi).1; exact this)]; exact hi)
      refine exec_loadN (b := bo) (o := 0) (vs := (digestN H l).map u8N) rfl rfl hmo (by simp [hdlen]) ?_
      have hbl4 := q2.lt
      refine exec_store (b := b4) (o := 0) (v := .agg ((digestN H l).map u8N).toArray) rfl rfl (q2.upd jU) (by simp [Value.cells, hdlen]) (by simp) (by simp only [Value.cells]; exact u8N_cell _) ?_
      intro V2 hv2 _ hB4'
      have hnew : splice (List.replicate 64 (Value.int .u8 0)) 0 (Value.agg ((digestN H l).map u8N).toArray).cells.toList = (digestN H l).map u8N := by
        exact splice_all (by simp [Value.cells, hdlen])
      rw [hnew] at hB4'
      have hDV : V2.heap[D0]? = some (.deferred (some [])) := (hv2.block D0 (by have := jU.size; omega) (by simp; omega)).trans ((jU.block D0 hDlt (by simp)).trans hDm)
      refine exec_returnM hc [D0] rfl (by simp) (by simpa using hDV) [.agg ((digestN H l).map u8N).toArray] fun W' hu' hs' => ?_
      refine ⟨⟨⟨b4, 0, _, rfl, (hB4'.upd hu' (by simp; omega)).memAll, by simp [hdlen], rfl⟩, trivial⟩, rfl, ?_⟩
      have hz4 := hu4.size
      exact ((q1.trans jU).trans hv2 (fun b hb => .inr (by simp at hb; omega))).trans hu' (fun b hb => .inr (by simp at hb; omega))
  · rintro cd D0 _ W hD0 h; exact h.elim
end
end Go.Sp

namespace Go.Sp
def firstX : List Nat := firstW.map (· ^^^ 11936128518282651045)
def nameN : List Nat := [83, 72, 65, 45, 53, 49, 50, 47, 50, 53, 54]
theorem firstX_lt : ∀ x ∈ firstX, x < 18446744073709551616 := by decide
theorem firstW_lt : ∀ x ∈ firstW, x < 18446744073709551616 := by decide
theorem wordsN_eq : wordsN = (List.range 8).map fun i => wordN (((digestN firstX nameN).drop (8 * i)).take 8) := rfl
theorem wordsN_len : wordsN.length = 8 := by rw [wordsN_eq]; simp
theorem wordsN_lt : ∀ x ∈ wordsN, x < 18446744073709551616 := by
  intro x hx
  rw [wordsN_eq] at hx
  simp only [List.mem_map] at hx
  obtain ⟨i, _, rfl⟩ := hx
  exact wordN_lt _ fun y hy => digestN_lt _ _ y (List.mem_of_mem_drop (List.mem_of_mem_take hy))
section
variable {P : Program} {f : Nat} {w : World} (A : ShaF P)
set_option maxHeartbeats 400000 in
theorem words_ok (hT : Tabs A w) : RetV P A.words [] w (.agg (wordsN.map u64V).toArray) := by
  have hdl : (digestN firstX nameN).length = 64 := digestN_len _ rfl firstX_lt
  have hdlt := digestN_lt firstX nameN
  have hwl := wordsN_len
  have hwi : ∀ j, j < 8 → wordsN[j]? = some (wordN (((digestN firstX nameN).drop (8 * j)).take 8)) := by
    intro j hj
    rw [wordsN_eq, List.getElem?_map, List.getElem?_range hj]; rfl
  refine Ret.of_exec A.h_words (Nat.le_of_ble_eq_true rfl) fun c hc => ?_
  dsimp only [b_sha512_Words, argEnv, ym, yo, yg, ys, yt, yd, ye]
  refine exec_new rfl ?_
  intro b0 w1 hb0 hs1 hu1 hB0
  rw [rle_toList, rleL_one] at hB0
  refine exec_loadN (b := A.gFirst) (o := 0) (vs := firstW.map u64V) rfl rfl (hT.first.upd hu1) rfl ?_
  refine exec_new_store (v := .agg (firstW.map u64V).toArray) rfl rfl rfl rfl rfl (by rw [u64cells]; exact u64cellok _) ?_
  intro b1 w2 hb1 hs2 hu2 hB1
  rw [u64cells] at hB1
  have hne01 : b0 ≠ b1 := by omega
  refine xr 2 rfl ?_
  refine exec_inner_join (S := Unit) (fun _ V => Ext w V ∧ Blk V b0 (List.replicate 8 (.int .u64 0)) ∧ Blk V b1 (firstX.map u64V)) (fun _ => [(0, ptrV' b0), (1, ptrV' b1)]) ?_ ?_
  · refine xlo (S := Nat) (fun j V => j ≤ 8 ∧ Ext w V ∧ Blk V b0 (List.replicate 8 (.int .u64 0)) ∧ Blk V b1 (List.zipWith (fun x _ => u64V (x ^^^ 11936128518282651045)) (firstW.take j) (firstW.take j) ++ (firstW.drop j).map u64V))
      (fun j => [(0, ptrV' b0), (1, ptrV' b1), (6, intV' j)]) (fun j => 8 - j) 0 ⟨by omega, hu1.trans hu2, hB0.upd hu2, hB1⟩ ⟨rfl, rfl, rfl, trivial⟩ ?_
    rintro j V ⟨j1, jU, j0, jB⟩
    skip
    by_cases hj8 : j < 8
    · refine xpu (pv_lssI (a := j) (b := 8) (q := true) rfl rfl (by simpa using hj8)) rfl ?_
      refine xr 6 rfl ?_
      obtain ⟨xx, yy, hxx, hyy, hsp⟩ := zip_step (fun x _ => u64V (x ^^^ 11936128518282651045)) u64V firstW firstW rfl rfl j hj8
      have hlen : (List.zipWith (fun x _ => u64V (x ^^^ 11936128518282651045)) (firstW.take j) (firstW.take j) ++ (firstW.drop j).map u64V).length = 8 := by
        simp [firstW]; omega
      have hxl : xx < 18446744073709551616 := by
        rw [Nat.zero_add, Nat.mul_one, List.getElem?_append_right (by simp [firstW]; omega)] at hxx
        have := List.mem_of_getElem? hxx
        simp only [List.mem_map] at this
        obtain ⟨y, hy1, hy2⟩ := this
        have e : y = xx := by simp [u64V] at hy2; omega
        exact firstW_lt _ (e ▸ List.mem_of_mem_drop hy1)
      refine xju (ok_iaddrA (b := b1) (o := 0) rfl rfl j rfl hj8) rfl ?_
      refine exec_load1 (b := b1) (o := 0 + j * 1) (v := u64V xx) rfl rfl (jB.cell hxx) ?_
      refine xpu (pv_xorU (a := xx) (b := 11936128518282651045) rfl rfl hxl (by omega)) rfl ?_
      refine xju (ok_iaddrA (b := b1) (o := 0) rfl rfl j rfl hj8) rfl ?_
      refine exec_store (b := b1) (o := 0 + j * 1) (v := u64V (xx ^^^ 11936128518282651045)) rfl rfl jB rfl (by rw [hlen]; omega) rfl ?_
      intro V2 hv2 _ hB2
      refine xr 2 rfl ?_
      refine xpu (pv_addI (a := j) (b := 1) rfl rfl (by omega)) rfl ?_
      refine xr 1 rfl ?_
      refine xag (j + 1) ⟨by omega, jU.trans hv2 (fun b hb => .inr (by simp at hb; omega)), j0.upd hv2 (by simp; omega), ?_⟩ (by show 8 - (j + 1) < 8 - j; omega) ⟨rfl, rfl, rfl, trivial⟩
      have e1 : (Value.cells (u64V (xx ^^^ 11936128518282651045))).toList = [u64V (xx ^^^ 11936128518282651045)] := rfl
      rw [e1, hsp] at hB2; exact hB2
    · refine xpu (pv_lssI (a := j) (b := 8) (q := false) rfl rfl (by simpa using hj8)) rfl ?_
      have : j = 8 := by omega
      subst this
      refine xr 2 rfl ?_
      exact exec_meet () ⟨jU, j0, jB⟩ ⟨rfl, rfl, trivial⟩
  rintro _ V ⟨jU, j0, jB⟩
  refine exec_loadN (b := b1) (o := 0) (vs := firstX.map u64V) rfl rfl jB.memAll rfl ?_
  refine exec_litL (N := 1) (cs := nameN.map u8N) rfl rfl rfl rfl ?_
  intro bn V1 hbn hv1s hv1 hO1
  have jz := jU.size
  have j1lt := jB.lt
  have j0lt := j0.lt
  rcases hO1 with ⟨h, _⟩ | ⟨b', cap', rest', hv, hBn, _⟩
  · cases h
  cases hv
  refine exec_ok (ok_b2b rfl hBn) rfl ?_
  rintro v V2 ⟨rfl, hv2, hs2, hM2⟩
  have hv12 : Ext V V2 := hv1.trans hv2 (fun b hb => .inr (by simp at hb; omega))
  have hSn : SlC V2 (.slice (some ⟨bn, 0, none⟩) 11 11) 1 nameN.length (nameN.map u8N) := .inr ⟨bn, 0, 11, rfl, hM2.sub 0 (fun i v hi => by
    rw [Nat.zero_add, List.getElem?_append_left (by have := (List.getElem?_eq_some_iff.1 hi).1; simpa [nameN] using this)]; exact hi), rfl, by decide⟩
  refine xca rfl rfl (digest_ok A (hT.upd (jU.trans hv12)) (H := firstX) (l := nameN) hSn (by decide) (by decide) rfl firstX_lt) ?_
  rintro v V3 ⟨rfl, hv3⟩
  refine exec_new_store (v := .agg ((digestN firstX nameN).map u8N).toArray) rfl rfl rfl (by simp [Value.cells, hdl]) rfl (by simp only [Value.cells]; exact u8N_cell _) ?_
  intro b3 V4 hb3 hs4 hv4 hB3
  have hB3' : Blk V4 b3 ((digestN firstX nameN).map u8N) := by simpa [Value.cells] using hB3
  generalize digestN firstX nameN = dg at *
  refine xr 2 rfl ?_
  have z12 := hv12.size
  have z3 := hv3.size
  have k0 := ((j0.upd hv12).upd hv3).upd hv4
  have k1 := ((jB.upd hv12).upd hv3).upd hv4
  refine xlo (S := Nat) (fun j W => j ≤ 8 ∧ Upd [b1] V4 W ∧ Blk W b1 (List.zipWith (fun _ y => u64V y) (firstX.take j) (wordsN.take j) ++ (firstX.drop j).map u64V))
    (fun j => [(0, ptrV' b0), (1, ptrV' b1), (3, ptrV' b3), (19, intV' j)]) (fun j => 8 - j) 0 ⟨by omega, Upd.refl _ _, k1⟩ ⟨rfl, rfl, rfl, rfl, trivial⟩ ?_
  rintro j W ⟨q1, qU, qB⟩
  skip
  by_cases hj8 : j < 8
  · refine xpu (pv_lssI (a := j) (b := 8) (q := true) rfl rfl (by simpa using hj8)) rfl ?_
    refine xr 7 rfl ?_
    refine xpu (pv_mulI (a := 8) (b := j) rfl rfl (by omega)) rfl ?_
    refine xju (ok_slA (b := b3) (o := 0) (8 * j) 64 rfl ⟨.i64, rfl⟩ rfl (by omega) (by omega)) rfl ?_
    have hM3 : Mem W b3 0 (dg.map u8N) := (hB3'.upd qU (by simp; omega)).memAll
    have hSl : SlC W (.slice (some ⟨b3, 0 + 8 * j * 1, none⟩) (64 - 8 * j) (64 - 8 * j)) 1 (64 - 8 * j) ((dg.drop (8 * j)).map u8N) := by
      refine .inr ⟨b3, 0 + 8 * j * 1, 64 - 8 * j, rfl, ?_, by simp [hdl], Nat.le_refl _⟩
      have := hM3.sub (8 * j) (us := (dg.drop (8 * j)).map u8N) (fun i v hi => by rw [List.getElem?_map] at hi ⊢; rw [List.getElem?_drop] at hi; exact hi)
      rwa [Nat.mul_one]
    rw [if_neg (show ¬ 64 = 8 * j by omega)]
    refine xca rfl rfl (word_ok A.h_word hSl (by simp [hdl]; omega) (by simp [hdl]) (fun x hx => hdlt x (List.mem_of_mem_drop hx))) ?_
    rintro v W1 ⟨rfl, hw1⟩
    refine xju (ok_iaddrA (b := b1) (o := 0) rfl rfl j rfl hj8) rfl ?_
    obtain ⟨xx, yy, hxx, hyy, hsp⟩ := zip_step (fun _ y => u64V y) u64V firstX wordsN rfl hwl j hj8
    have hyv : yy = wordN ((dg.drop (8 * j)).take 8) := by
      rw [Nat.zero_add, Nat.mul_one, List.getElem?_map, hwi j hj8] at hyy
      simp [u64V] at hyy; omega
    have hlen : (List.zipWith (fun _ y => u64V y) (firstX.take j) (wordsN.take j) ++ (firstX.drop j).map u64V).length = 8 := by
      have : firstX.length = 8 := rfl
      simp [hwl, this]; omega
    rw [← hyv]
    refine exec_store (b := b1) (o := 0 + j * 1) (v := u64V yy) rfl rfl (qB.upd hw1) rfl (by rw [hlen]; omega) rfl ?_
    intro W2 hw2 _ hB2
    refine xr 2 rfl ?_
    refine xpu (pv_addI (a := j) (b := 1) rfl rfl (by omega)) rfl ?_
    refine xr 1 rfl ?_
    refine xag (j + 1) ⟨by omega, (qU.trans hw1 (by simp)).trans hw2 (by simp), ?_⟩ (by show 8 - (j + 1) < 8 - j; omega) ⟨rfl, rfl, rfl, rfl, trivial⟩
    have e1 : (Value.cells (u64V yy)).toList = [u64V yy] := rfl
    rw [e1, hsp] at hB2; exact hB2
  · refine xpu (pv_lssI (a := j) (b := 8) (q := false) rfl rfl (by simpa using hj8)) rfl ?_
    have : j = 8 := by omega
    subst this
    refine xr 3 rfl ?_
    have hlast : List.zipWith (fun _ y => u64V y) (firstX.take 8) (wordsN.take 8) ++ (firstX.drop 8).map u64V = wordsN.map u64V := by
      obtain ⟨a, b, c', d, e, f', g, h, hh⟩ := list8 hwl
      rw [hh]; rfl
    rw [hlast] at qB
    refine exec_loadN (b := b1) (o := 0) (vs := wordsN.map u64V) rfl rfl qB.memAll (by simp [hwl]) ?_
    refine exec_store (b := b0) (o := 0) (v := .agg (wordsN.map u64V).toArray) rfl rfl (k0.upd qU (by simp; omega)) (by simp [Value.cells, hwl]) (by simp) (by rw [u64cells]; exact u64cellok _) ?_
    intro W2 hw2 _ hB2
    rw [u64cells, splice_all (by simp [hwl])] at hB2
    refine xre hc [_] ⟨⟨b0, 0, _, rfl, hB2.memAll, by simp [hwl], rfl⟩, trivial⟩ ⟨rfl, ?_⟩
    have e1 : Ext w V4 := ((jU.trans hv12).trans hv3).trans hv4
    exact (e1.trans qU (fun b hb => .inr (by simp at hb; omega))).trans hw2 (fun b hb => .inr (by simp at hb; omega))
theorem sum_ok (hT : Tabs A w) {v : Value} {l : List Nat} (hS : SlC w v 1 l.length (l.map u8N)) (hl : l.length < 2 ^ 29) (hb : ∀ x ∈ l, x < 256) : RetV P A.sum [v] w (.agg ((sum256N l).map u8N).toArray) := by
  have hdl : (digestN wordsN l).length = 64 := digestN_len _ wordsN_len wordsN_lt
  refine Ret.of_exec A.h_sum (Nat.le_of_ble_eq_true rfl) fun c hc => ?_
  dsimp only [b_sha512_Sum256, argEnv, ym, yo, yg, ys, yt, yd, ye]
  refine exec_new rfl ?_
  intro b0 w1 hb0 hs1 hu1 hB0
  rw [rle_toList, rleL_one] at hB0
  refine xca rfl rfl (words_ok A (hT.upd hu1)) ?_
  rintro _ w2 ⟨rfl, hu2⟩
  refine xr 1 rfl ?_
  have hu12 := hu1.trans hu2
  refine xca rfl rfl (digest_ok A (hT.upd hu12) (hS.upd hu12 (by simp)) hl hb wordsN_len wordsN_lt) ?_
  rintro _ w3 ⟨rfl, hu3⟩
  have hsum : sum256N l = (digestN wordsN l).take 32 := rfl
  generalize digestN wordsN l = dg at *
  refine exec_new_store (v := .agg (dg.map u8N).toArray) rfl rfl rfl (by simp [Value.cells, hdl]) rfl (by simp only [Value.cells]; exact u8N_cell _) ?_
  intro b3 w4 hb3 hs4 hu4 hB3
  have hB3' : Blk w4 b3 (dg.map u8N) := by simpa [Value.cells] using hB3
  refine xju (ok_slA (b := b3) (o := 0) 0 32 rfl rfl ⟨.i64, rfl⟩ (by omega) (by omega)) rfl ?_
  refine xju (ok_s2arr rfl (by omega)) rfl ?_
  have hM : Mem w4 b3 (0 + 0 * 1) ((sum256N l).map u8N) := by
    rw [hsum]
    exact hB3'.mem _ (fun i v hi => by
      rw [List.getElem?_map, List.getElem?_take] at hi
      split at hi
      · rw [List.getElem?_map]; simpa using hi
      · simp at hi)
  have hsl : (sum256N l).length = 32 := by rw [hsum]; simp [hdl]
  refine exec_loadN (b := b3) (o := 0 + 0 * 1) (vs := (sum256N l).map u8N) rfl rfl hM (by simp [hsl]) ?_
  have z1 := hu1.size
  have z2 := hu2.size
  have z3 := hu3.size
  refine exec_store (b := b0) (o := 0) (v := .agg ((sum256N l).map u8N).toArray) rfl rfl (((hB0.upd hu2).upd hu3).upd hu4) (by simp [Value.cells, hsl]) (by simp) (by simp only [Value.cells]; exact u8N_cell _) ?_
  intro w5 hu5 _ hB5
  have e5 : (Value.agg ((sum256N l).map u8N).toArray).cells.toList = (sum256N l).map u8N := by simp [Value.cells]
  rw [e5, splice_all (by simp [hsl])] at hB5
  refine xre hc [_] ⟨⟨b0, 0, _, rfl, hB5.memAll, by simp [hsl], rfl⟩, trivial⟩ ⟨rfl, ?_⟩
  exact ((hu12.trans hu3).trans hu4).trans hu5 (fun b hb => .inr (by simp at hb; omega))
end
end Go.Sp

namespace Go.Sp
def bytesN (h : Hash) : List Nat := h.1.map UInt8.toNat
def pairN (l r : Hash) : List Nat := 1 :: (bytesN l ++ bytesN r)
def toHash (l : List Nat) (h : l.length = 32) : Hash := ⟨l.map UInt8.ofNat, by simp [h]⟩
theorem sum256N_len (l : List Nat) : (sum256N l).length = 32 := by
  rw [sum256N, List.length_take, digestN_len _ wordsN_len wordsN_lt]; rfl
theorem sum256N_lt (l : List Nat) : ∀ x ∈ sum256N l, x < 256 := fun x hx => digestN_lt _ _ x (List.mem_of_mem_take hx)
/-- the hash of some bytes -/
def shaH (l : List Nat) : Hash := toHash (sum256N l) (sum256N_len l)
/-- the hash of a pair -/
def parH (l r : Hash) : Hash := shaH (pairN l r)
theorem bytesN_len (h : Hash) : (bytesN h).length = 32 := by simp [bytesN, h.2]
theorem bytesN_lt (h : Hash) : ∀ x ∈ bytesN h, x < 256 := by
  intro x hx; simp only [bytesN, List.mem_map] at hx; obtain ⟨b, _, rfl⟩ := hx; exact b.toNat_lt
theorem bytesN_cells (h : Hash) : (bytesN h).map u8N = hC h := by simp [bytesN, hC, u8N, byteV]
theorem pairN_len (l r : Hash) : (pairN l r).length = 65 := by simp [pairN, bytesN_len]
theorem pairN_lt (l r : Hash) : ∀ x ∈ pairN l r, x < 256 := by
  intro x hx
  simp only [pairN, List.mem_cons, List.mem_append] at hx
  rcases hx with rfl | hx | hx
  · omega
  · exact bytesN_lt l x hx
  · exact bytesN_lt r x hx
theorem toHash_cells {l : List Nat} (h : l.length = 32) (hb : ∀ x ∈ l, x < 256) : hC (toHash l h) = l.map u8N := by
  simp only [hC, toHash, List.map_map]
  refine List.map_congr_left fun x hx => ?_
  have := hb x hx
  simp only [Function.comp, byteV, u8N, Value.int.injEq, true_and]
  rw [UInt8.toNat_ofNat']
  omega
theorem shaH_val (l : List Nat) : Value.agg ((sum256N l).map u8N).toArray = hV (shaH l) := by
  rw [hV, shaH, toHash_cells _ (sum256N_lt l)]
/-- the functions of leaf that pairs go through -/
structure LeafF (P : Program) extends ShaF P where
  growB : Nat
  concat : Nat
  pairText : Nat
  parent : Nat
  TG1 : Nat
  TG2 : Nat
  TK1 : Nat
  TK2 : Nat
  TP1 : Nat
  TP2 : Nat
  TP3 : Nat
  TPH : Nat
  h_growB : Has P growB (b_slices_Grow_byte_byte TG1 TG2)
  h_concat : Has P concat (b_slices_Concat_byte_byte growB TK1 TK2)
  h_pairText : Has P pairText (b_leaf_PairText concat TP1 TP2 TP3)
  h_parent : Has P parent (b_leaf_Parent pairText sum TPH)
section
variable {P : Program} {f : Nat} {w : World} (A : LeafF P)
/-- room for m bytes, of a slice that is nil -/
theorem growB_ok (m : Nat) (h0 : 0 < m) (hm : m < 2 ^ 40) : Ret P A.growB [.slice none 0 0, intV' m] w fun v w' => OwnC w' v 1 0 [] ∧ Ext w w' ∧ ∀ b ∈ blkOf v, w.heap.size ≤ b := by
  refine Ret.of_exec A.h_growB (Nat.le_of_ble_eq_true rfl) fun c hc => ?_
  dsimp only [b_slices_Grow_byte_byte, argEnv, ym, yo, yg, ys, yt, yd, ye]
  refine xr 2 rfl ?_
  refine xpu (pv_lssI (a := m) (b := 0) (q := false) rfl rfl (by simp)) rfl ?_
  refine xr 4 rfl ?_
  refine xju (ok_capS (a := none) (len := 0) (cap := 0) rfl) rfl ?_
  refine xr 2 rfl ?_
  refine xpu (pv_subI (a := 0) (b := 0) rfl rfl (by omega) (by omega)) rfl ?_
  refine xpu (pv_subI (a := m) (b := 0) rfl rfl (by omega) (by omega)) rfl ?_
  refine xr 2 rfl ?_
  refine xpu (pv_gtrI (a := m - 0) (b := 0) (q := true) rfl rfl (by simpa using h0)) rfl ?_
  refine xr 3 rfl ?_
  refine xju (ok_capS (a := none) (len := 0) (cap := 0) rfl) rfl ?_
  refine xju (ok_slS_nil rfl trivial ⟨.i64, rfl⟩) rfl ?_
  refine xr 1 rfl ?_
  refine exec_ok (ok_growN (m := m) rfl rfl h0 hm rfl) rfl ?_
  rintro v W ⟨b, cap, cs, rfl, hB, hl, hc1, hb, hu⟩
  refine xr 2 rfl ?_
  refine xju (ok_slS (N := 1) (b := b) (o := 0) (len := m) (cap := cap) 0 0 rfl rfl ⟨.i64, rfl⟩ (by omega) (by omega)) rfl ?_
  refine xr 4 rfl ?_
  refine xre hc [_] ⟨rfl, trivial⟩ ⟨.inr ⟨b, cap, cs, ?_, by simpa using hB, by simp, by simpa using hl, by omega⟩, hu, ?_⟩
  · by_cases h : cap = 0
    · simp [single, h]
    · simp [single]
  · intro b' hb'
    have : b' = b := by
      by_cases h : cap = 0
      · simp [single, h, blkOf] at hb'; exact hb'
      · simp [single, blkOf] at hb'; exact hb'
    omega
theorem flat3 (l : List (List Nat)) (i : Nat) (x : List Nat) (h : l[i]? = some x) : (l.take (i + 1)).flatten = (l.take i).flatten ++ x := by
  rw [List.take_add_one, h]; simp
/-- some bytes, one behind the other -/
theorem concat_ok {b o cap k : Nat} {vs : List Value} {ls : List (List Nat)} (hM : Mem w b o vs) (hk : vs.length = k) (hcap : k ≤ cap) (hl : ls.length = k) (hs : ∀ (i : Nat) (v : Value) (l : List Nat), vs[i]? = some v → ls[i]? = some l → SlC w v 1 l.length (l.map u8N)) (h0 : 0 < ls.flatten.length) (hlen : ls.flatten.length < 2 ^ 30) (hk2 : k < 2 ^ 30) :
    RetS P A.concat [.slice (some ⟨b, o, none⟩) k cap] w 1 ls.flatten.length (ls.flatten.map u8N) := by
  have hpre : ∀ i, (ls.take i).flatten.length ≤ ls.flatten.length := by
    intro i
    conv => rhs; rw [← List.take_append_drop i ls]
    rw [List.flatten_append, List.length_append]; omega
  refine Ret.of_exec A.h_concat (Nat.le_of_ble_eq_true rfl) fun c hc => ?_
  dsimp only [b_slices_Concat_byte_byte, argEnv, ym, yo, yg, ys, yt, yd, ye]
  refine xr 6 rfl ?_
  refine exec_inner_join (S := Unit) (fun _ V => Ext w V) (fun _ => [(0, .slice (some ⟨b, o, none⟩) k cap), (3, intV' ls.flatten.length)]) ?_ ?_
  · refine xlo (S := Nat) (fun i V => i ≤ k ∧ Ext w V) (fun i => [(0, .slice (some ⟨b, o, none⟩) k cap), (3, intV' (ls.take i).flatten.length), (9, .slice (some ⟨b, o, none⟩) k cap), (10, intV' k), (11, intV' i)]) (fun i => k - i) 0 ⟨by omega, Upd.refl _ _⟩ ⟨rfl, rfl, rfl, rfl, rfl, trivial⟩ ?_
    rintro i V ⟨i1, iU⟩
    skip
    by_cases hik : i < k
    · refine xpu (pv_lssI (a := i) (b := k) (q := true) rfl rfl (by simpa using hik)) rfl ?_
      refine xr 3 rfl ?_
      obtain ⟨v, hv⟩ : ∃ v, vs[i]? = some v := ⟨_, List.getElem?_eq_getElem (by omega)⟩
      obtain ⟨l, hl'⟩ : ∃ v, ls[i]? = some v := ⟨_, List.getElem?_eq_getElem (by omega)⟩
      refine xju (ok_iaddr (N := 1) (b := b) (o := o) (len := k) (cap := cap) rfl rfl i rfl hik) rfl ?_
      refine exec_load1 (b := b) (o := o + i * 1) (v := v) rfl rfl (by rw [Nat.mul_one]; exact (hM.upd iU) i v hv) ?_
      have hSv := (hs i v l hv hl').upd iU (by simp)
      have hlv : pureV [(16, v)] (.lenS (.tmp 16)) = some (intV' l.length) := by
        exact hSv.lenS rfl
      have hlv' : ∃ a n c', v = .slice a n c' ∧ n = l.length := by
        rcases hSv with ⟨rfl | ⟨_, _, _, _, rfl⟩, h2, _⟩ | ⟨b', o', c', rfl, _⟩
        · exact ⟨_, _, _, rfl, h2.symm⟩
        · exact ⟨_, _, _, rfl, h2.symm⟩
        · exact ⟨_, _, _, rfl, rfl⟩
      obtain ⟨a, n', c', rfl, rfl⟩ := hlv'
      refine xr 4 rfl ?_
      have hfl := flat3 ls i l hl'
      have hp1 := hpre (i + 1)
      rw [hfl, List.length_append] at hp1
      refine xpu (pv_addI (a := (ls.take i).flatten.length) (b := l.length) rfl rfl (by omega)) rfl ?_
      refine xr 2 rfl ?_
      refine xpu (pv_lssI (a := (ls.take i).flatten.length + l.length) (b := 0) (q := false) rfl rfl (by simp)) rfl ?_
      refine xr 4 rfl ?_
      refine xpu (pv_addI (a := i) (b := 1) rfl rfl (by omega)) rfl ?_
      refine xr 1 rfl ?_
      refine xag (i + 1) ⟨by omega, iU⟩ (by show k - (i + 1) < k - i; omega) ⟨rfl, ?_, rfl, rfl, rfl, trivial⟩
      rw [hfl, List.length_append]; rfl
    · refine xpu (pv_lssI (a := i) (b := k) (q := false) rfl rfl (by simpa using hik)) rfl ?_
      have : i = k := by omega
      subst this
      refine xr 2 rfl ?_
      refine exec_meet () iU ⟨rfl, ?_, trivial⟩
      rw [← hl, List.take_length]; rfl
  rintro _ V hV
  refine xr 1 rfl ?_
  refine xca rfl rfl (growB_ok A _ h0 (by omega)) ?_
  rintro v V1 ⟨hO1, hu1, hf1⟩
  refine xr 5 rfl ?_
  have hV1 := hV.trans hu1
  have zV := hV.size
  refine xlo (S := Nat × Value) (fun s W => s.1 ≤ k ∧ OwnC W s.2 1 (ls.take s.1).flatten.length ((ls.take s.1).flatten.map u8N) ∧ Ext w W ∧ ∀ b ∈ blkOf s.2, w.heap.size ≤ b)
    (fun s => [(0, .slice (some ⟨b, o, none⟩) k cap), (6, s.2), (25, .slice (some ⟨b, o, none⟩) k cap), (26, intV' k), (27, intV' s.1)]) (fun s => k - s.1) (0, v) ⟨Nat.zero_le _, by simpa using hO1, hV1, fun b hb => by have := hf1 b hb; omega⟩ ⟨rfl, rfl, rfl, rfl, rfl, trivial⟩ ?_
  rintro ⟨i, out⟩ W ⟨i1, iO, iU, iF⟩
  simp only at i1 iO iF
  skip
  by_cases hik : i < k
  · refine xpu (pv_lssI (a := i) (b := k) (q := true) rfl rfl (by simpa using hik)) rfl ?_
    refine xr 3 rfl ?_
    obtain ⟨v', hv⟩ : ∃ v, vs[i]? = some v := ⟨_, List.getElem?_eq_getElem (by omega)⟩
    obtain ⟨l, hl'⟩ : ∃ v, ls[i]? = some v := ⟨_, List.getElem?_eq_getElem (by omega)⟩
    refine xju (ok_iaddr (N := 1) (b := b) (o := o) (len := k) (cap := cap) rfl rfl i rfl hik) rfl ?_
    refine exec_load1 (b := b) (o := o + i * 1) (v := v') rfl rfl (by rw [Nat.mul_one]; exact (hM.upd iU) i v' hv) ?_
    refine xr 3 rfl ?_
    have hSv := (hs i v' l hv hl').upd iU (by simp)
    have hfl := flat3 ls i l hl'
    have hp1 := hpre (i + 1)
    rw [hfl, List.length_append] at hp1
    refine exec_ok (ok_append (N := 1) rfl rfl iO hSv rfl (by decide) (by omega) (u8N_cell _)) rfl ?_
    rintro v2 W2 ⟨hO2, hu2, hf2, _⟩
    refine xr 3 rfl ?_
    refine xpu (pv_addI (a := i) (b := 1) rfl rfl (by omega)) rfl ?_
    refine xr 1 rfl ?_
    have zW := iU.size
    refine xag (i + 1, v2) ⟨by show i + 1 ≤ k; omega, ?_, iU.trans hu2 (fun b hb => .inr (iF b hb)), ?_⟩ (by show k - (i + 1) < k - i; omega) ⟨rfl, rfl, rfl, rfl, rfl, trivial⟩
    · show OwnC W2 v2 1 (ls.take (i + 1)).flatten.length ((ls.take (i + 1)).flatten.map u8N)
      rw [hfl, List.length_append, List.map_append]; exact hO2
    · intro b hb
      rcases hf2 b hb with h | h
      · exact iF b h
      · omega
  · refine xpu (pv_lssI (a := i) (b := k) (q := false) rfl rfl (by simpa using hik)) rfl ?_
    have : i = k := by omega
    subst this
    refine xr 5 rfl ?_
    rw [← hl, List.take_length] at iO
    exact xre hc [_] ⟨rfl, trivial⟩ ⟨iO, iU, iF⟩
theorem pairText_ok (l r : Hash) : RetS P A.pairText [hV l, hV r] w 1 65 ((pairN l r).map u8N) := by
  refine Ret.of_exec A.h_pairText (Nat.le_of_ble_eq_true rfl) fun c hc => ?_
  dsimp only [b_leaf_PairText, argEnv, ym, yo, yg, ys, yt, yd, ye]
  refine exec_box rfl rfl ?_
  intro b2 w1 hb2 hs1 hu1 hB2
  rw [hV_cells] at hB2
  refine exec_box rfl rfl ?_
  intro b3 w2 hb3 hs2 hu2 hB3
  rw [hV_cells] at hB3
  refine xr 1 rfl ?_
  have hB2' := hB2.upd hu2
  refine exec_dw [] rfl rfl rfl ?_
  refine dw_rel [] (fun W _ v => ∃ b, v = .slice (some ⟨b, 0, none⟩) 1 1 ∧ Blk W b [u8N 1] ∧ w2.heap.size ≤ b) rfl ?_ ?_ ?_
  · rintro W W' xs v h1 h2 ⟨b, rfl, h3, h4⟩
    exact ⟨b, rfl, h3.upd h2, h4⟩
  · intro vs W hu _
    refine (ok_litL [u8N 1] rfl rfl).mono ?_
    rintro v W' ⟨b, rfl, hB, hb, _, hu'⟩
    have := hu.size
    exact ⟨hu', b, rfl, hB, by omega⟩
  refine dw_keep _ (fun vs W hu _ => ok_slA (b := b2) (o := 0) 0 32 rfl rfl rfl (by omega) (by omega)) ?_
  refine dw_keep _ (fun vs W hu _ => ok_slA (b := b3) (o := 0) 0 32 rfl rfl rfl (by omega) (by omega)) ?_
  refine dw_end fun vs W hu hf => ?_
  obtain ⟨⟨b1, hv0, hB1, hb1⟩, _⟩ := hf
  show Exec _ _ _ _ _ _ ((5, vs 0) :: (6, .slice (some ⟨b2, 0 + 0 * 1, none⟩) (32 - 0) (32 - 0)) :: (7, .slice (some ⟨b3, 0 + 0 * 1, none⟩) (32 - 0) (32 - 0)) :: _) W
  rw [hv0]
  refine exec_litL (N := 1) (cs := [.slice (some ⟨b1, 0, none⟩) 1 1, .slice (some ⟨b2, 0 + 0 * 1, none⟩) (32 - 0) (32 - 0), .slice (some ⟨b3, 0 + 0 * 1, none⟩) (32 - 0) (32 - 0)]) rfl rfl rfl rfl ?_
  intro bl W1 hbl hs3 hu3 hO
  rcases hO with ⟨h, _⟩ | ⟨b', cap', rest', hv, hBl, _⟩
  · cases h
  cases hv
  have hML : Mem W1 bl 0 [.slice (some ⟨b1, 0, none⟩) 1 1, .slice (some ⟨b2, 0 + 0 * 1, none⟩) (32 - 0) (32 - 0), .slice (some ⟨b3, 0 + 0 * 1, none⟩) (32 - 0) (32 - 0)] := hBl.memPre
  have hw1 : Ext w W1 := ((hu1.trans hu2).trans hu).trans hu3
  have hfl : [[1], bytesN l, bytesN r].flatten = pairN l r := by simp [pairN]
  have hpl := pairN_len l r
  refine xca rfl rfl (concat_ok A (ls := [[1], bytesN l, bytesN r]) hML rfl (Nat.le_refl _) rfl ?_ (by rw [hfl]; omega) (by rw [hfl]; omega) (by omega)) ?_
  · intro i v x hv hx
    match i, hv, hx with
    | 0, hv, hx =>
      cases hv; cases hx
      exact .inr ⟨b1, 0, 1, rfl, (hB1.upd hu3).memAll, rfl, Nat.le_refl _⟩
    | 1, hv, hx =>
      cases hv; cases hx
      refine .inr ⟨b2, 0 + 0 * 1, 32, by simp [bytesN_len], ?_, by simp, by simp [bytesN_len]⟩
      rw [bytesN_cells]; exact ((hB2'.upd hu).upd hu3).memAll
    | 2, hv, hx =>
      cases hv; cases hx
      refine .inr ⟨b3, 0 + 0 * 1, 32, by simp [bytesN_len], ?_, by simp, by simp [bytesN_len]⟩
      rw [bytesN_cells]; exact ((hB3.upd hu).upd hu3).memAll
  rintro v W2 ⟨hO2, hu4, hf4⟩
  rw [hfl, hpl] at hO2
  refine xr 1 rfl ?_
  have z := hw1.size
  exact xre hc [_] ⟨rfl, trivial⟩ ⟨hO2, hw1.trans hu4, fun b hb => by have := hf4 b hb; omega⟩
theorem parH_ok (hT : Tabs A.toShaF w) (l r : Hash) : RetV P A.parent [hV l, hV r] w (hV (parH l r)) := by
  refine Ret.of_exec A.h_parent (Nat.le_of_ble_eq_true rfl) fun c hc => ?_
  dsimp only [b_leaf_Parent, argEnv, ym, yo, yg, ys, yt, yd, ye]
  refine exec_box rfl rfl ?_
  intro b2 w1 hb2 hs1 hu1 hB2
  rw [hV_cells] at hB2
  refine exec_box rfl rfl ?_
  intro b3 w2 hb3 hs2 hu2 hB3
  rw [hV_cells] at hB3
  refine exec_new rfl ?_
  intro b4 w3 hb4 hs3 hu3 hB4
  rw [rle_toList, rleL_one] at hB4
  refine exec_loadN (b := b2) (o := 0) (vs := hC l) rfl rfl ((hB2.upd hu2).upd hu3).memAll (hC_length l) ?_
  refine exec_loadN (b := b3) (o := 0) (vs := hC r) rfl rfl (hB3.upd hu3).memAll (hC_length r) ?_
  refine xca rfl rfl (pairText_ok A l r) ?_
  rintro v w4 ⟨hO, hu4, hf4⟩
  have hu14 : Ext w w4 := ((hu1.trans hu2).trans hu3).trans hu4
  have hpl := pairN_len l r
  refine xca rfl rfl (sum_ok A.toShaF (hT.upd hu14) (l := pairN l r) (by rw [hpl]; exact hO.sl) (by omega) (pairN_lt l r)) ?_
  rintro _ w5 ⟨rfl, hu5⟩
  rw [shaH_val]
  refine exec_store (b := b4) (o := 0) (v := hV (shaH (pairN l r))) rfl rfl ((hB4.upd hu4).upd hu5) (hV_size _) (by simp) (by rw [hV_cells]; exact hC_cell _) ?_
  intro w6 hu6 _ hB6
  rw [hV_cells, splice_all (by simp [hC_length])] at hB6
  refine xre hc [_] ⟨⟨b4, 0, _, rfl, hB6.memAll, hC_length _, rfl⟩, trivial⟩ ⟨rfl, ?_⟩
  have := hu14.size
  exact ((hu14.trans hu5).trans hu6 (fun b hb => .inr (by simp at hb; omega)))
end
end Go.Sp
