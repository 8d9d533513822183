/- Proved: for every list of steps spinneylaw14.ForestAnew returns true and leaves its argument as it was; no condition. This text: part 5 of 11. -/
import Derived.Test.YtlffmofhoeodfaaDoorW4
namespace Go.Sp
theorem and_lt {a b : Nat} (ha : a < 18446744073709551616) : a &&& b < 18446744073709551616 := Nat.lt_of_le_of_lt Nat.and_le_left ha
theorem xor_lt {a b : Nat} (ha : a < 18446744073709551616) (hb : b < 18446744073709551616) : a ^^^ b < 18446744073709551616 := Nat.xor_lt_two_pow (n := 64) ha hb
section
variable {P : Program} {w : World} {c : Ctx} {D : List Deferred} {is : List Ins} {k : Kont} {b5 gl2 i : Nat} {a b' c' d e f g h s1 s0 ki wi : Nat} {v2 v4 v17 v18 : Value}
theorem take_t1 (hA : Blk w b5 [u64V a, u64V b', u64V c', u64V d, u64V e, u64V f, u64V g, u64V h]) (hG : w.cell? ⟨gl2, 0 + i * 1, none⟩ = some (u64V ki)) (hGm : ∀ W, Ext w W → W.cell? ⟨gl2, 0 + i * 1, none⟩ = some (u64V ki)) (hi : i < 80)
    (he : e < 18446744073709551616) (hf : f < 18446744073709551616) (hg : g < 18446744073709551616) (t1 : Nat)
    (ht1 : t1 = ((((h + s1) % 18446744073709551616 + (e &&& f ^^^ notW e &&& g)) % 18446744073709551616 + ki) % 18446744073709551616 + wi) % 18446744073709551616)
    (hx : ∀ W, Ext w W → Exec P 106 c D is k [(12, u64V t1), (2, v2), (4, v4), (5, ptrV' b5), (8, u64V a), (11, u64V s0), (17, v17), (18, v18)] W) :
    Exec P 106 c D (.draw [
            ([], none, (some 42), .iaddrA 8 1 (.tmp 5) (.const (.int .i64 7))),
            ([0], none, (some 43), .load1 (.tmp 42)),
            ([], none, (some 44), .mov (.tmp 10)),
            ([1, 2, 0], none, (some 45), .ibin .add (.tmp 43) (.tmp 44)),
            ([], none, (some 46), .mov (.tmp 9)),
            ([], none, (some 47), .iaddrA 8 1 (.tmp 5) (.const (.int .i64 5))),
            ([5], none, (some 48), .load1 (.tmp 47)),
            ([4, 6, 5], none, (some 49), .ibin .and (.tmp 46) (.tmp 48)),
            ([], none, (some 50), .mov (.tmp 9)),
            ([8], none, (some 51), .un .xor (.tmp 50)),
            ([], none, (some 52), .iaddrA 8 1 (.tmp 5) (.const (.int .i64 6))),
            ([10], none, (some 53), .load1 (.tmp 52)),
            ([9, 11, 8, 10], none, (some 54), .ibin .and (.tmp 51) (.tmp 53)),
            ([7, 12, 4, 6, 5, 9, 11, 8, 10], none, (some 55), .ibin .xor (.tmp 49) (.tmp 54)),
            ([3, 13, 1, 2, 0, 7, 12, 4, 6, 5, 9, 11, 8, 10], none, (some 56), .ibin .add (.tmp 45) (.tmp 55)),
            ([], none, (some 57), .mov (.tmp 6)),
            ([15], none, (some 58), .iaddrA 80 1 (.global gl2) (.tmp 57)),
            ([16, 15], none, (some 59), .load1 (.tmp 58)),
            ([14, 17, 3, 13, 1, 2, 0, 7, 12, 4, 6, 5, 9, 11, 8, 10, 16, 15], none, (some 60), .ibin .add (.tmp 56) (.tmp 59)),
            ([], none, (some 61), .mov (.tmp 7))] [
            .op none (some 62) (.ibin .add (.tmp 60) (.tmp 61)),
            .op none (some 12) (.mov (.tmp 62))] :: is) k [(5, ptrV' b5), (6, intV' i), (7, u64V wi), (9, u64V e), (10, u64V s1), (2, v2), (4, v4), (8, u64V a), (11, u64V s0), (17, v17), (18, v18)] w := by
  have hnw : notW e < 18446744073709551616 := by unfold notW; omega
  refine exec_dwr rfl rfl rfl ?_
  refine ws_keep _ rfl (fun W hu => ok_iaddrA (b := b5) (o := 0) rfl rfl 7 rfl (by omega)) ?_
  refine ws_keep (u64V h) rfl (fun W hu => ok_load1 (b := b5) (o := 0 + 7 * 1) rfl ((hA.upd hu).cell rfl)) ?_
  repeat (first | refine ws_auto rfl rfl rfl ?_ | refine ws_gauto rfl rfl rfl rfl ?_ | refine wgs rfl rfl ?_)
  refine ws_val rfl (pv_addW (a := h) (b := s1) rfl rfl) ?_
  repeat (first | refine ws_auto rfl rfl rfl ?_ | refine ws_gauto rfl rfl rfl rfl ?_ | refine wgs rfl rfl ?_)
  refine ws_keep _ rfl (fun W hu => ok_iaddrA (b := b5) (o := 0) rfl rfl 5 rfl (by omega)) ?_
  refine ws_keep (u64V f) rfl (fun W hu => ok_load1 (b := b5) (o := 0 + 5 * 1) rfl ((hA.upd hu).cell rfl)) ?_
  refine ws_val rfl (pv_andU (a := e) (b := f) rfl rfl he hf) ?_
  repeat (first | refine ws_auto rfl rfl rfl ?_ | refine ws_gauto rfl rfl rfl rfl ?_ | refine wgs rfl rfl ?_)
  refine ws_val (v := u64V (notW e)) rfl (pv_notU (a := e) rfl he) ?_
  refine ws_keep _ rfl (fun W hu => ok_iaddrA (b := b5) (o := 0) rfl rfl 6 rfl (by omega)) ?_
  refine ws_keep (u64V g) rfl (fun W hu => ok_load1 (b := b5) (o := 0 + 6 * 1) rfl ((hA.upd hu).cell rfl)) ?_
  generalize hnn : notW e = ne at *
  refine ws_val rfl (pv_andU (a := ne) (b := g) rfl rfl hnw hg) ?_
  generalize hx1 : e &&& f = x1 at *
  generalize hx2 : ne &&& g = x2 at *
  have l1 : x1 < 18446744073709551616 := by rw [← hx1]; exact and_lt he
  have l2 : x2 < 18446744073709551616 := by rw [← hx2]; exact and_lt hnw
  refine ws_val rfl (pv_xorU (a := x1) (b := x2) rfl rfl l1 l2) ?_
  generalize hx3 : x1 ^^^ x2 = x3 at *
  generalize hx4 : (h + s1) % 18446744073709551616 = x4 at *
  refine ws_val rfl (pv_addW (a := x4) (b := x3) rfl rfl) ?_
  generalize hx5 : (x4 + x3) % 18446744073709551616 = x5 at *
  repeat (first | refine ws_auto rfl rfl rfl ?_ | refine ws_gauto rfl rfl rfl rfl ?_ | refine wgs rfl rfl ?_)
  refine ws_keep _ rfl (fun W hu => ok_iaddrA (b := gl2) (o := 0) rfl rfl i rfl hi) ?_
  refine ws_keep (u64V ki) rfl (fun W hu => ok_load1 (b := gl2) (o := 0 + i * 1) rfl (hGm W hu)) ?_
  refine ws_val rfl (pv_addW (a := x5) (b := ki) rfl rfl) ?_
  generalize hx6 : (x5 + ki) % 18446744073709551616 = x6 at *
  repeat (first | refine ws_auto rfl rfl rfl ?_ | refine ws_gauto rfl rfl rfl rfl ?_ | refine wgs rfl rfl ?_)
  refine ws_fin fun W hu => ?_
  refine xpu (pv_addW (a := x6) (b := wi) rfl rfl) rfl ?_
  rw [← ht1]
  refine xtm rfl rfl rfl ?_
  refine xen _ ?_ (hx W hu)
  exact ⟨rfl, rfl, rfl, rfl, rfl, rfl, rfl, rfl, trivial⟩
theorem take_t2 (hA : Blk w b5 [u64V a, u64V b', u64V c', u64V d, u64V e, u64V f, u64V g, u64V h]) (ha : a < 18446744073709551616) (hb : b' < 18446744073709551616) (hc : c' < 18446744073709551616) {t1 t2 : Nat}
    (ht2 : t2 = (s0 + (a &&& b' ^^^ a &&& c' ^^^ b' &&& c')) % 18446744073709551616)
    (hx : Exec P 106 c D is k [(12, u64V t1), (13, u64V t2), (2, v2), (4, v4), (5, ptrV' b5), (17, v17), (18, v18)] w) :
    Exec P 106 c D (.op none (some 63) (.mov (.tmp 11)) ::
          .op none (some 64) (.mov (.tmp 8)) ::
          .op none (some 65) (.iaddrA 8 1 (.tmp 5) (.const (.int .i64 1))) ::
          .op none (some 66) (.load1 (.tmp 65)) ::
          .op none (some 67) (.ibin .and (.tmp 64) (.tmp 66)) ::
          .op none (some 68) (.mov (.tmp 8)) ::
          .op none (some 69) (.iaddrA 8 1 (.tmp 5) (.const (.int .i64 2))) ::
          .op none (some 70) (.load1 (.tmp 69)) ::
          .op none (some 71) (.ibin .and (.tmp 68) (.tmp 70)) ::
          .op none (some 72) (.ibin .xor (.tmp 67) (.tmp 71)) ::
          .op none (some 73) (.iaddrA 8 1 (.tmp 5) (.const (.int .i64 1))) ::
          .op none (some 74) (.load1 (.tmp 73)) ::
          .op none (some 75) (.iaddrA 8 1 (.tmp 5) (.const (.int .i64 2))) ::
          .op none (some 76) (.load1 (.tmp 75)) ::
          .op none (some 77) (.ibin .and (.tmp 74) (.tmp 76)) ::
          .op none (some 78) (.ibin .xor (.tmp 72) (.tmp 77)) ::
          .op none (some 79) (.ibin .add (.tmp 63) (.tmp 78)) ::
          .op none (some 13) (.mov (.tmp 79)) :: is) k [(12, u64V t1), (2, v2), (4, v4), (5, ptrV' b5), (8, u64V a), (11, u64V s0), (17, v17), (18, v18)] w := by
  repeat (first | refine xtm rfl rfl rfl ?_ | refine xgr rfl ?_ | refine xgs rfl rfl ?_ | refine xg0 rfl ?_ | refine xct rfl ?_ | refine xcf rfl ?_ | refine xbk ?_ | refine xsq ?_ | refine xbl ?_ | refine xex rfl ?_)
  refine xju (ok_iaddrA (b := b5) (o := 0) rfl rfl 1 rfl (by omega)) rfl ?_
  refine exec_load1 (b := b5) (o := 0 + 1 * 1) (v := u64V b') rfl rfl (hA.cell rfl) ?_
  refine xpu (pv_andU (a := a) (b := b') rfl rfl ha hb) rfl ?_
  generalize hx1 : a &&& b' = x1 at *
  have l1 : x1 < 18446744073709551616 := by rw [← hx1]; exact and_lt ha
  repeat (first | refine xtm rfl rfl rfl ?_ | refine xgr rfl ?_ | refine xgs rfl rfl ?_ | refine xg0 rfl ?_ | refine xct rfl ?_ | refine xcf rfl ?_ | refine xbk ?_ | refine xsq ?_ | refine xbl ?_ | refine xex rfl ?_)
  refine xju (ok_iaddrA (b := b5) (o := 0) rfl rfl 2 rfl (by omega)) rfl ?_
  refine exec_load1 (b := b5) (o := 0 + 2 * 1) (v := u64V c') rfl rfl (hA.cell rfl) ?_
  refine xpu (pv_andU (a := a) (b := c') rfl rfl ha hc) rfl ?_
  generalize hx2 : a &&& c' = x2 at *
  have l2 : x2 < 18446744073709551616 := by rw [← hx2]; exact and_lt ha
  refine xpu (pv_xorU (a := x1) (b := x2) rfl rfl l1 l2) rfl ?_
  generalize hx3 : x1 ^^^ x2 = x3 at *
  have l3 : x3 < 18446744073709551616 := by rw [← hx3]; exact xor_lt l1 l2
  refine xju (ok_iaddrA (b := b5) (o := 0) rfl rfl 1 rfl (by omega)) rfl ?_
  refine exec_load1 (b := b5) (o := 0 + 1 * 1) (v := u64V b') rfl rfl (hA.cell rfl) ?_
  refine xju (ok_iaddrA (b := b5) (o := 0) rfl rfl 2 rfl (by omega)) rfl ?_
  refine exec_load1 (b := b5) (o := 0 + 2 * 1) (v := u64V c') rfl rfl (hA.cell rfl) ?_
  refine xpu (pv_andU (a := b') (b := c') rfl rfl hb hc) rfl ?_
  generalize hx4 : b' &&& c' = x4 at *
  have l4 : x4 < 18446744073709551616 := by rw [← hx4]; exact and_lt hb
  refine xpu (pv_xorU (a := x3) (b := x4) rfl rfl l3 l4) rfl ?_
  generalize hx5 : x3 ^^^ x4 = x5 at *
  refine xpu (pv_addW (a := s0) (b := x5) rfl rfl) rfl ?_
  rw [← ht2]
  refine xtm rfl rfl rfl ?_
  refine xen _ ?_ hx
  exact ⟨rfl, rfl, rfl, rfl, rfl, rfl, rfl, trivial⟩
theorem take_put (hA : Blk w b5 [u64V a, u64V b', u64V c', u64V d, u64V e, u64V f, u64V g, u64V h]) {t1 t2 : Nat}
    (hx : ∀ W, Upd [b5] w W → Blk W b5 [u64V ((t1 + t2) % 18446744073709551616), u64V a, u64V b', u64V c', u64V ((d + t1) % 18446744073709551616), u64V e, u64V f, u64V g] → Exec P 106 c D is k [(2, v2), (4, v4), (5, ptrV' b5), (17, v17), (18, v18)] W) :
    Exec P 106 c D (.draw [
            ([], none, (some 80), .slA 8 1 (.tmp 5) (some (.const (.int .i64 1))) none),
            ([], none, (some 81), .slA 8 1 (.tmp 5) none (some (.const (.int .i64 7))))] [
            .op none (some 82) (.copy 1 (.tmp 80) (.tmp 81))] ::
          .op none (some 83) (.iaddrA 8 1 (.tmp 5) (.const (.int .i64 4))) ::
          .op none (some 84) (.load1 (.tmp 83)) ::
          .op none (some 85) (.mov (.tmp 12)) ::
          .op none (some 86) (.ibin .add (.tmp 84) (.tmp 85)) ::
          .op none (some 87) (.iaddrA 8 1 (.tmp 5) (.const (.int .i64 4))) ::
          .op none none (.store 1 (.tmp 87) (.tmp 86)) ::
          .op none (some 88) (.mov (.tmp 12)) ::
          .op none (some 89) (.mov (.tmp 13)) ::
          .op none (some 90) (.ibin .add (.tmp 88) (.tmp 89)) ::
          .op none (some 91) (.iaddrA 8 1 (.tmp 5) (.const (.int .i64 0))) ::
          .op none none (.store 1 (.tmp 91) (.tmp 90)) :: is) k [(12, u64V t1), (13, u64V t2), (2, v2), (4, v4), (5, ptrV' b5), (17, v17), (18, v18)] w := by
  refine exec_dwr rfl rfl rfl ?_
  refine ws_keep _ rfl (fun W hu => ok_slA (b := b5) (o := 0) 1 8 rfl ⟨.i64, rfl⟩ rfl (by omega) (by omega)) ?_
  refine ws_keep _ rfl (fun W hu => ok_slA (b := b5) (o := 0) 0 7 rfl rfl ⟨.i64, rfl⟩ (by omega) (by omega)) ?_
  refine ws_fin fun W9 hu9 => ?_
  have hA59 := hA.upd hu9
  have hS9 : SlC W9 (.slice (some ⟨b5, 0, none⟩) 7 8) 1 7 [u64V a, u64V b', u64V c', u64V d, u64V e, u64V f, u64V g] :=
    .inr ⟨b5, 0, 8, rfl, hA59.mem 0 (by intro j v hj; rw [Nat.zero_add]; match j, hj with
      | 0, hj => exact hj
      | 1, hj => exact hj
      | 2, hj => exact hj
      | 3, hj => exact hj
      | 4, hj => exact hj
      | 5, hj => exact hj
      | 6, hj => exact hj), rfl, by omega⟩
  refine exec_ok (ok_copy (b := b5) (o := 0 + 1 * 1) (dl := 7) (N := 1) rfl rfl hA59 (by simp) hS9 rfl) rfl ?_
  rintro v W10 ⟨rfl, hu10, hs10, hA10⟩
  have esp : splice [u64V a, u64V b', u64V c', u64V d, u64V e, u64V f, u64V g, u64V h] (0 + 1 * 1) ([u64V a, u64V b', u64V c', u64V d, u64V e, u64V f, u64V g].take (min 7 7 * 1)) = [u64V a, u64V a, u64V b', u64V c', u64V d, u64V e, u64V f, u64V g] := by simp [splice]
  rw [esp] at hA10
  refine xju (ok_iaddrA (b := b5) (o := 0) rfl rfl 4 rfl (by omega)) rfl ?_
  refine exec_load1 (b := b5) (o := 0 + 4 * 1) (v := u64V d) rfl rfl (hA10.cell rfl) ?_
  repeat (first | refine xtm rfl rfl rfl ?_ | refine xgr rfl ?_ | refine xgs rfl rfl ?_ | refine xg0 rfl ?_ | refine xct rfl ?_ | refine xcf rfl ?_ | refine xbk ?_ | refine xsq ?_ | refine xbl ?_ | refine xex rfl ?_)
  refine xpu (pv_addW (a := d) (b := t1) rfl rfl) rfl ?_
  generalize (d + t1) % 18446744073709551616 = y1 at *
  refine xju (ok_iaddrA (b := b5) (o := 0) rfl rfl 4 rfl (by omega)) rfl ?_
  refine exec_store (b := b5) (o := 0 + 4 * 1) (v := u64V y1) rfl rfl hA10 rfl (by simp) rfl ?_
  intro W11 hu11 hs11 hA11
  repeat (first | refine xtm rfl rfl rfl ?_ | refine xgr rfl ?_ | refine xgs rfl rfl ?_ | refine xg0 rfl ?_ | refine xct rfl ?_ | refine xcf rfl ?_ | refine xbk ?_ | refine xsq ?_ | refine xbl ?_ | refine xex rfl ?_)
  refine xpu (pv_addW (a := t1) (b := t2) rfl rfl) rfl ?_
  generalize (t1 + t2) % 18446744073709551616 = y2 at *
  refine xju (ok_iaddrA (b := b5) (o := 0) rfl rfl 0 rfl (by omega)) rfl ?_
  refine exec_store (b := b5) (o := 0 + 0 * 1) (v := u64V y2) rfl rfl hA11 rfl (by simp [splice]) rfl ?_
  intro W12 hu12 hs12 hA12
  refine xen _ ?_ (hx W12 ?_ hA12)
  · exact ⟨rfl, rfl, rfl, rfl, rfl, trivial⟩
  · exact (((hu9.mono (m := [b5]) (by simp)).trans hu10 (by simp)).trans hu11 (by simp)).trans hu12 (by simp)
end
end Go.Sp

namespace Go.Sp
section
variable {P : Program} {f : Nat} {w : World}
theorem drop_cons {α : Type} {L : List α} {i : Nat} {x : α} (h : L[i]? = some x) : L.drop i = x :: L.drop (i + 1) := by
  have hlt := (List.getElem?_eq_some_iff.1 h).1
  rw [List.drop_eq_getElem_cons hlt, (List.getElem?_eq_some_iff.1 h).2]
theorem roundsN_cons (v : List Nat) (k w : Nat) (ks ws : List Nat) : roundsN v (k :: ks) (w :: ws) = roundsN (roundN v k w) ks ws := by
  cases v <;> rfl
theorem roundsN_nil (v ws : List Nat) : roundsN v [] ws = v := by cases v <;> cases ws <;> rfl
theorem list8 {α : Type} {H : List α} (h : H.length = 8) : ∃ a b c d e f g h, H = [a, b, c, d, e, f, g, h] := by
  match H, h with
  | [a, b, c, d, e, f, g, h], _ => exact ⟨a, b, c, d, e, f, g, h, rfl⟩
theorem zip_step (F : Nat → Nat → Value) (G : Nat → Value) (X Y : List Nat) (hX : X.length = 8) (hY : Y.length = 8) (j : Nat) (hj : j < 8) : ∃ x y, (List.zipWith F (X.take j) (Y.take j) ++ (X.drop j).map G)[0 + j * 1]? = some (G x) ∧ (Y.map G)[0 + j * 1]? = some (G y) ∧
    splice (List.zipWith F (X.take j) (Y.take j) ++ (X.drop j).map G) (0 + j * 1) [F x y] = List.zipWith F (X.take (j + 1)) (Y.take (j + 1)) ++ (X.drop (j + 1)).map G := by
  obtain ⟨x, hx⟩ : ∃ x, X[j]? = some x := ⟨_, List.getElem?_eq_getElem (by omega)⟩
  obtain ⟨y, hy⟩ : ∃ y, Y[j]? = some y := ⟨_, List.getElem?_eq_getElem (by omega)⟩
  have e1 : X.drop j = x :: X.drop (j + 1) := by
    rw [List.drop_eq_getElem_cons (by omega)]; congr 1; exact (List.getElem?_eq_some_iff.1 hx).2
  have el : (List.zipWith F (X.take j) (Y.take j)).length = j := by simp; omega
  refine ⟨x, y, ?_, ?_, ?_⟩
  · rw [Nat.zero_add, Nat.mul_one, List.getElem?_append_right (by omega), el, e1]; simp
  · rw [Nat.zero_add, Nat.mul_one, List.getElem?_map, hy]; rfl
  · rw [Nat.zero_add, Nat.mul_one, e1, List.map_cons, splice_at el, List.take_add_one, List.take_add_one, hx, hy, Option.toList_some, Option.toList_some, List.zipWith_append (by simp; omega)]
    simp
theorem roundN_spec (a b c d e f g h k w : Nat) : ∃ t1 t2, t1 = ((((h + (rotr e 14 ^^^ rotr e 18 ^^^ rotr e 41)) % 18446744073709551616 + (e &&& f ^^^ notW e &&& g)) % 18446744073709551616 + k) % 18446744073709551616 + w) % 18446744073709551616 ∧
    t2 = ((rotr a 28 ^^^ rotr a 34 ^^^ rotr a 39) + (a &&& b ^^^ a &&& c ^^^ b &&& c)) % 18446744073709551616 ∧ roundN [a, b, c, d, e, f, g, h] k w = [(t1 + t2) % 18446744073709551616, a, b, c, (d + t1) % 18446744073709551616, e, f, g] := ⟨_, _, rfl, rfl, rfl⟩
theorem take_ok {gl1 gl2 g1 g2 g3 g4 T T2 : Nat} (h1 : Has P g1 b_sha512_word) (h2 : Has P g2 (b_sha512_right g3)) (h3 : Has P g3 b_math_bits_RotateLeft64) (h4 : Has P g4 (b_sha512_spread g1 g2 T2)) (h : Has P f (b_sha512_take gl1 gl2 g4 g2 T))
    (hG : Mem w gl2 0 (constW.map u64V)) {b o cap len : Nat} {l H : List Nat} (hm : Mem w b o (l.map u8N)) (hl : l.length = 128) (hlen : len = 128) (hcap : len ≤ cap) (hb : ∀ x ∈ l, x < 256) (hH : H.length = 8) (hH64 : ∀ x ∈ H, x < 18446744073709551616) :
    RetV P f [.agg (H.map u64V).toArray, .slice (some ⟨b, o, none⟩) len cap] w (.agg ((takeN H l).map u64V).toArray) := by
  refine Ret.of_exec h (Nat.le_of_ble_eq_true rfl) fun c hc => ?_
  dsimp only [b_sha512_take, argEnv]
  have hcells : (Value.agg (H.map u64V).toArray).cells.toList = H.map u64V := by simp [Value.cells]
  refine exec_box rfl rfl ?_
  intro b2 w1 hb2 hs1 hu1 hB2
  rw [hcells] at hB2
  refine exec_new rfl ?_
  intro b4 w2 hb4 hs2 hu2 hB4
  rw [rle_toList, rleL_one] at hB4
  have hB2' := hB2.upd hu2
  refine exec_loadN (b := b2) (o := 0) (vs := H.map u64V) rfl rfl hB2'.memAll (by simp [hH]) ?_
  refine exec_new_store (v := .agg (H.map u64V).toArray) rfl rfl rfl (by simp [Value.cells, hH]) (by simp [rle]) ?_ ?_
  · rw [hcells, List.all_eq_true]; intro v hv; simp at hv; obtain ⟨x, _, rfl⟩ := hv; rfl
  intro b5 w3 hb5 hs3 hu3 hB5
  rw [hcells] at hB5
  repeat (first | refine xau rfl rfl rfl ?_ | refine xgr rfl ?_ | refine xgs rfl rfl ?_ | refine xg0 rfl ?_ | refine xct rfl ?_ | refine xcf rfl ?_ | refine xbk ?_ | refine xsq ?_ | refine xbl ?_ | refine xex rfl ?_)
  have hE3 : Ext w w3 := (hu1.trans hu2).trans hu3
  refine xca rfl rfl (spread_ok h1 h2 h3 h4 (hm.upd hE3) hl hlen hcap hb) ?_
  rintro v w4 ⟨rfl, hu4⟩
  have hne : b2 ≠ b4 ∧ b2 ≠ b5 ∧ b4 ≠ b5 := by omega
  have hglt : gl2 < w.heap.size := hG.lt (by simp [constW])
  have hsl : (spreadN l).length = 80 := by simp [spreadN, growW_len, words16]
  have hcl : constW.length = 80 := rfl
  have hs64 : ∀ x ∈ spreadN l, x < 18446744073709551616 := by
    have : ∀ (k : Nat) (w : List Nat), (∀ x ∈ w, x < 18446744073709551616) → ∀ x ∈ growW k w, x < 18446744073709551616 := by
      intro k
      induction k with
      | zero => intro w hw; exact hw
      | succ k ih =>
        intro w hw
        refine ih _ fun x hx => ?_
        rcases List.mem_append.1 hx with h | h
        · exact hw x h
        · simp at h; subst h; exact nextW_lt w
    refine this 64 _ fun x hx => ?_
    simp only [words16, List.mem_map] at hx
    obtain ⟨t, _, rfl⟩ := hx
    exact wordN_lt _ (fun y hy => hb y (List.mem_of_mem_drop (List.mem_of_mem_take hy)))
  have hk64 : ∀ x ∈ constW, x < 18446744073709551616 := by decide
  repeat (first | refine xau rfl rfl rfl ?_ | refine xgr rfl ?_ | refine xgs rfl rfl ?_ | refine xg0 rfl ?_ | refine xct rfl ?_ | refine xcf rfl ?_ | refine xbk ?_ | refine xsq ?_ | refine xbl ?_ | refine xex rfl ?_)
  refine xlo (S := Nat × List Nat) (fun s W => s.1 ≤ 80 ∧ s.2.length = 8 ∧ (∀ x ∈ s.2, x < 18446744073709551616) ∧ roundsN s.2 (constW.drop s.1) ((spreadN l).drop s.1) = roundsN H constW (spreadN l) ∧ Ext w W ∧ Blk W b2 (H.map u64V) ∧ Blk W b4 (List.replicate 8 (u64V 0)) ∧ Blk W b5 (s.2.map u64V))
    (fun s => [(2, ptrV' b2), (4, ptrV' b4), (5, ptrV' b5), (17, .agg ((spreadN l).map u64V).toArray), (18, intV' s.1)]) (fun s => 80 - s.1) (0, H)
    ⟨by show 0 ≤ 80; omega, hH, hH64, rfl, hE3.trans hu4, (hB2'.upd hu3).upd hu4, (hB4.upd hu3).upd hu4, hB5.upd hu4⟩ ⟨rfl, rfl, rfl, rfl, rfl, trivial⟩ ?_
  rintro ⟨i, cur⟩ W ⟨hi, hcur, hc64, hres, hE, hA2, hA4, hA5⟩
  simp only at hi hcur hc64 hres hA5
  repeat (first | refine xau rfl rfl rfl ?_ | refine xgr rfl ?_ | refine xgs rfl rfl ?_ | refine xg0 rfl ?_ | refine xct rfl ?_ | refine xcf rfl ?_ | refine xbk ?_ | refine xsq ?_ | refine xbl ?_ | refine xex rfl ?_)
  refine exec_cond rfl (fun h5 => ?_) (fun h5 => ?_)
  · simp only [decide_eq_true_eq] at h5
    have hi80 : i < 80 := by omega
    obtain ⟨wi, hwi⟩ : ∃ x, (spreadN l)[i]? = some x := ⟨_, List.getElem?_eq_getElem (by omega)⟩
    obtain ⟨ki, hki⟩ : ∃ x, constW[i]? = some x := ⟨_, List.getElem?_eq_getElem (by rw [hcl]; omega)⟩
    have hw64 := hs64 wi (List.mem_of_getElem? hwi)
    repeat (first | refine xau rfl rfl rfl ?_ | refine xgr rfl ?_ | refine xgs rfl rfl ?_ | refine xg0 rfl ?_ | refine xct rfl ?_ | refine xcf rfl ?_ | refine xbk ?_ | refine xsq ?_ | refine xbl ?_ | refine xex rfl ?_)
    refine xju (ok_idx1 (v := u64V wi) rfl rfl i rfl (by omega) (by rw [List.getElem?_toArray, List.getElem?_map, hwi]; rfl)) rfl ?_
    repeat (first | refine xau rfl rfl rfl ?_ | refine xgr rfl ?_ | refine xgs rfl rfl ?_ | refine xg0 rfl ?_ | refine xct rfl ?_ | refine xcf rfl ?_ | refine xbk ?_ | refine xsq ?_ | refine xbl ?_ | refine xex rfl ?_)
    obtain ⟨a, b', c', d, e, f', g, h', rfl⟩ : ∃ a b c d e f g h, cur = [a, b, c, d, e, f, g, h] := list8 hcur
    have ha : a < 18446744073709551616 := hc64 a (by simp)
    have he : e < 18446744073709551616 := hc64 e (by simp)
    have hf : f' < 18446744073709551616 := hc64 f' (by simp)
    have hg : g < 18446744073709551616 := hc64 g (by simp)
    have hbb : b' < 18446744073709551616 := hc64 b' (by simp)
    have hcc : c' < 18446744073709551616 := hc64 c' (by simp)
    simp only [List.map_cons, List.map_nil] at hA5
    refine exec_dwr rfl rfl rfl ?_
    refine ws_keep _ rfl (fun W' hu => ok_iaddrA (b := b5) (o := 0) rfl rfl 0 rfl (by omega)) ?_
    refine ws_keep (u64V a) rfl (fun W' hu => ok_load1 (b := b5) (o := 0 + 0 * 1) rfl ((hA5.upd hu).cell rfl)) ?_
    refine ws_keep _ rfl (fun W' hu => ok_iaddrA (b := b5) (o := 0) rfl rfl 4 rfl (by omega)) ?_
    refine ws_keep (u64V e) rfl (fun W' hu => ok_load1 (b := b5) (o := 0 + 4 * 1) rfl ((hA5.upd hu).cell rfl)) ?_
    repeat (first | refine ws_auto rfl rfl rfl ?_ | refine ws_gauto rfl rfl rfl rfl ?_ | refine wgs rfl rfl ?_)
    refine ws_fin fun W1 hu1 => ?_
    repeat (first | refine xtm rfl rfl rfl ?_ | refine xgr rfl ?_ | refine xgs rfl rfl ?_ | refine xg0 rfl ?_ | refine xct rfl ?_ | refine xcf rfl ?_ | refine xbk ?_ | refine xsq ?_ | refine xbl ?_ | refine xex rfl ?_)
    refine xen [(2, ptrV' b2), (4, ptrV' b4), (5, ptrV' b5), (6, intV' i), (7, u64V wi), (8, u64V a), (9, u64V e), (26, u64V e), (17, .agg ((spreadN l).map u64V).toArray), (18, intV' i)] ⟨rfl, rfl, rfl, rfl, rfl, rfl, rfl, rfl, rfl, rfl, trivial⟩ ?_
    refine xca rfl rfl (right_ok h3 h2 e 14 he (by omega) (by omega)) ?_
    rintro v W2 ⟨rfl, hu2⟩
    repeat (first | refine xau rfl rfl rfl ?_ | refine xgr rfl ?_ | refine xgs rfl rfl ?_ | refine xg0 rfl ?_ | refine xct rfl ?_ | refine xcf rfl ?_ | refine xbk ?_ | refine xsq ?_ | refine xbl ?_ | refine xex rfl ?_)
    refine xca rfl rfl (right_ok h3 h2 e 18 he (by omega) (by omega)) ?_
    rintro v W3 ⟨rfl, hu3⟩
    refine xpu (pv_xorU (a := rotr e 14) (b := rotr e 18) rfl rfl (rotr_lt _ _ he) (rotr_lt _ _ he)) rfl ?_
    repeat (first | refine xau rfl rfl rfl ?_ | refine xgr rfl ?_ | refine xgs rfl rfl ?_ | refine xg0 rfl ?_ | refine xct rfl ?_ | refine xcf rfl ?_ | refine xbk ?_ | refine xsq ?_ | refine xbl ?_ | refine xex rfl ?_)
    refine xca rfl rfl (right_ok h3 h2 e 41 he (by omega) (by omega)) ?_
    rintro v W4 ⟨rfl, hu4⟩
    refine xpu (pv_xorU (a := rotr e 14 ^^^ rotr e 18) (b := rotr e 41) rfl rfl (xor_lt (rotr_lt _ _ he) (rotr_lt _ _ he)) (rotr_lt _ _ he)) rfl ?_
    repeat (first | refine xau rfl rfl rfl ?_ | refine xgr rfl ?_ | refine xgs rfl rfl ?_ | refine xg0 rfl ?_ | refine xct rfl ?_ | refine xcf rfl ?_ | refine xbk ?_ | refine xsq ?_ | refine xbl ?_ | refine xex rfl ?_)
    refine xca rfl rfl (right_ok h3 h2 a 28 ha (by omega) (by omega)) ?_
    rintro v W5 ⟨rfl, hu5⟩
    repeat (first | refine xau rfl rfl rfl ?_ | refine xgr rfl ?_ | refine xgs rfl rfl ?_ | refine xg0 rfl ?_ | refine xct rfl ?_ | refine xcf rfl ?_ | refine xbk ?_ | refine xsq ?_ | refine xbl ?_ | refine xex rfl ?_)
    refine xca rfl rfl (right_ok h3 h2 a 34 ha (by omega) (by omega)) ?_
    rintro v W6 ⟨rfl, hu6⟩
    refine xpu (pv_xorU (a := rotr a 28) (b := rotr a 34) rfl rfl (rotr_lt _ _ ha) (rotr_lt _ _ ha)) rfl ?_
    repeat (first | refine xau rfl rfl rfl ?_ | refine xgr rfl ?_ | refine xgs rfl rfl ?_ | refine xg0 rfl ?_ | refine xct rfl ?_ | refine xcf rfl ?_ | refine xbk ?_ | refine xsq ?_ | refine xbl ?_ | refine xex rfl ?_)
    refine xca rfl rfl (right_ok h3 h2 a 39 ha (by omega) (by omega)) ?_
    rintro v W7 ⟨rfl, hu7⟩
    refine xpu (pv_xorU (a := rotr a 28 ^^^ rotr a 34) (b := rotr a 39) rfl rfl (xor_lt (rotr_lt _ _ ha) (rotr_lt _ _ ha)) (rotr_lt _ _ ha)) rfl ?_
    repeat (first | refine xau rfl rfl rfl ?_ | refine xgr rfl ?_ | refine xgs rfl rfl ?_ | refine xg0 rfl ?_ | refine xct rfl ?_ | refine xcf rfl ?_ | refine xbk ?_ | refine xsq ?_ | refine xbl ?_ | refine xex rfl ?_)
    have hU7 : Upd [] W W7 := (((((hu1.trans hu2).trans hu3).trans hu4).trans hu5).trans hu6).trans hu7
    have hG7 : Mem W7 gl2 0 (constW.map u64V) := (hG.upd hE).upd hU7
    have hki2 : (constW.map u64V)[i]? = some (u64V ki) := by rw [List.getElem?_map, hki]; rfl
    obtain ⟨t1, t2, ht1, ht2, hround⟩ := roundN_spec a b' c' d e f' g h' ki wi
    refine xen [(5, ptrV' b5), (6, intV' i), (7, u64V wi), (9, u64V e), (10, u64V (rotr e 14 ^^^ rotr e 18 ^^^ rotr e 41)), (2, ptrV' b2), (4, ptrV' b4), (8, u64V a), (11, u64V (rotr a 28 ^^^ rotr a 34 ^^^ rotr a 39)), (17, .agg ((spreadN l).map u64V).toArray), (18, intV' i)] ⟨rfl, rfl, rfl, rfl, rfl, rfl, rfl, rfl, rfl, rfl, rfl, trivial⟩ ?_
    generalize rotr e 14 ^^^ rotr e 18 ^^^ rotr e 41 = s1 at *
    generalize rotr a 28 ^^^ rotr a 34 ^^^ rotr a 39 = s0 at *
    refine take_t1 (hA5.upd hU7) (by rw [Nat.mul_one]; exact hG7 i _ hki2) (fun W hu => by rw [Nat.mul_one]; exact (hG7.upd hu) i _ hki2) hi80 he hf hg t1 ht1 ?_
    intro W8 hu8
    refine take_t2 ((hA5.upd hU7).upd hu8) ha hbb hcc ht2 ?_
    refine take_put ((hA5.upd hU7).upd hu8) ?_
    intro W12 hu12 hA12
    repeat (first | refine xau rfl rfl rfl ?_ | refine xgr rfl ?_ | refine xgs rfl rfl ?_ | refine xg0 rfl ?_ | refine xct rfl ?_ | refine xcf rfl ?_ | refine xbk ?_ | refine xsq ?_ | refine xbl ?_ | refine xex rfl ?_)
    refine xpu (pv_addI (a := i) (b := 1) rfl rfl (by omega)) rfl ?_
    repeat (first | refine xau rfl rfl rfl ?_ | refine xgr rfl ?_ | refine xgs rfl rfl ?_ | refine xg0 rfl ?_ | refine xct rfl ?_ | refine xcf rfl ?_ | refine xbk ?_ | refine xsq ?_ | refine xbl ?_ | refine xex rfl ?_)
    have hU12 : Upd [b5] W W12 := ((hU7.trans hu8).mono (m := [b5]) (by simp)).trans hu12 (by simp)
    refine xag (i + 1, roundN [a, b', c', d, e, f', g, h'] ki wi) ⟨hi80, by rw [hround]; rfl, ?_, ?_, hE.trans hU12 (fun b hb => .inr (by simp at hb; omega)), hA2.upd hU12 (by simp; omega), hA4.upd hU12 (by simp; omega), ?_⟩ (by show 80 - (i + 1) < 80 - i; omega) ⟨rfl, rfl, rfl, rfl, rfl, trivial⟩
    · rw [hround]
      intro x hx
      simp only [List.mem_cons, List.not_mem_nil, or_false] at hx
      rcases hx with rfl | rfl | rfl | rfl | rfl | rfl | rfl | rfl
      all_goals first | exact Nat.mod_lt _ (by decide) | assumption
    · rw [← hres]
      rw [drop_cons hki, drop_cons hwi, roundsN_cons]
    · rw [hround]; exact hA12
  · simp only [decide_eq_false_iff_not] at h5
    have : i = 80 := by omega
    subst this
    have hfin : takeN H l = List.zipWith (fun x y => (x + y) % 18446744073709551616) H cur := by
      rw [takeN, ← hres]
      rw [List.drop_eq_nil_of_le (Nat.le_of_eq hcl), roundsN_nil]
    obtain ⟨x0, x1, x2, x3, x4, x5, x6, x7, rfl⟩ : ∃ a b c d e f g h, H = [a, b, c, d, e, f, g, h] := list8 hH
    obtain ⟨y0, y1, y2, y3, y4, y5, y6, y7, rfl⟩ : ∃ a b c d e f g h, cur = [a, b, c, d, e, f, g, h] := list8 hcur
    repeat (first | refine xtm rfl rfl rfl ?_ | refine xgr rfl ?_ | refine xgs rfl rfl ?_ | refine xg0 rfl ?_ | refine xct rfl ?_ | refine xcf rfl ?_ | refine xbk ?_ | refine xsq ?_ | refine xbl ?_ | refine xex rfl ?_)
    refine xlo (S := Nat) (fun j V => j ≤ 8 ∧ Upd [b2] W V ∧ Blk V b2 ((List.zipWith (fun x y => u64V ((x + y) % 18446744073709551616)) ([x0, x1, x2, x3, x4, x5, x6, x7].take j) ([y0, y1, y2, y3, y4, y5, y6, y7].take j)) ++ ([x0, x1, x2, x3, x4, x5, x6, x7].drop j).map u64V))
      (fun j => [(2, ptrV' b2), (4, ptrV' b4), (5, ptrV' b5), (93, intV' j)]) (fun j => 8 - j) 0 ⟨by omega, Upd.refl _ _, hA2⟩ ⟨rfl, rfl, rfl, rfl, trivial⟩ ?_
    rintro j V ⟨j1, jU, jB⟩
    repeat (first | refine xtm rfl rfl rfl ?_ | refine xgr rfl ?_ | refine xgs rfl rfl ?_ | refine xg0 rfl ?_ | refine xct rfl ?_ | refine xcf rfl ?_ | refine xbk ?_ | refine xsq ?_ | refine xbl ?_ | refine xex rfl ?_)
    by_cases hj8 : j < 8
    · refine xpu (pv_lssI (a := j) (b := 8) (q := true) rfl rfl (by simpa using hj8)) rfl ?_
      repeat (first | refine xtm rfl rfl rfl ?_ | refine xgr rfl ?_ | refine xgs rfl rfl ?_ | refine xg0 rfl ?_ | refine xct rfl ?_ | refine xcf rfl ?_ | refine xbk ?_ | refine xsq ?_ | refine xbl ?_ | refine xex rfl ?_)
      have hV5 : Blk V b5 ([y0, y1, y2, y3, y4, y5, y6, y7].map u64V) := hA5.upd jU (by simp; omega)
      obtain ⟨xx, yy, hxx, hyy, hsp⟩ := zip_step (fun x y => u64V ((x + y) % 18446744073709551616)) u64V [x0, x1, x2, x3, x4, x5, x6, x7] [y0, y1, y2, y3, y4, y5, y6, y7] rfl rfl j hj8
      have hlen : ((List.zipWith (fun x y => u64V ((x + y) % 18446744073709551616)) ([x0, x1, x2, x3, x4, x5, x6, x7].take j) ([y0, y1, y2, y3, y4, y5, y6, y7].take j)) ++ ([x0, x1, x2, x3, x4, x5, x6, x7].drop j).map u64V).length = 8 := by
        simp; omega
      refine exec_dwr rfl rfl rfl ?_
      repeat (first | refine ws_auto rfl rfl rfl ?_ | refine ws_gauto rfl rfl rfl rfl ?_ | refine wgs rfl rfl ?_)
      refine ws_keep _ rfl (fun W' hu => ok_iaddrA (b := b2) (o := 0) rfl rfl j rfl hj8) ?_
      refine ws_keep (u64V xx) rfl (fun W' hu => ok_load1 (b := b2) (o := 0 + j * 1) rfl ((jB.upd hu).cell hxx)) ?_
      repeat (first | refine ws_auto rfl rfl rfl ?_ | refine ws_gauto rfl rfl rfl rfl ?_ | refine wgs rfl rfl ?_)
      refine ws_keep _ rfl (fun W' hu => ok_iaddrA (b := b5) (o := 0) rfl rfl j rfl hj8) ?_
      refine ws_keep (u64V yy) rfl (fun W' hu => ok_load1 (b := b5) (o := 0 + j * 1) rfl ((hV5.upd hu).cell hyy)) ?_
      refine ws_fin fun V1 hv1 => ?_
      refine xpu (pv_addW (a := xx) (b := yy) rfl rfl) rfl ?_
      refine xju (ok_iaddrA (b := b2) (o := 0) rfl rfl j rfl hj8) rfl ?_
      refine exec_store (b := b2) (o := 0 + j * 1) (v := u64V ((xx + yy) % 18446744073709551616)) rfl rfl (jB.upd hv1) rfl (by rw [hlen]; omega) rfl ?_
      intro V2 hv2 _ hB2'
      repeat (first | refine xtm rfl rfl rfl ?_ | refine xgr rfl ?_ | refine xgs rfl rfl ?_ | refine xg0 rfl ?_ | refine xct rfl ?_ | refine xcf rfl ?_ | refine xbk ?_ | refine xsq ?_ | refine xbl ?_ | refine xex rfl ?_)
      refine xpu (pv_addI (a := j) (b := 1) rfl rfl (by omega)) rfl ?_
      repeat (first | refine xtm rfl rfl rfl ?_ | refine xgr rfl ?_ | refine xgs rfl rfl ?_ | refine xg0 rfl ?_ | refine xct rfl ?_ | refine xcf rfl ?_ | refine xbk ?_ | refine xsq ?_ | refine xbl ?_ | refine xex rfl ?_)
      refine xag (j + 1) ⟨by omega, (jU.trans hv1 (by simp)).trans hv2 (by simp), ?_⟩ (by show 8 - (j + 1) < 8 - j; omega) ⟨rfl, rfl, rfl, rfl, trivial⟩
      rw [← hsp]; exact hB2'
    · refine xpu (pv_lssI (a := j) (b := 8) (q := false) rfl rfl (by simpa using hj8)) rfl ?_
      have : j = 8 := by omega
      subst this
      repeat (first | refine xtm rfl rfl rfl ?_ | refine xgr rfl ?_ | refine xgs rfl rfl ?_ | refine xg0 rfl ?_ | refine xct rfl ?_ | refine xcf rfl ?_ | refine xbk ?_ | refine xsq ?_ | refine xbl ?_ | refine xex rfl ?_)
      have hlast : (List.zipWith (fun x y => u64V ((x + y) % 18446744073709551616)) ([x0, x1, x2, x3, x4, x5, x6, x7].take 8) ([y0, y1, y2, y3, y4, y5, y6, y7].take 8)) ++ ([x0, x1, x2, x3, x4, x5, x6, x7].drop 8).map u64V = (takeN [x0, x1, x2, x3, x4, x5, x6, x7] l).map u64V := by
        rw [hfin]; rfl
      rw [hlast] at jB
      have hlt8 : ((takeN [x0, x1, x2, x3, x4, x5, x6, x7] l).map u64V).length = 8 := by rw [hfin]; rfl
      refine exec_loadN (b := b2) (o := 0) (vs := (takeN [x0, x1, x2, x3, x4, x5, x6, x7] l).map u64V) rfl rfl jB.memAll hlt8 ?_
      have hB4' : Blk V b4 (List.replicate 8 (u64V 0)) := hA4.upd jU (by simp; omega)
      refine exec_store (b := b4) (o := 0) (v := .agg ((takeN [x0, x1, x2, x3, x4, x5, x6, x7] l).map u64V).toArray) rfl rfl hB4' (by simp [Value.cells, ← hlt8]) (by simp) (by
        simp only [Value.cells, List.all_eq_true]; intro v hv; simp at hv; obtain ⟨x, _, rfl⟩ := hv; rfl) ?_
      intro V3 hv3 _ hB4
      have hB4'' : Blk V3 b4 ((takeN [x0, x1, x2, x3, x4, x5, x6, x7] l).map u64V) := by
        have : splice (List.replicate 8 (u64V 0)) 0 (Value.agg ((takeN [x0, x1, x2, x3, x4, x5, x6, x7] l).map u64V).toArray).cells.toList = (takeN [x0, x1, x2, x3, x4, x5, x6, x7] l).map u64V := by
          simp only [Value.cells, splice, List.take_zero, List.nil_append, Nat.zero_add]
          rw [List.drop_eq_nil_of_le (by rw [List.length_replicate]; exact Nat.le_of_eq hlt8.symm)]
          simp
        rw [this] at hB4; exact hB4
      refine xre hc [_] ⟨⟨b4, 0, _, rfl, hB4''.memAll, hlt8, rfl⟩, trivial⟩ ⟨rfl, ?_⟩
      exact ((hE.trans jU (fun b hb => .inr (by simp at hb; omega))).trans hv3 (fun b hb => .inr (by simp at hb; omega)))
end
end Go.Sp

namespace Go.Sp
section
variable {P : Program} {e : Env} {w : World}
theorem _root_.Go.Sp.Blk.memPre {b : Nat} {cs rest : List Value} (h : Blk w b (cs ++ rest)) : Mem w b 0 cs := h.mem 0 fun i v hi => by
  rw [Nat.zero_add, List.getElem?_append_left (List.getElem?_eq_some_iff.1 hi).1]; exact hi
theorem ok_s2arr {x : Operand} {a : Option Addr} {len cap m : Nat} (hx : e.ev x = some (.slice a len cap)) (h : m ≤ len) : OpOK P (.s2arr m x) e w (Just (.pointer a) w) :=
  ok_val fun b hk => by simp [MOp.sem, Env.ok_ev hk hx, show ¬ len < m by omega]
theorem ok_b2b {x : Operand} {b o len cap : Nat} {cs : List Value} (hx : e.ev x = some (.slice (some ⟨b, o, none⟩) len cap)) (hB : Blk w b cs) :
    OpOK P (.b2b x) e w fun v W => v = .slice (some ⟨b, o, none⟩) len cap ∧ Upd [b] w W ∧ W.heap.size = w.heap.size ∧ Mem W b 0 cs := by
  obtain ⟨T, hT⟩ := hB
  have hsh : w.shape? b = some (T, cs.length) := by simp [World.shape?, hT]
  have hblt : b < w.heap.size := (Array.getElem?_eq_some_iff.1 hT).1
  have hWs : (w.freeze ⟨b, cs.length, none⟩ 1).heap.size = w.heap.size := by simp [World.freeze]
  have hWb : (w.freeze ⟨b, cs.length, none⟩ 1).heap[b]? = some (.cells cs.toArray T (cs.length, cs.length + 1)) := by
    simp [World.freeze, Array.getElem?_modify, hT]
  have hWo : ∀ k, k ≠ b → (w.freeze ⟨b, cs.length, none⟩ 1).heap[k]? = w.heap[k]? := by
    intro k hk
    simp [World.freeze, Array.getElem?_modify, Ne.symm hk]
  intro a hk rd d next Q hn
  have hr : ((MOp.b2b x).sem a.eval).run P w = .ok (.value (.slice (some ⟨b, o, none⟩) len cap)) (w.freeze ⟨b, cs.length, none⟩ 1) := by
    simp [MOp.sem, Env.ok_ev hk hx, markStringish, hsh, World.freeze]
  rw [hr]
  refine hn _ _ ⟨rfl, ⟨rfl, rfl, rfl, ?_, ?_, Nat.le_refl _⟩, ?_, ?_⟩
  · exact Nat.le_of_eq hWs.symm
  · intro k _ hkb
    exact hWo k (by simpa using hkb)
  · exact hWs
  · intro i v hv
    have this := hWb
    simp [World.cell?, this, hv]
theorem ok_growN {T : TypeId} {z : Array Value} {x y : Operand} {m : Nat} (hx : e.ev x = some (.slice none 0 0)) (hy : e.ev y = some (.int .i64 (m : Int))) (h0 : 0 < m) (hm : m < 2 ^ 40) (hz : z.size = 1) :
    OpOK P (.growN T 1 1 z x y) e w fun v W => ∃ b cap cs, v = .slice (some ⟨b, 0, none⟩) m cap ∧ Blk W b cs ∧ cs.length = cap ∧ m ≤ cap ∧ w.heap.size ≤ b ∧ Ext w W := by
  intro a hk rd d next Q hn
  have hcapn := nextslicecap_le (need := m) (cap := 0) (by omega)
  obtain ⟨nc, hnc⟩ : ∃ nc, Question.cut (.appendCap m 0 T) (w.tape w.drawn (.appendCap m 0 T)) = nc := ⟨_, rfl⟩
  have hge : m ≤ nc := by rw [← hnc]; simp [Question.cut]
  obtain ⟨L1, hL1⟩ : ∃ l : List Value, Builtin.zeroCells z m = l.toArray := ⟨_, Array.toArray_toList.symm⟩
  obtain ⟨L2, hL2⟩ : ∃ l : List Value, Builtin.zeroCells z (nc - m) = l.toArray := ⟨_, Array.toArray_toList.symm⟩
  have hl1 : L1.length = m := by
    have : (Builtin.zeroCells z m).size = L1.length := by rw [hL1]; simp
      
    rw [← this]; simp [Builtin.zeroCells, hz]
  have hl2 : L2.length = nc - m := by
    have : (Builtin.zeroCells z (nc - m)).size = L2.length := by rw [hL2]; simp
    rw [← this]; simp [Builtin.zeroCells, hz]
  have hw : IntKind.i64.wrap (m : Int) = m := wrap_i64 (by omega) (by omega)
  have hrun : (growTo T 1 1 z (.slice none 0 0) (.int .i64 m)).run P w = .ok (.slice (some ⟨w.heap.size, 0, none⟩) m nc) (w.drew.alloc (.cells (L1 ++ L2).toArray T)) := by
    have q1 : ¬ ((m : Int) < 0) := by omega
    have q2 : ¬ ((m : Int) * 1 > 2 ^ 48) := by omega
    have q3 : ¬ (0 + m ≤ 0) := by omega
    have q4 : ¬ (((0 + m : Nat) : Int) > IntKind.i64.max) := by simp [IntKind.max, IntKind.bits, IntKind.signed]; omega
    have q5 : ¬ (Builtin.nextslicecap (0 + m) 0 * 1 > 2 ^ 48) := by rw [Nat.zero_add]; omega
    have q6 : ¬ (m * 1 = 0) := by omega
    have hai : (asInt (.int .i64 (m : Int))).run P w = .ok (m : Int) w := by simp [asInt, asIntOf]
    simp only [growTo, Sem.run_bind, hai, Sem.run_pure, Result.andThen_ok, hw, q1, if_false, Int.natCast_one, q2, Int.toNat_natCast, q3, q4, q5, q6, Sem.run_ite]
    simp [hnc, Question.forced, newRow, hL1, hL2, Builtin.firstCells]
  simp only [MOp.sem, Env.ok_ev hk hx, Env.ok_ev hk hy, Sem.run_bind, hrun, Result.andThen_ok, Sem.run_pure]
  refine hn _ _ ⟨w.heap.size, nc, L1 ++ L2, rfl, alloc_blk w.drew _ T, by simp [hl1, hl2]; omega, hge, Nat.le_refl _, ?_⟩
  exact ((Upd.drew [] w _).trans (Upd.alloc [] _ _)).mono (by simp)
theorem ok_litL {T : TypeId} {m : Nat} {zl : List (Nat × Value)} {ps : List (Nat × Nat × Operand)} {l : List (Nat × Nat × Value)} (cs : List Value) (hp : partsV e ps = some l) (hf : fillL (rleL zl) l = some cs) :
    OpOK P (.mkSlice T m (rle zl) ps) e w fun v W => ∃ b, v = .slice (some ⟨b, 0, none⟩) m m ∧ Blk W b cs ∧ b = w.heap.size ∧ W.heap.size = w.heap.size + 1 ∧ Ext w W := by
  refine (ok_mkSlice hp (fillL_ok l _ cs (by rw [rle_toList]; exact hf))).mono ?_
  rintro v W ⟨rfl, rfl⟩
  exact ⟨w.heap.size, rfl, alloc_blk w cs T, rfl, by simp, Upd.alloc _ _ _⟩
end
end Go.Sp

namespace Go.Sp
theorem splice_all {cs vs : List Value} (h : vs.length = cs.length) : splice cs 0 vs = vs := by
  rw [splice, List.take_zero, List.nil_append, Nat.zero_add, List.drop_eq_nil_of_le (Nat.le_of_eq h.symm), List.append_nil]
theorem filledN_mod (l : List Nat) : (filledN l).length % 128 = 0 := by
  simp [filledN, padN, layN]; omega
theorem layN_len (w : Nat) : (layN w).length = 8 := by simp [layN]
theorem layN_lt (w x : Nat) (h : x ∈ layN w) : x < 256 := by
  simp only [layN, List.mem_map] at h
  obtain ⟨i, _, rfl⟩ := h
  exact Nat.mod_lt _ (by decide)
theorem filledN_lt (l : List Nat) (h : ∀ x ∈ l, x < 256) : ∀ x ∈ filledN l, x < 256 := by
  intro x hx
  simp only [filledN, List.mem_append, List.mem_singleton, List.mem_replicate] at hx
  rcases hx with (((hx | hx) | hx) | hx) | hx
  · exact h x hx
  · omega
  · omega
  · exact layN_lt _ x hx
  · exact layN_lt _ x hx
theorem filledN_len (l : List Nat) : (filledN l).length ≤ l.length + 145 := by
  have : padN l.length < 128 := Nat.mod_lt _ (by decide)
  simp [filledN, layN]; omega
theorem takeN_len {H : List Nat} (hH : H.length = 8) (hr : ∀ b, (roundsN H constW (spreadN b)).length = 8) (l : List Nat) : (takeN H l).length = 8 := by
  rw [takeN, List.length_zipWith, hH, hr]; rfl
theorem roundN_len {v : List Nat} (h : v.length = 8) (k w : Nat) : (roundN v k w).length = 8 := by
  obtain ⟨a, b, c, d, e, f, g, hh, rfl⟩ := list8 h
  rfl
theorem roundsN_len : ∀ (ks ws v : List Nat), v.length = 8 → (roundsN v ks ws).length = 8 := by
  intro ks
  induction ks with
  | nil => intro ws v h; rw [roundsN_nil]; exact h
  | cons k ks ih =>
    intro ws v h
    cases ws with
    | nil => cases v <;> exact h
    | cons w ws => rw [roundsN_cons]; exact ih ws _ (roundN_len h k w)
theorem takeN_length {H : List Nat} (hH : H.length = 8) (l : List Nat) : (takeN H l).length = 8 := takeN_len hH (fun b => roundsN_len _ _ _ hH) l
theorem takeN_lt (H l : List Nat) : ∀ x ∈ takeN H l, x < 18446744073709551616 := by
  have key : ∀ (a b : List Nat), ∀ x ∈ List.zipWith (fun x y => (x + y) % 18446744073709551616) a b, x < 18446744073709551616 := by
    intro a
    induction a with
    | nil => intro b x hx; simp at hx
    | cons y a ih =>
      intro b x hx
      cases b with
      | nil => simp at hx
      | cons z b =>
        simp only [List.zipWith_cons_cons, List.mem_cons] at hx
        rcases hx with rfl | hx
        · exact Nat.mod_lt _ (by decide)
        · exact ih b x hx
  exact key _ _
theorem takesN_ok : ∀ (k : Nat) (H b : List Nat), H.length = 8 → (∀ x ∈ H, x < 18446744073709551616) → (takesN H k b).length = 8 ∧ ∀ x ∈ takesN H k b, x < 18446744073709551616 := by
  intro k
  induction k with
  | zero => intro H b h1 h2; exact ⟨h1, h2⟩
  | succ k ih => intro H b h1 h2; exact ih _ _ (takeN_length h1 _) (takeN_lt _ _)
theorem digestN_len {H : List Nat} (l : List Nat) (hH : H.length = 8) (h64 : ∀ x ∈ H, x < 18446744073709551616) : (digestN H l).length = 64 := by
  obtain ⟨h1, _⟩ := takesN_ok ((filledN l).length / 128) H (filledN l) hH h64
  rw [digestN]
  obtain ⟨a, b, c, d, e, f, g, h, hh⟩ := list8 h1
  rw [hh]
  simp [layN_len]
theorem digestN_lt (H l : List Nat) : ∀ x ∈ digestN H l, x < 256 := by
  intro x hx
  simp only [digestN, List.mem_flatMap] at hx
  obtain ⟨w, _, hw⟩ := hx
  exact layN_lt w x hw
/-- the functions of sha512 -/
structure ShaF (P : Program) where
  gFirst : Nat
  gConst : Nat
  word : Nat
  rot : Nat
  right : Nat
  spread : Nat
  take : Nat
  cloneB : Nat
  lay : Nat
  filled : Nat
  chunk1 : Nat
  chunk : Nat
  digest : Nat
  words : Nat
  sum : Nat
  TS80 : Nat
  T8 : Nat
  TC1 : Nat
  TC2 : Nat
  TL : Nat
  TF : Nat
  TH1 : Nat
  TH2 : Nat
  TH3 : Nat
  T64 : Nat
  TU8 : Nat
  THash : Nat
  E1 : Nat
  h_word : Has P word b_sha512_word
  h_rot : Has P rot b_math_bits_RotateLeft64
  h_right : Has P right (b_sha512_right rot)
  h_spread : Has P spread (b_sha512_spread word right TS80)
  h_take : Has P take (b_sha512_take gFirst gConst spread right T8)
  h_cloneB : Has P cloneB (b_slices_Clone_byte_byte TC1 TC2)
  h_TC1 : P.underlying TC1 = some (.slice E1)
  h_lay : Has P lay (b_sha512_lay TL)
  h_filled : Has P filled (b_sha512_filled cloneB lay TF)
  h_chunk1 : Has P chunk1 b_slices_Chunk_byte_byte_1
  h_chunk : Has P chunk (b_slices_Chunk_byte_byte chunk1 TH1 TH2 TH3)
  h_digest : Has P digest (b_sha512_digest filled chunk take lay T8 T64)
  h_words : Has P words (b_sha512_Words gFirst gConst digest word T8 TU8 T64)
  h_sum : Has P sum (b_sha512_Sum256 words digest THash T64)
/-- where sha512's tables lie -/
structure Tabs {P : Program} (A : ShaF P) (w : World) : Prop where
  first : Mem w A.gFirst 0 (firstW.map u64V)
  const : Mem w A.gConst 0 (constW.map u64V)
theorem Tabs.upd {P : Program} {A : ShaF P} {w w' : World} {l : List Nat} (h : Tabs A w) (hu : Upd l w w') (h1 : A.gFirst ∉ l := by simp) (h2 : A.gConst ∉ l := by simp) : Tabs A w' := ⟨h.first.upd hu h1, h.const.upd hu h2⟩
section
variable {P : Program} {f : Nat} {w : World} (A : ShaF P)
theorem u64cells (H : List Nat) : (Value.agg (H.map u64V).toArray).cells.toList = H.map u64V := by simp [Value.cells]
theorem u64cellok (H : List Nat) : (H.map u64V).all cellValue = true := by
  rw [List.all_eq_true]; intro v hv; simp at hv; obtain ⟨x, _, rfl⟩ := hv; rfl
set_option maxHeartbeats 400000 in
theorem digest_ok (hT : Tabs A w) {v : Value} {H l : List Nat} (hS : SlC w v 1 l.length (l.map u8N)) (hl : l.length < 2 ^ 29) (hb : ∀ x ∈ l, x < 256) (hH : H.length = 8) (h64 : ∀ x ∈ H, x < 18446744073709551616) :
    RetV P A.digest [.agg (H.map u64V).toArray, v] w (.agg ((digestN H l).map u8N).toArray) := by
  refine Ret.of_exec A.h_digest (Nat.le_of_ble_eq_true rfl) fun c hc => ?_
  dsimp only [b_sha512_digest, argEnv]
  refine exec_box rfl rfl ?_
  intro b2 w1 hb2 hs1 hu1 hB2
  rw [u64cells] at hB2
  refine exec_new rfl ?_
  intro b4 w2 hb4 hs2 hu2 hB4
  rw [rle_toList, rleL_one] at hB4
  repeat (first | refine xtm rfl rfl rfl ?_ | refine xgr rfl ?_ | refine xgs rfl rfl ?_ | refine xg0 rfl ?_ | refine xct rfl ?_ | refine xcf rfl ?_ | refine xbk ?_ | refine xsq ?_ | refine xbl ?_ | refine xex rfl ?_)
  refine xca rfl rfl (filled_ok A.h_cloneB A.h_TC1 A.h_lay A.h_filled (hS.upd (hu1.trans hu2) (by simp)) (by omega)) ?_
  rintro v1 w3 ⟨hO, hu3, hf3⟩
  have hlen := filledN_mod l
  have hlen2 := filledN_len l
  have hlen0 : 0 < (filledN l).length := by simp [filledN]; omega
  have hfl := filledN_lt l hb
  have hdig : digestN H l = (takesN H ((filledN l).length / 128) (filledN l)).flatMap layN := rfl
  obtain ⟨htk1, htk2⟩ := takesN_ok ((filledN l).length / 128) H (filledN l) hH h64
  generalize filledN l = B at *
  obtain ⟨K, hK⟩ : ∃ K, K = B.length / 128 := ⟨_, rfl⟩
  have hBK : B.length = 128 * K := by omega
  rw [← hK] at hdig htk1 htk2
  rcases hO with ⟨_, h0, _⟩ | ⟨bF, cap, rest, rfl, hBF, hF1, hF2, hF3⟩
  · omega
  have hMF : Mem w3 bF 0 (B.map u8N) := hBF.mem 0 (fun i v hi => by rw [Nat.zero_add, List.getElem?_append_left (by have := (List.getElem?_eq_some_iff.1 hi).1; exact this)]; exact hi)
  have hbF := hf3 bF (by simp [blkOf])
  have hbFlt := hBF.lt
  refine xca rfl rfl (chunk_ok A.h_chunk _ rfl) ?_
  rintro v2 w4 ⟨bs, bn, rfl, hBs, hBn, hbs, hbn, hu4⟩
  repeat (first | refine xtm rfl rfl rfl ?_ | refine xgr rfl ?_ | refine xgs rfl rfl ?_ | refine xg0 rfl ?_ | refine xct rfl ?_ | refine xcf rfl ?_ | refine xbk ?_ | refine xsq ?_ | refine xbl ?_ | refine xex rfl ?_)
  have z1 := hu1.size
  have z2 := hu2.size
  have z3 := hu3.size
  have z4 := hu4.size
  have j2 := ((hB2.upd hu2).upd hu3).upd hu4
  have j4 := (hB4.upd hu3).upd hu4
  have jF := hMF.upd hu4
  have jE : Ext w w4 := ((hu1.trans hu2).trans hu3).trans hu4
  have l2 := j2.lt
  have l4 := j4.lt
  have lF : bF < w4.heap.size := by omega
  refine exec_rangeF (S := Unit) rfl A.h_chunk1.enters hc.rd [bs, bn] [] (fun k => [chunkV bF k]) (List.range K)
    (fun W hu => chunk1_ok A.h_chunk1 (hBs.upd hu) (hBn.upd hu) hBK hF3 (by omega)) (chunkV bF) (fun _ => rfl) rfl
    w.heap.size [] (fun _ => [b2, b4, bF])
    (fun k _ W => Ext w W ∧ Blk W b4 (List.replicate 64 (.int .u8 0)) ∧ Mem W bF 0 (B.map u8N) ∧ ∃ cur : List Nat, cur.length = 8 ∧ (∀ x ∈ cur, x < 18446744073709551616) ∧ k ≤ K ∧ takesN cur (K - k) (B.drop (128 * k)) = takesN H K B ∧ Blk W b2 (cur.map u64V))
    (fun _ _ _ => False) () ?_ ?_ ?_ ?_ ?_ ?_ ?_ (fun _ => rfl) rfl ?_ ?_ ?_
  · rintro k _ W W' l' ⟨q1, q2, q3, cur, q4, q5, q6, q7, q8⟩ hu hb
    have nn : ∀ x, x ∈ [b2, b4, bF] → x ∉ l' := fun x hx hm => (hb x hm).2 hx
    exact ⟨q1.trans hu (fun b hb' => .inr (hb b hb').1), q2.upd hu (nn _ (by simp)), q3.upd hu (nn _ (by simp)), cur, q4, q5, q6, q7, q8.upd hu (nn _ (by simp))⟩
  · rintro cd _ W W' l' h; exact h.elim
  · exact ⟨jE, j4, jF, H, hH, h64, Nat.zero_le _, by simp, j2⟩
  · omega
  · intro b' hb'
    simp only [List.nil_append, List.mem_cons, List.not_mem_nil, or_false] at hb'
    rcases hb' with h | h | h <;> omega
  · simp
  · intro b' hb'
    simp only [List.mem_cons, List.not_mem_nil, or_false] at hb'
    have hbs' := hBs.lt
    have hbn' := hBn.lt
    rcases hb' with rfl | rfl
    · exact ⟨hbs', by simp, by simp; omega⟩
    · exact ⟨hbn', by simp, by simp; omega⟩
  · rintro y c' k _ W k' hc' ⟨q1, q2, q3, cur, q4, q5, q6, q7, q8⟩ hk' hlw hnw
    have hkk : k' = k ∧ k < K := by
      have h1 := (List.getElem?_eq_some_iff.1 hk')
      obtain ⟨h2, h3⟩ := h1
      simp at h2 h3
      exact ⟨h3.symm, h2⟩
    obtain ⟨rfl, hkK⟩ := hkk
    refine xbk ?_
    refine exec_loadN (b := b2) (o := 0) (vs := cur.map u64V) rfl rfl q8.memAll (by simp [q4]) ?_
    repeat (first | refine xtm rfl rfl rfl ?_ | refine xgr rfl ?_ | refine xgs rfl rfl ?_ | refine xg0 rfl ?_ | refine xct rfl ?_ | refine xcf rfl ?_ | refine xbk ?_ | refine xsq ?_ | refine xbl ?_ | refine xex rfl ?_)
    have hmem : Mem W bF (128 * k') (((B.drop (128 * k')).take 128).map u8N) := by
      have := q3.sub (128 * k') (us := ((B.drop (128 * k')).take 128).map u8N) (fun i v hi => by
        rw [List.getElem?_map] at hi ⊢
        rw [List.getElem?_take] at hi
        split at hi
        · rw [List.getElem?_drop] at hi; exact hi
        · simp at hi)
      rw [Nat.zero_add] at this; exact this
    have hcl : ((B.drop (128 * k')).take 128).length = 128 := by
      have : 128 * (k' + 1) ≤ 128 * K := Nat.mul_le_mul_left _ hkK
      simp; omega
    refine xca rfl rfl (take_ok A.h_word A.h_right A.h_rot A.h_spread A.h_take (hT.const.upd q1) hmem hcl rfl (Nat.le_refl _) (fun x hx => hfl x (List.mem_of_mem_drop (List.mem_of_mem_take hx))) q4 q5) ?_
    rintro v W1 ⟨rfl, hv1⟩
    refine exec_store (b := b2) (o := 0) (v := .agg ((takeN cur ((B.drop (128 * k')).take 128)).map u64V).toArray) rfl rfl (q8.upd hv1) (by simp [Value.cells, takeN_length q4]) (by simp [q4]) (by rw [u64cells]; exact u64cellok _) ?_
    intro W2 hv2 _ hB2'
    have hnew : splice (cur.map u64V) 0 (Value.agg ((takeN cur ((B.drop (128 * k')).take 128)).map u64V).toArray).cells.toList = (takeN cur ((B.drop (128 * k')).take 128)).map u64V := by
      rw [u64cells]; exact splice_all (by simp [q4, takeN_length q4])
    rw [hnew] at hB2'
    repeat (first | refine xtm rfl rfl rfl ?_ | refine xgr rfl ?_ | refine xgs rfl rfl ?_ | refine xg0 rfl ?_ | refine xct rfl ?_ | refine xcf rfl ?_ | refine xbk ?_ | refine xsq ?_ | refine xbl ?_ | refine xex rfl ?_)
    have hb24 : b2 ≠ b4 ∧ b2 ≠ bF := by omega
    refine exec_round_end hc' ⟨(), ⟨(q1.trans hv1).trans hv2 (fun b hb => .inr (by simp at hb; omega)), (q2.upd hv1).upd hv2 (by simp; omega), (q3.upd hv1).upd hv2 (by simp; omega), takeN cur ((B.drop (128 * k')).take 128), takeN_length q4 _, takeN_lt _ _, hkK, ?_, hB2'⟩, ?_, ?_, ?_⟩
    · rw [← q7, show K - k' = (K - (k' + 1)) + 1 by omega]
      show _ = takesN (takeN cur ((B.drop (128 * k')).take 128)) (K - (k' + 1)) ((B.drop (128 * k')).drop 128)
      rw [List.drop_drop]
      congr 2
    · exact (hv1.mono (m := [] ++ [b2, b4, bF]) (by simp)).trans (hv2.mono (m := [] ++ [b2, b4, bF]) (by simp)) (by simp)
    · intro b' hb'; exact .inl hb'
    · intro b' hb'
      have := hlw b' (by simpa using hb')
      have := hv1.size
      have := hv2.size
      omega
  · rintro D0 _ W hD0 ⟨q1, q2, q3, cur, q4, q5, q6, q7, q8⟩ hDm hDn
    rw [List.length_range] at q7
    have hcur : cur = takesN H K B := by rw [← q7]; simp [takesN]
    have hDlt := (Array.getElem?_eq_some_iff.1 hDm).1
    have hDn' : D0 ≠ b2 ∧ D0 ≠ b4 ∧ D0 ≠ bF := by simpa using hDn
    repeat (first | refine xtm rfl rfl rfl ?_ | refine xgr rfl ?_ | refine xgs rfl rfl ?_ | refine xg0 rfl ?_ | refine xct rfl ?_ | refine xcf rfl ?_ | refine xbk ?_ | refine xsq ?_ | refine xbl ?_ | refine xex rfl ?_)
    refine exec_loadN (b := b2) (o := 0) (vs := cur.map u64V) rfl rfl q8.memAll (by simp [q4]) ?_
    repeat (first | refine xtm rfl rfl rfl ?_ | refine xgr rfl ?_ | refine xgs rfl rfl ?_ | refine xg0 rfl ?_ | refine xct rfl ?_ | refine xcf rfl ?_ | refine xbk ?_ | refine xsq ?_ | refine xbl ?_ | refine xex rfl ?_)
    rw [← hcur] at hdig
    have hdlen : (digestN H l).length = 64 := digestN_len l hH h64
    refine xlo (S := Nat × Value) (fun s V => s.1 ≤ 8 ∧ OwnC V s.2 1 ((cur.take s.1).flatMap layN).length (((cur.take s.1).flatMap layN).map u8N) ∧ Ext W V ∧ ∀ b ∈ blkOf s.2, W.heap.size ≤ b)
      (fun s => [(4, ptrV' b4), (6, s.2), (16, .agg (cur.map u64V).toArray), (17, intV' s.1)]) (fun s => 8 - s.1) (0, .slice none 0 0) ⟨by show 0 ≤ 8; omega, .inl ⟨rfl, rfl, rfl⟩, Upd.refl _ _, by simp [blkOf]⟩ ⟨rfl, rfl, rfl, rfl, trivial⟩ ?_
    rintro ⟨j, out⟩ V ⟨j1, jO, jU, jf⟩
    simp only at j1 jO jf
    repeat (first | refine xtm rfl rfl rfl ?_ | refine xgr rfl ?_ | refine xgs rfl rfl ?_ | refine xg0 rfl ?_ | refine xct rfl ?_ | refine xcf rfl ?_ | refine xbk ?_ | refine xsq ?_ | refine xbl ?_ | refine xex rfl ?_)
    by_cases hj8 : j < 8
    · refine xpu (pv_lssI (a := j) (b := 8) (q := true) rfl rfl (by simpa using hj8)) rfl ?_
      repeat (first | refine xtm rfl rfl rfl ?_ | refine xgr rfl ?_ | refine xgs rfl rfl ?_ | refine xg0 rfl ?_ | refine xct rfl ?_ | refine xcf rfl ?_ | refine xbk ?_ | refine xsq ?_ | refine xbl ?_ | refine xex rfl ?_)
      obtain ⟨x, hx⟩ : ∃ x, cur[j]? = some x := ⟨_, List.getElem?_eq_getElem (by omega)⟩
      refine xju (ok_idx1 (v := u64V x) rfl rfl j rfl hj8 (by simp [hx])) rfl ?_
      repeat (first | refine xtm rfl rfl rfl ?_ | refine xgr rfl ?_ | refine xgs rfl rfl ?_ | refine xg0 rfl ?_ | refine xct rfl ?_ | refine xcf rfl ?_ | refine xbk ?_ | refine xsq ?_ | refine xbl ?_ | refine xex rfl ?_)
      have hlj : ((cur.take j).flatMap layN).length ≤ 64 := by
        have : ∀ L : List Nat, (L.flatMap layN).length = 8 * L.length := by
          intro L
          induction L with
          | nil => rfl
          | cons a L ih => simp only [List.flatMap_cons, List.length_append, List.length_cons, layN_len, ih]; omega
        rw [this]; simp; omega
      refine xca rfl rfl (lay_ok A.h_lay x jO (by omega) (q5 x (List.mem_of_getElem? hx))) ?_
      rintro v W1 ⟨hO1, hv1, hf1⟩
      repeat (first | refine xtm rfl rfl rfl ?_ | refine xgr rfl ?_ | refine xgs rfl rfl ?_ | refine xg0 rfl ?_ | refine xct rfl ?_ | refine xcf rfl ?_ | refine xbk ?_ | refine xsq ?_ | refine xbl ?_ | refine xex rfl ?_)
      refine xpu (pv_addI (a := j) (b := 1) rfl rfl (by omega)) rfl ?_
      repeat (first | refine xtm rfl rfl rfl ?_ | refine xgr rfl ?_ | refine xgs rfl rfl ?_ | refine xg0 rfl ?_ | refine xct rfl ?_ | refine xcf rfl ?_ | refine xbk ?_ | refine xsq ?_ | refine xbl ?_ | refine xex rfl ?_)
      have htj : cur.take (j + 1) = cur.take j ++ [x] := by rw [List.take_add_one, hx]; rfl
      have hfm : (cur.take (j + 1)).flatMap layN = (cur.take j).flatMap layN ++ layN x := by rw [htj, List.flatMap_append]; simp
      have hjs := jU.size
      refine xag (j + 1, v) ⟨hj8, ?_, jU.trans hv1 (fun b hb => .inr (jf b hb)), ?_⟩ (by show 8 - (j + 1) < 8 - j; omega) ⟨rfl, rfl, rfl, rfl, trivial⟩
      · show OwnC W1 v 1 ((cur.take (j + 1)).flatMap layN).length _
        rw [hfm, List.length_append, layN_len]; exact hO1
      · intro b hb
        rcases hf1 b hb with h | h
        · exact jf b h
        · omega
    · refine xpu (pv_lssI (a := j) (b := 8) (q := false) rfl rfl (by simpa using hj8)) rfl ?_
      have : j = 8 := by omega
      subst this
      repeat (first | refine xtm rfl rfl rfl ?_ | refine xgr rfl ?_ | refine xgs rfl rfl ?_ | refine xg0 rfl ?_ | refine xct rfl ?_ | refine xcf rfl ?_ | refine xbk ?_ | refine xsq ?_ | refine xbl ?_ | refine xex rfl ?_)
      have e8 : cur.take 8 = cur := List.take_of_length_le (by omega)
      rw [e8, ← hdig, hdlen] at jO
      rcases jO with ⟨_, h0, _⟩ | ⟨bo, cap', rest', rfl, hBo, ho1, ho2, ho3⟩
      · cases h0
      have hbo := jf bo (by simp [blkOf])
      refine xju (ok_s2arr rfl (by omega)) rfl ?_
      have hmo : Mem V bo 0 ((digestN H l).map u8N) := hBo.mem 0 (fun i v hi => by rw [Nat.zero_add, List.getElem?_append_left (by have := (List.getElem?_eq_some_iff.1 hi).1; exact this)]; exact hi)
      refine exec_loadN (b := bo) (o := 0) (vs := (digestN H l).map u8N) rfl rfl hmo (by simp [hdlen]) ?_
      have hbl4 := q2.lt
      refine exec_store (b := b4) (o := 0) (v := .agg ((digestN H l).map u8N).toArray) rfl rfl (q2.upd jU) (by simp [Value.cells, hdlen]) (by simp) (by simp only [Value.cells]; exact u8N_cell _) ?_
      intro V2 hv2 _ hB4'
      have hnew : splice (List.replicate 64 (Value.int .u8 0)) 0 (Value.agg ((digestN H l).map u8N).toArray).cells.toList = (digestN H l).map u8N := by
        exact splice_all (by simp [Value.cells, hdlen])
      rw [hnew] at hB4'
      have hDV : V2.heap[D0]? = some (.deferred (some [])) := (hv2.block D0 (by have := jU.size; omega) (by simp; omega)).trans ((jU.block D0 hDlt (by simp)).trans hDm)
      refine exec_returnM hc [D0] rfl (by simp) (by simpa using hDV) [.agg ((digestN H l).map u8N).toArray] fun W' hu' hs' => ?_
      refine ⟨⟨⟨b4, 0, _, rfl, (hB4'.upd hu' (by simp; omega)).memAll, by simp [hdlen], rfl⟩, trivial⟩, rfl, ?_⟩
      have hz4 := hu4.size
      exact ((q1.trans jU).trans hv2 (fun b hb => .inr (by simp at hb; omega))).trans hu' (fun b hb => .inr (by simp at hb; omega))
  · rintro cd D0 _ W hD0 h; exact h.elim
end
end Go.Sp

namespace Go.Sp
def firstX : List Nat := firstW.map (· ^^^ 11936128518282651045)
def nameN : List Nat := [83, 72, 65, 45, 53, 49, 50, 47, 50, 53, 54]
theorem firstX_lt : ∀ x ∈ firstX, x < 18446744073709551616 := by decide
theorem firstW_lt : ∀ x ∈ firstW, x < 18446744073709551616 := by decide
theorem wordsN_eq : wordsN = (List.range 8).map fun i => wordN (((digestN firstX nameN).drop (8 * i)).take 8) := rfl
theorem wordsN_len : wordsN.length = 8 := by rw [wordsN_eq]; simp
theorem wordsN_lt : ∀ x ∈ wordsN, x < 18446744073709551616 := by
  intro x hx
  rw [wordsN_eq] at hx
  simp only [List.mem_map] at hx
  obtain ⟨i, _, rfl⟩ := hx
  exact wordN_lt _ fun y hy => digestN_lt _ _ y (List.mem_of_mem_drop (List.mem_of_mem_take hy))
section
variable {P : Program} {f : Nat} {w : World} (A : ShaF P)
set_option maxHeartbeats 400000 in
theorem words_ok (hT : Tabs A w) : RetV P A.words [] w (.agg (wordsN.map u64V).toArray) := by
  have hdl : (digestN firstX nameN).length = 64 := digestN_len _ rfl firstX_lt
  have hdlt := digestN_lt firstX nameN
  have hwl := wordsN_len
  have hwi : ∀ j, j < 8 → wordsN[j]? = some (wordN (((digestN firstX nameN).drop (8 * j)).take 8)) := by
    intro j hj
    rw [wordsN_eq, List.getElem?_map, List.getElem?_range hj]; rfl
  refine Ret.of_exec A.h_words (Nat.le_of_ble_eq_true rfl) fun c hc => ?_
  dsimp only [b_sha512_Words, argEnv]
  refine exec_new rfl ?_
  intro b0 w1 hb0 hs1 hu1 hB0
  rw [rle_toList, rleL_one] at hB0
  refine exec_loadN (b := A.gFirst) (o := 0) (vs := firstW.map u64V) rfl rfl (hT.first.upd hu1) rfl ?_
  refine exec_new_store (v := .agg (firstW.map u64V).toArray) rfl rfl rfl rfl rfl (by rw [u64cells]; exact u64cellok _) ?_
  intro b1 w2 hb1 hs2 hu2 hB1
  rw [u64cells] at hB1
  have hne01 : b0 ≠ b1 := by omega
  repeat (first | refine xtm rfl rfl rfl ?_ | refine xgr rfl ?_ | refine xgs rfl rfl ?_ | refine xg0 rfl ?_ | refine xct rfl ?_ | refine xcf rfl ?_ | refine xbk ?_ | refine xsq ?_ | refine xbl ?_ | refine xex rfl ?_)
  refine exec_inner_join (S := Unit) (fun _ V => Ext w V ∧ Blk V b0 (List.replicate 8 (.int .u64 0)) ∧ Blk V b1 (firstX.map u64V)) (fun _ => [(0, ptrV' b0), (1, ptrV' b1)]) ?_ ?_
  · refine xlo (S := Nat) (fun j V => j ≤ 8 ∧ Ext w V ∧ Blk V b0 (List.replicate 8 (.int .u64 0)) ∧ Blk V b1 (List.zipWith (fun x _ => u64V (x ^^^ 11936128518282651045)) (firstW.take j) (firstW.take j) ++ (firstW.drop j).map u64V))
      (fun j => [(0, ptrV' b0), (1, ptrV' b1), (6, intV' j)]) (fun j => 8 - j) 0 ⟨by omega, hu1.trans hu2, hB0.upd hu2, hB1⟩ ⟨rfl, rfl, rfl, trivial⟩ ?_
    rintro j V ⟨j1, jU, j0, jB⟩
    repeat (first | refine xtm rfl rfl rfl ?_ | refine xgr rfl ?_ | refine xgs rfl rfl ?_ | refine xg0 rfl ?_ | refine xct rfl ?_ | refine xcf rfl ?_ | refine xbk ?_ | refine xsq ?_ | refine xbl ?_ | refine xex rfl ?_)
    by_cases hj8 : j < 8
    · refine xpu (pv_lssI (a := j) (b := 8) (q := true) rfl rfl (by simpa using hj8)) rfl ?_
      repeat (first | refine xtm rfl rfl rfl ?_ | refine xgr rfl ?_ | refine xgs rfl rfl ?_ | refine xg0 rfl ?_ | refine xct rfl ?_ | refine xcf rfl ?_ | refine xbk ?_ | refine xsq ?_ | refine xbl ?_ | refine xex rfl ?_)
      obtain ⟨xx, yy, hxx, hyy, hsp⟩ := zip_step (fun x _ => u64V (x ^^^ 11936128518282651045)) u64V firstW firstW rfl rfl j hj8
      have hlen : (List.zipWith (fun x _ => u64V (x ^^^ 11936128518282651045)) (firstW.take j) (firstW.take j) ++ (firstW.drop j).map u64V).length = 8 := by
        simp [firstW]; omega
      have hxl : xx < 18446744073709551616 := by
        rw [Nat.zero_add, Nat.mul_one, List.getElem?_append_right (by simp [firstW]; omega)] at hxx
        have := List.mem_of_getElem? hxx
        simp only [List.mem_map] at this
        obtain ⟨y, hy1, hy2⟩ := this
        have e : y = xx := by simp [u64V] at hy2; omega
        exact firstW_lt _ (e ▸ List.mem_of_mem_drop hy1)
      refine xju (ok_iaddrA (b := b1) (o := 0) rfl rfl j rfl hj8) rfl ?_
      refine exec_load1 (b := b1) (o := 0 + j * 1) (v := u64V xx) rfl rfl (jB.cell hxx) ?_
      refine xpu (pv_xorU (a := xx) (b := 11936128518282651045) rfl rfl hxl (by omega)) rfl ?_
      refine xju (ok_iaddrA (b := b1) (o := 0) rfl rfl j rfl hj8) rfl ?_
      refine exec_store (b := b1) (o := 0 + j * 1) (v := u64V (xx ^^^ 11936128518282651045)) rfl rfl jB rfl (by rw [hlen]; omega) rfl ?_
      intro V2 hv2 _ hB2
      repeat (first | refine xtm rfl rfl rfl ?_ | refine xgr rfl ?_ | refine xgs rfl rfl ?_ | refine xg0 rfl ?_ | refine xct rfl ?_ | refine xcf rfl ?_ | refine xbk ?_ | refine xsq ?_ | refine xbl ?_ | refine xex rfl ?_)
      refine xpu (pv_addI (a := j) (b := 1) rfl rfl (by omega)) rfl ?_
      repeat (first | refine xtm rfl rfl rfl ?_ | refine xgr rfl ?_ | refine xgs rfl rfl ?_ | refine xg0 rfl ?_ | refine xct rfl ?_ | refine xcf rfl ?_ | refine xbk ?_ | refine xsq ?_ | refine xbl ?_ | refine xex rfl ?_)
      refine xag (j + 1) ⟨by omega, jU.trans hv2 (fun b hb => .inr (by simp at hb; omega)), j0.upd hv2 (by simp; omega), ?_⟩ (by show 8 - (j + 1) < 8 - j; omega) ⟨rfl, rfl, rfl, trivial⟩
      have e1 : (Value.cells (u64V (xx ^^^ 11936128518282651045))).toList = [u64V (xx ^^^ 11936128518282651045)] := rfl
      rw [e1, hsp] at hB2; exact hB2
    · refine xpu (pv_lssI (a := j) (b := 8) (q := false) rfl rfl (by simpa using hj8)) rfl ?_
      have : j = 8 := by omega
      subst this
      repeat (first | refine xtm rfl rfl rfl ?_ | refine xgr rfl ?_ | refine xgs rfl rfl ?_ | refine xg0 rfl ?_ | refine xct rfl ?_ | refine xcf rfl ?_ | refine xbk ?_ | refine xsq ?_ | refine xbl ?_ | refine xex rfl ?_)
      exact exec_meet () ⟨jU, j0, jB⟩ ⟨rfl, rfl, trivial⟩
  rintro _ V ⟨jU, j0, jB⟩
  refine exec_loadN (b := b1) (o := 0) (vs := firstX.map u64V) rfl rfl jB.memAll rfl ?_
  refine exec_litL (N := 1) (cs := nameN.map u8N) rfl rfl rfl rfl ?_
  intro bn V1 hbn hv1s hv1 hO1
  have jz := jU.size
  have j1lt := jB.lt
  have j0lt := j0.lt
  rcases hO1 with ⟨h, _⟩ | ⟨b', cap', rest', hv, hBn, _⟩
  · cases h
  cases hv
  refine exec_ok (ok_b2b rfl hBn) rfl ?_
  rintro v V2 ⟨rfl, hv2, hs2, hM2⟩
  have hv12 : Ext V V2 := hv1.trans hv2 (fun b hb => .inr (by simp at hb; omega))
  have hSn : SlC V2 (.slice (some ⟨bn, 0, none⟩) 11 11) 1 nameN.length (nameN.map u8N) := .inr ⟨bn, 0, 11, rfl, hM2.sub 0 (fun i v hi => by
    rw [Nat.zero_add, List.getElem?_append_left (by have := (List.getElem?_eq_some_iff.1 hi).1; simpa [nameN] using this)]; exact hi), rfl, by decide⟩
  refine xca rfl rfl (digest_ok A (hT.upd (jU.trans hv12)) (H := firstX) (l := nameN) hSn (by decide) (by decide) rfl firstX_lt) ?_
  rintro v V3 ⟨rfl, hv3⟩
  refine exec_new_store (v := .agg ((digestN firstX nameN).map u8N).toArray) rfl rfl rfl (by simp [Value.cells, hdl]) rfl (by simp only [Value.cells]; exact u8N_cell _) ?_
  intro b3 V4 hb3 hs4 hv4 hB3
  have hB3' : Blk V4 b3 ((digestN firstX nameN).map u8N) := by simpa [Value.cells] using hB3
  generalize digestN firstX nameN = dg at *
  repeat (first | refine xtm rfl rfl rfl ?_ | refine xgr rfl ?_ | refine xgs rfl rfl ?_ | refine xg0 rfl ?_ | refine xct rfl ?_ | refine xcf rfl ?_ | refine xbk ?_ | refine xsq ?_ | refine xbl ?_ | refine xex rfl ?_)
  have z12 := hv12.size
  have z3 := hv3.size
  have k0 := ((j0.upd hv12).upd hv3).upd hv4
  have k1 := ((jB.upd hv12).upd hv3).upd hv4
  refine xlo (S := Nat) (fun j W => j ≤ 8 ∧ Upd [b1] V4 W ∧ Blk W b1 (List.zipWith (fun _ y => u64V y) (firstX.take j) (wordsN.take j) ++ (firstX.drop j).map u64V))
    (fun j => [(0, ptrV' b0), (1, ptrV' b1), (3, ptrV' b3), (19, intV' j)]) (fun j => 8 - j) 0 ⟨by omega, Upd.refl _ _, k1⟩ ⟨rfl, rfl, rfl, rfl, trivial⟩ ?_
  rintro j W ⟨q1, qU, qB⟩
  repeat (first | refine xtm rfl rfl rfl ?_ | refine xgr rfl ?_ | refine xgs rfl rfl ?_ | refine xg0 rfl ?_ | refine xct rfl ?_ | refine xcf rfl ?_ | refine xbk ?_ | refine xsq ?_ | refine xbl ?_ | refine xex rfl ?_)
  by_cases hj8 : j < 8
  · refine xpu (pv_lssI (a := j) (b := 8) (q := true) rfl rfl (by simpa using hj8)) rfl ?_
    repeat (first | refine xtm rfl rfl rfl ?_ | refine xgr rfl ?_ | refine xgs rfl rfl ?_ | refine xg0 rfl ?_ | refine xct rfl ?_ | refine xcf rfl ?_ | refine xbk ?_ | refine xsq ?_ | refine xbl ?_ | refine xex rfl ?_)
    refine xpu (pv_mulI (a := 8) (b := j) rfl rfl (by omega)) rfl ?_
    refine xju (ok_slA (b := b3) (o := 0) (8 * j) 64 rfl ⟨.i64, rfl⟩ rfl (by omega) (by omega)) rfl ?_
    have hM3 : Mem W b3 0 (dg.map u8N) := (hB3'.upd qU (by simp; omega)).memAll
    have hSl : SlC W (.slice (some ⟨b3, 0 + 8 * j * 1, none⟩) (64 - 8 * j) (64 - 8 * j)) 1 (64 - 8 * j) ((dg.drop (8 * j)).map u8N) := by
      refine .inr ⟨b3, 0 + 8 * j * 1, 64 - 8 * j, rfl, ?_, by simp [hdl], Nat.le_refl _⟩
      have := hM3.sub (8 * j) (us := (dg.drop (8 * j)).map u8N) (fun i v hi => by rw [List.getElem?_map] at hi ⊢; rw [List.getElem?_drop] at hi; exact hi)
      rwa [Nat.mul_one]
    rw [if_neg (show ¬ 64 = 8 * j by omega)]
    refine xca rfl rfl (word_ok A.h_word hSl (by simp [hdl]; omega) (by simp [hdl]) (fun x hx => hdlt x (List.mem_of_mem_drop hx))) ?_
    rintro v W1 ⟨rfl, hw1⟩
    refine xju (ok_iaddrA (b := b1) (o := 0) rfl rfl j rfl hj8) rfl ?_
    obtain ⟨xx, yy, hxx, hyy, hsp⟩ := zip_step (fun _ y => u64V y) u64V firstX wordsN rfl hwl j hj8
    have hyv : yy = wordN ((dg.drop (8 * j)).take 8) := by
      rw [Nat.zero_add, Nat.mul_one, List.getElem?_map, hwi j hj8] at hyy
      simp [u64V] at hyy; omega
    have hlen : (List.zipWith (fun _ y => u64V y) (firstX.take j) (wordsN.take j) ++ (firstX.drop j).map u64V).length = 8 := by
      have : firstX.length = 8 := rfl
      simp [hwl, this]; omega
    rw [← hyv]
    refine exec_store (b := b1) (o := 0 + j * 1) (v := u64V yy) rfl rfl (qB.upd hw1) rfl (by rw [hlen]; omega) rfl ?_
    intro W2 hw2 _ hB2
    repeat (first | refine xtm rfl rfl rfl ?_ | refine xgr rfl ?_ | refine xgs rfl rfl ?_ | refine xg0 rfl ?_ | refine xct rfl ?_ | refine xcf rfl ?_ | refine xbk ?_ | refine xsq ?_ | refine xbl ?_ | refine xex rfl ?_)
    refine xpu (pv_addI (a := j) (b := 1) rfl rfl (by omega)) rfl ?_
    repeat (first | refine xtm rfl rfl rfl ?_ | refine xgr rfl ?_ | refine xgs rfl rfl ?_ | refine xg0 rfl ?_ | refine xct rfl ?_ | refine xcf rfl ?_ | refine xbk ?_ | refine xsq ?_ | refine xbl ?_ | refine xex rfl ?_)
    refine xag (j + 1) ⟨by omega, (qU.trans hw1 (by simp)).trans hw2 (by simp), ?_⟩ (by show 8 - (j + 1) < 8 - j; omega) ⟨rfl, rfl, rfl, rfl, trivial⟩
    have e1 : (Value.cells (u64V yy)).toList = [u64V yy] := rfl
    rw [e1, hsp] at hB2; exact hB2
  · refine xpu (pv_lssI (a := j) (b := 8) (q := false) rfl rfl (by simpa using hj8)) rfl ?_
    have : j = 8 := by omega
    subst this
    repeat (first | refine xtm rfl rfl rfl ?_ | refine xgr rfl ?_ | refine xgs rfl rfl ?_ | refine xg0 rfl ?_ | refine xct rfl ?_ | refine xcf rfl ?_ | refine xbk ?_ | refine xsq ?_ | refine xbl ?_ | refine xex rfl ?_)
    have hlast : List.zipWith (fun _ y => u64V y) (firstX.take 8) (wordsN.take 8) ++ (firstX.drop 8).map u64V = wordsN.map u64V := by
      obtain ⟨a, b, c', d, e, f', g, h, hh⟩ := list8 hwl
      rw [hh]; rfl
    rw [hlast] at qB
    refine exec_loadN (b := b1) (o := 0) (vs := wordsN.map u64V) rfl rfl qB.memAll (by simp [hwl]) ?_
    refine exec_store (b := b0) (o := 0) (v := .agg (wordsN.map u64V).toArray) rfl rfl (k0.upd qU (by simp; omega)) (by simp [Value.cells, hwl]) (by simp) (by rw [u64cells]; exact u64cellok _) ?_
    intro W2 hw2 _ hB2
    rw [u64cells, splice_all (by simp [hwl])] at hB2
    refine xre hc [_] ⟨⟨b0, 0, _, rfl, hB2.memAll, by simp [hwl], rfl⟩, trivial⟩ ⟨rfl, ?_⟩
    have e1 : Ext w V4 := ((jU.trans hv12).trans hv3).trans hv4
    exact (e1.trans qU (fun b hb => .inr (by simp at hb; omega))).trans hw2 (fun b hb => .inr (by simp at hb; omega))
theorem sum_ok (hT : Tabs A w) {v : Value} {l : List Nat} (hS : SlC w v 1 l.length (l.map u8N)) (hl : l.length < 2 ^ 29) (hb : ∀ x ∈ l, x < 256) : RetV P A.sum [v] w (.agg ((sum256N l).map u8N).toArray) := by
  have hdl : (digestN wordsN l).length = 64 := digestN_len _ wordsN_len wordsN_lt
  refine Ret.of_exec A.h_sum (Nat.le_of_ble_eq_true rfl) fun c hc => ?_
  dsimp only [b_sha512_Sum256, argEnv]
  refine exec_new rfl ?_
  intro b0 w1 hb0 hs1 hu1 hB0
  rw [rle_toList, rleL_one] at hB0
  refine xca rfl rfl (words_ok A (hT.upd hu1)) ?_
  rintro _ w2 ⟨rfl, hu2⟩
  repeat (first | refine xtm rfl rfl rfl ?_ | refine xgr rfl ?_ | refine xgs rfl rfl ?_ | refine xg0 rfl ?_ | refine xct rfl ?_ | refine xcf rfl ?_ | refine xbk ?_ | refine xsq ?_ | refine xbl ?_ | refine xex rfl ?_)
  have hu12 := hu1.trans hu2
  refine xca rfl rfl (digest_ok A (hT.upd hu12) (hS.upd hu12 (by simp)) hl hb wordsN_len wordsN_lt) ?_
  rintro _ w3 ⟨rfl, hu3⟩
  have hsum : sum256N l = (digestN wordsN l).take 32 := rfl
  generalize digestN wordsN l = dg at *
  refine exec_new_store (v := .agg (dg.map u8N).toArray) rfl rfl rfl (by simp [Value.cells, hdl]) rfl (by simp only [Value.cells]; exact u8N_cell _) ?_
  intro b3 w4 hb3 hs4 hu4 hB3
  have hB3' : Blk w4 b3 (dg.map u8N) := by simpa [Value.cells] using hB3
  refine xju (ok_slA (b := b3) (o := 0) 0 32 rfl rfl ⟨.i64, rfl⟩ (by omega) (by omega)) rfl ?_
  refine xju (ok_s2arr rfl (by omega)) rfl ?_
  have hM : Mem w4 b3 (0 + 0 * 1) ((sum256N l).map u8N) := by
    rw [hsum]
    exact hB3'.mem _ (fun i v hi => by
      rw [List.getElem?_map, List.getElem?_take] at hi
      split at hi
      · rw [List.getElem?_map]; simpa using hi
      · simp at hi)
  have hsl : (sum256N l).length = 32 := by rw [hsum]; simp [hdl]
  refine exec_loadN (b := b3) (o := 0 + 0 * 1) (vs := (sum256N l).map u8N) rfl rfl hM (by simp [hsl]) ?_
  have z1 := hu1.size
  have z2 := hu2.size
  have z3 := hu3.size
  refine exec_store (b := b0) (o := 0) (v := .agg ((sum256N l).map u8N).toArray) rfl rfl (((hB0.upd hu2).upd hu3).upd hu4) (by simp [Value.cells, hsl]) (by simp) (by simp only [Value.cells]; exact u8N_cell _) ?_
  intro w5 hu5 _ hB5
  have e5 : (Value.agg ((sum256N l).map u8N).toArray).cells.toList = (sum256N l).map u8N := by simp [Value.cells]
  rw [e5, splice_all (by simp [hsl])] at hB5
  refine xre hc [_] ⟨⟨b0, 0, _, rfl, hB5.memAll, by simp [hsl], rfl⟩, trivial⟩ ⟨rfl, ?_⟩
  exact ((hu12.trans hu3).trans hu4).trans hu5 (fun b hb => .inr (by simp at hb; omega))
end
end Go.Sp

namespace Go.Sp
def bytesN (h : Hash) : List Nat := h.1.map UInt8.toNat
def pairN (l r : Hash) : List Nat := 1 :: (bytesN l ++ bytesN r)
def toHash (l : List Nat) (h : l.length = 32) : Hash := ⟨l.map UInt8.ofNat, by simp [h]⟩
theorem sum256N_len (l : List Nat) : (sum256N l).length = 32 := by
  rw [sum256N, List.length_take, digestN_len _ wordsN_len wordsN_lt]; rfl
theorem sum256N_lt (l : List Nat) : ∀ x ∈ sum256N l, x < 256 := fun x hx => digestN_lt _ _ x (List.mem_of_mem_take hx)
/-- the hash of some bytes -/
def shaH (l : List Nat) : Hash := toHash (sum256N l) (sum256N_len l)
/-- the hash of a pair -/
def parH (l r : Hash) : Hash := shaH (pairN l r)
theorem bytesN_len (h : Hash) : (bytesN h).length = 32 := by simp [bytesN, h.2]
theorem bytesN_lt (h : Hash) : ∀ x ∈ bytesN h, x < 256 := by
  intro x hx; simp only [bytesN, List.mem_map] at hx; obtain ⟨b, _, rfl⟩ := hx; exact b.toNat_lt
theorem bytesN_cells (h : Hash) : (bytesN h).map u8N = hC h := by simp [bytesN, hC, u8N, byteV]
theorem pairN_len (l r : Hash) : (pairN l r).length = 65 := by simp [pairN, bytesN_len]
theorem pairN_lt (l r : Hash) : ∀ x ∈ pairN l r, x < 256 := by
  intro x hx
  simp only [pairN, List.mem_cons, List.mem_append] at hx
  rcases hx with rfl | hx | hx
  · omega
  · exact bytesN_lt l x hx
  · exact bytesN_lt r x hx
theorem toHash_cells {l : List Nat} (h : l.length = 32) (hb : ∀ x ∈ l, x < 256) : hC (toHash l h) = l.map u8N := by
  simp only [hC, toHash, List.map_map]
  refine List.map_congr_left fun x hx => ?_
  have := hb x hx
  simp only [Function.comp, byteV, u8N, Value.int.injEq, true_and]
  rw [UInt8.toNat_ofNat']
  omega
theorem shaH_val (l : List Nat) : Value.agg ((sum256N l).map u8N).toArray = hV (shaH l) := by
  rw [hV, shaH, toHash_cells _ (sum256N_lt l)]
/-- the functions of leaf that pairs go through -/
structure LeafF (P : Program) extends ShaF P where
  growB : Nat
  concat : Nat
  pairText : Nat
  parent : Nat
  TG1 : Nat
  TG2 : Nat
  TK1 : Nat
  TK2 : Nat
  TP1 : Nat
  TP2 : Nat
  TP3 : Nat
  TPH : Nat
  h_growB : Has P growB (b_slices_Grow_byte_byte TG1 TG2)
  h_concat : Has P concat (b_slices_Concat_byte_byte growB TK1 TK2)
  h_pairText : Has P pairText (b_leaf_PairText concat TP1 TP2 TP3)
  h_parent : Has P parent (b_leaf_Parent pairText sum TPH)
section
variable {P : Program} {f : Nat} {w : World} (A : LeafF P)
/-- room for m bytes, of a slice that is nil -/
theorem growB_ok (m : Nat) (h0 : 0 < m) (hm : m < 2 ^ 40) : Ret P A.growB [.slice none 0 0, intV' m] w fun v w' => OwnC w' v 1 0 [] ∧ Ext w w' ∧ ∀ b ∈ blkOf v, w.heap.size ≤ b := by
  refine Ret.of_exec A.h_growB (Nat.le_of_ble_eq_true rfl) fun c hc => ?_
  dsimp only [b_slices_Grow_byte_byte, argEnv]
  repeat (first | refine xtm rfl rfl rfl ?_ | refine xgr rfl ?_ | refine xgs rfl rfl ?_ | refine xgu rfl rfl ?_ | refine xg0 rfl ?_ | refine xct rfl ?_ | refine xcf rfl ?_ | refine xbk ?_ | refine xsq ?_ | refine xbl ?_ | refine xex rfl ?_)
  refine xpu (pv_lssI (a := m) (b := 0) (q := false) rfl rfl (by simp)) rfl ?_
  repeat (first | refine xtm rfl rfl rfl ?_ | refine xgr rfl ?_ | refine xgs rfl rfl ?_ | refine xgu rfl rfl ?_ | refine xg0 rfl ?_ | refine xct rfl ?_ | refine xcf rfl ?_ | refine xbk ?_ | refine xsq ?_ | refine xbl ?_ | refine xex rfl ?_)
  refine xju (ok_capS (a := none) (len := 0) (cap := 0) rfl) rfl ?_
  repeat (first | refine xtm rfl rfl rfl ?_ | refine xgr rfl ?_ | refine xgs rfl rfl ?_ | refine xgu rfl rfl ?_ | refine xg0 rfl ?_ | refine xct rfl ?_ | refine xcf rfl ?_ | refine xbk ?_ | refine xsq ?_ | refine xbl ?_ | refine xex rfl ?_)
  refine xpu (pv_subI (a := 0) (b := 0) rfl rfl (by omega) (by omega)) rfl ?_
  refine xpu (pv_subI (a := m) (b := 0) rfl rfl (by omega) (by omega)) rfl ?_
  repeat (first | refine xtm rfl rfl rfl ?_ | refine xgr rfl ?_ | refine xgs rfl rfl ?_ | refine xgu rfl rfl ?_ | refine xg0 rfl ?_ | refine xct rfl ?_ | refine xcf rfl ?_ | refine xbk ?_ | refine xsq ?_ | refine xbl ?_ | refine xex rfl ?_)
  refine xpu (pv_gtrI (a := m - 0) (b := 0) (q := true) rfl rfl (by simpa using h0)) rfl ?_
  repeat (first | refine xtm rfl rfl rfl ?_ | refine xgr rfl ?_ | refine xgs rfl rfl ?_ | refine xgu rfl rfl ?_ | refine xg0 rfl ?_ | refine xct rfl ?_ | refine xcf rfl ?_ | refine xbk ?_ | refine xsq ?_ | refine xbl ?_ | refine xex rfl ?_)
  refine xju (ok_capS (a := none) (len := 0) (cap := 0) rfl) rfl ?_
  refine xju (ok_slS_nil rfl trivial ⟨.i64, rfl⟩) rfl ?_
  repeat (first | refine xtm rfl rfl rfl ?_ | refine xgr rfl ?_ | refine xgs rfl rfl ?_ | refine xgu rfl rfl ?_ | refine xg0 rfl ?_ | refine xct rfl ?_ | refine xcf rfl ?_ | refine xbk ?_ | refine xsq ?_ | refine xbl ?_ | refine xex rfl ?_)
  refine exec_ok (ok_growN (m := m) rfl rfl h0 hm rfl) rfl ?_
  rintro v W ⟨b, cap, cs, rfl, hB, hl, hc1, hb, hu⟩
  repeat (first | refine xtm rfl rfl rfl ?_ | refine xgr rfl ?_ | refine xgs rfl rfl ?_ | refine xgu rfl rfl ?_ | refine xg0 rfl ?_ | refine xct rfl ?_ | refine xcf rfl ?_ | refine xbk ?_ | refine xsq ?_ | refine xbl ?_ | refine xex rfl ?_)
  refine xju (ok_slS (N := 1) (b := b) (o := 0) (len := m) (cap := cap) 0 0 rfl rfl ⟨.i64, rfl⟩ (by omega) (by omega)) rfl ?_
  repeat (first | refine xtm rfl rfl rfl ?_ | refine xgr rfl ?_ | refine xgs rfl rfl ?_ | refine xgu rfl rfl ?_ | refine xg0 rfl ?_ | refine xct rfl ?_ | refine xcf rfl ?_ | refine xbk ?_ | refine xsq ?_ | refine xbl ?_ | refine xex rfl ?_)
  refine xre hc [_] ⟨rfl, trivial⟩ ⟨.inr ⟨b, cap, cs, ?_, by simpa using hB, by simp, by simpa using hl, by omega⟩, hu, ?_⟩
  · by_cases h : cap = 0
    · simp [single, h]
    · simp [single]
  · intro b' hb'
    have : b' = b := by
      by_cases h : cap = 0
      · simp [single, h, blkOf] at hb'; exact hb'
      · simp [single, blkOf] at hb'; exact hb'
    omega
theorem flat3 (l : List (List Nat)) (i : Nat) (x : List Nat) (h : l[i]? = some x) : (l.take (i + 1)).flatten = (l.take i).flatten ++ x := by
  rw [List.take_add_one, h]; simp
/-- some bytes, one behind the other -/
theorem concat_ok {b o cap k : Nat} {vs : List Value} {ls : List (List Nat)} (hM : Mem w b o vs) (hk : vs.length = k) (hcap : k ≤ cap) (hl : ls.length = k) (hs : ∀ (i : Nat) (v : Value) (l : List Nat), vs[i]? = some v → ls[i]? = some l → SlC w v 1 l.length (l.map u8N)) (h0 : 0 < ls.flatten.length) (hlen : ls.flatten.length < 2 ^ 30) (hk2 : k < 2 ^ 30) :
    RetS P A.concat [.slice (some ⟨b, o, none⟩) k cap] w 1 ls.flatten.length (ls.flatten.map u8N) := by
  have hpre : ∀ i, (ls.take i).flatten.length ≤ ls.flatten.length := by
    intro i
    conv => rhs; rw [← List.take_append_drop i ls]
    rw [List.flatten_append, List.length_append]; omega
  refine Ret.of_exec A.h_concat (Nat.le_of_ble_eq_true rfl) fun c hc => ?_
  dsimp only [b_slices_Concat_byte_byte, argEnv]
  repeat (first | refine xtm rfl rfl rfl ?_ | refine xgr rfl ?_ | refine xgs rfl rfl ?_ | refine xgu rfl rfl ?_ | refine xg0 rfl ?_ | refine xct rfl ?_ | refine xcf rfl ?_ | refine xbk ?_ | refine xsq ?_ | refine xbl ?_ | refine xex rfl ?_)
  refine exec_inner_join (S := Unit) (fun _ V => Ext w V) (fun _ => [(0, .slice (some ⟨b, o, none⟩) k cap), (3, intV' ls.flatten.length)]) ?_ ?_
  · refine xlo (S := Nat) (fun i V => i ≤ k ∧ Ext w V) (fun i => [(0, .slice (some ⟨b, o, none⟩) k cap), (3, intV' (ls.take i).flatten.length), (9, .slice (some ⟨b, o, none⟩) k cap), (10, intV' k), (11, intV' i)]) (fun i => k - i) 0 ⟨by omega, Upd.refl _ _⟩ ⟨rfl, rfl, rfl, rfl, rfl, trivial⟩ ?_
    rintro i V ⟨i1, iU⟩
    repeat (first | refine xtm rfl rfl rfl ?_ | refine xgr rfl ?_ | refine xgs rfl rfl ?_ | refine xgu rfl rfl ?_ | refine xg0 rfl ?_ | refine xct rfl ?_ | refine xcf rfl ?_ | refine xbk ?_ | refine xsq ?_ | refine xbl ?_ | refine xex rfl ?_)
    by_cases hik : i < k
    · refine xpu (pv_lssI (a := i) (b := k) (q := true) rfl rfl (by simpa using hik)) rfl ?_
      repeat (first | refine xtm rfl rfl rfl ?_ | refine xgr rfl ?_ | refine xgs rfl rfl ?_ | refine xgu rfl rfl ?_ | refine xg0 rfl ?_ | refine xct rfl ?_ | refine xcf rfl ?_ | refine xbk ?_ | refine xsq ?_ | refine xbl ?_ | refine xex rfl ?_)
      obtain ⟨v, hv⟩ : ∃ v, vs[i]? = some v := ⟨_, List.getElem?_eq_getElem (by omega)⟩
      obtain ⟨l, hl'⟩ : ∃ v, ls[i]? = some v := ⟨_, List.getElem?_eq_getElem (by omega)⟩
      refine xju (ok_iaddr (N := 1) (b := b) (o := o) (len := k) (cap := cap) rfl rfl i rfl hik) rfl ?_
      refine exec_load1 (b := b) (o := o + i * 1) (v := v) rfl rfl (by rw [Nat.mul_one]; exact (hM.upd iU) i v hv) ?_
      have hSv := (hs i v l hv hl').upd iU (by simp)
      have hlv : pureV [(16, v)] (.lenS (.tmp 16)) = some (intV' l.length) := by
        exact hSv.lenS rfl
      have hlv' : ∃ a n c', v = .slice a n c' ∧ n = l.length := by
        rcases hSv with ⟨rfl | ⟨_, _, _, _, rfl⟩, h2, _⟩ | ⟨b', o', c', rfl, _⟩
        · exact ⟨_, _, _, rfl, h2.symm⟩
        · exact ⟨_, _, _, rfl, h2.symm⟩
        · exact ⟨_, _, _, rfl, rfl⟩
      obtain ⟨a, n', c', rfl, rfl⟩ := hlv'
      repeat (first | refine xtm rfl rfl rfl ?_ | refine xgr rfl ?_ | refine xgs rfl rfl ?_ | refine xgu rfl rfl ?_ | refine xg0 rfl ?_ | refine xct rfl ?_ | refine xcf rfl ?_ | refine xbk ?_ | refine xsq ?_ | refine xbl ?_ | refine xex rfl ?_)
      have hfl := flat3 ls i l hl'
      have hp1 := hpre (i + 1)
      rw [hfl, List.length_append] at hp1
      refine xpu (pv_addI (a := (ls.take i).flatten.length) (b := l.length) rfl rfl (by omega)) rfl ?_
      repeat (first | refine xtm rfl rfl rfl ?_ | refine xgr rfl ?_ | refine xgs rfl rfl ?_ | refine xgu rfl rfl ?_ | refine xg0 rfl ?_ | refine xct rfl ?_ | refine xcf rfl ?_ | refine xbk ?_ | refine xsq ?_ | refine xbl ?_ | refine xex rfl ?_)
      refine xpu (pv_lssI (a := (ls.take i).flatten.length + l.length) (b := 0) (q := false) rfl rfl (by simp)) rfl ?_
      repeat (first | refine xtm rfl rfl rfl ?_ | refine xgr rfl ?_ | refine xgs rfl rfl ?_ | refine xgu rfl rfl ?_ | refine xg0 rfl ?_ | refine xct rfl ?_ | refine xcf rfl ?_ | refine xbk ?_ | refine xsq ?_ | refine xbl ?_ | refine xex rfl ?_)
      refine xpu (pv_addI (a := i) (b := 1) rfl rfl (by omega)) rfl ?_
      repeat (first | refine xtm rfl rfl rfl ?_ | refine xgr rfl ?_ | refine xgs rfl rfl ?_ | refine xgu rfl rfl ?_ | refine xg0 rfl ?_ | refine xct rfl ?_ | refine xcf rfl ?_ | refine xbk ?_ | refine xsq ?_ | refine xbl ?_ | refine xex rfl ?_)
      refine xag (i + 1) ⟨by omega, iU⟩ (by show k - (i + 1) < k - i; omega) ⟨rfl, ?_, rfl, rfl, rfl, trivial⟩
      rw [hfl, List.length_append]; rfl
    · refine xpu (pv_lssI (a := i) (b := k) (q := false) rfl rfl (by simpa using hik)) rfl ?_
      have : i = k := by omega
      subst this
      repeat (first | refine xtm rfl rfl rfl ?_ | refine xgr rfl ?_ | refine xgs rfl rfl ?_ | refine xgu rfl rfl ?_ | refine xg0 rfl ?_ | refine xct rfl ?_ | refine xcf rfl ?_ | refine xbk ?_ | refine xsq ?_ | refine xbl ?_ | refine xex rfl ?_)
      refine exec_meet () iU ⟨rfl, ?_, trivial⟩
      rw [← hl, List.take_length]; rfl
  rintro _ V hV
  repeat (first | refine xtm rfl rfl rfl ?_ | refine xgr rfl ?_ | refine xgs rfl rfl ?_ | refine xgu rfl rfl ?_ | refine xg0 rfl ?_ | refine xct rfl ?_ | refine xcf rfl ?_ | refine xbk ?_ | refine xsq ?_ | refine xbl ?_ | refine xex rfl ?_)
  refine xca rfl rfl (growB_ok A _ h0 (by omega)) ?_
  rintro v V1 ⟨hO1, hu1, hf1⟩
  repeat (first | refine xtm rfl rfl rfl ?_ | refine xgr rfl ?_ | refine xgs rfl rfl ?_ | refine xgu rfl rfl ?_ | refine xg0 rfl ?_ | refine xct rfl ?_ | refine xcf rfl ?_ | refine xbk ?_ | refine xsq ?_ | refine xbl ?_ | refine xex rfl ?_)
  have hV1 := hV.trans hu1
  have zV := hV.size
  refine xlo (S := Nat × Value) (fun s W => s.1 ≤ k ∧ OwnC W s.2 1 (ls.take s.1).flatten.length ((ls.take s.1).flatten.map u8N) ∧ Ext w W ∧ ∀ b ∈ blkOf s.2, w.heap.size ≤ b)
    (fun s => [(0, .slice (some ⟨b, o, none⟩) k cap), (6, s.2), (25, .slice (some ⟨b, o, none⟩) k cap), (26, intV' k), (27, intV' s.1)]) (fun s => k - s.1) (0, v) ⟨Nat.zero_le _, by simpa using hO1, hV1, fun b hb => by have := hf1 b hb; omega⟩ ⟨rfl, rfl, rfl, rfl, rfl, trivial⟩ ?_
  rintro ⟨i, out⟩ W ⟨i1, iO, iU, iF⟩
  simp only at i1 iO iF
  repeat (first | refine xtm rfl rfl rfl ?_ | refine xgr rfl ?_ | refine xgs rfl rfl ?_ | refine xgu rfl rfl ?_ | refine xg0 rfl ?_ | refine xct rfl ?_ | refine xcf rfl ?_ | refine xbk ?_ | refine xsq ?_ | refine xbl ?_ | refine xex rfl ?_)
  by_cases hik : i < k
  · refine xpu (pv_lssI (a := i) (b := k) (q := true) rfl rfl (by simpa using hik)) rfl ?_
    repeat (first | refine xtm rfl rfl rfl ?_ | refine xgr rfl ?_ | refine xgs rfl rfl ?_ | refine xgu rfl rfl ?_ | refine xg0 rfl ?_ | refine xct rfl ?_ | refine xcf rfl ?_ | refine xbk ?_ | refine xsq ?_ | refine xbl ?_ | refine xex rfl ?_)
    obtain ⟨v', hv⟩ : ∃ v, vs[i]? = some v := ⟨_, List.getElem?_eq_getElem (by omega)⟩
    obtain ⟨l, hl'⟩ : ∃ v, ls[i]? = some v := ⟨_, List.getElem?_eq_getElem (by omega)⟩
    refine xju (ok_iaddr (N := 1) (b := b) (o := o) (len := k) (cap := cap) rfl rfl i rfl hik) rfl ?_
    refine exec_load1 (b := b) (o := o + i * 1) (v := v') rfl rfl (by rw [Nat.mul_one]; exact (hM.upd iU) i v' hv) ?_
    repeat (first | refine xtm rfl rfl rfl ?_ | refine xgr rfl ?_ | refine xgs rfl rfl ?_ | refine xgu rfl rfl ?_ | refine xg0 rfl ?_ | refine xct rfl ?_ | refine xcf rfl ?_ | refine xbk ?_ | refine xsq ?_ | refine xbl ?_ | refine xex rfl ?_)
    have hSv := (hs i v' l hv hl').upd iU (by simp)
    have hfl := flat3 ls i l hl'
    have hp1 := hpre (i + 1)
    rw [hfl, List.length_append] at hp1
    refine exec_ok (ok_append (N := 1) rfl rfl iO hSv rfl (by decide) (by omega) (u8N_cell _)) rfl ?_
    rintro v2 W2 ⟨hO2, hu2, hf2, _⟩
    repeat (first | refine xtm rfl rfl rfl ?_ | refine xgr rfl ?_ | refine xgs rfl rfl ?_ | refine xgu rfl rfl ?_ | refine xg0 rfl ?_ | refine xct rfl ?_ | refine xcf rfl ?_ | refine xbk ?_ | refine xsq ?_ | refine xbl ?_ | refine xex rfl ?_)
    refine xpu (pv_addI (a := i) (b := 1) rfl rfl (by omega)) rfl ?_
    repeat (first | refine xtm rfl rfl rfl ?_ | refine xgr rfl ?_ | refine xgs rfl rfl ?_ | refine xgu rfl rfl ?_ | refine xg0 rfl ?_ | refine xct rfl ?_ | refine xcf rfl ?_ | refine xbk ?_ | refine xsq ?_ | refine xbl ?_ | refine xex rfl ?_)
    have zW := iU.size
    refine xag (i + 1, v2) ⟨by show i + 1 ≤ k; omega, ?_, iU.trans hu2 (fun b hb => .inr (iF b hb)), ?_⟩ (by show k - (i + 1) < k - i; omega) ⟨rfl, rfl, rfl, rfl, rfl, trivial⟩
    · show OwnC W2 v2 1 (ls.take (i + 1)).flatten.length ((ls.take (i + 1)).flatten.map u8N)
      rw [hfl, List.length_append, List.map_append]; exact hO2
    · intro b hb
      rcases hf2 b hb with h | h
      · exact iF b h
      · omega
  · refine xpu (pv_lssI (a := i) (b := k) (q := false) rfl rfl (by simpa using hik)) rfl ?_
    have : i = k := by omega
    subst this
    repeat (first | refine xtm rfl rfl rfl ?_ | refine xgr rfl ?_ | refine xgs rfl rfl ?_ | refine xgu rfl rfl ?_ | refine xg0 rfl ?_ | refine xct rfl ?_ | refine xcf rfl ?_ | refine xbk ?_ | refine xsq ?_ | refine xbl ?_ | refine xex rfl ?_)
    rw [← hl, List.take_length] at iO
    exact xre hc [_] ⟨rfl, trivial⟩ ⟨iO, iU, iF⟩
theorem pairText_ok (l r : Hash) : RetS P A.pairText [hV l, hV r] w 1 65 ((pairN l r).map u8N) := by
  refine Ret.of_exec A.h_pairText (Nat.le_of_ble_eq_true rfl) fun c hc => ?_
  dsimp only [b_leaf_PairText, argEnv]
  refine exec_box rfl rfl ?_
  intro b2 w1 hb2 hs1 hu1 hB2
  rw [hV_cells] at hB2
  refine exec_box rfl rfl ?_
  intro b3 w2 hb3 hs2 hu2 hB3
  rw [hV_cells] at hB3
  repeat (first | refine xtm rfl rfl rfl ?_ | refine xgr rfl ?_ | refine xgs rfl rfl ?_ | refine xgu rfl rfl ?_ | refine xg0 rfl ?_ | refine xct rfl ?_ | refine xcf rfl ?_ | refine xbk ?_ | refine xsq ?_ | refine xbl ?_ | refine xex rfl ?_)
  have hB2' := hB2.upd hu2
  refine exec_dw [] rfl rfl rfl ?_
  refine dw_rel [] (fun W _ v => ∃ b, v = .slice (some ⟨b, 0, none⟩) 1 1 ∧ Blk W b [u8N 1] ∧ w2.heap.size ≤ b) rfl ?_ ?_ ?_
  · rintro W W' xs v h1 h2 ⟨b, rfl, h3, h4⟩
    exact ⟨b, rfl, h3.upd h2, h4⟩
  · intro vs W hu _
    refine (ok_litL [u8N 1] rfl rfl).mono ?_
    rintro v W' ⟨b, rfl, hB, hb, _, hu'⟩
    have := hu.size
    exact ⟨hu', b, rfl, hB, by omega⟩
  refine dw_keep _ (fun vs W hu _ => ok_slA (b := b2) (o := 0) 0 32 rfl rfl rfl (by omega) (by omega)) ?_
  refine dw_keep _ (fun vs W hu _ => ok_slA (b := b3) (o := 0) 0 32 rfl rfl rfl (by omega) (by omega)) ?_
  refine dw_end fun vs W hu hf => ?_
  obtain ⟨⟨b1, hv0, hB1, hb1⟩, _⟩ := hf
  show Exec _ _ _ _ _ _ ((5, vs 0) :: (6, .slice (some ⟨b2, 0 + 0 * 1, none⟩) (32 - 0) (32 - 0)) :: (7, .slice (some ⟨b3, 0 + 0 * 1, none⟩) (32 - 0) (32 - 0)) :: _) W
  rw [hv0]
  refine exec_litL (N := 1) (cs := [.slice (some ⟨b1, 0, none⟩) 1 1, .slice (some ⟨b2, 0 + 0 * 1, none⟩) (32 - 0) (32 - 0), .slice (some ⟨b3, 0 + 0 * 1, none⟩) (32 - 0) (32 - 0)]) rfl rfl rfl rfl ?_
  intro bl W1 hbl hs3 hu3 hO
  rcases hO with ⟨h, _⟩ | ⟨b', cap', rest', hv, hBl, _⟩
  · cases h
  cases hv
  have hML : Mem W1 bl 0 [.slice (some ⟨b1, 0, none⟩) 1 1, .slice (some ⟨b2, 0 + 0 * 1, none⟩) (32 - 0) (32 - 0), .slice (some ⟨b3, 0 + 0 * 1, none⟩) (32 - 0) (32 - 0)] := hBl.memPre
  have hw1 : Ext w W1 := ((hu1.trans hu2).trans hu).trans hu3
  have hfl : [[1], bytesN l, bytesN r].flatten = pairN l r := by simp [pairN]
  have hpl := pairN_len l r
  refine xca rfl rfl (concat_ok A (ls := [[1], bytesN l, bytesN r]) hML rfl (Nat.le_refl _) rfl ?_ (by rw [hfl]; omega) (by rw [hfl]; omega) (by omega)) ?_
  · intro i v x hv hx
    match i, hv, hx with
    | 0, hv, hx =>
      cases hv; cases hx
      exact .inr ⟨b1, 0, 1, rfl, (hB1.upd hu3).memAll, rfl, Nat.le_refl _⟩
    | 1, hv, hx =>
      cases hv; cases hx
      refine .inr ⟨b2, 0 + 0 * 1, 32, by simp [bytesN_len], ?_, by simp, by simp [bytesN_len]⟩
      rw [bytesN_cells]; exact ((hB2'.upd hu).upd hu3).memAll
    | 2, hv, hx =>
      cases hv; cases hx
      refine .inr ⟨b3, 0 + 0 * 1, 32, by simp [bytesN_len], ?_, by simp, by simp [bytesN_len]⟩
      rw [bytesN_cells]; exact ((hB3.upd hu).upd hu3).memAll
  rintro v W2 ⟨hO2, hu4, hf4⟩
  rw [hfl, hpl] at hO2
  repeat (first | refine xtm rfl rfl rfl ?_ | refine xgr rfl ?_ | refine xgs rfl rfl ?_ | refine xgu rfl rfl ?_ | refine xg0 rfl ?_ | refine xct rfl ?_ | refine xcf rfl ?_ | refine xbk ?_ | refine xsq ?_ | refine xbl ?_ | refine xex rfl ?_)
  have z := hw1.size
  exact xre hc [_] ⟨rfl, trivial⟩ ⟨hO2, hw1.trans hu4, fun b hb => by have := hf4 b hb; omega⟩
theorem parH_ok (hT : Tabs A.toShaF w) (l r : Hash) : RetV P A.parent [hV l, hV r] w (hV (parH l r)) := by
  refine Ret.of_exec A.h_parent (Nat.le_of_ble_eq_true rfl) fun c hc => ?_
  dsimp only [b_leaf_Parent, argEnv]
  refine exec_box rfl rfl ?_
  intro b2 w1 hb2 hs1 hu1 hB2
  rw [hV_cells] at hB2
  refine exec_box rfl rfl ?_
  intro b3 w2 hb3 hs2 hu2 hB3
  rw [hV_cells] at hB3
  refine exec_new rfl ?_
  intro b4 w3 hb4 hs3 hu3 hB4
  rw [rle_toList, rleL_one] at hB4
  refine exec_loadN (b := b2) (o := 0) (vs := hC l) rfl rfl ((hB2.upd hu2).upd hu3).memAll (hC_length l) ?_
  refine exec_loadN (b := b3) (o := 0) (vs := hC r) rfl rfl (hB3.upd hu3).memAll (hC_length r) ?_
  refine xca rfl rfl (pairText_ok A l r) ?_
  rintro v w4 ⟨hO, hu4, hf4⟩
  have hu14 : Ext w w4 := ((hu1.trans hu2).trans hu3).trans hu4
  have hpl := pairN_len l r
  refine xca rfl rfl (sum_ok A.toShaF (hT.upd hu14) (l := pairN l r) (by rw [hpl]; exact hO.sl) (by omega) (pairN_lt l r)) ?_
  rintro _ w5 ⟨rfl, hu5⟩
  rw [shaH_val]
  refine exec_store (b := b4) (o := 0) (v := hV (shaH (pairN l r))) rfl rfl ((hB4.upd hu4).upd hu5) (hV_size _) (by simp) (by rw [hV_cells]; exact hC_cell _) ?_
  intro w6 hu6 _ hB6
  rw [hV_cells, splice_all (by simp [hC_length])] at hB6
  refine xre hc [_] ⟨⟨b4, 0, _, rfl, hB6.memAll, hC_length _, rfl⟩, trivial⟩ ⟨rfl, ?_⟩
  have := hu14.size
  exact ((hu14.trans hu5).trans hu6 (fun b hb => .inr (by simp at hb; omega)))
end
end Go.Sp


namespace Go.Sp
section
variable {P : Program} {f : Nat} {w : World} (A : PosF P)
abbrev ptrV (b : Nat) : Value := .pointer (some ⟨b, 0, none⟩)
structure WayF (P : Program) extends PosF P where
  up1 : Nat
  up : Nat
  way : Nat
  tree : Nat
  T1 : Nat
  T2 : Nat
  T3 : Nat
  h_up1 : Has P up1 (b_pos_up_1 parent)
  h_up : Has P up (b_pos_up up1 T1 T2)
  h_way : Has P way (b_pos_Way rows row up root T1 T3 T2)
  h_tree : Has P tree (b_pos_Tree way rows row)
variable (B : WayF P)
end
end Go.Sp

namespace Go.Sp
open Go.Sort (swp insInner insOuter insertionSort)
def ltN (a b : Nat) : Bool := decide (a < b)
theorem insOuter_if (lt : Nat → Nat → Bool) (a b i : Nat) (d : Array Nat) : insOuter lt a b i d = if i < b then insOuter lt a b (i + 1) (insInner lt a i d) else d := by rw [insOuter]
theorem insInner_succ (lt : Nat → Nat → Bool) (a j : Nat) (d : Array Nat) : insInner lt a (j + 1) d = if j + 1 > a && lt d[j + 1]! d[j]! then insInner lt a j (swp d (j + 1) j) else d := rfl
/-- the cells of a row, and what lies behind it -/
def row (d : Array Nat) (rest : List Value) : List Value := d.toList.map u64V ++ rest
abbrev slV (b n cap : Nat) : Value := .slice (some ⟨b, 0, none⟩) n cap
theorem row_length (d : Array Nat) (rest : List Value) : (row d rest).length = d.size + rest.length := by simp [row]
theorem row_get {d : Array Nat} {rest : List Value} {i : Nat} (h : i < d.size) : (row d rest)[0 + i * 1]? = some (u64V d[i]!) := by
  rw [Nat.zero_add, Nat.mul_one, row, List.getElem?_append_left (by simpa using h), List.getElem?_map]
  simp [h]
theorem splice_one (cs : List Value) (o : Nat) (v : Value) (h : o < cs.length) : splice cs o [v] = cs.set o v := by
  rw [← splice_cons cs o v [] h, splice]
  simp
theorem row_set {d : Array Nat} {rest : List Value} {i x : Nat} (h : i < d.size) : splice (row d rest) (0 + i * 1) (Value.cells (u64V x)).toList = row (d.setIfInBounds i x) rest := by
  have e1 : (Value.cells (u64V x)).toList = [u64V x] := rfl
  rw [e1, splice_one _ _ _ (by rw [row_length]; omega), Nat.zero_add, Nat.mul_one, row, row, List.set_append_left _ _ (by simpa using h)]
  simp [List.map_set]
theorem row_swp {d : Array Nat} {rest : List Value} {i j : Nat} (hi : i < d.size) (hj : j < d.size) :
    splice (splice (row d rest) (0 + i * 1) (Value.cells (u64V d[j]!)).toList) (0 + j * 1) (Value.cells (u64V d[i]!)).toList = row (swp d i j) rest := by
  rw [row_set hi, row_set (by simpa using hj)]
  rfl
theorem swp_size (d : Array Nat) (i j : Nat) : (swp d i j).size = d.size := by simp [swp]
section
variable {P : Program} {f : Nat} {w : World}
theorem isNaN_ok (h : Has P f b_cmp_isNaN_uint64) (a : Nat) : RetV P f [u64V a] w (.bool false) := by
  refine Ret.of_exec h (Nat.le_of_ble_eq_true rfl) fun c hc => ?_
  dsimp only [b_cmp_isNaN_uint64, argEnv]
  refine xau rfl rfl rfl ?_
  refine xau rfl rfl rfl ?_
  refine xau rfl rfl rfl ?_
  refine xpu (pv_neqI (a := a) (b := a) (q := false) rfl rfl (by simp)) rfl ?_
  repeat (first | refine xtm rfl rfl rfl ?_ | refine xgr rfl ?_ | refine xgs rfl rfl ?_ | refine xg0 rfl ?_ | refine xct rfl ?_ | refine xcf rfl ?_ | refine xbk ?_ | refine xsq ?_ | refine xbl ?_ | refine xex rfl ?_)
  exact xre hc [_] ⟨rfl, trivial⟩ ⟨rfl, Upd.refl _ _⟩
theorem less_ok {g : Nat} (h0 : Has P g b_cmp_isNaN_uint64) (h : Has P f (b_cmp_Less_uint64 g)) (a b : Nat) : RetV P f [u64V a, u64V b] w (.bool (ltN a b)) := by
  refine Ret.of_exec h (Nat.le_of_ble_eq_true rfl) fun c hc => ?_
  dsimp only [b_cmp_Less_uint64, argEnv]
  repeat (first | refine xtm rfl rfl rfl ?_ | refine xgr rfl ?_ | refine xgs rfl rfl ?_ | refine xg0 rfl ?_ | refine xct rfl ?_ | refine xcf rfl ?_ | refine xbk ?_ | refine xsq ?_ | refine xbl ?_ | refine xex rfl ?_)
  refine xca rfl rfl (isNaN_ok h0 a) ?_
  rintro v w1 ⟨rfl, hu1⟩
  repeat (first | refine xtm rfl rfl rfl ?_ | refine xgr rfl ?_ | refine xgs rfl rfl ?_ | refine xg0 rfl ?_ | refine xct rfl ?_ | refine xcf rfl ?_ | refine xbk ?_ | refine xsq ?_ | refine xbl ?_ | refine xex rfl ?_)
  refine xpu (pv_lssI (a := a) (b := b) (q := ltN a b) rfl rfl rfl) rfl ?_
  repeat (first | refine xtm rfl rfl rfl ?_ | refine xgr rfl ?_ | refine xgs rfl rfl ?_ | refine xg0 rfl ?_ | refine xct rfl ?_ | refine xcf rfl ?_ | refine xbk ?_ | refine xsq ?_ | refine xbl ?_ | refine xex rfl ?_)
  exact xre hc [_] ⟨rfl, trivial⟩ ⟨rfl, hu1⟩
end
/-- the functions of the sort -/
structure SortF (P : Program) extends PosF P where
  nan : Nat
  less : Nat
  h_nan : Has P nan b_cmp_isNaN_uint64
  h_less : Has P less (b_cmp_Less_uint64 nan)
section
variable {P : Program} {f : Nat} {w : World} (A : SortF P)
theorem ins_ok (h : Has P f (b_slices_insertionSortOrdered_uint64 A.less)) {b n cap x y : Nat} {d : Array Nat} {rest : List Value} (hB : Blk w b (row d rest)) (hd : d.size = n) (hxy : x ≤ y) (hy : y ≤ n) (hn : n < 2 ^ 40) :
    Ret P f [slV b n cap, intV' x, intV' y] w fun _ w' => Blk w' b (row (insertionSort ltN d x y) rest) ∧ Upd [b] w w' := by
  refine Ret.of_exec h (Nat.le_of_ble_eq_true rfl) fun c hc => ?_
  dsimp only [b_slices_insertionSortOrdered_uint64, argEnv]
  repeat (first | refine xtm rfl rfl rfl ?_ | refine xgr rfl ?_ | refine xgs rfl rfl ?_ | refine xg0 rfl ?_ | refine xct rfl ?_ | refine xcf rfl ?_ | refine xbk ?_ | refine xsq ?_ | refine xbl ?_ | refine xex rfl ?_)
  refine xpu (pv_addI (a := x) (b := 1) rfl rfl (by omega)) rfl ?_
  repeat (first | refine xtm rfl rfl rfl ?_ | refine xgr rfl ?_ | refine xgs rfl rfl ?_ | refine xg0 rfl ?_ | refine xct rfl ?_ | refine xcf rfl ?_ | refine xbk ?_ | refine xsq ?_ | refine xbl ?_ | refine xex rfl ?_)
  refine xlo (S := Nat × Array Nat) (fun s W => x < s.1 ∧ s.1 ≤ max y (x + 1) ∧ s.2.size = n ∧ insOuter ltN x y s.1 s.2 = insertionSort ltN d x y ∧ Blk W b (row s.2 rest) ∧ Upd [b] w W)
    (fun s => [(0, slV b n cap), (1, intV' x), (2, intV' y), (6, intV' s.1)]) (fun s => y + 1 - s.1) (x + 1, d) ⟨by show x < x + 1; omega, by show x + 1 ≤ max y (x + 1); omega, hd, rfl, hB, Upd.refl _ _⟩ ⟨rfl, rfl, rfl, rfl, trivial⟩ ?_
  rintro ⟨i, dk⟩ W ⟨h1, h2, h3, h4, h5, h6⟩
  simp only at h1 h2 h3 h4 h5
  repeat (first | refine xtm rfl rfl rfl ?_ | refine xgr rfl ?_ | refine xgs rfl rfl ?_ | refine xg0 rfl ?_ | refine xct rfl ?_ | refine xcf rfl ?_ | refine xbk ?_ | refine xsq ?_ | refine xbl ?_ | refine xex rfl ?_)
  by_cases hiy : i < y
  · refine xpu (pv_lssI (a := i) (b := y) (q := true) rfl rfl (by simpa using hiy)) rfl ?_
    repeat (first | refine xtm rfl rfl rfl ?_ | refine xgr rfl ?_ | refine xgs rfl rfl ?_ | refine xg0 rfl ?_ | refine xct rfl ?_ | refine xcf rfl ?_ | refine xbk ?_ | refine xsq ?_ | refine xbl ?_ | refine xex rfl ?_)
    refine exec_inner_join (S := Array Nat) (fun dj W => dj.size = n ∧ dj = insInner ltN x i dk ∧ Blk W b (row dj rest) ∧ Upd [b] w W) (fun _ => [(0, slV b n cap), (1, intV' x), (2, intV' y), (6, intV' i)]) ?_ ?_
    rotate_left
    · rintro dj W2 ⟨q0, q1, q2, q3⟩
      repeat (first | refine xtm rfl rfl rfl ?_ | refine xgr rfl ?_ | refine xgs rfl rfl ?_ | refine xg0 rfl ?_ | refine xct rfl ?_ | refine xcf rfl ?_ | refine xbk ?_ | refine xsq ?_ | refine xbl ?_ | refine xex rfl ?_)
      refine xpu (pv_addI (a := i) (b := 1) rfl rfl (by omega)) rfl ?_
      repeat (first | refine xtm rfl rfl rfl ?_ | refine xgr rfl ?_ | refine xgs rfl rfl ?_ | refine xg0 rfl ?_ | refine xct rfl ?_ | refine xcf rfl ?_ | refine xbk ?_ | refine xsq ?_ | refine xbl ?_ | refine xex rfl ?_)
      refine xag (i + 1, dj) ⟨by show x < i + 1; omega, by show i + 1 ≤ max y (x + 1); omega, q0, ?_, q2, q3⟩ (by show y + 1 - (i + 1) < y + 1 - i; omega) ⟨rfl, rfl, rfl, rfl, trivial⟩
      rw [← h4]
      show insOuter ltN x y (i + 1) dj = insOuter ltN x y i dk
      rw [insOuter_if ltN x y i dk, if_pos hiy, q1]
    refine xlo (S := Nat × Array Nat) (fun s W => x ≤ s.1 ∧ s.1 ≤ i ∧ s.2.size = n ∧ insInner ltN x s.1 s.2 = insInner ltN x i dk ∧ Blk W b (row s.2 rest) ∧ Upd [b] w W)
      (fun s => [(0, slV b n cap), (1, intV' x), (2, intV' y), (6, intV' i), (7, intV' s.1)]) (fun s => s.1) (i, dk) ⟨by show x ≤ i; omega, Nat.le_refl _, h3, rfl, h5, h6⟩ ⟨rfl, rfl, rfl, rfl, rfl, trivial⟩ ?_
    rintro ⟨j, dj⟩ W1 ⟨g1, g2, g3, g4, g5, g6⟩
    simp only at g1 g2 g3 g4 g5
    by_cases hjx : x < j
    · obtain ⟨k, rfl⟩ : ∃ k, j = k + 1 := ⟨j - 1, by omega⟩
      have hk1 : k + 1 < dj.size := by omega
      have hk : k < dj.size := by omega
      refine exec_dw [] rfl rfl rfl ?_
      refine dau rfl (fun _ => rfl) ?_
      refine dau rfl (fun _ => rfl) ?_
      refine dw_val (fun _ => pv_gtrI (a := k + 1) (b := x) (q := true) rfl rfl (by simpa using hjx)) ?_
      repeat (first | refine dau rfl (fun _ => rfl) ?_ | refine dga rfl (fun _ => rfl) (fun _ => rfl) ?_ | refine dgs (fun _ => rfl) ?_)
      refine dw_gok _ (fun _ => rfl) (fun vs W' hu _ => (ok_iaddr (b := b) (o := 0) (len := n) (cap := cap) rfl rfl (k + 1) rfl (by omega)).keep _) ?_
      refine dw_gok (u64V dj[k + 1]!) (fun _ => rfl) (fun vs W' hu _ => (ok_load1 (b := b) (o := 0 + (k + 1) * 1) rfl ((g5.upd hu).cell (row_get (by omega)))).keep _) ?_
      repeat (first | refine dau rfl (fun _ => rfl) ?_ | refine dga rfl (fun _ => rfl) (fun _ => rfl) ?_ | refine dgs (fun _ => rfl) ?_)
      refine dw_gval (fun _ => rfl) (fun _ => pv_subI (a := k + 1) (b := 1) rfl rfl (by omega) (by omega)) ?_
      refine dw_gok _ (fun _ => rfl) (fun vs W' hu _ => (ok_iaddr (b := b) (o := 0) (len := n) (cap := cap) rfl rfl (k) rfl (by omega)).keep _) ?_
      refine dw_gok (u64V dj[k]!) (fun _ => rfl) (fun vs W' hu _ => (ok_load1 (b := b) (o := 0 + (k) * 1) rfl ((g5.upd hu).cell (row_get (by omega)))).keep _) ?_
      refine dw_end fun vs W2 hu2 _ => ?_
      repeat (first | refine xtm rfl rfl rfl ?_ | refine xgr rfl ?_ | refine xgs rfl rfl ?_ | refine xg0 rfl ?_ | refine xct rfl ?_ | refine xcf rfl ?_ | refine xbk ?_ | refine xsq ?_ | refine xbl ?_ | refine xex rfl ?_)
      refine xca rfl rfl (less_ok A.h_nan A.h_less dj[k + 1]! dj[k]!) ?_
      rintro v W3 ⟨rfl, hu3⟩
      repeat (first | refine xtm rfl rfl rfl ?_ | refine xgr rfl ?_ | refine xgs rfl rfl ?_ | refine xg0 rfl ?_ | refine xct rfl ?_ | refine xcf rfl ?_ | refine xbk ?_ | refine xsq ?_ | refine xbl ?_ | refine xex rfl ?_)
      have hu23 : Ext W1 W3 := hu2.trans hu3
      have g5' := g5.upd hu23
      refine exec_cond rfl (fun hc2 => ?_) (fun hc2 => ?_)
      · repeat (first | refine xtm rfl rfl rfl ?_ | refine xgr rfl ?_ | refine xgs rfl rfl ?_ | refine xg0 rfl ?_ | refine xct rfl ?_ | refine xcf rfl ?_ | refine xbk ?_ | refine xsq ?_ | refine xbl ?_ | refine xex rfl ?_)
        refine exec_dws [b] 15 (fun W => Blk W b (splice (row dj rest) (0 + (k + 1) * 1) (Value.cells (u64V dj[k]!)).toList)) (fun W W' h hu => h.upd hu) rfl rfl rfl ?_
        repeat (first | refine ws_auto rfl rfl rfl ?_ | refine ws_gauto rfl rfl rfl rfl ?_ | refine wgs rfl rfl ?_)
        refine ws_val rfl (pv_subI (a := k + 1) (b := 1) rfl rfl (by omega) (by omega)) ?_
        repeat (first | refine ws_auto rfl rfl rfl ?_ | refine ws_gauto rfl rfl rfl rfl ?_ | refine wgs rfl rfl ?_)
        refine ws_val rfl (pv_subI (a := k + 1) (b := 1) rfl rfl (by omega) (by omega)) ?_
        refine ws_any _ rfl (fun W => ok_iaddr (b := b) (o := 0) (len := n) (cap := cap) rfl rfl (k) rfl (by omega)) ?_
        refine ws_ok (u64V dj[k]!) rfl rfl (fun W hu => ok_load1 (b := b) (o := 0 + (k) * 1) rfl ((g5'.upd hu).cell (row_get (by omega)))) ?_
        repeat (first | refine ws_auto rfl rfl rfl ?_ | refine ws_gauto rfl rfl rfl rfl ?_ | refine wgs rfl rfl ?_)
        refine ws_any _ rfl (fun W => ok_iaddr (b := b) (o := 0) (len := n) (cap := cap) rfl rfl (k + 1) rfl (by omega)) ?_
        refine ws_ok (u64V dj[k + 1]!) rfl rfl (fun W hu => ok_load1 (b := b) (o := 0 + (k + 1) * 1) rfl ((g5'.upd hu).cell (row_get (by omega)))) ?_
        refine ws_any _ rfl (fun W => ok_iaddr (b := b) (o := 0) (len := n) (cap := cap) rfl rfl (k + 1) rfl (by omega)) ?_
        refine ws_store rfl rfl rfl g5' rfl (by rw [row_length]; omega) rfl (by simp) (fun W h => h) ?_
        refine ws_end fun W_a hu_a hW_a => ?_
        refine xju (ok_iaddr (b := b) (o := 0) (len := n) (cap := cap) rfl rfl (k) rfl (by omega)) rfl ?_
        refine exec_store (b := b) (o := 0 + (k) * 1) (v := u64V dj[k + 1]!) rfl rfl (hW_a rfl) rfl (by rw [row_set (by omega), row_length]; simp; omega) rfl ?_
        intro W5 hu_b _ hB5
        rw [row_swp (by omega) (by omega)] at hB5
        have hu5 := hu_a.trans hu_b (by simp)
        repeat (first | refine xtm rfl rfl rfl ?_ | refine xgr rfl ?_ | refine xgs rfl rfl ?_ | refine xg0 rfl ?_ | refine xct rfl ?_ | refine xcf rfl ?_ | refine xbk ?_ | refine xsq ?_ | refine xbl ?_ | refine xex rfl ?_)
        refine xpu (pv_subI (a := k + 1) (b := 1) rfl rfl (by omega) (by omega)) rfl ?_
        repeat (first | refine xtm rfl rfl rfl ?_ | refine xgr rfl ?_ | refine xgs rfl rfl ?_ | refine xg0 rfl ?_ | refine xct rfl ?_ | refine xcf rfl ?_ | refine xbk ?_ | refine xsq ?_ | refine xbl ?_ | refine xex rfl ?_)
        refine xag (k, swp dj (k + 1) k) ⟨by show x ≤ k; omega, by show k ≤ i; omega, by rw [swp_size]; exact g3, ?_, hB5, ?_⟩ (by show k < k + 1; omega) ⟨rfl, rfl, rfl, rfl, rfl, trivial⟩
        · rw [← g4]
          show insInner ltN x k _ = insInner ltN x (k + 1) dj
          rw [insInner_succ, if_pos (by simp only [Bool.and_eq_true, decide_eq_true_eq]; exact ⟨hjx, hc2⟩)]
        · exact (g6.trans hu23 (by simp)).trans hu5 (by simp)
      · repeat (first | refine xtm rfl rfl rfl ?_ | refine xgr rfl ?_ | refine xgs rfl rfl ?_ | refine xg0 rfl ?_ | refine xct rfl ?_ | refine xcf rfl ?_ | refine xbk ?_ | refine xsq ?_ | refine xbl ?_ | refine xex rfl ?_)
        refine exec_meet dj ⟨g3, ?_, g5', g6.trans hu23 (by simp)⟩ ⟨rfl, rfl, rfl, rfl, trivial⟩
        rw [← g4, insInner_succ, if_neg (by rw [hc2]; simp)]
    · refine exec_dw [] rfl rfl rfl ?_
      refine dau rfl (fun _ => rfl) ?_
      refine dau rfl (fun _ => rfl) ?_
      refine dw_val (fun _ => pv_gtrI (a := j) (b := x) (q := false) rfl rfl (by simpa using hjx)) ?_
      repeat (first | refine dau rfl (fun _ => rfl) ?_ | refine dga rfl (fun _ => rfl) (fun _ => rfl) ?_ | refine dgs (fun _ => rfl) ?_)
      refine dw_end fun vs W2 hu2 _ => ?_
      repeat (first | refine xtm rfl rfl rfl ?_ | refine xgr rfl ?_ | refine xgs rfl rfl ?_ | refine xg0 rfl ?_ | refine xct rfl ?_ | refine xcf rfl ?_ | refine xbk ?_ | refine xsq ?_ | refine xbl ?_ | refine xex rfl ?_)
      refine exec_meet dj ⟨g3, ?_, g5.upd hu2, g6.trans hu2 (by simp)⟩ ⟨rfl, rfl, rfl, rfl, trivial⟩
      rw [← g4]
      cases j with
      | zero => rfl
      | succ j => rw [insInner_succ, if_neg]; simp; omega
  · refine xpu (pv_lssI (a := i) (b := y) (q := false) rfl rfl (by simpa using hiy)) rfl ?_
    repeat (first | refine xtm rfl rfl rfl ?_ | refine xgr rfl ?_ | refine xgs rfl rfl ?_ | refine xg0 rfl ?_ | refine xct rfl ?_ | refine xcf rfl ?_ | refine xbk ?_ | refine xsq ?_ | refine xbl ?_ | refine xex rfl ?_)
    refine exec_end hc [] trivial ?_
    have : insertionSort ltN d x y = dk := by rw [← h4, insOuter_if, if_neg hiy]
    rw [this]
    exact ⟨h5, h6⟩
end
end Go.Sp
