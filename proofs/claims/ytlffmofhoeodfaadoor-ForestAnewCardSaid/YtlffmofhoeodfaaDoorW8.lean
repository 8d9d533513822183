/- Proved: for every list of steps spinneylaw14.ForestAnew returns true and leaves its argument as it was; no condition. This text: part 8 of 11. -/
import Derived.Test.YtlffmofhoeodfaaDoorW7
namespace Go.Sp
/-- the functions of forest, on -/
structure ForM (P : Program) extends ForL P where
  new' : Nat
  root' : Nat
  rows' : Nat
  index : Nat
  where1 : Nat
  TFo : Nat
  TRt : Nat
  TW1 : Nat
  h_new : Has P new' (b_forest_New TFo)
  h_root : Has P root' (b_Pforest_Forest_root nf.root TRt)
  h_rows : Has P rows' (b_Pforest_Forest_rows nf.rows)
  h_index : Has P index b_slices_IndexFunc_forest_tree_forest_tree
  h_where1 : Has P where1 (b_Pforest_Forest_Where_1 size TW1)
theorem optV_eq (f : Nat → Value) (o : Option Nat) : optV f o = .tuple #[f (o.getD 0), .bool o.isSome] := by cases o <;> rfl
section
variable {P : Program} {f : Nat} {w : World}
theorem new_ok (A : ForM P) : Ret P A.new' [] w fun v w' => ∃ p m, v = ptrV p ∧ w.heap.size ≤ p ∧ w.heap.size ≤ m ∧ FAt w' p m ⟨[], 0, 0⟩ ∧ Ext w w' := by
  refine Ret.of_exec A.h_new (Nat.le_of_ble_eq_true rfl) fun c hc => ?_
  dsimp only [b_forest_New, argEnv]
  repeat (first | refine xtm rfl rfl rfl ?_ | refine xgr rfl ?_ | refine xgs rfl rfl ?_ | refine xgu rfl rfl ?_ | refine xg0 rfl ?_ | refine xct rfl ?_ | refine xcf rfl ?_ | refine xbk ?_ | refine xsq ?_ | refine xbl ?_ | refine xex rfl ?_)
  refine exec_mkMap rfl ?_
  intro r w1 hr hs1 hu1 hM
  refine xju (ok_mkL (l := [(2, 1, .map (some r))]) (cs := [u64V 0, .slice none 0 0, .map (some r), intV' 0, intV' 0]) rfl rfl) rfl ?_
  refine exec_box rfl rfl ?_
  intro p w2 hp hs2 hu2 hB
  repeat (first | refine xtm rfl rfl rfl ?_ | refine xgr rfl ?_ | refine xgs rfl rfl ?_ | refine xgu rfl rfl ?_ | refine xg0 rfl ?_ | refine xct rfl ?_ | refine xcf rfl ?_ | refine xbk ?_ | refine xsq ?_ | refine xbl ?_ | refine xex rfl ?_)
  refine xre hc [_] ⟨rfl, trivial⟩ ⟨p, r, rfl, by omega, by omega, ⟨⟨.slice none 0 0, [], hB, ⟨⟨[], ⟨rfl, fun i v t h => by simp at h⟩, .inl ⟨rfl, rfl, rfl⟩⟩, fun _ => rfl⟩, (MapAt.empty hM).upd hu2, ?_⟩, by simp, by simp⟩, hu1.trans hu2⟩
  intro h i
  simp [aget]
theorem rows'_ok (A : ForM P) {p m : Nat} {s : Fo} (h : FAt w p m s) : RetV P A.rows' [ptrV p] w (intV' (rowsN s.L.length)) := by
  have hl := h.len
  obtain ⟨⟨tv, wl, h1, _⟩, _⟩ := h
  refine Ret.of_exec A.h_rows (Nat.le_of_ble_eq_true rfl) fun c hc => ?_
  dsimp only [b_Pforest_Forest_rows, argEnv]
  repeat (first | refine xtm rfl rfl rfl ?_ | refine xgr rfl ?_ | refine xgs rfl rfl ?_ | refine xgu rfl rfl ?_ | refine xg0 rfl ?_ | refine xct rfl ?_ | refine xcf rfl ?_ | refine xbk ?_ | refine xsq ?_ | refine xbl ?_ | refine xex rfl ?_)
  refine exec_load1 (b := p) (o := 0 + 0) rfl rfl (h1.cell rfl) ?_
  refine xca rfl rfl (rows_ok A.nf.toPosF s.L.length (by omega)) ?_
  rintro _ w1 ⟨rfl, hu1⟩
  rw [if_pos (by omega)]
  repeat (first | refine xtm rfl rfl rfl ?_ | refine xgr rfl ?_ | refine xgs rfl rfl ?_ | refine xgu rfl rfl ?_ | refine xg0 rfl ?_ | refine xct rfl ?_ | refine xcf rfl ?_ | refine xbk ?_ | refine xsq ?_ | refine xbl ?_ | refine xex rfl ?_)
  exact xre hc [_] ⟨rfl, trivial⟩ ⟨rfl, hu1⟩
theorem root'_ok (A : ForM P) {p m : Nat} {s : Fo} (h : FAt w p m s) (u : Value) (fst hi : Nat) (hh : hi < 2 ^ 60) : RetV P A.root' [ptrV p, .agg #[u, u64V fst, intV' hi]] w (u64V ((rootN s.L.length hi).getD 0)) := by
  have hl := h.len
  obtain ⟨⟨tv, wl, h1, _⟩, _⟩ := h
  refine Ret.of_exec A.h_root (Nat.le_of_ble_eq_true rfl) fun c hc => ?_
  dsimp only [b_Pforest_Forest_root, argEnv]
  refine exec_box rfl rfl ?_
  intro b3 w1 hb3 hs1 hu1 hB3
  have hB3' : Blk w1 b3 [u, u64V fst, intV' hi] := by simpa [Value.cells] using hB3
  repeat (first | refine xtm rfl rfl rfl ?_ | refine xgr rfl ?_ | refine xgs rfl rfl ?_ | refine xgu rfl rfl ?_ | refine xg0 rfl ?_ | refine xct rfl ?_ | refine xcf rfl ?_ | refine xbk ?_ | refine xsq ?_ | refine xbl ?_ | refine xex rfl ?_)
  refine exec_dwr rfl rfl rfl ?_
  repeat (first | refine wtm rfl rfl rfl ?_ | refine wgt rfl rfl rfl rfl ?_ | refine wgs rfl rfl ?_)
  refine ws_keep (u64V s.L.length) rfl (fun X hx => ok_load1 (b := p) (o := 0 + 0) rfl (((h1.upd hu1).upd hx).cell rfl)) ?_
  repeat (first | refine wtm rfl rfl rfl ?_ | refine wgt rfl rfl rfl rfl ?_ | refine wgs rfl rfl ?_)
  refine ws_keep (intV' hi) rfl (fun X hx => ok_load1 (b := b3) (o := 0 + 2) rfl ((hB3'.upd hx).cell rfl)) ?_
  refine ws_ext (.tuple #[u64V ((rootN s.L.length hi).getD 0), .bool (rootN s.L.length hi).isSome]) rfl (fun X hx => ok_call rfl (by rw [← optV_eq]; exact root_ok A.nf.toPosF s.L.length hi (by omega) (by omega))) ?_
  repeat (first | refine wtm rfl rfl rfl ?_ | refine wgt rfl rfl rfl rfl ?_ | refine wgs rfl rfl ?_)
  refine ws_fin fun w2 hw2 => ?_
  repeat (first | refine xtm rfl rfl rfl ?_ | refine xgr rfl ?_ | refine xgs rfl rfl ?_ | refine xgu rfl rfl ?_ | refine xg0 rfl ?_ | refine xct rfl ?_ | refine xcf rfl ?_ | refine xbk ?_ | refine xsq ?_ | refine xbl ?_ | refine xex rfl ?_)
  exact xre hc [_] ⟨rfl, trivial⟩ ⟨rfl, hu1.trans hw2⟩
theorem where1_ok (A : ForM P) {bx x : Nat} (hx : x < 2 ^ 63) (hB : Blk w bx [u64V x]) (u : Value) (t : TT Hash) (ht : t.2.1 + 2 ^ t.2.2 < 2 ^ 63 ∧ t.2.2 < 63) : RetV P A.where1 [.agg #[u, u64V t.2.1, intV' t.2.2], ptrV bx] w (.bool (inT x t)) := by
  obtain ⟨t1, t2⟩ := ht
  refine Ret.of_exec A.h_where1 (Nat.le_of_ble_eq_true rfl) fun c hc => ?_
  dsimp only [b_Pforest_Forest_Where_1, argEnv]
  refine exec_box rfl rfl ?_
  intro b2 w1 hb2 hs1 hu1 hB2
  have hB2' : Blk w1 b2 [u, u64V t.2.1, intV' t.2.2] := by simpa [Value.cells] using hB2
  repeat (first | refine xtm rfl rfl rfl ?_ | refine xgr rfl ?_ | refine xgs rfl rfl ?_ | refine xgu rfl rfl ?_ | refine xg0 rfl ?_ | refine xct rfl ?_ | refine xcf rfl ?_ | refine xbk ?_ | refine xsq ?_ | refine xbl ?_ | refine xex rfl ?_)
  have hBx := hB.upd hu1
  have hp : 2 ^ t.2.2 < 2 ^ 63 := by omega
  by_cases hle : t.2.1 ≤ x
  · refine exec_dwr rfl rfl rfl ?_
    refine ws_keep (u64V x) rfl (fun X hx => ok_load1 (b := bx) (o := 0) rfl ((hBx.upd hx).cell rfl)) ?_
    repeat (first | refine wtm rfl rfl rfl ?_ | refine wgt rfl rfl rfl rfl ?_ | refine wgs rfl rfl ?_)
    refine ws_keep (u64V t.2.1) rfl (fun X hx => ok_load1 (b := b2) (o := 0 + 1) rfl ((hB2'.upd hx).cell rfl)) ?_
    refine ws_val rfl (pv_geqI (a := x) (b := t.2.1) (q := true) rfl rfl (by simpa using hle)) ?_
    repeat (first | refine wtm rfl rfl rfl ?_ | refine wgt rfl rfl rfl rfl ?_ | refine wgs rfl rfl ?_)
    refine ws_gkeep (u64V x) rfl rfl (fun X hx => ok_load1 (b := bx) (o := 0) rfl ((hBx.upd hx).cell rfl)) ?_
    repeat (first | refine wtm rfl rfl rfl ?_ | refine wgt rfl rfl rfl rfl ?_ | refine wgs rfl rfl ?_)
    refine ws_gkeep (u64V t.2.1) rfl rfl (fun X hx => ok_load1 (b := b2) (o := 0 + 1) rfl ((hB2'.upd hx).cell rfl)) ?_
    refine ws_gval rfl rfl (pv_subU (a := x) (b := t.2.1) rfl rfl hle (by omega)) ?_
    refine ws_gkeep (.agg #[u, u64V t.2.1, intV' t.2.2]) rfl rfl (fun X hx => ok_loadN (b := b2) (o := 0) (vs := [u, u64V t.2.1, intV' t.2.2]) rfl (hB2'.upd hx).memAll rfl) ?_
    refine ws_gext (u64V (2 ^ t.2.2)) rfl rfl (fun X hx => ok_call rfl (treeSize_ok A.toForH u t (by omega))) ?_
    refine ws_fin fun w2 hw2 => ?_
    refine xgr rfl ?_
    refine xpu (pv_lssI (a := x - t.2.1) (b := 2 ^ t.2.2) (q := inT x t) rfl rfl (by simp [inT, hle])) rfl ?_
    repeat (first | refine xtm rfl rfl rfl ?_ | refine xgr rfl ?_ | refine xgs rfl rfl ?_ | refine xgu rfl rfl ?_ | refine xg0 rfl ?_ | refine xct rfl ?_ | refine xcf rfl ?_ | refine xbk ?_ | refine xsq ?_ | refine xbl ?_ | refine xex rfl ?_)
    exact xre hc [_] ⟨rfl, trivial⟩ ⟨rfl, hu1.trans hw2⟩
  · refine exec_dwr rfl rfl rfl ?_
    refine ws_keep (u64V x) rfl (fun X hx => ok_load1 (b := bx) (o := 0) rfl ((hBx.upd hx).cell rfl)) ?_
    repeat (first | refine wtm rfl rfl rfl ?_ | refine wgt rfl rfl rfl rfl ?_ | refine wgs rfl rfl ?_)
    refine ws_keep (u64V t.2.1) rfl (fun X hx => ok_load1 (b := b2) (o := 0 + 1) rfl ((hB2'.upd hx).cell rfl)) ?_
    refine ws_val rfl (pv_geqI (a := x) (b := t.2.1) (q := false) rfl rfl (by simpa using hle)) ?_
    repeat (first | refine wtm rfl rfl rfl ?_ | refine wgt rfl rfl rfl rfl ?_ | refine wgs rfl rfl ?_)
    refine ws_fin fun w2 hw2 => ?_
    repeat (first | refine xtm rfl rfl rfl ?_ | refine xgr rfl ?_ | refine xgs rfl rfl ?_ | refine xgu rfl rfl ?_ | refine xg0 rfl ?_ | refine xct rfl ?_ | refine xcf rfl ?_ | refine xbk ?_ | refine xsq ?_ | refine xbl ?_ | refine xex rfl ?_)
    refine xre hc [_] ⟨rfl, trivial⟩ ⟨?_, hu1.trans hw2⟩
    simp [single, inT, hle]
/-- slices.IndexFunc of trees -/
theorem indexT_ok (A : ForM P) {sv : Value} {ts : List (TT Hash)} (h : TreesAt w sv ts) (hl : ts.length < 2 ^ 30) {g : Nat} {cs : List Value} {q : TT Hash → Bool} (hg : Enters P g)
    (hq : ∀ W u t, Ext w W → t ∈ ts → RetV P g (.agg #[u, u64V t.2.1, intV' t.2.2] :: cs) W (.bool (q t))) :
    Ret P A.index [sv, .func (.func g) #[] cs.toArray] w fun v w' => Ext w w' ∧ ((v = .int .i64 (-1) ∧ ∀ t ∈ ts, q t = false) ∨ ∃ i t, v = intV' i ∧ ts[i]? = some t ∧ ts.find? q = some t) := by
  obtain ⟨vs, hR, hS⟩ := h
  refine Ret.of_exec A.h_index (Nat.le_of_ble_eq_true rfl) fun c hc => ?_
  dsimp only [b_slices_IndexFunc_forest_tree_forest_tree, argEnv]
  refine xtm rfl rfl rfl ?_
  refine xtm rfl rfl rfl ?_
  refine xpu (hS.lenS rfl) rfl ?_
  repeat (first | refine xtm rfl rfl rfl ?_ | refine xgr rfl ?_ | refine xgs rfl rfl ?_ | refine xgu rfl rfl ?_ | refine xg0 rfl ?_ | refine xct rfl ?_ | refine xcf rfl ?_ | refine xbk ?_ | refine xsq ?_ | refine xbl ?_ | refine xex rfl ?_)
  refine xlo (S := Nat) (fun i W => i ≤ ts.length ∧ Ext w W ∧ (ts.take i).find? q = none)
    (fun i => [(0, sv), (1, .func (.func g) #[] cs.toArray), (7, intV' ts.length), (8, intV' i)]) (fun i => ts.length - i) 0
    ⟨Nat.zero_le _, Upd.refl _ _, rfl⟩ ⟨rfl, rfl, rfl, rfl, trivial⟩ ?_
  rintro i W ⟨i1, iU, iF⟩
  repeat (first | refine xtm rfl rfl rfl ?_ | refine xgr rfl ?_ | refine xgs rfl rfl ?_ | refine xgu rfl rfl ?_ | refine xg0 rfl ?_ | refine xct rfl ?_ | refine xcf rfl ?_ | refine xbk ?_ | refine xsq ?_ | refine xbl ?_ | refine xex rfl ?_)
  by_cases hi : i < ts.length
  · refine xpu (pv_lssI (a := i) (b := ts.length) (q := true) rfl rfl (by simpa using hi)) rfl ?_
    repeat (first | refine xtm rfl rfl rfl ?_ | refine xgr rfl ?_ | refine xgs rfl rfl ?_ | refine xgu rfl rfl ?_ | refine xg0 rfl ?_ | refine xct rfl ?_ | refine xcf rfl ?_ | refine xbk ?_ | refine xsq ?_ | refine xbl ?_ | refine xex rfl ?_)
    obtain ⟨t, ht⟩ : ∃ t, ts[i]? = some t := ⟨_, List.getElem?_eq_getElem hi⟩
    obtain ⟨u, hu⟩ : ∃ u, vs[i]? = some u := ⟨_, List.getElem?_eq_getElem (by rw [hR.len]; omega)⟩
    obtain ⟨g0, g1, g2⟩ := cellsT_get vs ts i u t hu ht
    obtain ⟨b, o, cap, hv, hm, _⟩ := hS.at (by omega)
    refine xju (ok_iaddr (N := 3) (b := b) (o := o) (len := ts.length) (cap := cap) (by rw [← hv]; rfl) rfl i rfl hi) rfl ?_
    have hM3 : Mem W b (o + i * 3) [u, u64V t.2.1, intV' t.2.2] := (hm.upd iU (by simp)).sub (i * 3) (us := [u, u64V t.2.1, intV' t.2.2]) (fun k x hk => by
      match k, hk with
      | 0, hk => cases hk; exact g0
      | 1, hk => cases hk; exact g1
      | 2, hk => cases hk; exact g2)
    refine exec_loadN (b := b) (o := o + i * 3) (vs := [u, u64V t.2.1, intV' t.2.2]) rfl rfl hM3 rfl ?_
    refine exec_callv (f := g) (fs := #[]) (cs := cs.toArray) rfl rfl rfl hg (hq W u t iU (List.mem_of_getElem? ht)) ?_
    rintro _ W1 ⟨rfl, hw1⟩
    have htk : ts.take (i + 1) = ts.take i ++ [t] := by rw [List.take_add_one, ht]; rfl
    refine exec_cond rfl (fun hqt => ?_) (fun hqt => ?_)
    · repeat (first | refine xtm rfl rfl rfl ?_ | refine xgr rfl ?_ | refine xgs rfl rfl ?_ | refine xgu rfl rfl ?_ | refine xg0 rfl ?_ | refine xct rfl ?_ | refine xcf rfl ?_ | refine xbk ?_ | refine xsq ?_ | refine xbl ?_ | refine xex rfl ?_)
      refine xre hc [_] ⟨rfl, trivial⟩ ⟨iU.trans hw1, .inr ⟨i, t, rfl, ht, ?_⟩⟩
      rw [← List.take_append_drop (i + 1) ts, htk, List.append_assoc, List.find?_append, iF]
      simp [hqt]
    · repeat (first | refine xtm rfl rfl rfl ?_ | refine xgr rfl ?_ | refine xgs rfl rfl ?_ | refine xgu rfl rfl ?_ | refine xg0 rfl ?_ | refine xct rfl ?_ | refine xcf rfl ?_ | refine xbk ?_ | refine xsq ?_ | refine xbl ?_ | refine xex rfl ?_)
      refine xpu (pv_addI (a := i) (b := 1) rfl rfl (by omega)) rfl ?_
      repeat (first | refine xtm rfl rfl rfl ?_ | refine xgr rfl ?_ | refine xgs rfl rfl ?_ | refine xgu rfl rfl ?_ | refine xg0 rfl ?_ | refine xct rfl ?_ | refine xcf rfl ?_ | refine xbk ?_ | refine xsq ?_ | refine xbl ?_ | refine xex rfl ?_)
      refine xag (i + 1) ⟨hi, iU.trans hw1, ?_⟩ (by show ts.length - (i + 1) < ts.length - i; omega) ⟨rfl, rfl, rfl, rfl, trivial⟩
      rw [htk, List.find?_append, iF]
      simp [hqt]
  · refine xpu (pv_lssI (a := i) (b := ts.length) (q := false) rfl rfl (by simpa using hi)) rfl ?_
    have : i = ts.length := by omega
    subst this
    repeat (first | refine xtm rfl rfl rfl ?_ | refine xgr rfl ?_ | refine xgs rfl rfl ?_ | refine xgu rfl rfl ?_ | refine xg0 rfl ?_ | refine xct rfl ?_ | refine xcf rfl ?_ | refine xbk ?_ | refine xsq ?_ | refine xbl ?_ | refine xex rfl ?_)
    refine xre hc [_] ⟨rfl, trivial⟩ ⟨iU, .inl ⟨rfl, fun t ht => ?_⟩⟩
    rw [List.take_length, List.find?_eq_none] at iF
    simpa using iF t ht
end
end Go.Sp

namespace Go.Sp
def DR.goodQ (Rel : World → World → Prop) (w : World) (deps : List Nat) : DR → Prop
  | .val _ => True
  | .rel js R => js.all (fun j => deps.contains j) = true ∧ ∀ W W' xs v, Rel w W → Rel W W' → R W xs v → R W' xs v
def QWL (P : Program) (Rel : World → World → Prop) (ds : List DOp) (e : Env) (w : World) (Fin : List DR → Prop) : List DR → List DOp → Prop
  | done, [] => Fin done
  | done, (deps, g, _, m) :: r => ∃ x : DR, x.goodQ Rel w deps ∧
      (∀ (vs : Nat → Value) (W : World), Rel w W → depFacts done W vs deps → DStep P Rel g m (envD ds done vs deps ++ keepEnv ds done.length e) W fun W' v => x.get W' vs v) ∧
      QWL P Rel ds e w Fin (done ++ [x]) r
def FinQD (P : Program) (n : Nat) (c : Ctx) (D : List Deferred) (is : List Ins) (k : Kont) (Rel : World → World → Prop) (ds : List DOp) (e : Env) (w : World) (tl : List Ins) (done : List DR) : Prop :=
  ∀ vs W, Rel w W → factsD W vs 0 done → Exec P n c D (tl ++ is) k (outD done vs 0 ds ++ e) W
theorem QWL.out {P : Program} {Rel : World → World → Prop} {ds : List DOp} {e : Env} {w : World} {F : List DR → Prop} : ∀ (rest : List DOp) (done : List DR), QWL P Rel ds e w F done rest →
    ∃ rs : List DR, rs.length = rest.length ∧ F (done ++ rs) ∧ ∀ (i : Nat) deps g d m, rest[i]? = some (deps, g, d, m) → ∃ x, (done ++ rs)[done.length + i]? = some x ∧ x.goodQ Rel w deps ∧
      (∀ (vs : Nat → Value) (W : World), Rel w W → depFacts ((done ++ rs).take (done.length + i)) W vs deps →
        DStep P Rel g m (envD ds ((done ++ rs).take (done.length + i)) vs deps ++ keepEnv ds (done.length + i) e) W fun W' v => x.get W' vs v) := by
  intro rest
  induction rest with
  | nil => intro done h; exact ⟨[], rfl, by simp only [List.append_nil]; exact h, fun i deps g d m h => by simp at h⟩
  | cons y rest ih =>
    obtain ⟨deps0, g0, d0, m0⟩ := y
    intro done h
    obtain ⟨x, h1, h2, h3⟩ := h
    obtain ⟨rs, hl, hF, hr⟩ := ih _ h3
    refine ⟨x :: rs, by simp [hl], by simpa using hF, fun i deps g d m hi => ?_⟩
    cases i with
    | zero =>
      simp at hi
      obtain ⟨rfl, rfl, rfl, rfl⟩ := hi
      refine ⟨x, by simp, h1, ?_⟩
      have : (done ++ x :: rs).take (done.length + 0) = done := by simp
      rw [this]
      exact h2
    | succ i =>
      obtain ⟨x', g1, g2, g3⟩ := hr i deps g d m (by simpa using hi)
      have e1 : done ++ [x] ++ rs = done ++ x :: rs := by simp
      have e2 : (done ++ [x]).length + i = done.length + (i + 1) := by simp; omega
      rw [e1, e2] at g1 g3
      exact ⟨x', g1, g2, g3⟩
section
variable {P : Program} {n : Nat} {c : Ctx} {D : List Deferred} {is : List Ins} {k : Kont} {e : Env} {w : World}
theorem exec_qwL {fr : List DOp} {tl : List Ins} (Rel : World → World → Prop) (hE : ∀ a b, Ext a b → Rel a b) (tr : ∀ a b c, Rel a b → Rel b c → Rel a c) (hdst : (dsts fr).all (fun t => Nat.blt t n) = true) (hnd : nodupB (dsts fr) = true) (hwd : wellDeps 0 fr = true)
    (h : QWL P Rel fr e w (FinQD P n c D is k Rel fr e w tl) [] fr) : Exec P n c D (.draw fr tl :: is) k e w := by
  obtain ⟨rs, hl, hF, hs⟩ := h.out
  simp only [List.nil_append, List.length_nil, Nat.zero_add] at hF hs
  let Rs : Nat → World → (Nat → Value) → Prop := fun i W vs => ∀ x, rs[i]? = some x → x.holds W vs i
  have hget : ∀ i, i < fr.length → ∃ x deps g d m, rs[i]? = some x ∧ fr[i]? = some (deps, g, d, m) ∧ x.goodQ Rel w deps := by
    intro i hi
    have : fr[i]? = some fr[i] := List.getElem?_eq_getElem hi
    obtain ⟨x, h1, h2, _⟩ := hs i fr[i].1 fr[i].2.1 fr[i].2.2.1 fr[i].2.2.2 this
    exact ⟨x, _, _, _, _, h1, this, h2⟩
  have hw0 : Rel w { w with drawn := w.drawn + 1 } := hE _ _ (Upd.drew [] w _)
  refine exec_draw Rel Rs (fun a => hE _ _ (Upd.refl _ _)) tr ?_ ?_ hdst hnd ?_ ?_
  · intro i W W' vs hi h1 h2 hR x hx
    have h3 := hR x hx
    obtain ⟨x', deps, g, d, m, h4, h5, h6⟩ := hget i hi
    rw [hx] at h4; cases h4
    cases x with
    | val v => exact h3
    | rel js R => exact h6.2 W W' _ _ (tr _ _ _ hw0 h1) h2 h3
  · intro i c' g d m j W vs v hi hj hne hR x hx
    have h3 := hR x hx
    have hi' : i < fr.length := (List.getElem?_eq_some_iff.1 hi).1
    obtain ⟨x', deps, g', d', m', h4, h5, h6⟩ := hget i hi'
    rw [hi] at h5; cases h5
    rw [hx] at h4; cases h4
    cases x with
    | val u => show put vs j v i = u; simp only [put, if_neg (Ne.symm hne)]; exact h3
    | rel js R =>
      show R W (js.map (put vs j v)) (put vs j v i)
      have e1 : js.map (put vs j v) = js.map vs := by
        apply List.map_congr_left
        intro y hy
        have : y ∈ c' := by simpa using List.all_eq_true.1 h6.1 y hy
        simp only [put, if_neg (fun (h : y = j) => hj (h ▸ this))]
      rw [e1]
      simp only [put, if_neg (Ne.symm hne)]
      exact h3
  · suffices ∀ (r : List DOp) (i : Nat), (∀ j, r[j]? = fr[i + j]?) → DSteps P Rel fr Rs e { w with drawn := w.drawn + 1 } i r from this fr 0 (by simp)
    intro r
    induction r with
    | nil => intro i _; trivial
    | cons y r ih =>
      obtain ⟨deps, g, d, m⟩ := y
      intro i hr
      refine ⟨?_, ih (i + 1) fun j => by have := hr (j + 1); rw [show i + (j + 1) = i + 1 + j from by omega] at this; simpa using this⟩
      intro vs W hW hdeps
      have hi : fr[i]? = some (deps, g, d, m) := by have := hr 0; simpa using this.symm
      obtain ⟨x, h1, h2, h3⟩ := hs i deps g d m hi
      have hlt : ∀ j ∈ deps, j < i := by
        intro j hj
        simpa using wellDeps_get _ 0 hwd i _ _ _ _ hi j hj
      have hh : ∀ j ∈ deps, ∀ y, (rs.take i)[j]? = some y → y.holds W vs j := by
        intro j hj y hy
        rw [List.getElem?_take] at hy
        rw [if_pos (hlt j hj)] at hy
        exact hdeps j hj y hy
      have h4 := h3 vs W (tr _ _ _ hw0 hW) (depFacts_of deps hh)
      rw [envD_eq deps fun j hj => valD_eq (W := W) (hh j hj)] at h4
      have h5 : ∀ (W' : World) (v : Value), x.get W' vs v → Rs i W' (put vs i v) := by
        intro W' v hx y hy
        rw [h1] at hy; cases hy
        cases x with
        | val u => show put vs i v i = u; rw [show put vs i v i = v by simp [put]]; exact hx
        | rel js R =>
          show R W' (js.map (put vs i v)) (put vs i v i)
          have e1 : js.map (put vs i v) = js.map vs := by
            apply List.map_congr_left
            intro z hz
            have : z ∈ deps := by simpa using List.all_eq_true.1 h2.1 z hz
            have := hlt z this
            simp only [put, if_neg (show ¬ z = i from by omega)]
          rw [e1]
          rw [show put vs i v i = v by simp [put]]; exact hx
      unfold DStep at h4 ⊢
      split
      · exact h4.mono fun v W' h => ⟨h.1, h5 _ _ h.2⟩
      · exact h4
      · rcases h4 with ⟨ha, hb⟩ | ⟨ha, hb⟩
        · exact .inl ⟨ha, hb.mono fun v W' h => ⟨h.1, h5 _ _ h.2⟩⟩
        · exact .inr ⟨ha, h5 _ _ hb⟩
  · intro vs W hW hR
    have h1 : ∀ (j : Nat) (x : DR), rs[j]? = some x → x.holds W vs (0 + j) := by
      intro j x hx
      have : j < fr.length := by rw [← hl]; exact (List.getElem?_eq_some_iff.1 hx).1
      rw [Nat.zero_add]; exact hR j this x hx
    have h2 := hF vs W (tr _ _ _ hw0 hW) (factsD_of rs 0 h1)
    rw [outD_eq fr 0 fun j hj => valD_eq (W := W) (by intro x hx; exact h1 (0 + j) x hx |> fun h => by simpa using h)] at h2
    exact h2
end
def QW (P : Program) (Rel : World → World → Prop) (ds : List DOp) (e : Env) (w : World) (Fin : List (Nat × DR) → Prop) : Nat → List (Nat × DR) → List DOp → Prop
  | _, done, [] => Fin done
  | i, done, (deps, g, _, m) :: r => ∃ x : DR, x.goodQ Rel w deps ∧
      (∀ (vs : Nat → Value) (W : World), Rel w W → depFactsA done W vs deps → DStep P Rel g m (envA ds done vs deps ++ keepEnv ds i e) W fun W' v => x.get W' vs v) ∧
      QW P Rel ds e w Fin (i + 1) ((i, x) :: done) r
def FinQA (P : Program) (n : Nat) (c : Ctx) (D : List Deferred) (is : List Ins) (k : Kont) (Rel : World → World → Prop) (ds : List DOp) (e : Env) (w : World) (tl : List Ins) (done : List (Nat × DR)) : Prop :=
  ∀ vs W, Rel w W → factsA W vs done → Exec P n c D (tl ++ is) k (outA done vs 0 ds ++ e) W
theorem QW.toL {P : Program} {Rel : World → World → Prop} {ds : List DOp} {e : Env} {w : World} {F : List (Nat × DR) → Prop} : ∀ (rest : List DOp) (i : Nat) (done : List (Nat × DR)) (L : List DR), L.length = i → (∀ j, getA done j = L[j]?) → (∀ p ∈ done, L[p.1]? = some p.2) →
    QW P Rel ds e w F i done rest → QWL P Rel ds e w (fun L => ∃ done, (∀ j, getA done j = L[j]?) ∧ (∀ p ∈ done, L[p.1]? = some p.2) ∧ F done) L rest := by
  intro rest
  induction rest with
  | nil => intro i done L _ h1 h2 h; exact ⟨done, h1, h2, h⟩
  | cons y rest ih =>
    obtain ⟨deps, g, d, m⟩ := y
    intro i done L hl h1 h2 h
    obtain ⟨x, hg, hs, hr⟩ := h
    refine ⟨x, hg, fun vs W hW hd => ?_, ih (i + 1) ((i, x) :: done) (L ++ [x]) (by simp [hl]) ?_ ?_ hr⟩
    · have := hs vs W hW (depFactsA_of h1 deps hd)
      rw [envA_eq h1, ← hl] at this
      exact this
    · intro j
      simp only [getA]
      split
      · rename_i hb
        have := Nat.eq_of_beq_eq_true hb
        subst this
        rw [← hl]; simp
      · rename_i hb
        have hne : i ≠ j := fun h => by subst h; simp at hb
        rw [h1 j]
        rcases Nat.lt_or_ge j L.length with hj | hj
        · rw [List.getElem?_append_left hj]
        · rw [List.getElem?_eq_none hj, List.getElem?_eq_none (by simp; omega)]
    · intro p hp
      rcases List.mem_cons.1 hp with rfl | hp
      · rw [← hl]; simp
      · have h3 := h2 p hp
        have hj := (List.getElem?_eq_some_iff.1 h3).1
        rw [List.getElem?_append_left hj]; exact h3
section
variable {P : Program} {n : Nat} {c : Ctx} {D : List Deferred} {is : List Ins} {k : Kont} {e : Env} {w : World}
theorem exec_qw {fr : List DOp} {tl : List Ins} (Rel : World → World → Prop) (hE : ∀ a b, Ext a b → Rel a b) (tr : ∀ a b c, Rel a b → Rel b c → Rel a c) (hdst : (dsts fr).all (fun t => Nat.blt t n) = true) (hnd : nodupB (dsts fr) = true) (hwd : wellDeps 0 fr = true)
    (h : QW P Rel fr e w (FinQA P n c D is k Rel fr e w tl) 0 [] fr) : Exec P n c D (.draw fr tl :: is) k e w := by
  refine exec_qwL Rel hE tr hdst hnd hwd ?_
  have h2 := QW.toL fr 0 [] [] rfl (by simp [getA]) (by simp) h
  have mono : ∀ (rest : List DOp) (L : List DR) (F G : List DR → Prop), (∀ L, F L → G L) → QWL P Rel fr e w F L rest → QWL P Rel fr e w G L rest := by
    intro rest
    induction rest with
    | nil => intro L F G hFG h; exact hFG _ h
    | cons y rest ih =>
      obtain ⟨deps, g, d, m⟩ := y
      intro L F G hFG h
      obtain ⟨x, h1, h2, h3⟩ := h
      exact ⟨x, h1, h2, ih _ F G hFG h3⟩
  refine mono fr [] _ _ ?_ h2
  rintro L ⟨done, g1, g2, hF⟩ vs W hW hf
  have := hF vs W hW (factsA_of hf done g2)
  rw [outA_eq g1] at this
  exact this
variable {Rel : World → World → Prop} {ds : List DOp} {F : List (Nat × DR) → Prop} {done : List (Nat × DR)} {i : Nat} {deps : List Nat} {d : Option Nat} {m : MOp} {r : List DOp} {s : Nat} {b : Bool}
theorem qw_tame {v : Value} (hE : ∀ a b, Ext a b → Rel a b) (hp : tameOp m = true) (hv : ∀ vs, pureV (envA ds done vs deps ++ keepEnv ds i e) m = some v) (h : QW P Rel ds e w F (i + 1) ((i, .val v) :: done) r) : QW P Rel ds e w F i done ((deps, none, d, m) :: r) :=
  ⟨.val v, trivial, fun vs W _ _ => (ok_pure (hv vs)).mono fun u W' hu => ⟨hu.2 ▸ hE _ _ (Upd.refl _ _), hu.1⟩, h⟩
theorem qw_keep (v : Value) (hE : ∀ a b, Ext a b → Rel a b) (hv : ∀ vs W, Rel w W → depFactsA done W vs deps → OpOK P m (envA ds done vs deps ++ keepEnv ds i e) W (Just v W))
    (h : QW P Rel ds e w F (i + 1) ((i, .val v) :: done) r) : QW P Rel ds e w F i done ((deps, none, d, m) :: r) :=
  ⟨.val v, trivial, fun vs W h1 h2 => (hv vs W h1 h2).mono fun u W' hu => ⟨hu.2 ▸ hE _ _ (Upd.refl _ _), hu.1⟩, h⟩
theorem qw_rel (js : List Nat) (R : World → List Value → Value → Prop) (hj : js.all (fun j => deps.contains j) = true) (hm : ∀ W W' xs v, Rel w W → Rel W W' → R W xs v → R W' xs v)
    (hv : ∀ vs W, Rel w W → depFactsA done W vs deps → OpOK P m (envA ds done vs deps ++ keepEnv ds i e) W fun u W' => Rel W W' ∧ R W' (js.map vs) u)
    (h : QW P Rel ds e w F (i + 1) ((i, .rel js R) :: done) r) : QW P Rel ds e w F i done ((deps, none, d, m) :: r) :=
  ⟨.rel js R, ⟨hj, hm⟩, fun vs W h1 h2 => hv vs W h1 h2, h⟩
theorem qw_end {tl : List Ins} (h : ∀ vs W, Rel w W → factsA W vs done → Exec P n c D (tl ++ is) k (outA done vs 0 ds ++ e) W) : QW P Rel ds e w (FinQA P n c D is k Rel ds e w tl) i done [] := h
/-- a store, said as an operation -/
theorem ok_store {N B o : Nat} {x y : Operand} {v : Value} {cs : List Value} (hx : e.ev x = some (.pointer (some ⟨B, o, none⟩))) (hy : e.ev y = some v) (hB : Blk w B cs) (hl : v.cells.size = N) (hle : o + N ≤ cs.length) (hv : v.cells.toList.all cellValue = true) :
    OpOK P (.store N x y) e w fun _ W => Upd [B] w W ∧ W.heap.size = w.heap.size ∧ Blk W B (splice cs o v.cells.toList) := by
  intro a hk rd d next Q hn
  obtain ⟨w', hr, hu, hs, hb'⟩ := storeCells_run (P := P) (o := o) v.cells.toList 0 w cs hB (by simp [hl]; omega) hv
  have : ((MOp.store N x y).sem a.eval).run P w = .ok .skip w' := by
    simp [MOp.sem, Env.ok_ev hk hx, Env.ok_ev hk hy, Instr.sureAddr, hl, hr]
  rw [this]
  rw [Oper.uponIn_skip]
  exact hn undef w' ⟨hu, hs, hb'⟩
end
end Go.Sp

namespace Go.Sp
/-- worlds in which a new block of one cell may be written: X -/
structure NewCell (N : Nat) (X : Value) (a b : World) : Prop where
  os : b.os = a.os
  tape : b.tape = a.tape
  output : b.output = a.output
  size : a.heap.size ≤ b.heap.size
  block : ∀ i, i < a.heap.size → i < N → b.heap[i]? = a.heap[i]?
  drawn : a.drawn ≤ b.drawn
  cell : ∀ i x, N ≤ i → Blk a i [x] → ∃ y, Blk b i [y] ∧ (x = X → y = X)
theorem NewCell.ext {N : Nat} {X : Value} {a b : World} (h : Ext a b) : NewCell N X a b := ⟨h.os, h.tape, h.output, h.size, fun i hi _ => h.block i hi (by simp), h.drawn, fun i x _ hB => ⟨x, hB.upd h, id⟩⟩
theorem NewCell.trans {N : Nat} {X : Value} {a b c : World} (h : NewCell N X a b) (k : NewCell N X b c) : NewCell N X a c :=
  ⟨k.os.trans h.os, k.tape.trans h.tape, k.output.trans h.output, Nat.le_trans h.size k.size, fun i h1 h2 => (k.block i (Nat.lt_of_lt_of_le h1 h.size) h2).trans (h.block i h1 h2), Nat.le_trans h.drawn k.drawn, fun i x hi hB => by
    obtain ⟨y, h1, h2⟩ := h.cell i x hi hB
    obtain ⟨z, h3, h4⟩ := k.cell i y hi h1
    exact ⟨z, h3, fun hx => h4 (h2 hx)⟩⟩
theorem NewCell.toExt {X : Value} {w W : World} (h : NewCell w.heap.size X w W) : Ext w W := ⟨h.os, h.tape, h.output, h.size, fun i hi _ => h.block i hi hi, h.drawn⟩
theorem NewCell.store {N B : Nat} {X : Value} {a b : World} (hN : N ≤ B) (h : Upd [B] a b) (hB : Blk b B [X]) : NewCell N X a b :=
  ⟨h.os, h.tape, h.output, h.size, fun i h1 h2 => h.block i h1 (by simp; omega), h.drawn, fun i x hi hBx => by
    by_cases he : i = B
    · subst he; exact ⟨X, hB, fun _ => rfl⟩
    · exact ⟨x, hBx.upd h (by simpa using he), id⟩⟩
/-- the functions of forest, on -/
structure ForN (P : Program) extends ForM P where
  where' : Nat
  TWu : Nat
  h_where : Has P where' (b_Pforest_Forest_Where is' where1 index root' rows' nf.left TH TWu TNode)
theorem rowsN_40 {n : Nat} (h : n < 2 ^ 40) : rowsN n ≤ 40 := by
  unfold rowsN
  split
  · omega
  · exact bitLen_le (by omega) (by omega)
theorem pow41 {R : Nat} (h : R ≤ 40) : 2 ^ (R + 1) ≤ 2 ^ 41 := Nat.pow_le_pow_right (by omega) (by omega)
section
variable {P : Program} {f : Nat} {w : World}
set_option maxHeartbeats 800000 in
theorem where_ok (A : ForN P) {p m : Nat} {s : Fo} (h : FAt w p m s) (hh : Hash) : Ret P A.where' [ptrV p, hV hh] w fun v w' => Ext w w' ∧
    ((v = .tuple #[u64V 0, .bool false] ∧ some hh ∉ s.L) ∨ ∃ x, v = .tuple #[u64V (whereT (treesT parH (lv s.L) s.L.length) s.L.length x), .bool true] ∧ s.L[x]? = some (some hh)) := by
  have hF := h
  have hlen := h.len
  obtain ⟨⟨tv, wl, h1, h2, h3, h4⟩, _⟩ := h
  refine Ret.of_exec A.h_where (Nat.le_of_ble_eq_true rfl) fun c hc => ?_
  dsimp only [b_Pforest_Forest_Where, argEnv]
  refine exec_box rfl rfl ?_
  intro b3 w1 hb3 hs1 hu1 hB3
  rw [hV_cells] at hB3
  repeat (first | refine xtm rfl rfl rfl ?_ | refine xgr rfl ?_ | refine xgs rfl rfl ?_ | refine xgu rfl rfl ?_ | refine xg0 rfl ?_ | refine xct rfl ?_ | refine xcf rfl ?_ | refine xbk ?_ | refine xsq ?_ | refine xbl ?_ | refine xex rfl ?_)
  refine xca rfl rfl (is_ok A.toForJ (hF.ext hu1)) ?_
  rintro _ w2 ⟨rfl, hu2⟩
  repeat (first | refine xtm rfl rfl rfl ?_ | refine xgr rfl ?_ | refine xgs rfl rfl ?_ | refine xgu rfl rfl ?_ | refine xg0 rfl ?_ | refine xct rfl ?_ | refine xcf rfl ?_ | refine xbk ?_ | refine xsq ?_ | refine xbl ?_ | refine xex rfl ?_)
  have hE2 : Ext w w2 := hu1.trans hu2
  refine xen [(0, ptrV p), (3, ptrV b3)] ⟨rfl, rfl, trivial⟩ ?_
  obtain ⟨o, ho⟩ : ∃ o, aget hh wl = o := ⟨_, rfl⟩
  have hE : ∀ a b, Ext a b → NewCell w2.heap.size (u64V (o.getD 0)) a b := fun a b h => NewCell.ext h
  refine exec_qw (NewCell w2.heap.size (u64V (o.getD 0))) hE (fun a b c h k => h.trans k) rfl rfl rfl ?_
  repeat refine qw_tame hE rfl (fun _ => rfl) ?_
  refine qw_keep (.map (some m)) hE (fun vs X hx _ => ok_load1 (b := p) (o := 0 + 2) rfl ((h1.upd (hE2.trans hx.toExt)).cell rfl)) ?_
  refine qw_keep (hV hh) hE (fun vs X hx _ => ok_loadN (b := b3) (o := 0) rfl (hB3.upd (hu2.trans hx.toExt)).memAll (hC_length _)) ?_
  refine qw_keep _ hE (fun vs X hx _ => ok_look A.h_TH rfl rfl (h3.upd (hE2.trans hx.toExt)) ho) ?_
  repeat refine qw_tame hE rfl (fun _ => rfl) ?_
  refine qw_rel [] (fun W _ v => ∃ b, v = ptrV b ∧ w2.heap.size ≤ b ∧ ∃ x, Blk W b [x]) rfl ?_ ?_ ?_
  · rintro W W' xs v _ hx ⟨b, rfl, h1, x, h2⟩
    obtain ⟨y, h3, _⟩ := hx.cell b x h1 h2
    exact ⟨b, rfl, h1, y, h3⟩
  · intro vs X hx _
    refine ok_new.mono ?_
    rintro v X' ⟨b, rfl, q1, q2, q3⟩
    have := hx.size
    exact ⟨NewCell.ext q3, b, rfl, by omega, _, q1⟩
  refine qw_rel [9] (fun W xs _ => ∃ b, xs = [ptrV b] ∧ w2.heap.size ≤ b ∧ Blk W b [u64V (o.getD 0)]) rfl ?_ ?_ ?_
  · rintro W W' xs v _ hx ⟨b, rfl, h1, h2⟩
    obtain ⟨y, h3, h4⟩ := hx.cell b _ h1 h2
    rw [h4 rfl] at h3
    exact ⟨b, rfl, h1, h3⟩
  · intro vs X hx hd
    obtain ⟨⟨b, hvs, hb, x, hBx⟩, _⟩ := hd
    refine (ok_store (B := b) (o := 0) (v := u64V (o.getD 0)) (by show some (vs 9) = _; rw [hvs]) rfl hBx rfl (by show 0 + 1 ≤ 1; omega) rfl).mono ?_
    rintro _ X' ⟨q1, q2, q3⟩
    have q3' : Blk X' b [u64V (o.getD 0)] := q3
    exact ⟨NewCell.store hb q1 q3', b, by simp [hvs], hb, q3'⟩
  refine qw_end fun vs w3 hw3 hf => ?_
  obtain ⟨⟨b6, hv6, hb6, hB6⟩, _⟩ := hf
  have hv6' : vs 9 = ptrV b6 := by simpa using hv6
  have hu3 : Ext w2 w3 := hw3.toExt
  have hE3 := hE2.trans hu3
  clear hw3
  refine xen [(0, ptrV p), (22, .bool o.isSome), (6, ptrV b6)] ⟨rfl, rfl, by show some (vs 9) = _; rw [hv6'], trivial⟩ ?_
  repeat (first | refine xtm rfl rfl rfl ?_ | refine xgr rfl ?_ | refine xgs rfl rfl ?_ | refine xgu rfl rfl ?_ | refine xg0 rfl ?_ | refine xct rfl ?_ | refine xcf rfl ?_ | refine xbk ?_ | refine xsq ?_ | refine xbl ?_ | refine xex rfl ?_)
  refine exec_cond rfl (fun hq => ?_) (fun hq => ?_)
  · repeat (first | refine xtm rfl rfl rfl ?_ | refine xgr rfl ?_ | refine xgs rfl rfl ?_ | refine xgu rfl rfl ?_ | refine xg0 rfl ?_ | refine xct rfl ?_ | refine xcf rfl ?_ | refine xbk ?_ | refine xsq ?_ | refine xbl ?_ | refine xex rfl ?_)
    refine xre hc [_, _] ⟨rfl, rfl, trivial⟩ ⟨hE3, .inl ⟨rfl, fun hm => ?_⟩⟩
    obtain ⟨i, hi⟩ := List.getElem?_of_mem hm
    rw [(h4 hh i).2 hi] at ho
    subst ho; cases hq
  simp only [Bool.not_eq_false'] at hq
  obtain ⟨x, rfl⟩ := Option.isSome_iff_exists.1 hq
  have hLx := (h4 hh x).1 ho
  have hxn : x < s.L.length := (List.getElem?_eq_some_iff.1 hLx).1
  have hB6x : Blk w3 b6 [u64V x] := hB6
  have hn63 : s.L.length < 2 ^ 63 := by omega
  have hlenT := treesT_len parH (L := lv s.L) hn63
  repeat (first | refine xtm rfl rfl rfl ?_ | refine xgr rfl ?_ | refine xgs rfl rfl ?_ | refine xgu rfl rfl ?_ | refine xg0 rfl ?_ | refine xct rfl ?_ | refine xcf rfl ?_ | refine xbk ?_ | refine xsq ?_ | refine xbl ?_ | refine xex rfl ?_)
  refine exec_load1 (b := p) (o := 0 + 1) rfl rfl ((h1.upd hE3).cell rfl) ?_
  repeat (first | refine xtm rfl rfl rfl ?_ | refine xgr rfl ?_ | refine xgs rfl rfl ?_ | refine xgu rfl rfl ?_ | refine xg0 rfl ?_ | refine xct rfl ?_ | refine xcf rfl ?_ | refine xbk ?_ | refine xsq ?_ | refine xbl ?_ | refine xex rfl ?_)
  have hbT : ∀ t ∈ treesT parH (lv s.L) s.L.length, t.2.1 + 2 ^ t.2.2 < 2 ^ 63 ∧ t.2.2 < 63 := by
    intro t htm
    obtain ⟨k, rfl, q1, q2⟩ := treesT_mem parH hlen htm
    exact ⟨by show firstN _ k + 2 ^ k < _; omega, by show k < 63; omega⟩
  refine xca rfl rfl (indexT_ok A.toForM (h2.ext hE3).own.sl (by omega) A.h_where1.enters (cs := [ptrV b6]) (q := inT x) (fun W u t hu ht => where1_ok A.toForM (by omega) (hB6x.upd hu) u t (hbT t ht))) ?_
  rintro v4 w4 ⟨hu4, hcase⟩
  obtain ⟨ft, hft, hftx⟩ := find_tree parH (L := lv s.L) hn63 hxn
  rcases hcase with ⟨_, hno⟩ | ⟨i, t, rfl, hti, hfind⟩
  · rw [hno ft hft] at hftx; cases hftx
  have htm := List.mem_of_getElem? hti
  have hin : inT x t = true := List.find?_some hfind
  obtain ⟨r, hr⟩ := in_tree parH htm hin (by rw [lv_eq, lvG_some.2 hLx]; rfl)
  have hil := (List.getElem?_eq_some_iff.1 hti).1
  obtain ⟨us, hR, hO⟩ := h2.own
  rcases hO with ⟨_, h0, _⟩ | ⟨bt, cap, rest, rfl, hBt, ho1, ho2, ho3⟩
  · omega
  obtain ⟨u, hu⟩ : ∃ u, us[i]? = some u := ⟨_, List.getElem?_eq_getElem (by rw [hR.len]; exact hil)⟩
  have hOu := hR.at' i u t hu hti
  obtain ⟨g0, g1, g2⟩ := cellsT_get us _ i u t hu hti
  have hM3 : Mem w bt (0 + i * 3) [u, u64V t.2.1, intV' t.2.2] := hBt.memPre.sub (i * 3) (us := [u, u64V t.2.1, intV' t.2.2]) (fun k x hk => by
    match k, hk with
    | 0, hk => cases hk; exact g0
    | 1, hk => cases hk; exact g1
    | 2, hk => cases hk; exact g2)
  have hE4 := hE3.trans hu4
  obtain ⟨tr, tf, th⟩ := t
  simp only at hr
  subst hr
  obtain ⟨hb1, hb2⟩ := hbT _ htm
  simp only at hb1 hb2 hOu hM3
  have hgoal : whereT (treesT parH (lv s.L) s.L.length) s.L.length x = whereN (rowsN s.L.length) r ((rootN s.L.length th).getD 0) x := by rw [whereT, hfind]
  have hR40 := rowsN_40 hlen
  have hp41 := pow41 hR40
  have hroot : (rootN s.L.length th).getD 0 < 2 ^ 41 := by
    cases hq : rootN s.L.length th with
    | none => show 0 < _; omega
    | some q => have := rootN_lt hq; show q < _; omega
  repeat (first | refine xtm rfl rfl rfl ?_ | refine xgr rfl ?_ | refine xgs rfl rfl ?_ | refine xgu rfl rfl ?_ | refine xg0 rfl ?_ | refine xct rfl ?_ | refine xcf rfl ?_ | refine xbk ?_ | refine xsq ?_ | refine xbl ?_ | refine xex rfl ?_)
  refine xen [(0, ptrV p), (6, ptrV b6), (8, intV' i)] ⟨rfl, rfl, rfl, trivial⟩ ?_
  refine exec_dwr rfl rfl rfl ?_
  repeat (first | refine wtm rfl rfl rfl ?_ | refine wgt rfl rfl rfl rfl ?_ | refine wgs rfl rfl ?_)
  refine ws_keep (.slice (some ⟨bt, 0, none⟩) (treesT parH (lv s.L) s.L.length).length cap) rfl (fun X hx => ok_load1 (b := p) (o := 0 + 1) rfl ((h1.upd (hE4.trans hx)).cell rfl)) ?_
  repeat (first | refine wtm rfl rfl rfl ?_ | refine wgt rfl rfl rfl rfl ?_ | refine wgs rfl rfl ?_)
  refine ws_keep _ rfl (fun X hx => ok_iaddr (N := 3) (b := bt) (o := 0) rfl rfl i rfl hil) ?_
  refine ws_keep (.agg #[u, u64V tf, intV' th]) rfl (fun X hx => ok_loadN (b := bt) (o := 0 + i * 3) (vs := [u, u64V tf, intV' th]) rfl (hM3.upd (hE4.trans hx) (by simp)) rfl) ?_
  refine ws_ext (u64V ((rootN s.L.length th).getD 0)) rfl (fun X hx => ok_call rfl (root'_ok A.toForM (hF.ext (hE4.trans hx)) u tf th (by omega))) ?_
  repeat (first | refine wtm rfl rfl rfl ?_ | refine wgt rfl rfl rfl rfl ?_ | refine wgs rfl rfl ?_)
  refine ws_keep (.slice (some ⟨bt, 0, none⟩) (treesT parH (lv s.L) s.L.length).length cap) rfl (fun X hx => ok_load1 (b := p) (o := 0 + 1) rfl ((h1.upd (hE4.trans hx)).cell rfl)) ?_
  repeat (first | refine wtm rfl rfl rfl ?_ | refine wgt rfl rfl rfl rfl ?_ | refine wgs rfl rfl ?_)
  refine ws_keep _ rfl (fun X hx => ok_iaddr (N := 3) (b := bt) (o := 0) rfl rfl i rfl hil) ?_
  repeat (first | refine wtm rfl rfl rfl ?_ | refine wgt rfl rfl rfl rfl ?_ | refine wgs rfl rfl ?_)
  refine ws_keep u rfl (fun X hx => ok_load1 (b := bt) (o := 0 + i * 3 + 0) rfl ((hM3.upd (hE4.trans hx) (by simp)) 0 u rfl)) ?_
  repeat (first | refine wtm rfl rfl rfl ?_ | refine wgt rfl rfl rfl rfl ?_ | refine wgs rfl rfl ?_)
  refine ws_fin fun w5 hw5 => ?_
  repeat (first | refine xtm rfl rfl rfl ?_ | refine xgr rfl ?_ | refine xgs rfl rfl ?_ | refine xgu rfl rfl ?_ | refine xg0 rfl ?_ | refine xct rfl ?_ | refine xcf rfl ?_ | refine xbk ?_ | refine xsq ?_ | refine xbl ?_ | refine xex rfl ?_)
  refine xen [(0, ptrV p), (6, ptrV b6), (9, u64V ((rootN s.L.length th).getD 0)), (10, u)] ⟨rfl, rfl, rfl, rfl, trivial⟩ ?_
  have hE5 := hE4.trans hw5
  have hB65 : Blk w5 b6 [u64V x] := (hB6x.upd hu4).upd hw5
  have hO5 : TrAt w5 u r := TrAt.ext (show TrAt w u r from hOu) hE5
  generalize hgp : (rootN s.L.length th).getD 0 = p0 at *
  refine xlo (S := Tr Hash × Value × Nat) (fun st W => TrAt W st.2.1 st.1 ∧ st.2.2 < 2 ^ 42 ∧ whereN (rowsN s.L.length) st.1 st.2.2 x = whereN (rowsN s.L.length) r p0 x ∧ Ext w W ∧ Ext w5 W)
    (fun st => [(0, ptrV p), (6, ptrV b6), (9, u64V st.2.2), (10, st.2.1)]) (fun st => st.1.high) (r, u, p0)
    ⟨hO5, by show p0 < 2 ^ 42; omega, rfl, hE5, Upd.refl _ _⟩ ⟨rfl, rfl, rfl, rfl, trivial⟩ ?_
  rintro ⟨tr, uv, pp⟩ W ⟨iT, iP, iN, iE, iE5⟩
  simp only at iT iP iN
  cases tr with
  | leaf h0 =>
    obtain ⟨b, rfl, hB⟩ := iT
    repeat (first | refine xtm rfl rfl rfl ?_ | refine xgr rfl ?_ | refine xgs rfl rfl ?_ | refine xgu rfl rfl ?_ | refine xg0 rfl ?_ | refine xct rfl ?_ | refine xcf rfl ?_ | refine xbk ?_ | refine xsq ?_ | refine xbl ?_ | refine xex rfl ?_)
    refine exec_load1 (b := b) (o := 0 + 32) rfl rfl (node_cell0 hB).2.1 ?_
    refine xju (ok_ne_nil A.h_TNode rfl rfl) rfl ?_
    repeat (first | refine xtm rfl rfl rfl ?_ | refine xgr rfl ?_ | refine xgs rfl rfl ?_ | refine xgu rfl rfl ?_ | refine xg0 rfl ?_ | refine xct rfl ?_ | refine xcf rfl ?_ | refine xbk ?_ | refine xsq ?_ | refine xbl ?_ | refine xex rfl ?_)
    refine xre hc [_, _] ⟨rfl, rfl, trivial⟩ ⟨iE, .inr ⟨x, ?_, hLx⟩⟩
    rw [hgoal, ← iN, whereN]; rfl
  | pair h0 l rr mid =>
    obtain ⟨b, vl, vr, rfl, hB, hm62, hl, hrr⟩ := iT
    have hl0 := hl
    obtain ⟨bl, _, _, _, rfl, _⟩ := TrAt.node hl0
    repeat (first | refine xtm rfl rfl rfl ?_ | refine xgr rfl ?_ | refine xgs rfl rfl ?_ | refine xgu rfl rfl ?_ | refine xg0 rfl ?_ | refine xct rfl ?_ | refine xcf rfl ?_ | refine xbk ?_ | refine xsq ?_ | refine xbl ?_ | refine xex rfl ?_)
    refine exec_load1 (b := b) (o := 0 + 32) rfl rfl (node_cell0 hB).2.1 ?_
    refine xju (ok_ne_nil A.h_TNode rfl rfl) rfl ?_
    repeat (first | refine xtm rfl rfl rfl ?_ | refine xgr rfl ?_ | refine xgs rfl rfl ?_ | refine xgu rfl rfl ?_ | refine xg0 rfl ?_ | refine xct rfl ?_ | refine xcf rfl ?_ | refine xbk ?_ | refine xsq ?_ | refine xbl ?_ | refine xex rfl ?_)
    refine xca rfl rfl (rows'_ok A.toForM (hF.ext iE)) ?_
    rintro _ W1 ⟨rfl, hw1⟩
    refine xca rfl rfl (left_ok A.nf.toPosF pp (rowsN s.L.length) (by omega) (by omega)) ?_
    rintro _ W2 ⟨rfl, hw2⟩
    rw [optV_eq]
    repeat (first | refine xtm rfl rfl rfl ?_ | refine xgr rfl ?_ | refine xgs rfl rfl ?_ | refine xgu rfl rfl ?_ | refine xg0 rfl ?_ | refine xct rfl ?_ | refine xcf rfl ?_ | refine xbk ?_ | refine xsq ?_ | refine xbl ?_ | refine xex rfl ?_)
    have hq41 : (leftN pp (rowsN s.L.length)).getD 0 < 2 ^ 41 := Nat.lt_of_lt_of_le leftN_lt hp41
    have hWW2 : Ext W W2 := hw1.trans hw2
    refine xen [(0, ptrV p), (6, ptrV b6), (9, u64V ((leftN pp (rowsN s.L.length)).getD 0)), (10, ptrV b)] ⟨rfl, rfl, rfl, rfl, trivial⟩ ?_
    refine exec_dwr rfl rfl rfl ?_
    refine ws_keep (u64V x) rfl (fun X hx => ok_load1 (b := b6) (o := 0) rfl (((hB65.upd iE5).upd (hWW2.trans hx)).cell rfl)) ?_
    repeat (first | refine wtm rfl rfl rfl ?_ | refine wgt rfl rfl rfl rfl ?_ | refine wgs rfl rfl ?_)
    refine ws_keep (u64V mid) rfl (fun X hx => ok_load1 (b := b) (o := 0 + 34) rfl (node_cell0 (hB.upd (hWW2.trans hx))).2.2.2) ?_
    refine ws_fin fun W3 hw3 => ?_
    have hW3 := hWW2.trans hw3
    have key : whereN (rowsN s.L.length) (.pair h0 l rr mid) pp x = if x < mid then whereN (rowsN s.L.length) l ((leftN pp (rowsN s.L.length)).getD 0) x else whereN (rowsN s.L.length) rr ((leftN pp (rowsN s.L.length)).getD 0 + 1) x := by rw [whereN]
    by_cases hxm : x < mid
    · refine xpu (pv_lssI (a := x) (b := mid) (q := true) rfl rfl (by simpa using hxm)) rfl ?_
      repeat (first | refine xtm rfl rfl rfl ?_ | refine xgr rfl ?_ | refine xgs rfl rfl ?_ | refine xgu rfl rfl ?_ | refine xg0 rfl ?_ | refine xct rfl ?_ | refine xcf rfl ?_ | refine xbk ?_ | refine xsq ?_ | refine xbl ?_ | refine xex rfl ?_)
      refine exec_load1 (b := b) (o := 0 + 32) rfl rfl (node_cell0 (hB.upd hW3)).2.1 ?_
      repeat (first | refine xtm rfl rfl rfl ?_ | refine xgr rfl ?_ | refine xgs rfl rfl ?_ | refine xgu rfl rfl ?_ | refine xg0 rfl ?_ | refine xct rfl ?_ | refine xcf rfl ?_ | refine xbk ?_ | refine xsq ?_ | refine xbl ?_ | refine xex rfl ?_)
      refine xag (l, ptrV bl, (leftN pp (rowsN s.L.length)).getD 0) ⟨TrAt.ext hl hW3, by show (leftN pp (rowsN s.L.length)).getD 0 < 2 ^ 42; omega, ?_, iE.trans hW3, iE5.trans hW3⟩ (by show l.high < l.high + rr.high + 1; omega) ⟨rfl, rfl, rfl, rfl, trivial⟩
      rw [key, if_pos hxm] at iN
      exact iN
    · refine xpu (pv_lssI (a := x) (b := mid) (q := false) rfl rfl (by simpa using hxm)) rfl ?_
      repeat (first | refine xtm rfl rfl rfl ?_ | refine xgr rfl ?_ | refine xgs rfl rfl ?_ | refine xgu rfl rfl ?_ | refine xg0 rfl ?_ | refine xct rfl ?_ | refine xcf rfl ?_ | refine xbk ?_ | refine xsq ?_ | refine xbl ?_ | refine xex rfl ?_)
      refine exec_load1 (b := b) (o := 0 + 33) rfl rfl (node_cell0 (hB.upd hW3)).2.2.1 ?_
      repeat (first | refine xtm rfl rfl rfl ?_ | refine xgr rfl ?_ | refine xgs rfl rfl ?_ | refine xgu rfl rfl ?_ | refine xg0 rfl ?_ | refine xct rfl ?_ | refine xcf rfl ?_ | refine xbk ?_ | refine xsq ?_ | refine xbl ?_ | refine xex rfl ?_)
      refine xpu (pv_addU (a := (leftN pp (rowsN s.L.length)).getD 0) (b := 1) rfl rfl (by omega)) rfl ?_
      repeat (first | refine xtm rfl rfl rfl ?_ | refine xgr rfl ?_ | refine xgs rfl rfl ?_ | refine xgu rfl rfl ?_ | refine xg0 rfl ?_ | refine xct rfl ?_ | refine xcf rfl ?_ | refine xbk ?_ | refine xsq ?_ | refine xbl ?_ | refine xex rfl ?_)
      refine xag (rr, vr, (leftN pp (rowsN s.L.length)).getD 0 + 1) ⟨TrAt.ext hrr hW3, by show (leftN pp (rowsN s.L.length)).getD 0 + 1 < 2 ^ 42; omega, ?_, iE.trans hW3, iE5.trans hW3⟩ (by show rr.high < l.high + rr.high + 1; omega) ⟨rfl, rfl, rfl, rfl, trivial⟩
      rw [key, if_neg hxm] at iN
      exact iN
end
end Go.Sp

namespace Go.Sp
def rootC : Option Hash → List Value
  | none => .bool false :: List.replicate 32 (.int .u8 0)
  | some h => .bool true :: hC h
theorem rootC_len (o : Option Hash) : (rootC o).length = 33 := by cases o <;> simp [rootC, hC_length]
theorem rootC_ok (o : Option Hash) : (rootC o).all cellValue = true := by
  cases o with
  | none => rfl
  | some h => simp [rootC, hC_cell]; rfl
def rootsC (l : List (Option Hash)) : List Value := l.flatMap rootC
theorem root_fill (h : Hash) : fillL (rleL [(1, .bool false), (32, .int .u8 0)]) [(0, 1, .bool true), (1, 32, hV h)] = some (rootC (some h)) := by
  have e0 : rleL [(1, Value.bool false), (32, .int .u8 0)] = [.bool false] ++ List.replicate 32 (.int .u8 0) := rfl
  have e1 : cellL (hV h) = hC h := by simp [hV, cellL]
  rw [e0, fillL_cons (size := 1) rfl (by simp)]
  rw [show splice ([.bool false] ++ List.replicate 32 (.int .u8 0)) 0 (cellL (.bool true)) = [.bool true] ++ List.replicate 32 (.int .u8 0) from splice_head rfl]
  rw [fillL_cons (by rw [e1, hC_length]) (by simp), e1]
  rw [show splice ([.bool true] ++ List.replicate 32 (.int .u8 0)) 1 (hC h) = [.bool true] ++ hC h from ?_]
  · rfl
  · rw [splice]
    simp [hC_length]
theorem root_fill1 (o : Option Hash) : fillL (rleL [(1, .bool false), (32, .int .u8 0)]) [(0, 33, .agg (rootC o).toArray)] = some (rootC o) := by
  have e1 : cellL (.agg (rootC o).toArray) = rootC o := by simp [cellL]
  have hl : (rleL [(1, Value.bool false), (32, .int .u8 0)]).length = 33 := rfl
  rw [fillL_cons (by rw [e1, rootC_len]) (by rw [hl]; omega), e1, splice_all (by rw [rootC_len, hl])]
  rfl
theorem OwnC.slice {w : World} {v : Value} {N len : Nat} {cs : List Value} (h : OwnC w v N len cs) : ∃ a l c, v = .slice a l c := by
  rcases h with ⟨rfl, _⟩ | ⟨b, cap, rest, rfl, _⟩
  · exact ⟨_, _, _, rfl⟩
  · exact ⟨_, _, _, rfl⟩
def rootsT (ts : List (TT Hash)) : List (Option Hash) := ts.map fun t => t.1.map Tr.hash
theorem rootsT_next {ts : List (TT Hash)} {i : Nat} {t : TT Hash} (h : ts[i]? = some t) : rootsT (ts.take (i + 1)) = rootsT (ts.take i) ++ [t.1.map Tr.hash] := by
  rw [List.take_add_one, h]; simp [rootsT]
/-- the functions of forest, on -/
structure ForO (P : Program) extends ForN P where
  stump : Nat
  TStu : Nat
  TSt1 : Nat
  TSt2 : Nat
  h_stump : Has P stump (b_Pforest_Forest_Stump is' TStu TSt1 TSt2 TNode)
section
variable {P : Program} {f : Nat} {w : World}
set_option maxHeartbeats 800000 in
theorem stump_ok (A : ForO P) {p m : Nat} {s : Fo} (h : FAt w p m s) : Ret P A.stump [ptrV p] w fun v w' => ∃ rv, v = .agg #[u64V s.L.length, rv] ∧ Ext w w' ∧
    OwnC w' rv 33 (rootsT (treesT parH (lv s.L) s.L.length)).length (rootsC (rootsT (treesT parH (lv s.L) s.L.length))) ∧ ∀ b ∈ blkOf rv, w.heap.size ≤ b := by
  have hF := h
  have hlen := h.len
  obtain ⟨⟨tv, wl, h1, h2, h3, h4⟩, _⟩ := h
  refine Ret.of_exec A.h_stump (Nat.le_of_ble_eq_true rfl) fun c hc => ?_
  dsimp only [b_Pforest_Forest_Stump, argEnv]
  refine exec_new rfl ?_
  intro b2 w1 hb2 hs1 hu1 hB2
  repeat (first | refine xtm rfl rfl rfl ?_ | refine xgr rfl ?_ | refine xgs rfl rfl ?_ | refine xgu rfl rfl ?_ | refine xg0 rfl ?_ | refine xct rfl ?_ | refine xcf rfl ?_ | refine xbk ?_ | refine xsq ?_ | refine xbl ?_ | refine xex rfl ?_)
  refine xca rfl rfl (is_ok A.toForJ (hF.ext hu1)) ?_
  rintro _ w2 ⟨rfl, hu2⟩
  repeat (first | refine xtm rfl rfl rfl ?_ | refine xgr rfl ?_ | refine xgs rfl rfl ?_ | refine xgu rfl rfl ?_ | refine xg0 rfl ?_ | refine xct rfl ?_ | refine xcf rfl ?_ | refine xbk ?_ | refine xsq ?_ | refine xbl ?_ | refine xex rfl ?_)
  have hE2 : Ext w w2 := hu1.trans hu2
  have hB2' : Blk w2 b2 [u64V 0, .slice none 0 0] := hB2.upd hu2
  refine exec_load1 (b := p) (o := 0 + 0) rfl rfl ((h1.upd hE2).cell rfl) ?_
  refine xju (ok_mkL (l := [(0, 1, u64V s.L.length)]) (cs := [u64V s.L.length, .slice none 0 0]) rfl rfl) rfl ?_
  refine exec_new_store (v := .agg #[u64V s.L.length, .slice none 0 0]) rfl rfl rfl rfl rfl rfl ?_
  intro b3 w3 hb3 hs3 hu3 hB3
  have hB3' : Blk w3 b3 [u64V s.L.length, .slice none 0 0] := hB3
  have hE3 := hE2.trans hu3
  have z3 := hE3.size
  have z12 := hu2.size
  repeat (first | refine xtm rfl rfl rfl ?_ | refine xgr rfl ?_ | refine xgs rfl rfl ?_ | refine xgu rfl rfl ?_ | refine xg0 rfl ?_ | refine xct rfl ?_ | refine xcf rfl ?_ | refine xbk ?_ | refine xsq ?_ | refine xbl ?_ | refine xex rfl ?_)
  refine exec_load1 (b := p) (o := 0 + 1) rfl rfl ((h1.upd hE3).cell rfl) ?_
  have hlenT := treesT_len parH (L := lv s.L) (n := s.L.length) (by omega)
  generalize hts : treesT parH (lv s.L) s.L.length = ts at *
  have h2' := h2.own
  obtain ⟨us, hR, hO⟩ := h2'
  refine xpu (hO.sl.lenS rfl) rfl ?_
  repeat (first | refine xtm rfl rfl rfl ?_ | refine xgr rfl ?_ | refine xgs rfl rfl ?_ | refine xgu rfl rfl ?_ | refine xg0 rfl ?_ | refine xct rfl ?_ | refine xcf rfl ?_ | refine xbk ?_ | refine xsq ?_ | refine xbl ?_ | refine xex rfl ?_)
  refine xen [(0, ptrV p), (2, ptrV b2), (3, ptrV b3), (19, tv), (20, intV' ts.length), (21, intV' 0)] ⟨rfl, rfl, rfl, rfl, rfl, rfl, trivial⟩ ?_
  refine xlo (S := Nat × Value) (fun st W => st.1 ≤ ts.length ∧ Blk W b3 [u64V s.L.length, st.2] ∧ OwnC W st.2 33 st.1 (rootsC (rootsT (ts.take st.1))) ∧ Upd [b3] w3 W ∧ ∀ b ∈ blkOf st.2, w3.heap.size ≤ b)
    (fun st => [(0, ptrV p), (2, ptrV b2), (3, ptrV b3), (19, tv), (20, intV' ts.length), (21, intV' st.1)]) (fun st => ts.length - st.1) (0, .slice none 0 0)
    ⟨Nat.zero_le _, hB3', .inl ⟨rfl, rfl, rfl⟩, Upd.refl _ _, by simp [blkOf]⟩ ⟨rfl, rfl, rfl, rfl, rfl, rfl, trivial⟩ ?_
  rintro ⟨i, rv⟩ W ⟨i1, iB, iO, iU, iF⟩
  simp only at i1 iB iO iF
  have hwW : Ext w W := hE3.trans iU (fun b hb => .inr (by simp at hb; omega))
  repeat (first | refine xtm rfl rfl rfl ?_ | refine xgr rfl ?_ | refine xgs rfl rfl ?_ | refine xgu rfl rfl ?_ | refine xg0 rfl ?_ | refine xct rfl ?_ | refine xcf rfl ?_ | refine xbk ?_ | refine xsq ?_ | refine xbl ?_ | refine xex rfl ?_)
  by_cases hi : i < ts.length
  · refine xpu (pv_lssI (a := i) (b := ts.length) (q := true) rfl rfl (by simpa using hi)) rfl ?_
    repeat (first | refine xtm rfl rfl rfl ?_ | refine xgr rfl ?_ | refine xgs rfl rfl ?_ | refine xgu rfl rfl ?_ | refine xg0 rfl ?_ | refine xct rfl ?_ | refine xcf rfl ?_ | refine xbk ?_ | refine xsq ?_ | refine xbl ?_ | refine xex rfl ?_)
    obtain ⟨t, hti⟩ : ∃ t, ts[i]? = some t := ⟨_, List.getElem?_eq_getElem hi⟩
    obtain ⟨u, hu⟩ : ∃ u, us[i]? = some u := ⟨_, List.getElem?_eq_getElem (by rw [hR.len]; omega)⟩
    obtain ⟨g0, g1, g2⟩ := cellsT_get us ts i u t hu hti
    obtain ⟨bt, ot, cap, hv, hmt, _⟩ := hO.sl.at (by omega)
    have hOu := hR.at' i u t hu hti
    obtain ⟨pu, rfl⟩ := otr_ptr hOu
    refine xju (ok_iaddr (N := 3) (b := bt) (o := ot) (len := ts.length) (cap := cap) (by rw [← hv]; rfl) rfl i rfl hi) rfl ?_
    have hM3 : Mem w bt (ot + i * 3) [.pointer pu, u64V t.2.1, intV' t.2.2] := hmt.sub (i * 3) (us := [.pointer pu, u64V t.2.1, intV' t.2.2]) (fun k x hk => by
      match k, hk with
      | 0, hk => cases hk; exact g0
      | 1, hk => cases hk; exact g1
      | 2, hk => cases hk; exact g2)
    refine exec_loadN (b := bt) (o := ot + i * 3) (vs := [.pointer pu, u64V t.2.1, intV' t.2.2]) rfl rfl (hM3.upd hwW (by simp)) rfl ?_
    refine exec_new_store (v := .agg #[.pointer pu, u64V t.2.1, intV' t.2.2]) rfl rfl rfl rfl rfl rfl ?_
    intro b5 W1 hb5 hs5 hw1 hB5
    have hB5' : Blk W1 b5 [.pointer pu, u64V t.2.1, intV' t.2.2] := hB5
    refine exec_new rfl ?_
    intro b6 W2 hb6 hs6 hw2 hB6
    have hB6' : Blk W2 b6 (rootC none) := hB6
    have hWW2 : Ext W W2 := hw1.trans hw2
    repeat (first | refine xtm rfl rfl rfl ?_ | refine xgr rfl ?_ | refine xgs rfl rfl ?_ | refine xgu rfl rfl ?_ | refine xg0 rfl ?_ | refine xct rfl ?_ | refine xcf rfl ?_ | refine xbk ?_ | refine xsq ?_ | refine xbl ?_ | refine xex rfl ?_)
    refine exec_load1 (b := b5) (o := 0 + 0) (v := .pointer pu) rfl rfl ((hB5'.upd hw2).cell rfl) ?_
    refine xju (ok_ne_nil A.h_TNode rfl rfl) rfl ?_
    refine exec_cond_join (S := Unit) (fun _ X => Blk X b6 (rootC (t.1.map Tr.hash)) ∧ Ext W X) (fun _ => [(0, ptrV p), (2, ptrV b2), (3, ptrV b3), (6, ptrV b6), (19, tv), (20, intV' ts.length), (21, intV' i)]) rfl (fun hq => ?_) (fun hq => ?_) ?_
    · cases pu with
      | none => cases hq
      | some q =>
        cases hd : t.1 with
        | none => rw [hd] at hOu; cases hOu
        | some r =>
          rw [hd] at hOu
          obtain ⟨bn, _, _, _, he, hBn⟩ := TrAt.node hOu
          cases he
          repeat (first | refine xtm rfl rfl rfl ?_ | refine xgr rfl ?_ | refine xgs rfl rfl ?_ | refine xgu rfl rfl ?_ | refine xg0 rfl ?_ | refine xct rfl ?_ | refine xcf rfl ?_ | refine xbk ?_ | refine xsq ?_ | refine xbl ?_ | refine xex rfl ?_)
          refine exec_load1 (b := b5) (o := 0 + 0) (v := ptrV bn) rfl rfl ((hB5'.upd hw2).cell rfl) ?_
          repeat (first | refine xtm rfl rfl rfl ?_ | refine xgr rfl ?_ | refine xgs rfl rfl ?_ | refine xgu rfl rfl ?_ | refine xg0 rfl ?_ | refine xct rfl ?_ | refine xcf rfl ?_ | refine xbk ?_ | refine xsq ?_ | refine xbl ?_ | refine xex rfl ?_)
          refine exec_loadN (b := bn) (o := 0 + 0) (vs := hC r.hash) rfl rfl (node_cell0 (hBn.upd (hwW.trans hWW2))).1 (hC_length _) ?_
          refine xju (ok_mkL (l := [(0, 1, .bool true), (1, 32, hV r.hash)]) (cs := rootC (some r.hash)) rfl (root_fill _)) rfl ?_
          refine exec_store (b := b6) (o := 0) (v := .agg (rootC (some r.hash)).toArray) rfl rfl hB6' (by simp [Value.cells, rootC, hC_length]) (by simp [rootC]) (by have := rootC_ok (some r.hash); simpa [Value.cells] using this) ?_
          intro W3 hw3 _ hB63
          have zW2 := hWW2.size
          refine exec_meet () ⟨?_, hWW2.trans hw3 (fun b hb => .inr (by simp at hb; omega))⟩ ⟨rfl, rfl, rfl, rfl, rfl, rfl, rfl, trivial⟩
          rw [splice_all (by simp [Value.cells, rootC, hC_length])] at hB63
          exact hB63
    · refine exec_meet () ⟨?_, hWW2⟩ ⟨rfl, rfl, rfl, rfl, rfl, rfl, rfl, trivial⟩
      cases pu with
      | some q => cases hq
      | none =>
        cases hd : t.1 with
        | none => exact hB6'
        | some r =>
          rw [hd] at hOu
          obtain ⟨_, _, _, _, he, _⟩ := TrAt.node hOu
          cases he
    · rintro _ X ⟨hBX, hWX⟩
      repeat (first | refine xtm rfl rfl rfl ?_ | refine xgr rfl ?_ | refine xgs rfl rfl ?_ | refine xgu rfl rfl ?_ | refine xg0 rfl ?_ | refine xct rfl ?_ | refine xcf rfl ?_ | refine xbk ?_ | refine xsq ?_ | refine xbl ?_ | refine xex rfl ?_)
      obtain ⟨ra, rl, rc, rfl⟩ := iO.slice
      have iBX := iB.upd hWX
      refine exec_load1 (b := b3) (o := 0 + 1) rfl rfl (iBX.cell rfl) ?_
      refine exec_loadN (b := b6) (o := 0) rfl rfl hBX.memAll (rootC_len _) ?_
      refine exec_litL (N := 33) (cs := rootC (t.1.map Tr.hash)) (l := [(0, 33, .agg (rootC (t.1.map Tr.hash)).toArray)]) rfl (root_fill1 _) (by rw [rootC_len]) rfl ?_
      intro bl X1 hbl hsl hx1 hOl
      have iOX := (iO.upd hWX (by simp)).upd hx1 (by simp)
      refine exec_ok (ok_append (N := 33) rfl rfl iOX hOl.sl rfl (by decide) (by omega) (rootC_ok _)) rfl ?_
      rintro v2 X2 ⟨hO2, hx2, hf2, _⟩
      obtain ⟨va, vl, vc, rfl⟩ := hO2.slice
      repeat (first | refine xtm rfl rfl rfl ?_ | refine xgr rfl ?_ | refine xgs rfl rfl ?_ | refine xgu rfl rfl ?_ | refine xg0 rfl ?_ | refine xct rfl ?_ | refine xcf rfl ?_ | refine xbk ?_ | refine xsq ?_ | refine xbl ?_ | refine xex rfl ?_)
      have zX := hWX.size
      have zX1 := hx1.size
      have zU := iU.size
      have hb3n : b3 ∉ blkOf (.slice ra rl rc) := fun hm => by have := iF b3 hm; omega
      have iB2 := (iBX.upd hx1).upd hx2 hb3n
      refine exec_store (b := b3) (o := 0 + 1) (v := .slice va vl vc) rfl rfl iB2 rfl (by simp) rfl ?_
      intro X3 hx3 _ hB3n
      have hB3n' : Blk X3 b3 [u64V s.L.length, .slice va vl vc] := hB3n
      clear hB3n
      repeat (first | refine xtm rfl rfl rfl ?_ | refine xgr rfl ?_ | refine xgs rfl rfl ?_ | refine xgu rfl rfl ?_ | refine xg0 rfl ?_ | refine xct rfl ?_ | refine xcf rfl ?_ | refine xbk ?_ | refine xsq ?_ | refine xbl ?_ | refine xex rfl ?_)
      refine xpu (pv_addI (a := i) (b := 1) rfl rfl (by omega)) rfl ?_
      repeat (first | refine xtm rfl rfl rfl ?_ | refine xgr rfl ?_ | refine xgs rfl rfl ?_ | refine xgu rfl rfl ?_ | refine xg0 rfl ?_ | refine xct rfl ?_ | refine xcf rfl ?_ | refine xbk ?_ | refine xsq ?_ | refine xbl ?_ | refine xex rfl ?_)
      have hfr : ∀ b ∈ blkOf (.slice va vl vc), w3.heap.size ≤ b := fun b hb => by
        rcases hf2 b hb with h | h
        · exact iF b h
        · omega
      refine xag (i + 1, .slice va vl vc) ⟨hi, hB3n', ?_, ?_, hfr⟩ (by show ts.length - (i + 1) < ts.length - i; omega) ⟨rfl, rfl, rfl, rfl, rfl, rfl, trivial⟩
      · rw [rootsT_next hti, rootsC, List.flatMap_append]
        refine OwnC.upd ?_ hx3 (fun b hb hm => by have := hfr b hb; simp at hm; omega)
        simpa [rootsC] using hO2
      · exact (((iU.trans hWX).trans hx1).trans hx2 (fun b hb => .inr (iF b hb))).trans hx3
  · refine xpu (pv_lssI (a := i) (b := ts.length) (q := false) rfl rfl (by simpa using hi)) rfl ?_
    have : i = ts.length := by omega
    subst this
    rw [List.take_length] at iO
    obtain ⟨ra, rl, rc, rfl⟩ := iO.slice
    repeat (first | refine xtm rfl rfl rfl ?_ | refine xgr rfl ?_ | refine xgs rfl rfl ?_ | refine xgu rfl rfl ?_ | refine xg0 rfl ?_ | refine xct rfl ?_ | refine xcf rfl ?_ | refine xbk ?_ | refine xsq ?_ | refine xbl ?_ | refine xex rfl ?_)
    refine exec_loadN (b := b3) (o := 0) (vs := [u64V s.L.length, .slice ra rl rc]) rfl rfl iB.memAll rfl ?_
    refine exec_store (b := b2) (o := 0) (v := .agg #[u64V s.L.length, .slice ra rl rc]) rfl rfl ((hB2'.upd hu3).upd iU (by simp; omega)) rfl (by simp) rfl ?_
    intro X hx _ hBX
    have hBX' : Blk X b2 [u64V s.L.length, .slice ra rl rc] := hBX
    refine xre hc [.agg #[u64V s.L.length, .slice ra rl rc]] ⟨⟨b2, 0, _, rfl, hBX'.memAll, rfl, rfl⟩, trivial⟩ ⟨_, rfl, hwW.trans hx (fun b hb => .inr (by simp at hb; omega)), ?_, fun b hb => by have := iF b hb; omega⟩
    have e1 : (rootsT ts).length = ts.length := by simp [rootsT]
    rw [e1]
    exact iO.upd hx (fun b hb hm => by have := iF b hb; simp at hm; omega)
end
end Go.Sp

namespace Go.Sp
section
variable {P : Program} {n : Nat} {c : Ctx} {D : List Deferred} {is : List Ins} {k : Kont} {e : Env} {w : World}
/-- a range whose variable lives in memory, over what comes in no known order -/
theorem exec_rangeGn {α S : Type} {f : Operand} {gf : FuncId} {lb : List Value} {ps : Array Nat} {d p : Nat} {T : TypeId} {z : Array Value} {N : Nat} {body : List Ins} (hf : e.ev f = some (.func (.func gf) #[] lb.toArray)) (hen : Enters P gf) (hrd : c.rd = none)
    (rds wrs : List Nat) (encs : α → List Value) (Part : List α → α → Prop) (Good : List α → Prop) (hseq : ∀ w1, Ext w w1 → SeqG P gf lb w1 rds wrs encs Part Good) (val : α → Value) (hval : ∀ x, (zipEnv ps.toList (encs x) e).get p = some (val x)) (hd' : Nat.blt d n = true) (hdp : p ≠ d)
    (hsz : ∀ x, (val x).cells.size = N) (hz : z.size = N) (hcv : ∀ x, (val x).cells.toList.all cellValue = true)
    (n0 : Nat) (ws : List Nat) (loc : S → List Nat) (J : List α → S → World → Prop) (Jx : Option Nat → S → World → Prop) (s0 : S)
    (hJ : ∀ i, Frames n0 loc (J i)) (hJx : ∀ cd, Frames n0 loc (Jx cd)) (h0 : J [] s0 w) (hn0 : n0 ≤ w.heap.size) (hl0 : ∀ b ∈ ws ++ loc s0, b < w.heap.size)
    (hwr : ∀ b ∈ wrs, b < w.heap.size ∧ n0 ≤ b ∧ b ∉ ws ∧ b ∉ loc s0) (hrds : ∀ b ∈ rds, b < w.heap.size ∧ b ∉ ws ∧ b ∉ loc s0)
    (hps : ∀ x, (encs x).length = ps.size) (hpn : ps.toList.all (fun p => Nat.blt p n) = true)
    (round : ∀ l c' pre s W x bx, RoundCtx l (fun W' => ∃ s', J (pre ++ [x]) s' W' ∧ Upd (ws ++ loc s) W W' ∧ (∀ b ∈ loc s', b ∈ loc s ∨ W.heap.size ≤ b) ∧ (∀ b ∈ loc s', b < W'.heap.size))
        (fun cd W' => ∃ s', Jx cd s' W' ∧ Upd (ws ++ loc s) W W' ∧ (∀ b ∈ loc s', b ∈ loc s ∨ W.heap.size ≤ b) ∧ (∀ b ∈ loc s', b < W'.heap.size)) c' →
      J pre s W → Part pre x → (∀ b ∈ ws ++ loc s, b < W.heap.size) → n0 ≤ bx → bx ∉ ws ++ loc s → Blk W bx (val x).cells.toList → Exec P n c' [] body .done ((d, .pointer (some ⟨bx, 0, none⟩)) :: zipEnv ps.toList (encs x) e) W)
    (done : ∀ D0 xs s W, w.heap.size ≤ D0 → Good xs → J xs s W → W.heap[D0]? = some (.deferred (some [])) → D0 ∉ loc s → Exec P n c (markOf D0 :: D) is k e W)
    (stop : ∀ cd D0 s W, w.heap.size ≤ D0 → Jx cd s W → W.heap[D0]? = some (.deferred (some [])) → D0 ∉ loc s → Exec P n c (markOf D0 :: D) (jumpIns cd ++ is) k e W) :
    Exec P n c D (.rangeF f ps [.op none (some d) (.new T z), .op none none (.store N (.tmp d) (.tmp p))] body :: is) k e w := by
  refine exec_rangeF_core hf hen hrd rds wrs encs Part Good hseq n0 ws loc J Jx s0 hJ hJx h0 hn0 hl0 hwr hrds hps (fun p hp => by simpa using List.all_eq_true.1 hpn p hp)
    (fun x e1 w1 w2 => ∃ b, e1 = (d, .pointer (some ⟨b, 0, none⟩)) :: zipEnv ps.toList (encs x) e ∧ b = w1.heap.size ∧ Blk w2 b (val x).cells.toList) (fun x => asg_of_exec fun c w => ?_) ?_ done stop
  · refine exec_new_store (v := val x) (hval x) hd' (by cases h : Nat.beq p d with | false => simp [h] | true => exact absurd (Nat.eq_of_beq_eq_true h) hdp) (hsz x) hz (hcv x) ?_
    intro b w' hb hs hu hB
    exact exec_mid (w0 := w) (Mid := fun e1 w1 w2 => ∃ b, e1 = (d, .pointer (some ⟨b, 0, none⟩)) :: zipEnv ps.toList (encs x) e ∧ b = w1.heap.size ∧ Blk w2 b (val x).cells.toList) hu ⟨b, rfl, hb, hB⟩ rfl
  · intro l c' pre s W x e1 W1 W2 hl hl2 hc hi hpx hlw hm hu1 hu2 hs2 hns
    obtain ⟨b, rfl, hb, hB⟩ := hm
    have hi1 := hJ pre s _ _ [] hi hu1 (by simp)
    have hi2 := hJ pre s _ _ [l] hi1 hu2 (by intro b hb; simp at hb; subst hb; exact ⟨by omega, hns⟩)
    have hs1 := hu1.size
    refine round l c' pre s W2 x b ⟨hc.rd, ?_, ?_, ?_⟩ hi2 hpx (fun b hb => by have := hlw b hb; omega) (by omega) (fun h => by have := hlw b h; omega) (hB.upd hu2 (by simp; omega))
    · rintro a W' ⟨s', h1, h2, h3, h4⟩; exact hc.norm a W' ⟨s', h1, h2, fun b hb => (h3 b hb).imp (fun h => h) (fun h => by omega), h4⟩
    · rintro a W' ⟨s', h1, h2, h3, h4⟩; exact hc.ret a W' ⟨s', h1, h2, fun b hb => (h3 b hb).imp (fun h => h) (fun h => by omega), h4⟩
    · rintro a W' id ⟨s', h1, h2, h3, h4⟩; exact hc.exit a W' id ⟨s', h1, h2, fun b hb => (h3 b hb).imp (fun h => h) (fun h => by omega), h4⟩
end
theorem hash_fill (q : Hash) : fillL (rleL [(32, .int .u8 0)]) [(0, 32, hV q)] = some (hC q) := by
  have e1 : cellL (hV q) = hC q := by simp [hV, cellL]
  have hl : (rleL [(32, Value.int .u8 0)]).length = 32 := rfl
  rw [fillL_cons (by rw [e1, hC_length]) (by rw [hl]; omega), e1, splice_all (by rw [hC_length, hl])]
  rfl
section
variable {P : Program} {f : Nat} {w : World}
/-- maps.Keys at map[Hash]uint64 -/
theorem keysH1_ok {TH : Nat} (h : Has P f (b_maps_Keys_map_api_Hashuint64_api_Hash_uint64_1 TH)) {bs r : Nat} {l : List (Hash × Nat)} (hB : Blk w bs [.map (some r)]) (hm : MapAt w r hV u64V l) :
    SeqG P f [ptrV' bs] w [bs, r] [] (fun q => [hV q]) (fun pre x => pre.length < (keys l).length) (fun xs => xs.Perm (keys l)) := by
  refine SeqG.of_ret fun S y n0 ws loc J Jx s0 hJ hJx h0 hn0 hl0 hwr hrd hrounds => ?_
  refine Ret.of_exec h (Nat.le_of_ble_eq_true rfl) fun c hc => ?_
  dsimp only [b_maps_Keys_map_api_Hashuint64_api_Hash_uint64_1, argEnv]
  refine exec_load1 (b := bs) (o := 0) rfl rfl (hB.cell rfl) ?_
  refine exec_range rfl rfl hm ?_
  intro it w1 hit hs1 hu1 hI1
  have hnd := hm.nodup
  have hr0 := hrd r (by simp)
  repeat (first | refine xtm rfl rfl rfl ?_ | refine xgr rfl ?_ | refine xgs rfl rfl ?_ | refine xgu rfl rfl ?_ | refine xg0 rfl ?_ | refine xct rfl ?_ | refine xcf rfl ?_ | refine xbk ?_ | refine xsq ?_ | refine xbl ?_ | refine xex rfl ?_)
  refine xlo (S := List Hash × List Hash × Option (Hash × Nat) × S) (fun s W => J s.1 s.2.2.2 W ∧ IterAt W it r hV u64V l s.2.1 s.2.2.1 ∧ (s.1 ++ s.2.1).Perm (keys l) ∧ r ∉ ws ++ loc s.2.2.2 ∧ it ∉ ws ++ loc s.2.2.2 ∧ n0 ≤ it ∧ (∀ b ∈ ws ++ loc s.2.2.2, b < W.heap.size))
    (fun s => [(0, .func (.yield y) #[] #[]), (5, ptrV' it)]) (fun s => s.2.1.length) ([], keys l, none, s0)
    ⟨hJ _ _ _ _ [] h0 hu1 (by simp), hI1, by simp, by simp [hr0], fun hx => ?_, by omega, fun b hb => ?_⟩ ⟨rfl, rfl, trivial⟩ ?_
  · have := hl0 _ hx; omega
  · have := hl0 _ hb; omega
  rintro ⟨pre, rem, last, s⟩ W ⟨hJi, hI, hp, hrn, hin, hni, hlw⟩
  simp only at hJi hI hp hrn hin hlw
  refine exec_next' rfl rfl hI (fun hrem => ?_) (fun a b w2 rem' ha hab hu2 hs2 hI2 hR => ?_)
  · repeat (first | refine xtm rfl rfl rfl ?_ | refine xgr rfl ?_ | refine xgs rfl rfl ?_ | refine xgu rfl rfl ?_ | refine xg0 rfl ?_ | refine xct rfl ?_ | refine xcf rfl ?_ | refine xbk ?_ | refine xsq ?_ | refine xbl ?_ | refine xex rfl ?_)
    subst hrem
    exact exec_end hc [] trivial (.inl ⟨pre, s, by simpa using hp, hJi⟩)
  · repeat (first | refine xtm rfl rfl rfl ?_ | refine xgr rfl ?_ | refine xgs rfl rfl ?_ | refine xgu rfl rfl ?_ | refine xg0 rfl ?_ | refine xct rfl ?_ | refine xcf rfl ?_ | refine xbk ?_ | refine xsq ?_ | refine xbl ?_ | refine xex rfl ?_)
    refine xju (ok_entry rfl hI2) rfl ?_
    repeat (first | refine xtm rfl rfl rfl ?_ | refine xgr rfl ?_ | refine xgs rfl rfl ?_ | refine xgu rfl rfl ?_ | refine xg0 rfl ?_ | refine xct rfl ?_ | refine xcf rfl ?_ | refine xbk ?_ | refine xsq ?_ | refine xbl ?_ | refine xex rfl ?_)
    refine exec_new_store (v := hV a) rfl rfl rfl (hV_size a) rfl (by rw [hV_cells]; exact hC_cell _) ?_
    intro b3 w3 hb3 hs3 hu3' hB3
    rw [hV_cells] at hB3
    repeat (first | refine xtm rfl rfl rfl ?_ | refine xgr rfl ?_ | refine xgs rfl rfl ?_ | refine xgu rfl rfl ?_ | refine xg0 rfl ?_ | refine xct rfl ?_ | refine xcf rfl ?_ | refine xbk ?_ | refine xsq ?_ | refine xbl ?_ | refine xex rfl ?_)
    refine exec_loadN (b := b3) (o := 0) (vs := hC a) rfl rfl hB3.memAll (hC_length _) ?_
    have hplen : pre.length < (keys l).length := by
      have := hp.length_eq
      have hpos : 0 < rem.length := List.length_pos_of_mem ha
      simp only [List.length_append] at this; omega
    have hJ2 := hJ pre s W w2 [it] hJi hu2 (fun b hb => by simp at hb; subst hb; exact ⟨hni, fun h => hin (List.mem_append_right _ h)⟩)
    have hJ3 := hJ pre s w2 w3 [] hJ2 hu3' (by simp)
    have hI3 := hI2.upd hu3' (by simp) (by simp)
    have hlw3 : ∀ b ∈ ws ++ loc s, b < w3.heap.size := fun b hb => by have := hlw b hb; omega
    refine exec_yield (l := y) (vs := [hV a]) rfl rfl rfl (hrounds pre s w3 a hJ3 hplen hlw3) ?_
    rintro go W1 ⟨s1, hgo, hu3, hfr, hlt⟩
    have z3 := hu3.size
    have hrn1 : r ∉ ws ++ loc s1 := by
      simp only [List.mem_append, not_or] at hrn ⊢
      refine ⟨hrn.1, fun hm' => ?_⟩
      rcases hfr _ hm' with h4 | h4
      · exact hrn.2 h4
      · have := hI3.map.lt; omega
    have hin1 : it ∉ ws ++ loc s1 := by
      simp only [List.mem_append, not_or] at hin ⊢
      refine ⟨hin.1, fun hm' => ?_⟩
      rcases hfr _ hm' with h4 | h4
      · exact hin.2 h4
      · have := hI3.lt; omega
    cases go with
    | false =>
      repeat (first | refine xtm rfl rfl rfl ?_ | refine xgr rfl ?_ | refine xgs rfl rfl ?_ | refine xgu rfl rfl ?_ | refine xg0 rfl ?_ | refine xct rfl ?_ | refine xcf rfl ?_ | refine xbk ?_ | refine xsq ?_ | refine xbl ?_ | refine xex rfl ?_)
      exact xre hc [] trivial (.inr ⟨s1, hgo⟩)
    | true =>
      simp only [if_true] at hgo
      repeat (first | refine xtm rfl rfl rfl ?_ | refine xgr rfl ?_ | refine xgs rfl rfl ?_ | refine xgu rfl rfl ?_ | refine xg0 rfl ?_ | refine xct rfl ?_ | refine xcf rfl ?_ | refine xbk ?_ | refine xsq ?_ | refine xbl ?_ | refine xex rfl ?_)
      refine xag (pre ++ [a], _, some (a, b), s1) ⟨hgo, hI3.upd hu3 hrn hin, hR.perm hp, hrn1, hin1, hni, fun b' hb' => ?_⟩ hR.lt ⟨rfl, rfl, trivial⟩
      rcases List.mem_append.1 hb' with h2 | h2
      · have := hlw b' (List.mem_append_left _ h2); omega
      · exact hlt b' h2
/-- slices.AppendSeq of hashes, onto nil -/
theorem appendSeqH_ok {T1 T2 gf : Nat} (h : Has P f (b_slices_AppendSeq_api_Hash_api_Hash T1 T2)) {lb : List Value} (hen : Enters P gf) {rds : List Nat} {Part : List Hash → Hash → Prop} {Good : List Hash → Prop}
    (hseq : ∀ w1, Ext w w1 → SeqG P gf lb w1 rds [] (fun q => [hV q]) Part Good) (hrds : ∀ b ∈ rds, b < w.heap.size) (hpart : ∀ pre x, Part pre x → pre.length < 2 ^ 40) :
    Ret P f [.slice none 0 0, .func (.func gf) #[] lb.toArray] w fun v w' => ∃ xs, Good xs ∧ OwnC w' v 32 xs.length (hs xs) ∧ Ext w w' ∧ ∀ b ∈ blkOf v, w.heap.size ≤ b := by
  refine Ret.of_exec h (Nat.le_of_ble_eq_true rfl) fun c hc => ?_
  dsimp only [b_slices_AppendSeq_api_Hash_api_Hash, argEnv]
  refine exec_box rfl rfl ?_
  intro b2 w1 hb2 hs1 hu1 hB2
  repeat (first | refine xtm rfl rfl rfl ?_ | refine xgr rfl ?_ | refine xgs rfl rfl ?_ | refine xgu rfl rfl ?_ | refine xg0 rfl ?_ | refine xct rfl ?_ | refine xcf rfl ?_ | refine xbk ?_ | refine xsq ?_ | refine xbl ?_ | refine xex rfl ?_)
  refine exec_rangeGn (S := Value) rfl hen hc.rd rds [] (fun q => [hV q]) Part Good (fun W hu => hseq W (hu1.trans hu)) hV (fun _ => rfl) rfl (by decide) (fun x => hV_size x) rfl (fun x => by rw [hV_cells]; exact hC_cell _)
    w.heap.size [] (fun v => b2 :: blkOf v)
    (fun pre v W => Blk W b2 [v] ∧ OwnC W v 32 pre.length (hs pre) ∧ Ext w W ∧ (∀ b ∈ blkOf v, w.heap.size ≤ b ∧ b ≠ b2))
    (fun _ _ _ => False) (.slice none 0 0) ?_ ?_ ?_ ?_ ?_ ?_ ?_ (fun _ => rfl) rfl ?_ ?_ ?_
  · intro pre v W W' l' ⟨h1, h2, h3, h4⟩ hu hb
    refine ⟨h1.upd hu ?_, h2.upd hu ?_, h3.trans hu (fun b hb' => .inr (hb b hb').1), h4⟩
    · intro hm; exact (hb _ hm).2 (by simp)
    · intro b hb1 hm; exact (hb _ hm).2 (by simp [hb1])
  · intro cd v W W' l' h; exact h.elim
  · exact ⟨hB2, .inl ⟨rfl, rfl, rfl⟩, hu1, by simp [blkOf]⟩
  · omega
  · intro b hb; simp [blkOf] at hb; omega
  · simp
  · intro b hb; have := hrds b hb; refine ⟨by omega, by simp, ?_⟩; simp [blkOf]; omega
  · rintro l c' pre v W q bx hc' ⟨h1, h2, h3, h4⟩ hpq hlw hnw hbxn hBx
    rw [hV_cells] at hBx
    have hlen := hpart pre q hpq
    refine xbk ?_
    refine exec_load1 (b := b2) (o := 0) rfl rfl (h1.cell rfl) ?_
    refine exec_loadN (b := bx) (o := 0) (vs := hC q) rfl rfl hBx.memAll (hC_length _) ?_
    refine exec_litL (N := 32) (cs := hC q) (l := [(0, 32, hV q)]) rfl (hash_fill q) (by rw [hC_length]) rfl ?_
    intro bl w7 hbl hs7 hu7 hO7
    refine exec_ok (ok_append (N := 32) rfl rfl (h2.upd hu7 (by simp)) hO7.sl rfl (by decide) (by omega) (hC_cell _)) rfl ?_
    rintro v2 w8 ⟨hO8, hu8, hf8, hl8⟩
    have n2 : b2 ∉ blkOf v := fun h => (h4 _ h).2 rfl
    have z7 := hu7.size
    have z8 := hu8.size
    have k2 := h1.lt
    have n2' : ∀ b ∈ blkOf v2, w.heap.size ≤ b ∧ b ≠ b2 := by
      intro b hb
      rcases hf8 b hb with h | h
      · exact h4 b h
      · exact ⟨by omega, by omega⟩
    have hcv : v2.cells.size = 1 ∧ v2.cells.toList.all cellValue = true ∧ splice [v] 0 v2.cells.toList = [v2] := by
      rcases hO8 with ⟨h, _⟩ | ⟨_, _, _, h, _⟩ <;> rw [h] <;> exact ⟨rfl, rfl, rfl⟩
    refine exec_store (b := b2) (o := 0) (v := v2) rfl rfl ((h1.upd hu7).upd hu8 n2) hcv.1 (by simp) hcv.2.1 ?_
    intro w9 hu9 hs9 hB9
    rw [hcv.2.2] at hB9
    have z9 := hu9.size
    repeat (first | refine xtm rfl rfl rfl ?_ | refine xgr rfl ?_ | refine xgs rfl rfl ?_ | refine xgu rfl rfl ?_ | refine xg0 rfl ?_ | refine xct rfl ?_ | refine xcf rfl ?_ | refine xbk ?_ | refine xsq ?_ | refine xbl ?_ | refine xex rfl ?_)
    refine exec_round_end hc' ⟨v2, ⟨hB9, ?_, ?_, n2'⟩, ?_, ?_, ?_⟩
    · have := hO8.upd hu9 (fun b hb => by simp; exact (n2' b hb).2)
      rw [List.length_append, hs_append]
      simpa [hs] using this
    · exact ((h3.trans hu7).trans hu8 (fun b hb => .inr (h4 b hb).1)).trans hu9 (fun b hb => .inr (by simp at hb; omega))
    · exact ((hu7.mono (by simp)).trans hu8 (fun b hb => .inl (by simp [hb]))).trans hu9 (fun b hb => .inl (by simp at hb; simp [hb]))
    · intro b hb
      simp only [List.mem_cons] at hb ⊢
      rcases hb with h | h
      · exact .inl (.inl h)
      · rcases hf8 b h with h' | h'
        · exact .inl (.inr h')
        · exact .inr (by omega)
    · intro b hb
      simp only [List.mem_cons] at hb
      rcases hb with h | h
      · omega
      · have := hl8 b h; omega
  · rintro D0 xs v W hD hg ⟨h1, h2, h3, h4⟩ hsh hnl
    repeat (first | refine xtm rfl rfl rfl ?_ | refine xgr rfl ?_ | refine xgs rfl rfl ?_ | refine xgu rfl rfl ?_ | refine xg0 rfl ?_ | refine xct rfl ?_ | refine xcf rfl ?_ | refine xbk ?_ | refine xsq ?_ | refine xbl ?_ | refine xex rfl ?_)
    refine exec_load1 (b := b2) (o := 0) rfl rfl (h1.cell rfl) ?_
    repeat (first | refine xtm rfl rfl rfl ?_ | refine xgr rfl ?_ | refine xgs rfl rfl ?_ | refine xgu rfl rfl ?_ | refine xg0 rfl ?_ | refine xct rfl ?_ | refine xcf rfl ?_ | refine xbk ?_ | refine xsq ?_ | refine xbl ?_ | refine xex rfl ?_)
    refine exec_returnM hc [D0] rfl (by simp) (fun r hr => by simp at hr; subst hr; exact hsh) [v] fun W' hu' hs' => ?_
    refine ⟨⟨rfl, trivial⟩, xs, hg, h2.upd hu' (fun b hb hm => ?_), h3.trans hu' (fun b hb => .inr (by simp at hb; omega)), fun b hb => (h4 b hb).1⟩
    simp only [List.mem_singleton] at hm
    subst hm
    exact hnl (by simp [hb])
  · intro cd D0 v W _ h; exact h.elim
end
end Go.Sp

namespace Go.Sp
def cmpN (a b : Nat) : Int := if a < b then -1 else if b < a then 1 else 0
/-- what slices.SortFunc is to do at hashes -/
def SortHOK (P : Program) (f : FuncId) : Prop := ∀ (w : World) (v : Value) (l : List Hash) (g : FuncId) (cb : List Value) (p : Hash → Nat), OwnC w v 32 l.length (hs l) → l.length < 2 ^ 40 → Enters P g →
  (∀ W x y, Upd (blkOf v) w W → Ret P g (hV x :: hV y :: cb) W fun r w' => r = .int .i64 (cmpN (p x) (p y)) ∧ Ext W w') →
  Ret P f [v, .func (.func g) #[] cb.toArray] w fun _ w' => ∃ l', l'.Perm l ∧ l'.Pairwise (fun a b => p a ≤ p b) ∧ OwnC w' v 32 l.length (hs l') ∧ Upd (blkOf v) w w'
/-- the live leaves, in order -/
def liveL (L : List (Option Hash)) : List Hash := L.filterMap id
theorem live_sorted {L : List (Option Hash)} {q : Hash → Nat} (h : ∀ (i : Nat) x, L[i]? = some (some x) → q x = i) : (liveL L).Pairwise (fun a b => q a < q b) := by
  have key : ∀ (L : List (Option Hash)) (n : Nat), (∀ (i : Nat) x, L[i]? = some (some x) → q x = n + i) → (liveL L).Pairwise (fun a b => q a < q b) ∧ ∀ x ∈ liveL L, n ≤ q x := by
    intro L
    induction L with
    | nil => intro n _; exact ⟨.nil, fun x hx => by simp [liveL] at hx⟩
    | cons o L ih =>
      intro n hL
      obtain ⟨h1, h2⟩ := ih (n + 1) fun i x hx => by have := hL (i + 1) x (by simpa using hx); omega
      cases o with
      | none =>
        exact ⟨h1, fun x hx => by have := h2 x hx; omega⟩
      | some a =>
        have ha : q a = n := hL 0 a rfl
        refine ⟨List.pairwise_cons.2 ⟨fun b hb => by have := h2 b hb; omega, h1⟩, fun x hx => ?_⟩
        rcases List.mem_cons.1 hx with rfl | hx
        · omega
        · have := h2 x hx; omega
  exact (key L 0 fun i x hx => by rw [h i x hx]; omega).1
theorem perm_sorted {l l' : List Hash} {q : Hash → Nat} (hp : l'.Perm l) (h : l.Pairwise (fun a b => q a < q b)) (h' : l'.Pairwise (fun a b => q a ≤ q b)) : l' = l := by
  have hinj : ∀ a ∈ l, ∀ b ∈ l, q a = q b → a = b := by
    intro a ha b hb hab
    obtain ⟨i, hi, rfl⟩ := List.mem_iff_getElem.1 ha
    obtain ⟨j, hj, rfl⟩ := List.mem_iff_getElem.1 hb
    rcases Nat.lt_trichotomy i j with hij | hij | hij
    · have := List.pairwise_iff_getElem.1 h i j hi hj hij; omega
    · subst hij; rfl
    · have := List.pairwise_iff_getElem.1 h j i hj hi hij; omega
  refine List.Perm.eq_of_pairwise (le := fun a b => q a ≤ q b) (fun a b ha hb h1 h2 => ?_) h' (h.imp fun h => Nat.le_of_lt h) hp
  exact hinj a (hp.mem_iff.1 ha) b hb (by omega)
/-- the functions of forest, on -/
structure ForP (P : Program) extends ForO P where
  keysH1 : Nat
  keysH : Nat
  appH : Nat
  collH : Nat
  sortH : Nat
  sortedH : Nat
  isNaN : Nat
  cmpU : Nat
  leaves1 : Nat
  leaves : Nat
  TKm : Nat
  TSH : Nat
  TLv : Nat
  h_keysH1 : Has P keysH1 (b_maps_Keys_map_api_Hashuint64_api_Hash_uint64_1 TH)
  h_keysH : Has P keysH (b_maps_Keys_map_api_Hashuint64_api_Hash_uint64 keysH1 TKm)
  h_appH : Has P appH (b_slices_AppendSeq_api_Hash_api_Hash TSH TH)
  h_collH : Has P collH (b_slices_Collect_api_Hash appH)
  h_sortH : SortHOK P sortH
  h_sortedH : Has P sortedH (b_slices_SortedFunc_api_Hash collH sortH)
  h_isNaN : Has P isNaN b_cmp_isNaN_uint64
  h_cmpU : Has P cmpU (b_cmp_Compare_uint64 isNaN)
  h_leaves1 : Has P leaves1 (b_Pforest_Forest_Leaves_1 cmpU TH)
  h_leaves : Has P leaves (b_Pforest_Forest_Leaves is' keysH leaves1 sortedH TLv)
section
variable {P : Program} {f : Nat} {w : World}
theorem isNaNU_ok (A : ForP P) (a : Nat) : RetV P A.isNaN [u64V a] w (.bool false) := by
  refine Ret.of_exec A.h_isNaN (Nat.le_of_ble_eq_true rfl) fun c hc => ?_
  dsimp only [b_cmp_isNaN_uint64, argEnv]
  repeat (first | refine xtm rfl rfl rfl ?_ | refine xgr rfl ?_ | refine xgs rfl rfl ?_ | refine xgu rfl rfl ?_ | refine xg0 rfl ?_ | refine xct rfl ?_ | refine xcf rfl ?_ | refine xbk ?_ | refine xsq ?_ | refine xbl ?_ | refine xex rfl ?_)
  refine xpu (pv_neqI (a := a) (b := a) (q := false) rfl rfl (by simp)) rfl ?_
  repeat (first | refine xtm rfl rfl rfl ?_ | refine xgr rfl ?_ | refine xgs rfl rfl ?_ | refine xgu rfl rfl ?_ | refine xg0 rfl ?_ | refine xct rfl ?_ | refine xcf rfl ?_ | refine xbk ?_ | refine xsq ?_ | refine xbl ?_ | refine xex rfl ?_)
  exact xre hc [_] ⟨rfl, trivial⟩ ⟨rfl, Upd.refl _ _⟩
theorem cmpU_ok (A : ForP P) (a b : Nat) : RetV P A.cmpU [u64V a, u64V b] w (.int .i64 (cmpN a b)) := by
  refine Ret.of_exec A.h_cmpU (Nat.le_of_ble_eq_true rfl) fun c hc => ?_
  dsimp only [b_cmp_Compare_uint64, argEnv]
  repeat (first | refine xtm rfl rfl rfl ?_ | refine xgr rfl ?_ | refine xgs rfl rfl ?_ | refine xgu rfl rfl ?_ | refine xg0 rfl ?_ | refine xct rfl ?_ | refine xcf rfl ?_ | refine xbk ?_ | refine xsq ?_ | refine xbl ?_ | refine xex rfl ?_)
  refine xca rfl rfl (isNaNU_ok A a) ?_
  rintro _ w1 ⟨rfl, hu1⟩
  repeat (first | refine xtm rfl rfl rfl ?_ | refine xgr rfl ?_ | refine xgs rfl rfl ?_ | refine xgu rfl rfl ?_ | refine xg0 rfl ?_ | refine xct rfl ?_ | refine xcf rfl ?_ | refine xbk ?_ | refine xsq ?_ | refine xbl ?_ | refine xex rfl ?_)
  refine xca rfl rfl (isNaNU_ok A b) ?_
  rintro _ w2 ⟨rfl, hu2⟩
  repeat (first | refine xtm rfl rfl rfl ?_ | refine xgr rfl ?_ | refine xgs rfl rfl ?_ | refine xgu rfl rfl ?_ | refine xg0 rfl ?_ | refine xct rfl ?_ | refine xcf rfl ?_ | refine xbk ?_ | refine xsq ?_ | refine xbl ?_ | refine xex rfl ?_)
  by_cases h1 : a < b
  · refine xpu (pv_lssI (a := a) (b := b) (q := true) rfl rfl (by simpa using h1)) rfl ?_
    repeat (first | refine xtm rfl rfl rfl ?_ | refine xgr rfl ?_ | refine xgs rfl rfl ?_ | refine xgu rfl rfl ?_ | refine xg0 rfl ?_ | refine xct rfl ?_ | refine xcf rfl ?_ | refine xbk ?_ | refine xsq ?_ | refine xbl ?_ | refine xex rfl ?_)
    exact xre hc [_] ⟨rfl, trivial⟩ ⟨by rw [cmpN, if_pos h1]; rfl, hu1.trans hu2⟩
  · refine xpu (pv_lssI (a := a) (b := b) (q := false) rfl rfl (by simpa using h1)) rfl ?_
    repeat (first | refine xtm rfl rfl rfl ?_ | refine xgr rfl ?_ | refine xgs rfl rfl ?_ | refine xgu rfl rfl ?_ | refine xg0 rfl ?_ | refine xct rfl ?_ | refine xcf rfl ?_ | refine xbk ?_ | refine xsq ?_ | refine xbl ?_ | refine xex rfl ?_)
    by_cases h2 : b < a
    · refine xpu (pv_gtrI (a := a) (b := b) (q := true) rfl rfl (by simpa using h2)) rfl ?_
      repeat (first | refine xtm rfl rfl rfl ?_ | refine xgr rfl ?_ | refine xgs rfl rfl ?_ | refine xgu rfl rfl ?_ | refine xg0 rfl ?_ | refine xct rfl ?_ | refine xcf rfl ?_ | refine xbk ?_ | refine xsq ?_ | refine xbl ?_ | refine xex rfl ?_)
      exact xre hc [_] ⟨rfl, trivial⟩ ⟨by rw [cmpN, if_neg h1, if_pos h2]; rfl, hu1.trans hu2⟩
    · refine xpu (pv_gtrI (a := a) (b := b) (q := false) rfl rfl (by simpa using h2)) rfl ?_
      repeat (first | refine xtm rfl rfl rfl ?_ | refine xgr rfl ?_ | refine xgs rfl rfl ?_ | refine xgu rfl rfl ?_ | refine xg0 rfl ?_ | refine xct rfl ?_ | refine xcf rfl ?_ | refine xbk ?_ | refine xsq ?_ | refine xbl ?_ | refine xex rfl ?_)
      exact xre hc [_] ⟨rfl, trivial⟩ ⟨by rw [cmpN, if_neg h1, if_neg h2]; rfl, hu1.trans hu2⟩
theorem ok_get {T r : Nat} {e : Env} {x y : Operand} {h : Hash} {wl : List (Hash × Nat)} (hT : TyBytes P T 32) (hx : e.ev x = some (.map (some r))) (hy : e.ev y = some (hV h)) (hm : MapAt w r hV u64V wl) :
    OpOK P (.lookup T (.int .u64 0) x y false) e w (Just (u64V ((aget h wl).getD 0)) w) := by
  have := ok_lookup (z := .int .u64 0) (ok := false) (keyOK_hash hT) hx hy hm
  cases ho : aget h wl with
  | none => rw [ho] at this; exact this
  | some i => rw [ho] at this; exact this
theorem leaves1_ok (A : ForP P) {b1 p m : Nat} {cs : List Value} {wl : List (Hash × Nat)} (hB1 : Blk w b1 [ptrV p]) (hB : Blk w p cs) (hc2 : cs[2]? = some (.map (some m))) (hM : MapAt w m hV u64V wl) (x y : Hash) :
    Ret P A.leaves1 [hV x, hV y, ptrV b1] w fun r w' => r = .int .i64 (cmpN ((aget x wl).getD 0) ((aget y wl).getD 0)) ∧ Ext w w' := by
  refine Ret.of_exec A.h_leaves1 (Nat.le_of_ble_eq_true rfl) fun c hc => ?_
  dsimp only [b_Pforest_Forest_Leaves_1, argEnv]
  refine exec_box rfl rfl ?_
  intro b3 w1 hb3 hs1 hu1 hB3
  rw [hV_cells] at hB3
  refine exec_box rfl rfl ?_
  intro b4 w2 hb4 hs2 hu2 hB4
  rw [hV_cells] at hB4
  have hE := hu1.trans hu2
  repeat (first | refine xtm rfl rfl rfl ?_ | refine xgr rfl ?_ | refine xgs rfl rfl ?_ | refine xgu rfl rfl ?_ | refine xg0 rfl ?_ | refine xct rfl ?_ | refine xcf rfl ?_ | refine xbk ?_ | refine xsq ?_ | refine xbl ?_ | refine xex rfl ?_)
  refine exec_dwr rfl rfl rfl ?_
  refine ws_keep (ptrV p) rfl (fun X hx => ok_load1 (b := b1) (o := 0) rfl ((hB1.upd (hE.trans hx)).cell rfl)) ?_
  repeat (first | refine wtm rfl rfl rfl ?_ | refine wgt rfl rfl rfl rfl ?_ | refine wgs rfl rfl ?_)
  refine ws_keep (.map (some m)) rfl (fun X hx => ok_load1 (b := p) (o := 0 + 2) rfl ((hB.upd (hE.trans hx)).cell hc2)) ?_
  refine ws_keep (hV x) rfl (fun X hx => ok_loadN (b := b3) (o := 0) rfl (hB3.upd (hu2.trans hx)).memAll (hC_length _)) ?_
  refine ws_keep _ rfl (fun X hx => ok_get A.h_TH rfl rfl (hM.upd (hE.trans hx))) ?_
  refine ws_keep (ptrV p) rfl (fun X hx => ok_load1 (b := b1) (o := 0) rfl ((hB1.upd (hE.trans hx)).cell rfl)) ?_
  repeat (first | refine wtm rfl rfl rfl ?_ | refine wgt rfl rfl rfl rfl ?_ | refine wgs rfl rfl ?_)
  refine ws_keep (.map (some m)) rfl (fun X hx => ok_load1 (b := p) (o := 0 + 2) rfl ((hB.upd (hE.trans hx)).cell hc2)) ?_
  refine ws_keep (hV y) rfl (fun X hx => ok_loadN (b := b4) (o := 0) rfl (hB4.upd hx).memAll (hC_length _)) ?_
  refine ws_keep _ rfl (fun X hx => ok_get A.h_TH rfl rfl (hM.upd (hE.trans hx))) ?_
  refine ws_fin fun w3 hw3 => ?_
  refine xca rfl rfl (cmpU_ok A _ _) ?_
  rintro _ w4 ⟨rfl, hu4⟩
  repeat (first | refine xtm rfl rfl rfl ?_ | refine xgr rfl ?_ | refine xgs rfl rfl ?_ | refine xgu rfl rfl ?_ | refine xg0 rfl ?_ | refine xct rfl ?_ | refine xcf rfl ?_ | refine xbk ?_ | refine xsq ?_ | refine xbl ?_ | refine xex rfl ?_)
  exact xre hc [_] ⟨rfl, trivial⟩ ⟨rfl, (hE.trans hw3).trans hu4⟩
theorem keysH_ok (A : ForP P) {r : Nat} : Ret P A.keysH [.map (some r)] w fun v' w' => v' = .func (.func A.keysH1) #[] #[ptrV w.heap.size] ∧ Blk w' w.heap.size [.map (some r)] ∧ Ext w w' := by
  refine Ret.of_exec A.h_keysH (Nat.le_of_ble_eq_true rfl) fun c hc => ?_
  dsimp only [b_maps_Keys_map_api_Hashuint64_api_Hash_uint64, argEnv]
  refine exec_box rfl rfl ?_
  intro b w2 hb hs hu hB
  subst hb
  repeat (first | refine xtm rfl rfl rfl ?_ | refine xgr rfl ?_ | refine xgs rfl rfl ?_ | refine xgu rfl rfl ?_ | refine xg0 rfl ?_ | refine xct rfl ?_ | refine xcf rfl ?_ | refine xbk ?_ | refine xsq ?_ | refine xbl ?_ | refine xex rfl ?_)
  exact xre hc [_] ⟨rfl, trivial⟩ ⟨rfl, hB, hu⟩
theorem collectH_ok (A : ForP P) {gf : Nat} {lb : List Value} (hen : Enters P gf) {rds : List Nat} {Part : List Hash → Hash → Prop} {Good : List Hash → Prop}
    (hseq : ∀ w1, Ext w w1 → SeqG P gf lb w1 rds [] (fun q => [hV q]) Part Good) (hrds : ∀ b ∈ rds, b < w.heap.size) (hpart : ∀ pre x, Part pre x → pre.length < 2 ^ 40) :
    Ret P A.collH [.func (.func gf) #[] lb.toArray] w fun v w' => ∃ xs, Good xs ∧ OwnC w' v 32 xs.length (hs xs) ∧ Ext w w' ∧ ∀ b ∈ blkOf v, w.heap.size ≤ b := by
  refine Ret.of_exec A.h_collH (Nat.le_of_ble_eq_true rfl) fun c hc => ?_
  dsimp only [b_slices_Collect_api_Hash, argEnv]
  repeat (first | refine xtm rfl rfl rfl ?_ | refine xgr rfl ?_ | refine xgs rfl rfl ?_ | refine xgu rfl rfl ?_ | refine xg0 rfl ?_ | refine xct rfl ?_ | refine xcf rfl ?_ | refine xbk ?_ | refine xsq ?_ | refine xbl ?_ | refine xex rfl ?_)
  refine xca rfl rfl (appendSeqH_ok A.h_appH hen hseq hrds hpart) ?_
  rintro v w1 h
  repeat (first | refine xtm rfl rfl rfl ?_ | refine xgr rfl ?_ | refine xgs rfl rfl ?_ | refine xgu rfl rfl ?_ | refine xg0 rfl ?_ | refine xct rfl ?_ | refine xcf rfl ?_ | refine xbk ?_ | refine xsq ?_ | refine xbl ?_ | refine xex rfl ?_)
  exact xre hc [_] ⟨rfl, trivial⟩ h
theorem keys_live {wl : List (Hash × Nat)} {L : List (Option Hash)} (hn : (keys wl).Nodup) (h : WhereOK wl L) : (keys wl).Perm (liveL L) ∧ (liveL L).Pairwise (fun a b => (aget a wl).getD 0 < (aget b wl).getD 0) := by
  have hs := live_sorted (L := L) (q := fun a => (aget a wl).getD 0) fun i x hx => by
    show (aget x wl).getD 0 = i
    rw [(h x i).2 hx]; rfl
  refine ⟨(List.perm_ext_iff_of_nodup hn (hs.imp fun {a b} hab he => by subst he; exact absurd hab (Nat.lt_irrefl _))).2 fun a => ?_, hs⟩
  rw [liveL, List.mem_filterMap]
  constructor
  · intro ha
    obtain ⟨i, hi⟩ := mem_keys_aget ha
    exact ⟨some a, List.mem_of_getElem? ((h a i).1 hi), rfl⟩
  · rintro ⟨o, ho, hoa⟩
    have : o = some a := hoa
    subst this
    obtain ⟨i, hi⟩ := List.getElem?_of_mem ho
    have := (h a i).2 hi
    by_cases hk : a ∈ keys wl
    · exact hk
    · rw [aget_none.2 hk] at this; cases this
theorem leaves_ok (A : ForP P) {p m : Nat} {s : Fo} (h : FAt w p m s) : Ret P A.leaves [ptrV p] w fun v w' => OwnC w' v 32 (liveL s.L).length (hs (liveL s.L)) ∧ Ext w w' ∧ ∀ b ∈ blkOf v, w.heap.size ≤ b := by
  have hF := h
  have hlen := h.len
  obtain ⟨⟨tv, wl, h1, h2, h3, h4⟩, _⟩ := h
  obtain ⟨hkp, hks⟩ := keys_live h3.nodup h4
  have hll : (liveL s.L).length ≤ s.L.length := List.length_filterMap_le _ _
  refine Ret.of_exec A.h_leaves (Nat.le_of_ble_eq_true rfl) fun c hc => ?_
  dsimp only [b_Pforest_Forest_Leaves, argEnv]
  refine exec_box rfl rfl ?_
  intro b1 w1 hb1 hs1 hu1 hB1
  have hB1' : Blk w1 b1 [ptrV p] := hB1
  repeat (first | refine xtm rfl rfl rfl ?_ | refine xgr rfl ?_ | refine xgs rfl rfl ?_ | refine xgu rfl rfl ?_ | refine xg0 rfl ?_ | refine xct rfl ?_ | refine xcf rfl ?_ | refine xbk ?_ | refine xsq ?_ | refine xbl ?_ | refine xex rfl ?_)
  refine exec_load1 (b := b1) (o := 0) rfl rfl (hB1'.cell rfl) ?_
  refine xca rfl rfl (is_ok A.toForJ (hF.ext hu1)) ?_
  rintro _ w2 ⟨rfl, hu2⟩
  repeat (first | refine xtm rfl rfl rfl ?_ | refine xgr rfl ?_ | refine xgs rfl rfl ?_ | refine xgu rfl rfl ?_ | refine xg0 rfl ?_ | refine xct rfl ?_ | refine xcf rfl ?_ | refine xbk ?_ | refine xsq ?_ | refine xbl ?_ | refine xex rfl ?_)
  have hE2 : Ext w w2 := hu1.trans hu2
  refine exec_load1 (b := b1) (o := 0) rfl rfl ((hB1'.upd hu2).cell rfl) ?_
  repeat (first | refine xtm rfl rfl rfl ?_ | refine xgr rfl ?_ | refine xgs rfl rfl ?_ | refine xgu rfl rfl ?_ | refine xg0 rfl ?_ | refine xct rfl ?_ | refine xcf rfl ?_ | refine xbk ?_ | refine xsq ?_ | refine xbl ?_ | refine xex rfl ?_)
  refine exec_load1 (b := p) (o := 0 + 2) rfl rfl ((h1.upd hE2).cell rfl) ?_
  refine xca rfl rfl (keysH_ok A) ?_
  rintro _ w3 ⟨rfl, hB3, hu3⟩
  have hE3 := hE2.trans hu3
  repeat (first | refine xtm rfl rfl rfl ?_ | refine xgr rfl ?_ | refine xgs rfl rfl ?_ | refine xgu rfl rfl ?_ | refine xg0 rfl ?_ | refine xct rfl ?_ | refine xcf rfl ?_ | refine xbk ?_ | refine xsq ?_ | refine xbl ?_ | refine xex rfl ?_)
  have hsort : Ret P A.sortedH [.func (.func A.keysH1) #[] #[ptrV w2.heap.size], .func (.func A.leaves1) #[] #[ptrV b1]] w3 fun v w' => OwnC w' v 32 (liveL s.L).length (hs (liveL s.L)) ∧ Ext w3 w' ∧ ∀ b ∈ blkOf v, w3.heap.size ≤ b := by
    refine Ret.of_exec A.h_sortedH (Nat.le_of_ble_eq_true rfl) fun c hc => ?_
    dsimp only [b_slices_SortedFunc_api_Hash, argEnv]
    repeat (first | refine xtm rfl rfl rfl ?_ | refine xgr rfl ?_ | refine xgs rfl rfl ?_ | refine xgu rfl rfl ?_ | refine xg0 rfl ?_ | refine xct rfl ?_ | refine xcf rfl ?_ | refine xbk ?_ | refine xsq ?_ | refine xbl ?_ | refine xex rfl ?_)
    refine xca rfl rfl (collectH_ok A A.h_keysH1.enters (lb := [ptrV w2.heap.size]) (fun W hu => keysH1_ok A.h_keysH1 (hB3.upd hu) ((h3.upd hE3).upd hu)) ?_ ?_) ?_
    · intro b hb
      simp at hb
      rcases hb with rfl | rfl
      · exact hB3.lt
      · exact (h3.upd hE3).lt
    · intro pre x hx
      have : pre.length < (keys wl).length := hx
      have := hkp.length_eq
      omega
    rintro v w4 ⟨xs, hg, hO, hu4, hf4⟩
    repeat (first | refine xtm rfl rfl rfl ?_ | refine xgr rfl ?_ | refine xgs rfl rfl ?_ | refine xgu rfl rfl ?_ | refine xg0 rfl ?_ | refine xct rfl ?_ | refine xcf rfl ?_ | refine xbk ?_ | refine xsq ?_ | refine xbl ?_ | refine xex rfl ?_)
    have hxl : xs.length = (liveL s.L).length := (hg.trans hkp).length_eq
    refine xca rfl rfl (A.h_sortH w4 v xs A.leaves1 [ptrV b1] (fun a => (aget a wl).getD 0) hO (by omega) A.h_leaves1.enters ?_) ?_
    · intro W x y hW
      have hnb : ∀ b, b < w3.heap.size → b ∉ blkOf v := fun b hb hm => by have := hf4 b hm; omega
      have z3 := hE3.size
      have z23 := hu3.size
      have z12 := hu2.size
      have k1 := h1.lt
      have k3 := h3.lt
      refine leaves1_ok A (((hB1'.upd hu2).upd hu3).upd hu4 |>.upd hW (hnb _ (by omega))) (((h1.upd hE3).upd hu4).upd hW (hnb _ (by omega))) rfl (((h3.upd hE3).upd hu4).upd hW (hnb _ (by omega))) x y
    rintro _ w5 ⟨l', hp', hs', hO', hu5⟩
    repeat (first | refine xtm rfl rfl rfl ?_ | refine xgr rfl ?_ | refine xgs rfl rfl ?_ | refine xgu rfl rfl ?_ | refine xg0 rfl ?_ | refine xct rfl ?_ | refine xcf rfl ?_ | refine xbk ?_ | refine xsq ?_ | refine xbl ?_ | refine xex rfl ?_)
    have hfin : l' = liveL s.L := perm_sorted ((hp'.trans hg).trans hkp) hks hs'
    subst hfin
    rw [hxl] at hO'
    exact xre hc [_] ⟨rfl, trivial⟩ ⟨hO', hu4.trans hu5 (fun b hb => .inr (hf4 b hb)), hf4⟩
  refine xca rfl rfl hsort ?_
  rintro v w4 ⟨hO, hu4, hf4⟩
  repeat (first | refine xtm rfl rfl rfl ?_ | refine xgr rfl ?_ | refine xgs rfl rfl ?_ | refine xgu rfl rfl ?_ | refine xg0 rfl ?_ | refine xct rfl ?_ | refine xcf rfl ?_ | refine xbk ?_ | refine xsq ?_ | refine xbl ?_ | refine xex rfl ?_)
  have z3 := hE3.size
  exact xre hc [_] ⟨rfl, trivial⟩ ⟨hO, hE3.trans hu4, fun b hb => by have := hf4 b hb; omega⟩
end
end Go.Sp

namespace Go.Sp
def b_spinneylaw14_told (f_forest_New f_spinneylaw14_cut f_Pforest_Forest_Modify f_spinneylaw14_has : Nat) (T_forest_Undo T_api_Hash T_bool : Nat) : Body := { n := 88, res := [.tmp 2, .tmp 3, .tmp 4], code := [
    .op none (some 2) (.mov (.const (.pointer none))),
    .op none (some 3) (.mov (.const (.slice none 0 0))),
    .op none (some 4) (.mov (.const (.slice none 0 0))),
    .op none (some 15) (.call f_forest_New #[]),
    .op none (some 5) (.mov (.tmp 15)),
    .op none (some 6) (.mov (.const (.slice none 0 0))),
    .op none (some 7) (.mov (.const (.slice none 0 0))),
    .op none (some 8) (.mov (.const (.int .i64 0))),
    .block 0 [
      .loop [
        .op none (some 16) (.mov (.tmp 8)),
        .op none (some 17) (.mov (.tmp 0)),
        .op none (some 18) (.lenS (.tmp 17)),
        .op none (some 19) (.ibin .lss (.tmp 16) (.tmp 18)),
        .op none (some 20) (.mov (.tmp 19)),
        .op (some (some 20, true)) (some 21) (.mov (.tmp 8)),
        .op (some (some 20, true)) (some 22) (.ibin .lss (.tmp 21) (.const (.int .i64 12))),
        .op none (some 23) (.pick (.tmp 20) (.tmp 22) (.const (.bool false))),
        .cond (.tmp 23) [] [
          .exit 0],
        .block 1 [
          .draw [
            ([], none, (some 26), .mov (.tmp 0)),
            ([], none, (some 27), .mov (.tmp 8)),
            ([0, 1], none, (some 28), .iaddr 3 (.tmp 26) (.tmp 27)),
            ([2, 0, 1], none, (some 29), .faddr 1 (.tmp 28)),
            ([3, 2, 0, 1], none, (some 30), .load1 (.tmp 29)),
            ([4, 3, 2, 0, 1], none, (some 31), .call f_spinneylaw14_cut #[(.tmp 30)]),
            ([], none, (some 32), .mov (.tmp 0)),
            ([], none, (some 33), .mov (.tmp 8)),
            ([6, 7], none, (some 34), .iaddr 3 (.tmp 32) (.tmp 33)),
            ([8, 6, 7], none, (some 35), .faddr 2 (.tmp 34)),
            ([9, 8, 6, 7], none, (some 36), .load1 (.tmp 35))] [
            .op none (some 37) (.call f_spinneylaw14_cut #[(.tmp 36)]),
            .op none (some 9) (.mov (.tmp 31)),
            .op none (some 10) (.mov (.tmp 37))],
          .op none (some 39) (.mov (.tmp 5)),
          .op none (some 40) (.mov (.tmp 9)),
          .op none (some 41) (.mov (.tmp 10)),
          .op none (some 42) (.call f_Pforest_Forest_Modify #[(.tmp 39), (.tmp 40), (.tmp 41)]),
          .op none (some 38) (.mov (.tmp 42)),
          .op none (some 43) (.ext (.tmp 38) 0),
          .op none (some 44) (.ext (.tmp 38) 1),
          .op none (some 11) (.new T_forest_Undo (rle [(1, .pointer none), (2, .int .i64 0), (1, .int .u64 0), (1, .slice none 0 0), (2, .map none)])),
          .op none none (.store 7 (.tmp 11) (.tmp 43)),
          .op none (some 12) (.mov (.tmp 44)),
          .op none (some 45) (.mov (.tmp 12)),
          .op none (some 46) (.ibin .neq (.tmp 45) (.const (.int .i64 0))),
          .cond (.tmp 46) [
            .exit 1] [],
          .op none (some 13) (.mov (.const (.int .i64 0))),
          .block 2 [
            .loop [
              .op none (some 47) (.mov (.tmp 13)),
              .op none (some 48) (.mov (.tmp 6)),
              .op none (some 49) (.lenS (.tmp 48)),
              .op none (some 50) (.ibin .lss (.tmp 47) (.tmp 49)),
              .cond (.tmp 50) [] [
                .exit 2],
              .block 3 [
                .op none (some 53) (.mov (.tmp 7)),
                .op none (some 54) (.mov (.tmp 13)),
                .op none (some 55) (.mov (.tmp 7)),
                .op none (some 56) (.mov (.tmp 13)),
                .op none (some 57) (.iaddr 1 (.tmp 55) (.tmp 56)),
                .op none (some 58) (.load1 (.tmp 57)),
                .op none (some 59) (.mov (.tmp 58)),
                .op (some (some 59, true)) (some 60) (.mov (.tmp 9)),
                .op (some (some 59, true)) (some 61) (.mov (.tmp 6)),
                .op (some (some 59, true)) (some 62) (.mov (.tmp 13)),
                .op (some (some 59, true)) (some 63) (.iaddr 32 (.tmp 61) (.tmp 62)),
                .op (some (some 59, true)) (some 64) (.loadN 32 (.tmp 63)),
                .op (some (some 59, true)) (some 65) (.call f_spinneylaw14_has #[(.tmp 60), (.tmp 64)]),
                .op (some (some 59, true)) (some 66) (.un .not (.tmp 65)),
                .op none (some 67) (.pick (.tmp 59) (.tmp 66) (.const (.bool false))),
                .op none (some 68) (.iaddr 1 (.tmp 53) (.tmp 54)),
                .op none none (.store 1 (.tmp 68) (.tmp 67))],
              .op none (some 51) (.mov (.tmp 13)),
              .op none (some 52) (.ibin .add (.tmp 51) (.const (.int .i64 1))),
              .op none (some 13) (.mov (.tmp 52))]],
          .op none (some 14) (.mov (.const (.int .i64 0))),
          .block 4 [
            .loop [
              .op none (some 69) (.mov (.tmp 14)),
              .op none (some 70) (.mov (.tmp 10)),
              .op none (some 71) (.lenS (.tmp 70)),
              .op none (some 72) (.ibin .lss (.tmp 69) (.tmp 71)),
              .cond (.tmp 72) [] [
                .exit 4],
              .block 5 [
                .op none (some 75) (.mov (.tmp 6)),
                .op none (some 76) (.mov (.tmp 10)),
                .op none (some 77) (.mov (.tmp 14)),
                .op none (some 78) (.iaddr 32 (.tmp 76) (.tmp 77)),
                .op none (some 79) (.loadN 32 (.tmp 78)),
                .op none (some 80) (.mkSlice T_api_Hash 1 (rle [(32, .int .u8 0)]) [(0, 32, (.tmp 79))]),
                .op none (some 81) (.append T_api_Hash 32 32 (rle [(32, .int .u8 0)]) (.tmp 75) (.tmp 80)),
                .op none (some 6) (.mov (.tmp 81)),
                .op none (some 82) (.mov (.tmp 7)),
                .op none (some 83) (.mkSlice T_bool 1 (rle [(1, .bool false)]) [(0, 1, (.const (.bool true)))]),
                .op none (some 84) (.append T_bool 1 1 (rle [(1, .bool false)]) (.tmp 82) (.tmp 83)),
                .op none (some 7) (.mov (.tmp 84))],
              .op none (some 73) (.mov (.tmp 14)),
              .op none (some 74) (.ibin .add (.tmp 73) (.const (.int .i64 1))),
              .op none (some 14) (.mov (.tmp 74))]]],
        .op none (some 24) (.mov (.tmp 8)),
        .op none (some 25) (.ibin .add (.tmp 24) (.const (.int .i64 1))),
        .op none (some 8) (.mov (.tmp 25))]],
    .op none (some 85) (.mov (.tmp 5)),
    .op none (some 86) (.mov (.tmp 6)),
    .op none (some 87) (.mov (.tmp 7)),
    .op none (some 2) (.mov (.tmp 85)),
    .op none (some 3) (.mov (.tmp 86)),
    .op none (some 4) (.mov (.tmp 87)),
    .ret] }
def b_spinneylaw14_cut : Body := { n := 8, res := [.tmp 2], code := [
    .op none (some 2) (.mov (.const (.slice none 0 0))),
    .op none (some 3) (.mov (.tmp 0)),
    .op none (some 4) (.mov (.tmp 0)),
    .op none (some 5) (.lenS (.tmp 4)),
    .op none (some 6) (.min2 (.tmp 5) (.const (.int .i64 10))),
    .op none (some 7) (.slS 32 (.tmp 3) none (some (.tmp 6))),
    .op none (some 2) (.mov (.tmp 7)),
    .ret] }
def b_spinneylaw14_works (f_forest_New f_Pforest_Forest_Modify f_Pforest_Forest_Stump f_Pforest_Forest_Where f_leaf_Parent : Nat) (T_api_Hash T_forest_Undo T_api_Stump : Nat) : Body := { n := 68, res := [.tmp 0], code := [
    .op none (some 0) (.mov (.const (.bool false))),
    .op none (some 11) (.call f_forest_New #[]),
    .op none (some 1) (.mov (.tmp 11)),
    .op none (some 12) (.mk (rle [(32, .int .u8 0)]) [(0, 1, (.const (.int .u8 1)))]),
    .op none (some 13) (.mk (rle [(32, .int .u8 0)]) [(0, 1, (.const (.int .u8 2)))]),
    .op none (some 2) (.new T_api_Hash (rle [(32, .int .u8 0)])),
    .op none (some 3) (.new T_api_Hash (rle [(32, .int .u8 0)])),
    .op none none (.store 32 (.tmp 2) (.tmp 12)),
    .op none none (.store 32 (.tmp 3) (.tmp 13)),
    .op none (some 15) (.mov (.tmp 1)),
    .op none (some 16) (.loadN 32 (.tmp 2)),
    .op none (some 17) (.loadN 32 (.tmp 3)),
    .op none (some 18) (.mk (rle [(32, .int .u8 0)]) [(0, 1, (.const (.int .u8 3)))]),
    .op none (some 19) (.mkSlice T_api_Hash 3 (rle [(96, .int .u8 0)]) [(0, 32, (.tmp 16)), (32, 32, (.tmp 17)), (64, 32, (.tmp 18))]),
    .op none (some 20) (.call f_Pforest_Forest_Modify #[(.tmp 15), (.const (.slice none 0 0)), (.tmp 19)]),
    .op none (some 14) (.mov (.tmp 20)),
    .op none (some 21) (.ext (.tmp 14) 0),
    .op none (some 22) (.ext (.tmp 14) 1),
    .op none (some 4) (.new T_forest_Undo (rle [(1, .pointer none), (2, .int .i64 0), (1, .int .u64 0), (1, .slice none 0 0), (2, .map none)])),
    .op none none (.store 7 (.tmp 4) (.tmp 21)),
    .op none (some 5) (.mov (.tmp 22)),
    .op none (some 23) (.mov (.tmp 1)),
    .op none (some 24) (.call f_Pforest_Forest_Stump #[(.tmp 23)]),
    .op none (some 6) (.new T_api_Stump (rle [(1, .int .u64 0), (1, .slice none 0 0)])),
    .op none none (.store 2 (.tmp 6) (.tmp 24)),
    .op none (some 26) (.mov (.tmp 1)),
    .op none (some 27) (.loadN 32 (.tmp 2)),
    .op none (some 28) (.mkSlice T_api_Hash 1 (rle [(32, .int .u8 0)]) [(0, 32, (.tmp 27))]),
    .op none (some 29) (.call f_Pforest_Forest_Modify #[(.tmp 26), (.tmp 28), (.const (.slice none 0 0))]),
    .op none (some 25) (.mov (.tmp 29)),
    .op none (some 30) (.ext (.tmp 25) 0),
    .op none (some 31) (.ext (.tmp 25) 1),
    .op none (some 7) (.new T_forest_Undo (rle [(1, .pointer none), (2, .int .i64 0), (1, .int .u64 0), (1, .slice none 0 0), (2, .map none)])),
    .op none none (.store 7 (.tmp 7) (.tmp 30)),
    .op none (some 8) (.mov (.tmp 31)),
    .op none (some 33) (.mov (.tmp 1)),
    .op none (some 34) (.loadN 32 (.tmp 3)),
    .op none (some 35) (.call f_Pforest_Forest_Where #[(.tmp 33), (.tmp 34)]),
    .op none (some 32) (.mov (.tmp 35)),
    .op none (some 36) (.ext (.tmp 32) 0),
    .op none (some 37) (.ext (.tmp 32) 1),
    .op none (some 9) (.mov (.tmp 36)),
    .op none (some 10) (.mov (.tmp 37)),
    .draw [
      ([], none, (some 38), .mov (.tmp 5)),
      ([0], none, (some 39), .ibin .eql (.tmp 38) (.const (.int .i64 0))),
      ([1, 0], none, (some 40), .mov (.tmp 39)),
      ([2, 1, 0], (some (some 40, true)), (some 41), .mov (.tmp 8)),
      ([3, 2, 1, 0], (some (some 40, true)), (some 42), .ibin .eql (.tmp 41) (.const (.int .i64 0))),
      ([2, 4, 1, 0, 3], none, (some 43), .pick (.tmp 40) (.tmp 42) (.const (.bool false))),
      ([5, 2, 4, 1, 0, 3], none, (some 44), .mov (.tmp 43)),
      ([6, 5, 2, 4, 1, 0, 3], (some (some 44, true)), (some 45), .faddr 1 (.tmp 6)),
      ([7, 6, 5, 2, 4, 1, 0, 3], (some (some 44, true)), (some 46), .load1 (.tmp 45)),
      ([8, 6, 7, 5, 2, 4, 1, 0, 3], (some (some 44, true)), (some 47), .lenS (.tmp 46)),
      ([9, 6, 8, 7, 5, 2, 4, 1, 0, 3], (some (some 44, true)), (some 48), .ibin .eql (.tmp 47) (.const (.int .i64 2))),
      ([6, 10, 5, 2, 4, 1, 0, 3, 9, 8, 7], none, (some 49), .pick (.tmp 44) (.tmp 48) (.const (.bool false))),
      ([11, 6, 10, 5, 2, 4, 1, 0, 3, 9, 8, 7], none, (some 50), .mov (.tmp 49)),
      ([12, 11, 6, 10, 5, 2, 4, 1, 0, 3, 9, 8, 7], (some (some 50, true)), (some 51), .faddr 1 (.tmp 6)),
      ([13, 12, 11, 6, 10, 5, 2, 4, 1, 0, 3, 9, 8, 7], (some (some 50, true)), (some 52), .load1 (.tmp 51)),
      ([14, 12, 13, 11, 6, 10, 5, 2, 4, 1, 0, 3, 9, 8, 7], (some (some 50, true)), (some 53), .iaddr 33 (.tmp 52) (.const (.int .i64 0))),
      ([15, 12, 14, 13, 11, 6, 10, 5, 2, 4, 1, 0, 3, 9, 8, 7], (some (some 50, true)), (some 54), .faddr 1 (.tmp 53)),
      ([16, 12, 15, 14, 13, 11, 6, 10, 5, 2, 4, 1, 0, 3, 9, 8, 7], (some (some 50, true)), (some 55), .loadN 32 (.tmp 54)),
      ([12, 11, 6, 10, 5, 2, 4, 1, 0, 3, 9, 8, 7], (some (some 50, true)), (some 56), .loadN 32 (.tmp 2)),
      ([12, 11, 6, 10, 5, 2, 4, 1, 0, 3, 9, 8, 7], (some (some 50, true)), (some 57), .loadN 32 (.tmp 3)),
      ([18, 19, 12, 11, 6, 10, 5, 2, 4, 1, 0, 3, 9, 8, 7], (some (some 50, true)), (some 58), .call f_leaf_Parent #[(.tmp 56), (.tmp 57)])] [
      .op (some (some 50, true)) (some 59) (.bin .eql T_api_Hash (.tmp 55) (.tmp 58)),
      .op none (some 60) (.pick (.tmp 50) (.tmp 59) (.const (.bool false))),
      .op none (some 61) (.mov (.tmp 60)),
      .op (some (some 61, true)) (some 62) (.mov (.tmp 10)),
      .op none (some 63) (.pick (.tmp 61) (.tmp 62) (.const (.bool false))),
      .op none (some 64) (.mov (.tmp 63)),
      .op (some (some 64, true)) (some 65) (.mov (.tmp 9)),
      .op (some (some 64, true)) (some 66) (.ibin .eql (.tmp 65) (.const (.int .u64 4))),
      .op none (some 67) (.pick (.tmp 64) (.tmp 66) (.const (.bool false))),
      .op none (some 0) (.mov (.tmp 67))],
    .ret] }
def b_spinneylaw14_has (T_api_Hash : Nat) : Body := { n := 18, res := [.tmp 4], code := [
    .op none (some 3) (.box T_api_Hash (.tmp 1)),
    .op none (some 4) (.mov (.const (.bool false))),
    .op none (some 5) (.mov (.const (.int .i64 0))),
    .block 0 [
      .loop [
        .op none (some 6) (.mov (.tmp 5)),
        .op none (some 7) (.mov (.tmp 0)),
        .op none (some 8) (.lenS (.tmp 7)),
        .op none (some 9) (.ibin .lss (.tmp 6) (.tmp 8)),
        .cond (.tmp 9) [] [
          .exit 0],
        .block 1 [
          .draw [
            ([], none, (some 12), .mov (.tmp 0)),
            ([], none, (some 13), .mov (.tmp 5)),
            ([0, 1], none, (some 14), .iaddr 32 (.tmp 12) (.tmp 13)),
            ([2, 0, 1], none, (some 15), .loadN 32 (.tmp 14)),
            ([], none, (some 16), .loadN 32 (.tmp 3))] [
            .op none (some 17) (.bin .eql T_api_Hash (.tmp 15) (.tmp 16))],
          .cond (.tmp 17) [
            .op none (some 4) (.mov (.const (.bool true))),
            .ret] []],
        .op none (some 10) (.mov (.tmp 5)),
        .op none (some 11) (.ibin .add (.tmp 10) (.const (.int .i64 1))),
        .op none (some 5) (.mov (.tmp 11))]],
    .op none (some 4) (.mov (.const (.bool false))),
    .ret] }
def b_spinneylaw14_same (T_api_Stump T_api_Root : Nat) : Body := { n := 38, res := [.tmp 4], code := [
    .op none (some 2) (.box T_api_Stump (.tmp 0)),
    .op none (some 3) (.box T_api_Stump (.tmp 1)),
    .op none (some 4) (.mov (.const (.bool false))),
    .op none (some 6) (.faddr 0 (.tmp 2)),
    .op none (some 7) (.load1 (.tmp 6)),
    .op none (some 8) (.faddr 0 (.tmp 3)),
    .op none (some 9) (.load1 (.tmp 8)),
    .op none (some 10) (.ibin .neq (.tmp 7) (.tmp 9)),
    .op none (some 11) (.mov (.tmp 10)),
    .op (some (some 11, false)) (some 12) (.faddr 1 (.tmp 2)),
    .op (some (some 11, false)) (some 13) (.load1 (.tmp 12)),
    .op (some (some 11, false)) (some 14) (.lenS (.tmp 13)),
    .op (some (some 11, false)) (some 15) (.faddr 1 (.tmp 3)),
    .op (some (some 11, false)) (some 16) (.load1 (.tmp 15)),
    .op (some (some 11, false)) (some 17) (.lenS (.tmp 16)),
    .op (some (some 11, false)) (some 18) (.ibin .neq (.tmp 14) (.tmp 17)),
    .op none (some 19) (.pick (.tmp 11) (.const (.bool true)) (.tmp 18)),
    .cond (.tmp 19) [
      .op none (some 4) (.mov (.const (.bool false))),
      .ret] [],
    .op none (some 5) (.mov (.const (.int .i64 0))),
    .block 0 [
      .loop [
        .op none (some 20) (.mov (.tmp 5)),
        .op none (some 21) (.faddr 1 (.tmp 2)),
        .op none (some 22) (.load1 (.tmp 21)),
        .op none (some 23) (.lenS (.tmp 22)),
        .op none (some 24) (.ibin .lss (.tmp 20) (.tmp 23)),
        .cond (.tmp 24) [] [
          .exit 0],
        .block 1 [
          .draw [
            ([], none, (some 27), .faddr 1 (.tmp 2)),
            ([0], none, (some 28), .load1 (.tmp 27)),
            ([], none, (some 29), .mov (.tmp 5)),
            ([1, 2, 0], none, (some 30), .iaddr 33 (.tmp 28) (.tmp 29)),
            ([3, 1, 2, 0], none, (some 31), .loadN 33 (.tmp 30)),
            ([], none, (some 32), .faddr 1 (.tmp 3)),
            ([5], none, (some 33), .load1 (.tmp 32)),
            ([], none, (some 34), .mov (.tmp 5)),
            ([6, 7, 5], none, (some 35), .iaddr 33 (.tmp 33) (.tmp 34)),
            ([8, 6, 7, 5], none, (some 36), .loadN 33 (.tmp 35))] [
            .op none (some 37) (.bin .neq T_api_Root (.tmp 31) (.tmp 36))],
          .cond (.tmp 37) [
            .op none (some 4) (.mov (.const (.bool false))),
            .ret] []],
        .op none (some 25) (.mov (.tmp 5)),
        .op none (some 26) (.ibin .add (.tmp 25) (.const (.int .i64 1))),
        .op none (some 5) (.mov (.tmp 26))]],
    .op none (some 4) (.mov (.const (.bool true))),
    .ret] }
end Go.Sp

namespace Go.Sp
def b_spinneylaw14_ForestAnew (f_spinneylaw14_told f_forest_New f_Pforest_Forest_Modify f_spinneylaw14_has f_spinneylaw14_works f_Pforest_Forest_Stump f_spinneylaw14_same f_Pforest_Forest_Leaves f_Pforest_Forest_Where : Nat) (T_api_Hash T_forest_Undo T_bool : Nat) : Body := { n := 133, res := [.tmp 2], code := [
    .op none (some 2) (.mov (.const (.bool false))),
    .op none (some 19) (.mov (.tmp 0)),
    .op none (some 20) (.call f_spinneylaw14_told #[(.tmp 19)]),
    .op none (some 18) (.mov (.tmp 20)),
    .op none (some 21) (.ext (.tmp 18) 0),
    .op none (some 22) (.ext (.tmp 18) 1),
    .op none (some 23) (.ext (.tmp 18) 2),
    .op none (some 3) (.mov (.tmp 21)),
    .op none (some 4) (.mov (.tmp 22)),
    .op none (some 5) (.mov (.tmp 23)),
    .op none (some 24) (.call f_forest_New #[]),
    .op none (some 6) (.mov (.tmp 24)),
    .op none (some 7) (.mov (.const (.int .i64 0))),
    .block 0 [
      .loop [
        .op none (some 25) (.mov (.tmp 7)),
        .op none (some 26) (.mov (.tmp 4)),
        .op none (some 27) (.lenS (.tmp 26)),
        .op none (some 28) (.ibin .lss (.tmp 25) (.tmp 27)),
        .cond (.tmp 28) [] [
          .exit 0],
        .block 1 [
          .op none (some 32) (.mov (.tmp 6)),
          .op none (some 33) (.mov (.tmp 4)),
          .op none (some 34) (.mov (.tmp 7)),
          .op none (some 35) (.iaddr 32 (.tmp 33) (.tmp 34)),
          .op none (some 36) (.loadN 32 (.tmp 35)),
          .op none (some 37) (.mkSlice T_api_Hash 1 (rle [(32, .int .u8 0)]) [(0, 32, (.tmp 36))]),
          .op none (some 38) (.call f_Pforest_Forest_Modify #[(.tmp 32), (.const (.slice none 0 0)), (.tmp 37)]),
          .op none (some 31) (.mov (.tmp 38)),
          .op none (some 39) (.ext (.tmp 31) 0),
          .op none (some 40) (.ext (.tmp 31) 1),
          .op none (some 8) (.new T_forest_Undo (rle [(1, .pointer none), (2, .int .i64 0), (1, .int .u64 0), (1, .slice none 0 0), (2, .map none)])),
          .op none none (.store 7 (.tmp 8) (.tmp 39)),
          .op none (some 9) (.mov (.tmp 40)),
          .op none (some 41) (.mov (.tmp 9)),
          .op none (some 42) (.ibin .neq (.tmp 41) (.const (.int .i64 0))),
          .cond (.tmp 42) [
            .draw [
              ([], none, (some 43), .mov (.tmp 4)),
              ([], none, (some 44), .mov (.tmp 7)),
              ([0, 1], none, (some 45), .slS 32 (.tmp 43) none (some (.tmp 44))),
              ([], none, (some 46), .mov (.tmp 4)),
              ([], none, (some 47), .mov (.tmp 7)),
              ([3, 4], none, (some 48), .iaddr 32 (.tmp 46) (.tmp 47)),
              ([5, 3, 4], none, (some 49), .loadN 32 (.tmp 48))] [
              .op none (some 50) (.call f_spinneylaw14_has #[(.tmp 45), (.tmp 49)]),
              .op none (some 51) (.mov (.tmp 50)),
              .op (some (some 51, true)) (some 52) (.call f_spinneylaw14_works #[]),
              .op none (some 53) (.pick (.tmp 51) (.tmp 52) (.const (.bool false))),
              .op none (some 2) (.mov (.tmp 53))],
            .ret] []],
        .op none (some 29) (.mov (.tmp 7)),
        .op none (some 30) (.ibin .add (.tmp 29) (.const (.int .i64 1))),
        .op none (some 7) (.mov (.tmp 30))]],
    .op none (some 54) (.mov (.tmp 4)),
    .op none (some 55) (.lenS (.tmp 54)),
    .op none (some 56) (.ibin .sub (.tmp 55) (.const (.int .i64 1))),
    .op none (some 10) (.mov (.tmp 56)),
    .block 2 [
      .loop [
        .op none (some 57) (.mov (.tmp 10)),
        .op none (some 58) (.ibin .geq (.tmp 57) (.const (.int .i64 0))),
        .cond (.tmp 58) [] [
          .exit 2],
        .block 3 [
          .op none (some 61) (.mov (.tmp 5)),
          .op none (some 62) (.mov (.tmp 10)),
          .op none (some 63) (.iaddr 1 (.tmp 61) (.tmp 62)),
          .op none (some 64) (.load1 (.tmp 63)),
          .cond (.tmp 64) [
            .exit 3] [],
          .op none (some 66) (.mov (.tmp 6)),
          .op none (some 67) (.mov (.tmp 4)),
          .op none (some 68) (.mov (.tmp 10)),
          .op none (some 69) (.iaddr 32 (.tmp 67) (.tmp 68)),
          .op none (some 70) (.loadN 32 (.tmp 69)),
          .op none (some 71) (.mkSlice T_api_Hash 1 (rle [(32, .int .u8 0)]) [(0, 32, (.tmp 70))]),
          .op none (some 72) (.call f_Pforest_Forest_Modify #[(.tmp 66), (.tmp 71), (.const (.slice none 0 0))]),
          .op none (some 65) (.mov (.tmp 72)),
          .op none (some 73) (.ext (.tmp 65) 0),
          .op none (some 74) (.ext (.tmp 65) 1),
          .op none (some 11) (.new T_forest_Undo (rle [(1, .pointer none), (2, .int .i64 0), (1, .int .u64 0), (1, .slice none 0 0), (2, .map none)])),
          .op none none (.store 7 (.tmp 11) (.tmp 73)),
          .op none (some 12) (.mov (.tmp 74)),
          .op none (some 75) (.mov (.tmp 12)),
          .op none (some 76) (.ibin .neq (.tmp 75) (.const (.int .i64 0))),
          .cond (.tmp 76) [
            .op none (some 2) (.mov (.const (.bool false))),
            .ret] []],
        .op none (some 59) (.mov (.tmp 10)),
        .op none (some 60) (.ibin .sub (.tmp 59) (.const (.int .i64 1))),
        .op none (some 10) (.mov (.tmp 60))]],
    .op none (some 77) (.mov (.tmp 3)),
    .op none (some 78) (.call f_Pforest_Forest_Stump #[(.tmp 77)]),
    .op none (some 79) (.mov (.tmp 6)),
    .op none (some 80) (.call f_Pforest_Forest_Stump #[(.tmp 79)]),
    .op none (some 81) (.call f_spinneylaw14_same #[(.tmp 78), (.tmp 80)]),
    .op none (some 82) (.un .not (.tmp 81)),
    .op none (some 83) (.mov (.tmp 82)),
    .op (some (some 83, false)) (some 84) (.mov (.tmp 3)),
    .op (some (some 83, false)) (some 85) (.call f_Pforest_Forest_Leaves #[(.tmp 84)]),
    .op (some (some 83, false)) (some 86) (.lenS (.tmp 85)),
    .op (some (some 83, false)) (some 87) (.mov (.tmp 6)),
    .op (some (some 83, false)) (some 88) (.call f_Pforest_Forest_Leaves #[(.tmp 87)]),
    .op (some (some 83, false)) (some 89) (.lenS (.tmp 88)),
    .op (some (some 83, false)) (some 90) (.ibin .neq (.tmp 86) (.tmp 89)),
    .op none (some 91) (.pick (.tmp 83) (.const (.bool true)) (.tmp 90)),
    .cond (.tmp 91) [
      .op none (some 2) (.mov (.const (.bool false))),
      .ret] [],
    .op none (some 13) (.mov (.const (.int .i64 0))),
    .block 4 [
      .loop [
        .op none (some 92) (.mov (.tmp 13)),
        .op none (some 93) (.mov (.tmp 4)),
        .op none (some 94) (.lenS (.tmp 93)),
        .op none (some 95) (.ibin .lss (.tmp 92) (.tmp 94)),
        .cond (.tmp 95) [] [
          .exit 4],
        .block 5 [
          .op none (some 99) (.mov (.tmp 3)),
          .op none (some 100) (.mov (.tmp 4)),
          .op none (some 101) (.mov (.tmp 13)),
          .op none (some 102) (.iaddr 32 (.tmp 100) (.tmp 101)),
          .op none (some 103) (.loadN 32 (.tmp 102)),
          .op none (some 104) (.call f_Pforest_Forest_Where #[(.tmp 99), (.tmp 103)]),
          .op none (some 98) (.mov (.tmp 104)),
          .op none (some 105) (.ext (.tmp 98) 0),
          .op none (some 106) (.ext (.tmp 98) 1),
          .op none (some 14) (.mov (.tmp 105)),
          .op none (some 15) (.mov (.tmp 106)),
          .op none (some 108) (.mov (.tmp 6)),
          .op none (some 109) (.mov (.tmp 4)),
          .op none (some 110) (.mov (.tmp 13)),
          .op none (some 111) (.iaddr 32 (.tmp 109) (.tmp 110)),
          .op none (some 112) (.loadN 32 (.tmp 111)),
          .op none (some 113) (.call f_Pforest_Forest_Where #[(.tmp 108), (.tmp 112)]),
          .op none (some 107) (.mov (.tmp 113)),
          .op none (some 114) (.ext (.tmp 107) 0),
          .op none (some 115) (.ext (.tmp 107) 1),
          .op none (some 16) (.mov (.tmp 114)),
          .op none (some 17) (.mov (.tmp 115)),
          .op none (some 116) (.mov (.tmp 14)),
          .op none (some 117) (.mov (.tmp 16)),
          .op none (some 118) (.ibin .neq (.tmp 116) (.tmp 117)),
          .op none (some 119) (.mov (.tmp 118)),
          .op (some (some 119, false)) (some 120) (.mov (.tmp 15)),
          .op (some (some 119, false)) (some 121) (.mov (.tmp 17)),
          .op (some (some 119, false)) (some 122) (.bin .neq T_bool (.tmp 120) (.tmp 121)),
          .op none (some 123) (.pick (.tmp 119) (.const (.bool true)) (.tmp 122)),
          .op none (some 124) (.mov (.tmp 123)),
          .op (some (some 124, false)) (some 125) (.mov (.tmp 15)),
          .op (some (some 124, false)) (some 126) (.mov (.tmp 5)),
          .op (some (some 124, false)) (some 127) (.mov (.tmp 13)),
          .op (some (some 124, false)) (some 128) (.iaddr 1 (.tmp 126) (.tmp 127)),
          .op (some (some 124, false)) (some 129) (.load1 (.tmp 128)),
          .op (some (some 124, false)) (some 130) (.bin .neq T_bool (.tmp 125) (.tmp 129)),
          .op none (some 131) (.pick (.tmp 124) (.const (.bool true)) (.tmp 130)),
          .cond (.tmp 131) [
            .op none (some 2) (.mov (.const (.bool false))),
            .ret] []],
        .op none (some 96) (.mov (.tmp 13)),
        .op none (some 97) (.ibin .add (.tmp 96) (.const (.int .i64 1))),
        .op none (some 13) (.mov (.tmp 97))]],
    .op none (some 132) (.call f_spinneylaw14_works #[]),
    .op none (some 2) (.mov (.tmp 132)),
    .ret] }
end Go.Sp

namespace Go.Sp
/-- T is api.Root -/
structure TyRoot (P : Program) (T TH : TypeId) : Prop where
  und : P.underlying T = some (.struct (P.fieldsOf T))
  held : P.stoodInHeld T = false
  guard : P.eqGuardType P.depth T = false
  fs : ∃ f1 f2, (P.fieldsOf T).toList = [f1, f2] ∧ f1.name ≠ "_" ∧ f2.name ≠ "_" ∧ P.underlying f1.type = some .bool ∧ f1.offset = 0 ∧ f2.type = TH ∧ f2.offset = 1
  size : ∃ i, P.info? TH = some i ∧ i.size = 32
def rootV (o : Option Hash) : Value := .agg (rootC o).toArray
section
variable {P : Program} {n : Nat} {c : Ctx} {D : List Deferred} {is : List Ins} {k : Kont} {e : Env} {w : World} {T TH : TypeId}
def zH : Hash := ⟨List.replicate 32 0, rfl⟩
theorem rootC_eq (o : Option Hash) : rootC o = .bool o.isSome :: hC (o.getD zH) := by
  cases o with
  | none => rfl
  | some h => rfl
theorem equal_root (hR : TyRoot P T TH) (hT : TyBytes P TH 32) (a b : Option Hash) (d : Nat) : (Op.equalIn (d + 3) T (rootV a) (rootV b)).run P w = .ok (decide (a.isSome = b.isSome ∧ a.getD zH = b.getD zH)) w := by
  obtain ⟨f1, f2, hfs, n1, n2, u1, o1, t2, o2⟩ := hR.fs
  obtain ⟨i, hi, hsz⟩ := hR.size
  obtain ⟨e, ei, h1, _⟩ := hT.ex
  have ha2 : ∀ W, (isAgg TH).run P W = .ok true W := fun W => by simp [isAgg, run_underlying h1]
  have hs2 : ∀ W, (Go.sizeOf TH).run P W = .ok 32 W := fun W => by simp [Go.sizeOf, typeInfo, Sem.run, hi, hsz]
  have ha1 : ∀ W, (isAgg f1.type).run P W = .ok false W := fun W => by simp [isAgg, run_underlying u1]
  have hx1 : ∀ (o : Option Hash) W, (part f1.type (rootC o).toArray 0).run P W = .ok (.bool o.isSome) W := by
    intro o W
    rw [rootC_eq]
    simp [part, ha1]
  have hx2 : ∀ (o : Option Hash) W, (part TH (rootC o).toArray 1).run P W = .ok (hV (o.getD zH)) W := by
    intro o W
    rw [rootC_eq]
    have := hC_length (o.getD zH)
    simp [part, ha2, hs2, hV]
    exact List.take_of_length_le (by omega)
  rw [rootV, rootV, run_equalIn_struct w (d + 2) T _ _ hR.und hR.held, hfs]
  simp only [Op.eqFields, n1, n2, o1, o2, t2, ne_eq, not_false_eq_true, if_true, Sem.run_bind, hx1, hx2, Result.andThen_ok]
  rw [run_equalIn_bool w (d + 1) f1.type _ _ u1]
  by_cases hq : a.isSome = b.isSome
  · simp only [hq, beq_self_eq_true, Result.andThen_ok, Bool.not_true, Bool.false_eq_true, if_false, Sem.run_bind, hx2, equal_hash hT, true_and]
    by_cases hh : a.getD zH = b.getD zH
    · simp [hh]
    · simp [hh]
  · have : (a.isSome == b.isSome) = false := by simpa using hq
    simp [this, hq]
theorem ok_ne_root {x y : Operand} {a b : Option Hash} (hR : TyRoot P T TH) (hT : TyBytes P TH 32) (hx : e.ev x = some (rootV a)) (hy : e.ev y = some (rootV b)) : OpOK P (.bin .neq T x y) e w (Just (.bool (!decide (a.isSome = b.isSome ∧ a.getD zH = b.getD zH))) w) := by
  refine ok_ne_of hx hy (by simp [eqGuard, rootV, hR.guard]) (by simp [rootV]) (by simp [rootV]) (by simp [rootV]) (by simp [rootV]) ?_
  exact equal_root hR hT a b 9997
end
theorem hs_take (l : List Hash) (k : Nat) : (hs l).take (k * 32) = hs (l.take k) := by
  induction l generalizing k with
  | nil => simp [hs]
  | cons h l ih =>
    cases k with
    | zero => simp [hs]
    | succ k =>
      simp only [hs, List.flatMap_cons, List.take_succ_cons] at ih ⊢
      rw [List.take_append, hC_length, show (k + 1) * 32 - 32 = k * 32 by omega, ih k, List.take_of_length_le (by rw [hC_length]; omega)]
def hasB (l : List Hash) (x : Hash) : Bool := l.any fun y => decide (y = x)
theorem hasB_iff {l : List Hash} {x : Hash} : hasB l x = true ↔ x ∈ l := by simp [hasB]
structure LawF (P : Program) extends ForP P where
  has : Nat
  cut : Nat
  same : Nat
  TSm : Nat
  TRo : Nat
  h_has : Has P has (b_spinneylaw14_has TH)
  h_cut : Has P cut b_spinneylaw14_cut
  h_same : Has P same (b_spinneylaw14_same TSm TRo)
  h_TRo : TyRoot P TRo TH
section
variable {P : Program} {f : Nat} {w : World}
def cutV (v : Value) (l : List Hash) : Value := subV v 32 0 (l.take 10).length
theorem cutV_sl {v : Value} {l : List Hash} (hS : SlC w v 32 l.length (hs l)) : SlC w (cutV v l) 32 (l.take 10).length (hs (l.take 10)) := by
  have hle : (l.take 10).length ≤ l.length := by rw [List.length_take]; omega
  have hr := subV_sl hS (Nat.zero_le _) hle
  rw [Nat.sub_zero, hs_take, Nat.zero_mul, List.drop_zero] at hr
  have : l.take (l.take 10).length = l.take 10 := by rw [List.length_take]; rcases Nat.le_total 10 l.length with h | h
                                                     · rw [Nat.min_eq_left h]
                                                     · rw [Nat.min_eq_right h, List.take_of_length_le (Nat.le_refl _), List.take_of_length_le h]
  rw [this] at hr
  exact hr
theorem cut_ok (A : LawF P) {v : Value} {l : List Hash} (hS : SlC w v 32 l.length (hs l)) : RetV P A.cut [v] w (cutV v l) := by
  refine Ret.of_exec A.h_cut (Nat.le_of_ble_eq_true rfl) fun c hc => ?_
  dsimp only [b_spinneylaw14_cut, argEnv]
  refine xtm rfl rfl rfl ?_
  refine xtm rfl rfl rfl ?_
  refine xtm rfl rfl rfl ?_
  refine xpu (hS.lenS rfl) rfl ?_
  refine xju (ok_min2 (i := (l.length : Int)) (j := 10) rfl rfl) rfl ?_
  have hk : (if (10 : Int) < (l.length : Int) then 10 else (l.length : Int)) = (((l.take 10).length : Nat) : Int) := by
    rw [List.length_take]; split <;> omega
  rw [hk]
  have hle : (l.take 10).length ≤ l.length := by rw [List.length_take]; omega
  refine xju (ok_slSd (N := 32) (len := l.length) none (some (.tmp 6)) 0 (l.take 10).length rfl hS rfl ⟨.i64, rfl⟩ (Nat.zero_le _) hle) rfl ?_
  repeat (first | refine xtm rfl rfl rfl ?_ | refine xgr rfl ?_ | refine xgs rfl rfl ?_ | refine xgu rfl rfl ?_ | refine xg0 rfl ?_ | refine xct rfl ?_ | refine xcf rfl ?_ | refine xbk ?_ | refine xsq ?_ | refine xbl ?_ | refine xex rfl ?_)
  exact xre hc [_] ⟨rfl, trivial⟩ ⟨rfl, Upd.refl _ _⟩
theorem has_ok (A : LawF P) {v : Value} {l : List Hash} (hS : SlC w v 32 l.length (hs l)) (hl : l.length < 2 ^ 40) (x : Hash) : RetV P A.has [v, hV x] w (.bool (hasB l x)) := by
  refine Ret.of_exec A.h_has (Nat.le_of_ble_eq_true rfl) fun c hc => ?_
  dsimp only [b_spinneylaw14_has, argEnv]
  refine exec_box rfl rfl ?_
  intro b3 w1 hb3 hs1 hu1 hB3
  rw [hV_cells] at hB3
  repeat (first | refine xtm rfl rfl rfl ?_ | refine xgr rfl ?_ | refine xgs rfl rfl ?_ | refine xgu rfl rfl ?_ | refine xg0 rfl ?_ | refine xct rfl ?_ | refine xcf rfl ?_ | refine xbk ?_ | refine xsq ?_ | refine xbl ?_ | refine xex rfl ?_)
  refine xlo (S := Nat) (fun i W => i ≤ l.length ∧ Ext w1 W ∧ hasB (l.take i) x = false) (fun i => [(0, v), (3, ptrV b3), (5, intV' i)]) (fun i => l.length - i) 0 ⟨Nat.zero_le _, Upd.refl _ _, rfl⟩ ⟨rfl, rfl, rfl, trivial⟩ ?_
  rintro i W ⟨i1, iU, iF⟩
  have hwW := hu1.trans iU
  refine xtm rfl rfl rfl ?_
  refine xtm rfl rfl rfl ?_
  refine xpu (hS.lenS rfl) rfl ?_
  by_cases hi : i < l.length
  · refine xpu (pv_lssI (a := i) (b := l.length) (q := true) rfl rfl (by simpa using hi)) rfl ?_
    repeat (first | refine xtm rfl rfl rfl ?_ | refine xgr rfl ?_ | refine xgs rfl rfl ?_ | refine xgu rfl rfl ?_ | refine xg0 rfl ?_ | refine xct rfl ?_ | refine xcf rfl ?_ | refine xbk ?_ | refine xsq ?_ | refine xbl ?_ | refine xex rfl ?_)
    obtain ⟨y, hy⟩ : ∃ y, l[i]? = some y := ⟨_, List.getElem?_eq_getElem hi⟩
    have htk : l.take (i + 1) = l.take i ++ [y] := by rw [List.take_add_one, hy]; rfl
    obtain ⟨bd, od, cd, hdv, _, hmd⟩ := hs_at hS hy
    refine xen [(0, v), (3, ptrV b3), (5, intV' i)] ⟨rfl, rfl, rfl, trivial⟩ ?_
    refine exec_dwr rfl rfl rfl ?_
    repeat (first | refine wtm rfl rfl rfl ?_ | refine wgt rfl rfl rfl rfl ?_ | refine wgs rfl rfl ?_)
    refine ws_keep _ rfl (fun X hx => ok_iaddr (N := 32) (b := bd) (o := od) (len := l.length) (cap := cd) (by rw [← hdv]; rfl) rfl i rfl hi) ?_
    refine ws_keep (hV y) rfl (fun X hx => ok_loadN (b := bd) (o := od + i * 32) (vs := hC y) rfl (hmd.upd (hwW.trans hx) (by simp)) (hC_length _)) ?_
    refine ws_keep (hV x) rfl (fun X hx => ok_loadN (b := b3) (o := 0) (vs := hC x) rfl (hB3.upd (iU.trans hx)).memAll (hC_length _)) ?_
    refine ws_fin fun w2 hw2 => ?_
    refine xju (ok_eq_hash A.h_TH rfl rfl) rfl ?_
    refine exec_cond rfl (fun hq => ?_) (fun hq => ?_)
    · repeat (first | refine xtm rfl rfl rfl ?_ | refine xgr rfl ?_ | refine xgs rfl rfl ?_ | refine xgu rfl rfl ?_ | refine xg0 rfl ?_ | refine xct rfl ?_ | refine xcf rfl ?_ | refine xbk ?_ | refine xsq ?_ | refine xbl ?_ | refine xex rfl ?_)
      refine xre hc [_] ⟨rfl, trivial⟩ ⟨?_, hwW.trans hw2⟩
      have hyx : y = x := by simpa using hq
      subst hyx
      have := hasB_iff.2 (List.mem_of_getElem? hy)
      rw [this]; rfl
    · repeat (first | refine xtm rfl rfl rfl ?_ | refine xgr rfl ?_ | refine xgs rfl rfl ?_ | refine xgu rfl rfl ?_ | refine xg0 rfl ?_ | refine xct rfl ?_ | refine xcf rfl ?_ | refine xbk ?_ | refine xsq ?_ | refine xbl ?_ | refine xex rfl ?_)
      refine xpu (pv_addI (a := i) (b := 1) rfl rfl (by omega)) rfl ?_
      repeat (first | refine xtm rfl rfl rfl ?_ | refine xgr rfl ?_ | refine xgs rfl rfl ?_ | refine xgu rfl rfl ?_ | refine xg0 rfl ?_ | refine xct rfl ?_ | refine xcf rfl ?_ | refine xbk ?_ | refine xsq ?_ | refine xbl ?_ | refine xex rfl ?_)
      refine xag (i + 1) ⟨hi, iU.trans hw2, ?_⟩ (by show l.length - (i + 1) < l.length - i; omega) ⟨rfl, rfl, rfl, trivial⟩
      have iF' : (l.take i).any (fun y => decide (y = x)) = false := iF
      rw [hasB, htk, List.any_append, iF']
      simpa using hq
  · refine xpu (pv_lssI (a := i) (b := l.length) (q := false) rfl rfl (by simpa using hi)) rfl ?_
    repeat (first | refine xtm rfl rfl rfl ?_ | refine xgr rfl ?_ | refine xgs rfl rfl ?_ | refine xgu rfl rfl ?_ | refine xg0 rfl ?_ | refine xct rfl ?_ | refine xcf rfl ?_ | refine xbk ?_ | refine xsq ?_ | refine xbl ?_ | refine xex rfl ?_)
    refine xre hc [_] ⟨rfl, trivial⟩ ⟨?_, hwW⟩
    rw [List.take_of_length_le (by omega)] at iF
    rw [iF]; rfl
theorem rootsC_get : ∀ (l : List (Option Hash)) (i j : Nat) (o : Option Hash) (x : Value), l[i]? = some o → (rootC o)[j]? = some x → (rootsC l)[i * 33 + j]? = some x := by
  intro l
  induction l with
  | nil => intro i j o x hi; simp at hi
  | cons a l ih =>
    intro i j o x hi hj
    simp only [rootsC, List.flatMap_cons]
    have hjl : j < 33 := by have := (List.getElem?_eq_some_iff.1 hj).1; rw [rootC_len] at this; exact this
    cases i with
    | zero =>
      simp at hi; subst hi
      rw [Nat.zero_mul, Nat.zero_add, List.getElem?_append_left (by rw [rootC_len]; exact hjl)]; exact hj
    | succ i =>
      rw [List.getElem?_append_right (by rw [rootC_len]; omega), rootC_len, show (i + 1) * 33 + j - 33 = i * 33 + j by omega]
      exact ih i j o x (by simpa using hi) hj
theorem rootsC_at {v : Value} {l : List (Option Hash)} {i : Nat} {o : Option Hash} (hS : SlC w v 33 l.length (rootsC l)) (hi : l[i]? = some o) : ∃ b off cap, v = .slice (some ⟨b, off, none⟩) l.length cap ∧ i < l.length ∧ Mem w b (off + i * 33) (rootC o) := by
  have hlt := (List.getElem?_eq_some_iff.1 hi).1
  obtain ⟨b, off, cap, hv, hm, _⟩ := hS.at (by omega)
  exact ⟨b, off, cap, hv, hlt, hm.sub (i * 33) fun j x hj => rootsC_get l i j o x hi hj⟩
theorem SlC.slice {v : Value} {N len : Nat} {cs : List Value} (h : SlC w v N len cs) : ∃ a l c, v = .slice a l c := by
  rcases h with ⟨rfl | ⟨b, o, s, cap, rfl⟩, _⟩ | ⟨b, o, cap, rfl, _⟩
  · exact ⟨_, _, _, rfl⟩
  · exact ⟨_, _, _, rfl⟩
  · exact ⟨_, _, _, rfl⟩
theorem same_ok (A : LawF P) {rv rv' : Value} {n : Nat} {l : List (Option Hash)} (hS : SlC w rv 33 l.length (rootsC l)) (hS' : SlC w rv' 33 l.length (rootsC l)) (hl : l.length < 2 ^ 40) :
    RetV P A.same [.agg #[u64V n, rv], .agg #[u64V n, rv']] w (.bool true) := by
  obtain ⟨ra, rl, rc, rfl⟩ := hS.slice
  obtain ⟨sa, sl, sc, rfl⟩ := hS'.slice
  refine Ret.of_exec A.h_same (Nat.le_of_ble_eq_true rfl) fun c hc => ?_
  dsimp only [b_spinneylaw14_same, argEnv]
  refine exec_box rfl rfl ?_
  intro b2 w1 hb2 hs1 hu1 hB2
  have hB2' : Blk w1 b2 [u64V n, .slice ra rl rc] := hB2
  refine exec_box rfl rfl ?_
  intro b3 w2 hb3 hs2 hu2 hB3
  have hB3' : Blk w2 b3 [u64V n, .slice sa sl sc] := hB3
  replace hB2' := hB2'.upd hu2
  have hE : Ext w w2 := hu1.trans hu2
  repeat (first | refine xtm rfl rfl rfl ?_ | refine xgr rfl ?_ | refine xgs rfl rfl ?_ | refine xgu rfl rfl ?_ | refine xg0 rfl ?_ | refine xct rfl ?_ | refine xcf rfl ?_ | refine xbk ?_ | refine xsq ?_ | refine xbl ?_ | refine xex rfl ?_)
  refine exec_load1 (b := b2) (o := 0 + 0) rfl rfl (hB2'.cell rfl) ?_
  repeat (first | refine xtm rfl rfl rfl ?_ | refine xgr rfl ?_ | refine xgs rfl rfl ?_ | refine xgu rfl rfl ?_ | refine xg0 rfl ?_ | refine xct rfl ?_ | refine xcf rfl ?_ | refine xbk ?_ | refine xsq ?_ | refine xbl ?_ | refine xex rfl ?_)
  refine exec_load1 (b := b3) (o := 0 + 0) rfl rfl (hB3'.cell rfl) ?_
  refine xpu (pv_neqI (a := n) (b := n) (q := false) rfl rfl (by simp)) rfl ?_
  repeat (first | refine xtm rfl rfl rfl ?_ | refine xgr rfl ?_ | refine xgs rfl rfl ?_ | refine xgu rfl rfl ?_ | refine xg0 rfl ?_ | refine xct rfl ?_ | refine xcf rfl ?_ | refine xbk ?_ | refine xsq ?_ | refine xbl ?_ | refine xex rfl ?_)
  refine exec_load1 (b := b2) (o := 0 + 1) rfl rfl (hB2'.cell rfl) ?_
  refine xgr rfl ?_
  refine xpu (hS.lenS rfl) rfl ?_
  repeat (first | refine xtm rfl rfl rfl ?_ | refine xgr rfl ?_ | refine xgs rfl rfl ?_ | refine xgu rfl rfl ?_ | refine xg0 rfl ?_ | refine xct rfl ?_ | refine xcf rfl ?_ | refine xbk ?_ | refine xsq ?_ | refine xbl ?_ | refine xex rfl ?_)
  refine exec_load1 (b := b3) (o := 0 + 1) rfl rfl (hB3'.cell rfl) ?_
  refine xgr rfl ?_
  refine xpu (hS'.lenS rfl) rfl ?_
  refine xgr rfl ?_
  refine xpu (pv_neqI (a := l.length) (b := l.length) (q := false) rfl rfl (by simp)) rfl ?_
  repeat (first | refine xtm rfl rfl rfl ?_ | refine xgr rfl ?_ | refine xgs rfl rfl ?_ | refine xgu rfl rfl ?_ | refine xg0 rfl ?_ | refine xct rfl ?_ | refine xcf rfl ?_ | refine xbk ?_ | refine xsq ?_ | refine xbl ?_ | refine xex rfl ?_)
  refine xlo (S := Nat) (fun i W => i ≤ l.length ∧ Ext w2 W) (fun i => [(2, ptrV b2), (3, ptrV b3), (5, intV' i)]) (fun i => l.length - i) 0 ⟨Nat.zero_le _, Upd.refl _ _⟩ ⟨rfl, rfl, rfl, trivial⟩ ?_
  rintro i W ⟨i1, iU⟩
  repeat (first | refine xtm rfl rfl rfl ?_ | refine xgr rfl ?_ | refine xgs rfl rfl ?_ | refine xgu rfl rfl ?_ | refine xg0 rfl ?_ | refine xct rfl ?_ | refine xcf rfl ?_ | refine xbk ?_ | refine xsq ?_ | refine xbl ?_ | refine xex rfl ?_)
  refine exec_load1 (b := b2) (o := 0 + 1) rfl rfl ((hB2'.upd iU).cell rfl) ?_
  refine xpu (hS.lenS rfl) rfl ?_
  have hwW := hE.trans iU
  by_cases hi : i < l.length
  · refine xpu (pv_lssI (a := i) (b := l.length) (q := true) rfl rfl (by simpa using hi)) rfl ?_
    repeat (first | refine xtm rfl rfl rfl ?_ | refine xgr rfl ?_ | refine xgs rfl rfl ?_ | refine xgu rfl rfl ?_ | refine xg0 rfl ?_ | refine xct rfl ?_ | refine xcf rfl ?_ | refine xbk ?_ | refine xsq ?_ | refine xbl ?_ | refine xex rfl ?_)
    obtain ⟨y, hy⟩ : ∃ y, l[i]? = some y := ⟨_, List.getElem?_eq_getElem hi⟩
    obtain ⟨bd, od, cd, hdv, _, hmd⟩ := rootsC_at hS hy
    obtain ⟨be, oe, ce, hev, _, hme⟩ := rootsC_at hS' hy
    refine xen [(2, ptrV b2), (3, ptrV b3), (5, intV' i)] ⟨rfl, rfl, rfl, trivial⟩ ?_
    refine exec_dwr rfl rfl rfl ?_
    repeat (first | refine wtm rfl rfl rfl ?_ | refine wgt rfl rfl rfl rfl ?_ | refine wgs rfl rfl ?_)
    refine ws_keep (.slice ra rl rc) rfl (fun X hx => ok_load1 (b := b2) (o := 0 + 1) rfl (((hB2'.upd iU).upd hx).cell rfl)) ?_
    repeat (first | refine wtm rfl rfl rfl ?_ | refine wgt rfl rfl rfl rfl ?_ | refine wgs rfl rfl ?_)
    refine ws_keep _ rfl (fun X hx => ok_iaddr (N := 33) (b := bd) (o := od) (len := l.length) (cap := cd) (by rw [← hdv]; rfl) rfl i rfl hi) ?_
    refine ws_keep (rootV y) rfl (fun X hx => ok_loadN (b := bd) (o := od + i * 33) (vs := rootC y) rfl (hmd.upd (hwW.trans hx) (by simp)) (rootC_len _)) ?_
    repeat (first | refine wtm rfl rfl rfl ?_ | refine wgt rfl rfl rfl rfl ?_ | refine wgs rfl rfl ?_)
    refine ws_keep (.slice sa sl sc) rfl (fun X hx => ok_load1 (b := b3) (o := 0 + 1) rfl (((hB3'.upd iU).upd hx).cell rfl)) ?_
    repeat (first | refine wtm rfl rfl rfl ?_ | refine wgt rfl rfl rfl rfl ?_ | refine wgs rfl rfl ?_)
    refine ws_keep _ rfl (fun X hx => ok_iaddr (N := 33) (b := be) (o := oe) (len := l.length) (cap := ce) (by rw [← hev]; rfl) rfl i rfl hi) ?_
    refine ws_keep (rootV y) rfl (fun X hx => ok_loadN (b := be) (o := oe + i * 33) (vs := rootC y) rfl (hme.upd (hwW.trans hx) (by simp)) (rootC_len _)) ?_
    refine ws_fin fun w3 hw3 => ?_
    refine xju (ok_ne_root A.h_TRo A.h_TH rfl rfl) rfl ?_
    simp only [and_self, decide_true, Bool.not_true]
    repeat (first | refine xtm rfl rfl rfl ?_ | refine xgr rfl ?_ | refine xgs rfl rfl ?_ | refine xgu rfl rfl ?_ | refine xg0 rfl ?_ | refine xct rfl ?_ | refine xcf rfl ?_ | refine xbk ?_ | refine xsq ?_ | refine xbl ?_ | refine xex rfl ?_)
    refine xpu (pv_addI (a := i) (b := 1) rfl rfl (by omega)) rfl ?_
    repeat (first | refine xtm rfl rfl rfl ?_ | refine xgr rfl ?_ | refine xgs rfl rfl ?_ | refine xgu rfl rfl ?_ | refine xg0 rfl ?_ | refine xct rfl ?_ | refine xcf rfl ?_ | refine xbk ?_ | refine xsq ?_ | refine xbl ?_ | refine xex rfl ?_)
    exact xag (i + 1) ⟨hi, iU.trans hw3⟩ (by show l.length - (i + 1) < l.length - i; omega) ⟨rfl, rfl, rfl, trivial⟩
  · refine xpu (pv_lssI (a := i) (b := l.length) (q := false) rfl rfl (by simpa using hi)) rfl ?_
    repeat (first | refine xtm rfl rfl rfl ?_ | refine xgr rfl ?_ | refine xgs rfl rfl ?_ | refine xgu rfl rfl ?_ | refine xg0 rfl ?_ | refine xct rfl ?_ | refine xcf rfl ?_ | refine xbk ?_ | refine xsq ?_ | refine xbl ?_ | refine xex rfl ?_)
    exact xre hc [_] ⟨rfl, trivial⟩ ⟨rfl, hwW⟩
end
end Go.Sp
