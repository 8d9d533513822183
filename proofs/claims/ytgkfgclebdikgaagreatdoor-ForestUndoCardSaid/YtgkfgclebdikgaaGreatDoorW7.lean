/- spinneylaw14.ForestUndo returns true for every input, and its arguments read afterwards as before: the card. No condition. This text: part 7 of 9. -/
import Derived.Test.YtgkfgclebdikgaaGreatDoorW6
set_option linter.unusedVariables false
set_option linter.unusedSimpArgs false
set_option linter.unusedSectionVars false
namespace Go.Sp
/-- worlds in which a new block of one cell may be written: X -/
structure NewCell (N : Nat) (X : Value) (a b : World) : Prop where
  os : b.os = a.os
  tape : b.tape = a.tape
  output : b.output = a.output
  size : a.heap.size ≤ b.heap.size
  block : ∀ i, i < a.heap.size → i < N → b.heap[i]? = a.heap[i]?
  drawn : a.drawn ≤ b.drawn
  cell : ∀ i x, N ≤ i → Blk a i [x] → ∃ y, Blk b i [y] ∧ (x = X → y = X)
theorem NewCell.ext {N : Nat} {X : Value} {a b : World} (h : Ext a b) : NewCell N X a b := ⟨h.os, h.tape, h.output, h.size, fun i hi _ => h.block i hi (by simp), h.drawn, fun i x _ hB => ⟨x, hB.upd h, id⟩⟩
theorem NewCell.trans {N : Nat} {X : Value} {a b c : World} (h : NewCell N X a b) (k : NewCell N X b c) : NewCell N X a c :=
  ⟨k.os.trans h.os, k.tape.trans h.tape, k.output.trans h.output, Nat.le_trans h.size k.size, fun i h1 h2 => (k.block i (Nat.lt_of_lt_of_le h1 h.size) h2).trans (h.block i h1 h2), Nat.le_trans h.drawn k.drawn, fun i x hi hB => by
    obtain ⟨y, h1, h2⟩ := h.cell i x hi hB
    obtain ⟨z, h3, h4⟩ := k.cell i y hi h1
    exact ⟨z, h3, fun hx => h4 (h2 hx)⟩⟩
theorem NewCell.toExt {X : Value} {w W : World} (h : NewCell w.heap.size X w W) : Ext w W := ⟨h.os, h.tape, h.output, h.size, fun i hi _ => h.block i hi hi, h.drawn⟩
theorem NewCell.store {N B : Nat} {X : Value} {a b : World} (hN : N ≤ B) (h : Upd [B] a b) (hB : Blk b B [X]) : NewCell N X a b :=
  ⟨h.os, h.tape, h.output, h.size, fun i h1 h2 => h.block i h1 (by simp; omega), h.drawn, fun i x hi hBx => by
    by_cases he : i = B
    · subst he; exact ⟨X, hB, fun _ => rfl⟩
    · exact ⟨x, hBx.upd h (by simpa using he), id⟩⟩
/-- the functions of forest, on -/
structure ForN (P : Program) extends ForM P where
  where' : Nat
  TWu : Nat
  h_where : Has P where' (b_Pforest_Forest_Where is' where1 index root' rows' nf.left TH TWu TNode)
theorem rowsN_40 {n : Nat} (h : n < 2 ^ 40) : rowsN n ≤ 40 := by
  unfold rowsN
  split
  · omega
  · exact bitLen_le (by omega) (by omega)
theorem pow41 {R : Nat} (h : R ≤ 40) : 2 ^ (R + 1) ≤ 2 ^ 41 := Nat.pow_le_pow_right (by omega) (by omega)
section
variable {P : Program} {f : Nat} {w : World}
set_option maxHeartbeats 800000 in
theorem where_ok (A : ForN P) {p m : Nat} {s : Fo} (h : FAt w p m s) (hh : Hash) : Ret P A.where' [ptrV p, hV hh] w fun v w' => Ext w w' ∧
    ((v = .tuple #[u64V 0, .bool false] ∧ some hh ∉ s.L) ∨ ∃ x, v = .tuple #[u64V (whereT (treesT parH (lv s.L) s.L.length) s.L.length x), .bool true] ∧ s.L[x]? = some (some hh)) := by
  have hF := h
  have hlen := h.len
  obtain ⟨⟨tv, wl, h1, h2, h3, h4⟩, _⟩ := h
  refine Ret.of_exec A.h_where (Nat.le_of_ble_eq_true rfl) fun c hc => ?_
  dsimp only [b_Pforest_Forest_Where, argEnv, ym, yo, yg, ys, yt, yd, ye]
  refine exec_box rfl rfl ?_
  intro b3 w1 hb3 hs1 hu1 hB3
  rw [hV_cells] at hB3
  refine xr 3 rfl ?_
  refine xca rfl rfl (is_ok A.toForJ (hF.ext hu1)) ?_
  rintro _ w2 ⟨rfl, hu2⟩
  refine xr 3 rfl ?_
  have hE2 : Ext w w2 := hu1.trans hu2
  refine xen [(0, ptrV p), (3, ptrV b3)] ⟨rfl, rfl, trivial⟩ ?_
  obtain ⟨o, ho⟩ : ∃ o, aget hh wl = o := ⟨_, rfl⟩
  have hE : ∀ a b, Ext a b → NewCell w2.heap.size (u64V (o.getD 0)) a b := fun a b h => NewCell.ext h
  refine exec_qw (NewCell w2.heap.size (u64V (o.getD 0))) hE (fun a b c h k => h.trans k) rfl rfl rfl ?_
  repeat refine qw_tame hE rfl (fun _ => rfl) ?_
  refine qw_keep (.map (some m)) hE (fun vs X hx _ => ok_load1 (b := p) (o := 0 + 2) rfl ((h1.upd (hE2.trans hx.toExt)).cell rfl)) ?_
  refine qw_keep (hV hh) hE (fun vs X hx _ => ok_loadN (b := b3) (o := 0) rfl (hB3.upd (hu2.trans hx.toExt)).memAll (hC_length _)) ?_
  refine qw_keep _ hE (fun vs X hx _ => ok_look A.h_TH rfl rfl (h3.upd (hE2.trans hx.toExt)) ho) ?_
  repeat refine qw_tame hE rfl (fun _ => rfl) ?_
  refine qw_rel [] (fun W _ v => ∃ b, v = ptrV b ∧ w2.heap.size ≤ b ∧ ∃ x, Blk W b [x]) rfl ?_ ?_ ?_
  · rintro W W' xs v _ hx ⟨b, rfl, h1, x, h2⟩
    obtain ⟨y, h3, _⟩ := hx.cell b x h1 h2
    exact ⟨b, rfl, h1, y, h3⟩
  · intro vs X hx _
    refine ok_new.mono ?_
    rintro v X' ⟨b, rfl, q1, q2, q3⟩
    have := hx.size
    exact ⟨NewCell.ext q3, b, rfl, by omega, _, q1⟩
  refine qw_rel [9] (fun W xs _ => ∃ b, xs = [ptrV b] ∧ w2.heap.size ≤ b ∧ Blk W b [u64V (o.getD 0)]) rfl ?_ ?_ ?_
  · rintro W W' xs v _ hx ⟨b, rfl, h1, h2⟩
    obtain ⟨y, h3, h4⟩ := hx.cell b _ h1 h2
    rw [h4 rfl] at h3
    exact ⟨b, rfl, h1, h3⟩
  · intro vs X hx hd
    obtain ⟨⟨b, hvs, hb, x, hBx⟩, _⟩ := hd
    refine (ok_store (B := b) (o := 0) (v := u64V (o.getD 0)) (by show some (vs 9) = _; rw [hvs]) rfl hBx rfl (by show 0 + 1 ≤ 1; omega) rfl).mono ?_
    rintro _ X' ⟨q1, q2, q3⟩
    have q3' : Blk X' b [u64V (o.getD 0)] := q3
    exact ⟨NewCell.store hb q1 q3', b, by simp [hvs], hb, q3'⟩
  refine qw_end fun vs w3 hw3 hf => ?_
  obtain ⟨⟨b6, hv6, hb6, hB6⟩, _⟩ := hf
  have hv6' : vs 9 = ptrV b6 := by simpa using hv6
  have hu3 : Ext w2 w3 := hw3.toExt
  have hE3 := hE2.trans hu3
  clear hw3
  refine xen [(0, ptrV p), (22, .bool o.isSome), (6, ptrV b6)] ⟨rfl, rfl, by show some (vs 9) = _; rw [hv6'], trivial⟩ ?_
  refine xr 3 rfl ?_
  refine exec_cond rfl (fun hq => ?_) (fun hq => ?_)
  · refine xr 2 rfl ?_
    refine xre hc [_, _] ⟨rfl, rfl, trivial⟩ ⟨hE3, .inl ⟨rfl, fun hm => ?_⟩⟩
    obtain ⟨i, hi⟩ := List.getElem?_of_mem hm
    rw [(h4 hh i).2 hi] at ho
    subst ho; cases hq
  simp only [Bool.not_eq_false'] at hq
  obtain ⟨x, rfl⟩ := Option.isSome_iff_exists.1 hq
  have hLx := (h4 hh x).1 ho
  have hxn : x < s.L.length := (List.getElem?_eq_some_iff.1 hLx).1
  have hB6x : Blk w3 b6 [u64V x] := hB6
  have hn63 : s.L.length < 2 ^ 63 := by omega
  have hlenT := treesT_len parH (L := lv s.L) hn63
  refine xr 4 rfl ?_
  refine exec_load1 (b := p) (o := 0 + 1) rfl rfl ((h1.upd hE3).cell rfl) ?_
  refine xr 1 rfl ?_
  have hbT : ∀ t ∈ treesT parH (lv s.L) s.L.length, t.2.1 + 2 ^ t.2.2 < 2 ^ 63 ∧ t.2.2 < 63 := by
    intro t htm
    obtain ⟨k, rfl, q1, q2⟩ := treesT_mem parH hlen htm
    exact ⟨by show firstN _ k + 2 ^ k < _; omega, by show k < 63; omega⟩
  refine xca rfl rfl (indexT_ok A.toForM (h2.ext hE3).own.sl (by omega) A.h_where1.enters (cs := [ptrV b6]) (q := inT x) (fun W u t hu ht => where1_ok A.toForM (by omega) (hB6x.upd hu) u t (hbT t ht))) ?_
  rintro v4 w4 ⟨hu4, hcase⟩
  obtain ⟨ft, hft, hftx⟩ := find_tree parH (L := lv s.L) hn63 hxn
  rcases hcase with ⟨_, hno⟩ | ⟨i, t, rfl, hti, hfind⟩
  · rw [hno ft hft] at hftx; cases hftx
  have htm := List.mem_of_getElem? hti
  have hin : inT x t = true := List.find?_some hfind
  obtain ⟨r, hr⟩ := in_tree parH htm hin (by rw [lv_eq, lvG_some.2 hLx]; rfl)
  have hil := (List.getElem?_eq_some_iff.1 hti).1
  obtain ⟨us, hR, hO⟩ := h2.own
  rcases hO with ⟨_, h0, _⟩ | ⟨bt, cap, rest, rfl, hBt, ho1, ho2, ho3⟩
  · omega
  obtain ⟨u, hu⟩ : ∃ u, us[i]? = some u := ⟨_, List.getElem?_eq_getElem (by rw [hR.len]; exact hil)⟩
  have hOu := hR.at' i u t hu hti
  obtain ⟨g0, g1, g2⟩ := cellsT_get us _ i u t hu hti
  have hM3 : Mem w bt (0 + i * 3) [u, u64V t.2.1, intV' t.2.2] := hBt.memPre.sub (i * 3) (us := [u, u64V t.2.1, intV' t.2.2]) (fun k x hk => by
    match k, hk with
    | 0, hk => cases hk; exact g0
    | 1, hk => cases hk; exact g1
    | 2, hk => cases hk; exact g2)
  have hE4 := hE3.trans hu4
  obtain ⟨tr, tf, th⟩ := t
  simp only at hr
  subst hr
  obtain ⟨hb1, hb2⟩ := hbT _ htm
  simp only at hb1 hb2 hOu hM3
  have hgoal : whereT (treesT parH (lv s.L) s.L.length) s.L.length x = whereN (rowsN s.L.length) r ((rootN s.L.length th).getD 0) x := by rw [whereT, hfind]
  have hR40 := rowsN_40 hlen
  have hp41 := pow41 hR40
  have hroot : (rootN s.L.length th).getD 0 < 2 ^ 41 := by
    cases hq : rootN s.L.length th with
    | none => show 0 < _; omega
    | some q => have := rootN_lt hq; show q < _; omega
  refine xr 1 rfl ?_
  refine xen [(0, ptrV p), (6, ptrV b6), (8, intV' i)] ⟨rfl, rfl, rfl, trivial⟩ ?_
  refine exec_dwr rfl rfl rfl ?_
  repeat (first | refine wtm rfl rfl rfl ?_ | refine wgt rfl rfl rfl rfl ?_ | refine wgs rfl rfl ?_)
  refine ws_keep (.slice (some ⟨bt, 0, none⟩) (treesT parH (lv s.L) s.L.length).length cap) rfl (fun X hx => ok_load1 (b := p) (o := 0 + 1) rfl ((h1.upd (hE4.trans hx)).cell rfl)) ?_
  repeat (first | refine wtm rfl rfl rfl ?_ | refine wgt rfl rfl rfl rfl ?_ | refine wgs rfl rfl ?_)
  refine ws_keep _ rfl (fun X hx => ok_iaddr (N := 3) (b := bt) (o := 0) rfl rfl i rfl hil) ?_
  refine ws_keep (.agg #[u, u64V tf, intV' th]) rfl (fun X hx => ok_loadN (b := bt) (o := 0 + i * 3) (vs := [u, u64V tf, intV' th]) rfl (hM3.upd (hE4.trans hx) (by simp)) rfl) ?_
  refine ws_ext (u64V ((rootN s.L.length th).getD 0)) rfl (fun X hx => ok_call rfl (root'_ok A.toForM (hF.ext (hE4.trans hx)) u tf th (by omega))) ?_
  repeat (first | refine wtm rfl rfl rfl ?_ | refine wgt rfl rfl rfl rfl ?_ | refine wgs rfl rfl ?_)
  refine ws_keep (.slice (some ⟨bt, 0, none⟩) (treesT parH (lv s.L) s.L.length).length cap) rfl (fun X hx => ok_load1 (b := p) (o := 0 + 1) rfl ((h1.upd (hE4.trans hx)).cell rfl)) ?_
  repeat (first | refine wtm rfl rfl rfl ?_ | refine wgt rfl rfl rfl rfl ?_ | refine wgs rfl rfl ?_)
  refine ws_keep _ rfl (fun X hx => ok_iaddr (N := 3) (b := bt) (o := 0) rfl rfl i rfl hil) ?_
  repeat (first | refine wtm rfl rfl rfl ?_ | refine wgt rfl rfl rfl rfl ?_ | refine wgs rfl rfl ?_)
  refine ws_keep u rfl (fun X hx => ok_load1 (b := bt) (o := 0 + i * 3 + 0) rfl ((hM3.upd (hE4.trans hx) (by simp)) 0 u rfl)) ?_
  repeat (first | refine wtm rfl rfl rfl ?_ | refine wgt rfl rfl rfl rfl ?_ | refine wgs rfl rfl ?_)
  refine ws_fin fun w5 hw5 => ?_
  refine xr 2 rfl ?_
  refine xen [(0, ptrV p), (6, ptrV b6), (9, u64V ((rootN s.L.length th).getD 0)), (10, u)] ⟨rfl, rfl, rfl, rfl, trivial⟩ ?_
  have hE5 := hE4.trans hw5
  have hB65 : Blk w5 b6 [u64V x] := (hB6x.upd hu4).upd hw5
  have hO5 : TrAt w5 u r := TrAt.ext (show TrAt w u r from hOu) hE5
  generalize hgp : (rootN s.L.length th).getD 0 = p0 at *
  refine xlo (S := Tr Hash × Value × Nat) (fun st W => TrAt W st.2.1 st.1 ∧ st.2.2 < 2 ^ 42 ∧ whereN (rowsN s.L.length) st.1 st.2.2 x = whereN (rowsN s.L.length) r p0 x ∧ Ext w W ∧ Ext w5 W)
    (fun st => [(0, ptrV p), (6, ptrV b6), (9, u64V st.2.2), (10, st.2.1)]) (fun st => st.1.high) (r, u, p0)
    ⟨hO5, by show p0 < 2 ^ 42; omega, rfl, hE5, Upd.refl _ _⟩ ⟨rfl, rfl, rfl, rfl, trivial⟩ ?_
  rintro ⟨tr, uv, pp⟩ W ⟨iT, iP, iN, iE, iE5⟩
  simp only at iT iP iN
  cases tr with
  | leaf h0 =>
    obtain ⟨b, rfl, hB⟩ := iT
    refine xr 3 rfl ?_
    refine exec_load1 (b := b) (o := 0 + 32) rfl rfl (node_cell0 hB).2.1 ?_
    refine xju (ok_ne_nil A.h_TNode rfl rfl) rfl ?_
    refine xr 6 rfl ?_
    refine xre hc [_, _] ⟨rfl, rfl, trivial⟩ ⟨iE, .inr ⟨x, ?_, hLx⟩⟩
    rw [hgoal, ← iN, whereN]; rfl
  | pair h0 l rr mid =>
    obtain ⟨b, vl, vr, rfl, hB, hm62, hl, hrr⟩ := iT
    have hl0 := hl
    obtain ⟨bl, _, _, _, rfl, _⟩ := TrAt.node hl0
    refine xr 3 rfl ?_
    refine exec_load1 (b := b) (o := 0 + 32) rfl rfl (node_cell0 hB).2.1 ?_
    refine xju (ok_ne_nil A.h_TNode rfl rfl) rfl ?_
    refine xr 5 rfl ?_
    refine xca rfl rfl (rows'_ok A.toForM (hF.ext iE)) ?_
    rintro _ W1 ⟨rfl, hw1⟩
    refine xca rfl rfl (left_ok A.nf.toPosF pp (rowsN s.L.length) (by omega) (by omega)) ?_
    rintro _ W2 ⟨rfl, hw2⟩
    rw [optV_eq]
    refine xr 4 rfl ?_
    have hq41 : (leftN pp (rowsN s.L.length)).getD 0 < 2 ^ 41 := Nat.lt_of_lt_of_le leftN_lt hp41
    have hWW2 : Ext W W2 := hw1.trans hw2
    refine xen [(0, ptrV p), (6, ptrV b6), (9, u64V ((leftN pp (rowsN s.L.length)).getD 0)), (10, ptrV b)] ⟨rfl, rfl, rfl, rfl, trivial⟩ ?_
    refine exec_dwr rfl rfl rfl ?_
    refine ws_keep (u64V x) rfl (fun X hx => ok_load1 (b := b6) (o := 0) rfl (((hB65.upd iE5).upd (hWW2.trans hx)).cell rfl)) ?_
    repeat (first | refine wtm rfl rfl rfl ?_ | refine wgt rfl rfl rfl rfl ?_ | refine wgs rfl rfl ?_)
    refine ws_keep (u64V mid) rfl (fun X hx => ok_load1 (b := b) (o := 0 + 34) rfl (node_cell0 (hB.upd (hWW2.trans hx))).2.2.2) ?_
    refine ws_fin fun W3 hw3 => ?_
    have hW3 := hWW2.trans hw3
    have key : whereN (rowsN s.L.length) (.pair h0 l rr mid) pp x = if x < mid then whereN (rowsN s.L.length) l ((leftN pp (rowsN s.L.length)).getD 0) x else whereN (rowsN s.L.length) rr ((leftN pp (rowsN s.L.length)).getD 0 + 1) x := by rw [whereN]
    by_cases hxm : x < mid
    · refine xpu (pv_lssI (a := x) (b := mid) (q := true) rfl rfl (by simpa using hxm)) rfl ?_
      refine xr 4 rfl ?_
      refine exec_load1 (b := b) (o := 0 + 32) rfl rfl (node_cell0 (hB.upd hW3)).2.1 ?_
      refine xr 4 rfl ?_
      refine xag (l, ptrV bl, (leftN pp (rowsN s.L.length)).getD 0) ⟨TrAt.ext hl hW3, by show (leftN pp (rowsN s.L.length)).getD 0 < 2 ^ 42; omega, ?_, iE.trans hW3, iE5.trans hW3⟩ (by show l.high < l.high + rr.high + 1; omega) ⟨rfl, rfl, rfl, rfl, trivial⟩
      rw [key, if_pos hxm] at iN
      exact iN
    · refine xpu (pv_lssI (a := x) (b := mid) (q := false) rfl rfl (by simpa using hxm)) rfl ?_
      refine xr 4 rfl ?_
      refine exec_load1 (b := b) (o := 0 + 33) rfl rfl (node_cell0 (hB.upd hW3)).2.2.1 ?_
      refine xr 2 rfl ?_
      refine xpu (pv_addU (a := (leftN pp (rowsN s.L.length)).getD 0) (b := 1) rfl rfl (by omega)) rfl ?_
      refine xr 4 rfl ?_
      refine xag (rr, vr, (leftN pp (rowsN s.L.length)).getD 0 + 1) ⟨TrAt.ext hrr hW3, by show (leftN pp (rowsN s.L.length)).getD 0 + 1 < 2 ^ 42; omega, ?_, iE.trans hW3, iE5.trans hW3⟩ (by show rr.high < l.high + rr.high + 1; omega) ⟨rfl, rfl, rfl, rfl, trivial⟩
      rw [key, if_neg hxm] at iN
      exact iN
end
end Go.Sp

namespace Go.Sp
def rootC : Option Hash → List Value
  | none => .bool false :: List.replicate 32 (.int .u8 0)
  | some h => .bool true :: hC h
theorem rootC_len (o : Option Hash) : (rootC o).length = 33 := by cases o <;> simp [rootC, hC_length]
theorem rootC_ok (o : Option Hash) : (rootC o).all cellValue = true := by
  cases o with
  | none => rfl
  | some h => simp [rootC, hC_cell]; rfl
def rootsC (l : List (Option Hash)) : List Value := l.flatMap rootC
theorem root_fill (h : Hash) : fillL (rleL [(1, .bool false), (32, .int .u8 0)]) [(0, 1, .bool true), (1, 32, hV h)] = some (rootC (some h)) := by
  have e0 : rleL [(1, Value.bool false), (32, .int .u8 0)] = [.bool false] ++ List.replicate 32 (.int .u8 0) := rfl
  have e1 : cellL (hV h) = hC h := by simp [hV, cellL]
  rw [e0, fillL_cons (size := 1) rfl (by simp)]
  rw [show splice ([.bool false] ++ List.replicate 32 (.int .u8 0)) 0 (cellL (.bool true)) = [.bool true] ++ List.replicate 32 (.int .u8 0) from splice_head rfl]
  rw [fillL_cons (by rw [e1, hC_length]) (by simp), e1]
  rw [show splice ([.bool true] ++ List.replicate 32 (.int .u8 0)) 1 (hC h) = [.bool true] ++ hC h from ?_]
  · rfl
  · rw [splice]
    simp [hC_length]
theorem root_fill1 (o : Option Hash) : fillL (rleL [(1, .bool false), (32, .int .u8 0)]) [(0, 33, .agg (rootC o).toArray)] = some (rootC o) := by
  have e1 : cellL (.agg (rootC o).toArray) = rootC o := by simp [cellL]
  have hl : (rleL [(1, Value.bool false), (32, .int .u8 0)]).length = 33 := rfl
  rw [fillL_cons (by rw [e1, rootC_len]) (by rw [hl]; omega), e1, splice_all (by rw [rootC_len, hl])]
  rfl
theorem OwnC.slice {w : World} {v : Value} {N len : Nat} {cs : List Value} (h : OwnC w v N len cs) : ∃ a l c, v = .slice a l c := by
  rcases h with ⟨rfl, _⟩ | ⟨b, cap, rest, rfl, _⟩
  · exact ⟨_, _, _, rfl⟩
  · exact ⟨_, _, _, rfl⟩
def rootsT (ts : List (TT Hash)) : List (Option Hash) := ts.map fun t => t.1.map Tr.hash
theorem rootsT_next {ts : List (TT Hash)} {i : Nat} {t : TT Hash} (h : ts[i]? = some t) : rootsT (ts.take (i + 1)) = rootsT (ts.take i) ++ [t.1.map Tr.hash] := by
  rw [List.take_add_one, h]; simp [rootsT]
/-- the functions of forest, on -/
structure ForO (P : Program) extends ForN P where
  stump : Nat
  TStu : Nat
  TSt1 : Nat
  TSt2 : Nat
  h_stump : Has P stump (b_Pforest_Forest_Stump is' TStu TSt1 TSt2 TNode)
section
variable {P : Program} {f : Nat} {w : World}
set_option maxHeartbeats 800000 in
theorem stump_ok (A : ForO P) {p m : Nat} {s : Fo} (h : FAt w p m s) : Ret P A.stump [ptrV p] w fun v w' => ∃ rv, v = .agg #[u64V s.L.length, rv] ∧ Ext w w' ∧
    OwnC w' rv 33 (rootsT (treesT parH (lv s.L) s.L.length)).length (rootsC (rootsT (treesT parH (lv s.L) s.L.length))) ∧ ∀ b ∈ blkOf rv, w.heap.size ≤ b := by
  have hF := h
  have hlen := h.len
  obtain ⟨⟨tv, wl, h1, h2, h3, h4⟩, _⟩ := h
  refine Ret.of_exec A.h_stump (Nat.le_of_ble_eq_true rfl) fun c hc => ?_
  dsimp only [b_Pforest_Forest_Stump, argEnv, ym, yo, yg, ys, yt, yd, ye]
  refine exec_new rfl ?_
  intro b2 w1 hb2 hs1 hu1 hB2
  refine xr 1 rfl ?_
  refine xca rfl rfl (is_ok A.toForJ (hF.ext hu1)) ?_
  rintro _ w2 ⟨rfl, hu2⟩
  refine xr 6 rfl ?_
  have hE2 : Ext w w2 := hu1.trans hu2
  have hB2' : Blk w2 b2 [u64V 0, .slice none 0 0] := hB2.upd hu2
  refine exec_load1 (b := p) (o := 0 + 0) rfl rfl ((h1.upd hE2).cell rfl) ?_
  refine xju (ok_mkL (l := [(0, 1, u64V s.L.length)]) (cs := [u64V s.L.length, .slice none 0 0]) rfl rfl) rfl ?_
  refine exec_new_store (v := .agg #[u64V s.L.length, .slice none 0 0]) rfl rfl rfl rfl rfl rfl ?_
  intro b3 w3 hb3 hs3 hu3 hB3
  have hB3' : Blk w3 b3 [u64V s.L.length, .slice none 0 0] := hB3
  have hE3 := hE2.trans hu3
  have z3 := hE3.size
  have z12 := hu2.size
  refine xr 3 rfl ?_
  refine exec_load1 (b := p) (o := 0 + 1) rfl rfl ((h1.upd hE3).cell rfl) ?_
  have hlenT := treesT_len parH (L := lv s.L) (n := s.L.length) (by omega)
  generalize hts : treesT parH (lv s.L) s.L.length = ts at *
  have h2' := h2.own
  obtain ⟨us, hR, hO⟩ := h2'
  refine xpu (hO.sl.lenS rfl) rfl ?_
  refine xr 2 rfl ?_
  refine xen [(0, ptrV p), (2, ptrV b2), (3, ptrV b3), (19, tv), (20, intV' ts.length), (21, intV' 0)] ⟨rfl, rfl, rfl, rfl, rfl, rfl, trivial⟩ ?_
  refine xlo (S := Nat × Value) (fun st W => st.1 ≤ ts.length ∧ Blk W b3 [u64V s.L.length, st.2] ∧ OwnC W st.2 33 st.1 (rootsC (rootsT (ts.take st.1))) ∧ Upd [b3] w3 W ∧ ∀ b ∈ blkOf st.2, w3.heap.size ≤ b)
    (fun st => [(0, ptrV p), (2, ptrV b2), (3, ptrV b3), (19, tv), (20, intV' ts.length), (21, intV' st.1)]) (fun st => ts.length - st.1) (0, .slice none 0 0)
    ⟨Nat.zero_le _, hB3', .inl ⟨rfl, rfl, rfl⟩, Upd.refl _ _, by simp [blkOf]⟩ ⟨rfl, rfl, rfl, rfl, rfl, rfl, trivial⟩ ?_
  rintro ⟨i, rv⟩ W ⟨i1, iB, iO, iU, iF⟩
  simp only at i1 iB iO iF
  have hwW : Ext w W := hE3.trans iU (fun b hb => .inr (by simp at hb; omega))
  skip
  by_cases hi : i < ts.length
  · refine xpu (pv_lssI (a := i) (b := ts.length) (q := true) rfl rfl (by simpa using hi)) rfl ?_
    refine xr 3 rfl ?_
    obtain ⟨t, hti⟩ : ∃ t, ts[i]? = some t := ⟨_, List.getElem?_eq_getElem hi⟩
    obtain ⟨u, hu⟩ : ∃ u, us[i]? = some u := ⟨_, List.getElem?_eq_getElem (by rw [hR.len]; omega)⟩
    obtain ⟨g0, g1, g2⟩ := cellsT_get us ts i u t hu hti
    obtain ⟨bt, ot, cap, hv, hmt, _⟩ := hO.sl.at (by omega)
    have hOu := hR.at' i u t hu hti
    obtain ⟨pu, rfl⟩ := otr_ptr hOu
    refine xju (ok_iaddr (N := 3) (b := bt) (o := ot) (len := ts.length) (cap := cap) (by rw [← hv]; rfl) rfl i rfl hi) rfl ?_
    have hM3 : Mem w bt (ot + i * 3) [.pointer pu, u64V t.2.1, intV' t.2.2] := hmt.sub (i * 3) (us := [.pointer pu, u64V t.2.1, intV' t.2.2]) (fun k x hk => by
      match k, hk with
      | 0, hk => cases hk; exact g0
      | 1, hk => cases hk; exact g1
      | 2, hk => cases hk; exact g2)
    refine exec_loadN (b := bt) (o := ot + i * 3) (vs := [.pointer pu, u64V t.2.1, intV' t.2.2]) rfl rfl (hM3.upd hwW (by simp)) rfl ?_
    refine exec_new_store (v := .agg #[.pointer pu, u64V t.2.1, intV' t.2.2]) rfl rfl rfl rfl rfl rfl ?_
    intro b5 W1 hb5 hs5 hw1 hB5
    have hB5' : Blk W1 b5 [.pointer pu, u64V t.2.1, intV' t.2.2] := hB5
    refine exec_new rfl ?_
    intro b6 W2 hb6 hs6 hw2 hB6
    have hB6' : Blk W2 b6 (rootC none) := hB6
    have hWW2 : Ext W W2 := hw1.trans hw2
    refine xr 1 rfl ?_
    refine exec_load1 (b := b5) (o := 0 + 0) (v := .pointer pu) rfl rfl ((hB5'.upd hw2).cell rfl) ?_
    refine xju (ok_ne_nil A.h_TNode rfl rfl) rfl ?_
    refine exec_cond_join (S := Unit) (fun _ X => Blk X b6 (rootC (t.1.map Tr.hash)) ∧ Ext W X) (fun _ => [(0, ptrV p), (2, ptrV b2), (3, ptrV b3), (6, ptrV b6), (19, tv), (20, intV' ts.length), (21, intV' i)]) rfl (fun hq => ?_) (fun hq => ?_) ?_
    · cases pu with
      | none => cases hq
      | some q =>
        cases hd : t.1 with
        | none => rw [hd] at hOu; cases hOu
        | some r =>
          rw [hd] at hOu
          obtain ⟨bn, _, _, _, he, hBn⟩ := TrAt.node hOu
          cases he
          refine xr 1 rfl ?_
          refine exec_load1 (b := b5) (o := 0 + 0) (v := ptrV bn) rfl rfl ((hB5'.upd hw2).cell rfl) ?_
          refine xr 2 rfl ?_
          refine exec_loadN (b := bn) (o := 0 + 0) (vs := hC r.hash) rfl rfl (node_cell0 (hBn.upd (hwW.trans hWW2))).1 (hC_length _) ?_
          refine xju (ok_mkL (l := [(0, 1, .bool true), (1, 32, hV r.hash)]) (cs := rootC (some r.hash)) rfl (root_fill _)) rfl ?_
          refine exec_store (b := b6) (o := 0) (v := .agg (rootC (some r.hash)).toArray) rfl rfl hB6' (by simp [Value.cells, rootC, hC_length]) (by simp [rootC]) (by have := rootC_ok (some r.hash); simpa [Value.cells] using this) ?_
          intro W3 hw3 _ hB63
          have zW2 := hWW2.size
          refine exec_meet () ⟨?_, hWW2.trans hw3 (fun b hb => .inr (by simp at hb; omega))⟩ ⟨rfl, rfl, rfl, rfl, rfl, rfl, rfl, trivial⟩
          rw [splice_all (by simp [Value.cells, rootC, hC_length])] at hB63
          exact hB63
    · refine exec_meet () ⟨?_, hWW2⟩ ⟨rfl, rfl, rfl, rfl, rfl, rfl, rfl, trivial⟩
      cases pu with
      | some q => cases hq
      | none =>
        cases hd : t.1 with
        | none => exact hB6'
        | some r =>
          rw [hd] at hOu
          obtain ⟨_, _, _, _, he, _⟩ := TrAt.node hOu
          cases he
    · rintro _ X ⟨hBX, hWX⟩
      refine xr 1 rfl ?_
      obtain ⟨ra, rl, rc, rfl⟩ := iO.slice
      have iBX := iB.upd hWX
      refine exec_load1 (b := b3) (o := 0 + 1) rfl rfl (iBX.cell rfl) ?_
      refine exec_loadN (b := b6) (o := 0) rfl rfl hBX.memAll (rootC_len _) ?_
      refine exec_litL (N := 33) (cs := rootC (t.1.map Tr.hash)) (l := [(0, 33, .agg (rootC (t.1.map Tr.hash)).toArray)]) rfl (root_fill1 _) (by rw [rootC_len]) rfl ?_
      intro bl X1 hbl hsl hx1 hOl
      have iOX := (iO.upd hWX (by simp)).upd hx1 (by simp)
      refine exec_ok (ok_append (N := 33) rfl rfl iOX hOl.sl rfl (by decide) (by omega) (rootC_ok _)) rfl ?_
      rintro v2 X2 ⟨hO2, hx2, hf2, _⟩
      obtain ⟨va, vl, vc, rfl⟩ := hO2.slice
      refine xr 1 rfl ?_
      have zX := hWX.size
      have zX1 := hx1.size
      have zU := iU.size
      have hb3n : b3 ∉ blkOf (.slice ra rl rc) := fun hm => by have := iF b3 hm; omega
      have iB2 := (iBX.upd hx1).upd hx2 hb3n
      refine exec_store (b := b3) (o := 0 + 1) (v := .slice va vl vc) rfl rfl iB2 rfl (by simp) rfl ?_
      intro X3 hx3 _ hB3n
      have hB3n' : Blk X3 b3 [u64V s.L.length, .slice va vl vc] := hB3n
      clear hB3n
      refine xr 2 rfl ?_
      refine xpu (pv_addI (a := i) (b := 1) rfl rfl (by omega)) rfl ?_
      refine xr 1 rfl ?_
      have hfr : ∀ b ∈ blkOf (.slice va vl vc), w3.heap.size ≤ b := fun b hb => by
        rcases hf2 b hb with h | h
        · exact iF b h
        · omega
      refine xag (i + 1, .slice va vl vc) ⟨hi, hB3n', ?_, ?_, hfr⟩ (by show ts.length - (i + 1) < ts.length - i; omega) ⟨rfl, rfl, rfl, rfl, rfl, rfl, trivial⟩
      · rw [rootsT_next hti, rootsC, List.flatMap_append]
        refine OwnC.upd ?_ hx3 (fun b hb hm => by have := hfr b hb; simp at hm; omega)
        simpa [rootsC] using hO2
      · exact (((iU.trans hWX).trans hx1).trans hx2 (fun b hb => .inr (iF b hb))).trans hx3
  · refine xpu (pv_lssI (a := i) (b := ts.length) (q := false) rfl rfl (by simpa using hi)) rfl ?_
    have : i = ts.length := by omega
    subst this
    rw [List.take_length] at iO
    obtain ⟨ra, rl, rc, rfl⟩ := iO.slice
    refine xr 3 rfl ?_
    refine exec_loadN (b := b3) (o := 0) (vs := [u64V s.L.length, .slice ra rl rc]) rfl rfl iB.memAll rfl ?_
    refine exec_store (b := b2) (o := 0) (v := .agg #[u64V s.L.length, .slice ra rl rc]) rfl rfl ((hB2'.upd hu3).upd iU (by simp; omega)) rfl (by simp) rfl ?_
    intro X hx _ hBX
    have hBX' : Blk X b2 [u64V s.L.length, .slice ra rl rc] := hBX
    refine xre hc [.agg #[u64V s.L.length, .slice ra rl rc]] ⟨⟨b2, 0, _, rfl, hBX'.memAll, rfl, rfl⟩, trivial⟩ ⟨_, rfl, hwW.trans hx (fun b hb => .inr (by simp at hb; omega)), ?_, fun b hb => by have := iF b hb; omega⟩
    have e1 : (rootsT ts).length = ts.length := by simp [rootsT]
    rw [e1]
    exact iO.upd hx (fun b hb hm => by have := iF b hb; simp at hm; omega)
end
end Go.Sp

namespace Go.Sp
section
variable {P : Program} {n : Nat} {c : Ctx} {D : List Deferred} {is : List Ins} {k : Kont} {e : Env} {w : World}
/-- a range whose variable lives in memory, over what comes in no known order -/
theorem exec_rangeGn {α S : Type} {f : Operand} {gf : FuncId} {lb : List Value} {ps : Array Nat} {d p : Nat} {T : TypeId} {z : Array Value} {N : Nat} {body : List Ins} (hf : e.ev f = some (.func (.func gf) #[] lb.toArray)) (hen : Enters P gf) (hrd : c.rd = none)
    (rds wrs : List Nat) (encs : α → List Value) (Part : List α → α → Prop) (Good : List α → Prop) (hseq : ∀ w1, Ext w w1 → SeqG P gf lb w1 rds wrs encs Part Good) (val : α → Value) (hval : ∀ x, (zipEnv ps.toList (encs x) e).get p = some (val x)) (hd' : Nat.blt d n = true) (hdp : p ≠ d)
    (hsz : ∀ x, (val x).cells.size = N) (hz : z.size = N) (hcv : ∀ x, (val x).cells.toList.all cellValue = true)
    (n0 : Nat) (ws : List Nat) (loc : S → List Nat) (J : List α → S → World → Prop) (Jx : Option Nat → S → World → Prop) (s0 : S)
    (hJ : ∀ i, Frames n0 loc (J i)) (hJx : ∀ cd, Frames n0 loc (Jx cd)) (h0 : J [] s0 w) (hn0 : n0 ≤ w.heap.size) (hl0 : ∀ b ∈ ws ++ loc s0, b < w.heap.size)
    (hwr : ∀ b ∈ wrs, b < w.heap.size ∧ n0 ≤ b ∧ b ∉ ws ∧ b ∉ loc s0) (hrds : ∀ b ∈ rds, b < w.heap.size ∧ b ∉ ws ∧ b ∉ loc s0)
    (hps : ∀ x, (encs x).length = ps.size) (hpn : ps.toList.all (fun p => Nat.blt p n) = true)
    (round : ∀ l c' pre s W x bx, RoundCtx l (fun W' => ∃ s', J (pre ++ [x]) s' W' ∧ Upd (ws ++ loc s) W W' ∧ (∀ b ∈ loc s', b ∈ loc s ∨ W.heap.size ≤ b) ∧ (∀ b ∈ loc s', b < W'.heap.size))
        (fun cd W' => ∃ s', Jx cd s' W' ∧ Upd (ws ++ loc s) W W' ∧ (∀ b ∈ loc s', b ∈ loc s ∨ W.heap.size ≤ b) ∧ (∀ b ∈ loc s', b < W'.heap.size)) c' →
      J pre s W → Part pre x → (∀ b ∈ ws ++ loc s, b < W.heap.size) → n0 ≤ bx → bx ∉ ws ++ loc s → Blk W bx (val x).cells.toList → Exec P n c' [] body .done ((d, .pointer (some ⟨bx, 0, none⟩)) :: zipEnv ps.toList (encs x) e) W)
    (done : ∀ D0 xs s W, w.heap.size ≤ D0 → Good xs → J xs s W → W.heap[D0]? = some (.deferred (some [])) → D0 ∉ loc s → Exec P n c (markOf D0 :: D) is k e W)
    (stop : ∀ cd D0 s W, w.heap.size ≤ D0 → Jx cd s W → W.heap[D0]? = some (.deferred (some [])) → D0 ∉ loc s → Exec P n c (markOf D0 :: D) (jumpIns cd ++ is) k e W) :
    Exec P n c D (.rangeF f ps [.op none (some d) (.new T z), .op none none (.store N (.tmp d) (.tmp p))] body :: is) k e w := by
  refine exec_rangeF_core hf hen hrd rds wrs encs Part Good hseq n0 ws loc J Jx s0 hJ hJx h0 hn0 hl0 hwr hrds hps (fun p hp => by simpa using List.all_eq_true.1 hpn p hp)
    (fun x e1 w1 w2 => ∃ b, e1 = (d, .pointer (some ⟨b, 0, none⟩)) :: zipEnv ps.toList (encs x) e ∧ b = w1.heap.size ∧ Blk w2 b (val x).cells.toList) (fun x => asg_of_exec fun c w => ?_) ?_ done stop
  · refine exec_new_store (v := val x) (hval x) hd' (by cases h : Nat.beq p d with | false => simp [h] | true => exact absurd (Nat.eq_of_beq_eq_true h) hdp) (hsz x) hz (hcv x) ?_
    intro b w' hb hs hu hB
    exact exec_mid (w0 := w) (Mid := fun e1 w1 w2 => ∃ b, e1 = (d, .pointer (some ⟨b, 0, none⟩)) :: zipEnv ps.toList (encs x) e ∧ b = w1.heap.size ∧ Blk w2 b (val x).cells.toList) hu ⟨b, rfl, hb, hB⟩ rfl
  · intro l c' pre s W x e1 W1 W2 hl hl2 hc hi hpx hlw hm hu1 hu2 hs2 hns
    obtain ⟨b, rfl, hb, hB⟩ := hm
    have hi1 := hJ pre s _ _ [] hi hu1 (by simp)
    have hi2 := hJ pre s _ _ [l] hi1 hu2 (by intro b hb; simp at hb; subst hb; exact ⟨by omega, hns⟩)
    have hs1 := hu1.size
    refine round l c' pre s W2 x b ⟨hc.rd, ?_, ?_, ?_⟩ hi2 hpx (fun b hb => by have := hlw b hb; omega) (by omega) (fun h => by have := hlw b h; omega) (hB.upd hu2 (by simp; omega))
    · rintro a W' ⟨s', h1, h2, h3, h4⟩; exact hc.norm a W' ⟨s', h1, h2, fun b hb => (h3 b hb).imp (fun h => h) (fun h => by omega), h4⟩
    · rintro a W' ⟨s', h1, h2, h3, h4⟩; exact hc.ret a W' ⟨s', h1, h2, fun b hb => (h3 b hb).imp (fun h => h) (fun h => by omega), h4⟩
    · rintro a W' id ⟨s', h1, h2, h3, h4⟩; exact hc.exit a W' id ⟨s', h1, h2, fun b hb => (h3 b hb).imp (fun h => h) (fun h => by omega), h4⟩
end
theorem hash_fill (q : Hash) : fillL (rleL [(32, .int .u8 0)]) [(0, 32, hV q)] = some (hC q) := by
  have e1 : cellL (hV q) = hC q := by simp [hV, cellL]
  have hl : (rleL [(32, Value.int .u8 0)]).length = 32 := rfl
  rw [fillL_cons (by rw [e1, hC_length]) (by rw [hl]; omega), e1, splice_all (by rw [hC_length, hl])]
  rfl
section
variable {P : Program} {f : Nat} {w : World}
/-- maps.Keys at map[Hash]uint64 -/
theorem keysH1_ok {TH : Nat} (h : Has P f (b_maps_Keys_map_api_Hashuint64_api_Hash_uint64_1 TH)) {bs r : Nat} {l : List (Hash × Nat)} (hB : Blk w bs [.map (some r)]) (hm : MapAt w r hV u64V l) :
    SeqG P f [ptrV' bs] w [bs, r] [] (fun q => [hV q]) (fun pre x => pre.length < (keys l).length) (fun xs => xs.Perm (keys l)) := by
  refine SeqG.of_ret fun S y n0 ws loc J Jx s0 hJ hJx h0 hn0 hl0 hwr hrd hrounds => ?_
  refine Ret.of_exec h (Nat.le_of_ble_eq_true rfl) fun c hc => ?_
  dsimp only [b_maps_Keys_map_api_Hashuint64_api_Hash_uint64_1, argEnv, ym, yo, yg, ys, yt, yd, ye]
  refine exec_load1 (b := bs) (o := 0) rfl rfl (hB.cell rfl) ?_
  refine exec_range rfl rfl hm ?_
  intro it w1 hit hs1 hu1 hI1
  have hnd := hm.nodup
  have hr0 := hrd r (by simp)
  refine xr 1 rfl ?_
  refine xlo (S := List Hash × List Hash × Option (Hash × Nat) × S) (fun s W => J s.1 s.2.2.2 W ∧ IterAt W it r hV u64V l s.2.1 s.2.2.1 ∧ (s.1 ++ s.2.1).Perm (keys l) ∧ r ∉ ws ++ loc s.2.2.2 ∧ it ∉ ws ++ loc s.2.2.2 ∧ n0 ≤ it ∧ (∀ b ∈ ws ++ loc s.2.2.2, b < W.heap.size))
    (fun s => [(0, .func (.yield y) #[] #[]), (5, ptrV' it)]) (fun s => s.2.1.length) ([], keys l, none, s0)
    ⟨hJ _ _ _ _ [] h0 hu1 (by simp), hI1, by simp, by simp [hr0], fun hx => ?_, by omega, fun b hb => ?_⟩ ⟨rfl, rfl, trivial⟩ ?_
  · have := hl0 _ hx; omega
  · have := hl0 _ hb; omega
  rintro ⟨pre, rem, last, s⟩ W ⟨hJi, hI, hp, hrn, hin, hni, hlw⟩
  simp only at hJi hI hp hrn hin hlw
  refine exec_next' rfl rfl hI (fun hrem => ?_) (fun a b w2 rem' ha hab hu2 hs2 hI2 hR => ?_)
  · refine xr 4 rfl ?_
    subst hrem
    exact exec_end hc [] trivial (.inl ⟨pre, s, by simpa using hp, hJi⟩)
  · refine xr 4 rfl ?_
    refine xju (ok_entry rfl hI2) rfl ?_
    refine xr 1 rfl ?_
    refine exec_new_store (v := hV a) rfl rfl rfl (hV_size a) rfl (by rw [hV_cells]; exact hC_cell _) ?_
    intro b3 w3 hb3 hs3 hu3' hB3
    rw [hV_cells] at hB3
    refine xr 1 rfl ?_
    refine exec_loadN (b := b3) (o := 0) (vs := hC a) rfl rfl hB3.memAll (hC_length _) ?_
    have hplen : pre.length < (keys l).length := by
      have := hp.length_eq
      have hpos : 0 < rem.length := List.length_pos_of_mem ha
      simp only [List.length_append] at this; omega
    have hJ2 := hJ pre s W w2 [it] hJi hu2 (fun b hb => by simp at hb; subst hb; exact ⟨hni, fun h => hin (List.mem_append_right _ h)⟩)
    have hJ3 := hJ pre s w2 w3 [] hJ2 hu3' (by simp)
    have hI3 := hI2.upd hu3' (by simp) (by simp)
    have hlw3 : ∀ b ∈ ws ++ loc s, b < w3.heap.size := fun b hb => by have := hlw b hb; omega
    refine exec_yield (l := y) (vs := [hV a]) rfl rfl rfl (hrounds pre s w3 a hJ3 hplen hlw3) ?_
    rintro go W1 ⟨s1, hgo, hu3, hfr, hlt⟩
    have z3 := hu3.size
    have hrn1 : r ∉ ws ++ loc s1 := by
      simp only [List.mem_append, not_or] at hrn ⊢
      refine ⟨hrn.1, fun hm' => ?_⟩
      rcases hfr _ hm' with h4 | h4
      · exact hrn.2 h4
      · have := hI3.map.lt; omega
    have hin1 : it ∉ ws ++ loc s1 := by
      simp only [List.mem_append, not_or] at hin ⊢
      refine ⟨hin.1, fun hm' => ?_⟩
      rcases hfr _ hm' with h4 | h4
      · exact hin.2 h4
      · have := hI3.lt; omega
    cases go with
    | false =>
      refine xr 2 rfl ?_
      exact xre hc [] trivial (.inr ⟨s1, hgo⟩)
    | true =>
      simp only [if_true] at hgo
      refine xr 5 rfl ?_
      refine xag (pre ++ [a], _, some (a, b), s1) ⟨hgo, hI3.upd hu3 hrn hin, hR.perm hp, hrn1, hin1, hni, fun b' hb' => ?_⟩ hR.lt ⟨rfl, rfl, trivial⟩
      rcases List.mem_append.1 hb' with h2 | h2
      · have := hlw b' (List.mem_append_left _ h2); omega
      · exact hlt b' h2
/-- slices.AppendSeq of hashes, onto nil -/
theorem appendSeqH_ok {T1 T2 gf : Nat} (h : Has P f (b_slices_AppendSeq_api_Hash_api_Hash T1 T2)) {lb : List Value} (hen : Enters P gf) {rds : List Nat} {Part : List Hash → Hash → Prop} {Good : List Hash → Prop}
    (hseq : ∀ w1, Ext w w1 → SeqG P gf lb w1 rds [] (fun q => [hV q]) Part Good) (hrds : ∀ b ∈ rds, b < w.heap.size) (hpart : ∀ pre x, Part pre x → pre.length < 2 ^ 40) :
    Ret P f [.slice none 0 0, .func (.func gf) #[] lb.toArray] w fun v w' => ∃ xs, Good xs ∧ OwnC w' v 32 xs.length (hs xs) ∧ Ext w w' ∧ ∀ b ∈ blkOf v, w.heap.size ≤ b := by
  refine Ret.of_exec h (Nat.le_of_ble_eq_true rfl) fun c hc => ?_
  dsimp only [b_slices_AppendSeq_api_Hash_api_Hash, argEnv, ym, yo, yg, ys, yt, yd, ye]
  refine exec_box rfl rfl ?_
  intro b2 w1 hb2 hs1 hu1 hB2
  refine xr 3 rfl ?_
  refine exec_rangeGn (S := Value) rfl hen hc.rd rds [] (fun q => [hV q]) Part Good (fun W hu => hseq W (hu1.trans hu)) hV (fun _ => rfl) rfl (by decide) (fun x => hV_size x) rfl (fun x => by rw [hV_cells]; exact hC_cell _)
    w.heap.size [] (fun v => b2 :: blkOf v)
    (fun pre v W => Blk W b2 [v] ∧ OwnC W v 32 pre.length (hs pre) ∧ Ext w W ∧ (∀ b ∈ blkOf v, w.heap.size ≤ b ∧ b ≠ b2))
    (fun _ _ _ => False) (.slice none 0 0) ?_ ?_ ?_ ?_ ?_ ?_ ?_ (fun _ => rfl) rfl ?_ ?_ ?_
  · intro pre v W W' l' ⟨h1, h2, h3, h4⟩ hu hb
    refine ⟨h1.upd hu ?_, h2.upd hu ?_, h3.trans hu (fun b hb' => .inr (hb b hb').1), h4⟩
    · intro hm; exact (hb _ hm).2 (by simp)
    · intro b hb1 hm; exact (hb _ hm).2 (by simp [hb1])
  · intro cd v W W' l' h; exact h.elim
  · exact ⟨hB2, .inl ⟨rfl, rfl, rfl⟩, hu1, by simp [blkOf]⟩
  · omega
  · intro b hb; simp [blkOf] at hb; omega
  · simp
  · intro b hb; have := hrds b hb; refine ⟨by omega, by simp, ?_⟩; simp [blkOf]; omega
  · rintro l c' pre v W q bx hc' ⟨h1, h2, h3, h4⟩ hpq hlw hnw hbxn hBx
    rw [hV_cells] at hBx
    have hlen := hpart pre q hpq
    refine xbk ?_
    refine exec_load1 (b := b2) (o := 0) rfl rfl (h1.cell rfl) ?_
    refine exec_loadN (b := bx) (o := 0) (vs := hC q) rfl rfl hBx.memAll (hC_length _) ?_
    refine exec_litL (N := 32) (cs := hC q) (l := [(0, 32, hV q)]) rfl (hash_fill q) (by rw [hC_length]) rfl ?_
    intro bl w7 hbl hs7 hu7 hO7
    refine exec_ok (ok_append (N := 32) rfl rfl (h2.upd hu7 (by simp)) hO7.sl rfl (by decide) (by omega) (hC_cell _)) rfl ?_
    rintro v2 w8 ⟨hO8, hu8, hf8, hl8⟩
    have n2 : b2 ∉ blkOf v := fun h => (h4 _ h).2 rfl
    have z7 := hu7.size
    have z8 := hu8.size
    have k2 := h1.lt
    have n2' : ∀ b ∈ blkOf v2, w.heap.size ≤ b ∧ b ≠ b2 := by
      intro b hb
      rcases hf8 b hb with h | h
      · exact h4 b h
      · exact ⟨by omega, by omega⟩
    have hcv : v2.cells.size = 1 ∧ v2.cells.toList.all cellValue = true ∧ splice [v] 0 v2.cells.toList = [v2] := by
      rcases hO8 with ⟨h, _⟩ | ⟨_, _, _, h, _⟩ <;> rw [h] <;> exact ⟨rfl, rfl, rfl⟩
    refine exec_store (b := b2) (o := 0) (v := v2) rfl rfl ((h1.upd hu7).upd hu8 n2) hcv.1 (by simp) hcv.2.1 ?_
    intro w9 hu9 hs9 hB9
    rw [hcv.2.2] at hB9
    have z9 := hu9.size
    refine xr 2 rfl ?_
    refine exec_round_end hc' ⟨v2, ⟨hB9, ?_, ?_, n2'⟩, ?_, ?_, ?_⟩
    · have := hO8.upd hu9 (fun b hb => by simp; exact (n2' b hb).2)
      rw [List.length_append, hs_append]
      simpa [hs] using this
    · exact ((h3.trans hu7).trans hu8 (fun b hb => .inr (h4 b hb).1)).trans hu9 (fun b hb => .inr (by simp at hb; omega))
    · exact ((hu7.mono (by simp)).trans hu8 (fun b hb => .inl (by simp [hb]))).trans hu9 (fun b hb => .inl (by simp at hb; simp [hb]))
    · intro b hb
      simp only [List.mem_cons] at hb ⊢
      rcases hb with h | h
      · exact .inl (.inl h)
      · rcases hf8 b h with h' | h'
        · exact .inl (.inr h')
        · exact .inr (by omega)
    · intro b hb
      simp only [List.mem_cons] at hb
      rcases hb with h | h
      · omega
      · have := hl8 b h; omega
  · rintro D0 xs v W hD hg ⟨h1, h2, h3, h4⟩ hsh hnl
    refine xr 2 rfl ?_
    refine exec_load1 (b := b2) (o := 0) rfl rfl (h1.cell rfl) ?_
    refine xr 1 rfl ?_
    refine exec_returnM hc [D0] rfl (by simp) (fun r hr => by simp at hr; subst hr; exact hsh) [v] fun W' hu' hs' => ?_
    refine ⟨⟨rfl, trivial⟩, xs, hg, h2.upd hu' (fun b hb hm => ?_), h3.trans hu' (fun b hb => .inr (by simp at hb; omega)), fun b hb => (h4 b hb).1⟩
    simp only [List.mem_singleton] at hm
    subst hm
    exact hnl (by simp [hb])
  · intro cd D0 v W _ h; exact h.elim
end
end Go.Sp

namespace Go.Sp
def cmpN (a b : Nat) : Int := if a < b then -1 else if b < a then 1 else 0
/-- what slices.SortFunc is to do at hashes -/
def SortHOK (P : Program) (f : FuncId) : Prop := ∀ (w : World) (v : Value) (l : List Hash) (g : FuncId) (cb : List Value) (p : Hash → Nat), OwnC w v 32 l.length (hs l) → l.length < 2 ^ 40 → Enters P g →
  (∀ W x y, Upd (blkOf v) w W → Ret P g (hV x :: hV y :: cb) W fun r w' => r = .int .i64 (cmpN (p x) (p y)) ∧ Ext W w') →
  Ret P f [v, .func (.func g) #[] cb.toArray] w fun _ w' => ∃ l', l'.Perm l ∧ l'.Pairwise (fun a b => p a ≤ p b) ∧ OwnC w' v 32 l.length (hs l') ∧ Upd (blkOf v) w w'
/-- the live leaves, in order -/
def liveL (L : List (Option Hash)) : List Hash := L.filterMap id
theorem live_sorted {L : List (Option Hash)} {q : Hash → Nat} (h : ∀ (i : Nat) x, L[i]? = some (some x) → q x = i) : (liveL L).Pairwise (fun a b => q a < q b) := by
  have key : ∀ (L : List (Option Hash)) (n : Nat), (∀ (i : Nat) x, L[i]? = some (some x) → q x = n + i) → (liveL L).Pairwise (fun a b => q a < q b) ∧ ∀ x ∈ liveL L, n ≤ q x := by
    intro L
    induction L with
    | nil => intro n _; exact ⟨.nil, fun x hx => by simp [liveL] at hx⟩
    | cons o L ih =>
      intro n hL
      obtain ⟨h1, h2⟩ := ih (n + 1) fun i x hx => by have := hL (i + 1) x (by simpa using hx); omega
      cases o with
      | none =>
        exact ⟨h1, fun x hx => by have := h2 x hx; omega⟩
      | some a =>
        have ha : q a = n := hL 0 a rfl
        refine ⟨List.pairwise_cons.2 ⟨fun b hb => by have := h2 b hb; omega, h1⟩, fun x hx => ?_⟩
        rcases List.mem_cons.1 hx with rfl | hx
        · omega
        · have := h2 x hx; omega
  exact (key L 0 fun i x hx => by rw [h i x hx]; omega).1
theorem perm_sorted {l l' : List Hash} {q : Hash → Nat} (hp : l'.Perm l) (h : l.Pairwise (fun a b => q a < q b)) (h' : l'.Pairwise (fun a b => q a ≤ q b)) : l' = l := by
  have hinj : ∀ a ∈ l, ∀ b ∈ l, q a = q b → a = b := by
    intro a ha b hb hab
    obtain ⟨i, hi, rfl⟩ := List.mem_iff_getElem.1 ha
    obtain ⟨j, hj, rfl⟩ := List.mem_iff_getElem.1 hb
    rcases Nat.lt_trichotomy i j with hij | hij | hij
    · have := List.pairwise_iff_getElem.1 h i j hi hj hij; omega
    · subst hij; rfl
    · have := List.pairwise_iff_getElem.1 h j i hj hi hij; omega
  refine List.Perm.eq_of_pairwise (le := fun a b => q a ≤ q b) (fun a b ha hb h1 h2 => ?_) h' (h.imp fun h => Nat.le_of_lt h) hp
  exact hinj a (hp.mem_iff.1 ha) b hb (by omega)
/-- the functions of forest, on -/
structure ForP (P : Program) extends ForO P where
  keysH1 : Nat
  keysH : Nat
  appH : Nat
  collH : Nat
  sortH : Nat
  sortedH : Nat
  isNaN : Nat
  cmpU : Nat
  leaves1 : Nat
  leaves : Nat
  TKm : Nat
  TSH : Nat
  TLv : Nat
  h_keysH1 : Has P keysH1 (b_maps_Keys_map_api_Hashuint64_api_Hash_uint64_1 TH)
  h_keysH : Has P keysH (b_maps_Keys_map_api_Hashuint64_api_Hash_uint64 keysH1 TKm)
  h_appH : Has P appH (b_slices_AppendSeq_api_Hash_api_Hash TSH TH)
  h_collH : Has P collH (b_slices_Collect_api_Hash appH)
  h_sortH : SortHOK P sortH
  h_sortedH : Has P sortedH (b_slices_SortedFunc_api_Hash collH sortH)
  h_isNaN : Has P isNaN b_cmp_isNaN_uint64
  h_cmpU : Has P cmpU (b_cmp_Compare_uint64 isNaN)
  h_leaves1 : Has P leaves1 (b_Pforest_Forest_Leaves_1 cmpU TH)
  h_leaves : Has P leaves (b_Pforest_Forest_Leaves is' keysH leaves1 sortedH TLv)
section
variable {P : Program} {f : Nat} {w : World}
theorem isNaNU_ok (A : ForP P) (a : Nat) : RetV P A.isNaN [u64V a] w (.bool false) := by
  refine Ret.of_exec A.h_isNaN (Nat.le_of_ble_eq_true rfl) fun c hc => ?_
  dsimp only [b_cmp_isNaN_uint64, argEnv, ym, yo, yg, ys, yt, yd, ye]
  refine xr 3 rfl ?_
  refine xpu (pv_neqI (a := a) (b := a) (q := false) rfl rfl (by simp)) rfl ?_
  refine xr 1 rfl ?_
  exact xre hc [_] ⟨rfl, trivial⟩ ⟨rfl, Upd.refl _ _⟩
theorem cmpU_ok (A : ForP P) (a b : Nat) : RetV P A.cmpU [u64V a, u64V b] w (.int .i64 (cmpN a b)) := by
  refine Ret.of_exec A.h_cmpU (Nat.le_of_ble_eq_true rfl) fun c hc => ?_
  dsimp only [b_cmp_Compare_uint64, argEnv, ym, yo, yg, ys, yt, yd, ye]
  refine xr 2 rfl ?_
  refine xca rfl rfl (isNaNU_ok A a) ?_
  rintro _ w1 ⟨rfl, hu1⟩
  refine xr 2 rfl ?_
  refine xca rfl rfl (isNaNU_ok A b) ?_
  rintro _ w2 ⟨rfl, hu2⟩
  refine xr 9 rfl ?_
  by_cases h1 : a < b
  · refine xpu (pv_lssI (a := a) (b := b) (q := true) rfl rfl (by simpa using h1)) rfl ?_
    refine xr 2 rfl ?_
    exact xre hc [_] ⟨rfl, trivial⟩ ⟨by rw [cmpN, if_pos h1]; rfl, hu1.trans hu2⟩
  · refine xpu (pv_lssI (a := a) (b := b) (q := false) rfl rfl (by simpa using h1)) rfl ?_
    refine xr 4 rfl ?_
    by_cases h2 : b < a
    · refine xpu (pv_gtrI (a := a) (b := b) (q := true) rfl rfl (by simpa using h2)) rfl ?_
      refine xr 2 rfl ?_
      exact xre hc [_] ⟨rfl, trivial⟩ ⟨by rw [cmpN, if_neg h1, if_pos h2]; rfl, hu1.trans hu2⟩
    · refine xpu (pv_gtrI (a := a) (b := b) (q := false) rfl rfl (by simpa using h2)) rfl ?_
      refine xr 3 rfl ?_
      exact xre hc [_] ⟨rfl, trivial⟩ ⟨by rw [cmpN, if_neg h1, if_neg h2]; rfl, hu1.trans hu2⟩
theorem ok_get {T r : Nat} {e : Env} {x y : Operand} {h : Hash} {wl : List (Hash × Nat)} (hT : TyBytes P T 32) (hx : e.ev x = some (.map (some r))) (hy : e.ev y = some (hV h)) (hm : MapAt w r hV u64V wl) :
    OpOK P (.lookup T (.int .u64 0) x y false) e w (Just (u64V ((aget h wl).getD 0)) w) := by
  have := ok_lookup (z := .int .u64 0) (ok := false) (keyOK_hash hT) hx hy hm
  cases ho : aget h wl with
  | none => rw [ho] at this; exact this
  | some i => rw [ho] at this; exact this
theorem leaves1_ok (A : ForP P) {b1 p m : Nat} {cs : List Value} {wl : List (Hash × Nat)} (hB1 : Blk w b1 [ptrV p]) (hB : Blk w p cs) (hc2 : cs[2]? = some (.map (some m))) (hM : MapAt w m hV u64V wl) (x y : Hash) :
    Ret P A.leaves1 [hV x, hV y, ptrV b1] w fun r w' => r = .int .i64 (cmpN ((aget x wl).getD 0) ((aget y wl).getD 0)) ∧ Ext w w' := by
  refine Ret.of_exec A.h_leaves1 (Nat.le_of_ble_eq_true rfl) fun c hc => ?_
  dsimp only [b_Pforest_Forest_Leaves_1, argEnv, ym, yo, yg, ys, yt, yd, ye]
  refine exec_box rfl rfl ?_
  intro b3 w1 hb3 hs1 hu1 hB3
  rw [hV_cells] at hB3
  refine exec_box rfl rfl ?_
  intro b4 w2 hb4 hs2 hu2 hB4
  rw [hV_cells] at hB4
  have hE := hu1.trans hu2
  refine xr 1 rfl ?_
  refine exec_dwr rfl rfl rfl ?_
  refine ws_keep (ptrV p) rfl (fun X hx => ok_load1 (b := b1) (o := 0) rfl ((hB1.upd (hE.trans hx)).cell rfl)) ?_
  repeat (first | refine wtm rfl rfl rfl ?_ | refine wgt rfl rfl rfl rfl ?_ | refine wgs rfl rfl ?_)
  refine ws_keep (.map (some m)) rfl (fun X hx => ok_load1 (b := p) (o := 0 + 2) rfl ((hB.upd (hE.trans hx)).cell hc2)) ?_
  refine ws_keep (hV x) rfl (fun X hx => ok_loadN (b := b3) (o := 0) rfl (hB3.upd (hu2.trans hx)).memAll (hC_length _)) ?_
  refine ws_keep _ rfl (fun X hx => ok_get A.h_TH rfl rfl (hM.upd (hE.trans hx))) ?_
  refine ws_keep (ptrV p) rfl (fun X hx => ok_load1 (b := b1) (o := 0) rfl ((hB1.upd (hE.trans hx)).cell rfl)) ?_
  repeat (first | refine wtm rfl rfl rfl ?_ | refine wgt rfl rfl rfl rfl ?_ | refine wgs rfl rfl ?_)
  refine ws_keep (.map (some m)) rfl (fun X hx => ok_load1 (b := p) (o := 0 + 2) rfl ((hB.upd (hE.trans hx)).cell hc2)) ?_
  refine ws_keep (hV y) rfl (fun X hx => ok_loadN (b := b4) (o := 0) rfl (hB4.upd hx).memAll (hC_length _)) ?_
  refine ws_keep _ rfl (fun X hx => ok_get A.h_TH rfl rfl (hM.upd (hE.trans hx))) ?_
  refine ws_fin fun w3 hw3 => ?_
  refine xca rfl rfl (cmpU_ok A _ _) ?_
  rintro _ w4 ⟨rfl, hu4⟩
  refine xr 1 rfl ?_
  exact xre hc [_] ⟨rfl, trivial⟩ ⟨rfl, (hE.trans hw3).trans hu4⟩
theorem keysH_ok (A : ForP P) {r : Nat} : Ret P A.keysH [.map (some r)] w fun v' w' => v' = .func (.func A.keysH1) #[] #[ptrV w.heap.size] ∧ Blk w' w.heap.size [.map (some r)] ∧ Ext w w' := by
  refine Ret.of_exec A.h_keysH (Nat.le_of_ble_eq_true rfl) fun c hc => ?_
  dsimp only [b_maps_Keys_map_api_Hashuint64_api_Hash_uint64, argEnv, ym, yo, yg, ys, yt, yd, ye]
  refine exec_box rfl rfl ?_
  intro b w2 hb hs hu hB
  subst hb
  refine xr 3 rfl ?_
  exact xre hc [_] ⟨rfl, trivial⟩ ⟨rfl, hB, hu⟩
theorem collectH_ok (A : ForP P) {gf : Nat} {lb : List Value} (hen : Enters P gf) {rds : List Nat} {Part : List Hash → Hash → Prop} {Good : List Hash → Prop}
    (hseq : ∀ w1, Ext w w1 → SeqG P gf lb w1 rds [] (fun q => [hV q]) Part Good) (hrds : ∀ b ∈ rds, b < w.heap.size) (hpart : ∀ pre x, Part pre x → pre.length < 2 ^ 40) :
    Ret P A.collH [.func (.func gf) #[] lb.toArray] w fun v w' => ∃ xs, Good xs ∧ OwnC w' v 32 xs.length (hs xs) ∧ Ext w w' ∧ ∀ b ∈ blkOf v, w.heap.size ≤ b := by
  refine Ret.of_exec A.h_collH (Nat.le_of_ble_eq_true rfl) fun c hc => ?_
  dsimp only [b_slices_Collect_api_Hash, argEnv, ym, yo, yg, ys, yt, yd, ye]
  refine xr 2 rfl ?_
  refine xca rfl rfl (appendSeqH_ok A.h_appH hen hseq hrds hpart) ?_
  rintro v w1 h
  refine xr 1 rfl ?_
  exact xre hc [_] ⟨rfl, trivial⟩ h
theorem keys_live {wl : List (Hash × Nat)} {L : List (Option Hash)} (hn : (keys wl).Nodup) (h : WhereOK wl L) : (keys wl).Perm (liveL L) ∧ (liveL L).Pairwise (fun a b => (aget a wl).getD 0 < (aget b wl).getD 0) := by
  have hs := live_sorted (L := L) (q := fun a => (aget a wl).getD 0) fun i x hx => by
    show (aget x wl).getD 0 = i
    rw [(h x i).2 hx]; rfl
  refine ⟨(List.perm_ext_iff_of_nodup hn (hs.imp fun {a b} hab he => by subst he; exact absurd hab (Nat.lt_irrefl _))).2 fun a => ?_, hs⟩
  rw [liveL, List.mem_filterMap]
  constructor
  · intro ha
    obtain ⟨i, hi⟩ := mem_keys_aget ha
    exact ⟨some a, List.mem_of_getElem? ((h a i).1 hi), rfl⟩
  · rintro ⟨o, ho, hoa⟩
    have : o = some a := hoa
    subst this
    obtain ⟨i, hi⟩ := List.getElem?_of_mem ho
    have := (h a i).2 hi
    by_cases hk : a ∈ keys wl
    · exact hk
    · rw [aget_none.2 hk] at this; cases this
theorem leaves_ok (A : ForP P) {p m : Nat} {s : Fo} (h : FAt w p m s) : Ret P A.leaves [ptrV p] w fun v w' => OwnC w' v 32 (liveL s.L).length (hs (liveL s.L)) ∧ Ext w w' ∧ ∀ b ∈ blkOf v, w.heap.size ≤ b := by
  have hF := h
  have hlen := h.len
  obtain ⟨⟨tv, wl, h1, h2, h3, h4⟩, _⟩ := h
  obtain ⟨hkp, hks⟩ := keys_live h3.nodup h4
  have hll : (liveL s.L).length ≤ s.L.length := List.length_filterMap_le _ _
  refine Ret.of_exec A.h_leaves (Nat.le_of_ble_eq_true rfl) fun c hc => ?_
  dsimp only [b_Pforest_Forest_Leaves, argEnv, ym, yo, yg, ys, yt, yd, ye]
  refine exec_box rfl rfl ?_
  intro b1 w1 hb1 hs1 hu1 hB1
  have hB1' : Blk w1 b1 [ptrV p] := hB1
  refine xr 1 rfl ?_
  refine exec_load1 (b := b1) (o := 0) rfl rfl (hB1'.cell rfl) ?_
  refine xca rfl rfl (is_ok A.toForJ (hF.ext hu1)) ?_
  rintro _ w2 ⟨rfl, hu2⟩
  refine xr 3 rfl ?_
  have hE2 : Ext w w2 := hu1.trans hu2
  refine exec_load1 (b := b1) (o := 0) rfl rfl ((hB1'.upd hu2).cell rfl) ?_
  refine xr 2 rfl ?_
  refine exec_load1 (b := p) (o := 0 + 2) rfl rfl ((h1.upd hE2).cell rfl) ?_
  refine xca rfl rfl (keysH_ok A) ?_
  rintro _ w3 ⟨rfl, hB3, hu3⟩
  have hE3 := hE2.trans hu3
  refine xr 1 rfl ?_
  have hsort : Ret P A.sortedH [.func (.func A.keysH1) #[] #[ptrV w2.heap.size], .func (.func A.leaves1) #[] #[ptrV b1]] w3 fun v w' => OwnC w' v 32 (liveL s.L).length (hs (liveL s.L)) ∧ Ext w3 w' ∧ ∀ b ∈ blkOf v, w3.heap.size ≤ b := by
    refine Ret.of_exec A.h_sortedH (Nat.le_of_ble_eq_true rfl) fun c hc => ?_
    dsimp only [b_slices_SortedFunc_api_Hash, argEnv, ym, yo, yg, ys, yt, yd, ye]
    refine xr 2 rfl ?_
    refine xca rfl rfl (collectH_ok A A.h_keysH1.enters (lb := [ptrV w2.heap.size]) (fun W hu => keysH1_ok A.h_keysH1 (hB3.upd hu) ((h3.upd hE3).upd hu)) ?_ ?_) ?_
    · intro b hb
      simp at hb
      rcases hb with rfl | rfl
      · exact hB3.lt
      · exact (h3.upd hE3).lt
    · intro pre x hx
      have : pre.length < (keys wl).length := hx
      have := hkp.length_eq
      omega
    rintro v w4 ⟨xs, hg, hO, hu4, hf4⟩
    refine xr 3 rfl ?_
    have hxl : xs.length = (liveL s.L).length := (hg.trans hkp).length_eq
    refine xca rfl rfl (A.h_sortH w4 v xs A.leaves1 [ptrV b1] (fun a => (aget a wl).getD 0) hO (by omega) A.h_leaves1.enters ?_) ?_
    · intro W x y hW
      have hnb : ∀ b, b < w3.heap.size → b ∉ blkOf v := fun b hb hm => by have := hf4 b hm; omega
      have z3 := hE3.size
      have z23 := hu3.size
      have z12 := hu2.size
      have k1 := h1.lt
      have k3 := h3.lt
      refine leaves1_ok A (((hB1'.upd hu2).upd hu3).upd hu4 |>.upd hW (hnb _ (by omega))) (((h1.upd hE3).upd hu4).upd hW (hnb _ (by omega))) rfl (((h3.upd hE3).upd hu4).upd hW (hnb _ (by omega))) x y
    rintro _ w5 ⟨l', hp', hs', hO', hu5⟩
    refine xr 2 rfl ?_
    have hfin : l' = liveL s.L := perm_sorted ((hp'.trans hg).trans hkp) hks hs'
    subst hfin
    rw [hxl] at hO'
    exact xre hc [_] ⟨rfl, trivial⟩ ⟨hO', hu4.trans hu5 (fun b hb => .inr (hf4 b hb)), hf4⟩
  refine xca rfl rfl hsort ?_
  rintro v w4 ⟨hO, hu4, hf4⟩
  refine xr 1 rfl ?_
  have z3 := hE3.size
  exact xre hc [_] ⟨rfl, trivial⟩ ⟨hO, hE3.trans hu4, fun b hb => by have := hf4 b hb; omega⟩
end
end Go.Sp

namespace Go.Sp
def b_spinneylaw14_ForestUndo (f0 f1 f2 f3 f4 f5 f6 f7 : Nat) (T0 T1 : Nat) : Body := { n := 110,res := [.tmp 2],code := [yo 2 (.mov (.const (.bool false))),yo 12 (.call f0 #[]),ym 3 12,
 yo 4 (.mov (.const (.slice none 0 0))),yo 5 (.mov (.const (.slice none 0 0))),yo 6 (.mov (.const (.int .i64 0))),.block 0 [.loop [ym 13 6,ym 14 0,yo 15 (.lenS (yt 14)),yo 16 (.ibin .lss (yt 13) (yt 15)),ym 17 16,
 yg 17 true 18 (.mov (yt 6)),yg 17 true 19 (.ibin .lss (yt 18) (.const (.int .i64 12))),yo 20 (.pick (yt 17) (yt 19) (.const (.bool false))),.cond (yt 20) [] [.exit 0],.block 1 [ym 23 3,yo 24 (.call f1 #[(yt 23)]),
 ym 7 24,.draw [yd [] 26 (.mov (yt 3)),yd [] 27 (.mov (yt 0)),yd [] 28 (.mov (yt 6)),yd [1,2] 29 (.iaddr 3 (yt 27) (yt 28)),yd [3,1,2] 30 (.faddr 1 (yt 29)),yd [4,3,1,2] 31 (.load1 (yt 30)),
 yd [5,4,3,1,2] 32 (.call f2 #[(yt 31)]),yd [] 33 (.mov (yt 0)),yd [] 34 (.mov (yt 6)),yd [7,8] 35 (.iaddr 3 (yt 33) (yt 34)),yd [9,7,8] 36 (.faddr 2 (yt 35)),yd [10,9,7,8] 37 (.load1 (yt 36)),
 yd [11,6,10,9,7,8,5,4,3,1,2] 38 (.call f2 #[(yt 37)]),yd [0,6,12,5,4,3,1,2,11,10,9,7,8] 39 (.call f3 #[(yt 26),(yt 32),(yt 38)]),yd [13,0,6,12,5,4,3,1,2,11,10,9,7,8] 25 (.mov (yt 39)),
 yd [14,13,0,6,12,5,4,3,1,2,11,10,9,7,8] 40 (.ext (yt 25) 0),yd [14,13,0,6,12,5,4,3,1,2,11,10,9,7,8] 41 (.ext (yt 25) 1),
 yd [] 8 (.new T0 (rle [(1,.pointer none),(2,.int .i64 0),(1,.int .u64 0),(1,.slice none 0 0),(2,.map none)])),([17,15,13,0,1,2,3,4,5,6,7,8,9,10,11,12,14],none,none,.store 7 (yt 8) (yt 40))] [ym 9 41],ym 42 9,
 yo 43 (.ibin .neq (yt 42) (.const (.int .i64 0))),.cond (yt 43) [ym 44 3,ym 45 7,yo 46 (.call f4 #[(yt 44),(yt 45)]),yo 47 (.un .not (yt 46)),.cond (yt 47) [yo 2 (.mov (.const (.bool false))),.ret] [],.exit 1] [],
 ym 48 4,yo 49 (.loadN 7 (yt 8)),yo 50 (.mkSlice T0 1 (rle [(1,.pointer none),(2,.int .i64 0),(1,.int .u64 0),(1,.slice none 0 0),(2,.map none)]) [(0,7,(yt 49))]),
 yo 51 (.append T0 7 72 (rle [(1,.pointer none),(2,.int .i64 0),(1,.int .u64 0),(1,.slice none 0 0),(2,.map none)]) (yt 48) (yt 50)),ym 4 51,ym 52 5,ym 53 7,
 yo 54 (.mkSlice T1 1 (rle [(1,.pointer none)]) [(0,1,(yt 53))]),yo 55 (.append T1 1 8 (rle [(1,.pointer none)]) (yt 52) (yt 54)),ym 5 55],ym 21 6,yo 22 (.ibin .add (yt 21) (.const (.int .i64 1))),ym 6 22]],ym 56 4,
 yo 57 (.lenS (yt 56)),yo 58 (.ibin .sub (yt 57) (.const (.int .i64 1))),ym 10 58,.block 2 [.loop [ym 59 10,yo 60 (.ibin .geq (yt 59) (.const (.int .i64 0))),.cond (yt 60) [] [.exit 2],.block 3 [
 yo 11 (.mov (.const (.int .i64 0))),.block 4 [.loop [ym 63 11,ym 64 10,yo 65 (.ibin .lss (yt 63) (yt 64)),.cond (yt 65) [] [.exit 4],.block 5 [ym 68 3,ym 69 4,ym 70 11,yo 71 (.iaddr 7 (yt 69) (yt 70)),
 yo 72 (.loadN 7 (yt 71)),yo 73 (.call f5 #[(yt 68),(yt 72)]),yo 74 (.ibin .neq (yt 73) (.const (.int .i64 2))),.cond (yt 74) [yo 2 (.mov (.const (.bool false))),.ret] []],ym 66 11,
 yo 67 (.ibin .add (yt 66) (.const (.int .i64 1))),ym 11 67]],.draw [yd [] 75 (.mov (yt 5)),yd [] 76 (.mov (yt 10)),yd [0,1] 77 (.iaddr 1 (yt 75) (yt 76)),yd [2,0,1] 78 (.load1 (yt 77)),yd [] 79 (.mov (yt 4)),
 yd [] 80 (.mov (yt 10)),yd [4,5] 81 (.iaddr 7 (yt 79) (yt 80)),yd [6,4,5] 82 (.loadN 7 (yt 81)),yd [3,7,2,0,1,6,4,5] 83 (.call f5 #[(yt 78),(yt 82)]),
 yd [8,3,7,2,0,1,6,4,5] 84 (.ibin .neq (yt 83) (.const (.int .i64 2))),yd [9,8,3,7,2,0,1,6,4,5] 85 (.mov (yt 84)),ye [10,9,8,3,7,2,0,1,6,4,5] 85 false 86 (.mov (yt 3)),
 ye [10,9,8,3,7,2,0,1,6,4,5] 85 false 87 (.mov (yt 4)),ye [10,9,8,3,7,2,0,1,6,4,5] 85 false 88 (.mov (yt 10)),ye [12,13,10,9,8,3,7,2,0,1,6,4,5] 85 false 89 (.iaddr 7 (yt 87) (yt 88)),
 ye [14,10,12,13,9,8,3,7,2,0,1,6,4,5] 85 false 90 (.loadN 7 (yt 89)),ye [11,15,10,9,8,3,7,2,0,1,6,4,5,14,12,13] 85 false 91 (.call f5 #[(yt 86),(yt 90)]),
 ye [16,10,11,15,9,8,3,7,2,0,1,6,4,5,14,12,13] 85 false 92 (.ibin .neq (yt 91) (.const (.int .i64 0))),yd [10,17,9,8,3,7,2,0,1,6,4,5,16,11,15,14,12,13] 93 (.pick (yt 85) (.const (.bool true)) (yt 92)),
 yd [18,16,10,17,9,8,3,7,2,0,1,6,4,5,11,15,14,12,13] 94 (.mov (yt 93)),ye [19,18,16,10,17,9,8,3,7,2,0,1,6,4,5,11,15,14,12,13] 94 false 95 (.mov (yt 3)),
 ye [19,18,16,10,17,9,8,3,7,2,0,1,6,4,5,11,15,14,12,13] 94 false 96 (.mov (yt 5)),ye [19,18,16,10,17,9,8,3,7,2,0,1,6,4,5,11,15,14,12,13] 94 false 97 (.mov (yt 10)),
 ye [21,22,19,18,16,10,17,9,8,3,7,2,0,1,6,4,5,11,15,14,12,13] 94 false 98 (.iaddr 1 (yt 96) (yt 97)),ye [23,19,21,22,18,16,10,17,9,8,3,7,2,0,1,6,4,5,11,15,14,12,13] 94 false 99 (.load1 (yt 98))] [
 yg 94 false 100 (.call f4 #[(yt 95),(yt 99)]),yg 94 false 101 (.un .not (yt 100)),yo 102 (.pick (yt 94) (.const (.bool true)) (yt 101))],.cond (yt 102) [yo 2 (.mov (.const (.bool false))),.ret] []],ym 61 10,
 yo 62 (.ibin .sub (yt 61) (.const (.int .i64 1))),ym 10 62]],ym 103 3,yo 104 (.call f6 #[(yt 103)]),yo 105 (.fld false 0 1 (yt 104)),yo 106 (.ibin .eql (yt 105) (.const (.int .u64 0))),ym 107 106,
 yg 107 true 108 (.call f7 #[]),yo 109 (.pick (yt 107) (yt 108) (.const (.bool false))),ym 2 109,.ret] }
def b_spinneylaw14_told (f0 f1 f2 f3 : Nat) (T0 T1 T2 : Nat) : Body := { n := 88,res := [.tmp 2,.tmp 3,.tmp 4],code := [yo 2 (.mov (.const (.pointer none))),yo 3 (.mov (.const (.slice none 0 0))),
 yo 4 (.mov (.const (.slice none 0 0))),yo 15 (.call f0 #[]),ym 5 15,yo 6 (.mov (.const (.slice none 0 0))),yo 7 (.mov (.const (.slice none 0 0))),yo 8 (.mov (.const (.int .i64 0))),.block 0 [.loop [ym 16 8,ym 17 0,
 yo 18 (.lenS (yt 17)),yo 19 (.ibin .lss (yt 16) (yt 18)),ym 20 19,yg 20 true 21 (.mov (yt 8)),yg 20 true 22 (.ibin .lss (yt 21) (.const (.int .i64 12))),yo 23 (.pick (yt 20) (yt 22) (.const (.bool false))),
 .cond (yt 23) [] [.exit 0],.block 1 [.draw [yd [] 26 (.mov (yt 0)),yd [] 27 (.mov (yt 8)),yd [0,1] 28 (.iaddr 3 (yt 26) (yt 27)),yd [2,0,1] 29 (.faddr 1 (yt 28)),yd [3,2,0,1] 30 (.load1 (yt 29)),
 yd [4,3,2,0,1] 31 (.call f1 #[(yt 30)]),yd [] 32 (.mov (yt 0)),yd [] 33 (.mov (yt 8)),yd [6,7] 34 (.iaddr 3 (yt 32) (yt 33)),yd [8,6,7] 35 (.faddr 2 (yt 34)),yd [9,8,6,7] 36 (.load1 (yt 35))] [
 yo 37 (.call f1 #[(yt 36)]),ym 9 31,ym 10 37],ym 39 5,ym 40 9,ym 41 10,yo 42 (.call f2 #[(yt 39),(yt 40),(yt 41)]),ym 38 42,yo 43 (.ext (yt 38) 0),yo 44 (.ext (yt 38) 1),
 yo 11 (.new T0 (rle [(1,.pointer none),(2,.int .i64 0),(1,.int .u64 0),(1,.slice none 0 0),(2,.map none)])),ys 7 11 43,ym 12 44,ym 45 12,yo 46 (.ibin .neq (yt 45) (.const (.int .i64 0))),.cond (yt 46) [.exit 1] [],
 yo 13 (.mov (.const (.int .i64 0))),.block 2 [.loop [ym 47 13,ym 48 6,yo 49 (.lenS (yt 48)),yo 50 (.ibin .lss (yt 47) (yt 49)),.cond (yt 50) [] [.exit 2],.block 3 [ym 53 7,ym 54 13,ym 55 7,ym 56 13,
 yo 57 (.iaddr 1 (yt 55) (yt 56)),yo 58 (.load1 (yt 57)),ym 59 58,yg 59 true 60 (.mov (yt 9)),yg 59 true 61 (.mov (yt 6)),yg 59 true 62 (.mov (yt 13)),yg 59 true 63 (.iaddr 32 (yt 61) (yt 62)),
 yg 59 true 64 (.loadN 32 (yt 63)),yg 59 true 65 (.call f3 #[(yt 60),(yt 64)]),yg 59 true 66 (.un .not (yt 65)),yo 67 (.pick (yt 59) (yt 66) (.const (.bool false))),yo 68 (.iaddr 1 (yt 53) (yt 54)),ys 1 68 67],ym 51 13,
 yo 52 (.ibin .add (yt 51) (.const (.int .i64 1))),ym 13 52]],yo 14 (.mov (.const (.int .i64 0))),.block 4 [.loop [ym 69 14,ym 70 10,yo 71 (.lenS (yt 70)),yo 72 (.ibin .lss (yt 69) (yt 71)),.cond (yt 72) [] [.exit 4],
 .block 5 [ym 75 6,ym 76 10,ym 77 14,yo 78 (.iaddr 32 (yt 76) (yt 77)),yo 79 (.loadN 32 (yt 78)),yo 80 (.mkSlice T1 1 (rle [(32,.int .u8 0)]) [(0,32,(yt 79))]),
 yo 81 (.append T1 32 32 (rle [(32,.int .u8 0)]) (yt 75) (yt 80)),ym 6 81,ym 82 7,yo 83 (.mkSlice T2 1 (rle [(1,.bool false)]) [(0,1,(.const (.bool true)))]),
 yo 84 (.append T2 1 1 (rle [(1,.bool false)]) (yt 82) (yt 83)),ym 7 84],ym 73 14,yo 74 (.ibin .add (yt 73) (.const (.int .i64 1))),ym 14 74]]],ym 24 8,yo 25 (.ibin .add (yt 24) (.const (.int .i64 1))),ym 8 25]],ym 85 5,
 ym 86 6,ym 87 7,ym 2 85,ym 3 86,ym 4 87,.ret] }
def b_spinneylaw14_cut : Body := { n := 8,res := [.tmp 2],code := [yo 2 (.mov (.const (.slice none 0 0))),ym 3 0,ym 4 0,yo 5 (.lenS (yt 4)),yo 6 (.min2 (yt 5) (.const (.int .i64 10))),
 yo 7 (.slS 32 (yt 3) none (some (yt 6))),ym 2 7,.ret] }
def b_spinneylaw14_works (f0 f1 f2 f3 f4 : Nat) (T0 T1 T2 : Nat) : Body := { n := 68,res := [.tmp 0],code := [yo 0 (.mov (.const (.bool false))),yo 11 (.call f0 #[]),ym 1 11,
 yo 12 (.mk (rle [(32,.int .u8 0)]) [(0,1,(.const (.int .u8 1)))]),yo 13 (.mk (rle [(32,.int .u8 0)]) [(0,1,(.const (.int .u8 2)))]),yo 2 (.new T0 (rle [(32,.int .u8 0)])),yo 3 (.new T0 (rle [(32,.int .u8 0)])),
 ys 32 2 12,ys 32 3 13,ym 15 1,yo 16 (.loadN 32 (yt 2)),yo 17 (.loadN 32 (yt 3)),yo 18 (.mk (rle [(32,.int .u8 0)]) [(0,1,(.const (.int .u8 3)))]),
 yo 19 (.mkSlice T0 3 (rle [(96,.int .u8 0)]) [(0,32,(yt 16)),(32,32,(yt 17)),(64,32,(yt 18))]),yo 20 (.call f1 #[(yt 15),(.const (.slice none 0 0)),(yt 19)]),ym 14 20,yo 21 (.ext (yt 14) 0),yo 22 (.ext (yt 14) 1),
 yo 4 (.new T1 (rle [(1,.pointer none),(2,.int .i64 0),(1,.int .u64 0),(1,.slice none 0 0),(2,.map none)])),ys 7 4 21,ym 5 22,ym 23 1,yo 24 (.call f2 #[(yt 23)]),
 yo 6 (.new T2 (rle [(1,.int .u64 0),(1,.slice none 0 0)])),ys 2 6 24,ym 26 1,yo 27 (.loadN 32 (yt 2)),yo 28 (.mkSlice T0 1 (rle [(32,.int .u8 0)]) [(0,32,(yt 27))]),
 yo 29 (.call f1 #[(yt 26),(yt 28),(.const (.slice none 0 0))]),ym 25 29,yo 30 (.ext (yt 25) 0),yo 31 (.ext (yt 25) 1),
 yo 7 (.new T1 (rle [(1,.pointer none),(2,.int .i64 0),(1,.int .u64 0),(1,.slice none 0 0),(2,.map none)])),ys 7 7 30,ym 8 31,ym 33 1,yo 34 (.loadN 32 (yt 3)),yo 35 (.call f3 #[(yt 33),(yt 34)]),ym 32 35,
 yo 36 (.ext (yt 32) 0),yo 37 (.ext (yt 32) 1),ym 9 36,ym 10 37,.draw [yd [] 38 (.mov (yt 5)),yd [0] 39 (.ibin .eql (yt 38) (.const (.int .i64 0))),yd [1,0] 40 (.mov (yt 39)),ye [2,1,0] 40 true 41 (.mov (yt 8)),
 ye [3,2,1,0] 40 true 42 (.ibin .eql (yt 41) (.const (.int .i64 0))),yd [2,4,1,0,3] 43 (.pick (yt 40) (yt 42) (.const (.bool false))),yd [5,2,4,1,0,3] 44 (.mov (yt 43)),ye [6,5,2,4,1,0,3] 44 true 45 (.faddr 1 (yt 6)),
 ye [7,6,5,2,4,1,0,3] 44 true 46 (.load1 (yt 45)),ye [8,6,7,5,2,4,1,0,3] 44 true 47 (.lenS (yt 46)),ye [9,6,8,7,5,2,4,1,0,3] 44 true 48 (.ibin .eql (yt 47) (.const (.int .i64 2))),
 yd [6,10,5,2,4,1,0,3,9,8,7] 49 (.pick (yt 44) (yt 48) (.const (.bool false))),yd [11,6,10,5,2,4,1,0,3,9,8,7] 50 (.mov (yt 49)),ye [12,11,6,10,5,2,4,1,0,3,9,8,7] 50 true 51 (.faddr 1 (yt 6)),
 ye [13,12,11,6,10,5,2,4,1,0,3,9,8,7] 50 true 52 (.load1 (yt 51)),ye [14,12,13,11,6,10,5,2,4,1,0,3,9,8,7] 50 true 53 (.iaddr 33 (yt 52) (.const (.int .i64 0))),
 ye [15,12,14,13,11,6,10,5,2,4,1,0,3,9,8,7] 50 true 54 (.faddr 1 (yt 53)),ye [16,12,15,14,13,11,6,10,5,2,4,1,0,3,9,8,7] 50 true 55 (.loadN 32 (yt 54)),ye [12,11,6,10,5,2,4,1,0,3,9,8,7] 50 true 56 (.loadN 32 (yt 2)),
 ye [12,11,6,10,5,2,4,1,0,3,9,8,7] 50 true 57 (.loadN 32 (yt 3)),ye [18,19,12,11,6,10,5,2,4,1,0,3,9,8,7] 50 true 58 (.call f4 #[(yt 56),(yt 57)])] [yg 50 true 59 (.bin .eql T0 (yt 55) (yt 58)),
 yo 60 (.pick (yt 50) (yt 59) (.const (.bool false))),ym 61 60,yg 61 true 62 (.mov (yt 10)),yo 63 (.pick (yt 61) (yt 62) (.const (.bool false))),ym 64 63,yg 64 true 65 (.mov (yt 9)),
 yg 64 true 66 (.ibin .eql (yt 65) (.const (.int .u64 4))),yo 67 (.pick (yt 64) (yt 66) (.const (.bool false))),ym 0 67],.ret] }
def b_spinneylaw14_equal (f0 f1 f2 f3 f4 : Nat) (T0 T1 : Nat) : Body := { n := 109,res := [.tmp 4],code := [yo 4 (.mov (.const (.bool false))),ym 17 0,yo 18 (.call f0 #[(yt 17)]),ym 19 1,yo 20 (.call f0 #[(yt 19)]),
 ym 5 18,ym 6 20,ym 21 0,yo 22 (.call f1 #[(yt 21)]),ym 23 1,yo 24 (.call f1 #[(yt 23)]),yo 25 (.call f2 #[(yt 22),(yt 24)]),yo 26 (.un .not (yt 25)),ym 27 26,yg 27 false 28 (.mov (yt 5)),yg 27 false 29 (.lenS (yt 28)),
 yg 27 false 30 (.mov (yt 6)),yg 27 false 31 (.lenS (yt 30)),yg 27 false 32 (.ibin .neq (yt 29) (yt 31)),yo 33 (.pick (yt 27) (.const (.bool true)) (yt 32)),.cond (yt 33) [yo 4 (.mov (.const (.bool false))),.ret] [],
 yo 7 (.mov (.const (.int .i64 0))),.block 0 [.loop [ym 34 7,ym 35 5,yo 36 (.lenS (yt 35)),yo 37 (.ibin .lss (yt 34) (yt 36)),.cond (yt 37) [] [.exit 0],.block 1 [ym 41 0,ym 42 5,ym 43 7,
 yo 44 (.iaddr 32 (yt 42) (yt 43)),yo 45 (.loadN 32 (yt 44)),yo 46 (.call f3 #[(yt 41),(yt 45)]),ym 40 46,yo 47 (.ext (yt 40) 0),yo 48 (.ext (yt 40) 1),ym 8 47,ym 9 48,ym 50 1,ym 51 5,ym 52 7,
 yo 53 (.iaddr 32 (yt 51) (yt 52)),yo 54 (.loadN 32 (yt 53)),yo 55 (.call f3 #[(yt 50),(yt 54)]),ym 49 55,yo 56 (.ext (yt 49) 0),yo 57 (.ext (yt 49) 1),ym 10 56,ym 11 57,.draw [yd [] 58 (.mov (yt 5)),
 yd [] 59 (.mov (yt 7)),yd [0,1] 60 (.iaddr 32 (yt 58) (yt 59)),yd [2,0,1] 61 (.loadN 32 (yt 60)),yd [] 62 (.mov (yt 6)),yd [] 63 (.mov (yt 7)),yd [4,5] 64 (.iaddr 32 (yt 62) (yt 63)),yd [6,4,5] 65 (.loadN 32 (yt 64)),
 yd [3,7,2,0,1,6,4,5] 66 (.bin .neq T0 (yt 61) (yt 65)),yd [8,3,7,2,0,1,6,4,5] 67 (.mov (yt 66)),ye [9,8,3,7,2,0,1,6,4,5] 67 false 68 (.mov (yt 9)),ye [10,9,8,3,7,2,0,1,6,4,5] 67 false 69 (.un .not (yt 68)),
 yd [9,11,8,3,7,2,0,1,6,4,5,10] 70 (.pick (yt 67) (.const (.bool true)) (yt 69)),yd [12,9,11,8,3,7,2,0,1,6,4,5,10] 71 (.mov (yt 70)),ye [13,12,9,11,8,3,7,2,0,1,6,4,5,10] 71 false 72 (.mov (yt 11)),
 ye [14,13,12,9,11,8,3,7,2,0,1,6,4,5,10] 71 false 73 (.un .not (yt 72)),yd [13,15,12,9,11,8,3,7,2,0,1,6,4,5,10,14] 74 (.pick (yt 71) (.const (.bool true)) (yt 73)),
 yd [16,13,15,12,9,11,8,3,7,2,0,1,6,4,5,10,14] 75 (.mov (yt 74)),ye [17,16,13,15,12,9,11,8,3,7,2,0,1,6,4,5,10,14] 75 false 76 (.mov (yt 8)),ye [17,16,13,15,12,9,11,8,3,7,2,0,1,6,4,5,10,14] 75 false 77 (.mov (yt 10))] [
 yg 75 false 78 (.ibin .neq (yt 76) (yt 77)),yo 79 (.pick (yt 75) (.const (.bool true)) (yt 78))],.cond (yt 79) [yo 4 (.mov (.const (.bool false))),.ret] []],ym 38 7,yo 39 (.ibin .add (yt 38) (.const (.int .i64 1))),
 ym 7 39]],yo 12 (.mov (.const (.int .u64 0))),.block 2 [.loop [ym 80 12,ym 81 0,yo 82 (.call f1 #[(yt 81)]),yo 83 (.fld false 0 1 (yt 82)),yo 84 (.ibin .mul (.const (.int .u64 2)) (yt 83)),
 yo 85 (.ibin .add (yt 84) (.const (.int .u64 3))),yo 86 (.ibin .lss (yt 80) (yt 85)),.cond (yt 86) [] [.exit 2],.block 3 [ym 90 0,ym 91 12,yo 92 (.call f4 #[(yt 90),(yt 91)]),ym 89 92,yo 93 (.ext (yt 89) 0),
 yo 94 (.ext (yt 89) 1),yo 13 (.new T0 (rle [(32,.int .u8 0)])),ys 32 13 93,ym 14 94,ym 96 1,ym 97 12,yo 98 (.call f4 #[(yt 96),(yt 97)]),ym 95 98,yo 99 (.ext (yt 95) 0),yo 100 (.ext (yt 95) 1),
 yo 15 (.new T0 (rle [(32,.int .u8 0)])),ys 32 15 99,ym 16 100,yo 101 (.loadN 32 (yt 13)),yo 102 (.loadN 32 (yt 15)),yo 103 (.bin .neq T0 (yt 101) (yt 102)),ym 104 103,yg 104 false 105 (.mov (yt 14)),
 yg 104 false 106 (.mov (yt 16)),yg 104 false 107 (.bin .neq T1 (yt 105) (yt 106)),yo 108 (.pick (yt 104) (.const (.bool true)) (yt 107)),.cond (yt 108) [yo 4 (.mov (.const (.bool false))),.ret] []],ym 87 12,
 yo 88 (.ibin .add (yt 87) (.const (.int .u64 1))),ym 12 88]],yo 4 (.mov (.const (.bool true))),.ret] }
def b_spinneylaw14_has (T0 : Nat) : Body := { n := 18,res := [.tmp 4],code := [yo 3 (.box T0 (yt 1)),yo 4 (.mov (.const (.bool false))),yo 5 (.mov (.const (.int .i64 0))),.block 0 [.loop [ym 6 5,ym 7 0,
 yo 8 (.lenS (yt 7)),yo 9 (.ibin .lss (yt 6) (yt 8)),.cond (yt 9) [] [.exit 0],.block 1 [.draw [yd [] 12 (.mov (yt 0)),yd [] 13 (.mov (yt 5)),yd [0,1] 14 (.iaddr 32 (yt 12) (yt 13)),yd [2,0,1] 15 (.loadN 32 (yt 14)),
 yd [] 16 (.loadN 32 (yt 3))] [yo 17 (.bin .eql T0 (yt 15) (yt 16))],.cond (yt 17) [yo 4 (.mov (.const (.bool true))),.ret] []],ym 10 5,yo 11 (.ibin .add (yt 10) (.const (.int .i64 1))),ym 5 11]],
 yo 4 (.mov (.const (.bool false))),.ret] }
def b_spinneylaw14_same (T0 T1 : Nat) : Body := { n := 38,res := [.tmp 4],code := [yo 2 (.box T0 (yt 0)),yo 3 (.box T0 (yt 1)),yo 4 (.mov (.const (.bool false))),yo 6 (.faddr 0 (yt 2)),yo 7 (.load1 (yt 6)),
 yo 8 (.faddr 0 (yt 3)),yo 9 (.load1 (yt 8)),yo 10 (.ibin .neq (yt 7) (yt 9)),ym 11 10,yg 11 false 12 (.faddr 1 (yt 2)),yg 11 false 13 (.load1 (yt 12)),yg 11 false 14 (.lenS (yt 13)),yg 11 false 15 (.faddr 1 (yt 3)),
 yg 11 false 16 (.load1 (yt 15)),yg 11 false 17 (.lenS (yt 16)),yg 11 false 18 (.ibin .neq (yt 14) (yt 17)),yo 19 (.pick (yt 11) (.const (.bool true)) (yt 18)),.cond (yt 19) [yo 4 (.mov (.const (.bool false))),.ret] [],
 yo 5 (.mov (.const (.int .i64 0))),.block 0 [.loop [ym 20 5,yo 21 (.faddr 1 (yt 2)),yo 22 (.load1 (yt 21)),yo 23 (.lenS (yt 22)),yo 24 (.ibin .lss (yt 20) (yt 23)),.cond (yt 24) [] [.exit 0],.block 1 [.draw [
 yd [] 27 (.faddr 1 (yt 2)),yd [0] 28 (.load1 (yt 27)),yd [] 29 (.mov (yt 5)),yd [1,2,0] 30 (.iaddr 33 (yt 28) (yt 29)),yd [3,1,2,0] 31 (.loadN 33 (yt 30)),yd [] 32 (.faddr 1 (yt 3)),yd [5] 33 (.load1 (yt 32)),
 yd [] 34 (.mov (yt 5)),yd [6,7,5] 35 (.iaddr 33 (yt 33) (yt 34)),yd [8,6,7,5] 36 (.loadN 33 (yt 35))] [yo 37 (.bin .neq T1 (yt 31) (yt 36))],.cond (yt 37) [yo 4 (.mov (.const (.bool false))),.ret] []],ym 25 5,
 yo 26 (.ibin .add (yt 25) (.const (.int .i64 1))),ym 5 26]],yo 4 (.mov (.const (.bool true))),.ret] }
end Go.Sp


namespace Go.Sp
/-- T is api.Root -/
structure TyRoot (P : Program) (T TH : TypeId) : Prop where
  und : P.underlying T = some (.struct (P.fieldsOf T))
  held : P.stoodInHeld T = false
  guard : P.eqGuardType P.depth T = false
  fs : ∃ f1 f2, (P.fieldsOf T).toList = [f1, f2] ∧ f1.name ≠ "_" ∧ f2.name ≠ "_" ∧ P.underlying f1.type = some .bool ∧ f1.offset = 0 ∧ f2.type = TH ∧ f2.offset = 1
  size : ∃ i, P.info? TH = some i ∧ i.size = 32
def rootV (o : Option Hash) : Value := .agg (rootC o).toArray
section
variable {P : Program} {n : Nat} {c : Ctx} {D : List Deferred} {is : List Ins} {k : Kont} {e : Env} {w : World} {T TH : TypeId}
def zH : Hash := ⟨List.replicate 32 0, rfl⟩
theorem rootC_eq (o : Option Hash) : rootC o = .bool o.isSome :: hC (o.getD zH) := by
  cases o with
  | none => rfl
  | some h => rfl
theorem equal_root (hR : TyRoot P T TH) (hT : TyBytes P TH 32) (a b : Option Hash) (d : Nat) : (Op.equalIn (d + 3) T (rootV a) (rootV b)).run P w = .ok (decide (a.isSome = b.isSome ∧ a.getD zH = b.getD zH)) w := by
  obtain ⟨f1, f2, hfs, n1, n2, u1, o1, t2, o2⟩ := hR.fs
  obtain ⟨i, hi, hsz⟩ := hR.size
  obtain ⟨e, ei, h1, _⟩ := hT.ex
  have ha2 : ∀ W, (isAgg TH).run P W = .ok true W := fun W => by simp [isAgg, run_underlying h1]
  have hs2 : ∀ W, (Go.sizeOf TH).run P W = .ok 32 W := fun W => by simp [Go.sizeOf, typeInfo, Sem.run, hi, hsz]
  have ha1 : ∀ W, (isAgg f1.type).run P W = .ok false W := fun W => by simp [isAgg, run_underlying u1]
  have hx1 : ∀ (o : Option Hash) W, (part f1.type (rootC o).toArray 0).run P W = .ok (.bool o.isSome) W := by
    intro o W
    rw [rootC_eq]
    simp [part, ha1]
  have hx2 : ∀ (o : Option Hash) W, (part TH (rootC o).toArray 1).run P W = .ok (hV (o.getD zH)) W := by
    intro o W
    rw [rootC_eq]
    have := hC_length (o.getD zH)
    simp [part, ha2, hs2, hV]
    exact List.take_of_length_le (by omega)
  rw [rootV, rootV, run_equalIn_struct w (d + 2) T _ _ hR.und hR.held, hfs]
  simp only [Op.eqFields, n1, n2, o1, o2, t2, ne_eq, not_false_eq_true, if_true, Sem.run_bind, hx1, hx2, Result.andThen_ok]
  rw [run_equalIn_bool w (d + 1) f1.type _ _ u1]
  by_cases hq : a.isSome = b.isSome
  · simp only [hq, beq_self_eq_true, Result.andThen_ok, Bool.not_true, Bool.false_eq_true, if_false, Sem.run_bind, hx2, equal_hash hT, true_and]
    by_cases hh : a.getD zH = b.getD zH
    · simp [hh]
    · simp [hh]
  · have : (a.isSome == b.isSome) = false := by simpa using hq
    simp [this, hq]
theorem ok_ne_root {x y : Operand} {a b : Option Hash} (hR : TyRoot P T TH) (hT : TyBytes P TH 32) (hx : e.ev x = some (rootV a)) (hy : e.ev y = some (rootV b)) : OpOK P (.bin .neq T x y) e w (Just (.bool (!decide (a.isSome = b.isSome ∧ a.getD zH = b.getD zH))) w) := by
  refine ok_ne_of hx hy (by simp [eqGuard, rootV, hR.guard]) (by simp [rootV]) (by simp [rootV]) (by simp [rootV]) (by simp [rootV]) ?_
  exact equal_root hR hT a b 9997
end
theorem hs_take (l : List Hash) (k : Nat) : (hs l).take (k * 32) = hs (l.take k) := by
  induction l generalizing k with
  | nil => simp [hs]
  | cons h l ih =>
    cases k with
    | zero => simp [hs]
    | succ k =>
      simp only [hs, List.flatMap_cons, List.take_succ_cons] at ih ⊢
      rw [List.take_append, hC_length, show (k + 1) * 32 - 32 = k * 32 by omega, ih k, List.take_of_length_le (by rw [hC_length]; omega)]
structure LawF (P : Program) extends ForP P where
  has : Nat
  cut : Nat
  same : Nat
  TSm : Nat
  TRo : Nat
  h_has : Has P has (b_spinneylaw14_has TH)
  h_cut : Has P cut b_spinneylaw14_cut
  h_same : Has P same (b_spinneylaw14_same TSm TRo)
  h_TRo : TyRoot P TRo TH
section
variable {P : Program} {f : Nat} {w : World}
def cutV (v : Value) (l : List Hash) : Value := subV v 32 0 (l.take 10).length
theorem cutV_sl {v : Value} {l : List Hash} (hS : SlC w v 32 l.length (hs l)) : SlC w (cutV v l) 32 (l.take 10).length (hs (l.take 10)) := by
  have hle : (l.take 10).length ≤ l.length := by rw [List.length_take]; omega
  have hr := subV_sl hS (Nat.zero_le _) hle
  rw [Nat.sub_zero, hs_take, Nat.zero_mul, List.drop_zero] at hr
  have : l.take (l.take 10).length = l.take 10 := by rw [List.length_take]; rcases Nat.le_total 10 l.length with h | h
                                                     · rw [Nat.min_eq_left h]
                                                     · rw [Nat.min_eq_right h, List.take_of_length_le (Nat.le_refl _), List.take_of_length_le h]
  rw [this] at hr
  exact hr
theorem cut_ok (A : LawF P) {v : Value} {l : List Hash} (hS : SlC w v 32 l.length (hs l)) : RetV P A.cut [v] w (cutV v l) := by
  refine Ret.of_exec A.h_cut (Nat.le_of_ble_eq_true rfl) fun c hc => ?_
  dsimp only [b_spinneylaw14_cut, argEnv, ym, yo, yg, ys, yt, yd, ye]
  refine xtm rfl rfl rfl ?_
  refine xtm rfl rfl rfl ?_
  refine xtm rfl rfl rfl ?_
  refine xpu (hS.lenS rfl) rfl ?_
  refine xju (ok_min2 (i := (l.length : Int)) (j := 10) rfl rfl) rfl ?_
  have hk : (if (10 : Int) < (l.length : Int) then 10 else (l.length : Int)) = (((l.take 10).length : Nat) : Int) := by
    rw [List.length_take]; split <;> omega
  rw [hk]
  have hle : (l.take 10).length ≤ l.length := by rw [List.length_take]; omega
  refine xju (ok_slSd (N := 32) (len := l.length) none (some (.tmp 6)) 0 (l.take 10).length rfl hS rfl ⟨.i64, rfl⟩ (Nat.zero_le _) hle) rfl ?_
  refine xr 1 rfl ?_
  exact xre hc [_] ⟨rfl, trivial⟩ ⟨rfl, Upd.refl _ _⟩
theorem rootsC_get : ∀ (l : List (Option Hash)) (i j : Nat) (o : Option Hash) (x : Value), l[i]? = some o → (rootC o)[j]? = some x → (rootsC l)[i * 33 + j]? = some x := by
  intro l
  induction l with
  | nil => intro i j o x hi; simp at hi
  | cons a l ih =>
    intro i j o x hi hj
    simp only [rootsC, List.flatMap_cons]
    have hjl : j < 33 := by have := (List.getElem?_eq_some_iff.1 hj).1; rw [rootC_len] at this; exact this
    cases i with
    | zero =>
      simp at hi; subst hi
      rw [Nat.zero_mul, Nat.zero_add, List.getElem?_append_left (by rw [rootC_len]; exact hjl)]; exact hj
    | succ i =>
      rw [List.getElem?_append_right (by rw [rootC_len]; omega), rootC_len, show (i + 1) * 33 + j - 33 = i * 33 + j by omega]
      exact ih i j o x (by simpa using hi) hj
theorem rootsC_at {v : Value} {l : List (Option Hash)} {i : Nat} {o : Option Hash} (hS : SlC w v 33 l.length (rootsC l)) (hi : l[i]? = some o) : ∃ b off cap, v = .slice (some ⟨b, off, none⟩) l.length cap ∧ i < l.length ∧ Mem w b (off + i * 33) (rootC o) := by
  have hlt := (List.getElem?_eq_some_iff.1 hi).1
  obtain ⟨b, off, cap, hv, hm, _⟩ := hS.at (by omega)
  exact ⟨b, off, cap, hv, hlt, hm.sub (i * 33) fun j x hj => rootsC_get l i j o x hi hj⟩
theorem SlC.slice {v : Value} {N len : Nat} {cs : List Value} (h : SlC w v N len cs) : ∃ a l c, v = .slice a l c := by
  rcases h with ⟨rfl | ⟨b, o, s, cap, rfl⟩, _⟩ | ⟨b, o, cap, rfl, _⟩
  · exact ⟨_, _, _, rfl⟩
  · exact ⟨_, _, _, rfl⟩
  · exact ⟨_, _, _, rfl⟩
theorem same_ok (A : LawF P) {rv rv' : Value} {n : Nat} {l : List (Option Hash)} (hS : SlC w rv 33 l.length (rootsC l)) (hS' : SlC w rv' 33 l.length (rootsC l)) (hl : l.length < 2 ^ 40) :
    RetV P A.same [.agg #[u64V n, rv], .agg #[u64V n, rv']] w (.bool true) := by
  obtain ⟨ra, rl, rc, rfl⟩ := hS.slice
  obtain ⟨sa, sl, sc, rfl⟩ := hS'.slice
  refine Ret.of_exec A.h_same (Nat.le_of_ble_eq_true rfl) fun c hc => ?_
  dsimp only [b_spinneylaw14_same, argEnv, ym, yo, yg, ys, yt, yd, ye]
  refine exec_box rfl rfl ?_
  intro b2 w1 hb2 hs1 hu1 hB2
  have hB2' : Blk w1 b2 [u64V n, .slice ra rl rc] := hB2
  refine exec_box rfl rfl ?_
  intro b3 w2 hb3 hs2 hu2 hB3
  have hB3' : Blk w2 b3 [u64V n, .slice sa sl sc] := hB3
  replace hB2' := hB2'.upd hu2
  have hE : Ext w w2 := hu1.trans hu2
  refine xr 2 rfl ?_
  refine exec_load1 (b := b2) (o := 0 + 0) rfl rfl (hB2'.cell rfl) ?_
  refine xr 1 rfl ?_
  refine exec_load1 (b := b3) (o := 0 + 0) rfl rfl (hB3'.cell rfl) ?_
  refine xpu (pv_neqI (a := n) (b := n) (q := false) rfl rfl (by simp)) rfl ?_
  refine xr 4 rfl ?_
  refine exec_load1 (b := b2) (o := 0 + 1) rfl rfl (hB2'.cell rfl) ?_
  refine xgr rfl ?_
  refine xpu (hS.lenS rfl) rfl ?_
  refine xr 3 rfl ?_
  refine exec_load1 (b := b3) (o := 0 + 1) rfl rfl (hB3'.cell rfl) ?_
  refine xgr rfl ?_
  refine xpu (hS'.lenS rfl) rfl ?_
  refine xgr rfl ?_
  refine xpu (pv_neqI (a := l.length) (b := l.length) (q := false) rfl rfl (by simp)) rfl ?_
  refine xr 5 rfl ?_
  refine xlo (S := Nat) (fun i W => i ≤ l.length ∧ Ext w2 W) (fun i => [(2, ptrV b2), (3, ptrV b3), (5, intV' i)]) (fun i => l.length - i) 0 ⟨Nat.zero_le _, Upd.refl _ _⟩ ⟨rfl, rfl, rfl, trivial⟩ ?_
  rintro i W ⟨i1, iU⟩
  refine xr 2 rfl ?_
  refine exec_load1 (b := b2) (o := 0 + 1) rfl rfl ((hB2'.upd iU).cell rfl) ?_
  refine xpu (hS.lenS rfl) rfl ?_
  have hwW := hE.trans iU
  by_cases hi : i < l.length
  · refine xpu (pv_lssI (a := i) (b := l.length) (q := true) rfl rfl (by simpa using hi)) rfl ?_
    refine xr 3 rfl ?_
    obtain ⟨y, hy⟩ : ∃ y, l[i]? = some y := ⟨_, List.getElem?_eq_getElem hi⟩
    obtain ⟨bd, od, cd, hdv, _, hmd⟩ := rootsC_at hS hy
    obtain ⟨be, oe, ce, hev, _, hme⟩ := rootsC_at hS' hy
    refine xen [(2, ptrV b2), (3, ptrV b3), (5, intV' i)] ⟨rfl, rfl, rfl, trivial⟩ ?_
    refine exec_dwr rfl rfl rfl ?_
    repeat (first | refine wtm rfl rfl rfl ?_ | refine wgt rfl rfl rfl rfl ?_ | refine wgs rfl rfl ?_)
    refine ws_keep (.slice ra rl rc) rfl (fun X hx => ok_load1 (b := b2) (o := 0 + 1) rfl (((hB2'.upd iU).upd hx).cell rfl)) ?_
    repeat (first | refine wtm rfl rfl rfl ?_ | refine wgt rfl rfl rfl rfl ?_ | refine wgs rfl rfl ?_)
    refine ws_keep _ rfl (fun X hx => ok_iaddr (N := 33) (b := bd) (o := od) (len := l.length) (cap := cd) (by rw [← hdv]; rfl) rfl i rfl hi) ?_
    refine ws_keep (rootV y) rfl (fun X hx => ok_loadN (b := bd) (o := od + i * 33) (vs := rootC y) rfl (hmd.upd (hwW.trans hx) (by simp)) (rootC_len _)) ?_
    repeat (first | refine wtm rfl rfl rfl ?_ | refine wgt rfl rfl rfl rfl ?_ | refine wgs rfl rfl ?_)
    refine ws_keep (.slice sa sl sc) rfl (fun X hx => ok_load1 (b := b3) (o := 0 + 1) rfl (((hB3'.upd iU).upd hx).cell rfl)) ?_
    repeat (first | refine wtm rfl rfl rfl ?_ | refine wgt rfl rfl rfl rfl ?_ | refine wgs rfl rfl ?_)
    refine ws_keep _ rfl (fun X hx => ok_iaddr (N := 33) (b := be) (o := oe) (len := l.length) (cap := ce) (by rw [← hev]; rfl) rfl i rfl hi) ?_
    refine ws_keep (rootV y) rfl (fun X hx => ok_loadN (b := be) (o := oe + i * 33) (vs := rootC y) rfl (hme.upd (hwW.trans hx) (by simp)) (rootC_len _)) ?_
    refine ws_fin fun w3 hw3 => ?_
    refine xju (ok_ne_root A.h_TRo A.h_TH rfl rfl) rfl ?_
    simp only [and_self, decide_true, Bool.not_true]
    refine xr 5 rfl ?_
    refine xpu (pv_addI (a := i) (b := 1) rfl rfl (by omega)) rfl ?_
    refine xr 1 rfl ?_
    exact xag (i + 1) ⟨hi, iU.trans hw3⟩ (by show l.length - (i + 1) < l.length - i; omega) ⟨rfl, rfl, rfl, trivial⟩
  · refine xpu (pv_lssI (a := i) (b := l.length) (q := false) rfl rfl (by simpa using hi)) rfl ?_
    refine xr 4 rfl ?_
    exact xre hc [_] ⟨rfl, trivial⟩ ⟨rfl, hwW⟩
end
end Go.Sp

namespace Go.Sp
/-- the hash of one byte and zeros -/
def hK (b : UInt8) : Hash := ⟨b :: List.replicate 31 0, rfl⟩
theorem hK_fill (b : UInt8) : fillL (rleL [(32, .int .u8 0)]) [(0, 1, .int .u8 b.toNat)] = some (hC (hK b)) := by
  rw [fillL_cons (size := 1) rfl (by decide)]
  rfl
theorem hK_ne {a b : UInt8} (h : a ≠ b) : hK a ≠ hK b := fun he => h (by have := congrArg (fun x : Hash => x.1.head?) he; simpa [hK] using this)
def lw1 : List (Option Hash) := [some (hK 1), some (hK 2), some (hK 3)]
def lw2 : List (Option Hash) := [none, some (hK 2), some (hK 3)]
theorem trees3 : treesN 3 = [1, 0] := by decide
theorem roots_lw1 : rootsT (treesT parH (lv lw1) 3) = [some (parH (hK 1) (hK 2)), some (hK 3)] := by
  rw [treesT, trees3]
  generalize parH = par
  rfl
theorem where_lw2 : whereT (treesT parH (lv lw2) 3) 3 1 = 4 := by
  rw [treesT, trees3]
  generalize parH = par
  have hr : rootN 3 1 = some 4 := by decide
  have hf : firstN 3 1 = 0 := by decide
  simp only [List.map_cons, whereT, hf, buildT, lv, lw2, List.find?]
  simp [inT, joinT, hr, whereN]
theorem Granted.not_refused {L : List (Option Hash)} {del add : List Hash} {e : Nat} (h : Granted L del add) : ¬ Refused L del add e := by
  rintro (⟨_, x, h1, h2⟩ | ⟨_, _, h1⟩ | ⟨_, _, _, h1⟩)
  · exact h2 (h.live x h1)
  · exact h1 h.once
  · exact h1 ⟨h.new, h.free⟩
/-- the functions of the laws, on -/
structure LawG (P : Program) extends LawF P where
  works : Nat
  TWo : Nat
  TWs : Nat
  h_works : Has P works (b_spinneylaw14_works new' modify stump where' parent TH TWo TWs)
section
variable {P : Program} {f : Nat} {w : World}
theorem nilS (w : World) : SlC w (.slice none 0 0) 32 ([] : List Hash).length (hs []) := .inl ⟨.inl rfl, rfl, rfl⟩
theorem works_ok (A : LawG P) (hT : Tabs A.toShaF w) : RetV P A.works [] w (.bool true) := by
  refine Ret.of_exec A.h_works (Nat.le_of_ble_eq_true rfl) fun c hc => ?_
  dsimp only [b_spinneylaw14_works, argEnv, ym, yo, yg, ys, yt, yd, ye]
  refine xr 1 rfl ?_
  refine xca rfl rfl (new_ok A.toForM) ?_
  rintro _ w1 ⟨p, m, rfl, hp, hm, hF, hu1⟩
  refine xr 1 rfl ?_
  refine xju (ok_mkL (l := [(0, 1, .int .u8 1)]) (cs := hC (hK 1)) rfl (hK_fill 1)) rfl ?_
  refine xju (ok_mkL (l := [(0, 1, .int .u8 2)]) (cs := hC (hK 2)) rfl (hK_fill 2)) rfl ?_
  refine exec_new rfl ?_
  intro b2 w2 hb2 hs2 hu2 hB2
  refine exec_new rfl ?_
  intro b3 w3 hb3 hs3 hu3 hB3
  refine exec_store (b := b2) (o := 0) (v := hV (hK 1)) rfl rfl (hB2.upd hu3) (hV_size _) (by simp [rle]) (by rw [hV_cells]; exact hC_cell _) ?_
  intro w4 hu4 _ hB24
  refine exec_store (b := b3) (o := 0) (v := hV (hK 2)) rfl rfl (hB3.upd hu4 (by simp; omega)) (hV_size _) (by simp [rle]) (by rw [hV_cells]; exact hC_cell _) ?_
  intro w5 hu5 _ hB35
  rw [hV_cells, splice_all (by simp [hC_length, rle])] at hB24 hB35
  have hB25 := hB24.upd hu5 (by simp; omega)
  have z1 := hu1.size
  have k1 := hF.lt
  have hE15 : Ext w1 w5 := ((hu2.trans hu3).trans hu4 (fun b hb => .inr (by simp at hb; omega))).trans hu5 (fun b hb => .inr (by simp at hb; omega))
  refine xr 1 rfl ?_
  refine exec_loadN (b := b2) (o := 0) (vs := hC (hK 1)) rfl rfl hB25.memAll (hC_length _) ?_
  refine exec_loadN (b := b3) (o := 0) (vs := hC (hK 2)) rfl rfl hB35.memAll (hC_length _) ?_
  refine xju (ok_mkL (l := [(0, 1, .int .u8 3)]) (cs := hC (hK 3)) rfl (hK_fill 3)) rfl ?_
  refine exec_litL (N := 32) (cs := hs [hK 1, hK 2, hK 3]) (l := [(0, 32, hV (hK 1)), (32, 32, hV (hK 2)), (64, 32, hV (hK 3))]) rfl rfl rfl rfl ?_
  intro bl w6 hbl hs6 hu6 hOl
  have hE16 := hE15.trans hu6
  have hG : Granted [] [] [hK 1, hK 2, hK 3] := ⟨by simp, by simp, by simp [hK_ne (show (1 : UInt8) ≠ 2 by decide), hK_ne (show (1 : UInt8) ≠ 3 by decide), hK_ne (show (2 : UInt8) ≠ 3 by decide)], by simp⟩
  refine xca rfl rfl (modify_ok A.toForL (hT.upd (hu1.trans hE16)) (hF.ext hE16) (del := []) (add := [hK 1, hK 2, hK 3]) (nilS _) hOl.sl (by simp) (by simp) (by simp)) ?_
  rintro v w7 (⟨e, _, hR, _⟩ | ⟨u, rfl, _, hF7, hU7, hu7⟩)
  · exact absurd hR hG.not_refused
  have ht6 := (hF.ext hE16).tabs (hT.upd (hu1.trans hE16))
  have hT7 : Tabs A.toShaF w7 := (hT.upd (hu1.trans hE16)).upd hu7 ht6.1 ht6.2
  have hmod : modL [] [hK 1, hK 2, hK 3] [] = lw1 := rfl
  rw [hmod] at hF7
  have hB27 : Blk w7 b2 (hC (hK 1)) := (hB25.upd hu6).upd hu7 (by simp; omega)
  have hB37 : Blk w7 b3 (hC (hK 2)) := (hB35.upd hu6).upd hu7 (by simp; omega)
  have hw7 : Ext w w7 := (hu1.trans hE16).trans hu7 (fun b hb => .inr (by simp at hb; rcases hb with rfl | rfl <;> omega))
  refine xr 3 rfl ?_
  refine exec_new_store (v := u) rfl rfl rfl hU7.cells.1 rfl hU7.cells.2 ?_
  intro b4 w8 hb4 hs8 hu8 hB4
  refine xr 2 rfl ?_
  refine xen [(1, ptrV p), (2, ptrV b2), (3, ptrV b3), (5, intV' 0), (23, ptrV p)] ⟨rfl, rfl, rfl, rfl, rfl, trivial⟩ ?_
  refine xca rfl rfl (stump_ok A.toForO (hF7.ext hu8)) ?_
  rintro _ w9 ⟨rv, rfl, hu9, hO9, hf9⟩
  rw [show (Fo.L ⟨lw1, _, _⟩).length = 3 from rfl, roots_lw1] at hO9
  obtain ⟨br, off, rc, rfl, _, _⟩ := rootsC_at (l := [some (parH (hK 1) (hK 2)), some (hK 3)]) (i := 0) hO9.sl rfl
  refine exec_new_store (v := .agg #[u64V 3, .slice (some ⟨br, off, none⟩) 2 rc]) rfl rfl rfl rfl rfl rfl ?_
  intro b6 w10 hb6 hs10 hu10 hB6
  have hB6' : Blk w10 b6 [u64V 3, .slice (some ⟨br, off, none⟩) 2 rc] := hB6
  have hE710 : Ext w7 w10 := (hu8.trans hu9).trans hu10
  have hO10 := hO9.upd hu10 (by simp)
  refine xr 1 rfl ?_
  refine exec_loadN (b := b2) (o := 0) (vs := hC (hK 1)) rfl rfl (hB27.upd hE710).memAll (hC_length _) ?_
  refine exec_litL (N := 32) (cs := hs [hK 1]) (l := [(0, 32, hV (hK 1))]) rfl (by rw [hash_fill]; simp [hs]) rfl rfl ?_
  intro bm w11 hbm hs11 hu11 hOm
  have hE711 := hE710.trans hu11
  have hG2 : Granted lw1 [hK 1] [] := ⟨by simp [lw1], by simp, by simp, by simp⟩
  refine xca rfl rfl (modify_ok A.toForL (hT7.upd hE711) (hF7.ext hE711) (del := [hK 1]) (add := []) hOm.sl (nilS _) (by simp [lw1]) (by simp) (by simp)) ?_
  rintro v w12 (⟨e, _, hR, _⟩ | ⟨u2, rfl, _, hF12, hU12, hu12⟩)
  · exact absurd hR hG2.not_refused
  have hmod2 : modL [hK 1] [] lw1 = lw2 := by
    simp [modL, goneL, lw1, lw2, Option.filter, hK_ne (show (2 : UInt8) ≠ 1 by decide), hK_ne (show (3 : UInt8) ≠ 1 by decide)]
  have hF12' : FAt w12 p m ⟨lw2, 2, 2⟩ := by rw [← hmod2]; exact hF12
  have ht11 := (hF7.ext hE711).tabs (hT7.upd hE711)
  have hT12 : Tabs A.toShaF w12 := (hT7.upd hE711).upd hu12 ht11.1 ht11.2
  have z7 := hE16.size
  have z711 := hE711.size
  have z67 := hu7.size
  have hB312 : Blk w12 b3 (hC (hK 2)) := (hB37.upd hE711).upd hu12 (by simp; omega)
  have hB212 : Blk w12 b2 (hC (hK 1)) := (hB27.upd hE711).upd hu12 (by simp; omega)
  have hB612 : Blk w12 b6 [u64V 3, .slice (some ⟨br, off, none⟩) 2 rc] := (hB6'.upd hu11).upd hu12 (by simp; have := hu8.size; have := hu9.size; omega)
  have hO12 := (hO10.upd hu11 (by simp)).upd hu12 (by
    intro b hb hm
    have := hf9 b hb
    have := hu8.size
    simp at hm
    omega)
  have hw12 : Ext w w12 := (hw7.trans hE711).trans hu12 (fun b hb => .inr (by simp at hb; rcases hb with rfl | rfl <;> omega))
  refine xr 3 rfl ?_
  refine exec_new_store (v := u2) rfl rfl rfl hU12.cells.1 rfl hU12.cells.2 ?_
  intro b7 w13 hb7 hs13 hu13 hB7
  refine xr 2 rfl ?_
  refine exec_loadN (b := b3) (o := 0) (vs := hC (hK 2)) rfl rfl (hB312.upd hu13).memAll (hC_length _) ?_
  refine xca rfl rfl (where_ok A.toForN (hF12'.ext hu13) (hK 2)) ?_
  rintro v w14 ⟨hu14, hcase⟩
  rcases hcase with ⟨_, hno⟩ | ⟨x, rfl, hx⟩
  · exact absurd (by simp [lw2]) hno
  have hx1 : x = 1 := by
    have hx' : lw2[x]? = some (some (hK 2)) := hx
    match x, hx' with
    | 0, h => cases h
    | 1, _ => rfl
    | 2, h => exact absurd (Option.some.inj (Option.some.inj h)).symm (hK_ne (by decide))
    | x + 3, h => simp [lw2] at h
  subst hx1
  rw [show (Fo.L ⟨lw2, 2, 2⟩).length = 3 from rfl, where_lw2]
  have hE14 : Ext w12 w14 := hu13.trans hu14
  refine xr 5 rfl ?_
  refine xen [(2, ptrV b2), (3, ptrV b3), (5, intV' 0), (6, ptrV b6), (8, intV' 0), (9, u64V 4), (10, .bool true)] ⟨rfl, rfl, rfl, rfl, rfl, rfl, rfl, trivial⟩ ?_
  refine exec_dwr rfl rfl rfl ?_
  repeat (first | refine wtm rfl rfl rfl ?_ | refine wgt rfl rfl rfl rfl ?_ | refine wgs rfl rfl ?_)
  refine ws_val rfl (pv_eqlI (a := 0) (b := 0) (q := true) rfl rfl rfl) ?_
  repeat (first | refine wtm rfl rfl rfl ?_ | refine wgt rfl rfl rfl rfl ?_ | refine wgs rfl rfl ?_)
  refine ws_gval rfl rfl (pv_eqlI (a := 0) (b := 0) (q := true) rfl rfl rfl) ?_
  repeat (first | refine wtm rfl rfl rfl ?_ | refine wgt rfl rfl rfl rfl ?_ | refine wgs rfl rfl ?_)
  refine ws_gkeep (.slice (some ⟨br, off, none⟩) 2 rc) rfl rfl (fun X hx => ok_load1 (b := b6) (o := 0 + 1) rfl ((hB612.upd (hE14.trans hx)).cell rfl)) ?_
  refine ws_gval rfl rfl (hO12.sl.lenS rfl) ?_
  refine ws_gval rfl rfl (pv_eqlI (a := 2) (b := 2) (q := true) rfl rfl rfl) ?_
  repeat (first | refine wtm rfl rfl rfl ?_ | refine wgt rfl rfl rfl rfl ?_ | refine wgs rfl rfl ?_)
  refine ws_gkeep (.slice (some ⟨br, off, none⟩) 2 rc) rfl rfl (fun X hx => ok_load1 (b := b6) (o := 0 + 1) rfl ((hB612.upd (hE14.trans hx)).cell rfl)) ?_
  obtain ⟨br2, off2, cap2, hrv2, _, hmr⟩ := rootsC_at (l := [some (parH (hK 1) (hK 2)), some (hK 3)]) (i := 0) hO12.sl rfl
  cases hrv2
  refine ws_gkeep _ rfl rfl (fun X hx => ok_iaddr (N := 33) (b := br) (o := off) (len := 2) (cap := rc) rfl rfl 0 rfl (by omega)) ?_
  repeat (first | refine wtm rfl rfl rfl ?_ | refine wgt rfl rfl rfl rfl ?_ | refine wgs rfl rfl ?_)
  have hmh : Mem w12 br (off + 0 * 33 + 1) (hC (parH (hK 1) (hK 2))) := hmr.sub 1 fun j x hj => by
    show (Value.bool true :: hC (parH (hK 1) (hK 2)))[1 + j]? = some x
    rw [Nat.add_comm, List.getElem?_cons_succ]; exact hj
  refine ws_gkeep (hV (parH (hK 1) (hK 2))) rfl rfl (fun X hx => ok_loadN (b := br) (o := off + 0 * 33 + 1) rfl (hmh.upd (hE14.trans hx) (by simp)) (hC_length _)) ?_
  refine ws_gkeep (hV (hK 1)) rfl rfl (fun X hx => ok_loadN (b := b2) (o := 0) rfl (hB212.upd (hE14.trans hx)).memAll (hC_length _)) ?_
  refine ws_gkeep (hV (hK 2)) rfl rfl (fun X hx => ok_loadN (b := b3) (o := 0) rfl (hB312.upd (hE14.trans hx)).memAll (hC_length _)) ?_
  refine ws_gext (hV (parH (hK 1) (hK 2))) rfl rfl (fun X hx => ok_call rfl (parH_ok A.toLeafF (hT12.upd (hE14.trans hx)) (hK 1) (hK 2))) ?_
  refine ws_fin fun w15 hw15 => ?_
  refine xgr rfl ?_
  refine xju (ok_eq_hash A.h_TH rfl rfl) rfl ?_
  simp only [decide_true]
  refine xr 9 rfl ?_
  refine xpu (pv_eqlI (a := 4) (b := 4) (q := true) rfl rfl rfl) rfl ?_
  refine xr 2 rfl ?_
  exact xre hc [_] ⟨rfl, trivial⟩ ⟨rfl, (hw12.trans hE14).trans hw15⟩
end
end Go.Sp

namespace Go.Sp
/-- worlds in which a forest's number and trees are written anew -/
structure TwoSet (p : Nat) (N T c2 c3 c4 : Value) (a b : World) : Prop where
  upd : Upd [p] a b
  keep : ∀ x y, Blk a p [x, y, c2, c3, c4] → ∃ x' y', Blk b p [x', y', c2, c3, c4] ∧ (x = N → x' = N) ∧ (y = T → y' = T)
theorem TwoSet.ext {p : Nat} {N T c2 c3 c4 : Value} {a b : World} (h : Ext a b) : TwoSet p N T c2 c3 c4 a b := ⟨h.mono (by simp), fun x y hB => ⟨x, y, hB.upd h, id, id⟩⟩
theorem TwoSet.trans {p : Nat} {N T c2 c3 c4 : Value} {a b c : World} (h : TwoSet p N T c2 c3 c4 a b) (k : TwoSet p N T c2 c3 c4 b c) : TwoSet p N T c2 c3 c4 a c :=
  ⟨h.upd.trans k.upd, fun x y hB => by
    obtain ⟨x', y', h1, h2, h3⟩ := h.keep x y hB
    obtain ⟨x2, y2, k1, k2, k3⟩ := k.keep x' y' h1
    exact ⟨x2, y2, k1, fun e => k2 (h2 e), fun e => k3 (h3 e)⟩⟩
theorem where_undo {wl gl cl l2 : List (Hash × Nat)} {L : List (Option Hash)} {del add : List Hash} (h : WhereOK wl (modL del add L)) (hg : goneMap gl L del) (hc : newMap cl L.length add) (ha : Granted L del add)
    (h2 : ∀ h, aget h l2 = (aget h gl).or (if (aget h cl).isSome then none else aget h wl)) : WhereOK l2 L := by
  intro x i
  have key : (modL del add L)[i]? = some (some x) ↔ (L[i]? = some (some x) ∧ x ∉ del) ∨ ∃ k, add[k]? = some x ∧ i = L.length + k := by
    rw [modL]
    rcases Nat.lt_or_ge i L.length with hi | hi
    · rw [List.getElem?_append_left (by rw [goneL_len]; exact hi), goneL_get]
      constructor
      · exact .inl
      · rintro (h | ⟨k, _, h⟩)
        · exact h
        · omega
    · rw [List.getElem?_append_right (by rw [goneL_len]; exact hi), goneL_len, List.getElem?_map]
      have hn : L[i]? = none := List.getElem?_eq_none hi
      constructor
      · intro h
        refine .inr ⟨i - L.length, ?_, by omega⟩
        cases ho : add[i - L.length]? with
        | none => rw [ho] at h; cases h
        | some y => rw [ho] at h; cases h; rfl
      · rintro (⟨h, _⟩ | ⟨k, h, rfl⟩)
        · rw [hn] at h; cases h
        · rw [Nat.add_sub_cancel_left, h]; rfl
  rw [h2]
  cases hgo : aget x gl with
  | some j =>
    have hj := (hg x j).1 hgo
    simp only [Option.some_or, Option.some.injEq]
    constructor
    · rintro rfl; exact hj.2
    · intro hi
      have := (hg x i).2 ⟨hj.1, hi⟩
      rw [hgo] at this; exact Option.some.inj this
  | none =>
    simp only [Option.none_or]
    have hnd : ∀ i, L[i]? = some (some x) → x ∉ del := fun i hi hd => by rw [(hg x i).2 ⟨hd, hi⟩] at hgo; cases hgo
    cases hco : aget x cl with
    | some j =>
      obtain ⟨k, hk, _⟩ := (hc x j).1 hco
      simp only [Option.isSome_some, if_true]
      constructor
      · intro h; cases h
      · intro hi
        exact absurd (ha.free x (List.mem_of_getElem? hk) (List.mem_of_getElem? hi)) (hnd i hi)
    | none =>
      have hno : ¬ ∃ k, add[k]? = some x ∧ i = L.length + k := fun h => by rw [(hc x i).2 h] at hco; cases hco
      simp only [Option.isSome_none, Bool.false_eq_true, if_false]
      rw [h x i, key]
      constructor
      · rintro (⟨h1, _⟩ | h1)
        · exact h1
        · exact absurd h1 hno
      · intro hi; exact .inl ⟨hi, hnd i hi⟩
/-- the functions of forest, on -/
structure ForQ (P : Program) extends ForP P where
  undo : Nat
  TUo : Nat
  h_undo : Has P undo (b_Pforest_Forest_Undo is' change TUo TPF)
  h_TPE : ∃ j, P.info? TPE = some j ∧ j.size ≠ 0
section
variable {P : Program} {f : Nat} {w : World}
theorem undo_no (A : ForQ P) {p m q m' : Nat} {s s0 : Fo} {t : Nat} {u : Value} {del add : List Hash} {cs : List Value} (h : FAt w p m s) (hU : UAt w u q m' s0 t del add) (hq : Blk w q cs) (hn : q ≠ p ∨ t ≠ s.turn) :
    RetV P A.undo [ptrV p, u] w (intV' 2) := by
  have hF := h
  obtain ⟨⟨tv, wl, h1, h2, h3, h4⟩, h5, h6⟩ := h
  obtain ⟨⟨tu, gr, cr, gl, cl, rfl, u2, u3, u4, u5, u6, g1, g2, g3, g4⟩, u7, u8⟩ := hU
  obtain ⟨ta, tl, tc, rfl⟩ := u2.own.val
  refine Ret.of_exec A.h_undo (Nat.le_of_ble_eq_true rfl) fun c hc => ?_
  dsimp only [b_Pforest_Forest_Undo, argEnv, ym, yo, yg, ys, yt, yd, ye]
  refine exec_box rfl rfl ?_
  intro b3 w1 hb3 hs1 hu1 hB3
  have hB3' : Blk w1 b3 (undoC q t s0.turn s0.L.length (.slice ta tl tc) gr cr) := hB3
  clear hB3
  refine xr 3 rfl ?_
  refine xca rfl rfl (is_ok A.toForJ (hF.ext hu1)) ?_
  rintro _ w2 ⟨rfl, hu2⟩
  refine xr 3 rfl ?_
  have hE2 : Ext w w2 := hu1.trans hu2
  have hB3 := hB3'.upd hu2
  obtain ⟨j, hj, hsz⟩ := A.h_TPE
  refine xen [(0, ptrV p), (3, ptrV b3)] ⟨rfl, rfl, trivial⟩ ?_
  obtain ⟨Tp, hhp⟩ := h1.upd hE2
  have hcmp : ∀ X, Ext w2 X → ∀ (e : Env) (x y : Operand), e.ev x = some (ptrV q) → e.ev y = some (ptrV p) → OpOK P (.bin .neq A.TPF x y) e X (Just (.bool (!decide (q = p))) X) := by
    intro X hx e x y hex hey
    obtain ⟨Tq, hhq⟩ := hq.upd (hE2.trans hx)
    obtain ⟨Tp, hhp⟩ := h1.upd (hE2.trans hx)
    have := ok_ne_ptr A.h_TPF hj hsz (a := ⟨q, 0, none⟩) (b := ⟨p, 0, none⟩) hex hey hhq hhp
    simpa using this
  by_cases hqp : q = p
  · have ht : t ≠ s.turn := by rcases hn with h | h; · exact absurd hqp h
                               · exact h
    simp only [hqp, decide_true, Bool.not_true] at hcmp
    refine exec_dwr rfl rfl rfl ?_
    repeat (first | refine wtm rfl rfl rfl ?_ | refine wgt rfl rfl rfl rfl ?_ | refine wgs rfl rfl ?_)
    refine ws_keep (ptrV p) rfl (fun X hx => by rw [← hqp]; exact ok_load1 (b := b3) (o := 0 + 0) rfl ((hB3.upd hx).cell rfl)) ?_
    repeat (first | refine wtm rfl rfl rfl ?_ | refine wgt rfl rfl rfl rfl ?_ | refine wgs rfl rfl ?_)
    refine ws_keep (.bool false) rfl (fun X hx => hcmp X hx _ _ _ rfl rfl) ?_
    repeat (first | refine wtm rfl rfl rfl ?_ | refine wgt rfl rfl rfl rfl ?_ | refine wgs rfl rfl ?_)
    refine ws_gkeep (intV' t) rfl rfl (fun X hx => ok_load1 (b := b3) (o := 0 + 1) rfl ((hB3.upd hx).cell rfl)) ?_
    repeat (first | refine wtm rfl rfl rfl ?_ | refine wgt rfl rfl rfl rfl ?_ | refine wgs rfl rfl ?_)
    refine ws_gkeep (intV' s.turn) rfl rfl (fun X hx => ok_load1 (b := p) (o := 0 + 3) rfl ((h1.upd (hE2.trans hx)).cell rfl)) ?_
    refine ws_fin fun w3 hw3 => ?_
    refine xgr rfl ?_
    refine xpu (pv_neqI (a := t) (b := s.turn) (q := true) rfl rfl (by simpa using ht)) rfl ?_
    refine xr 4 rfl ?_
    exact xre hc [_] ⟨rfl, trivial⟩ ⟨rfl, hE2.trans hw3⟩
  · simp only [hqp, decide_false, Bool.not_false] at hcmp
    refine exec_dwr rfl rfl rfl ?_
    repeat (first | refine wtm rfl rfl rfl ?_ | refine wgt rfl rfl rfl rfl ?_ | refine wgs rfl rfl ?_)
    refine ws_keep (ptrV q) rfl (fun X hx => ok_load1 (b := b3) (o := 0 + 0) rfl ((hB3.upd hx).cell rfl)) ?_
    repeat (first | refine wtm rfl rfl rfl ?_ | refine wgt rfl rfl rfl rfl ?_ | refine wgs rfl rfl ?_)
    refine ws_keep (.bool true) rfl (fun X hx => hcmp X hx _ _ _ rfl rfl) ?_
    repeat (first | refine wtm rfl rfl rfl ?_ | refine wgt rfl rfl rfl rfl ?_ | refine wgs rfl rfl ?_)
    refine ws_fin fun w3 hw3 => ?_
    refine xr 5 rfl ?_
    exact xre hc [_] ⟨rfl, trivial⟩ ⟨rfl, hE2.trans hw3⟩
set_option maxHeartbeats 800000 in
theorem undo_ok (A : ForQ P) {p m : Nat} {s s0 : Fo} {u : Value} {del add : List Hash} (h : FAt w p m s) (hU : UAt w u p m s0 s.turn del add) (hL : s.L = modL del add s0.L) (hGr : Granted s0.L del add) :
    Ret P A.undo [ptrV p, u] w fun v w' => v = intV' 0 ∧ FAt w' p m ⟨s0.L, s0.turn, s.turns⟩ ∧ Upd [p, m] w w' := by
  have hF := h
  have hne := h.ne
  have hfor := h.foreign
  obtain ⟨⟨tv, wl, h1, h2, h3, h4⟩, h5, h6⟩ := h
  obtain ⟨⟨tu, gr, cr, gl, cl, rfl, u2, u3, u4, u5, u6, g1, g2, g3, g4⟩, u7, u8⟩ := hU
  obtain ⟨ta, tl, tc, rfl⟩ := u2.own.val
  refine Ret.of_exec A.h_undo (Nat.le_of_ble_eq_true rfl) fun c hc => ?_
  dsimp only [b_Pforest_Forest_Undo, argEnv, ym, yo, yg, ys, yt, yd, ye]
  refine exec_box rfl rfl ?_
  intro b3 w1 hb3 hs1 hu1 hB3
  have hB3' : Blk w1 b3 (undoC p s.turn s0.turn s0.L.length (.slice ta tl tc) gr cr) := hB3
  clear hB3
  refine xr 3 rfl ?_
  refine xca rfl rfl (is_ok A.toForJ (hF.ext hu1)) ?_
  rintro _ w2 ⟨rfl, hu2⟩
  refine xr 3 rfl ?_
  have hE2 : Ext w w2 := hu1.trans hu2
  have hB3 := hB3'.upd hu2
  have k1 := h1.lt
  have k3 := h3.lt
  have z12 := hu2.size
  obtain ⟨j, hj, hsz⟩ := A.h_TPE
  refine xen [(0, ptrV p), (3, ptrV b3)] ⟨rfl, rfl, trivial⟩ ?_
  have hcmp : ∀ X, Ext w2 X → ∀ (e : Env) (x y : Operand), e.ev x = some (ptrV p) → e.ev y = some (ptrV p) → OpOK P (.bin .neq A.TPF x y) e X (Just (.bool false) X) := by
    intro X hx e x y hex hey
    obtain ⟨Tp, hhp⟩ := h1.upd (hE2.trans hx)
    have := ok_ne_ptr A.h_TPF hj hsz (a := ⟨p, 0, none⟩) (b := ⟨p, 0, none⟩) hex hey hhp hhp
    simpa using this
  refine exec_dwr rfl rfl rfl ?_
  repeat (first | refine wtm rfl rfl rfl ?_ | refine wgt rfl rfl rfl rfl ?_ | refine wgs rfl rfl ?_)
  refine ws_keep (ptrV p) rfl (fun X hx => ok_load1 (b := b3) (o := 0 + 0) rfl ((hB3.upd hx).cell rfl)) ?_
  repeat (first | refine wtm rfl rfl rfl ?_ | refine wgt rfl rfl rfl rfl ?_ | refine wgs rfl rfl ?_)
  refine ws_keep (.bool false) rfl (fun X hx => hcmp X hx _ _ _ rfl rfl) ?_
  repeat (first | refine wtm rfl rfl rfl ?_ | refine wgt rfl rfl rfl rfl ?_ | refine wgs rfl rfl ?_)
  refine ws_gkeep (intV' s.turn) rfl rfl (fun X hx => ok_load1 (b := b3) (o := 0 + 1) rfl ((hB3.upd hx).cell rfl)) ?_
  repeat (first | refine wtm rfl rfl rfl ?_ | refine wgt rfl rfl rfl rfl ?_ | refine wgs rfl rfl ?_)
  refine ws_gkeep (intV' s.turn) rfl rfl (fun X hx => ok_load1 (b := p) (o := 0 + 3) rfl ((h1.upd (hE2.trans hx)).cell rfl)) ?_
  refine ws_fin fun w3 hw3 => ?_
  refine xgr rfl ?_
  refine xpu (pv_neqI (a := s.turn) (b := s.turn) (q := false) rfl rfl (by simp)) rfl ?_
  refine xr 7 rfl ?_
  have hE3 : Ext w w3 := hE2.trans hw3
  have hB33 := hB3.upd hw3
  have h13 := h1.upd hE3
  have hbp : b3 ≠ p := by omega
  refine xen [(0, ptrV p), (3, ptrV b3)] ⟨rfl, rfl, trivial⟩ ?_
  have hE : ∀ a b, Ext a b → TwoSet p (u64V s0.L.length) (.slice ta tl tc) (.map (some m)) (intV' s.turn) (intV' s.turns) a b := fun a b h => TwoSet.ext h
  have hld : ∀ X, TwoSet p (u64V s0.L.length) (.slice ta tl tc) (.map (some m)) (intV' s.turn) (intV' s.turns) w3 X → Blk X b3 (undoC p s.turn s0.turn s0.L.length (.slice ta tl tc) gr cr) := fun X hx => hB33.upd hx.upd (by simpa using hbp)
  refine exec_dr (TwoSet p (u64V s0.L.length) (.slice ta tl tc) (.map (some m)) (intV' s.turn) (intV' s.turns))
    (fun i W => match i with
      | 11 => ∃ y, Blk W p [u64V s0.L.length, y, .map (some m), intV' s.turn, intV' s.turns]
      | 14 => ∃ x, Blk W p [x, .slice ta tl tc, .map (some m), intV' s.turn, intV' s.turns]
      | _ => True) hE (fun a b c h k => h.trans k) ?_ rfl rfl rfl ?_
  · intro i a b hr hf
    match i, hf with
    | 11, hf =>
      obtain ⟨y, hy⟩ := hf
      obtain ⟨x', y', q1, q2, _⟩ := hr.keep _ _ hy
      rw [q2 rfl] at q1
      exact ⟨y', q1⟩
    | 14, hf =>
      obtain ⟨x, hx⟩ := hf
      obtain ⟨x', y', q1, _, q2⟩ := hr.keep _ _ hx
      rw [q2 rfl] at q1
      exact ⟨x', q1⟩
    | 0, _ | 1, _ | 2, _ | 3, _ | 4, _ | 5, _ | 6, _ | 7, _ | 8, _ | 9, _ | 10, _ | 12, _ | 13, _ => trivial
    | n + 15, _ => trivial
  repeat refine wr_tame hE rfl (fun _ => trivial) rfl ?_
  refine wr_ok (u64V s0.L.length) hE (fun _ => trivial) (fun X hx => ok_load1 (b := b3) (o := 0 + 3) rfl ((hld X hx).cell rfl)) ?_
  repeat refine wr_tame hE rfl (fun _ => trivial) rfl ?_
  refine wr_ok (.slice ta tl tc) hE (fun _ => trivial) (fun X hx => ok_load1 (b := b3) (o := 0 + 4) rfl ((hld X hx).cell rfl)) ?_
  repeat refine wr_tame hE rfl (fun _ => trivial) rfl ?_
  refine wr_ok (intV' s0.turn) hE (fun _ => trivial) (fun X hx => ok_load1 (b := b3) (o := 0 + 2) rfl ((hld X hx).cell rfl)) ?_
  repeat refine wr_tame hE rfl (fun _ => trivial) rfl ?_
  refine wr_store p (0 + 0) (u64V s0.L.length) rfl rfl rfl rfl (fun X hx => ?_) ?_
  · obtain ⟨x', y', q1, _, _⟩ := hx.keep _ _ h13
    refine ⟨_, q1, by simp, fun X' hX' hB' => ⟨⟨hX', fun x y hxy => ?_⟩, y', hB'⟩⟩
    have := blk_inj hxy q1
    simp only [List.cons.injEq, and_true] at this
    obtain ⟨rfl, rfl⟩ := this
    exact ⟨_, _, hB', fun _ => rfl, id⟩
  repeat refine wr_tame hE rfl (fun _ => trivial) rfl ?_
  refine wr_store p (0 + 1) (.slice ta tl tc) rfl rfl rfl rfl (fun X hx => ?_) ?_
  · obtain ⟨x', y', q1, _, _⟩ := hx.keep _ _ h13
    refine ⟨_, q1, by simp, fun X' hX' hB' => ⟨⟨hX', fun x y hxy => ?_⟩, x', hB'⟩⟩
    have := blk_inj hxy q1
    simp only [List.cons.injEq, and_true] at this
    obtain ⟨rfl, rfl⟩ := this
    exact ⟨_, _, hB', id, fun _ => rfl⟩
  refine wr_end fun X hx hf => ?_
  obtain ⟨y, hy⟩ : ∃ y, Blk X p [u64V s0.L.length, y, .map (some m), intV' s.turn, intV' s.turns] := hf 11 (by decide)
  obtain ⟨x, hx2⟩ : ∃ x, Blk X p [x, .slice ta tl tc, .map (some m), intV' s.turn, intV' s.turns] := hf 14 (by decide)
  have hxy := blk_inj hy hx2
  simp only [List.cons.injEq, and_true, true_and] at hxy
  obtain ⟨rfl, rfl⟩ := hxy
  clear hx2
  have hB3X := hld X hx
  have hwX : Upd [p] w X := (hE3.mono (m := [p]) (by simp)).trans hx.upd
  refine xr 2 rfl ?_
  refine exec_store (b := p) (o := 0 + 3) (v := intV' s0.turn) rfl rfl hy rfl (by simp) rfl ?_
  intro Y hY _ hBY
  have hBY' : Blk Y p [u64V s0.L.length, .slice ta tl tc, .map (some m), intV' s0.turn, intV' s.turns] := hBY
  clear hBY
  have hwY : Upd [p] w Y := hwX.trans hY
  have hB3Y := hB3X.upd hY (by simpa using hbp)
  refine xr 2 rfl ?_
  refine exec_load1 (b := b3) (o := 0 + 6) rfl rfl (hB3Y.cell rfl) ?_
  refine xr 1 rfl ?_
  refine exec_load1 (b := b3) (o := 0 + 5) rfl rfl (hB3Y.cell rfl) ?_
  refine xca rfl rfl (change_ok A.toForK hBY' (h3.upd hwY (by simp; omega)) (u4.upd hwY (by simp; exact g3)) (u3.upd hwY (by simp; exact g1)) (fun e => g4 e.symm) (fun e => g2 e.symm)) ?_
  rintro _ Z ⟨l2, hM2, hl2, huZ⟩
  refine xr 1 rfl ?_
  have hwZ : Upd [p, m] w Z := (hwY.mono (m := [p, m]) (by simp)).trans huZ
  refine xre hc [_] ⟨rfl, trivial⟩ ⟨rfl, ⟨⟨.slice ta tl tc, l2, hBY'.upd huZ (by simp; exact hne), u2.upd hwZ hfor, hM2, ?_⟩, by show s0.L.length < _; omega, ⟨h6.1, u8⟩⟩, hwZ⟩
  rw [hL] at h4
  exact where_undo h4 u5 u6 hGr hl2
end
end Go.Sp

namespace Go.Sp
/-- the functions of forest, on -/
structure ForR (P : Program) extends ForQ P where
  mclone : Nat
  cloneM : Nat
  copy : Nat
  TIf : Nat
  TCp : Nat
  h_mclone : ∃ fn, P.funcs[mclone]? = some fn ∧ (fn.name == "runtime.NumGoroutine") = false ∧ fn.body.isNone = true ∧ Extern.findNext fn = none ∧ Extern.find fn = some Extern.MapsClone.clone
  h_cloneM : Has P cloneM (b_maps_Clone_map_api_Hashuint64_api_Hash_uint64 mclone TMp TIf)
  h_copy : Has P copy (b_Pforest_Forest_Copy is' cloneT cloneM TCp)
section
variable {P : Program} {f : Nat} {w : World}
theorem ok_mkIface {e : Env} {T K E : TypeId} {x : Operand} {v : Value} (hT : P.underlying T = some (.map K E)) (hx : e.ev x = some v) : OpOK P (.mkIface T x) e w (Just (.iface T v) w) :=
  ok_val fun a hk => by simp [MOp.sem, Env.ok_ev hk hx, Instr.makeInterface, run_underlying hT]
theorem ok_tassert {e : Env} {T U K E : TypeId} {x : Operand} {v : Value} (hT : P.underlying U = some (.map K E)) (hx : e.ev x = some (.iface U v)) : OpOK P (.tassert T U x) e w (Just v w) :=
  ok_val fun a hk => by simp [MOp.sem, Env.ok_ev hk hx, Instr.typeAssert, run_underlying hT]
theorem ok_mclone {e : Env} {x : Operand} {T : TypeId} {g r : Nat} {α β : Type} {enc : α → Value} {encV : β → Value} {l : List (α × β)} (hg : ∃ fn, P.funcs[g]? = some fn ∧ (fn.name == "runtime.NumGoroutine") = false ∧ fn.body.isNone = true ∧ Extern.findNext fn = none ∧ Extern.find fn = some Extern.MapsClone.clone)
    (hx : e.ev x = some (.iface T (.map (some r)))) (hm : MapAt w r enc encV l) :
    OpOK P (.callx g #[x]) e w fun v W => v = .iface T (.map (some w.heap.size)) ∧ MapAt W w.heap.size enc encV l ∧ Ext w W := by
  obtain ⟨es, clock, h1, h2⟩ := hm
  obtain ⟨fn, g1, g2, g3, g4, g5⟩ := hg
  have h : OpOK P (.callx g #[x]) e w fun u W => u = .iface T (.map (some w.heap.size)) ∧ W = w.alloc (.map es clock) := ok_val fun a hk => by
    have e1 : (#[x].map a.eval) = #[.iface T (.map (some r))] := by simp [Env.ok_ev hk hx]
    have hgo : (getObj r).run P w = .ok (.map es clock) w := by simp [getObj, Sem.run, h1]
    simp only [MOp.sem, e1]
    rw [run_callFunc_extern g1 g2 g3 g4 g5]
    have e2 : Extern.MapsClone.clone #[.iface T (.map (some r))] = (getObj r >>= fun o => match o with
      | .map entries clock => (newObj (.map entries clock) >>= fun n => pure (.iface T (.map (some n))))
      | _ => stuck "maps.clone: a map expected") := rfl
    rw [e2]
    simp [hgo]
  refine h.mono ?_
  rintro v W ⟨rfl, rfl⟩
  refine ⟨rfl, ⟨es, clock, ?_, h2⟩, Upd.alloc _ _ _⟩
  show (w.heap.push _)[w.heap.size]? = _
  simp
theorem cloneM_ok (A : ForR P) {r : Nat} {l : List (Hash × Nat)} (hm : MapAt w r hV u64V l) : Ret P A.cloneM [.map (some r)] w fun v w' => ∃ q, v = .map (some q) ∧ w.heap.size ≤ q ∧ MapAt w' q hV u64V l ∧ Ext w w' := by
  refine Ret.of_exec A.h_cloneM (Nat.le_of_ble_eq_true rfl) fun c hc => ?_
  dsimp only [b_maps_Clone_map_api_Hashuint64_api_Hash_uint64, argEnv, ym, yo, yg, ys, yt, yd, ye]
  refine xr 2 rfl ?_
  refine xju (ok_eq_nilmap A.h_TMp rfl rfl) rfl ?_
  refine xr 3 rfl ?_
  refine xju (ok_mkIface A.h_TMp rfl) rfl ?_
  refine exec_ok (ok_mclone A.h_mclone rfl hm) rfl ?_
  rintro v w1 ⟨rfl, hm1, hu1⟩
  refine xju (ok_tassert A.h_TMp rfl) rfl ?_
  refine xr 1 rfl ?_
  exact xre hc [_] ⟨rfl, trivial⟩ ⟨_, rfl, Nat.le_refl _, hm1, hu1⟩
theorem copy_ok (A : ForR P) {p m : Nat} {s : Fo} (h : FAt w p m s) : Ret P A.copy [ptrV p] w fun v w' => ∃ q mq, v = ptrV q ∧ w.heap.size ≤ q ∧ w.heap.size ≤ mq ∧ FAt w' q mq s ∧ Ext w w' := by
  have hF := h
  have hlen := h.len
  obtain ⟨⟨tv, wl, h1, h2, h3, h4⟩, h5, h6⟩ := h
  obtain ⟨ta, tl, tc, rfl⟩ := h2.own.val
  refine Ret.of_exec A.h_copy (Nat.le_of_ble_eq_true rfl) fun c hc => ?_
  dsimp only [b_Pforest_Forest_Copy, argEnv, ym, yo, yg, ys, yt, yd, ye]
  refine xr 2 rfl ?_
  refine xca rfl rfl (is_ok A.toForJ hF) ?_
  rintro _ w1 ⟨rfl, hu1⟩
  refine xr 5 rfl ?_
  refine exec_loadN (b := p) (o := 0) (vs := [u64V s.L.length, .slice ta tl tc, .map (some m), intV' s.turn, intV' s.turns]) rfl rfl (h1.upd hu1).memAll rfl ?_
  refine exec_new_store (v := .agg #[u64V s.L.length, .slice ta tl tc, .map (some m), intV' s.turn, intV' s.turns]) rfl rfl rfl rfl rfl rfl ?_
  intro b3 w2 hb3 hs2 hu2 hB3
  have hB3' : Blk w2 b3 [u64V s.L.length, .slice ta tl tc, .map (some m), intV' s.turn, intV' s.turns] := hB3
  clear hB3
  have hE2 : Ext w w2 := hu1.trans hu2
  have z1 := hu1.size
  have hlenT := treesT_len parH (L := lv s.L) (n := s.L.length) (by omega)
  refine xen [(0, ptrV p), (3, ptrV b3)] ⟨rfl, rfl, trivial⟩ ?_
  refine exec_dw [] rfl rfl rfl ?_
  repeat (first | refine dau rfl (fun _ => rfl) ?_ | refine dga rfl (fun _ => rfl) (fun _ => rfl) ?_ | refine dgs (fun _ => rfl) ?_)
  refine dw_keep (.slice ta tl tc) (fun vs X hx _ => ok_load1 (b := p) (o := 0 + 1) rfl ((h1.upd (hE2.trans hx)).cell rfl)) ?_
  refine dw_rel [] (fun X _ v => TreesF X v (treesT parH (lv s.L) s.L.length) ∧ ∀ b ∈ blkOf v, w2.heap.size ≤ b) rfl (fun X X' xs v _ hx h => ⟨h.1.ext hx, h.2⟩) ?_ ?_
  · intro vs X hx _
    refine (ok_call rfl (cloneT_ok A.toForH (h2.ext (hE2.trans hx)).own.sl (by omega))).mono ?_
    rintro v X' ⟨q1, q2, q3, q4⟩
    have := hx.size
    exact ⟨q2, ⟨q1, fun h0 => q4 (h2.nil h0)⟩, fun b hb => by have := q3 b hb; omega⟩
  repeat (first | refine dau rfl (fun _ => rfl) ?_ | refine dga rfl (fun _ => rfl) (fun _ => rfl) ?_ | refine dgs (fun _ => rfl) ?_)
  refine dw_keep (.map (some m)) (fun vs X hx _ => ok_load1 (b := p) (o := 0 + 2) rfl ((h1.upd (hE2.trans hx)).cell rfl)) ?_
  refine dw_end fun vs w3 hu3 hf => ?_
  obtain ⟨⟨hT4, hb4⟩, _⟩ := hf
  generalize hv4 : vs 4 = tv' at hT4 hb4
  obtain ⟨sa, sl, sc, rfl⟩ := hT4.own.val
  have hE3 := hE2.trans hu3
  refine xen [(0, ptrV p), (3, ptrV b3), (14, .slice sa sl sc), (18, .map (some m))] ⟨rfl, rfl, by show some (vs 4) = _; rw [hv4], rfl, trivial⟩ ?_
  refine xca rfl rfl (cloneM_ok A (h3.upd hE3)) ?_
  rintro _ w4 ⟨mq, rfl, hmq, hM4, hu4⟩
  have hB34 := (hB3'.upd hu3).upd hu4
  refine xr 1 rfl ?_
  refine exec_store (b := b3) (o := 0 + 1) (v := .slice sa sl sc) rfl rfl hB34 rfl (by simp) rfl ?_
  intro w5 hu5 _ hB5
  have hB5' : Blk w5 b3 [u64V s.L.length, .slice sa sl sc, .map (some m), intV' s.turn, intV' s.turns] := hB5
  clear hB5
  refine xr 1 rfl ?_
  refine exec_store (b := b3) (o := 0 + 2) (v := .map (some mq)) rfl rfl hB5' rfl (by simp) rfl ?_
  intro w6 hu6 _ hB6
  have hB6' : Blk w6 b3 [u64V s.L.length, .slice sa sl sc, .map (some mq), intV' s.turn, intV' s.turns] := hB6
  clear hB6
  refine xr 1 rfl ?_
  have z3 := hE3.size
  have z23 := hu3.size
  have k3 := hB3'.lt
  have hU46 : Upd [b3] w4 w6 := hu5.trans hu6
  have hno : Foreign w4 [b3] := Foreign.cons (Foreign.blk hB34 (Strange.head (by simp [u64V]) (by simp [u64V]))) (Foreign.nil _)
  refine xre hc [_] ⟨rfl, trivial⟩ ⟨b3, mq, rfl, by omega, by omega, ⟨⟨.slice sa sl sc, wl, hB6', (hT4.ext hu4).upd hU46 hno, hM4.upd hU46 (by simp; omega), h4⟩, h5, h6⟩, (hE3.trans hu4).trans hU46 (fun b hb => .inr (by simp at hb; omega))⟩
end
end Go.Sp

namespace Go.Sp
theorem wayCut_last {n : Nat} : ∀ (l : List Nat) (row : Nat) (r : List Nat), wayCut n row l = some r → ∃ row' q, r.getLast? = some q ∧ rootN n row' = some q := by
  intro l
  induction l with
  | nil => intro row r h; cases h
  | cons q l ih =>
    intro row r h
    simp only [wayCut] at h
    split at h
    · cases h
      exact ⟨row, q, rfl, by assumption⟩
    · obtain ⟨r', hr', rfl⟩ := Option.map_eq_some_iff.1 h
      obtain ⟨row', q', h1, h2⟩ := ih _ _ hr'
      refine ⟨row', q', ?_, h2⟩
      rw [List.getLast?_cons, h1]; rfl
theorem rootN_row {n h q : Nat} (hq : rootN n h = some q) : n < 2 ^ 63 ∧ bitN n h = true ∧ rowN q (rowsN n) = some h := by
  unfold rootN at hq
  split at hq
  · rename_i hc
    obtain ⟨h1, h2, h3⟩ := hc
    cases hq
    refine ⟨h1, h3, row_posN (rowsN_le h1) h2 ?_⟩
    have hle := le_rows h1
    have hp : 0 < 2 ^ h := Nat.pow_pos (by omega)
    have e1 : n / 2 ^ h ≤ 2 ^ (rowsN n - h) := by
      have : 2 ^ rowsN n = 2 ^ (rowsN n - h) * 2 ^ h := by rw [← Nat.pow_add]; congr 1; omega
      rw [this] at hle
      exact Nat.div_le_of_le_mul (by rw [Nat.mul_comm]; exact hle)
    have e2 : n / 2 ^ h % 2 = 1 := by simpa [bitN] using h3
    rw [Nat.pow_succ, ← Nat.div_div_eq_div_mul]
    omega
  · cases hq
theorem treeN_bit {n p h : Nat} (ht : treeN n p = some h) : n < 2 ^ 63 ∧ bitN n h = true ∧ wayN n p ≠ [] := by
  unfold treeN at ht
  split at ht
  · cases ht
  · rename_i q hq
    have hne : wayN n p ≠ [] := by intro he; rw [he] at hq; cases hq
    unfold wayN at hq
    split at hq
    · split at hq
      · cases hq
      · rename_i row _
        cases hw : wayCut n row (chainN 64 (rowsN n) p) with
        | none => rw [hw] at hq; cases hq
        | some r =>
          rw [hw] at hq
          obtain ⟨row', q', h1, h2⟩ := wayCut_last _ _ _ hw
          have : q' = q := by
            have h3 : r.getLast? = some q := hq
            rw [h1] at h3; exact Option.some.inj h3
          subst this
          obtain ⟨g1, g2, g3⟩ := rootN_row h2
          rw [g3] at ht; cases ht
          exact ⟨g1, g2, hne⟩
    · cases hq
section
variable {H : Type}
def stepT (t : Option (Tr H)) (q : Nat) : Option (Tr H) := match t with
  | some (.pair _ l r _) => some (if q % 2 = 0 then l else r)
  | _ => none
theorem step_none (l : List Nat) : l.foldl stepT (none : Option (Tr H)) = none := by
  induction l with
  | nil => rfl
  | cons q l ih => exact ih
def nodeN (par : H → H → H) (L : Nat → Option H) (n p : Nat) : Option (Tr H) := match treeN n p with
  | none => none
  | some h => (wayN n p).dropLast.reverse.foldl stepT (buildT par L h (firstN n h))
theorem find_high (par : H → H → H) {L : Nat → Option H} {n h : Nat} (hn : n < 2 ^ 63) (hb : bitN n h = true) (h63 : h < 63) : (treesT par L n).find? (fun t => decide (t.2.2 = h)) = some (buildT par L h (firstN n h), firstN n h, h) := by
  have hm : h ∈ treesN n := (treesN_mem hn).2 ⟨h63, hb⟩
  rw [treesT]
  clear hn hb h63
  generalize treesN n = ks at hm ⊢
  induction ks with
  | nil => simp at hm
  | cons k ks ih =>
    simp only [List.map_cons, List.find?_cons]
    by_cases hk : k = h
    · subst hk; simp
    · simp only [hk, decide_false]
      refine ih ?_
      rcases List.mem_cons.1 hm with h1 | h1
      · exact absurd h1.symm hk
      · exact h1
end
end Go.Sp

namespace Go.Sp
/-- the functions of forest, on -/
structure ForS (P : Program) extends ForR P where
  isLeft : Nat
  back1 : Nat
  back : Nat
  node1 : Nat
  node : Nat
  atF : Nat
  TBk : Nat
  TN1 : Nat
  TNi : Nat
  h_isLeft : Has P isLeft b_pos_IsLeft
  h_back1 : Has P back1 b_slices_Backward_uint64_uint64_1
  h_back : Has P back (b_slices_Backward_uint64_uint64 back1 TBk)
  h_node1 : Has P node1 (b_Pforest_Forest_node_1 TN1)
  h_node : Has P node (b_Pforest_Forest_node nf.tree node1 index nf.way back isLeft TNode TNi)
  h_at : Has P atF (b_Pforest_Forest_At is' node TH TNode)
section
variable {P : Program} {f : Nat} {w : World}
theorem node1_ok (A : ForS P) {bx h : Nat} (hB : Blk w bx [intV' h]) (u : Value) (t : TT Hash) : RetV P A.node1 [.agg #[u, u64V t.2.1, intV' t.2.2], ptrV bx] w (.bool (decide (t.2.2 = h))) := by
  refine Ret.of_exec A.h_node1 (Nat.le_of_ble_eq_true rfl) fun c hc => ?_
  dsimp only [b_Pforest_Forest_node_1, argEnv, ym, yo, yg, ys, yt, yd, ye]
  refine exec_box rfl rfl ?_
  intro b2 w1 hb2 hs1 hu1 hB2
  have hB2' : Blk w1 b2 [u, u64V t.2.1, intV' t.2.2] := by simpa [Value.cells] using hB2
  refine xr 2 rfl ?_
  refine exec_load1 (b := b2) (o := 0 + 2) rfl rfl (hB2'.cell rfl) ?_
  refine exec_load1 (b := bx) (o := 0) rfl rfl ((hB.upd hu1).cell rfl) ?_
  refine xpu (pv_eqlI (a := t.2.2) (b := h) (q := decide (t.2.2 = h)) rfl rfl rfl) rfl ?_
  refine xr 1 rfl ?_
  exact xre hc [_] ⟨rfl, trivial⟩ ⟨rfl, hu1⟩
theorem back_ok (A : ForS P) {v : Value} (hv : ∃ a l c, v = .slice a l c) : Ret P A.back [v] w fun r w' => ∃ bs, r = .func (.func A.back1) #[] #[ptrV bs] ∧ Blk w' bs [v] ∧ bs = w.heap.size ∧ Ext w w' := by
  obtain ⟨a, l, cp, rfl⟩ := hv
  refine Ret.of_exec A.h_back (Nat.le_of_ble_eq_true rfl) fun c hc => ?_
  dsimp only [b_slices_Backward_uint64_uint64, argEnv, ym, yo, yg, ys, yt, yd, ye]
  refine exec_box rfl rfl ?_
  intro b w2 hb hs hu hB
  refine xr 3 rfl ?_
  exact xre hc [_] ⟨rfl, trivial⟩ ⟨b, rfl, hB, hb, hu⟩
set_option maxHeartbeats 1600000 in
theorem node_ok (A : ForS P) {p m : Nat} {s : Fo} (h : FAt w p m s) (x : Nat) (hx : x < 2 ^ 64) : Ret P A.node [ptrV p, u64V x] w fun v w' => OTr w' v (nodeN parH (lv s.L) s.L.length x) ∧ Ext w w' := by
  have hF := h
  have hlen := h.len
  obtain ⟨⟨tv, wl, h1, h2, h3, h4⟩, _⟩ := h
  refine Ret.of_exec A.h_node (Nat.le_of_ble_eq_true rfl) fun c hc => ?_
  dsimp only [b_Pforest_Forest_node, argEnv, ym, yo, yg, ys, yt, yd, ye]
  refine exec_new rfl ?_
  intro b4 w1 hb4 hs1 hu1 hB4
  have hB4' : Blk w1 b4 [.pointer none] := hB4
  clear hB4
  refine xr 3 rfl ?_
  refine exec_load1 (b := p) (o := 0 + 0) rfl rfl ((h1.upd hu1).cell rfl) ?_
  refine xr 1 rfl ?_
  refine xca rfl rfl (tree_ok A.nf.toWayF s.L.length x (by omega) hx) ?_
  rintro _ w2 ⟨rfl, hu2⟩
  rw [optV_eq]
  have hE2 := hu1.trans hu2
  refine xr 3 rfl ?_
  refine exec_new_store (v := intV' ((treeN s.L.length x).getD 0)) rfl rfl rfl rfl rfl rfl ?_
  intro b5 w3 hb5 hs3 hu3 hB5
  have hB5' : Blk w3 b5 [intV' ((treeN s.L.length x).getD 0)] := hB5
  clear hB5
  have hE3 := hE2.trans hu3
  have hB43 := (hB4'.upd hu2).upd hu3
  have z2 := hu2.size
  have z1 := hu1.size
  refine xr 3 rfl ?_
  refine xen [(0, ptrV p), (1, u64V x), (4, ptrV b4), (5, ptrV b5), (22, .bool (!(treeN s.L.length x).isSome))] ⟨rfl, rfl, rfl, rfl, rfl, trivial⟩ ?_
  cases ht : treeN s.L.length x with
  | none =>
    refine exec_cond rfl (fun _ => ?_) (fun hq => by cases hq)
    refine exec_store (b := b4) (o := 0) (v := .pointer none) rfl rfl hB43 rfl (by simp) rfl ?_
    intro w4 hu4 _ hB44
    have hB44' : Blk w4 b4 [.pointer none] := hB44
    refine xre hc [_] ⟨⟨b4, 0, rfl, hB44'.cell rfl⟩, trivial⟩ ⟨?_, hE3.trans hu4 (fun b hb => .inr (by simp at hb; omega))⟩
    rw [nodeN, ht]; rfl
  | some hg =>
    rw [ht] at hB5'
    have hB5h : Blk w3 b5 [intV' hg] := hB5'
    obtain ⟨hn63, hbit, hway⟩ := treeN_bit ht
    have hg63 : hg < 63 := by
      have hle := bitN_le hbit
      have : 0 < 2 ^ hg := Nat.pow_pos (by omega)
      exact pow_lt_imp (by omega)
    refine exec_cond rfl (fun hq => by cases hq) (fun _ => ?_)
    refine xr 4 rfl ?_
    refine exec_load1 (b := p) (o := 0 + 1) rfl rfl ((h1.upd hE3).cell rfl) ?_
    refine xr 1 rfl ?_
    have hlenT := treesT_len parH (L := lv s.L) hn63
    refine xca rfl rfl (indexT_ok A.toForM (h2.ext hE3).own.sl (by omega) A.h_node1.enters (cs := [ptrV b5]) (q := fun t => decide (t.2.2 = hg)) (fun W u t hu _ => node1_ok A (hB5h.upd hu) u t)) ?_
    rintro v4 w4 ⟨hu4, hcase⟩
    have hfh := find_high parH (L := lv s.L) hn63 hbit hg63
    rcases hcase with ⟨_, hno⟩ | ⟨i, t, rfl, hti, hfind⟩
    · have := hno _ (List.mem_of_find?_eq_some hfh)
      simp at this
    rw [hfh] at hfind
    cases hfind
    have hE4 := hE3.trans hu4
    have hil := (List.getElem?_eq_some_iff.1 hti).1
    obtain ⟨us, hR, hO⟩ := h2.own
    obtain ⟨u, hu⟩ : ∃ u, us[i]? = some u := ⟨_, List.getElem?_eq_getElem (by rw [hR.len]; exact hil)⟩
    have hOu := hR.at' i u _ hu hti
    obtain ⟨pu, rfl⟩ := otr_ptr hOu
    obtain ⟨g0, g1, g2⟩ := cellsT_get us _ i _ _ hu hti
    obtain ⟨bt, ot, cap, rfl, hmt, _⟩ := hO.sl.at (by omega)
    have hM1 : Mem w bt (ot + i * 3) [.pointer pu] := hmt.sub (i * 3) (us := [.pointer pu]) (fun k y hk => by
      match k, hk with
      | 0, hk => cases hk; exact g0)
    refine xr 4 rfl ?_
    refine exec_load1 (b := p) (o := 0 + 1) rfl rfl ((h1.upd hE4).cell rfl) ?_
    refine xr 1 rfl ?_
    refine xju (ok_iaddr (N := 3) (b := bt) (o := ot) rfl rfl i rfl hil) rfl ?_
    refine xr 1 rfl ?_
    refine exec_load1 (b := bt) (o := ot + i * 3 + 0) (v := .pointer pu) rfl rfl ((hM1.upd hE4 (by simp)) 0 _ rfl) ?_
    refine exec_new_store (v := .pointer pu) rfl rfl rfl rfl rfl rfl ?_
    intro b8 w5 hb8 hs5 hu5 hB8
    have hB8' : Blk w5 b8 [.pointer pu] := hB8
    clear hB8
    have hE5 := hE4.trans hu5
    refine xr 3 rfl ?_
    refine exec_load1 (b := p) (o := 0 + 0) rfl rfl ((h1.upd hE5).cell rfl) ?_
    refine xr 1 rfl ?_
    refine xca rfl rfl (way_ok A.nf.toWayF s.L.length x (by omega) hx) ?_
    rintro wv w6 ⟨hO6, hu6, hf6⟩
    have hE6 := hE5.trans hu6
    refine xtm rfl rfl rfl ?_
    refine xtm rfl rfl rfl ?_
    refine xtm rfl rfl rfl ?_
    refine xpu (hO6.sl.lenS rfl) rfl ?_
    have hw0 : 0 < (wayN s.L.length x).length := List.length_pos_iff.2 hway
    have hw65 := wayN_length s.L.length x
    refine xpu (pv_subI (a := (wayN s.L.length x).length) (b := 1) rfl rfl (by omega) (by omega)) rfl ?_
    refine xju (ok_slSd (N := 1) (len := (wayN s.L.length x).length) none (some (.tmp 46)) 0 ((wayN s.L.length x).length - 1) rfl hO6.sl rfl ⟨.i64, rfl⟩ (Nat.zero_le _) (by omega)) rfl ?_
    have hsub := subV_sl hO6.sl (Nat.zero_le ((wayN s.L.length x).length - 1)) (show (wayN s.L.length x).length - 1 ≤ (wayN s.L.length x).length by omega)
    have hcs : (((wayN s.L.length x).map u64V).take (((wayN s.L.length x).length - 1) * 1)).drop (0 * 1) = (wayN s.L.length x).dropLast.map u64V := by
      simp only [Nat.mul_one, Nat.zero_mul, List.drop_zero]
      rw [← List.map_take, List.dropLast_eq_take]
    rw [hcs, Nat.sub_zero] at hsub
    have hdl : (wayN s.L.length x).dropLast.length = (wayN s.L.length x).length - 1 := List.length_dropLast
    rw [← hdl] at hsub ⊢
    generalize hsv : subV wv 1 0 (wayN s.L.length x).dropLast.length = sv at hsub
    have hbl : ∀ b ∈ blkOf sv, w5.heap.size ≤ b ∧ b < w6.heap.size := by
      intro b hb
      have hbw : b ∈ blkOf wv := by
        rw [← hsv] at hb
        rcases hO6 with ⟨rfl, _⟩ | ⟨b', cap', rest', rfl, _⟩
        · simp [subV, blkOf] at hb
        · simp only [subV, blkOf] at hb ⊢
          split at hb <;> simpa using hb
      exact ⟨hf6 b hbw, hO6.lt b hbw⟩
    refine xca rfl rfl (back_ok A (by rcases hsub with ⟨rfl | ⟨_, _, _, _, rfl⟩, _⟩ | ⟨_, _, _, rfl, _⟩ <;> exact ⟨_, _, _, rfl⟩)) ?_
    rintro _ w7 ⟨bs, rfl, hBs, hbs, hu7⟩
    have hE7 := hE6.trans hu7
    have hB47 := ((((hB43.upd hu4).upd hu5).upd hu6).upd hu7)
    have hB87 := (hB8'.upd hu6).upd hu7
    have hO7 : OTr w7 (.pointer pu) (buildT parH (lv s.L) hg (firstN s.L.length hg)) := hOu.ext hE7
    have z5 := hE5.size
    have z67 := hu7.size
    have z56 := hu6.size
    have k4 := hB43.lt
    have z34 := hu4.size
    have z45 := hu5.size
    have hb48 : b4 ≠ b8 := by omega
    refine xen [(0, ptrV p), (4, ptrV b4), (8, ptrV b8), (48, .func (.func A.back1) #[] #[ptrV bs])] ⟨rfl, rfl, rfl, rfl, trivial⟩ ?_
    refine xbk ?_
    have hxl : ((wayN s.L.length x).dropLast.zipIdx.map (fun p : Nat × Nat => (p.2, p.1))).reverse.map Prod.snd = (wayN s.L.length x).dropLast.reverse := by
      rw [List.map_reverse, List.map_map]
      congr 1
      apply List.ext_getElem?
      intro k
      simp only [List.getElem?_map, List.getElem?_zipIdx, Option.map_map]
      cases (wayN s.L.length x).dropLast[k]? <;> rfl
    generalize hxs : ((wayN s.L.length x).dropLast.zipIdx.map (fun p : Nat × Nat => (p.2, p.1))).reverse = xs at hxl
    have hx64 : ∀ (i : Nat) (q : Nat × Nat), xs[i]? = some q → q.2 < 2 ^ 64 := by
      intro i q hq
      have : q.2 ∈ (wayN s.L.length x).dropLast.reverse := by rw [← hxl]; exact List.mem_map.2 ⟨q, List.mem_of_getElem? hq, rfl⟩
      rw [List.mem_reverse] at this
      exact wayN_lt hx _ (List.dropLast_subset _ this)
    refine exec_rangeF (S := Value) (e := [(0, ptrV p), (4, ptrV b4), (8, ptrV b8), (48, .func (.func A.back1) #[] #[ptrV bs])]) rfl A.h_back1.enters hc.rd (bs :: blkOf sv) [] (fun q : Nat × Nat => [intV' q.1, u64V q.2]) xs
      (fun W hu => by rw [← hxs]; exact backward1_ok A.h_back1 (hBs.upd hu) ((hsub.upd hu7 (by simp)).upd hu (by simp)) (by rw [hdl]; omega) (fun b hb => by have := (hbl b hb).2; have := hu.size; omega))
      (fun q => u64V q.2) (fun _ => rfl) rfl
      w7.heap.size [b4, b8] (fun _ => [])
      (fun k u W => k ≤ xs.length ∧ Upd [b4, b8] w7 W ∧ Blk W b4 [.pointer none] ∧ Blk W b8 [u] ∧ OTr w7 u (((xs.take k).map Prod.snd).foldl stepT (buildT parH (lv s.L) hg (firstN s.L.length hg))))
      (fun cd _ W => cd = none ∧ Upd [b4, b8] w7 W ∧ Blk W b4 [.pointer none] ∧ (xs.map Prod.snd).foldl stepT (buildT parH (lv s.L) hg (firstN s.L.length hg)) = none) (.pointer pu) ?_ ?_ ?_ ?_ ?_ ?_ ?_ (fun _ => rfl) rfl ?_ ?_ ?_
    · rintro k u W W' l' ⟨q1, q2, q3, q4, q5⟩ hu hb
      have n4 : b4 ∉ l' := fun hm => by have := (hb _ hm).1; omega
      have n8 : b8 ∉ l' := fun hm => by have := (hb _ hm).1; omega
      exact ⟨q1, q2.trans hu (fun b hb' => .inr (hb b hb').1), q3.upd hu n4, q4.upd hu n8, q5⟩
    · rintro cd u W W' l' ⟨q1, q2, q3, q4⟩ hu hb
      have n4 : b4 ∉ l' := fun hm => by have := (hb _ hm).1; omega
      exact ⟨q1, q2.trans hu (fun b hb' => .inr (hb b hb').1), q3.upd hu n4, q4⟩
    · exact ⟨Nat.zero_le _, Upd.refl _ _, hB47, hB87, hO7⟩
    · exact Nat.le_refl _
    · intro b hb; simp at hb; omega
    · simp
    · intro b hb
      rcases List.mem_cons.1 hb with rfl | hb
      · exact ⟨hBs.lt, by simp; omega, by simp⟩
      · have := hbl b hb; exact ⟨by omega, by simp; omega, by simp⟩
    · rintro l c' k u W q hc' ⟨q1, q2, q3, q4, q5⟩ hq hlw hnw
      have htk : xs.take (k + 1) = xs.take k ++ [q] := by rw [List.take_add_one, hq]; rfl
      have hkl := (List.getElem?_eq_some_iff.1 hq).1
      have hq64 := hx64 k q hq
      have hno : NoNode w7 [b4, b8] := fun b hb cs hcs => by
        simp only [List.mem_cons, List.not_mem_nil, or_false] at hb
        rcases hb with rfl | rfl
        · rw [blk_inj hcs hB47]; rintro ⟨h, _⟩; simp at h
        · rw [blk_inj hcs hB87]; rintro ⟨h, _⟩; simp at h
      have q5W := q5.upd q2 hno
      have hfold : (xs.map Prod.snd).foldl stepT (buildT parH (lv s.L) hg (firstN s.L.length hg)) = ((xs.drop (k + 1)).map Prod.snd).foldl stepT (stepT (((xs.take k).map Prod.snd).foldl stepT (buildT parH (lv s.L) hg (firstN s.L.length hg))) q.2) := by
        conv => lhs; rw [← List.take_append_drop (k + 1) xs, htk]
        simp only [List.map_append, List.foldl_append, List.map_cons, List.map_nil, List.foldl_cons, List.foldl_nil]
      have hnext : ((xs.take (k + 1)).map Prod.snd).foldl stepT (buildT parH (lv s.L) hg (firstN s.L.length hg)) = stepT (((xs.take k).map Prod.snd).foldl stepT (buildT parH (lv s.L) hg (firstN s.L.length hg))) q.2 := by
        rw [htk]; simp only [List.map_append, List.foldl_append, List.map_cons, List.map_nil, List.foldl_cons, List.foldl_nil]
      have k4' := q3.lt
      have k8' := q4.lt
      refine xbk ?_
      obtain ⟨pz, rfl⟩ := otr_ptr q5
      refine exec_load1 (b := b8) (o := 0) rfl rfl (q4.cell rfl) ?_
      have dead : stepT (((xs.take k).map Prod.snd).foldl stepT (buildT parH (lv s.L) hg (firstN s.L.length hg))) q.2 = none → ∀ (e : Env) (is : List Ins) (K : Kont) (X : World), e.get 4 = some (ptrV b4) → Ext W X → K.unwind 0 = none ∨ True → Exec P 71 c' [] (.op none none (.store 1 (.tmp 4) (.const (.pointer none))) :: .ret :: is) K e X := by
        intro hz e is K X h4e hX _
        refine exec_store (b := b4) (o := 0) (v := .pointer none) h4e rfl (q3.upd hX) rfl (by simp) rfl ?_
        intro Y hY _ hBY
        have hWY : Upd [b4, b8] W Y := (hX.mono (m := [b4, b8]) (by simp)).trans hY (by simp)
        refine exec_round_ret hc' ⟨.pointer none, ⟨rfl, q2.trans hWY (by simp), hBY, ?_⟩, by simpa using hWY, by simp, by simp⟩
        rw [hfold, hz, step_none]
      generalize hgt : ((xs.take k).map Prod.snd).foldl stepT (buildT parH (lv s.L) hg (firstN s.L.length hg)) = tz at *
      cases tz with
      | none =>
        have : pz = none := by have : Value.pointer pz = .pointer none := q5; cases this; rfl
        subst this
        refine xju (ok_eq_nil A.h_TNode rfl rfl) rfl ?_
        refine xr 8 rfl ?_
        exact dead rfl _ _ _ _ rfl (Upd.refl _ _) (.inr trivial)
      | some tr =>
        cases tr with
        | leaf hh =>
          obtain ⟨bn, he, hBn⟩ := q5W
          cases he
          refine xju (ok_eq_nil A.h_TNode rfl rfl) rfl ?_
          refine xr 2 rfl ?_
          refine exec_load1 (b := b8) (o := 0) rfl rfl (q4.cell rfl) ?_
          refine xr 5 rfl ?_
          refine exec_load1 (b := bn) (o := 0 + 32) rfl rfl (node_cell0 hBn).2.1 ?_
          refine xgr rfl ?_
          refine xju (ok_eq_nil A.h_TNode rfl rfl) rfl ?_
          refine xr 2 rfl ?_
          exact dead rfl _ _ _ _ rfl (Upd.refl _ _) (.inr trivial)
        | pair hh l r mid =>
          have q5' := q5
          obtain ⟨bn, vl, vr, he, hBn0, hm62, hl0, hr0⟩ := q5'
          obtain ⟨bn', vl', vr', he', hBn, _, hl, hr⟩ := q5W
          cases he
          cases he'
          have := blk_inj (hBn0.upd q2 (fun hm => hno _ hm _ hBn0 ⟨by simp [hC_length], hC_head _ _⟩)) hBn
          have hvv : vl = vl' ∧ vr = vr' := by
            have := List.append_cancel_left this
            simpa using this
          obtain ⟨rfl, rfl⟩ := hvv
          obtain ⟨bl, _, _, _, rfl, _⟩ := TrAt.node hl0
          obtain ⟨br, _, _, _, rfl, _⟩ := TrAt.node hr0
          refine xju (ok_eq_nil A.h_TNode rfl rfl) rfl ?_
          refine xr 2 rfl ?_
          refine exec_load1 (b := b8) (o := 0) rfl rfl (q4.cell rfl) ?_
          refine xr 5 rfl ?_
          refine exec_load1 (b := bn) (o := 0 + 32) rfl rfl (node_cell0 hBn).2.1 ?_
          refine xgr rfl ?_
          refine xju (ok_eq_nil A.h_TNode rfl rfl) rfl ?_
          refine xr 4 rfl ?_
          refine xca rfl rfl (isLeft_ok A.h_isLeft q.2 hq64) ?_
          rintro _ W2 ⟨rfl, hW2⟩
          have q42 := q4.upd hW2
          have hBn2 := hBn.upd hW2
          have k82 := hW2.size
          have fin : ∀ (vz : Value) (tz : Tr Hash) (Y : World), Upd [b8] W2 Y → Blk Y b8 [vz] → TrAt w7 vz tz → stepT (some (Tr.pair hh l r mid)) q.2 = some tz → ∀ e, Exec P 71 c' [] [] .done e Y := by
            intro vz tz Y hY hBY hvz hstep e
            have hWY : Upd [b4, b8] W Y := (hW2.mono (m := [b4, b8]) (by simp)).trans hY (by simp)
            refine exec_round_end hc' ⟨vz, ⟨hkl, q2.trans hWY (by simp), (q3.upd hW2).upd hY (by simpa using hb48), hBY, ?_⟩, by simpa using hWY, by simp, by simp⟩
            rw [hnext, hstep]; exact hvz
          by_cases hev : q.2 % 2 = 0
          · simp only [hev, decide_true]
            refine xr 1 rfl ?_
            refine exec_load1 (b := b8) (o := 0) rfl rfl (q42.cell rfl) ?_
            refine xr 2 rfl ?_
            refine exec_load1 (b := bn) (o := 0 + 32) rfl rfl (node_cell0 hBn2).2.1 ?_
            refine exec_store (b := b8) (o := 0) (v := ptrV bl) rfl rfl q42 rfl (by simp) rfl ?_
            intro Y hY _ hBY
            refine xr 3 rfl ?_
            exact fin (ptrV bl) l Y hY hBY hl0 (by simp [stepT, hev]) _
          · simp only [hev, decide_false]
            refine xr 1 rfl ?_
            refine exec_load1 (b := b8) (o := 0) rfl rfl (q42.cell rfl) ?_
            refine xr 2 rfl ?_
            refine exec_load1 (b := bn) (o := 0 + 33) rfl rfl (node_cell0 hBn2).2.2.1 ?_
            refine exec_store (b := b8) (o := 0) (v := ptrV br) rfl rfl q42 rfl (by simp) rfl ?_
            intro Y hY _ hBY
            refine xr 3 rfl ?_
            exact fin (ptrV br) r Y hY hBY hr0 (by simp [stepT, hev]) _
    · rintro D0 u W hD ⟨q1, q2, q3, q4, q5⟩ hsh hnl
      rw [List.take_length, hxl] at q5
      refine xr 2 rfl ?_
      refine exec_load1 (b := b8) (o := 0) rfl rfl (q4.cell rfl) ?_
      obtain ⟨pz, rfl⟩ := otr_ptr q5
      refine exec_store (b := b4) (o := 0) (v := .pointer pz) rfl rfl q3 rfl (by simp) rfl ?_
      intro Y hY _ hBY
      have hBY' : Blk Y b4 [.pointer pz] := hBY
      have hD4 : D0 ≠ b4 := by omega
      have hsh' : Y.heap[D0]? = some (.deferred (some [])) := (hY.block D0 (Array.getElem?_eq_some_iff.1 hsh).1 (by simp; omega)).trans hsh
      refine exec_returnM hc [D0] rfl (by simp) (fun r hr => by simp at hr; subst hr; exact hsh') [.pointer pz] fun W' hu' hs' => ?_
      have h7W : Upd [b4, b8] w7 W' := (q2.trans hY).trans hu' (fun b hb => .inr (by simp at hb; omega))
      refine ⟨⟨⟨b4, 0, rfl, (hBY'.upd hu' (by simp; omega)).cell rfl⟩, trivial⟩, ?_, hE7.trans h7W (fun b hb => .inr (by simp at hb; omega))⟩
      rw [nodeN, ht]
      exact q5.upd h7W (fun b hb cs hcs => by
        simp only [List.mem_cons, List.not_mem_nil, or_false] at hb
        rcases hb with rfl | rfl
        · rw [blk_inj hcs hB47]; rintro ⟨h, _⟩; simp at h
        · rw [blk_inj hcs hB87]; rintro ⟨h, _⟩; simp at h)
    · rintro cd D0 u W hD ⟨rfl, q2, q3, q4⟩ hsh hnl
      have hD4 : D0 ≠ b4 := by omega
      refine exec_returnM hc [D0] rfl (by simp) (fun r hr => by simp at hr; subst hr; exact hsh) [.pointer none] fun W' hu' hs' => ?_
      have h7W : Upd [b4, b8] w7 W' := q2.trans hu' (fun b hb => .inr (by simp at hb; omega))
      refine ⟨⟨⟨b4, 0, rfl, (q3.upd hu' (by simp; omega)).cell rfl⟩, trivial⟩, ?_, hE7.trans h7W (fun b hb => .inr (by simp at hb; omega))⟩
      rw [nodeN, ht]
      rw [hxl] at q4
      show OTr W' _ (List.foldl stepT _ _)
      rw [q4]; rfl
def hZ : Hash := ⟨List.replicate 32 0, rfl⟩
theorem at_ok (A : ForS P) {p m : Nat} {s : Fo} (h : FAt w p m s) (x : Nat) (hx : x < 2 ^ 64) :
    RetV P A.atF [ptrV p, u64V x] w (.tuple #[hV (((nodeN parH (lv s.L) s.L.length x).map Tr.hash).getD hZ), .bool (nodeN parH (lv s.L) s.L.length x).isSome]) := by
  refine Ret.of_exec A.h_at (Nat.le_of_ble_eq_true rfl) fun c hc => ?_
  dsimp only [b_Pforest_Forest_At, argEnv, ym, yo, yg, ys, yt, yd, ye]
  refine exec_new rfl ?_
  intro b4 w1 hb4 hs1 hu1 hB4
  have hB4' : Blk w1 b4 (hC hZ) := hB4
  clear hB4
  refine xr 2 rfl ?_
  refine xca rfl rfl (is_ok A.toForJ (h.ext hu1)) ?_
  rintro _ w2 ⟨rfl, hu2⟩
  refine xr 5 rfl ?_
  have hE2 := hu1.trans hu2
  refine xca rfl rfl (node_ok A (h.ext hE2) x hx) ?_
  rintro v w3 ⟨hO, hu3⟩
  have hE3 := hE2.trans hu3
  have hB43 := (hB4'.upd hu2).upd hu3
  have z1 := hE3.size
  generalize hnn : nodeN parH (lv s.L) s.L.length x = o at *
  refine xr 2 rfl ?_
  cases o with
  | none =>
    have : v = .pointer none := hO
    subst this
    refine xju (ok_eq_nil A.h_TNode rfl rfl) rfl ?_
    refine xr 1 rfl ?_
    refine xju (ok_mkL (l := []) (cs := hC hZ) rfl rfl) rfl ?_
    refine exec_store (b := b4) (o := 0) (v := hV hZ) rfl rfl hB43 (hV_size _) (by rw [hC_length]; omega) (by rw [hV_cells]; exact hC_cell _) ?_
    intro w4 hu4 _ hB44
    rw [hV_cells, splice_all (by simp [hC_length])] at hB44
    refine xr 1 rfl ?_
    exact xre hc [hV hZ, _] ⟨⟨b4, 0, hC hZ, rfl, hB44.memAll, hC_length _, rfl⟩, rfl, trivial⟩ ⟨rfl, hE3.trans hu4 (fun b hb => .inr (by simp at hb; omega))⟩
  | some t =>
    obtain ⟨bn, _, _, _, rfl, hBn⟩ := TrAt.node hO
    refine xju (ok_eq_nil A.h_TNode rfl rfl) rfl ?_
    refine xr 5 rfl ?_
    refine exec_loadN (b := bn) (o := 0 + 0) (vs := hC t.hash) rfl rfl (node_cell0 hBn).1 (hC_length _) ?_
    refine exec_store (b := b4) (o := 0) (v := hV t.hash) rfl rfl hB43 (hV_size _) (by rw [hC_length]; omega) (by rw [hV_cells]; exact hC_cell _) ?_
    intro w4 hu4 _ hB44
    rw [hV_cells, splice_all (by simp [hC_length])] at hB44
    refine xr 1 rfl ?_
    exact xre hc [hV t.hash, _] ⟨⟨b4, 0, hC t.hash, rfl, hB44.memAll, hC_length _, rfl⟩, rfl, trivial⟩ ⟨rfl, hE3.trans hu4 (fun b hb => .inr (by simp at hb; omega))⟩
end
end Go.Sp

namespace Go.Sp
/-- the functions of the laws, on -/
structure LawU (P : Program) extends LawG P, ForS P where
  equal : Nat
  TBo : Nat
  h_equal : Has P equal (b_spinneylaw14_equal leaves stump same where' atF TH TBo)
  h_TBo : P.underlying TBo = some .bool
theorem FAt.uniq' {w : World} {p m : Nat} {s : Fo} (h : FAt w p m s) {x y : Nat} {a : Hash} (hx : s.L[x]? = some (some a)) (hy : s.L[y]? = some (some a)) : x = y := by
  obtain ⟨⟨tv, wl, h1, h2, h3, h4⟩, _⟩ := h
  have := ((h4 a x).2 hx).symm.trans ((h4 a y).2 hy)
  exact Option.some.inj this
section
variable {P : Program} {f : Nat} {w : World}
set_option maxHeartbeats 1600000 in
theorem equal_ok (A : LawU P) {p m q mq : Nat} {s s' : Fo} (hf : FAt w p m s) (hg : FAt w q mq s') (hL : s'.L = s.L) : RetV P A.equal [ptrV p, ptrV q] w (.bool true) := by
  have hlen := hf.len
  refine Ret.of_exec A.h_equal (Nat.le_of_ble_eq_true rfl) fun c hc => ?_
  dsimp only [b_spinneylaw14_equal, argEnv, ym, yo, yg, ys, yt, yd, ye]
  refine xr 2 rfl ?_
  refine xca rfl rfl (leaves_ok A.toForP hf) ?_
  rintro la w1 ⟨hO1, hu1, _⟩
  refine xr 1 rfl ?_
  refine xca rfl rfl (leaves_ok A.toForP (hg.ext hu1)) ?_
  rintro lb w2 ⟨hO2, hu2, _⟩
  rw [hL] at hO2
  have hE2 := hu1.trans hu2
  refine xr 3 rfl ?_
  refine xca rfl rfl (stump_ok A.toForO (hf.ext hE2)) ?_
  rintro _ w3 ⟨rv, rfl, hu3, hO3, _⟩
  refine xr 1 rfl ?_
  refine xca rfl rfl (stump_ok A.toForO (hg.ext (hE2.trans hu3))) ?_
  rintro _ w4 ⟨rv2, rfl, hu4, hO4, _⟩
  rw [hL] at hO4 ⊢
  have hrl : (rootsT (treesT parH (lv s.L) s.L.length)).length < 2 ^ 40 := by
    have := treesT_len parH (L := lv s.L) (n := s.L.length) (by omega)
    simp [rootsT]; omega
  refine xca rfl rfl (same_ok A.toLawF (n := s.L.length) (hO3.upd hu4 (by simp)).sl hO4.sl hrl) ?_
  rintro _ w5 ⟨rfl, hu5⟩
  have h35 : Ext w2 w5 := (hu3.trans hu4).trans hu5
  have hE5 := hE2.trans h35
  have hA5 := (hO1.upd hu2 (by simp)).upd h35 (by simp)
  have hB5 := hO2.upd h35 (by simp)
  refine xr 5 rfl ?_
  refine xpu (hA5.sl.lenS rfl) rfl ?_
  refine xr 3 rfl ?_
  refine xpu (hB5.sl.lenS rfl) rfl ?_
  refine xgr rfl ?_
  refine xpu (pv_neqI (a := (liveL s.L).length) (b := (liveL s.L).length) (q := false) rfl rfl (by simp)) rfl ?_
  refine xr 5 rfl ?_
  refine xen [(0, ptrV p), (1, ptrV q), (5, la), (6, lb), (7, intV' 0)] ⟨rfl, rfl, rfl, rfl, rfl, trivial⟩ ?_
  have hll : (liveL s.L).length ≤ s.L.length := List.length_filterMap_le _ _
  refine xlo (S := Nat) (fun i W => i ≤ (liveL s.L).length ∧ Ext w5 W) (fun i => [(0, ptrV p), (1, ptrV q), (5, la), (6, lb), (7, intV' i)]) (fun i => (liveL s.L).length - i) 0 ⟨Nat.zero_le _, Upd.refl _ _⟩ ⟨rfl, rfl, rfl, rfl, rfl, trivial⟩ ?_
  rintro i W ⟨i1, iU⟩
  have hwW := hE5.trans iU
  refine xtm rfl rfl rfl ?_
  refine xtm rfl rfl rfl ?_
  refine xpu (hA5.sl.lenS rfl) rfl ?_
  by_cases hi : i < (liveL s.L).length
  · refine xpu (pv_lssI (a := i) (b := (liveL s.L).length) (q := true) rfl rfl (by simpa using hi)) rfl ?_
    refine xr 6 rfl ?_
    obtain ⟨h, hh⟩ : ∃ h, (liveL s.L)[i]? = some h := ⟨_, List.getElem?_eq_getElem hi⟩
    have hlive : some h ∈ s.L := by
      have := List.mem_of_getElem? hh
      rw [liveL, List.mem_filterMap] at this
      obtain ⟨o, ho, he⟩ := this
      have : o = some h := he
      subst this; exact ho
    obtain ⟨ba, oa, ca, hav, _, hma⟩ := hs_at hA5.sl hh
    obtain ⟨bb, ob, cb, hbv, _, hmb⟩ := hs_at hB5.sl hh
    refine xju (ok_iaddr (N := 32) (b := ba) (o := oa) (len := (liveL s.L).length) (cap := ca) (by rw [← hav]; rfl) rfl i rfl hi) rfl ?_
    refine exec_loadN (b := ba) (o := oa + i * 32) (vs := hC h) rfl rfl (hma.upd iU (by simp)) (hC_length _) ?_
    refine xca rfl rfl (where_ok A.toForN (hf.ext hwW) h) ?_
    rintro v1 W1 ⟨hx1, hcase1⟩
    rcases hcase1 with ⟨_, q1⟩ | ⟨x, rfl, q1⟩
    · exact absurd hlive q1
    refine xr 8 rfl ?_
    refine xju (ok_iaddr (N := 32) (b := ba) (o := oa) (len := (liveL s.L).length) (cap := ca) (by rw [← hav]; rfl) rfl i rfl hi) rfl ?_
    refine exec_loadN (b := ba) (o := oa + i * 32) (vs := hC h) rfl rfl (hma.upd (iU.trans hx1) (by simp)) (hC_length _) ?_
    refine xca rfl rfl (where_ok A.toForN (hg.ext (hwW.trans hx1)) h) ?_
    rintro v2 W2 ⟨hx2, hcase2⟩
    rw [hL] at hcase2
    rcases hcase2 with ⟨_, q2⟩ | ⟨y, rfl, q2⟩
    · exact absurd hlive q2
    have hxy := hf.uniq' q1 q2
    subst hxy
    refine xr 5 rfl ?_
    have hW2 : Ext W W2 := hx1.trans hx2
    generalize whereT (treesT parH (lv s.L) s.L.length) s.L.length x = wp
    refine xen [(0, ptrV p), (1, ptrV q), (5, la), (6, lb), (7, intV' i), (8, u64V wp), (9, .bool true), (10, u64V wp), (11, .bool true)] ⟨rfl, rfl, rfl, rfl, rfl, rfl, rfl, rfl, rfl, trivial⟩ ?_
    refine exec_dwr rfl rfl rfl ?_
    repeat (first | refine wtm rfl rfl rfl ?_ | refine wgt rfl rfl rfl rfl ?_ | refine wgs rfl rfl ?_)
    refine ws_keep _ rfl (fun X hx => ok_iaddr (N := 32) (b := ba) (o := oa) (len := (liveL s.L).length) (cap := ca) (by rw [← hav]; rfl) rfl i rfl hi) ?_
    refine ws_keep (hV h) rfl (fun X hx => ok_loadN (b := ba) (o := oa + i * 32) (vs := hC h) rfl (hma.upd ((iU.trans hW2).trans hx) (by simp)) (hC_length _)) ?_
    repeat (first | refine wtm rfl rfl rfl ?_ | refine wgt rfl rfl rfl rfl ?_ | refine wgs rfl rfl ?_)
    refine ws_keep _ rfl (fun X hx => ok_iaddr (N := 32) (b := bb) (o := ob) (len := (liveL s.L).length) (cap := cb) (by rw [← hbv]; rfl) rfl i rfl hi) ?_
    refine ws_keep (hV h) rfl (fun X hx => ok_loadN (b := bb) (o := ob + i * 32) (vs := hC h) rfl (hmb.upd ((iU.trans hW2).trans hx) (by simp)) (hC_length _)) ?_
    refine ws_keep (.bool false) rfl (fun X hx => by
      have e0 : (Value.bool false) = Value.bool (!decide (h = h)) := by simp
      rw [e0]
      exact ok_ne_hash A.h_TH rfl rfl) ?_
    repeat (first | refine wtm rfl rfl rfl ?_ | refine wgt rfl rfl rfl rfl ?_ | refine wgs rfl rfl ?_)
    refine ws_fin fun W3 hu3' => ?_
    refine xr 1 rfl ?_
    refine xpu (pv_neqI (a := wp) (b := wp) (q := false) rfl rfl (by simp)) rfl ?_
    refine xr 6 rfl ?_
    refine xpu (pv_addI (a := i) (b := 1) rfl rfl (by omega)) rfl ?_
    refine xr 1 rfl ?_
    exact xag (i + 1) ⟨by omega, (iU.trans hW2).trans hu3'⟩ (by show (liveL s.L).length - (i + 1) < (liveL s.L).length - i; omega) ⟨rfl, rfl, rfl, rfl, rfl, trivial⟩
  · refine xpu (pv_lssI (a := i) (b := (liveL s.L).length) (q := false) rfl rfl (by simpa using hi)) rfl ?_
    refine xr 5 rfl ?_
    refine xen [(0, ptrV p), (1, ptrV q), (12, u64V 0)] ⟨rfl, rfl, rfl, trivial⟩ ?_
    refine xlo (S := Nat) (fun x V => x ≤ 2 * s.L.length + 3 ∧ Ext W V) (fun x => [(0, ptrV p), (1, ptrV q), (12, u64V x)]) (fun x => 2 * s.L.length + 3 - x) 0 ⟨Nat.zero_le _, Upd.refl _ _⟩ ⟨rfl, rfl, rfl, trivial⟩ ?_
    rintro x V ⟨x1, xU⟩
    have hwV := hwW.trans xU
    refine xr 2 rfl ?_
    refine xca rfl rfl (stump_ok A.toForO (hf.ext hwV)) ?_
    rintro _ V1 ⟨rv3, rfl, hv1, _, _⟩
    refine xpu (v := u64V s.L.length) rfl rfl ?_
    refine xpu (pv_mulU (a := 2) (b := s.L.length) rfl rfl (by omega)) rfl ?_
    refine xpu (pv_addU (a := 2 * s.L.length) (b := 3) rfl rfl (by omega)) rfl ?_
    by_cases hx : x < 2 * s.L.length + 3
    · refine xpu (pv_lssI (K := .u64) (a := x) (b := 2 * s.L.length + 3) (q := true) rfl rfl (by simpa using hx)) rfl ?_
      refine xr 5 rfl ?_
      refine xca rfl rfl (at_ok A.toForS (hf.ext (hwV.trans hv1)) x (by omega)) ?_
      rintro _ V2 ⟨rfl, hv2⟩
      refine xr 3 rfl ?_
      generalize hh : ((nodeN parH (lv s.L) s.L.length x).map Tr.hash).getD hZ = h
      generalize hb : (nodeN parH (lv s.L) s.L.length x).isSome = b
      refine exec_new_store (v := hV h) rfl rfl rfl (hV_size h) rfl (by rw [hV_cells]; exact hC_cell _) ?_
      intro b1 V3 hb1 hs3 hv3 hB1
      rw [hV_cells] at hB1
      refine xr 3 rfl ?_
      have hw3 := ((hwV.trans hv1).trans hv2).trans hv3
      refine xca rfl rfl (at_ok A.toForS (hg.ext hw3) x (by omega)) ?_
      rintro _ V4 ⟨rfl, hv4⟩
      rw [hL, hh, hb]
      refine xr 3 rfl ?_
      refine exec_new_store (v := hV h) rfl rfl rfl (hV_size h) rfl (by rw [hV_cells]; exact hC_cell _) ?_
      intro b2 V5 hb2 hs5 hv5 hB2
      rw [hV_cells] at hB2
      refine xr 1 rfl ?_
      refine exec_loadN (b := b1) (o := 0) (vs := hC h) rfl rfl ((hB1.upd (hv4.trans hv5)).memAll) (hC_length _) ?_
      refine exec_loadN (b := b2) (o := 0) (vs := hC h) rfl rfl hB2.memAll (hC_length _) ?_
      refine xju (v := .bool false) (by
        have e0 : (Value.bool false) = Value.bool (!decide (h = h)) := by simp
        rw [e0]
        exact ok_ne_hash A.h_TH rfl rfl) rfl ?_
      refine xr 6 rfl ?_
      refine xju (v := .bool false) (by
        have e0 : (Value.bool false) = Value.bool (!(b == b)) := by simp
        rw [e0]
        exact ok_ne_bool A.h_TBo rfl rfl) rfl ?_
      refine xr 6 rfl ?_
      refine xpu (pv_addU (a := x) (b := 1) rfl rfl (by omega)) rfl ?_
      refine xr 1 rfl ?_
      exact xag (x + 1) ⟨by omega, xU.trans (((((hv1.trans hv2).trans hv3).trans hv4).trans hv5))⟩ (by show 2 * s.L.length + 3 - (x + 1) < 2 * s.L.length + 3 - x; omega) ⟨rfl, rfl, rfl, trivial⟩
    · refine xpu (pv_lssI (K := .u64) (a := x) (b := 2 * s.L.length + 3) (q := false) rfl rfl (by simpa using hx)) rfl ?_
      refine xr 4 rfl ?_
      exact xre hc [.bool true] ⟨rfl, trivial⟩ ⟨rfl, hwV.trans hv1⟩
end
end Go.Sp
