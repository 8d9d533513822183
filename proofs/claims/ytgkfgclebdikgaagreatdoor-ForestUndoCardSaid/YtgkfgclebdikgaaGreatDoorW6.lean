/- spinneylaw14.ForestUndo returns true for every input, and its arguments read afterwards as before: the card. No condition. This text: part 6 of 9. -/
import Derived.Test.YtgkfgclebdikgaaGreatDoorW5
set_option linter.unusedVariables false
set_option linter.unusedSimpArgs false
set_option linter.unusedSectionVars false
namespace Go.Sp
theorem otr_ptr {w : World} {v : Value} {t : Option (Tr Hash)} (h : OTr w v t) : ∃ p, v = .pointer p := by
  cases t with
  | none => exact ⟨none, h⟩
  | some t => obtain ⟨b, _, _, _, rfl, _⟩ := TrAt.node h; exact ⟨_, rfl⟩
/-- the functions of forest, on -/
structure ForI (P : Program) extends ForH P where
  grown : Nat
  TGH : Nat
  TGN : Nat
  TGT : Nat
  h_grown : Has P grown (b_forest_grown joined TGH TGN TGT)
theorem growT_step {a : List (TT Hash)} {l t : TT Hash} (h : l.2.2 = t.2.2) : growT parH (l :: a) t = growT parH a (joinT parH l.1 t.1 t.2.1, l.2.1, t.2.2 + 1) := by rw [growT, if_pos h]
theorem growT_stop {a : List (TT Hash)} {l t : TT Hash} (h : ¬ l.2.2 = t.2.2) : growT parH (l :: a) t = t :: l :: a := by rw [growT, if_neg h]
theorem take_rev {α : Type} {ts : List α} {k : Nat} {t : α} (h : ts[k]? = some t) : (ts.take (k + 1)).reverse = t :: (ts.take k).reverse := by
  rw [List.take_add_one, h]; simp
theorem blk_inj {w : World} {b : Nat} {cs cs' : List Value} (h : Blk w b cs) (h' : Blk w b cs') : cs = cs' := by
  obtain ⟨T1, h1⟩ := h
  obtain ⟨T2, h2⟩ := h'
  rw [h1] at h2
  have := congrArg (fun o => match o with | some (Obj.cells c _ _) => c.toList | _ => []) h2
  simpa using this
theorem NoNode.of {w : World} {b : Nat} {cs : List Value} (h : Blk w b cs) (hl : cs.length ≠ 35) : NoNode w [b] := by
  intro b' hb' cs' hcs'
  have : b' = b := by simpa using hb'
  subst this
  rw [blk_inj hcs' h]; exact fun hn => hl hn.1
theorem OwnC.nonode {w : World} {v : Value} {len : Nat} {cs : List Value} (h : OwnC w v 3 len cs) : NoNode w (blkOf v) := by
  rcases h with ⟨rfl, _⟩ | ⟨b, cap, rest, rfl, hB, _, hl, _⟩
  · exact NoNode.nil w
  · exact NoNode.of hB (by rw [hl]; omega)
section
variable {P : Program} {f : Nat} {w : World}
set_option maxHeartbeats 800000 in
theorem grown_ok (A : ForI P) (hT : Tabs A.toShaF w) {sv : Value} {ts : List (TT Hash)} (hd : Hash) (num : Nat) (h : TreesOwn w sv ts) (hl : ts.length < 64) (hnum : num < 2 ^ 62) (hb : ∀ t ∈ ts, t.2.1 < 2 ^ 62 ∧ t.2.2 < 62) :
    Ret P A.grown [sv, hV hd, u64V num] w fun v w' => TreesOwn w' v (growT parH ts.reverse (some (.leaf hd), num, 0)).reverse ∧ Upd (blkOf sv) w w' ∧ ∀ b ∈ blkOf v, b ∈ blkOf sv ∨ w.heap.size ≤ b := by
  obtain ⟨vs, hR, hO⟩ := h
  have hlen := hR.len
  refine Ret.of_exec A.h_grown (Nat.le_of_ble_eq_true rfl) fun c hc => ?_
  dsimp only [b_forest_grown, argEnv, ym, yo, yg, ys, yt, yd, ye]
  refine exec_box rfl rfl ?_
  intro b4 w1 hb4 hs1 hu1 hB4
  rw [hV_cells] at hB4
  refine xr 1 rfl ?_
  refine exec_loadN (b := b4) (o := 0) (vs := hC hd) rfl rfl hB4.memAll (hC_length hd) ?_
  refine xju (ok_mkL (l := [(0, 32, hV hd)]) (cs := hC hd ++ [.pointer none, .pointer none, u64V 0]) rfl (leaf_fill hd)) rfl ?_
  refine exec_box rfl rfl ?_
  intro bn w2 hbn hs2 hu2 hBn
  have hBn' : Blk w2 bn (hC hd ++ [.pointer none, .pointer none, u64V 0]) := by simpa [Value.cells] using hBn
  refine xr 1 rfl ?_
  refine xju (ok_mkL (l := [(0, 1, ptrV bn), (1, 1, u64V num)]) (cs := [ptrV bn, u64V num, intV' 0]) rfl rfl) rfl ?_
  refine exec_new_store (v := .agg #[ptrV bn, u64V num, intV' 0]) rfl rfl rfl rfl rfl rfl ?_
  intro b7 w3 hb7 hs3 hu3 hB7
  have hB7' : Blk w3 b7 [ptrV bn, u64V num, intV' 0] := hB7
  have hE3 : Ext w w3 := (hu1.trans hu2).trans hu3
  have hlf : OTr w3 (ptrV bn) (some (.leaf hd)) := ⟨bn, rfl, hBn'.upd hu3⟩
  refine xr 1 rfl ?_
  refine exec_inner_join (S := Nat × TT Hash × Value × Value) (fun s W => s.1 ≤ ts.length ∧ growT parH ts.reverse (some (.leaf hd), num, 0) = s.2.1 :: (ts.take s.1).reverse ∧ Blk W b7 [s.2.2.1, u64V s.2.1.2.1, intV' s.2.1.2.2] ∧ OTr W s.2.2.1 s.2.1.1 ∧ OwnC W s.2.2.2 3 s.1 (cellsT (vs.take s.1) (ts.take s.1)) ∧ Ext w W ∧ blkOf s.2.2.2 = blkOf sv)
    (fun s => [(0, s.2.2.2), (7, ptrV b7)]) ?_ ?_
  · refine xlo (S := Nat × TT Hash × Value × Value) (fun s W => s.1 ≤ ts.length ∧ growT parH (ts.take s.1).reverse s.2.1 = growT parH ts.reverse (some (.leaf hd), num, 0) ∧ s.2.1.2.1 < 2 ^ 62 ∧ s.2.1.2.2 < 63 ∧ Blk W b7 [s.2.2.1, u64V s.2.1.2.1, intV' s.2.1.2.2] ∧ OTr W s.2.2.1 s.2.1.1 ∧ OwnC W s.2.2.2 3 s.1 (cellsT (vs.take s.1) (ts.take s.1)) ∧ Ext w W ∧ blkOf s.2.2.2 = blkOf sv)
      (fun s => [(0, s.2.2.2), (7, ptrV b7)]) (fun s => s.1) (ts.length, (some (.leaf hd), num, 0), ptrV bn, sv)
      ⟨Nat.le_refl _, by simp, hnum, by show 0 < 63; omega, hB7', hlf, ?_, hE3, rfl⟩ ⟨rfl, rfl, trivial⟩ ?_
    · show OwnC w3 sv 3 ts.length (cellsT (vs.take ts.length) (ts.take ts.length))
      rw [List.take_length, ← hlen, List.take_length, hlen]; exact hO.upd hE3 (by simp)
    rintro ⟨k, t, tv, v⟩ W ⟨k1, kE, kf, kh, kB, kO, kS, kU, kb⟩
    simp only at k1 kE kf kh kB kO kS kb
    have zW := kU.size
    obtain ⟨p7, rfl⟩ := otr_ptr kO
    by_cases hk0 : k = 0
    · subst hk0
      have hv0 : ∃ a c', v = .slice a 0 c' := by
        rcases kS with ⟨rfl, _⟩ | ⟨b, cap, rest, rfl, _⟩ <;> exact ⟨_, _, rfl⟩
      obtain ⟨a, c', rfl⟩ := hv0
      refine exec_dwr rfl rfl rfl ?_
      repeat (first | refine wtm rfl rfl rfl ?_ | refine wgt rfl rfl rfl rfl ?_ | refine wgs rfl rfl ?_)
      refine ws_val rfl (pv_gtrI (a := 0) (b := 0) (q := false) rfl rfl rfl) ?_
      repeat (first | refine wtm rfl rfl rfl ?_ | refine wgt rfl rfl rfl rfl ?_ | refine wgs rfl rfl ?_)
      refine ws_fin fun W1 hw1 => ?_
      refine xr 4 rfl ?_
      refine exec_meet (0, t, .pointer p7, .slice a 0 c') ⟨Nat.zero_le _, ?_, kB.upd hw1, kO.ext hw1, kS.upd hw1 (by simp), kU.trans hw1, kb⟩ ⟨rfl, rfl, trivial⟩
      rw [← kE]; rfl
    obtain ⟨k, rfl⟩ : ∃ j, k = j + 1 := ⟨k - 1, by omega⟩
    obtain ⟨l, hl'⟩ : ∃ l, ts[k]? = some l := ⟨_, List.getElem?_eq_getElem (by omega)⟩
    obtain ⟨u, hu⟩ : ∃ u, vs[k]? = some u := ⟨_, List.getElem?_eq_getElem (by omega)⟩
    obtain ⟨hlf1, hlh⟩ := hb l (List.mem_of_getElem? hl')
    obtain ⟨g0, g1, g2⟩ := cellsT_get (vs.take (k + 1)) (ts.take (k + 1)) k u l (by rw [List.getElem?_take, if_pos (by omega)]; exact hu) (by rw [List.getElem?_take, if_pos (by omega)]; exact hl')
    have hOu := (hR.at' k u l hu hl').ext kU
    obtain ⟨pu, rfl⟩ := otr_ptr hOu
    rw [take_rev hl'] at kE
    have kS0 := kS
    rcases kS with ⟨_, h0, _⟩ | ⟨b, cap, rest, rfl, hBl, ho1, ho2, ho3⟩
    · omega
    have hM3 : Mem W b (0 + k * 3) [.pointer pu, u64V l.2.1, intV' l.2.2] := hBl.memPre.sub (k * 3) (us := [.pointer pu, u64V l.2.1, intV' l.2.2]) (fun j x hj => by
      match j, hj with
      | 0, hj => cases hj; exact g0
      | 1, hj => cases hj; exact g1
      | 2, hj => cases hj; exact g2)
    refine exec_dwr rfl rfl rfl ?_
    repeat (first | refine wtm rfl rfl rfl ?_ | refine wgt rfl rfl rfl rfl ?_ | refine wgs rfl rfl ?_)
    refine ws_val rfl (pv_gtrI (a := k + 1) (b := 0) (q := true) rfl rfl (by simp)) ?_
    repeat (first | refine wtm rfl rfl rfl ?_ | refine wgt rfl rfl rfl rfl ?_ | refine wgs rfl rfl ?_)
    refine ws_gval rfl rfl (pv_subI (a := k + 1) (b := 1) rfl rfl (by omega) (by omega)) ?_
    refine ws_gkeep _ rfl rfl (fun X hx => ok_iaddr (N := 3) (b := b) (o := 0) (len := k + 1) (cap := cap) rfl rfl k rfl (by omega)) ?_
    repeat (first | refine wtm rfl rfl rfl ?_ | refine wgt rfl rfl rfl rfl ?_ | refine wgs rfl rfl ?_)
    refine ws_gkeep (intV' l.2.2) rfl rfl (fun X hx => ok_load1 (b := b) (o := 0 + k * 3 + 2) rfl ((hM3.upd hx) 2 _ rfl)) ?_
    repeat (first | refine wtm rfl rfl rfl ?_ | refine wgt rfl rfl rfl rfl ?_ | refine wgs rfl rfl ?_)
    refine ws_gkeep (intV' t.2.2) rfl rfl (fun X hx => ok_load1 (b := b7) (o := 0 + 2) rfl ((kB.upd hx).cell rfl)) ?_
    refine ws_fin fun W1 hw1 => ?_
    refine xr 1 rfl ?_
    by_cases hlt : l.2.2 = t.2.2
    · refine xpu (pv_eqlI (a := l.2.2) (b := t.2.2) (q := true) rfl rfl (by simpa using hlt)) rfl ?_
      refine xr 7 rfl ?_
      refine xpu (pv_subI (a := k + 1) (b := 1) rfl rfl (by omega) (by omega)) rfl ?_
      refine xju (ok_iaddr (N := 3) (b := b) (o := 0) (len := k + 1) (cap := cap) rfl rfl k rfl (by omega)) rfl ?_
      refine exec_loadN (b := b) (o := 0 + k * 3) (vs := [.pointer pu, u64V l.2.1, intV' l.2.2]) rfl rfl (hM3.upd hw1) rfl ?_
      refine exec_new_store (v := .agg #[.pointer pu, u64V l.2.1, intV' l.2.2]) rfl rfl rfl rfl rfl rfl ?_
      intro b8 W2 hb8 hs8 hw2 hB8
      have hB8' : Blk W2 b8 [.pointer pu, u64V l.2.1, intV' l.2.2] := hB8
      refine xr 3 rfl ?_
      refine xpu (pv_subI (a := k + 1) (b := 1) rfl rfl (by omega) (by omega)) rfl ?_
      refine xju (ok_slS (N := 3) (b := b) (o := 0) (len := k + 1) (cap := cap) (lo := none) (hi := some (.tmp 38)) 0 k rfl rfl ⟨.i64, rfl⟩ (by omega) (by omega)) rfl ?_
      rw [show (if cap = 0 then (⟨b, 0, none⟩ : Addr) else ⟨b, 0 + 0 * 3, none⟩) = ⟨b, 0, none⟩ from by split <;> rfl]
      refine xr 1 rfl ?_
      have hW12 := hw1.trans hw2
      have kB2 := kB.upd hW12
      refine xen [(0, .slice (some ⟨b, 0, none⟩) k cap), (7, ptrV b7), (8, ptrV b8)] ⟨rfl, rfl, rfl, trivial⟩ ?_
      refine exec_dw [] rfl rfl rfl ?_
      repeat (first | refine dau rfl (fun _ => rfl) ?_ | refine dga rfl (fun _ => rfl) (fun _ => rfl) ?_ | refine dgs (fun _ => rfl) ?_)
      refine dw_keep (.pointer pu) (fun vs' X hx _ => ok_load1 (b := b8) (o := 0 + 0) rfl ((hB8'.upd hx).cell rfl)) ?_
      repeat (first | refine dau rfl (fun _ => rfl) ?_ | refine dga rfl (fun _ => rfl) (fun _ => rfl) ?_ | refine dgs (fun _ => rfl) ?_)
      refine dw_keep (.pointer p7) (fun vs' X hx _ => ok_load1 (b := b7) (o := 0 + 0) rfl ((kB2.upd hx).cell rfl)) ?_
      repeat (first | refine dau rfl (fun _ => rfl) ?_ | refine dga rfl (fun _ => rfl) (fun _ => rfl) ?_ | refine dgs (fun _ => rfl) ?_)
      refine dw_keep (u64V t.2.1) (fun vs' X hx _ => ok_load1 (b := b7) (o := 0 + 1) rfl ((kB2.upd hx).cell rfl)) ?_
      refine dw_rel [] (fun X _ r => OTr X r (joinT parH l.1 t.1 t.2.1)) rfl (fun X X' xs r _ hx h => h.ext hx) ?_ ?_
      · intro vs' X hx _
        refine (ok_call rfl (joined_ok A.toForF (hT.upd ((kU.trans hW12).trans hx)) t.2.1 kf (hOu.ext (hW12.trans hx)) (kO.ext (hW12.trans hx)))).mono ?_
        rintro r X' ⟨h1, h2⟩
        exact ⟨h2, h1⟩
      repeat (first | refine dau rfl (fun _ => rfl) ?_ | refine dga rfl (fun _ => rfl) (fun _ => rfl) ?_ | refine dgs (fun _ => rfl) ?_)
      refine dw_keep (u64V l.2.1) (fun vs' X hx _ => ok_load1 (b := b8) (o := 0 + 1) rfl ((hB8'.upd hx).cell rfl)) ?_
      repeat (first | refine dau rfl (fun _ => rfl) ?_ | refine dga rfl (fun _ => rfl) (fun _ => rfl) ?_ | refine dgs (fun _ => rfl) ?_)
      refine dw_keep (intV' t.2.2) (fun vs' X hx _ => ok_load1 (b := b7) (o := 0 + 2) rfl ((kB2.upd hx).cell rfl)) ?_
      refine dw_val (fun _ => pv_addI (a := t.2.2) (b := 1) rfl rfl (by omega)) ?_
      refine dw_end fun vs' W3 hw3 hf => ?_
      obtain ⟨hr6, _⟩ := hf
      obtain ⟨pr, hpr⟩ := otr_ptr hr6
      have hr6' : OTr W3 (.pointer pr) (joinT parH l.1 t.1 t.2.1) := by rw [← hpr]; exact hr6
      refine xen [(46, .pointer pr), (48, u64V l.2.1), (51, intV' (t.2.2 + 1)), (0, .slice (some ⟨b, 0, none⟩) k cap), (7, ptrV b7)] ⟨by show some (vs' 6) = _; rw [hpr], rfl, rfl, rfl, rfl, trivial⟩ ?_
      refine xju (ok_mkL (l := [(0, 1, .pointer pr), (1, 1, u64V l.2.1), (2, 1, intV' (t.2.2 + 1))]) (cs := [.pointer pr, u64V l.2.1, intV' (t.2.2 + 1)]) rfl rfl) rfl ?_
      have kB3 := kB2.upd hw3
      refine exec_store (b := b7) (o := 0) (v := .agg #[.pointer pr, u64V l.2.1, intV' (t.2.2 + 1)]) rfl rfl kB3 rfl (by simp) rfl ?_
      intro W4 hw4 _ hB7n
      have hB7n' : Blk W4 b7 [.pointer pr, u64V l.2.1, intV' (t.2.2 + 1)] := hB7n
      refine xr 2 rfl ?_
      have hno : NoNode W3 [b7] := NoNode.of kB3 (by simp)
      have hU4 : Ext w W4 := ((kU.trans hW12).trans hw3).trans hw4 (fun b hb => .inr (by simp at hb; omega))
      refine xag (k, (joinT parH l.1 t.1 t.2.1, l.2.1, t.2.2 + 1), .pointer pr, .slice (some ⟨b, 0, none⟩) k cap) ⟨by show k ≤ ts.length; omega, ?_, hlf1, by show t.2.2 + 1 < 63; omega, hB7n', hr6'.upd hw4 hno, ?_, hU4, ?_⟩ (by show k < k + 1; omega) ⟨rfl, rfl, trivial⟩
      · rw [← kE, growT_step hlt]
      · have h1 := OwnC.take (v := sv) kS0 k (by omega)
        rw [cellsT_take _ _ k (by simp [hlen]), List.take_take, List.take_take, Nat.min_eq_left (by omega)] at h1
        have hbw : b < w.heap.size := hO.lt b (by rw [← kb]; simp [blkOf])
        exact ((h1.upd hW12 (by simp)).upd hw3 (by simp)).upd hw4 (by simp [blkOf]; omega)
      · rw [← kb]; rfl
    · refine xpu (pv_eqlI (a := l.2.2) (b := t.2.2) (q := false) rfl rfl (by simpa using hlt)) rfl ?_
      refine xr 3 rfl ?_
      refine exec_meet (k + 1, t, .pointer p7, .slice (some ⟨b, 0, none⟩) (k + 1) cap) ⟨k1, ?_, kB.upd hw1, kO.ext hw1, kS0.upd hw1 (by simp), kU.trans hw1, kb⟩ ⟨rfl, rfl, trivial⟩
      rw [← kE, growT_stop hlt, take_rev hl']
  rintro ⟨k, t, tv, v⟩ W ⟨k1, kE, kB, kO, kS, kU, kb⟩
  simp only at k1 kE kB kO kS kb
  obtain ⟨p7, rfl⟩ := otr_ptr kO
  refine xr 1 rfl ?_
  refine exec_loadN (b := b7) (o := 0) (vs := [.pointer p7, u64V t.2.1, intV' t.2.2]) rfl rfl kB.memAll rfl ?_
  refine exec_litL (N := 3) (cs := [.pointer p7, u64V t.2.1, intV' t.2.2]) rfl rfl rfl rfl ?_
  intro bl W1 hbl hsl hw1 hOl
  refine exec_ok (ok_append (N := 3) rfl rfl (kS.upd hw1 (by simp)) hOl.sl rfl (by decide) (by omega) rfl) rfl ?_
  rintro v2 W2 ⟨hO2, hw2, hf2, _⟩
  refine xr 1 rfl ?_
  have zU := kU.size
  refine xre hc [_] ⟨rfl, trivial⟩ ⟨⟨vs.take k ++ [.pointer p7], ?_, ?_⟩, ?_, ?_⟩
  · rw [kE, List.reverse_cons, List.reverse_reverse]
    refine ⟨by simp [hlen], ?_⟩
    have hnn := (kS.upd hw1 (by simp)).nonode
    intro i v' t' h1 h2
    have hk' : (vs.take k).length = k := by simp; omega
    have hk2 : (ts.take k).length = k := by simp; omega
    rcases Nat.lt_or_ge i k with hik | hik
    · rw [List.getElem?_append_left (by omega), List.getElem?_take, if_pos hik] at h1 h2
      exact (((hR.at' i v' t' h1 h2).ext kU).ext hw1).upd hw2 hnn
    · rw [List.getElem?_append_right (by omega)] at h1 h2
      rw [hk'] at h1
      rw [hk2] at h2
      have : i - k = 0 := by
        have := (List.getElem?_eq_some_iff.1 h1).1
        simp at this; omega
      rw [this] at h1 h2
      cases h1; cases h2
      exact (kO.ext hw1).upd hw2 hnn
  · rw [kE, List.reverse_cons, List.reverse_reverse, cellsT_append _ _ _ _ (by simp [hlen])]
    have e1 : (ts.take k ++ [t]).length = k + 1 := by simp; omega
    rw [e1]
    exact hO2
  · exact ((kU.trans hw1).mono (m := blkOf sv) (by simp)).trans hw2 (fun b hb => .inl (by rw [← kb]; exact hb))
  · intro b hb
    rcases hf2 b hb with h | h
    · left; rw [← kb]; exact h
    · right; have := hw1.size; omega
end
end Go.Sp

namespace Go.Sp
/-- a forest: all leaves that came, those that went as none; which Modify was the last one, how many there were -/
structure Fo where
  L : List (Option Hash)
  turn : Nat
  turns : Nat
def lv (L : List (Option Hash)) (i : Nat) : Option Hash := L[i]?.join
def WhereOK (wl : List (Hash × Nat)) (L : List (Option Hash)) : Prop := ∀ h i, aget h wl = some i ↔ L[i]? = some (some h)
/-- the cells of hashes -/
def hs (l : List Hash) : List Value := l.flatMap hC
theorem hs_len (l : List Hash) : (hs l).length = l.length * 32 := by
  induction l with
  | nil => rfl
  | cons h l ih => simp only [hs, List.flatMap_cons, List.length_append, hC_length, List.length_cons] at ih ⊢; omega
theorem hs_get : ∀ (l : List Hash) (i j : Nat) (h : Hash) (v : Value), l[i]? = some h → (hC h)[j]? = some v → (hs l)[i * 32 + j]? = some v := by
  intro l
  induction l with
  | nil => intro i j h v hi; simp at hi
  | cons a l ih =>
    intro i j h v hi hj
    have hjl : j < 32 := by have := (List.getElem?_eq_some_iff.1 hj).1; rw [hC_length] at this; exact this
    simp only [hs, List.flatMap_cons]
    cases i with
    | zero => simp at hi; subst hi; rw [Nat.zero_mul, Nat.zero_add, List.getElem?_append_left (by rw [hC_length]; exact hjl)]; exact hj
    | succ i =>
      rw [List.getElem?_append_right (by rw [hC_length]; omega), hC_length, show (i + 1) * 32 + j - 32 = i * 32 + j by omega]
      exact ih i j h v (by simpa using hi) hj
theorem hs_append (a b : List Hash) : hs (a ++ b) = hs a ++ hs b := by simp [hs]
/-- an element of a list of hashes -/
theorem hs_at {w : World} {v : Value} {l : List Hash} {i : Nat} {h : Hash} (hS : SlC w v 32 l.length (hs l)) (hi : l[i]? = some h) : ∃ b o cap, v = .slice (some ⟨b, o, none⟩) l.length cap ∧ i < l.length ∧ Mem w b (o + i * 32) (hC h) := by
  have hlt := (List.getElem?_eq_some_iff.1 hi).1
  obtain ⟨b, o, cap, hv, hm, _⟩ := hS.at (by omega)
  exact ⟨b, o, cap, hv, hlt, hm.sub (i * 32) fun j x hj => hs_get l i j h x hi hj⟩
/-- a forest's list of trees -/
structure TreesF (w : World) (sv : Value) (ts : List (TT Hash)) : Prop where
  own : TreesOwn w sv ts
  nil : ts = [] → sv = .slice none 0 0
/-- where a forest lies: its block, its map -/
structure FAt (w : World) (p m : Nat) (s : Fo) : Prop where
  ex : ∃ tv wl, Blk w p [u64V s.L.length, tv, .map (some m), intV' s.turn, intV' s.turns] ∧ TreesF w tv (treesT parH (lv s.L) s.L.length) ∧ MapAt w m hV u64V wl ∧ WhereOK wl s.L
  len : s.L.length < 2 ^ 40
  turns : s.turns < 2 ^ 40 ∧ s.turn < 2 ^ 40
/-- a block that is neither a node nor a list of trees, by its cells -/
def Strange (cs : List Value) : Prop := ¬ (cs.length = 35 ∧ ∃ n, cs[0]? = some (.int .u8 n)) ∧ ¬ ((∃ a, cs[0]? = some (.pointer a)) ∧ ∃ n, cs[1]? = some (.int .u64 n))
/-- these blocks are neither nodes nor lists of trees -/
def Foreign (w : World) (l : List Nat) : Prop := ∀ b ∈ l, ∀ cs, Blk w b cs → Strange cs
theorem Foreign.nil (w : World) : Foreign w [] := fun b hb => by simp at hb
theorem Foreign.noNode {w : World} {l : List Nat} (h : Foreign w l) : NoNode w l := fun b hb cs hc => (h b hb cs hc).1
theorem Foreign.cons {w : World} {b : Nat} {l : List Nat} (h1 : ∀ cs, Blk w b cs → Strange cs) (h : Foreign w l) : Foreign w (b :: l) := fun b' hb' cs hc => by
  rcases List.mem_cons.1 hb' with rfl | hb'
  · exact h1 cs hc
  · exact h b' hb' cs hc
theorem Foreign.blk {w : World} {b : Nat} {cs : List Value} (hB : Blk w b cs) (h1 : Strange cs) : ∀ cs', Blk w b cs' → Strange cs' := fun cs' h => by rw [blk_inj h hB]; exact h1
theorem Foreign.map {w : World} {r : Nat} {α β : Type} {enc : α → Value} {encV : β → Value} {l : List (α × β)} (hm : MapAt w r enc encV l) : ∀ cs', Blk w r cs' → Strange cs' := fun cs' h => by
  obtain ⟨es, clock, h1, _⟩ := hm
  obtain ⟨T, h2⟩ := h
  rw [h1] at h2; cases h2
/-- the first cell tells -/
theorem Strange.head {v : Value} {cs : List Value} (h1 : ∀ n, v ≠ .int .u8 n) (h2 : ∀ a, v ≠ .pointer a) : Strange (v :: cs) :=
  ⟨fun ⟨_, n, h⟩ => h1 n (Option.some.inj h), fun ⟨⟨a, h⟩, _⟩ => h2 a (Option.some.inj h)⟩
theorem Strange.two {v v' : Value} {cs : List Value} (h1 : ∀ n, v ≠ .int .u8 n) (h2 : ∀ n, v' ≠ .int .u64 n) : Strange (v :: v' :: cs) :=
  ⟨fun ⟨_, n, h⟩ => h1 n (Option.some.inj h), fun ⟨_, n, h⟩ => h2 n (Option.some.inj h)⟩
theorem TreesOwn.updB {l : List Nat} {w w' : World} {sv : Value} {ts : List (TT Hash)} (h : TreesOwn w sv ts) (hu : Upd l w w') (hl : NoNode w l) (hb : ∀ b ∈ blkOf sv, b ∉ l) : TreesOwn w' sv ts := by
  obtain ⟨vs, h1, h2⟩ := h
  exact ⟨vs, h1.upd hu hl, h2.upd hu hb⟩
theorem TreesF.upd {l : List Nat} {w w' : World} {sv : Value} {ts : List (TT Hash)} (h : TreesF w sv ts) (hu : Upd l w w') (hl : Foreign w l) : TreesF w' sv ts := by
  obtain ⟨⟨vs, h1, h2⟩, h3⟩ := h
  refine ⟨⟨vs, h1.upd hu hl.noNode, h2.upd hu fun b hb hm => ?_⟩, h3⟩
  cases ts with
  | nil => rw [h3 rfl] at hb; simp [blkOf] at hb
  | cons t ts =>
    have hR := h1
    rcases h2 with ⟨rfl, _⟩ | ⟨b', cap, rest, rfl, hB, _, hl2, _⟩
    · simp [blkOf] at hb
    · have : b = b' := by simpa [blkOf] using hb
      subst this
      cases vs with
      | nil => have := hR.len; simp at this
      | cons v vs =>
        obtain ⟨a, rfl⟩ := otr_ptr (hR.at' 0 v t rfl rfl)
        exact (hl b hm _ hB).2 ⟨⟨a, rfl⟩, _, rfl⟩
theorem TreesF.ext {w w' : World} {sv : Value} {ts : List (TT Hash)} (h : TreesF w sv ts) (hu : Ext w w') : TreesF w' sv ts := h.upd hu (Foreign.nil w)
theorem FAt.upd {l : List Nat} {w w' : World} {p m : Nat} {s : Fo} (h : FAt w p m s) (hu : Upd l w w') (hl : Foreign w l) (hp : p ∉ l) (hm : m ∉ l) : FAt w' p m s := by
  obtain ⟨⟨tv, wl, h1, h2, h3, h4⟩, h5, h6⟩ := h
  exact ⟨⟨tv, wl, h1.upd hu hp, h2.upd hu hl, h3.upd hu hm, h4⟩, h5, h6⟩
theorem FAt.ext {w w' : World} {p m : Nat} {s : Fo} (h : FAt w p m s) (hu : Ext w w') : FAt w' p m s := h.upd hu (Foreign.nil w) (by simp) (by simp)
theorem FAt.foreign {w : World} {p m : Nat} {s : Fo} (h : FAt w p m s) : Foreign w [p, m] := by
  obtain ⟨⟨tv, wl, h1, h2, h3, h4⟩, _⟩ := h
  exact Foreign.cons (Foreign.blk h1 (Strange.head (by simp [u64V]) (by simp [u64V]))) (Foreign.cons (Foreign.map h3) (Foreign.nil w))
theorem FAt.ne {w : World} {p m : Nat} {s : Fo} (h : FAt w p m s) : p ≠ m := by
  obtain ⟨⟨tv, wl, h1, h2, ⟨es, clock, h3, _⟩, h4⟩, _⟩ := h
  intro he
  subst he
  obtain ⟨T, h1⟩ := h1
  rw [h3] at h1; cases h1
theorem FAt.lt {w : World} {p m : Nat} {s : Fo} (h : FAt w p m s) : p < w.heap.size ∧ m < w.heap.size := by
  obtain ⟨⟨tv, wl, h1, h2, h3, h4⟩, _⟩ := h
  exact ⟨h1.lt, h3.lt⟩
/-- the functions of forest, on -/
structure ForJ (P : Program) extends ForI P where
  is' : Nat
  going : Nat
  coming : Nat
  TPF : Nat
  TPE : Nat
  TMp : Nat
  TMK : Nat
  TME : Nat
  TH : Nat
  h_is : Has P is' (b_Pforest_Forest_is TPF TMp)
  h_TPF : P.underlying TPF = some (.pointer TPE)
  h_TMp : P.underlying TMp = some (.map TMK TME)
  h_going : Has P going (b_Pforest_Forest_going TH)
  h_coming : Has P coming (b_Pforest_Forest_coming TH)
  h_TH : TyBytes P TH 32
section
variable {P : Program} {f : Nat} {w : World}
theorem is_ok (A : ForJ P) {p m : Nat} {s : Fo} (h : FAt w p m s) : RetV P A.is' [ptrV p] w (.bool true) := by
  obtain ⟨⟨tv, wl, h1, _⟩, _⟩ := h
  refine Ret.of_exec A.h_is (Nat.le_of_ble_eq_true rfl) fun c hc => ?_
  dsimp only [b_Pforest_Forest_is, argEnv, ym, yo, yg, ys, yt, yd, ye]
  refine xr 2 rfl ?_
  refine xju (ok_ne_nil A.h_TPF rfl rfl) rfl ?_
  refine xr 8 rfl ?_
  refine exec_load1 (b := p) (o := 0 + 2) rfl rfl (h1.cell rfl) ?_
  refine xgr rfl ?_
  refine xju (ok_ne_nilmap A.h_TMp rfl rfl) rfl ?_
  refine xr 2 rfl ?_
  exact xre hc [_] ⟨rfl, trivial⟩ ⟨rfl, Upd.refl _ _⟩
theorem ok_look {T r : Nat} {e : Env} {x y : Operand} {h : Hash} {wl : List (Hash × Nat)} {o : Option Nat} (hT : TyBytes P T 32) (hx : e.ev x = some (.map (some r))) (hy : e.ev y = some (hV h)) (hm : MapAt w r hV u64V wl) (ho : aget h wl = o) :
    OpOK P (.lookup T (.int .u64 0) x y true) e w (Just (.tuple #[u64V (o.getD 0), .bool o.isSome]) w) := by
  have := ok_lookup (z := .int .u64 0) (ok := true) (keyOK_hash hT) hx hy hm
  rw [ho] at this
  cases o with
  | none => exact this
  | some i => exact this
set_option maxHeartbeats 400000 in
theorem going_ok (A : ForJ P) {p m : Nat} {s : Fo} (h : FAt w p m s) {dv : Value} {del : List Hash} (hS : SlC w dv 32 del.length (hs del)) (hl : del.length < 2 ^ 40) :
    Ret P A.going [ptrV p, dv] w fun v w' => Ext w w' ∧ ((v = .tuple #[.map none, intV' 5] ∧ ∃ h ∈ del, some h ∉ s.L) ∨ (v = .tuple #[.map none, intV' 24] ∧ (∀ h ∈ del, some h ∈ s.L) ∧ ¬ del.Nodup) ∨
      ∃ r gl, v = .tuple #[.map (some r), intV' 0] ∧ w.heap.size ≤ r ∧ MapAt w' r hV u64V gl ∧ (∀ h i, aget h gl = some i ↔ h ∈ del ∧ s.L[i]? = some (some h)) ∧ gl.length ≤ del.length ∧ (∀ h ∈ del, some h ∈ s.L) ∧ del.Nodup) := by
  have hF := h
  obtain ⟨⟨tv, wl, h1, h2, h3, h4⟩, _⟩ := h
  have hlive : ∀ h, (aget h wl).isSome = true ↔ some h ∈ s.L := by
    intro h
    constructor
    · intro hi
      obtain ⟨i, hi⟩ := Option.isSome_iff_exists.1 hi
      exact List.mem_of_getElem? ((h4 h i).1 hi)
    · intro hm
      obtain ⟨i, hi⟩ := List.getElem?_of_mem hm
      rw [(h4 h i).2 hi]; rfl
  refine Ret.of_exec A.h_going (Nat.le_of_ble_eq_true rfl) fun c hc => ?_
  dsimp only [b_Pforest_Forest_going, argEnv, ym, yo, yg, ys, yt, yd, ye]
  refine xr 2 rfl ?_
  refine exec_mkMap rfl ?_
  intro r w1 hr hs1 hu1 hM
  refine xtm rfl rfl rfl ?_
  refine xtm rfl rfl rfl ?_
  refine xtm rfl rfl rfl ?_
  refine xpu (hS.lenS rfl) rfl ?_
  refine xr 2 rfl ?_
  refine xlo (S := Nat × List (Hash × Nat) × Bool) (fun st W => st.1 ≤ del.length ∧ Ext w W ∧ MapAt W r hV u64V st.2.1 ∧ (∀ h i, aget h st.2.1 = some i ↔ h ∈ del.take st.1 ∧ s.L[i]? = some (some h)) ∧ st.2.1.length ≤ st.1 ∧ (∀ h ∈ del.take st.1, some h ∈ s.L) ∧ (st.2.2 = false ↔ (del.take st.1).Nodup))
    (fun st => [(0, ptrV p), (6, .map (some r)), (7, .bool st.2.2), (15, dv), (16, intV' del.length), (17, intV' st.1)]) (fun st => del.length - st.1) (0, [], false)
    ⟨Nat.zero_le _, hu1, MapAt.empty hM, by simp [aget], by simp, by simp, by simp⟩ ⟨rfl, rfl, rfl, rfl, rfl, rfl, trivial⟩ ?_
  rintro ⟨i, gl, db⟩ W ⟨i1, iU, iM, iG, iL, iA, iD⟩
  simp only at i1 iM iG iL iA iD
  skip
  by_cases hi : i < del.length
  · refine xpu (pv_lssI (a := i) (b := del.length) (q := true) rfl rfl (by simpa using hi)) rfl ?_
    refine xr 3 rfl ?_
    obtain ⟨hh, hhi⟩ : ∃ x, del[i]? = some x := ⟨_, List.getElem?_eq_getElem hi⟩
    have htk : del.take (i + 1) = del.take i ++ [hh] := by rw [List.take_add_one, hhi]; rfl
    obtain ⟨bd, od, cd, hdv, _, hmd⟩ := hs_at (hS.upd iU (by simp)) hhi
    refine xju (ok_iaddr (N := 32) (b := bd) (o := od) (len := del.length) (cap := cd) (by rw [← hdv]; rfl) rfl i rfl hi) rfl ?_
    refine exec_loadN (b := bd) (o := od + i * 32) (vs := hC hh) rfl rfl hmd (hC_length _) ?_
    refine exec_new_store (v := hV hh) rfl rfl rfl (hV_size hh) rfl (by rw [hV_cells]; exact hC_cell _) ?_
    intro b9 W1 hb9 hs9 hw1 hB9
    rw [hV_cells] at hB9
    have iU1 := iU.trans hw1
    refine xen [(0, ptrV p), (6, .map (some r)), (7, .bool db), (9, ptrV b9), (15, dv), (16, intV' del.length), (17, intV' i)] ⟨rfl, rfl, rfl, rfl, rfl, rfl, rfl, trivial⟩ ?_
    obtain ⟨o, ho⟩ : ∃ o, aget hh wl = o := ⟨_, rfl⟩
    have hlo := hlive hh
    rw [ho] at hlo
    refine exec_dwr rfl rfl rfl ?_
    repeat (first | refine wtm rfl rfl rfl ?_ | refine wgt rfl rfl rfl rfl ?_ | refine wgs rfl rfl ?_)
    refine ws_keep (.map (some m)) rfl (fun X hx => ok_load1 (b := p) (o := 0 + 2) rfl (((h1.upd iU1).upd hx).cell rfl)) ?_
    refine ws_keep (hV hh) rfl (fun X hx => ok_loadN (b := b9) (o := 0) rfl (hB9.upd hx).memAll (hC_length _)) ?_
    refine ws_keep _ rfl (fun X hx => ok_look A.h_TH rfl rfl ((h3.upd iU1).upd hx) ho) ?_
    repeat (first | refine wtm rfl rfl rfl ?_ | refine wgt rfl rfl rfl rfl ?_ | refine wgs rfl rfl ?_)
    refine ws_fin fun W2 hw2 => ?_
    refine xr 3 rfl ?_
    refine exec_cond rfl (fun hq => ?_) (fun hq => ?_)
    · simp only [Bool.not_eq_true'] at hq
      refine xr 2 rfl ?_
      refine xre hc [_, _] ⟨rfl, rfl, trivial⟩ ⟨iU1.trans hw2, .inl ⟨rfl, hh, List.mem_of_getElem? hhi, ?_⟩⟩
      intro hm
      rw [hlo.2 hm] at hq; cases hq
    · simp only [Bool.not_eq_false'] at hq
      obtain ⟨x, rfl⟩ := Option.isSome_iff_exists.1 hq
      have hLx := (h4 hh x).1 ho
      refine xr 2 rfl ?_
      refine xen [(0, ptrV p), (6, .map (some r)), (33, .map (some r)), (7, .bool db), (9, ptrV b9), (10, u64V x), (15, dv), (16, intV' del.length), (17, intV' i)] ⟨rfl, rfl, rfl, rfl, rfl, rfl, rfl, rfl, rfl, trivial⟩ ?_
      have iM2 := (iM.upd hw1).upd hw2
      refine exec_loadN (b := b9) (o := 0) (vs := hC hh) rfl rfl (hB9.upd hw2).memAll (hC_length _) ?_
      obtain ⟨o2, ho2⟩ : ∃ o, aget hh gl = o := ⟨_, rfl⟩
      refine xju (ok_look A.h_TH rfl rfl iM2 ho2) rfl ?_
      have hin : o2.isSome = true ↔ hh ∈ del.take i := by
        constructor
        · intro hi2
          obtain ⟨y, rfl⟩ := Option.isSome_iff_exists.1 hi2
          exact ((iG hh y).1 ho2).1
        · intro hi2
          have := (iG hh x).2 ⟨hi2, hLx⟩
          rw [← ho2, this]; rfl
      have next : ∀ (e : Env), Env.sub [(0, ptrV p), (6, .map (some r)), (42, .map (some r)), (7, .bool (db || o2.isSome)), (9, ptrV b9), (10, u64V x), (15, dv), (16, intV' del.length), (17, intV' i)] e →
          Exec P 48 c [] [.op none (some 43) (.loadN 32 (.tmp 9)),
          .op none (some 44) (.mov (.tmp 10)),
          .op none none (.mapUpd A.TH (.tmp 42) (.tmp 43) (.tmp 44))] (.blk 1 (.seq [.op none (some 45) (.ibin .add (.tmp 17) (.const (.int .i64 1))), .op none (some 17) (.mov (.tmp 45))] (.stop (Again 48 [] (fun (st : Nat × List (Hash × Nat) × Bool) W => st.1 ≤ del.length ∧ Ext w W ∧ MapAt W r hV u64V st.2.1 ∧ (∀ h i, aget h st.2.1 = some i ↔ h ∈ del.take st.1 ∧ s.L[i]? = some (some h)) ∧ st.2.1.length ≤ st.1 ∧ (∀ h ∈ del.take st.1, some h ∈ s.L) ∧ (st.2.2 = false ↔ (del.take st.1).Nodup))
            (fun st => [(0, ptrV p), (6, .map (some r)), (7, .bool st.2.2), (15, dv), (16, intV' del.length), (17, intV' st.1)]) (fun st => del.length - st.1) (i, gl, db)) (.blk 0 (.seq [.op none (some 46) (.mov (.tmp 7)),
    .cond (.tmp 46) [
      .op none (some 4) (.mov (.const (.map none))),
      .op none (some 5) (.mov (.const (.int .i64 24))),
      .ret] [],
    .op none (some 47) (.mov (.tmp 6)),
    .op none (some 4) (.mov (.tmp 47)),
    .op none (some 5) (.mov (.const (.int .i64 0))),
    .ret] .done))))) e W2 := by
        intro e he
        refine xen _ he ?_
        refine exec_loadN (b := b9) (o := 0) (vs := hC hh) rfl rfl (hB9.upd hw2).memAll (hC_length _) ?_
        refine xr 1 rfl ?_
        refine exec_mapUpd (a := hh) (b := x) (keyOK_hash A.h_TH) rfl rfl rfl iM2 ?_
        intro W3 hw3 _ hM3
        refine xr 2 rfl ?_
        refine xpu (pv_addI (a := i) (b := 1) rfl rfl (by omega)) rfl ?_
        refine xr 1 rfl ?_
        have hrW : w.heap.size ≤ r := by omega
        refine xag (i + 1, aset hh x gl, db || o2.isSome) ⟨hi, (iU1.trans hw2).trans hw3 (fun b hb => .inr (by simp at hb; omega)), hM3, ?_, ?_, ?_, ?_⟩ (by show del.length - (i + 1) < del.length - i; omega) ⟨rfl, rfl, rfl, rfl, rfl, rfl, trivial⟩
        · intro h j
          show aget h (aset hh x gl) = some j ↔ h ∈ del.take (i + 1) ∧ _
          rw [htk, aget_set, List.mem_append, List.mem_singleton]
          by_cases hhh : h = hh
          · subst hhh
            rw [if_pos rfl]
            constructor
            · intro hx; cases hx; exact ⟨.inr rfl, hLx⟩
            · rintro ⟨_, hj⟩
              have := (h4 h j).2 hj
              rw [ho] at this; exact this
          · rw [if_neg hhh, iG h j]
            constructor
            · rintro ⟨a, b⟩; exact ⟨.inl a, b⟩
            · rintro ⟨a | a, b⟩
              · exact ⟨a, b⟩
              · exact absurd a hhh
        · show (aset hh x gl).length ≤ i + 1
          cases hai : aidx hh gl with
          | none => rw [aset_new hai]; simp; omega
          | some k => rw [aset_some hai]; simp; omega
        · intro h hm
          rw [htk] at hm
          rcases List.mem_append.1 hm with hm | hm
          · exact iA h hm
          · have : h = hh := by simpa using hm
            subst this; exact List.mem_of_getElem? hLx
        · show (db || o2.isSome) = false ↔ (del.take (i + 1)).Nodup
          rw [Bool.or_eq_false_iff, iD, htk, List.nodup_append]
          constructor
          · rintro ⟨a, b⟩
            refine ⟨a, by simp, fun y hy z hz => ?_⟩
            have : z = hh := by simpa using hz
            subst this
            intro he
            subst he
            rw [hin.2 hy] at b; cases b
          · rintro ⟨a, _, b⟩
            refine ⟨a, ?_⟩
            cases hoo : o2.isSome with
            | false => rfl
            | true => exact absurd rfl (b hh (hin.1 hoo) hh (by simp))
      cases db with
      | true =>
        refine xr 11 rfl ?_
        exact next _ ⟨rfl, rfl, rfl, rfl, rfl, rfl, rfl, rfl, rfl, trivial⟩
      | false =>
        refine xr 12 rfl ?_
        exact next _ ⟨rfl, rfl, rfl, rfl, rfl, rfl, rfl, rfl, rfl, trivial⟩
  · refine xpu (pv_lssI (a := i) (b := del.length) (q := false) rfl rfl (by simpa using hi)) rfl ?_
    have : i = del.length := by omega
    subst this
    rw [List.take_length] at iG iA iD
    refine xr 4 rfl ?_
    refine exec_cond rfl (fun hq => ?_) (fun hq => ?_)
    · refine xr 2 rfl ?_
      refine xre hc [_, _] ⟨rfl, rfl, trivial⟩ ⟨iU, .inr (.inl ⟨rfl, iA, fun hn => ?_⟩)⟩
      rw [iD.2 hn] at hq; cases hq
    · refine xr 4 rfl ?_
      exact xre hc [_, _] ⟨rfl, rfl, trivial⟩ ⟨iU, .inr (.inr ⟨r, gl, rfl, by omega, iM, iG, iL, iA, iD.1 hq⟩)⟩
end
end Go.Sp

namespace Go.Sp
section
variable {P : Program} {f : Nat} {w : World}
theorem tri {a b c : Bool} (h : ((a && !b) || c) = false) : ¬ (a = true ∧ b = false ∨ c = true) := by cases a <;> cases b <;> cases c <;> simp_all
/-- may these come? -/
def mayCome (s : Fo) (add : List Hash) (gl : List (Hash × Nat)) : Prop := add.Nodup ∧ ∀ h ∈ add, some h ∈ s.L → (aget h gl).isSome = true
set_option maxHeartbeats 800000 in
theorem coming_ok (A : ForJ P) {p m g : Nat} {s : Fo} {gl : List (Hash × Nat)} (h : FAt w p m s) {av : Value} {add : List Hash} (hS : SlC w av 32 add.length (hs add)) (hl : add.length < 2 ^ 40) (hg : MapAt w g hV u64V gl) :
    Ret P A.coming [ptrV p, av, .map (some g)] w fun v w' => Ext w w' ∧ ((v = .tuple #[.map none, intV' 6] ∧ ¬ mayCome s add gl) ∨
      ∃ r cl, v = .tuple #[.map (some r), intV' 0] ∧ w.heap.size ≤ r ∧ MapAt w' r hV u64V cl ∧ (∀ h i, aget h cl = some i ↔ ∃ k, add[k]? = some h ∧ i = s.L.length + k) ∧ mayCome s add gl) := by
  have hF := h
  have hlen := h.len
  obtain ⟨⟨tv, wl, h1, h2, h3, h4⟩, _⟩ := h
  have hlive : ∀ h, (aget h wl).isSome = true ↔ some h ∈ s.L := by
    intro h
    constructor
    · intro hi
      obtain ⟨i, hi⟩ := Option.isSome_iff_exists.1 hi
      exact List.mem_of_getElem? ((h4 h i).1 hi)
    · intro hm
      obtain ⟨i, hi⟩ := List.getElem?_of_mem hm
      rw [(h4 h i).2 hi]; rfl
  refine Ret.of_exec A.h_coming (Nat.le_of_ble_eq_true rfl) fun c hc => ?_
  dsimp only [b_Pforest_Forest_coming, argEnv, ym, yo, yg, ys, yt, yd, ye]
  refine xr 2 rfl ?_
  refine exec_mkMap rfl ?_
  intro r w1 hr hs1 hu1 hM
  refine xtm rfl rfl rfl ?_
  refine xtm rfl rfl rfl ?_
  refine xpu (hS.lenS rfl) rfl ?_
  refine xr 2 rfl ?_
  refine exec_inner_join (S := List (Hash × Nat)) (fun cl W => Ext w W ∧ MapAt W r hV u64V cl ∧ (∀ h i, aget h cl = some i ↔ ∃ k, add[k]? = some h ∧ i = s.L.length + k) ∧ mayCome s add gl) (fun _ => [(0, ptrV p), (1, av), (8, .map (some r))]) ?_ ?_
  rotate_left
  · rintro cl W ⟨q1, q2, q3, q4⟩
    refine xtm rfl rfl rfl ?_
    refine xpu (hS.lenS rfl) rfl ?_
    refine xpu (pv_toU (a := add.length) rfl (by omega)) rfl ?_
    refine xr 3 rfl ?_
    refine exec_load1 (b := p) (o := 0 + 0) rfl rfl ((h1.upd q1).cell rfl) ?_
    refine xpu (pv_subU (a := 9223372036854775807) (b := s.L.length) rfl rfl (by omega) (by omega)) rfl ?_
    refine xpu (pv_gtrI (a := add.length) (b := 9223372036854775807 - s.L.length) (q := false) rfl rfl (by simp; omega)) rfl ?_
    refine xr 5 rfl ?_
    exact xre hc [_, _] ⟨rfl, rfl, trivial⟩ ⟨q1, .inr ⟨r, cl, rfl, by omega, q2, q3, q4⟩⟩
  refine xlo (S := Nat × List (Hash × Nat)) (fun st W => st.1 ≤ add.length ∧ Ext w W ∧ MapAt W r hV u64V st.2 ∧ (∀ h i, aget h st.2 = some i ↔ ∃ k, k < st.1 ∧ add[k]? = some h ∧ i = s.L.length + k) ∧ mayCome s (add.take st.1) gl)
    (fun st => [(0, ptrV p), (1, av), (2, .map (some g)), (8, .map (some r)), (18, av), (19, intV' add.length), (20, intV' st.1)]) (fun st => add.length - st.1) (0, [])
    ⟨Nat.zero_le _, hu1, MapAt.empty hM, by simp [aget], by simp [mayCome]⟩ ⟨rfl, rfl, rfl, rfl, rfl, rfl, rfl, trivial⟩ ?_
  rintro ⟨i, cl⟩ W ⟨i1, iU, iM, iG, iA⟩
  simp only at i1 iM iG iA
  skip
  by_cases hi : i < add.length
  · refine xpu (pv_lssI (a := i) (b := add.length) (q := true) rfl rfl (by simpa using hi)) rfl ?_
    refine xr 4 rfl ?_
    obtain ⟨hh, hhi⟩ : ∃ x, add[i]? = some x := ⟨_, List.getElem?_eq_getElem hi⟩
    have htk : add.take (i + 1) = add.take i ++ [hh] := by rw [List.take_add_one, hhi]; rfl
    obtain ⟨bd, od, cd, hdv, _, hmd⟩ := hs_at (hS.upd iU (by simp)) hhi
    refine xju (ok_iaddr (N := 32) (b := bd) (o := od) (len := add.length) (cap := cd) (by rw [← hdv]; rfl) rfl i rfl hi) rfl ?_
    refine exec_loadN (b := bd) (o := od + i * 32) (vs := hC hh) rfl rfl hmd (hC_length _) ?_
    refine exec_new rfl ?_
    intro b9 W1 hb9 hs9 hw1 hB9
    refine xtm rfl rfl rfl ?_
    refine exec_store (b := b9) (o := 0) (v := hV hh) rfl rfl hB9 (hV_size hh) (by simp [rle]) (by rw [hV_cells]; exact hC_cell _) ?_
    intro W1' hw1' _ hB9'
    have zU := iU.size
    rw [hV_cells, splice_all (by simp [hC_length, rle])] at hB9'
    have iU1 : Ext w W1' := (iU.trans hw1).trans hw1' (fun b hb => .inr (by simp at hb; omega))
    have wW1 : Ext W W1' := hw1.trans hw1' (fun b hb => .inr (by simp at hb; omega))
    refine xen [(0, ptrV p), (1, av), (2, .map (some g)), (8, .map (some r)), (9, intV' i), (10, ptrV b9), (18, av), (19, intV' add.length), (20, intV' i)] ⟨rfl, rfl, rfl, rfl, rfl, rfl, rfl, rfl, rfl, trivial⟩ ?_
    obtain ⟨o, ho⟩ : ∃ o, aget hh wl = o := ⟨_, rfl⟩
    have hlo := hlive hh
    rw [ho] at hlo
    refine exec_dwr rfl rfl rfl ?_
    repeat (first | refine wtm rfl rfl rfl ?_ | refine wgt rfl rfl rfl rfl ?_ | refine wgs rfl rfl ?_)
    refine ws_keep (.map (some m)) rfl (fun X hx => ok_load1 (b := p) (o := 0 + 2) rfl (((h1.upd iU1).upd hx).cell rfl)) ?_
    refine ws_keep (hV hh) rfl (fun X hx => ok_loadN (b := b9) (o := 0) rfl (hB9'.upd hx).memAll (hC_length _)) ?_
    refine ws_keep _ rfl (fun X hx => ok_look A.h_TH rfl rfl ((h3.upd iU1).upd hx) ho) ?_
    repeat (first | refine wtm rfl rfl rfl ?_ | refine wgt rfl rfl rfl rfl ?_ | refine wgs rfl rfl ?_)
    refine ws_fin fun W2 hw2 => ?_
    refine xr 2 rfl ?_
    refine exec_loadN (b := b9) (o := 0) (vs := hC hh) rfl rfl (hB9'.upd hw2).memAll (hC_length _) ?_
    have iU2 := iU1.trans hw2
    have iM2 := (iM.upd wW1).upd hw2
    obtain ⟨o1, ho1⟩ : ∃ o, aget hh gl = o := ⟨_, rfl⟩
    refine xju (ok_look A.h_TH rfl rfl (hg.upd iU2) ho1) rfl ?_
    refine xr 6 rfl ?_
    refine exec_loadN (b := b9) (o := 0) (vs := hC hh) rfl rfl (hB9'.upd hw2).memAll (hC_length _) ?_
    obtain ⟨o2, ho2⟩ : ∃ o, aget hh cl = o := ⟨_, rfl⟩
    refine xju (ok_look A.h_TH rfl rfl iM2 ho2) rfl ?_
    have hin : o2.isSome = true ↔ hh ∈ add.take i := by
      constructor
      · intro hi2
        obtain ⟨y, rfl⟩ := Option.isSome_iff_exists.1 hi2
        obtain ⟨k, hk, hk2, _⟩ := (iG hh y).1 ho2
        exact List.mem_of_getElem? (i := k) (by rw [List.getElem?_take, if_pos hk]; exact hk2)
      · intro hi2
        obtain ⟨k, hk⟩ := List.getElem?_of_mem hi2
        rw [List.getElem?_take] at hk
        split at hk
        · have := (iG hh (s.L.length + k)).2 ⟨k, by assumption, hk, rfl⟩
          rw [← ho2, this]; rfl
        · cases hk
    refine xr 7 rfl ?_
    refine xen [(0, ptrV p), (1, av), (2, .map (some g)), (8, .map (some r)), (9, intV' i), (10, ptrV b9), (46, .bool o.isSome), (47, .bool o.isSome), (14, .bool o1.isSome), (16, .bool o2.isSome), (18, av), (19, intV' add.length), (20, intV' i)] ⟨rfl, rfl, rfl, rfl, rfl, rfl, rfl, rfl, rfl, rfl, rfl, rfl, rfl, trivial⟩ ?_
    have bad : (o.isSome = true ∧ o1.isSome = false ∨ o2.isSome = true) → ¬ mayCome s add gl := by
      rintro hbad ⟨hnd, hmay⟩
      rcases hbad with ⟨q1, q2⟩ | q
      · have := hmay hh (List.mem_of_getElem? hhi) (hlo.1 q1)
        rw [ho1] at this
        rw [this] at q2; cases q2
      · have hm := hin.1 q
        have : (add.take (i + 1)).Nodup := hnd.sublist (List.take_sublist _ _)
        rw [htk, List.nodup_append] at this
        exact this.2.2 hh hm hh (by simp) rfl
    have good : ¬ (o.isSome = true ∧ o1.isSome = false ∨ o2.isSome = true) → mayCome s (add.take (i + 1)) gl := by
      intro hgood
      refine ⟨?_, ?_⟩
      · rw [htk, List.nodup_append]
        refine ⟨iA.1, by simp, fun y hy z hz => ?_⟩
        have : z = hh := by simpa using hz
        subst this
        intro he
        subst he
        exact hgood (.inr (hin.2 hy))
      · intro h hm hL
        rw [htk] at hm
        rcases List.mem_append.1 hm with hm | hm
        · exact iA.2 h hm hL
        · have : h = hh := by simpa using hm
          subst this
          rw [ho1]
          cases ho1' : o1.isSome with
          | true => rfl
          | false => exact absurd (.inl ⟨hlo.2 hL, ho1'⟩) hgood
    have pick : ∀ (is : List Ins) (k : Kont), Exec P 74 c [] is k [(53, .bool ((o.isSome && !o1.isSome) || o2.isSome)), (0, ptrV p), (1, av), (2, .map (some g)), (8, .map (some r)), (9, intV' i), (10, ptrV b9), (18, av), (19, intV' add.length), (20, intV' i)] W2 →
        Exec P 74 c [] (.op (some (some 47, true)) (some 48) (.mov (.tmp 14)) ::
          .op (some (some 47, true)) (some 49) (.un .not (.tmp 48)) ::
          .op none (some 50) (.pick (.tmp 47) (.tmp 49) (.const (.bool false))) ::
          .op none (some 51) (.mov (.tmp 50)) ::
          .op (some (some 51, false)) (some 52) (.mov (.tmp 16)) ::
          .op none (some 53) (.pick (.tmp 51) (.const (.bool true)) (.tmp 52)) :: is) k [(0, ptrV p), (1, av), (2, .map (some g)), (8, .map (some r)), (9, intV' i), (10, ptrV b9), (46, .bool o.isSome), (47, .bool o.isSome), (14, .bool o1.isSome), (16, .bool o2.isSome), (18, av), (19, intV' add.length), (20, intV' i)] W2 := by
      intro is k hx
      generalize o.isSome = p0 at hx ⊢
      generalize o1.isSome = p1 at hx ⊢
      generalize o2.isSome = p2 at hx ⊢
      cases p0 with
      | false =>
        refine xgs rfl rfl ?_
        refine xgs rfl rfl ?_
        refine xtm rfl rfl rfl ?_
        refine xtm rfl rfl rfl ?_
        refine xgr rfl ?_
        refine xtm rfl rfl rfl ?_
        refine xtm rfl rfl rfl ?_
        refine xen _ ?_ hx
        exact ⟨rfl, rfl, rfl, rfl, rfl, rfl, rfl, rfl, rfl, rfl, trivial⟩
      | true =>
        cases p1 with
        | false =>
          refine xgr rfl ?_
          refine xtm rfl rfl rfl ?_
          refine xgr rfl ?_
          refine xtm rfl rfl rfl ?_
          refine xtm rfl rfl rfl ?_
          refine xtm rfl rfl rfl ?_
          refine xgs rfl rfl ?_
          refine xtm rfl rfl rfl ?_
          refine xen _ ?_ hx
          exact ⟨rfl, rfl, rfl, rfl, rfl, rfl, rfl, rfl, rfl, rfl, trivial⟩
        | true =>
          refine xgr rfl ?_
          refine xtm rfl rfl rfl ?_
          refine xgr rfl ?_
          refine xtm rfl rfl rfl ?_
          refine xtm rfl rfl rfl ?_
          refine xtm rfl rfl rfl ?_
          refine xgr rfl ?_
          refine xtm rfl rfl rfl ?_
          refine xtm rfl rfl rfl ?_
          refine xen _ ?_ hx
          exact ⟨rfl, rfl, rfl, rfl, rfl, rfl, rfl, rfl, rfl, rfl, trivial⟩
    refine pick _ _ ?_
    refine exec_cond rfl (fun hq => ?_) (fun hq => ?_)
    · refine xr 2 rfl ?_
      refine xre hc [_, _] ⟨rfl, rfl, trivial⟩ ⟨iU2, .inl ⟨rfl, bad ?_⟩⟩
      simpa using hq
    · have hgood := good (tri hq)
      have hnin : hh ∉ add.take i := fun hm => by
        have := hin.2 hm
        rw [Bool.or_eq_false_iff] at hq
        rw [hq.2] at this; cases this
      refine xr 1 rfl ?_
      refine exec_dwr rfl rfl rfl ?_
      repeat (first | refine wtm rfl rfl rfl ?_ | refine wgt rfl rfl rfl rfl ?_ | refine wgs rfl rfl ?_)
      refine ws_keep (hV hh) rfl (fun X hx => ok_loadN (b := b9) (o := 0) rfl ((hB9'.upd hw2).upd hx).memAll (hC_length _)) ?_
      repeat (first | refine wtm rfl rfl rfl ?_ | refine wgt rfl rfl rfl rfl ?_ | refine wgs rfl rfl ?_)
      refine ws_keep (u64V s.L.length) rfl (fun X hx => ok_load1 (b := p) (o := 0 + 0) rfl (((h1.upd iU2).upd hx).cell rfl)) ?_
      repeat (first | refine wtm rfl rfl rfl ?_ | refine wgt rfl rfl rfl rfl ?_ | refine wgs rfl rfl ?_)
      refine ws_val rfl (pv_toU (a := i) rfl (by omega)) ?_
      refine ws_val rfl (pv_addU (a := s.L.length) (b := i) rfl rfl (by omega)) ?_
      refine ws_fin fun W3 hw3 => ?_
      refine exec_mapUpd (a := hh) (b := s.L.length + i) (keyOK_hash A.h_TH) rfl rfl rfl (iM2.upd hw3) ?_
      intro W4 hw4 _ hM4
      refine xr 2 rfl ?_
      refine xpu (pv_addI (a := i) (b := 1) rfl rfl (by omega)) rfl ?_
      refine xr 1 rfl ?_
      refine xag (i + 1, aset hh (s.L.length + i) cl) ⟨hi, (iU2.trans hw3).trans hw4 (fun b hb => .inr (by simp at hb; omega)), hM4, ?_, hgood⟩ (by show add.length - (i + 1) < add.length - i; omega) ⟨rfl, rfl, rfl, rfl, rfl, rfl, rfl, trivial⟩
      intro h j
      show aget h (aset hh (s.L.length + i) cl) = some j ↔ ∃ k, k < i + 1 ∧ _
      rw [aget_set]
      by_cases hhh : h = hh
      · subst hhh
        rw [if_pos rfl]
        constructor
        · intro hx; cases hx; exact ⟨i, by omega, hhi, rfl⟩
        · rintro ⟨k, hk, hk2, rfl⟩
          rcases Nat.lt_or_ge k i with hki | hki
          · exact absurd (List.mem_of_getElem? (i := k) (by rw [List.getElem?_take, if_pos hki]; exact hk2)) hnin
          · have : k = i := by omega
            subst this; rfl
      · rw [if_neg hhh, iG h j]
        constructor
        · rintro ⟨k, a, b, d⟩; exact ⟨k, by omega, b, d⟩
        · rintro ⟨k, a, b, d⟩
          rcases Nat.lt_or_ge k i with hki | hki
          · exact ⟨k, hki, b, d⟩
          · have : k = i := by omega
            subst this
            rw [hhi] at b; cases b; exact absurd rfl hhh
  · refine xpu (pv_lssI (a := i) (b := add.length) (q := false) rfl rfl (by simpa using hi)) rfl ?_
    have : i = add.length := by omega
    subst this
    rw [List.take_length] at iA
    refine xr 2 rfl ?_
    refine exec_meet cl ⟨iU, iM, ?_, iA⟩ ⟨rfl, rfl, rfl, trivial⟩
    intro h j
    rw [iG h j]
    constructor
    · rintro ⟨k, _, b, d⟩; exact ⟨k, b, d⟩
    · rintro ⟨k, b, d⟩; exact ⟨k, (List.getElem?_eq_some_iff.1 b).1, b, d⟩
end
end Go.Sp

namespace Go.Sp
def b_need_Need (f0 f1 f2 f3 : Nat) (T0 : Nat) : Body := { n := 56,res := [.tmp 4,.tmp 5],code := [yo 4 (.mov (.const (.slice none 0 0))),yo 5 (.mov (.const (.int .i64 0))),ym 13 0,ym 14 1,
 yo 15 (.call f0 #[(yt 13),(yt 14)]),ym 12 15,yo 16 (.ext (yt 12) 0),yo 17 (.ext (yt 12) 1),ym 6 16,ym 7 17,ym 18 7,yo 19 (.ibin .neq (yt 18) (.const (.int .i64 0))),.cond (yt 19) [ym 20 7,
 yo 4 (.mov (.const (.slice none 0 0))),ym 5 20,.ret] [],yo 21 (.mkMap),ym 8 21,ym 22 6,yo 23 (.nilc (yt 22)),yo 24 (.faddr 3 (yt 23)),yo 25 (.load1 (yt 24)),yo 26 (.range (yt 25)),.block 0 [.loop [yo 27 (.next (yt 26)),
 yo 28 (.ext (yt 27) 0),.cond (yt 28) [] [.exit 0],.block 1 [yo 29 (.entry (yt 26)),yo 30 (.ext (yt 29) 0),ym 9 30,ym 31 6,ym 32 9,yo 33 (.call f1 #[(yt 31),(yt 32)]),.cond (yt 33) [.exit 1] [],ym 35 9,ym 36 6,
 yo 37 (.nilc (yt 36)),yo 38 (.faddr 1 (yt 37)),yo 39 (.load1 (yt 38)),yo 40 (.call f2 #[(yt 35),(yt 39)]),ym 34 40,yo 41 (.ext (yt 34) 0),yo 42 (.ext (yt 34) 1),ym 10 41,ym 11 42,ym 43 6,yo 44 (.nilc (yt 43)),
 yo 45 (.faddr 3 (yt 44)),yo 46 (.load1 (yt 45)),ym 47 10,yo 48 (.lookup T0 (.int .i64 0) (yt 46) (yt 47) false),yo 49 (.ibin .eql (yt 48) (.const (.int .i64 0))),.cond (yt 49) [ym 50 8,ym 51 10,
 yo 52 (.lookup T0 (.int .i64 0) (yt 50) (yt 51) false),yo 53 (.ibin .add (yt 52) (.const (.int .i64 1))),.op none none (.mapUpd T0 (yt 50) (yt 51) (yt 53))] []]]],ym 54 8,yo 55 (.call f3 #[(yt 54)]),ym 4 55,
 yo 5 (.mov (.const (.int .i64 0))),.ret] }
def b_need_made (f0 f1 f2 : Nat) (T0 T1 T2 T3 : Nat) : Body := { n := 98,res := [.cell false 1 4,.cell false 1 5],code := [yo 4 (.new T0 (rle [(1,.pointer none)])),yo 5 (.new T1 (rle [(1,.int .i64 0)])),ym 17 0,
 yo 18 (.call f0 #[(yt 17)]),ym 16 18,yo 19 (.ext (yt 16) 0),yo 20 (.ext (yt 16) 1),ym 6 19,ym 7 20,ym 21 7,yo 22 (.un .not (yt 21)),.cond (yt 22) [.op none none (.store 1 (yt 4) (.const (.pointer none))),
 .op none none (.store 1 (yt 5) (.const (.int .i64 2))),.ret] [],ym 23 0,ym 24 6,yo 25 (.mkMap),yo 26 (.mkMap),
 yo 27 (.mk (rle [(1,.int .u64 0),(1,.int .i64 0),(2,.map none)]) [(0,1,(yt 23)),(1,1,(yt 24)),(2,1,(yt 25)),(3,1,(yt 26))]),yo 28 (.box T2 (yt 27)),yo 8 (.new T0 (rle [(1,.pointer none)])),ys 1 8 28,ym 29 1,
 yo 30 (.lenS (yt 29)),yo 31 (.mov (.const (.int .i64 0))),.block 0 [.loop [yo 32 (.ibin .lss (yt 31) (yt 30)),.cond (yt 32) [] [.exit 0],.block 1 [yo 33 (.iaddr 1 (yt 29) (yt 31)),yo 34 (.load1 (yt 33)),ym 10 34,
 ym 36 0,ym 37 10,yo 38 (.call f1 #[(yt 36),(yt 37)]),ym 35 38,yo 39 (.ext (yt 35) 0),yo 40 (.ext (yt 35) 1),ym 11 39,ym 12 40,ym 41 12,yo 42 (.un .not (yt 41)),ym 43 42,yg 43 false 44 (.load1 (yt 8)),
 yg 43 false 45 (.nilc (yt 44)),yg 43 false 46 (.faddr 2 (yt 45)),yg 43 false 47 (.load1 (yt 46)),yg 43 false 48 (.mov (yt 10)),yg 43 false 49 (.lookup T3 (.int .i64 0) (yt 47) (yt 48) false),
 yg 43 false 50 (.ibin .gtr (yt 49) (.const (.int .i64 0))),yo 51 (.pick (yt 43) (.const (.bool true)) (yt 50)),.cond (yt 51) [.op none none (.store 1 (yt 4) (.const (.pointer none))),
 .op none none (.store 1 (yt 5) (.const (.int .i64 2))),.ret] [],yo 52 (.load1 (yt 8)),yo 53 (.nilc (yt 52)),yo 54 (.faddr 2 (yt 53)),yo 55 (.load1 (yt 54)),ym 56 10,
 yo 57 (.lookup T3 (.int .i64 0) (yt 55) (yt 56) false),yo 58 (.ibin .add (yt 57) (.const (.int .i64 1))),.op none none (.mapUpd T3 (yt 55) (yt 56) (yt 58))],yo 59 (.ibin .add (yt 31) (.const (.int .i64 1))),ym 31 59]],
 ym 60 1,yo 61 (.lenS (yt 60)),yo 62 (.mov (.const (.int .i64 0))),.block 2 [.loop [yo 63 (.ibin .lss (yt 62) (yt 61)),.cond (yt 63) [] [.exit 2],.block 3 [yo 64 (.iaddr 1 (yt 60) (yt 62)),yo 65 (.load1 (yt 64)),
 yo 14 (.new T3 (rle [(1,.int .u64 0)])),ys 1 14 65,ym 66 0,yo 67 (.load1 (yt 14)),yo 68 (.call f2 #[(yt 66),(yt 67)]),.block 4 [.rangeF (yt 68) #[69] [ym 15 69] [.block 5 [ym 70 15,yo 71 (.load1 (yt 14)),
 yo 72 (.ibin .neq (yt 70) (yt 71)),ym 73 72,yg 73 true 74 (.load1 (yt 8)),yg 73 true 75 (.nilc (yt 74)),yg 73 true 76 (.faddr 2 (yt 75)),yg 73 true 77 (.load1 (yt 76)),yg 73 true 78 (.mov (yt 15)),
 yg 73 true 79 (.lookup T3 (.int .i64 0) (yt 77) (yt 78) false),yg 73 true 80 (.ibin .gtr (yt 79) (.const (.int .i64 0))),yo 81 (.pick (yt 73) (yt 80) (.const (.bool false))),.cond (yt 81) [
 .op none none (.store 1 (yt 4) (.const (.pointer none))),.op none none (.store 1 (yt 5) (.const (.int .i64 2))),.ret] [],yo 82 (.load1 (yt 8)),yo 83 (.nilc (yt 82)),yo 84 (.faddr 3 (yt 83)),yo 85 (.load1 (yt 84)),
 ym 86 15,yo 87 (.lookup T3 (.int .i64 0) (yt 85) (yt 86) false),yo 88 (.ibin .add (yt 87) (.const (.int .i64 1))),.op none none (.mapUpd T3 (yt 85) (yt 86) (yt 88)),yo 89 (.load1 (yt 8)),yo 90 (.nilc (yt 89)),
 yo 91 (.faddr 3 (yt 90)),yo 92 (.load1 (yt 91)),ym 93 15,yo 94 (.lookup T3 (.int .i64 0) (yt 92) (yt 93) false),yo 95 (.ibin .gtr (yt 94) (.const (.int .i64 1))),.cond (yt 95) [.exit 4] []]]]],
 yo 96 (.ibin .add (yt 62) (.const (.int .i64 1))),ym 62 96]],yo 97 (.load1 (yt 8)),ys 1 4 97,.op none none (.store 1 (yt 5) (.const (.int .i64 0))),.ret] }
def b_Pneed_plan_isRoot (f0 f1 : Nat) : Body := { n := 30,res := [.tmp 4],code := [yo 4 (.mov (.const (.bool false))),ym 10 0,yo 11 (.nilc (yt 10)),yo 12 (.faddr 0 (yt 11)),yo 13 (.load1 (yt 12)),ym 14 1,
 yo 15 (.call f0 #[(yt 13),(yt 14)]),ym 9 15,yo 16 (.ext (yt 9) 0),yo 17 (.ext (yt 9) 1),ym 5 16,ym 6 17,ym 19 0,yo 20 (.nilc (yt 19)),yo 21 (.faddr 0 (yt 20)),yo 22 (.load1 (yt 21)),ym 23 5,
 yo 24 (.call f1 #[(yt 22),(yt 23)]),ym 18 24,yo 25 (.ext (yt 18) 0),yo 26 (.ext (yt 18) 1),ym 7 25,ym 8 26,ym 27 7,ym 28 1,yo 29 (.ibin .eql (yt 27) (yt 28)),ym 4 29,.ret] }
def b_need_rising_uint64_int (f0 f1 : Nat) : Body := { n := 6,res := [.tmp 2],code := [yo 2 (.mov (.const (.slice none 0 0))),ym 3 0,yo 4 (.call f0 #[(yt 3)]),yo 5 (.call f1 #[(yt 4)]),ym 2 5,.ret] }
def b_need_up (f0 f1 : Nat) : Body := { n := 9,res := [.tmp 4],code := [yo 4 (.mov (.const (.nilFunc))),ym 5 0,ym 6 1,yo 7 (.call f0 #[(yt 5),(yt 6)]),yo 8 (.call f1 #[(yt 7)]),ym 4 8,.ret] }
end Go.Sp

namespace Go.Sp
section
variable {P : Program} {f : Nat} {w : World}
/-- slices.AppendSeq onto nil -/
theorem appendSeq_ok {T1 T2 gf : Nat} (h : Has P f (b_slices_AppendSeq_uint64_uint64 T1 T2)) {lb : List Value} (hen : Enters P gf) {rds : List Nat} {Part : List Nat → Nat → Prop} {Good : List Nat → Prop}
    (hseq : ∀ w1, Ext w w1 → SeqG P gf lb w1 rds [] (fun q => [u64V q]) Part Good) (hrds : ∀ b ∈ rds, b < w.heap.size) (hpart : ∀ pre x, Part pre x → pre.length < 2 ^ 40) :
    Ret P f [.slice none 0 0, .func (.func gf) #[] lb.toArray] w fun v w' => ∃ xs, Good xs ∧ OwnC w' v 1 xs.length (xs.map u64V) ∧ Ext w w' ∧ ∀ b ∈ blkOf v, w.heap.size ≤ b := by
  refine Ret.of_exec h (Nat.le_of_ble_eq_true rfl) fun c hc => ?_
  dsimp only [b_slices_AppendSeq_uint64_uint64, argEnv, ym, yo, yg, ys, yt, yd, ye]
  refine exec_box rfl rfl ?_
  intro b2 w1 hb2 hs1 hu1 hB2
  refine xr 3 rfl ?_
  refine exec_rangeG (S := Value) rfl hen hc.rd rds [] (fun q => [u64V q]) Part Good (fun W hu => hseq W (hu1.trans hu)) u64V (fun _ => rfl) rfl
    w.heap.size [] (fun v => b2 :: blkOf v)
    (fun pre v W => Blk W b2 [v] ∧ OwnC W v 1 pre.length (pre.map u64V) ∧ Ext w W ∧ (∀ b ∈ blkOf v, w.heap.size ≤ b ∧ b ≠ b2))
    (fun _ _ _ => False) (.slice none 0 0) ?_ ?_ ?_ ?_ ?_ ?_ ?_ (fun _ => rfl) rfl ?_ ?_ ?_
  · intro pre v W W' l' ⟨h1, h2, h3, h4⟩ hu hb
    refine ⟨h1.upd hu ?_, h2.upd hu ?_, h3.trans hu (fun b hb' => .inr (hb b hb').1), h4⟩
    · intro hm; exact (hb _ hm).2 (by simp)
    · intro b hb1 hm; exact (hb _ hm).2 (by simp [hb1])
  · intro cd v W W' l' h; exact h.elim
  · exact ⟨hB2, .inl (by simp), hu1, by simp [blkOf]⟩
  · omega
  · intro b hb; simp [blkOf] at hb; omega
  · simp
  · intro b hb; have := hrds b hb; refine ⟨by omega, by simp, ?_⟩; simp [blkOf]; omega
  · rintro l c' pre v W q hc' ⟨h1, h2, h3, h4⟩ hpq hlw hnw
    have hlen := hpart pre q hpq
    refine xbk ?_
    refine exec_load1 (b := b2) (o := 0) rfl rfl (h1.cell rfl) ?_
    refine xr 1 rfl ?_
    refine exec_lit (N := 1) [u64V q] rfl rfl rfl rfl rfl ?_
    intro bl w7 hbl hs7 hu7 hO7
    refine exec_ok (ok_append (N := 1) rfl rfl (h2.upd hu7 (by simp)) hO7.sl rfl (by decide) (by omega) rfl) rfl ?_
    rintro v2 w8 ⟨hO8, hu8, hf8, hl8⟩
    have n2 : b2 ∉ blkOf v := fun h => (h4 _ h).2 rfl
    have z7 := hu7.size
    have z8 := hu8.size
    have k2 := h1.lt
    have n2' : ∀ b ∈ blkOf v2, w.heap.size ≤ b ∧ b ≠ b2 := by
      intro b hb
      rcases hf8 b hb with h | h
      · exact h4 b h
      · exact ⟨by omega, by omega⟩
    have hcv : v2.cells.size = 1 ∧ v2.cells.toList.all cellValue = true ∧ splice [v] 0 v2.cells.toList = [v2] := by
      rcases hO8 with ⟨h, _⟩ | ⟨_, _, _, h, _⟩ <;> rw [h] <;> exact ⟨rfl, rfl, rfl⟩
    refine exec_store (b := b2) (o := 0) (v := v2) rfl rfl ((h1.upd hu7).upd hu8 n2) hcv.1 (by simp) hcv.2.1 ?_
    intro w9 hu9 hs9 hB9
    rw [hcv.2.2] at hB9
    have z9 := hu9.size
    refine xr 2 rfl ?_
    refine exec_round_end hc' ⟨v2, ⟨hB9, ?_, ?_, n2'⟩, ?_, ?_, ?_⟩
    · have := hO8.upd hu9 (fun b hb => by simp; exact (n2' b hb).2)
      rw [List.length_append, List.map_append]; exact this
    · exact ((h3.trans hu7).trans hu8 (fun b hb => .inr (h4 b hb).1)).trans hu9 (fun b hb => .inr (by simp at hb; omega))
    · exact ((hu7.mono (by simp)).trans hu8 (fun b hb => .inl (by simp [hb]))).trans hu9 (fun b hb => .inl (by simp at hb; simp [hb]))
    · intro b hb
      simp only [List.mem_cons] at hb ⊢
      rcases hb with h | h
      · exact .inl (.inl h)
      · rcases hf8 b h with h' | h'
        · exact .inl (.inr h')
        · exact .inr (by omega)
    · intro b hb
      simp only [List.mem_cons] at hb
      rcases hb with h | h
      · omega
      · have := hl8 b h; omega
  · rintro D0 xs v W hD hg ⟨h1, h2, h3, h4⟩ hsh hnl
    refine xr 2 rfl ?_
    refine exec_load1 (b := b2) (o := 0) rfl rfl (h1.cell rfl) ?_
    refine xr 1 rfl ?_
    refine exec_returnM hc [D0] rfl (by simp) (fun r hr => by simp at hr; subst hr; exact hsh) [v] fun W' hu' hs' => ?_
    refine ⟨⟨rfl, trivial⟩, xs, hg, h2.upd hu' (fun b hb hm => ?_), h3.trans hu' (fun b hb => .inr (by simp at hb; omega)), fun b hb => (h4 b hb).1⟩
    simp only [List.mem_singleton] at hm
    subst hm
    exact hnl (by simp [hb])
  · intro cd D0 v W _ h; exact h.elim
end
end Go.Sp

namespace Go.Sp
def sortN (l : List Nat) : List Nat := l.mergeSort (fun a b => decide (a ≤ b))
theorem sortN_perm (l : List Nat) : (sortN l).Perm l := List.mergeSort_perm l _
theorem sortN_sorted (l : List Nat) : (sortN l).Pairwise (· ≤ ·) := by
  have := List.pairwise_mergeSort (le := fun a b : Nat => decide (a ≤ b)) (by simp; omega) (by simp; omega) l
  simpa [sortN] using this
theorem sortN_eq {l l' : List Nat} (h : l.Perm l') : sortN l = sortN l' :=
  List.Perm.eq_of_pairwise (le := (· ≤ ·)) (fun _ _ _ _ h1 h2 => Nat.le_antisymm h1 h2) (sortN_sorted l) (sortN_sorted l') (((sortN_perm l).trans h).trans (sortN_perm l').symm)
end Go.Sp

namespace Go.Sp
/-- what slices.Sort is to do at numbers -/
def SortOK (P : Program) (f : FuncId) : Prop := ∀ (w : World) (v : Value) (l : List Nat), OwnC w v 1 l.length (l.map u64V) → l.length < 2 ^ 40 →
  Ret P f [v] w fun _ w' => OwnC w' v 1 l.length ((sortN l).map u64V) ∧ Upd (blkOf v) w w'
structure NeedF (P : Program) extends WayF P where
  values1 : Nat
  values : Nat
  needUp : Nat
  made : Nat
  isRoot : Nat
  keys1 : Nat
  keys' : Nat
  appendSeq : Nat
  collect : Nat
  sort : Nat
  sorted : Nat
  rising : Nat
  need : Nat
  TS : Nat
  TM : Nat
  TP : Nat
  TE : Nat
  TPl : Nat
  h_values1 : Has P values1 b_slices_Values_uint64_uint64_1
  h_values : Has P values (b_slices_Values_uint64_uint64 values1 TS)
  h_needUp : Has P needUp (b_need_up way values)
  h_made : Has P made (b_need_made rows tree needUp TP TE TPl T1)
  h_isRoot : Has P isRoot (b_Pneed_plan_isRoot tree root)
  h_keys1 : Has P keys1 b_maps_Keys_map_uint64int_uint64_int_1
  h_keys : Has P keys' (b_maps_Keys_map_uint64int_uint64_int keys1 TM)
  h_appendSeq : Has P appendSeq (b_slices_AppendSeq_uint64_uint64 T3 T1)
  h_collect : Has P collect (b_slices_Collect_uint64 appendSeq)
  h_sort : SortOK P sort
  h_sorted : Has P sorted (b_slices_Sorted_uint64 collect sort)
  h_rising : Has P rising (b_need_rising_uint64_int keys' sorted)
  h_need : Has P need (b_need_Need made isRoot sibling rising T1)
  hU : P.underlying T1 = some (.int .u64)
section
variable {P : Program} {f : Nat} {w : World} (A : NeedF P)
theorem collect_ok {gf : Nat} {lb : List Value} (hen : Enters P gf) {rds : List Nat} {Part : List Nat → Nat → Prop} {Good : List Nat → Prop}
    (hseq : ∀ w1, Ext w w1 → SeqG P gf lb w1 rds [] (fun q => [u64V q]) Part Good) (hrds : ∀ b ∈ rds, b < w.heap.size) (hpart : ∀ pre x, Part pre x → pre.length < 2 ^ 40) :
    Ret P A.collect [.func (.func gf) #[] lb.toArray] w fun v w' => ∃ xs, Good xs ∧ OwnC w' v 1 xs.length (xs.map u64V) ∧ Ext w w' ∧ ∀ b ∈ blkOf v, w.heap.size ≤ b := by
  refine Ret.of_exec A.h_collect (Nat.le_of_ble_eq_true rfl) fun c hc => ?_
  dsimp only [b_slices_Collect_uint64, argEnv, ym, yo, yg, ys, yt, yd, ye]
  refine xr 2 rfl ?_
  refine xca rfl rfl (appendSeq_ok A.h_appendSeq hen hseq hrds hpart) ?_
  rintro v w1 h
  refine xr 1 rfl ?_
  exact xre hc [_] ⟨rfl, trivial⟩ h
theorem sorted_ok {gf : Nat} {lb : List Value} (hen : Enters P gf) {rds : List Nat} {Part : List Nat → Nat → Prop} {Good : List Nat → Prop}
    (hseq : ∀ w1, Ext w w1 → SeqG P gf lb w1 rds [] (fun q => [u64V q]) Part Good) (hrds : ∀ b ∈ rds, b < w.heap.size) (hpart : ∀ pre x, Part pre x → pre.length < 2 ^ 40) (hgood : ∀ xs, Good xs → xs.length < 2 ^ 40) :
    Ret P A.sorted [.func (.func gf) #[] lb.toArray] w fun v w' => ∃ xs, Good xs ∧ OwnC w' v 1 xs.length ((sortN xs).map u64V) ∧ Ext w w' ∧ ∀ b ∈ blkOf v, w.heap.size ≤ b := by
  refine Ret.of_exec A.h_sorted (Nat.le_of_ble_eq_true rfl) fun c hc => ?_
  dsimp only [b_slices_Sorted_uint64, argEnv, ym, yo, yg, ys, yt, yd, ye]
  refine xr 2 rfl ?_
  refine xca rfl rfl (collect_ok A hen hseq hrds hpart) ?_
  rintro v w1 ⟨xs, hg, hO, hu, hf⟩
  refine xr 2 rfl ?_
  refine xca rfl rfl (A.h_sort w1 v xs hO (hgood xs hg)) ?_
  rintro v2 w2 ⟨hO2, hu2⟩
  refine xr 2 rfl ?_
  exact xre hc [_] ⟨rfl, trivial⟩ ⟨xs, hg, hO2, hu.trans hu2 (fun b hb => .inr (hf b hb)), hf⟩
end
end Go.Sp



namespace Go.Sp
/-- what a step through a map leaves to do -/
structure NextRem {α : Type} (rem rem' : List α) (a : α) : Prop where
  mem : rem.Nodup → ∀ x, x ∈ rem' ↔ x ∈ rem ∧ x ≠ a
  nodup : rem.Nodup → rem'.Nodup
  lt : rem'.length < rem.length
  perm : ∀ {pre ks : List α}, (pre ++ rem).Perm ks → ((pre ++ [a]) ++ rem').Perm ks
section
variable {P : Program} {n : Nat} {c : Ctx} {D : List Deferred} {is : List Ins} {k : Kont} {e : Env} {w : World} {α β : Type} [DecidableEq α] {enc : α → Value} {encV : β → Value} {r : Nat} {l : List (α × β)}
theorem exec_next' {x : Operand} {d it : Nat} {rem : List α} {last : Option (α × β)} (hx : e.ev x = some (.pointer (some ⟨it, 0, none⟩))) (hd : Nat.blt d n = true) (h : IterAt w it r enc encV l rem last)
    (over : rem = [] → Exec P n c D is k ((d, .tuple #[.bool false]) :: e) w)
    (more : ∀ a b w' rem', a ∈ rem → aget a l = some b → Upd [it] w w' → w'.heap.size = w.heap.size → IterAt w' it r enc encV l rem' (some (a, b)) → NextRem rem rem' a → Exec P n c D is k ((d, .tuple #[.bool true, enc a, encV b]) :: e) w') :
    Exec P n c D (.op none (some d) (.next x) :: is) k e w := by
  refine exec_next hx hd h over fun a b w' ha hab hu hs hI => more a b w' (rem.erase a) ha hab hu hs hI ⟨fun hn x => ?_, fun hn => hn.erase a, ?_, fun hp => ?_⟩
  · rw [hn.mem_erase_iff]; exact And.comm
  · rw [List.length_erase_of_mem ha]
    have := List.length_pos_of_mem ha
    omega
  · refine List.Perm.trans ?_ hp
    rw [List.append_assoc]
    exact List.Perm.append_left _ (List.perm_cons_erase ha).symm
end
/-- the functions of forest, on -/
structure ForK (P : Program) extends ForJ P where
  nf : NeedF P
  copyM : Nat
  change : Nat
  valsH1 : Nat
  valsH : Nat
  TVm : Nat
  h_copyM : Has P copyM (b_maps_Copy_map_api_Hashuint64_map_api_Hashuint64_api_Hash_uint64 TH)
  h_change : Has P change (b_Pforest_Forest_change copyM TH)
  h_valsH1 : Has P valsH1 b_maps_Values_map_api_Hashuint64_api_Hash_uint64_1
  h_valsH : Has P valsH (b_maps_Values_map_api_Hashuint64_api_Hash_uint64 valsH1 TVm)
theorem mem_keys_aget {α β : Type} [DecidableEq α] {a : α} {l : List (α × β)} (h : a ∈ keys l) : ∃ b, aget a l = some b := by
  cases ho : aget a l with
  | none => exact absurd h (aget_none.1 ho)
  | some b => exact ⟨b, rfl⟩
theorem vals_perm {α : Type} [DecidableEq α] {l : List (α × Nat)} (hn : (keys l).Nodup) : (keys l).map (fun a => (aget a l).getD 0) = l.map Prod.snd := by
  rw [keys, List.map_map]
  refine List.map_congr_left fun p hp => ?_
  simp only [Function.comp]
  rw [mem_aget hn (show (p.1, p.2) ∈ l from hp)]
  rfl
section
variable {P : Program} {f : Nat} {w : World}
theorem copyM_ok (A : ForK P) {d s : Nat} {l l' : List (Hash × Nat)} (hd : MapAt w d hV u64V l) (hs : MapAt w s hV u64V l') (hne : d ≠ s) :
    Ret P A.copyM [.map (some d), .map (some s)] w fun _ w' => ∃ l2, MapAt w' d hV u64V l2 ∧ (∀ h, aget h l2 = (aget h l').or (aget h l)) ∧ Upd [d] w w' := by
  refine Ret.of_exec A.h_copyM (Nat.le_of_ble_eq_true rfl) fun c hc => ?_
  dsimp only [b_maps_Copy_map_api_Hashuint64_map_api_Hashuint64_api_Hash_uint64, argEnv, ym, yo, yg, ys, yt, yd, ye]
  refine xr 1 rfl ?_
  refine exec_range rfl rfl hs ?_
  intro it w1 hit hs1 hu1 hI1
  have hnd := hs.nodup
  have hdlt := hd.lt
  have hslt := hs.lt
  refine xr 1 rfl ?_
  refine xlo (S := List Hash × Option (Hash × Nat) × List (Hash × Nat)) (fun st W => IterAt W it s hV u64V l' st.1 st.2.1 ∧ st.1.Nodup ∧ (∀ a ∈ st.1, a ∈ keys l') ∧ MapAt W d hV u64V st.2.2 ∧ (∀ h, h ∈ keys l' → h ∉ st.1 → aget h st.2.2 = aget h l') ∧ (∀ h, (h ∉ keys l' ∨ h ∈ st.1) → aget h st.2.2 = aget h l) ∧ Upd [d] w W)
    (fun _ => [(0, .map (some d)), (7, ptrV it)]) (fun st => st.1.length) (keys l', none, l) ⟨hI1, hnd, fun a h => h, hd.upd hu1, fun h h1 h2 => absurd h1 h2, fun h _ => rfl, hu1.mono (by simp)⟩ ⟨rfl, rfl, trivial⟩ ?_
  rintro ⟨rem, last, cur⟩ W ⟨hI, hrn, hrk, hM, hA, hA2, hU⟩
  simp only at hI hrn hrk hM hA hA2
  have zU := hU.size
  refine exec_next' rfl rfl hI (fun hrem => ?_) (fun a b w2 rem' ha hab hu2 hs2 hI2 hR => ?_)
  · refine xr 4 rfl ?_
    subst hrem
    refine exec_end hc [] trivial ⟨cur, hM, fun h => ?_, hU⟩
    by_cases hk : h ∈ keys l'
    · rw [hA h hk (by simp)]
      obtain ⟨b, hb⟩ := mem_keys_aget hk
      rw [hb]; rfl
    · rw [hA2 h (.inl hk), aget_none.2 hk]; rfl
  · refine xr 4 rfl ?_
    have hne2 : it ≠ d ∧ it ≠ s := by omega
    refine xju (ok_entry rfl hI2) rfl ?_
    refine xr 2 rfl ?_
    refine exec_new_store (v := hV a) rfl rfl rfl (hV_size a) rfl (by rw [hV_cells]; exact hC_cell _) ?_
    intro b4 w3 hb4 hs3 hu3 hB4
    rw [hV_cells] at hB4
    refine xr 2 rfl ?_
    refine exec_loadN (b := b4) (o := 0) (vs := hC a) rfl rfl hB4.memAll (hC_length _) ?_
    refine xr 1 rfl ?_
    have hM3 := (hM.upd hu2 (by simp; omega)).upd hu3
    refine exec_mapUpd (a := a) (b := b) (keyOK_hash A.h_TH) rfl rfl rfl hM3 ?_
    intro w4 hu4 _ hM4
    refine xr 2 rfl ?_
    have hU4 : Upd [d] w w4 := ((hU.trans hu2 (fun x hx => .inr (by simp at hx; omega))).trans hu3 (by simp)).trans hu4 (by simp)
    refine xag (_, some (a, b), aset a b cur) ⟨(hI2.upd hu3 (by simp) (by simp)).upd hu4 (by simp; omega) (by simp; omega), hR.nodup hrn, fun x hx => hrk x ((hR.mem hrn x).1 hx).1, hM4, fun h hk hn => ?_, fun h hk => ?_, hU4⟩ hR.lt ⟨rfl, rfl, trivial⟩
    · show aget h (aset a b cur) = _
      rw [aget_set]
      by_cases hh : h = a
      · subst hh; rw [if_pos rfl, hab]
      · rw [if_neg hh]
        exact hA h hk fun hm => hn ((hR.mem hrn h).2 ⟨hm, hh⟩)
    · show aget h (aset a b cur) = _
      rw [aget_set]
      have hha : h ≠ a := by
        rintro rfl
        rcases hk with hk | hk
        · exact hk (hrk h ha)
        · exact ((hR.mem hrn h).1 hk).2 rfl
      rw [if_neg hha]
      exact hA2 h (hk.imp id fun hx => ((hR.mem hrn h).1 hx).1)
theorem change_ok (A : ForK P) {p m g cm : Nat} {v0 v1 v3 v4 : Value} {wl gl cl : List (Hash × Nat)} (hB : Blk w p [v0, v1, .map (some m), v3, v4]) (hM : MapAt w m hV u64V wl) (hg : MapAt w g hV u64V gl) (hcm : MapAt w cm hV u64V cl) (h1 : m ≠ g) (h2 : m ≠ cm) :
    Ret P A.change [ptrV p, .map (some g), .map (some cm)] w fun _ w' => ∃ l2, MapAt w' m hV u64V l2 ∧ (∀ h, aget h l2 = (aget h cl).or (if (aget h gl).isSome then none else aget h wl)) ∧ Upd [m] w w' := by
  refine Ret.of_exec A.h_change (Nat.le_of_ble_eq_true rfl) fun c hc => ?_
  dsimp only [b_Pforest_Forest_change, argEnv, ym, yo, yg, ys, yt, yd, ye]
  refine xr 1 rfl ?_
  refine exec_range rfl rfl hg ?_
  intro it w1 hit hs1 hu1 hI1
  have hnd := hg.nodup
  have hplt := hB.lt
  have hmlt := hM.lt
  have hglt := hg.lt
  have hpm : p ≠ m := by
    intro he; subst he
    obtain ⟨es, clock, h3, _⟩ := hM
    obtain ⟨T, h4⟩ := hB
    rw [h3] at h4; cases h4
  refine xr 1 rfl ?_
  refine exec_inner_join (S := List (Hash × Nat)) (fun cur W => MapAt W m hV u64V cur ∧ (∀ h, aget h cur = if (aget h gl).isSome then none else aget h wl) ∧ Upd [m] w W) (fun _ => [(0, ptrV p), (2, .map (some cm))]) ?_ ?_
  rotate_left
  · rintro cur W ⟨q1, q2, q3⟩
    refine xr 3 rfl ?_
    refine exec_load1 (b := p) (o := 0 + 2) rfl rfl ((hB.upd q3 (by simp; omega)).cell rfl) ?_
    refine xr 1 rfl ?_
    refine xca rfl rfl (copyM_ok A q1 (hcm.upd q3 (by simp; omega)) h2) ?_
    rintro v w2 ⟨l2, r1, r2, r3⟩
    exact exec_end hc [] trivial ⟨l2, r1, fun h => by rw [r2, q2], q3.trans r3 (by simp)⟩
  refine xlo (S := List Hash × Option (Hash × Nat) × List (Hash × Nat)) (fun st W => IterAt W it g hV u64V gl st.1 st.2.1 ∧ st.1.Nodup ∧ (∀ a ∈ st.1, a ∈ keys gl) ∧ MapAt W m hV u64V st.2.2 ∧ (∀ h, h ∈ keys gl → h ∉ st.1 → aget h st.2.2 = none) ∧ (∀ h, (h ∉ keys gl ∨ h ∈ st.1) → aget h st.2.2 = aget h wl) ∧ Upd [m] w W)
    (fun _ => [(0, ptrV p), (2, .map (some cm)), (8, ptrV it)]) (fun st => st.1.length) (keys gl, none, wl) ⟨hI1, hnd, fun a h => h, hM.upd hu1, fun h h1 h2 => absurd h1 h2, fun h _ => rfl, hu1.mono (by simp)⟩ ⟨rfl, rfl, rfl, trivial⟩ ?_
  rintro ⟨rem, last, cur⟩ W ⟨hI, hrn, hrk, hMc, hA, hA2, hU⟩
  simp only at hI hrn hrk hMc hA hA2
  have zU := hU.size
  refine exec_next' rfl rfl hI (fun hrem => ?_) (fun a b w2 rem' ha hab hu2 hs2 hI2 hR => ?_)
  · refine xr 3 rfl ?_
    subst hrem
    refine exec_meet cur ⟨hMc, fun h => ?_, hU⟩ ⟨rfl, rfl, trivial⟩
    by_cases hk : h ∈ keys gl
    · rw [hA h hk (by simp)]
      obtain ⟨b, hb⟩ := mem_keys_aget hk
      rw [hb]; rfl
    · rw [hA2 h (.inl hk), aget_none.2 hk]; rfl
  · refine xr 4 rfl ?_
    have hne2 : it ≠ m ∧ it ≠ g ∧ it ≠ p := by omega
    refine xju (ok_entry rfl hI2) rfl ?_
    refine xr 1 rfl ?_
    refine exec_new_store (v := hV a) rfl rfl rfl (hV_size a) rfl (by rw [hV_cells]; exact hC_cell _) ?_
    intro b6 w3 hb6 hs3 hu3 hB6
    rw [hV_cells] at hB6
    have hUp : Upd [m] w w3 := (hU.trans hu2 (fun x hx => .inr (by simp at hx; omega))).trans hu3 (by simp)
    have hB3 := hB.upd hUp (by simp; omega)
    have hM3 := (hMc.upd hu2 (by simp; omega)).upd hu3
    have hI3 := hI2.upd hu3 (by simp) (by simp)
    refine xen [(0, ptrV p), (2, .map (some cm)), (6, ptrV b6), (8, ptrV it)] ⟨rfl, rfl, rfl, rfl, trivial⟩ ?_
    refine exec_dwr rfl rfl rfl ?_
    repeat (first | refine wtm rfl rfl rfl ?_ | refine wgt rfl rfl rfl rfl ?_ | refine wgs rfl rfl ?_)
    refine ws_keep (.map (some m)) rfl (fun X hx => ok_load1 (b := p) (o := 0 + 2) rfl ((hB3.upd hx).cell rfl)) ?_
    refine ws_keep (hV a) rfl (fun X hx => ok_loadN (b := b6) (o := 0) rfl (hB6.upd hx).memAll (hC_length _)) ?_
    refine ws_fin fun w4 hw4 => ?_
    refine exec_delete (a := a) (keyOK_hash A.h_TH) rfl rfl (hM3.upd hw4) ?_
    intro w5 hu5 _ hM5
    refine xr 2 rfl ?_
    have hU5 : Upd [m] w w5 := (hUp.trans hw4 (by simp)).trans hu5 (by simp)
    refine xag (_, some (a, b), adel a cur) ⟨(hI3.upd hw4 (by simp) (by simp)).upd hu5 (by simp; omega) (by simp; omega), hR.nodup hrn, fun x hx => hrk x ((hR.mem hrn x).1 hx).1, hM5, fun h hk hn => ?_, fun h hk => ?_, hU5⟩ hR.lt ⟨rfl, rfl, rfl, trivial⟩
    · show aget h (adel a cur) = _
      rw [aget_del hMc.nodup]
      by_cases hh : h = a
      · rw [if_pos hh]
      · rw [if_neg hh]
        exact hA h hk fun hm => hn ((hR.mem hrn h).2 ⟨hm, hh⟩)
    · show aget h (adel a cur) = _
      rw [aget_del hMc.nodup]
      have hha : h ≠ a := by
        rintro rfl
        rcases hk with hk | hk
        · exact hk (hrk h ha)
        · exact ((hR.mem hrn h).1 hk).2 rfl
      rw [if_neg hha]
      exact hA2 h (hk.imp id fun hx => ((hR.mem hrn h).1 hx).1)
/-- maps.Values at map[Hash]uint64 -/
theorem valsH1_ok (h : Has P f b_maps_Values_map_api_Hashuint64_api_Hash_uint64_1) {bs r : Nat} {l : List (Hash × Nat)} (hB : Blk w bs [.map (some r)]) (hm : MapAt w r hV u64V l) :
    SeqG P f [ptrV' bs] w [bs, r] [] (fun q => [u64V q]) (fun pre x => pre.length < l.length) (fun xs => xs.Perm (l.map Prod.snd)) := by
  refine SeqG.of_ret fun S y n0 ws loc J Jx s0 hJ hJx h0 hn0 hl0 hwr hrd hrounds => ?_
  refine Ret.of_exec h (Nat.le_of_ble_eq_true rfl) fun c hc => ?_
  dsimp only [b_maps_Values_map_api_Hashuint64_api_Hash_uint64_1, argEnv, ym, yo, yg, ys, yt, yd, ye]
  refine exec_load1 (b := bs) (o := 0) rfl rfl (hB.cell rfl) ?_
  refine exec_range rfl rfl hm ?_
  intro it w1 hit hs1 hu1 hI1
  have hnd := hm.nodup
  have hr0 := hrd r (by simp)
  have hkl : (keys l).length = l.length := by simp [keys]
  refine xr 1 rfl ?_
  refine xlo (S := List Hash × List Hash × Option (Hash × Nat) × S) (fun s W => J (s.1.map fun a => (aget a l).getD 0) s.2.2.2 W ∧ IterAt W it r hV u64V l s.2.1 s.2.2.1 ∧ (s.1 ++ s.2.1).Perm (keys l) ∧ r ∉ ws ++ loc s.2.2.2 ∧ it ∉ ws ++ loc s.2.2.2 ∧ n0 ≤ it ∧ (∀ b ∈ ws ++ loc s.2.2.2, b < W.heap.size))
    (fun s => [(0, .func (.yield y) #[] #[]), (6, ptrV' it)]) (fun s => s.2.1.length) ([], keys l, none, s0)
    ⟨hJ _ _ _ _ [] h0 hu1 (by simp), hI1, by simp, by simp [hr0], fun hx => ?_, by omega, fun b hb => ?_⟩ ⟨rfl, rfl, trivial⟩ ?_
  · have := hl0 _ hx; omega
  · have := hl0 _ hb; omega
  rintro ⟨pre, rem, last, s⟩ W ⟨hJi, hI, hp, hrn, hin, hni, hlw⟩
  simp only at hJi hI hp hrn hin hlw
  refine exec_next' rfl rfl hI (fun hrem => ?_) (fun a b w2 rem' ha hab hu2 hs2 hI2 hR => ?_)
  · refine xr 4 rfl ?_
    subst hrem
    refine exec_end hc [] trivial (.inl ⟨_, s, ?_, hJi⟩)
    rw [← vals_perm hnd]
    have : pre.Perm (keys l) := by simpa using hp
    exact this.map _
  · refine xr 4 rfl ?_
    refine xju (ok_entry rfl hI2) rfl ?_
    refine xr 4 rfl ?_
    have hplen : (pre.map fun a => (aget a l).getD 0).length < l.length := by
      have := hp.length_eq
      have hpos : 0 < rem.length := List.length_pos_of_mem ha
      simp only [List.length_append, List.length_map] at this ⊢; omega
    have hJ2 := hJ _ s W w2 [it] hJi hu2 (fun b hb => by simp at hb; subst hb; exact ⟨hni, fun h => hin (List.mem_append_right _ h)⟩)
    refine exec_yield (l := y) (vs := [u64V b]) rfl rfl rfl (hrounds _ s w2 b hJ2 hplen (fun b hb => by rw [hs2]; exact hlw b hb)) ?_
    rintro go W1 ⟨s1, hgo, hu3, hfr, hlt⟩
    have z3 := hu3.size
    have hrn1 : r ∉ ws ++ loc s1 := by
      simp only [List.mem_append, not_or] at hrn ⊢
      refine ⟨hrn.1, fun hm' => ?_⟩
      rcases hfr _ hm' with h4 | h4
      · exact hrn.2 h4
      · have := hI2.map.lt; omega
    have hin1 : it ∉ ws ++ loc s1 := by
      simp only [List.mem_append, not_or] at hin ⊢
      refine ⟨hin.1, fun hm' => ?_⟩
      rcases hfr _ hm' with h4 | h4
      · exact hin.2 h4
      · have := hI2.lt; omega
    cases go with
    | false =>
      refine xr 2 rfl ?_
      exact xre hc [] trivial (.inr ⟨s1, hgo⟩)
    | true =>
      simp only [if_true] at hgo
      refine xr 5 rfl ?_
      refine xag (pre ++ [a], _, some (a, b), s1) ⟨?_, hI2.upd hu3 hrn hin, hR.perm hp, hrn1, hin1, hni, fun b' hb' => ?_⟩ ?_ ⟨rfl, rfl, trivial⟩
      · rw [List.map_append]
        simp only [List.map_cons, List.map_nil, hab]
        exact hgo
      · rcases List.mem_append.1 hb' with h2 | h2
        · have := hlw b' (List.mem_append_left _ h2); omega
        · exact hlt b' h2
      · exact hR.lt
theorem valsH_ok (A : ForK P) {r : Nat} : Ret P A.valsH [.map (some r)] w fun v' w' => v' = .func (.func A.valsH1) #[] #[ptrV w.heap.size] ∧ Blk w' w.heap.size [.map (some r)] ∧ Ext w w' := by
  refine Ret.of_exec A.h_valsH (Nat.le_of_ble_eq_true rfl) fun c hc => ?_
  dsimp only [b_maps_Values_map_api_Hashuint64_api_Hash_uint64, argEnv, ym, yo, yg, ys, yt, yd, ye]
  refine exec_box rfl rfl ?_
  intro b w2 hb hs hu hB
  subst hb
  refine xr 3 rfl ?_
  exact xre hc [_] ⟨rfl, trivial⟩ ⟨rfl, hB, hu⟩
/-- a map's values, in order -/
theorem sortedVals_ok (A : ForK P) {r bs : Nat} {l : List (Hash × Nat)} (hB : Blk w bs [.map (some r)]) (hm : MapAt w r hV u64V l) (hl : l.length < 2 ^ 40) :
    RetS P A.nf.sorted [.func (.func A.valsH1) #[] #[ptrV bs]] w 1 (sortN (l.map Prod.snd)).length ((sortN (l.map Prod.snd)).map u64V) := by
  refine (sorted_ok A.nf A.h_valsH1.enters (lb := [ptrV bs]) (fun W hu => valsH1_ok A.h_valsH1 (hB.upd hu) (hm.upd hu)) ?_ ?_ ?_).mono ?_
  · intro b hb
    simp at hb
    rcases hb with rfl | rfl
    · exact hB.lt
    · exact hm.lt
  · intro pre x h; have : pre.length < l.length := h; omega
  · intro xs h; have := h.length_eq; simp at this; omega
  rintro v2 w2 ⟨xs, hg, hO, hu2, hf⟩
  have e1 : sortN xs = sortN (l.map Prod.snd) := sortN_eq hg
  have e2 : xs.length = (sortN (l.map Prod.snd)).length := by rw [← e1]; exact (sortN_perm xs).length_eq.symm
  rw [e1, e2] at hO
  exact ⟨hO, hu2, hf⟩
end
end Go.Sp

namespace Go.Sp
theorem treesBelow_mem (n : Nat) : ∀ k h, h ∈ treesBelow n k ↔ h < k ∧ bitN n h = true := by
  intro k h
  have := congrArg (fun l => h ∈ l) (treesBelow_rev n k)
  simp only [List.mem_reverse, List.mem_filter, List.mem_range, eq_iff_iff] at this
  exact this
theorem treesN_mem {n h : Nat} (hn : n < 2 ^ 63) : h ∈ treesN n ↔ h < 63 ∧ bitN n h = true := by
  rw [treesN, if_pos hn, treesBelow_mem]
theorem bitN_le {n h : Nat} (hb : bitN n h = true) : firstN n h + 2 ^ h ≤ n := by
  have hdiv : n / 2 ^ h = 2 * (n / 2 ^ (h + 1)) + 1 := by
    rw [Nat.pow_succ, ← Nat.div_div_eq_div_mul]
    have : n / 2 ^ h % 2 = 1 := by simpa [bitN] using hb
    omega
  have hle : n / 2 ^ h * 2 ^ h ≤ n := Nat.div_mul_le_self _ _
  rw [hdiv] at hle
  have : (2 * (n / 2 ^ (h + 1)) + 1) * 2 ^ h = firstN n h + 2 ^ h := by
    rw [firstN, Nat.pow_succ, Nat.add_mul, Nat.one_mul]
    congr 1
    rw [Nat.mul_comm 2, Nat.mul_assoc, Nat.mul_comm 2]
  omega
theorem pow_lt_imp {h k : Nat} (H : 2 ^ h < 2 ^ k) : h < k := (Nat.pow_lt_pow_iff_right (by omega)).1 H
section
variable {H : Type} (par : H → H → H)
theorem treesT_mem {L : Nat → Option H} {n : Nat} (hn : n < 2 ^ 40) {t : TT H} (ht : t ∈ treesT par L n) : ∃ h, t = (buildT par L h (firstN n h), firstN n h, h) ∧ firstN n h + 2 ^ h ≤ n ∧ h < 40 := by
  rw [treesT, List.mem_map] at ht
  obtain ⟨h, hh, rfl⟩ := ht
  have h63 : n < 2 ^ 63 := Nat.lt_trans hn (by decide)
  obtain ⟨h1, h2⟩ := (treesN_mem h63).1 hh
  have := bitN_le h2
  exact ⟨h, rfl, this, pow_lt_imp (by omega)⟩
theorem treesT_len {L : Nat → Option H} {n : Nat} (hn : n < 2 ^ 63) : (treesT par L n).length ≤ 63 := by
  rw [treesT, List.length_map, ← List.length_reverse, treesN_rev hn, highs]
  have := List.length_filter_le (bitN n) (List.range' 0 (63 - 0))
  simpa using this
end
section
variable {H : Type} [DecidableEq H]
/-- leaves behind a Modify -/
def goneL (del : List H) (L : List (Option H)) : List (Option H) := L.map fun o => o.filter fun h => decide (h ∉ del)
def modL (del add : List H) (L : List (Option H)) : List (Option H) := goneL del L ++ add.map some
omit [DecidableEq H] in
def lvG (L : List (Option H)) (i : Nat) : Option H := L[i]?.join
theorem goneL_len (del : List H) (L : List (Option H)) : (goneL del L).length = L.length := by simp [goneL]
theorem modL_len (del add : List H) (L : List (Option H)) : (modL del add L).length = L.length + add.length := by simp [modL, goneL_len]
theorem goneL_get (del : List H) (L : List (Option H)) (i : Nat) (h : H) : (goneL del L)[i]? = some (some h) ↔ L[i]? = some (some h) ∧ h ∉ del := by
  rw [goneL, List.getElem?_map]
  cases hL : L[i]? with
  | none => simp
  | some o =>
    cases o with
    | none => simp
    | some x =>
      by_cases hx : x ∈ del
      · simp [Option.filter, hx]; intro he; subst he; exact hx
      · simp [Option.filter, hx]; intro he; subst he; exact hx
omit [DecidableEq H] in
theorem lvG_some {L : List (Option H)} {i : Nat} {h : H} : lvG L i = some h ↔ L[i]? = some (some h) := by
  unfold lvG
  cases L[i]? with
  | none => simp
  | some o => cases o <;> simp
theorem opt_ext {α : Type} {a b : Option α} (h : ∀ x, a = some x ↔ b = some x) : a = b := by
  cases a with
  | none => cases b with
    | none => rfl
    | some y => exact absurd ((h y).2 rfl) (by simp)
  | some x => exact ((h x).1 rfl).symm
/-- the trees without the leaves that go -/
theorem gone_tree (par : H → H → H) {L : List (Option H)} {del : List H} {l : List Nat} (hl : ∀ x, x ∈ l ↔ ∃ h, h ∈ del ∧ L[x]? = some (some h)) (k f : Nat) :
    withoutO par (buildT par (lvG L) k f) (l.filter fun y => decide (f ≤ y ∧ y < f + 2 ^ k)) = buildT par (lvG (goneL del L)) k f := by
  rw [without_build]
  · refine buildT_congr par k f fun i h1 h2 => opt_ext fun x => ?_
    rw [delL, lvG_some, goneL_get]
    have hm : i ∈ (l.filter fun y => decide (f ≤ y ∧ y < f + 2 ^ k)) ↔ i ∈ l := by simp [h1, h2]
    by_cases hi : i ∈ l
    · rw [if_pos (hm.2 hi)]
      obtain ⟨h, hd, hL⟩ := (hl i).1 hi
      constructor
      · intro h; cases h
      · rintro ⟨h3, h4⟩
        rw [hL] at h3; cases h3; exact absurd hd h4
    · rw [if_neg (fun h => hi (hm.1 h)), lvG_some]
      exact ⟨fun h3 => ⟨h3, fun hd => hi ((hl i).2 ⟨x, hd, h3⟩)⟩, And.left⟩
  · intro x hx
    simp only [List.mem_filter, decide_eq_true_eq] at hx
    obtain ⟨h, _, hL⟩ := (hl x).1 hx.1
    exact ⟨hx.2.1, hx.2.2, by rw [lvG_some.2 hL]; rfl⟩
omit [DecidableEq H] in
theorem none_part (par : H → H → H) {L : List (Option H)} {l : List Nat} (hl : ∀ x ∈ l, ∃ h, L[x]? = some (some h)) {k f : Nat} (h0 : buildT par (lvG L) k f = none) : (l.filter fun y => decide (f ≤ y ∧ y < f + 2 ^ k)) = [] := by
  rw [List.filter_eq_nil_iff]
  intro x hx hd
  simp only [decide_eq_true_eq] at hd
  obtain ⟨h, hL⟩ := hl x hx
  have := (buildT_none par k f).1 h0 x hd.1 hd.2
  rw [lvG_some.2 hL] at this; cases this
omit [DecidableEq H] in
theorem grown_next {add : List H} {i : Nat} {h : H} (hi : add[i]? = some h) : add.take (i + 1) = add.take i ++ [h] := by
  rw [List.take_add_one, hi]; rfl
omit [DecidableEq H] in
theorem lvG_append {L M : List (Option H)} {i : Nat} (hi : i < L.length) : lvG (L ++ M) i = lvG L i := by
  unfold lvG; rw [List.getElem?_append_left hi]
omit [DecidableEq H] in
theorem lvG_last {L : List (Option H)} {h : H} : lvG (L ++ [some h]) L.length = some h := by
  unfold lvG; simp
omit [DecidableEq H] in
/-- one leaf more -/
theorem grow_one (par : H → H → H) {L : List (Option H)} {h : H} (h63 : L.length + 1 < 2 ^ 63) :
    (growT par (treesT par (lvG L) L.length).reverse (some (.leaf h), L.length, 0)).reverse = treesT par (lvG (L ++ [some h])) (L.length + 1) := by
  have := grown_trees par (L := lvG L) (n := L.length) (L' := lvG (L ++ [some h])) (fun i hi => lvG_append hi) h63
  rw [lvG_last] at this
  exact this
end
end Go.Sp

namespace Go.Sp
theorem leftN_lt {p rows : Nat} : (leftN p rows).getD 0 < 2 ^ (rows + 1) := by
  have hp : 0 < 2 ^ (rows + 1) := Nat.pow_pos (by omega)
  unfold leftN
  split
  · exact hp
  · split
    · exact hp
    · exact Nat.mod_lt _ hp
/-- each number below n is in one tree -/
theorem cover {n x : Nat} (hn : n < 2 ^ 63) (hx : x < n) : ∃ h, h < 63 ∧ bitN n h = true ∧ firstN n h ≤ x ∧ x < firstN n h + 2 ^ h := by
  have key : ∀ k, n / 2 ^ k = x / 2 ^ k → ∃ h, h < k ∧ n / 2 ^ (h + 1) = x / 2 ^ (h + 1) ∧ n / 2 ^ h ≠ x / 2 ^ h := by
    intro k
    induction k with
    | zero => intro h; simp at h; omega
    | succ k ih =>
      intro h
      by_cases h' : n / 2 ^ k = x / 2 ^ k
      · obtain ⟨j, h1, h2⟩ := ih h'; exact ⟨j, by omega, h2⟩
      · exact ⟨k, by omega, h, h'⟩
  obtain ⟨h, h1, h2, h3⟩ := key 63 (by rw [Nat.div_eq_of_lt hn, Nat.div_eq_of_lt (by omega)])
  have hp : 0 < 2 ^ h := Nat.pow_pos (by omega)
  have hle : x / 2 ^ h ≤ n / 2 ^ h := Nat.div_le_div_right (by omega)
  rw [Nat.pow_succ, ← Nat.div_div_eq_div_mul, ← Nat.div_div_eq_div_mul] at h2
  have hodd : n / 2 ^ h = 2 * (n / 2 ^ h / 2) + 1 ∧ x / 2 ^ h = 2 * (n / 2 ^ h / 2) := by omega
  have hf : firstN n h = x / 2 ^ h * 2 ^ h := by
    rw [firstN, Nat.pow_succ, ← Nat.div_div_eq_div_mul, hodd.2, Nat.mul_comm 2, Nat.mul_assoc, Nat.mul_comm 2]
  refine ⟨h, h1, ?_, ?_, ?_⟩
  · rw [bitN, hodd.1]; simp [Nat.add_mod]
  · rw [hf]; exact Nat.div_mul_le_self _ _
  · rw [hf]
    have := Nat.div_add_mod x (2 ^ h)
    have h4 := Nat.mod_lt x hp
    rw [Nat.mul_comm] at this
    omega
section
variable {H : Type}
def Tr.high : Tr H → Nat
  | .leaf _ => 0
  | .pair _ l r _ => l.high + r.high + 1
def whereN (R : Nat) : Tr H → Nat → Nat → Nat
  | .leaf _, p, _ => p
  | .pair _ l r m, p, x => if x < m then whereN R l ((leftN p R).getD 0) x else whereN R r ((leftN p R).getD 0 + 1) x
def inT (x : Nat) (t : TT H) : Bool := decide (t.2.1 ≤ x ∧ x - t.2.1 < 2 ^ t.2.2)
def whereT (ts : List (TT H)) (n x : Nat) : Nat := match ts.find? (inT x) with
  | some (some t, _, h) => whereN (rowsN n) t ((rootN n h).getD 0) x
  | _ => 0
theorem find_tree (par : H → H → H) {L : Nat → Option H} {n x : Nat} (hn : n < 2 ^ 63) (hx : x < n) : ∃ t ∈ treesT par L n, inT x t = true := by
  obtain ⟨h, h1, h2, h3, h4⟩ := cover hn hx
  refine ⟨_, List.mem_map.2 ⟨h, (treesN_mem hn).2 ⟨h1, h2⟩, rfl⟩, ?_⟩
  simp only [inT, decide_eq_true_eq]
  omega
theorem in_tree (par : H → H → H) {L : Nat → Option H} {n x : Nat} {t : TT H} (ht : t ∈ treesT par L n) (hx : inT x t = true) (hL : (L x).isSome = true) : ∃ r, t.1 = some r := by
  obtain ⟨h, _, rfl⟩ := List.mem_map.1 ht
  simp only [inT, decide_eq_true_eq] at hx
  cases hb : buildT par L h (firstN n h) with
  | some r => exact ⟨r, rfl⟩
  | none =>
    have := (buildT_none par h _).1 hb x hx.1 (by omega)
    rw [this] at hL; cases hL
end
end Go.Sp

namespace Go.Sp
theorem lv_eq (L : List (Option Hash)) : lv L = lvG L := rfl
theorem Blk.over {w : World} {b i : Nat} {cs : List Value} (h : Blk w b cs) (hi : cs.length ≤ i) : w.cell? ⟨b, i, none⟩ = none := by
  obtain ⟨T, h⟩ := h
  simp [World.cell?, h, hi]
theorem map_nocell {w : World} {b i : Nat} {α β : Type} {enc : α → Value} {encV : β → Value} {l : List (α × β)} (h : MapAt w b enc encV l) : w.cell? ⟨b, i, none⟩ = none := by
  obtain ⟨es, clock, h, _⟩ := h
  simp [World.cell?, h]
theorem FAt.tabs {P : Program} {A : ShaF P} {w : World} {p m : Nat} {s : Fo} (h : FAt w p m s) (hT : Tabs A w) : A.gFirst ∉ [p, m] ∧ A.gConst ∉ [p, m] := by
  obtain ⟨⟨tv, wl, h1, h2, h3, h4⟩, _⟩ := h
  have f7 := hT.first 7 _ (show (firstW.map u64V)[7]? = some _ from rfl)
  have c7 := hT.const 7 _ (show (constW.map u64V)[7]? = some _ from rfl)
  simp only [List.mem_cons, List.not_mem_nil, or_false, not_or]
  refine ⟨⟨?_, ?_⟩, ?_, ?_⟩ <;> intro he
  · rw [he, h1.over (by simp)] at f7; cases f7
  · rw [he, map_nocell h3] at f7; cases f7
  · rw [he, h1.over (by simp)] at c7; cases c7
  · rw [he, map_nocell h3] at c7; cases c7
section
variable {P : Program} {n : Nat} {c : Ctx} {D : List Deferred} {is : List Ins} {k : Kont} {e : Env} {w : World}
variable {l : List Nat} {wr : Nat} {Wr : World → Prop} {ds : List DOp} {F : List (Nat × Value) → Prop} {done : List (Nat × Value)} {i : Nat} {deps : List Nat} {d : Option Nat} {m : MOp} {r : List DOp}
/-- an operation that reads what the writing one leaves alone -/
theorem ws_upd (v : Value) (hne : Nat.beq i wr = false) (hv : ∀ W, Upd l w W → OpOK P m (envV ds done deps ++ keepEnv ds i e) W (Just v W))
    (h : DWS P l wr Wr ds e w F (i + 1) ((i, v) :: done) r) : DWS P l wr Wr ds e w F i done ((deps, none, d, m) :: r) :=
  ⟨v, fun W h1 _ => (hv W h1).mono fun u W' hu => ⟨⟨hu.2 ▸ Upd.refl _ _, fun _ => hu.2 ▸ Upd.refl _ _⟩, hu.1, fun hi => by subst hi; simp at hne⟩, h⟩
end
/-- what a Modify is refused for -/
def Refused (L : List (Option Hash)) (del add : List Hash) (e : Nat) : Prop :=
  (e = 5 ∧ ∃ h ∈ del, some h ∉ L) ∨ (e = 24 ∧ (∀ h ∈ del, some h ∈ L) ∧ ¬ del.Nodup) ∨ (e = 6 ∧ (∀ h ∈ del, some h ∈ L) ∧ del.Nodup ∧ ¬ (add.Nodup ∧ ∀ h ∈ add, some h ∈ L → h ∈ del))
structure Granted (L : List (Option Hash)) (del add : List Hash) : Prop where
  live : ∀ h ∈ del, some h ∈ L
  once : del.Nodup
  new : add.Nodup
  free : ∀ h ∈ add, some h ∈ L → h ∈ del
def goneMap (gl : List (Hash × Nat)) (L : List (Option Hash)) (del : List Hash) : Prop := ∀ h i, aget h gl = some i ↔ h ∈ del ∧ L[i]? = some (some h)
def newMap (cl : List (Hash × Nat)) (n : Nat) (add : List Hash) : Prop := ∀ h i, aget h cl = some i ↔ ∃ k, add[k]? = some h ∧ i = n + k
/-- where what undoes a Modify lies -/
structure UAt (w : World) (u : Value) (p m : Nat) (s : Fo) (t : Nat) (del add : List Hash) : Prop where
  ex : ∃ tv gr cr gl cl, u = .agg #[ptrV p, intV' t, intV' s.turn, u64V s.L.length, tv, .map (some gr), .map (some cr)] ∧ TreesF w tv (treesT parH (lv s.L) s.L.length) ∧ MapAt w gr hV u64V gl ∧ MapAt w cr hV u64V cl ∧ goneMap gl s.L del ∧ newMap cl s.L.length add ∧ gr ≠ p ∧ gr ≠ m ∧ cr ≠ p ∧ cr ≠ m
  len : s.L.length + add.length < 2 ^ 40
  turn : s.turn < 2 ^ 40
theorem where_mod {wl gl cl l2 : List (Hash × Nat)} {L : List (Option Hash)} {del add : List Hash} (h : WhereOK wl L) (hg : goneMap gl L del) (hc : newMap cl L.length add) (ha : Granted L del add)
    (h2 : ∀ h, aget h l2 = (aget h cl).or (if (aget h gl).isSome then none else aget h wl)) : WhereOK l2 (modL del add L) := by
  intro x i
  have key : (modL del add L)[i]? = some (some x) ↔ (L[i]? = some (some x) ∧ x ∉ del) ∨ ∃ k, add[k]? = some x ∧ i = L.length + k := by
    rw [modL]
    rcases Nat.lt_or_ge i L.length with hi | hi
    · rw [List.getElem?_append_left (by rw [goneL_len]; exact hi), goneL_get]
      constructor
      · exact .inl
      · rintro (h | ⟨k, _, h⟩)
        · exact h
        · omega
    · rw [List.getElem?_append_right (by rw [goneL_len]; exact hi), goneL_len, List.getElem?_map]
      have hn : L[i]? = none := List.getElem?_eq_none hi
      constructor
      · intro h
        refine .inr ⟨i - L.length, ?_, by omega⟩
        cases ho : add[i - L.length]? with
        | none => rw [ho] at h; cases h
        | some y => rw [ho] at h; cases h; rfl
      · rintro (⟨h, _⟩ | ⟨k, h, rfl⟩)
        · rw [hn] at h; cases h
        · rw [Nat.add_sub_cancel_left, h]; rfl
  rw [key, h2]
  cases ho : aget x cl with
  | some j =>
    obtain ⟨k, hk, rfl⟩ := (hc x j).1 ho
    simp only [Option.some_or, Option.some.injEq]
    constructor
    · rintro rfl; exact .inr ⟨k, hk, rfl⟩
    · rintro (⟨h3, h4⟩ | ⟨k', h3, rfl⟩)
      · exact absurd (ha.free x (List.mem_of_getElem? hk) (List.mem_of_getElem? h3)) h4
      · have := (hc x (L.length + k')).2 ⟨k', h3, rfl⟩
        rw [ho] at this; exact Option.some.inj this
  | none =>
    have hno : ¬ ∃ k, add[k]? = some x ∧ i = L.length + k := fun h => by rw [(hc x i).2 h] at ho; cases ho
    simp only [Option.none_or, hno, or_false]
    cases hgo : aget x gl with
    | some j =>
      have := (hg x j).1 hgo
      simp [this.1]
    | none =>
      simp only [Option.isSome_none, Bool.false_eq_true, if_false]
      rw [h x i]
      constructor
      · intro h3
        refine ⟨h3, fun hd => ?_⟩
        rw [(hg x i).2 ⟨hd, h3⟩] at hgo; cases hgo
      · exact And.left
theorem TreesOwn.val {w : World} {tv : Value} {ts : List (TT Hash)} (h : TreesOwn w tv ts) : ∃ a l c, tv = .slice a l c := by
  obtain ⟨vs, _, h⟩ := h
  rcases h with ⟨rfl, _⟩ | ⟨b, cap, rest, rfl, _⟩
  · exact ⟨_, _, _, rfl⟩
  · exact ⟨_, _, _, rfl⟩
/-- leaves in the midst of a Modify -/
def midL (del add : List Hash) (L : List (Option Hash)) (i : Nat) : List (Option Hash) := goneL del L ++ (add.take i).map some
theorem midL_len {del add : List Hash} {L : List (Option Hash)} {i : Nat} (hi : i ≤ add.length) : (midL del add L i).length = L.length + i := by
  simp [midL, goneL_len]; omega
theorem midL_next {del add : List Hash} {L : List (Option Hash)} {i : Nat} {h : Hash} (hi : add[i]? = some h) : midL del add L (i + 1) = midL del add L i ++ [some h] := by
  rw [midL, midL, grown_next hi, List.map_append]; exact (List.append_assoc _ _ _).symm
/-- the functions of forest, on -/
structure ForL (P : Program) extends ForK P where
  modify : Nat
  TUn : Nat
  TMH : Nat
  h_modify : Has P modify (b_Pforest_Forest_Modify is' going coming valsH nf.sorted deleted grown change TUn TMH)
def undoC (p t o n : Nat) (tv : Value) (gr cr : Nat) : List Value := [ptrV p, intV' t, intV' o, u64V n, tv, .map (some gr), .map (some cr)]
def undoZ : List Value := [.pointer none, intV' 0, intV' 0, u64V 0, .slice none 0 0, .map none, .map none]
section
variable {P : Program} {f : Nat} {w : World}
theorem ok_new {e : Env} {T : TypeId} {z : Array Value} : OpOK P (.new T z) e w fun v W => ∃ b, v = ptrV b ∧ Blk W b z.toList ∧ w.heap.size ≤ b ∧ Ext w W := by
  have h : OpOK P (.new T z) e w fun u W => u = ptrV w.heap.size ∧ W = w.alloc (.cells z T) := ok_val fun a hk => by simp [MOp.sem, newRow]
  refine h.mono ?_
  rintro v W ⟨rfl, rfl⟩
  exact ⟨_, rfl, alloc_blk w z.toList T, Nat.le_refl _, Upd.alloc _ _ _⟩
set_option maxHeartbeats 1600000 in
theorem modify_ok (A : ForL P) (hT : Tabs A.toShaF w) {p m : Nat} {s : Fo} (h : FAt w p m s) {dv av : Value} {del add : List Hash} (hD : SlC w dv 32 del.length (hs del)) (hA : SlC w av 32 add.length (hs add)) (hl : s.L.length + add.length < 2 ^ 40) (hd : del.length < 2 ^ 40) (ht : s.turns + 1 < 2 ^ 40) :
    Ret P A.modify [ptrV p, dv, av] w fun v w' => (∃ e, v = .tuple #[.agg undoZ.toArray, intV' e] ∧ Refused s.L del add e ∧ Ext w w') ∨
      (∃ u, v = .tuple #[u, intV' 0] ∧ Granted s.L del add ∧ FAt w' p m ⟨modL del add s.L, s.turns + 1, s.turns + 1⟩ ∧ UAt w' u p m s (s.turns + 1) del add ∧ Upd [p, m] w w') := by
  have hF := h
  have hlt := h.lt
  have hne := h.ne
  have hfor := h.foreign
  have htab := h.tabs hT
  obtain ⟨⟨tv, wl, h1, h2, h3, h4⟩, h5, h6, h7⟩ := h
  obtain ⟨ta, tl, tc, rfl⟩ := h2.own.val
  refine Ret.of_exec A.h_modify (Nat.le_of_ble_eq_true rfl) fun c hc => ?_
  dsimp only [b_Pforest_Forest_Modify, argEnv, ym, yo, yg, ys, yt, yd, ye]
  refine exec_new rfl ?_
  intro b6 w1 hb6 hs1 hu1 hB6
  refine xr 2 rfl ?_
  refine xca rfl rfl (is_ok A.toForJ (hF.ext hu1)) ?_
  rintro _ w2 ⟨rfl, hu2⟩
  refine xr 5 rfl ?_
  have hE2 : Ext w w2 := hu1.trans hu2
  have hB62 : Blk w2 b6 undoZ := hB6.upd hu2
  refine xca rfl rfl (going_ok A.toForJ (hF.ext hE2) (hD.upd hE2 (by simp)) hd) ?_
  rintro v3 w3 ⟨hu3, hcase⟩
  have hE3 := hE2.trans hu3
  have hB63 := hB62.upd hu3
  rcases hcase with ⟨rfl, hno⟩ | ⟨rfl, hall, hnd⟩ | ⟨gr, gl, rfl, hgr, hG, hGm, hgl, hall, hnd⟩
  · refine xr 6 rfl ?_
    refine xpu (pv_neqI (a := 5) (b := 0) (q := true) rfl rfl rfl) rfl ?_
    refine xr 1 rfl ?_
    refine xju (ok_mkL (l := []) (cs := undoZ) rfl rfl) rfl ?_
    refine xr 1 rfl ?_
    refine exec_store (b := b6) (o := 0) (v := .agg undoZ.toArray) rfl rfl hB63 rfl (by decide) rfl ?_
    intro W' hu' _ hB'
    refine xr 1 rfl ?_
    exact xre hc [.agg undoZ.toArray, _] ⟨⟨b6, 0, undoZ, rfl, Blk.memAll (show Blk W' b6 undoZ from hB'), rfl, rfl⟩, rfl, trivial⟩ (.inl ⟨5, rfl, .inl ⟨rfl, hno⟩, (hE3).trans hu' (fun b hb => .inr (by simp at hb; omega))⟩)
  · refine xr 6 rfl ?_
    refine xpu (pv_neqI (a := 24) (b := 0) (q := true) rfl rfl rfl) rfl ?_
    refine xr 1 rfl ?_
    refine xju (ok_mkL (l := []) (cs := undoZ) rfl rfl) rfl ?_
    refine xr 1 rfl ?_
    refine exec_store (b := b6) (o := 0) (v := .agg undoZ.toArray) rfl rfl hB63 rfl (by decide) rfl ?_
    intro W' hu' _ hB'
    refine xr 1 rfl ?_
    exact xre hc [.agg undoZ.toArray, _] ⟨⟨b6, 0, undoZ, rfl, Blk.memAll (show Blk W' b6 undoZ from hB'), rfl, rfl⟩, rfl, trivial⟩ (.inl ⟨24, rfl, .inr (.inl ⟨rfl, hall, hnd⟩), (hE3).trans hu' (fun b hb => .inr (by simp at hb; omega))⟩)
  refine xr 6 rfl ?_
  refine xpu (pv_neqI (a := 0) (b := 0) (q := false) rfl rfl rfl) rfl ?_
  refine xr 5 rfl ?_
  refine xca rfl rfl (coming_ok A.toForJ (hF.ext hE3) (hA.upd hE3 (by simp)) (by omega) hG) ?_
  rintro v4 w4 ⟨hu4, hcase⟩
  have hE4 := hE3.trans hu4
  have hB64 := hB63.upd hu4
  have hmay : mayCome s add gl ↔ (add.Nodup ∧ ∀ h ∈ add, some h ∈ s.L → h ∈ del) := by
    refine and_congr_right fun _ => forall_congr' fun x => forall_congr' fun _ => forall_congr' fun hx => ?_
    rw [Option.isSome_iff_exists]
    constructor
    · rintro ⟨i, hi⟩; exact ((hGm x i).1 hi).1
    · intro hxd
      obtain ⟨i, hi⟩ := List.getElem?_of_mem hx
      exact ⟨i, (hGm x i).2 ⟨hxd, hi⟩⟩
  rw [hmay] at hcase
  rcases hcase with ⟨rfl, hno⟩ | ⟨cr, cl, rfl, hcr, hCr, hCm, hgrant⟩
  · refine xr 6 rfl ?_
    refine xpu (pv_neqI (a := 6) (b := 0) (q := true) rfl rfl rfl) rfl ?_
    refine xr 1 rfl ?_
    refine xju (ok_mkL (l := []) (cs := undoZ) rfl rfl) rfl ?_
    refine xr 1 rfl ?_
    refine exec_store (b := b6) (o := 0) (v := .agg undoZ.toArray) rfl rfl hB64 rfl (by decide) rfl ?_
    intro W' hu' _ hB'
    refine xr 1 rfl ?_
    exact xre hc [.agg undoZ.toArray, _] ⟨⟨b6, 0, undoZ, rfl, Blk.memAll (show Blk W' b6 undoZ from hB'), rfl, rfl⟩, rfl, trivial⟩ (.inl ⟨6, rfl, .inr (.inr ⟨rfl, hall, hnd, hno⟩), (hE4).trans hu' (fun b hb => .inr (by simp at hb; omega))⟩)
  have hGr : Granted s.L del add := ⟨hall, hnd, hgrant.1, hgrant.2⟩
  refine xr 6 rfl ?_
  refine xpu (pv_neqI (a := 0) (b := 0) (q := false) rfl rfl rfl) rfl ?_
  have z3 := hE3.size
  have z12 := hu2.size
  have z23 := hu3.size
  have z2 := hE2.size
  have hB4 := h1.upd hE4
  refine xr 5 rfl ?_
  refine xen [(0, ptrV p), (2, av), (6, ptrV b6), (8, .map (some gr)), (10, .map (some cr)), (40, ptrV p), (42, .pointer (some ⟨p, 0 + 4, none⟩))] ⟨rfl, rfl, rfl, rfl, rfl, rfl, rfl, trivial⟩ ?_
  refine exec_load1 (b := p) (o := 0 + 4) (v := intV' s.turns) rfl rfl (hB4.cell rfl) ?_
  refine xpu (pv_addI (a := s.turns) (b := 1) rfl rfl (by omega)) rfl ?_
  refine xr 2 rfl ?_
  refine exec_store (b := p) (o := 0 + 4) (v := intV' (s.turns + 1)) rfl rfl hB4 rfl (by simp) rfl ?_
  intro w5 hu5 hs5 hB5
  have hB5' : Blk w5 p [u64V s.L.length, .slice ta tl tc, .map (some m), intV' s.turn, intV' (s.turns + 1)] := hB5
  clear hB5
  have hU5 : Upd [p] w w5 := (hE4.mono (m := [p]) (by simp)).trans hu5
  have z4 := hu4.size
  have hgm : gr ≠ p ∧ gr ≠ m ∧ cr ≠ p ∧ cr ≠ m := by omega
  refine xen [(0, ptrV p), (2, av), (6, ptrV b6), (8, .map (some gr)), (10, .map (some cr))] ⟨rfl, rfl, rfl, rfl, rfl, trivial⟩ ?_
  refine exec_dw [] rfl rfl rfl ?_
  repeat (first | refine dau rfl (fun _ => rfl) ?_ | refine dga rfl (fun _ => rfl) (fun _ => rfl) ?_ | refine dgs (fun _ => rfl) ?_)
  refine dw_keep (intV' (s.turns + 1)) (fun vs X hx _ => ok_load1 (b := p) (o := 0 + 4) rfl ((hB5'.upd hx).cell rfl)) ?_
  repeat (first | refine dau rfl (fun _ => rfl) ?_ | refine dga rfl (fun _ => rfl) (fun _ => rfl) ?_ | refine dgs (fun _ => rfl) ?_)
  refine dw_keep (intV' s.turn) (fun vs X hx _ => ok_load1 (b := p) (o := 0 + 3) rfl ((hB5'.upd hx).cell rfl)) ?_
  repeat (first | refine dau rfl (fun _ => rfl) ?_ | refine dga rfl (fun _ => rfl) (fun _ => rfl) ?_ | refine dgs (fun _ => rfl) ?_)
  refine dw_keep (u64V s.L.length) (fun vs X hx _ => ok_load1 (b := p) (o := 0 + 0) rfl ((hB5'.upd hx).cell rfl)) ?_
  repeat (first | refine dau rfl (fun _ => rfl) ?_ | refine dga rfl (fun _ => rfl) (fun _ => rfl) ?_ | refine dgs (fun _ => rfl) ?_)
  refine dw_keep (.slice ta tl tc) (fun vs X hx _ => ok_load1 (b := p) (o := 0 + 1) rfl ((hB5'.upd hx).cell rfl)) ?_
  repeat (first | refine dau rfl (fun _ => rfl) ?_ | refine dga rfl (fun _ => rfl) (fun _ => rfl) ?_ | refine dgs (fun _ => rfl) ?_)
  refine dw_keep (.agg (undoC p (s.turns + 1) s.turn s.L.length (.slice ta tl tc) gr cr).toArray) (fun vs X hx _ => ok_mkL (l := [(0, 1, ptrV p), (1, 1, intV' (s.turns + 1)), (2, 1, intV' s.turn), (3, 1, u64V s.L.length), (4, 1, .slice ta tl tc), (5, 1, .map (some gr)), (6, 1, .map (some cr))]) (cs := undoC p (s.turns + 1) s.turn s.L.length (.slice ta tl tc) gr cr) rfl rfl) ?_
  refine dw_rel [] (fun W _ v => ∃ b, v = ptrV b ∧ Blk W b undoZ ∧ w5.heap.size ≤ b) rfl ?_ ?_ ?_
  · rintro X X' xs v h1 h2 ⟨b, rfl, h3, h4⟩
    exact ⟨b, rfl, h3.upd h2, h4⟩
  · intro vs X hx _
    refine ok_new.mono ?_
    rintro v X' ⟨b, rfl, q1, q2, q3⟩
    have := hx.size
    exact ⟨q3, b, rfl, q1, by omega⟩
  refine dw_end fun vs w6 hu6 hf => ?_
  obtain ⟨⟨b11, hv11, hB11, hb11⟩, _⟩ := hf
  refine xen [(0, ptrV p), (2, av), (6, ptrV b6), (8, .map (some gr)), (10, .map (some cr)), (11, ptrV b11), (66, .agg (undoC p (s.turns + 1) s.turn s.L.length (.slice ta tl tc) gr cr).toArray)] ⟨rfl, rfl, rfl, rfl, rfl, by show some (vs 20) = _; rw [hv11], rfl, trivial⟩ ?_
  refine exec_store (b := b11) (o := 0) (v := .agg (undoC p (s.turns + 1) s.turn s.L.length (.slice ta tl tc) gr cr).toArray) rfl rfl hB11 rfl (by decide) rfl ?_
  intro w7 hu7 hs7 hB11n
  have hB11' : Blk w7 b11 (undoC p (s.turns + 1) s.turn s.L.length (.slice ta tl tc) gr cr) := hB11n
  clear hB11n
  have z5 := hU5.size
  have hU7 : Upd [p] w w7 := (hU5.trans hu6).trans hu7 (fun b hb => .inr (by simp at hb; omega))
  have hW57 : Ext w5 w7 := hu6.trans hu7 (fun b hb => .inr (by simp at hb; omega))
  have hB7 := hB5'.upd hW57
  have hU47 : Upd [p] w4 w7 := hu5.trans hW57
  have z47 := hU47.size
  have hG7 : MapAt w7 gr hV u64V gl := (hG.upd hu4).upd hU47 (by simp; omega)
  have hC7 : MapAt w7 cr hV u64V cl := hCr.upd hU47 (by simp; omega)
  have hB67 : Blk w7 b6 undoZ := hB64.upd hU47 (by simp; omega)
  refine xen [(0, ptrV p), (2, av), (6, ptrV b6), (8, .map (some gr)), (10, .map (some cr)), (11, ptrV b11)] ⟨rfl, rfl, rfl, rfl, rfl, rfl, trivial⟩ ?_
  refine exec_dw [] rfl rfl rfl ?_
  repeat (first | refine dau rfl (fun _ => rfl) ?_ | refine dga rfl (fun _ => rfl) (fun _ => rfl) ?_ | refine dgs (fun _ => rfl) ?_)
  refine dw_keep (.slice ta tl tc) (fun vs X hx _ => ok_load1 (b := p) (o := 0 + 1) rfl ((hB7.upd hx).cell rfl)) ?_
  repeat (first | refine dau rfl (fun _ => rfl) ?_ | refine dga rfl (fun _ => rfl) (fun _ => rfl) ?_ | refine dgs (fun _ => rfl) ?_)
  refine dw_rel [] (fun X _ v => ∃ bs, v = .func (.func A.valsH1) #[] #[ptrV bs] ∧ Blk X bs [.map (some gr)]) rfl ?_ ?_ ?_
  · rintro X X' xs v q1 q2 ⟨b, rfl, q3⟩
    exact ⟨b, rfl, q3.upd q2⟩
  · intro vs X hx _
    refine (ok_call rfl (valsH_ok A.toForK)).mono ?_
    rintro v X' ⟨rfl, q1, q2⟩
    exact ⟨q2, _, rfl, q1⟩
  refine dw_rel [] (fun X _ v => SlC X v 1 (sortN (gl.map Prod.snd)).length ((sortN (gl.map Prod.snd)).map u64V)) rfl (fun X X' xs u _ hu h => h.upd hu (by simp)) ?_ ?_
  · intro vs X hx hd'
    obtain ⟨⟨bs, hvs, hbs⟩, _⟩ := hd'
    have hret := sortedVals_ok A.toForK hbs (hG7.upd hx) (by omega)
    rw [← hvs] at hret
    refine (ok_call rfl hret).mono ?_
    rintro v X' ⟨q1, q2, q3⟩
    exact ⟨q2, q1.sl⟩
  refine dw_end fun vs2 w8 hu8 hf => ?_
  obtain ⟨hS8, _⟩ := hf
  generalize hv6 : vs2 6 = sl at hS8
  refine xen [(0, ptrV p), (2, av), (6, ptrV b6), (8, .map (some gr)), (10, .map (some cr)), (11, ptrV b11), (70, .slice ta tl tc), (73, sl)] ⟨rfl, rfl, rfl, rfl, rfl, rfl, rfl, by show some (vs2 6) = _; rw [hv6], trivial⟩ ?_
  have hU8 : Upd [p] w w8 := hU7.trans hu8
  have hW08 : Upd [p, m] w w8 := hU8.mono (fun b hb => by simp at hb; simp [hb])
  have hfp : Foreign w [p] := fun b hb => hfor b (by simp at hb; simp [hb])
  have hT8 : Tabs A.toShaF w8 := hT.upd hW08 htab.1 htab.2
  have h28 : TreesF w8 (.slice ta tl tc) (treesT parH (lv s.L) s.L.length) := h2.upd hU8 hfp
  have h63 : s.L.length < 2 ^ 63 := by omega
  have hlenT := treesT_len parH (L := lv s.L) h63
  have hgone : ∀ x, x ∈ sortN (gl.map Prod.snd) ↔ ∃ h, h ∈ del ∧ s.L[x]? = some (some h) := by
    intro x
    rw [(sortN_perm _).mem_iff, List.mem_map]
    constructor
    · rintro ⟨⟨h, i⟩, hm, rfl⟩
      exact ⟨h, (hGm h i).1 (mem_aget hG7.nodup hm)⟩
    · rintro ⟨h, hh⟩
      exact ⟨(h, x), aget_mem ((hGm h x).2 hh), rfl⟩
  have hdelT : (treesT parH (lv s.L) s.L.length).map (delT (sortN (gl.map Prod.snd))) = treesT parH (lv (goneL del s.L)) s.L.length := by
    rw [treesT, treesT, List.map_map]
    refine List.map_congr_left fun k _ => ?_
    simp only [Function.comp, delT, partOf']
    rw [lv_eq, lv_eq, gone_tree parH hgone]
  refine xca rfl rfl (deleted_ok A.toForH hT8 h28.own.sl (by omega) hS8 (sortN_sorted _) ?_ ?_ ?_) ?_
  · rw [(sortN_perm _).length_eq, List.length_map]; omega
  · intro t htm h0
    obtain ⟨k, rfl, _⟩ := treesT_mem parH h5 htm
    exact none_part parH (fun x hx => by obtain ⟨h, _, hh⟩ := (hgone x).1 hx; exact ⟨h, hh⟩) h0
  · intro t htm
    obtain ⟨k, rfl, q1, q2⟩ := treesT_mem parH h5 htm
    exact ⟨by show firstN _ k + 2 ^ k < _; omega, by show k < 63; omega⟩
  rintro v9 w9 ⟨hO9, hu9, hf9, hn9⟩
  rw [hdelT] at hO9
  refine xr 2 rfl ?_
  refine xen [(0, ptrV p), (75, av), (6, ptrV b6), (8, .map (some gr)), (10, .map (some cr)), (11, ptrV b11), (12, v9)] ⟨rfl, rfl, rfl, rfl, rfl, rfl, rfl, trivial⟩ ?_
  have z8 := hU8.size
  have z78 := hu8.size
  refine xpu (hA.lenS rfl) rfl ?_
  refine xr 2 rfl ?_
  refine xlo (S := Nat × Value) (fun st W => st.1 ≤ add.length ∧ Blk W p [u64V (s.L.length + st.1), .slice ta tl tc, .map (some m), intV' s.turn, intV' (s.turns + 1)] ∧ TreesOwn W st.2 (treesT parH (lv (midL del add s.L st.1)) (s.L.length + st.1)) ∧ Upd [p] w8 W ∧ (∀ b ∈ blkOf st.2, w8.heap.size ≤ b) ∧ (s.L.length + st.1 = 0 → st.2 = .slice none 0 0))
    (fun st => [(0, ptrV p), (75, av), (76, intV' add.length), (77, intV' st.1), (6, ptrV b6), (8, .map (some gr)), (10, .map (some cr)), (11, ptrV b11), (12, st.2)]) (fun st => add.length - st.1) (0, v9)
    ⟨Nat.zero_le _, (hB7.upd hu8).upd hu9, by simpa [midL] using hO9, hu9.mono (by simp), hf9, fun h0 => hn9 (h2.nil (by
      have h00 : s.L.length = 0 := h0
      rw [h00]; rfl))⟩ ⟨rfl, rfl, rfl, rfl, rfl, rfl, rfl, rfl, rfl, trivial⟩ ?_
  rintro ⟨i, v⟩ W ⟨i1, iB, iO, iU, iF, iN⟩
  simp only at i1 iB iO iF iN
  skip
  by_cases hi : i < add.length
  · refine xpu (pv_lssI (a := i) (b := add.length) (q := true) rfl rfl (by simpa using hi)) rfl ?_
    refine xr 3 rfl ?_
    obtain ⟨hh, hhi⟩ : ∃ x, add[i]? = some x := ⟨_, List.getElem?_eq_getElem hi⟩
    obtain ⟨bd, od, cd, hdv, _, hmd⟩ := hs_at hA hhi
    have hbdp : bd ≠ p := by
      intro he
      have := hmd 31 _ (List.getElem?_eq_getElem (by rw [hC_length]; omega))
      rw [he, h1.over (by simp)] at this; cases this
    refine xju (ok_iaddr (N := 32) (b := bd) (o := od) (len := add.length) (cap := cd) (by rw [← hdv]; rfl) rfl i rfl hi) rfl ?_
    have hpW : Upd [p] w W := hU8.trans iU
    refine exec_loadN (b := bd) (o := od + i * 32) (vs := hC hh) rfl rfl (hmd.upd hpW (by simpa using hbdp)) (hC_length _) ?_
    refine exec_new_store (v := hV hh) rfl rfl rfl (hV_size hh) rfl (by rw [hV_cells]; exact hC_cell _) ?_
    intro b14 W1 hb14 hs14 hw1 hB14
    rw [hV_cells] at hB14
    refine xen [(0, ptrV p), (75, av), (76, intV' add.length), (77, intV' i), (6, ptrV b6), (8, .map (some gr)), (10, .map (some cr)), (11, ptrV b11), (12, v), (14, ptrV b14)] ⟨rfl, rfl, rfl, rfl, rfl, rfl, rfl, rfl, rfl, rfl, trivial⟩ ?_
    refine exec_dwr rfl rfl rfl ?_
    repeat (first | refine wtm rfl rfl rfl ?_ | refine wgt rfl rfl rfl rfl ?_ | refine wgs rfl rfl ?_)
    refine ws_keep (hV hh) rfl (fun X hx => ok_loadN (b := b14) (o := 0) rfl (hB14.upd hx).memAll (hC_length _)) ?_
    repeat (first | refine wtm rfl rfl rfl ?_ | refine wgt rfl rfl rfl rfl ?_ | refine wgs rfl rfl ?_)
    refine ws_keep (u64V (s.L.length + i)) rfl (fun X hx => ok_load1 (b := p) (o := 0 + 0) rfl (((iB.upd hw1).upd hx).cell rfl)) ?_
    refine ws_fin fun W2 hw2 => ?_
    have hpW2 : Upd [p] w W2 := (hpW.trans hw1).trans hw2
    have hTW : Tabs A.toShaF W2 := hT.upd (hpW2.mono (m := [p, m]) (fun b hb => by simp at hb; simp [hb])) htab.1 htab.2
    have hml := midL_len (del := del) (L := s.L) i1
    have hn63 : s.L.length + i < 2 ^ 63 := by omega
    refine xca rfl rfl (grown_ok A.toForI hTW hh (s.L.length + i) ((iO.ext hw1).ext hw2) (Nat.lt_of_le_of_lt (treesT_len parH hn63) (by omega)) (by omega) ?_) ?_
    · intro t htm
      obtain ⟨k, rfl, q1, q2⟩ := treesT_mem parH (by omega) htm
      have : 0 < 2 ^ k := Nat.pow_pos (by omega)
      exact ⟨by show firstN _ k < _; omega, by show k < 62; omega⟩
    rintro v3 W3 ⟨hO3, hu3, hf3⟩
    have hgrow : (growT parH (treesT parH (lv (midL del add s.L i)) (s.L.length + i)).reverse (some (.leaf hh), s.L.length + i, 0)).reverse = treesT parH (lv (midL del add s.L (i + 1))) (s.L.length + (i + 1)) := by
      have := grow_one parH (L := midL del add s.L i) (h := hh) (by omega)
      rw [hml] at this
      rw [lv_eq, lv_eq, midL_next hhi, this, Nat.add_assoc]
    rw [hgrow] at hO3
    have zW := iU.size
    have zW1 := hw1.size
    have zW2 := hw2.size
    have hpv : p ∉ blkOf v := fun hm => by have := iF p hm; omega
    have iB3 : Blk W3 p [u64V (s.L.length + i), .slice ta tl tc, .map (some m), intV' s.turn, intV' (s.turns + 1)] := ((iB.upd hw1).upd hw2).upd hu3 hpv
    refine xr 4 rfl ?_
    refine exec_load1 (b := p) (o := 0 + 0) (v := u64V (s.L.length + i)) rfl rfl (iB3.cell rfl) ?_
    refine xpu (pv_addU (a := s.L.length + i) (b := 1) rfl rfl (by omega)) rfl ?_
    refine xr 2 rfl ?_
    refine exec_store (b := p) (o := 0 + 0) (v := u64V (s.L.length + i + 1)) rfl rfl iB3 rfl (by simp) rfl ?_
    intro W4 hu4' _ hB4'
    have hB4'' : Blk W4 p [u64V (s.L.length + (i + 1)), .slice ta tl tc, .map (some m), intV' s.turn, intV' (s.turns + 1)] := hB4'
    clear hB4'
    refine xr 2 rfl ?_
    refine xpu (pv_addI (a := i) (b := 1) rfl rfl (by omega)) rfl ?_
    refine xr 1 rfl ?_
    have hU83 : Upd [p] w8 W3 := ((iU.trans hw1).trans hw2).trans hu3 (fun b hb => .inr (iF b hb))
    refine xag (i + 1, v3) ⟨hi, hB4'', hO3.updB hu4' ?_ ?_, hU83.trans hu4', fun b hb => ?_, fun h0 => by have : s.L.length + (i + 1) = 0 := h0; omega⟩ (by show add.length - (i + 1) < add.length - i; omega) ⟨rfl, rfl, rfl, rfl, rfl, rfl, rfl, rfl, rfl, trivial⟩
    · exact NoNode.of iB3 (by simp)
    · intro b hb hm
      have : w8.heap.size ≤ b := by
        rcases hf3 b hb with h | h
        · exact iF b h
        · omega
      simp at hm; omega
    · rcases hf3 b hb with h | h
      · exact iF b h
      · omega
  · refine xpu (pv_lssI (a := i) (b := add.length) (q := false) rfl rfl (by simpa using hi)) rfl ?_
    have : i = add.length := by omega
    subst this
    refine xr 3 rfl ?_
    obtain ⟨na, nl, nc, rfl⟩ := iO.val
    have hmod : midL del add s.L add.length = modL del add s.L := by rw [midL, List.take_length, modL]
    rw [hmod] at iO
    have hpW : Upd [p] w W := hU8.trans iU
    have hW7 : Upd [p] w7 W := (hu8.mono (by simp)).trans iU
    have iB11 : Blk W b11 (undoC p (s.turns + 1) s.turn s.L.length (.slice ta tl tc) gr cr) := hB11'.upd hW7 (by simp; omega)
    have hb11p : b11 ≠ p := by omega
    refine exec_dws [p] 7 (fun X => Blk X p [u64V (s.L.length + add.length), .slice na nl nc, .map (some m), intV' s.turn, intV' (s.turns + 1)]) (fun X X' h hu => h.upd hu) rfl rfl rfl ?_
    repeat (first | refine wtm rfl rfl rfl ?_ | refine wgt rfl rfl rfl rfl ?_ | refine wgs rfl rfl ?_)
    refine ws_upd (intV' (s.turns + 1)) rfl (fun X hx => ok_load1 (b := b11) (o := 0 + 1) rfl ((iB11.upd hx (by simpa using hb11p)).cell rfl)) ?_
    repeat (first | refine wtm rfl rfl rfl ?_ | refine wgt rfl rfl rfl rfl ?_ | refine wgs rfl rfl ?_)
    refine ws_store (B := p) (o := 0 + 1) rfl rfl rfl iB rfl (by simp) rfl (by simp) (fun X h => h) ?_
    refine ws_end fun X hx hX => ?_
    have hX' := hX rfl
    clear hX
    refine xr 2 rfl ?_
    refine exec_store (b := p) (o := 0 + 3) (v := intV' (s.turns + 1)) rfl rfl hX' rfl (by simp) rfl ?_
    intro Y hy _ hY
    have hY' : Blk Y p [u64V (s.L.length + add.length), .slice na nl nc, .map (some m), intV' (s.turns + 1), intV' (s.turns + 1)] := hY
    clear hY
    refine xr 3 rfl ?_
    have hWY : Upd [p] W Y := hx.trans hy
    have h7Y : Upd [p] w7 Y := hW7.trans hWY
    have hwY : Upd [p] w Y := hpW.trans hWY
    refine xca rfl rfl (change_ok A.toForK hY' ((h3.upd hwY (by simp; omega))) (hG7.upd h7Y (by simp; omega)) (hC7.upd h7Y (by simp; omega)) (by omega) (by omega)) ?_
    rintro _ Z ⟨l2, hM2, hl2, huZ⟩
    skip
    refine exec_loadN (b := b11) (o := 0) (vs := undoC p (s.turns + 1) s.turn s.L.length (.slice ta tl tc) gr cr) rfl rfl (((iB11.upd hWY (by simpa using hb11p)).upd huZ (by simp; omega)).memAll) rfl ?_
    refine exec_store (b := b6) (o := 0) (v := .agg (undoC p (s.turns + 1) s.turn s.L.length (.slice ta tl tc) gr cr).toArray) rfl rfl ((hB67.upd h7Y (by simp; omega)).upd huZ (by simp; omega)) rfl (by decide) rfl ?_
    intro V huV _ hB6V
    have hB6V' : Blk V b6 (undoC p (s.turns + 1) s.turn s.L.length (.slice ta tl tc) gr cr) := hB6V
    clear hB6V
    refine xr 1 rfl ?_
    have hYV : Upd [m, b6] Y V := (huZ.mono (by simp)).trans huV
    have hwV : Upd [p, m] w V := ((hwY.mono (m := [p, m]) (by simp)).trans huZ).trans huV (fun b hb => .inr (by simp at hb; omega))
    have hnc : NoNode Y [m, b6] := by
      refine Foreign.noNode (Foreign.cons (Foreign.map (h3.upd hwY (by simp; omega))) (Foreign.cons (Foreign.blk (hB67.upd h7Y (by simp; omega)) (Strange.two (by simp) (by simp [intV']))) (Foreign.nil _)))
    have hpY : NoNode W [p] := NoNode.of iB (by simp)
    have hnew : treesT parH (lv (modL del add s.L)) (s.L.length + add.length) = [] → s.L.length + add.length = 0 := by
      intro he
      rcases Nat.eq_zero_or_pos (s.L.length + add.length) with h0 | h0
      · exact h0
      · obtain ⟨t, ht, _⟩ := find_tree parH (L := lv (modL del add s.L)) (n := s.L.length + add.length) (x := 0) (by omega) h0
        rw [he] at ht; simp at ht
    refine xre hc [.agg (undoC p (s.turns + 1) s.turn s.L.length (.slice ta tl tc) gr cr).toArray, _] ⟨⟨b6, 0, _, rfl, hB6V'.memAll, rfl, rfl⟩, rfl, trivial⟩ (.inr ⟨_, rfl, hGr, ⟨⟨.slice na nl nc, l2, ?_, ?_, ?_, ?_⟩, ?_, ?_⟩, ⟨⟨.slice ta tl tc, gr, cr, gl, cl, rfl, ?_, ?_, ?_, hGm, hCm, hgm⟩, hl, h7⟩, hwV⟩)
    · rw [modL_len]
      exact hY'.upd hYV (by simp; omega)
    · rw [modL_len]
      refine ⟨(iO.updB hWY hpY (fun b hb hm => by have := iF b hb; simp at hm; omega)).updB hYV hnc (fun b hb hm => by have := iF b hb; simp at hm; omega), fun he => iN (hnew he)⟩
    · exact hM2.upd huV (by simp; omega)
    · exact where_mod h4 hGm hCm hGr hl2
    · rw [modL_len]; exact hl
    · exact ⟨ht, ht⟩
    · exact h2.upd hwV hfor
    · exact (hG7.upd h7Y (by simp; omega)).upd hYV (by simp; omega)
    · exact (hC7.upd h7Y (by simp; omega)).upd hYV (by simp; omega)
theorem UAt.cells {u : Value} {p m : Nat} {s : Fo} {t : Nat} {del add : List Hash} (h : UAt w u p m s t del add) : u.cells.size = 7 ∧ u.cells.toList.all cellValue = true := by
  obtain ⟨⟨tv, gr, cr, gl, cl, rfl, h2, _⟩, _⟩ := h
  obtain ⟨a, l, c, rfl⟩ := h2.own.val
  exact ⟨rfl, rfl⟩
theorem UAt.upd {l : List Nat} {w' : World} {u : Value} {p m : Nat} {s : Fo} {t : Nat} {del add : List Hash} (h : UAt w u p m s t del add) (hu : Upd l w w') (hl : Foreign w l) (hm : ∀ b ∈ l, b = p ∨ b = m ∨ w.heap.size ≤ b) : UAt w' u p m s t del add := by
  obtain ⟨⟨tv, gr, cr, gl, cl, rfl, h2, h3, h4, h5, h6, g1, g2, g3, g4⟩, h7, h8⟩ := h
  have k3 := h3.lt
  have k4 := h4.lt
  refine ⟨⟨tv, gr, cr, gl, cl, rfl, h2.upd hu hl, h3.upd hu fun hb => ?_, h4.upd hu fun hb => ?_, h5, h6, g1, g2, g3, g4⟩, h7, h8⟩
  · rcases hm _ hb with h | h | h
    · exact g1 h
    · exact g2 h
    · omega
  · rcases hm _ hb with h | h | h
    · exact g3 h
    · exact g4 h
    · omega
end
end Go.Sp

namespace Go.Sp
def DWR (P : Program) (Rel : World → World → Prop) (Fs : Nat → World → Prop) (ds : List DOp) (e : Env) (w : World) (Fin : List (Nat × Value) → Prop) : Nat → List (Nat × Value) → List DOp → Prop
  | _, done, [] => Fin done
  | i, done, (deps, g, _, m) :: r => ∃ v, (∀ W, Rel w W → (∀ j ∈ deps, Fs j W) → DStep P Rel g m (envV ds done deps ++ keepEnv ds i e) W fun W' u => u = v ∧ Fs i W') ∧ DWR P Rel Fs ds e w Fin (i + 1) ((i, v) :: done) r
def FinR (P : Program) (n : Nat) (c : Ctx) (D : List Deferred) (is : List Ins) (k : Kont) (Rel : World → World → Prop) (Fs : Nat → World → Prop) (ds : List DOp) (e : Env) (w : World) (tl : List Ins) (done : List (Nat × Value)) : Prop :=
  ∀ W, Rel w W → (∀ j, j < ds.length → Fs j W) → Exec P n c D (tl ++ is) k (outV done 0 ds ++ e) W
theorem DWR.out {P : Program} {Rel : World → World → Prop} {Fs : Nat → World → Prop} {ds : List DOp} {e : Env} {w : World} {F : List (Nat × Value) → Prop} : ∀ (rest : List DOp) (i : Nat) (done : List (Nat × Value)), wellDeps i rest = true →
    DWR P Rel Fs ds e w F i done rest → ∃ done', F done' ∧ (∀ j, j < i → getV done' j = getV done j) ∧ ∀ (k : Nat) deps g d m, rest[k]? = some (deps, g, d, m) →
      ∀ W, Rel w W → (∀ j ∈ deps, Fs j W) → DStep P Rel g m (envV ds done' deps ++ keepEnv ds (i + k) e) W fun W' u => u = getV done' (i + k) ∧ Fs (i + k) W' := by
  intro rest
  induction rest with
  | nil => intro i done _ h; exact ⟨done, h, fun _ _ => rfl, fun k deps g d m h => by simp at h⟩
  | cons p rest ih =>
    obtain ⟨deps0, g0, d0, m0⟩ := p
    intro i done hw h
    simp only [wellDeps, Bool.and_eq_true] at hw
    obtain ⟨v, h1, h2⟩ := h
    obtain ⟨done', hF, hlow, hr⟩ := ih (i + 1) _ hw.2 h2
    have hlow' : ∀ j, j < i → getV done' j = getV done j := by
      intro j hj
      rw [hlow j (by omega)]
      simp only [getV]
      split
      · rename_i hb; have := Nat.eq_of_beq_eq_true hb; omega
      · rfl
    refine ⟨done', hF, hlow', fun k deps g d m hk W hW hb => ?_⟩
    cases k with
    | zero =>
      simp at hk
      obtain ⟨rfl, rfl, rfl, rfl⟩ := hk
      have hv : getV done' (i + 0) = v := by
        rw [Nat.add_zero, hlow i (by omega)]
        simp [getV]
      rw [hv]
      have he : envV ds done' deps0 = envV ds done deps0 := by
        rw [envV_eq (vs := getV done) deps0 (fun j hj => hlow' j (by have := List.all_eq_true.1 hw.1 j hj; simpa using this)), envV_eq (vs := getV done) deps0 (fun _ _ => rfl)]
      rw [he]
      exact h1 W hW hb
    | succ k =>
      have := hr k deps g d m (by simpa using hk) W hW hb
      rw [show i + 1 + k = i + (k + 1) from by omega] at this
      exact this
section
variable {P : Program} {n : Nat} {c : Ctx} {D : List Deferred} {is : List Ins} {k : Kont} {e : Env} {w : World}
theorem exec_dr {fr : List DOp} {tl : List Ins} (Rel : World → World → Prop) (Fs : Nat → World → Prop) (hE : ∀ a b, Ext a b → Rel a b) (htr : ∀ a b c, Rel a b → Rel b c → Rel a c) (hmo : ∀ i a b, Rel a b → Fs i a → Fs i b)
    (hdst : (dsts fr).all (fun t => Nat.blt t n) = true) (hnd : nodupB (dsts fr) = true) (hwd : wellDeps 0 fr = true)
    (h : DWR P Rel Fs fr e w (FinR P n c D is k Rel Fs fr e w tl) 0 [] fr) : Exec P n c D (.draw fr tl :: is) k e w := by
  obtain ⟨done, hF, _, hs⟩ := DWR.out fr 0 [] hwd h
  have hw0 : Rel w { w with drawn := w.drawn + 1 } := hE _ _ (Upd.drew [] w _)
  refine exec_draw Rel (fun i W vs => vs i = getV done i ∧ Fs i W) (fun a => hE _ _ (Upd.refl _ _)) htr ?_ ?_ hdst hnd ?_ ?_
  · intro i W W' vs _ _ hr ⟨h1, h2⟩; exact ⟨h1, hmo _ _ _ hr h2⟩
  · intro i c' g d m j W vs v _ _ hne ⟨h1, h2⟩
    exact ⟨by simp only [put, if_neg (Ne.symm hne)]; exact h1, h2⟩
  · suffices ∀ (r : List DOp) (i : Nat), (∀ j, r[j]? = fr[i + j]?) → DSteps P Rel fr (fun i W vs => vs i = getV done i ∧ Fs i W) e { w with drawn := w.drawn + 1 } i r from this fr 0 (by simp)
    intro r
    induction r with
    | nil => intro i _; trivial
    | cons y r ih =>
      obtain ⟨deps, g, d, m⟩ := y
      intro i hr
      refine ⟨?_, ih (i + 1) fun j => by have := hr (j + 1); rw [show i + (j + 1) = i + 1 + j from by omega] at this; simpa using this⟩
      intro vs W hW hdeps
      have hi : fr[i]? = some (deps, g, d, m) := by have := hr 0; simpa using this.symm
      have h4 := hs i deps g d m hi W (htr _ _ _ hw0 hW) (fun j hj => (hdeps j hj).2)
      rw [Nat.zero_add, envV_eq (vs := vs) deps (fun j hj => (hdeps j hj).1.symm)] at h4
      unfold DStep at h4 ⊢
      have h5 : ∀ W' u, (u = getV done i ∧ Fs i W') → put vs i u i = getV done i ∧ Fs i W' := fun W' u h => ⟨by simp [put, h.1], h.2⟩
      split
      · exact h4.mono fun v W' h => ⟨h.1, h5 _ _ h.2⟩
      · exact h4
      · rcases h4 with ⟨ha, hb⟩ | ⟨ha, hb⟩
        · exact .inl ⟨ha, hb.mono fun v W' h => ⟨h.1, h5 _ _ h.2⟩⟩
        · exact .inr ⟨ha, h5 _ _ hb⟩
  · intro vs W hW hR
    have h1 : outV done 0 fr = outEnv vs 0 fr := outV_eq fr 0 fun j hj => by rw [Nat.zero_add]; exact ((hR j hj).1).symm
    rw [← h1]
    exact hF W (htr _ _ _ hw0 hW) fun j hj => (hR j hj).2
variable {Rel : World → World → Prop} {Fs : Nat → World → Prop} {ds : List DOp} {F : List (Nat × Value) → Prop} {done : List (Nat × Value)} {i : Nat} {deps : List Nat} {d : Option Nat} {m : MOp} {r : List DOp} {s : Nat} {b : Bool}
theorem wr_tame {v : Value} (hE : ∀ a b, Ext a b → Rel a b) (hp : tameOp m = true) (hf : ∀ W, Fs i W) (hv : pureV (envV ds done deps ++ keepEnv ds i e) m = some v) (h : DWR P Rel Fs ds e w F (i + 1) ((i, v) :: done) r) : DWR P Rel Fs ds e w F i done ((deps, none, d, m) :: r) :=
  ⟨v, fun W _ _ => (ok_pure hv).mono fun u W' hu => ⟨hu.2 ▸ hE _ _ (Upd.refl _ _), hu.1, hf _⟩, h⟩
theorem wr_ok (v : Value) (hE : ∀ a b, Ext a b → Rel a b) (hf : ∀ W, Fs i W) (hv : ∀ W, Rel w W → OpOK P m (envV ds done deps ++ keepEnv ds i e) W (Just v W)) (h : DWR P Rel Fs ds e w F (i + 1) ((i, v) :: done) r) : DWR P Rel Fs ds e w F i done ((deps, none, d, m) :: r) :=
  ⟨v, fun W h1 _ => (hv W h1).mono fun u W' hu => ⟨hu.2 ▸ hE _ _ (Upd.refl _ _), hu.1, hf _⟩, h⟩
theorem wr_store {N : Nat} {x y : Operand} (B o : Nat) (v : Value) (hx : (envV ds done deps ++ keepEnv ds i e).ev x = some (.pointer (some ⟨B, o, none⟩))) (hy : (envV ds done deps ++ keepEnv ds i e).ev y = some v)
    (hl : v.cells.size = N) (hv : v.cells.toList.all cellValue = true)
    (hB : ∀ W, Rel w W → ∃ cs, Blk W B cs ∧ o + N ≤ cs.length ∧ ∀ W', Upd [B] W W' → Blk W' B (splice cs o v.cells.toList) → Rel W W' ∧ Fs i W')
    (h : DWR P Rel Fs ds e w F (i + 1) ((i, undef) :: done) r) : DWR P Rel Fs ds e w F i done ((deps, none, none, .store N x y) :: r) := by
  refine ⟨undef, fun W h1 _ => ?_, h⟩
  obtain ⟨cs, hBW, hle, hnext⟩ := hB W h1
  intro a hk rd d next Q hn
  obtain ⟨w', hr, hu, hs, hb'⟩ := storeCells_run (P := P) (o := o) v.cells.toList 0 W cs hBW (by simp [hl]; omega) hv
  have : ((MOp.store N x y).sem a.eval).run P W = .ok .skip w' := by
    simp [MOp.sem, Env.ok_ev hk hx, Env.ok_ev hk hy, Instr.sureAddr, hl, hr]
  rw [this]
  rw [Oper.uponIn_skip]
  obtain ⟨q1, q2⟩ := hnext w' hu hb'
  exact hn undef w' ⟨q1, rfl, q2⟩
theorem wr_end {tl : List Ins} (h : ∀ W, Rel w W → (∀ j, j < ds.length → Fs j W) → Exec P n c D (tl ++ is) k (outV done 0 ds ++ e) W) : DWR P Rel Fs ds e w (FinR P n c D is k Rel Fs ds e w tl) i done [] := h
end
end Go.Sp

namespace Go.Sp
/-- the functions of forest, on -/
structure ForM (P : Program) extends ForL P where
  new' : Nat
  root' : Nat
  rows' : Nat
  index : Nat
  where1 : Nat
  TFo : Nat
  TRt : Nat
  TW1 : Nat
  h_new : Has P new' (b_forest_New TFo)
  h_root : Has P root' (b_Pforest_Forest_root nf.root TRt)
  h_rows : Has P rows' (b_Pforest_Forest_rows nf.rows)
  h_index : Has P index b_slices_IndexFunc_forest_tree_forest_tree
  h_where1 : Has P where1 (b_Pforest_Forest_Where_1 size TW1)
theorem optV_eq (f : Nat → Value) (o : Option Nat) : optV f o = .tuple #[f (o.getD 0), .bool o.isSome] := by cases o <;> rfl
section
variable {P : Program} {f : Nat} {w : World}
theorem new_ok (A : ForM P) : Ret P A.new' [] w fun v w' => ∃ p m, v = ptrV p ∧ w.heap.size ≤ p ∧ w.heap.size ≤ m ∧ FAt w' p m ⟨[], 0, 0⟩ ∧ Ext w w' := by
  refine Ret.of_exec A.h_new (Nat.le_of_ble_eq_true rfl) fun c hc => ?_
  dsimp only [b_forest_New, argEnv, ym, yo, yg, ys, yt, yd, ye]
  refine xr 1 rfl ?_
  refine exec_mkMap rfl ?_
  intro r w1 hr hs1 hu1 hM
  refine xju (ok_mkL (l := [(2, 1, .map (some r))]) (cs := [u64V 0, .slice none 0 0, .map (some r), intV' 0, intV' 0]) rfl rfl) rfl ?_
  refine exec_box rfl rfl ?_
  intro p w2 hp hs2 hu2 hB
  refine xr 1 rfl ?_
  refine xre hc [_] ⟨rfl, trivial⟩ ⟨p, r, rfl, by omega, by omega, ⟨⟨.slice none 0 0, [], hB, ⟨⟨[], ⟨rfl, fun i v t h => by simp at h⟩, .inl ⟨rfl, rfl, rfl⟩⟩, fun _ => rfl⟩, (MapAt.empty hM).upd hu2, ?_⟩, by simp, by simp⟩, hu1.trans hu2⟩
  intro h i
  simp [aget]
theorem rows'_ok (A : ForM P) {p m : Nat} {s : Fo} (h : FAt w p m s) : RetV P A.rows' [ptrV p] w (intV' (rowsN s.L.length)) := by
  have hl := h.len
  obtain ⟨⟨tv, wl, h1, _⟩, _⟩ := h
  refine Ret.of_exec A.h_rows (Nat.le_of_ble_eq_true rfl) fun c hc => ?_
  dsimp only [b_Pforest_Forest_rows, argEnv, ym, yo, yg, ys, yt, yd, ye]
  refine xr 4 rfl ?_
  refine exec_load1 (b := p) (o := 0 + 0) rfl rfl (h1.cell rfl) ?_
  refine xca rfl rfl (rows_ok A.nf.toPosF s.L.length (by omega)) ?_
  rintro _ w1 ⟨rfl, hu1⟩
  rw [if_pos (by omega)]
  refine xr 7 rfl ?_
  exact xre hc [_] ⟨rfl, trivial⟩ ⟨rfl, hu1⟩
theorem root'_ok (A : ForM P) {p m : Nat} {s : Fo} (h : FAt w p m s) (u : Value) (fst hi : Nat) (hh : hi < 2 ^ 60) : RetV P A.root' [ptrV p, .agg #[u, u64V fst, intV' hi]] w (u64V ((rootN s.L.length hi).getD 0)) := by
  have hl := h.len
  obtain ⟨⟨tv, wl, h1, _⟩, _⟩ := h
  refine Ret.of_exec A.h_root (Nat.le_of_ble_eq_true rfl) fun c hc => ?_
  dsimp only [b_Pforest_Forest_root, argEnv, ym, yo, yg, ys, yt, yd, ye]
  refine exec_box rfl rfl ?_
  intro b3 w1 hb3 hs1 hu1 hB3
  have hB3' : Blk w1 b3 [u, u64V fst, intV' hi] := by simpa [Value.cells] using hB3
  refine xr 1 rfl ?_
  refine exec_dwr rfl rfl rfl ?_
  repeat (first | refine wtm rfl rfl rfl ?_ | refine wgt rfl rfl rfl rfl ?_ | refine wgs rfl rfl ?_)
  refine ws_keep (u64V s.L.length) rfl (fun X hx => ok_load1 (b := p) (o := 0 + 0) rfl (((h1.upd hu1).upd hx).cell rfl)) ?_
  repeat (first | refine wtm rfl rfl rfl ?_ | refine wgt rfl rfl rfl rfl ?_ | refine wgs rfl rfl ?_)
  refine ws_keep (intV' hi) rfl (fun X hx => ok_load1 (b := b3) (o := 0 + 2) rfl ((hB3'.upd hx).cell rfl)) ?_
  refine ws_ext (.tuple #[u64V ((rootN s.L.length hi).getD 0), .bool (rootN s.L.length hi).isSome]) rfl (fun X hx => ok_call rfl (by rw [← optV_eq]; exact root_ok A.nf.toPosF s.L.length hi (by omega) (by omega))) ?_
  repeat (first | refine wtm rfl rfl rfl ?_ | refine wgt rfl rfl rfl rfl ?_ | refine wgs rfl rfl ?_)
  refine ws_fin fun w2 hw2 => ?_
  refine xr 3 rfl ?_
  exact xre hc [_] ⟨rfl, trivial⟩ ⟨rfl, hu1.trans hw2⟩
theorem where1_ok (A : ForM P) {bx x : Nat} (hx : x < 2 ^ 63) (hB : Blk w bx [u64V x]) (u : Value) (t : TT Hash) (ht : t.2.1 + 2 ^ t.2.2 < 2 ^ 63 ∧ t.2.2 < 63) : RetV P A.where1 [.agg #[u, u64V t.2.1, intV' t.2.2], ptrV bx] w (.bool (inT x t)) := by
  obtain ⟨t1, t2⟩ := ht
  refine Ret.of_exec A.h_where1 (Nat.le_of_ble_eq_true rfl) fun c hc => ?_
  dsimp only [b_Pforest_Forest_Where_1, argEnv, ym, yo, yg, ys, yt, yd, ye]
  refine exec_box rfl rfl ?_
  intro b2 w1 hb2 hs1 hu1 hB2
  have hB2' : Blk w1 b2 [u, u64V t.2.1, intV' t.2.2] := by simpa [Value.cells] using hB2
  refine xr 1 rfl ?_
  have hBx := hB.upd hu1
  have hp : 2 ^ t.2.2 < 2 ^ 63 := by omega
  by_cases hle : t.2.1 ≤ x
  · refine exec_dwr rfl rfl rfl ?_
    refine ws_keep (u64V x) rfl (fun X hx => ok_load1 (b := bx) (o := 0) rfl ((hBx.upd hx).cell rfl)) ?_
    repeat (first | refine wtm rfl rfl rfl ?_ | refine wgt rfl rfl rfl rfl ?_ | refine wgs rfl rfl ?_)
    refine ws_keep (u64V t.2.1) rfl (fun X hx => ok_load1 (b := b2) (o := 0 + 1) rfl ((hB2'.upd hx).cell rfl)) ?_
    refine ws_val rfl (pv_geqI (a := x) (b := t.2.1) (q := true) rfl rfl (by simpa using hle)) ?_
    repeat (first | refine wtm rfl rfl rfl ?_ | refine wgt rfl rfl rfl rfl ?_ | refine wgs rfl rfl ?_)
    refine ws_gkeep (u64V x) rfl rfl (fun X hx => ok_load1 (b := bx) (o := 0) rfl ((hBx.upd hx).cell rfl)) ?_
    repeat (first | refine wtm rfl rfl rfl ?_ | refine wgt rfl rfl rfl rfl ?_ | refine wgs rfl rfl ?_)
    refine ws_gkeep (u64V t.2.1) rfl rfl (fun X hx => ok_load1 (b := b2) (o := 0 + 1) rfl ((hB2'.upd hx).cell rfl)) ?_
    refine ws_gval rfl rfl (pv_subU (a := x) (b := t.2.1) rfl rfl hle (by omega)) ?_
    refine ws_gkeep (.agg #[u, u64V t.2.1, intV' t.2.2]) rfl rfl (fun X hx => ok_loadN (b := b2) (o := 0) (vs := [u, u64V t.2.1, intV' t.2.2]) rfl (hB2'.upd hx).memAll rfl) ?_
    refine ws_gext (u64V (2 ^ t.2.2)) rfl rfl (fun X hx => ok_call rfl (treeSize_ok A.toForH u t (by omega))) ?_
    refine ws_fin fun w2 hw2 => ?_
    refine xgr rfl ?_
    refine xpu (pv_lssI (a := x - t.2.1) (b := 2 ^ t.2.2) (q := inT x t) rfl rfl (by simp [inT, hle])) rfl ?_
    refine xr 2 rfl ?_
    exact xre hc [_] ⟨rfl, trivial⟩ ⟨rfl, hu1.trans hw2⟩
  · refine exec_dwr rfl rfl rfl ?_
    refine ws_keep (u64V x) rfl (fun X hx => ok_load1 (b := bx) (o := 0) rfl ((hBx.upd hx).cell rfl)) ?_
    repeat (first | refine wtm rfl rfl rfl ?_ | refine wgt rfl rfl rfl rfl ?_ | refine wgs rfl rfl ?_)
    refine ws_keep (u64V t.2.1) rfl (fun X hx => ok_load1 (b := b2) (o := 0 + 1) rfl ((hB2'.upd hx).cell rfl)) ?_
    refine ws_val rfl (pv_geqI (a := x) (b := t.2.1) (q := false) rfl rfl (by simpa using hle)) ?_
    repeat (first | refine wtm rfl rfl rfl ?_ | refine wgt rfl rfl rfl rfl ?_ | refine wgs rfl rfl ?_)
    refine ws_fin fun w2 hw2 => ?_
    refine xr 3 rfl ?_
    refine xre hc [_] ⟨rfl, trivial⟩ ⟨?_, hu1.trans hw2⟩
    simp [single, inT, hle]
/-- slices.IndexFunc of trees -/
theorem indexT_ok (A : ForM P) {sv : Value} {ts : List (TT Hash)} (h : TreesAt w sv ts) (hl : ts.length < 2 ^ 30) {g : Nat} {cs : List Value} {q : TT Hash → Bool} (hg : Enters P g)
    (hq : ∀ W u t, Ext w W → t ∈ ts → RetV P g (.agg #[u, u64V t.2.1, intV' t.2.2] :: cs) W (.bool (q t))) :
    Ret P A.index [sv, .func (.func g) #[] cs.toArray] w fun v w' => Ext w w' ∧ ((v = .int .i64 (-1) ∧ ∀ t ∈ ts, q t = false) ∨ ∃ i t, v = intV' i ∧ ts[i]? = some t ∧ ts.find? q = some t) := by
  obtain ⟨vs, hR, hS⟩ := h
  refine Ret.of_exec A.h_index (Nat.le_of_ble_eq_true rfl) fun c hc => ?_
  dsimp only [b_slices_IndexFunc_forest_tree_forest_tree, argEnv, ym, yo, yg, ys, yt, yd, ye]
  refine xtm rfl rfl rfl ?_
  refine xtm rfl rfl rfl ?_
  refine xpu (hS.lenS rfl) rfl ?_
  refine xr 2 rfl ?_
  refine xlo (S := Nat) (fun i W => i ≤ ts.length ∧ Ext w W ∧ (ts.take i).find? q = none)
    (fun i => [(0, sv), (1, .func (.func g) #[] cs.toArray), (7, intV' ts.length), (8, intV' i)]) (fun i => ts.length - i) 0
    ⟨Nat.zero_le _, Upd.refl _ _, rfl⟩ ⟨rfl, rfl, rfl, rfl, trivial⟩ ?_
  rintro i W ⟨i1, iU, iF⟩
  skip
  by_cases hi : i < ts.length
  · refine xpu (pv_lssI (a := i) (b := ts.length) (q := true) rfl rfl (by simpa using hi)) rfl ?_
    refine xr 8 rfl ?_
    obtain ⟨t, ht⟩ : ∃ t, ts[i]? = some t := ⟨_, List.getElem?_eq_getElem hi⟩
    obtain ⟨u, hu⟩ : ∃ u, vs[i]? = some u := ⟨_, List.getElem?_eq_getElem (by rw [hR.len]; omega)⟩
    obtain ⟨g0, g1, g2⟩ := cellsT_get vs ts i u t hu ht
    obtain ⟨b, o, cap, hv, hm, _⟩ := hS.at (by omega)
    refine xju (ok_iaddr (N := 3) (b := b) (o := o) (len := ts.length) (cap := cap) (by rw [← hv]; rfl) rfl i rfl hi) rfl ?_
    have hM3 : Mem W b (o + i * 3) [u, u64V t.2.1, intV' t.2.2] := (hm.upd iU (by simp)).sub (i * 3) (us := [u, u64V t.2.1, intV' t.2.2]) (fun k x hk => by
      match k, hk with
      | 0, hk => cases hk; exact g0
      | 1, hk => cases hk; exact g1
      | 2, hk => cases hk; exact g2)
    refine exec_loadN (b := b) (o := o + i * 3) (vs := [u, u64V t.2.1, intV' t.2.2]) rfl rfl hM3 rfl ?_
    refine exec_callv (f := g) (fs := #[]) (cs := cs.toArray) rfl rfl rfl hg (hq W u t iU (List.mem_of_getElem? ht)) ?_
    rintro _ W1 ⟨rfl, hw1⟩
    have htk : ts.take (i + 1) = ts.take i ++ [t] := by rw [List.take_add_one, ht]; rfl
    refine exec_cond rfl (fun hqt => ?_) (fun hqt => ?_)
    · refine xr 2 rfl ?_
      refine xre hc [_] ⟨rfl, trivial⟩ ⟨iU.trans hw1, .inr ⟨i, t, rfl, ht, ?_⟩⟩
      rw [← List.take_append_drop (i + 1) ts, htk, List.append_assoc, List.find?_append, iF]
      simp [hqt]
    · refine xr 3 rfl ?_
      refine xpu (pv_addI (a := i) (b := 1) rfl rfl (by omega)) rfl ?_
      refine xr 1 rfl ?_
      refine xag (i + 1) ⟨hi, iU.trans hw1, ?_⟩ (by show ts.length - (i + 1) < ts.length - i; omega) ⟨rfl, rfl, rfl, rfl, trivial⟩
      rw [htk, List.find?_append, iF]
      simp [hqt]
  · refine xpu (pv_lssI (a := i) (b := ts.length) (q := false) rfl rfl (by simpa using hi)) rfl ?_
    have : i = ts.length := by omega
    subst this
    refine xr 4 rfl ?_
    refine xre hc [_] ⟨rfl, trivial⟩ ⟨iU, .inl ⟨rfl, fun t ht => ?_⟩⟩
    rw [List.take_length, List.find?_eq_none] at iF
    simpa using iF t ht
end
end Go.Sp

namespace Go.Sp
def DR.goodQ (Rel : World → World → Prop) (w : World) (deps : List Nat) : DR → Prop
  | .val _ => True
  | .rel js R => js.all (fun j => deps.contains j) = true ∧ ∀ W W' xs v, Rel w W → Rel W W' → R W xs v → R W' xs v
def QWL (P : Program) (Rel : World → World → Prop) (ds : List DOp) (e : Env) (w : World) (Fin : List DR → Prop) : List DR → List DOp → Prop
  | done, [] => Fin done
  | done, (deps, g, _, m) :: r => ∃ x : DR, x.goodQ Rel w deps ∧
      (∀ (vs : Nat → Value) (W : World), Rel w W → depFacts done W vs deps → DStep P Rel g m (envD ds done vs deps ++ keepEnv ds done.length e) W fun W' v => x.get W' vs v) ∧
      QWL P Rel ds e w Fin (done ++ [x]) r
def FinQD (P : Program) (n : Nat) (c : Ctx) (D : List Deferred) (is : List Ins) (k : Kont) (Rel : World → World → Prop) (ds : List DOp) (e : Env) (w : World) (tl : List Ins) (done : List DR) : Prop :=
  ∀ vs W, Rel w W → factsD W vs 0 done → Exec P n c D (tl ++ is) k (outD done vs 0 ds ++ e) W
theorem QWL.out {P : Program} {Rel : World → World → Prop} {ds : List DOp} {e : Env} {w : World} {F : List DR → Prop} : ∀ (rest : List DOp) (done : List DR), QWL P Rel ds e w F done rest →
    ∃ rs : List DR, rs.length = rest.length ∧ F (done ++ rs) ∧ ∀ (i : Nat) deps g d m, rest[i]? = some (deps, g, d, m) → ∃ x, (done ++ rs)[done.length + i]? = some x ∧ x.goodQ Rel w deps ∧
      (∀ (vs : Nat → Value) (W : World), Rel w W → depFacts ((done ++ rs).take (done.length + i)) W vs deps →
        DStep P Rel g m (envD ds ((done ++ rs).take (done.length + i)) vs deps ++ keepEnv ds (done.length + i) e) W fun W' v => x.get W' vs v) := by
  intro rest
  induction rest with
  | nil => intro done h; exact ⟨[], rfl, by simp only [List.append_nil]; exact h, fun i deps g d m h => by simp at h⟩
  | cons y rest ih =>
    obtain ⟨deps0, g0, d0, m0⟩ := y
    intro done h
    obtain ⟨x, h1, h2, h3⟩ := h
    obtain ⟨rs, hl, hF, hr⟩ := ih _ h3
    refine ⟨x :: rs, by simp [hl], by simpa using hF, fun i deps g d m hi => ?_⟩
    cases i with
    | zero =>
      simp at hi
      obtain ⟨rfl, rfl, rfl, rfl⟩ := hi
      refine ⟨x, by simp, h1, ?_⟩
      have : (done ++ x :: rs).take (done.length + 0) = done := by simp
      rw [this]
      exact h2
    | succ i =>
      obtain ⟨x', g1, g2, g3⟩ := hr i deps g d m (by simpa using hi)
      have e1 : done ++ [x] ++ rs = done ++ x :: rs := by simp
      have e2 : (done ++ [x]).length + i = done.length + (i + 1) := by simp; omega
      rw [e1, e2] at g1 g3
      exact ⟨x', g1, g2, g3⟩
section
variable {P : Program} {n : Nat} {c : Ctx} {D : List Deferred} {is : List Ins} {k : Kont} {e : Env} {w : World}
theorem exec_qwL {fr : List DOp} {tl : List Ins} (Rel : World → World → Prop) (hE : ∀ a b, Ext a b → Rel a b) (tr : ∀ a b c, Rel a b → Rel b c → Rel a c) (hdst : (dsts fr).all (fun t => Nat.blt t n) = true) (hnd : nodupB (dsts fr) = true) (hwd : wellDeps 0 fr = true)
    (h : QWL P Rel fr e w (FinQD P n c D is k Rel fr e w tl) [] fr) : Exec P n c D (.draw fr tl :: is) k e w := by
  obtain ⟨rs, hl, hF, hs⟩ := h.out
  simp only [List.nil_append, List.length_nil, Nat.zero_add] at hF hs
  let Rs : Nat → World → (Nat → Value) → Prop := fun i W vs => ∀ x, rs[i]? = some x → x.holds W vs i
  have hget : ∀ i, i < fr.length → ∃ x deps g d m, rs[i]? = some x ∧ fr[i]? = some (deps, g, d, m) ∧ x.goodQ Rel w deps := by
    intro i hi
    have : fr[i]? = some fr[i] := List.getElem?_eq_getElem hi
    obtain ⟨x, h1, h2, _⟩ := hs i fr[i].1 fr[i].2.1 fr[i].2.2.1 fr[i].2.2.2 this
    exact ⟨x, _, _, _, _, h1, this, h2⟩
  have hw0 : Rel w { w with drawn := w.drawn + 1 } := hE _ _ (Upd.drew [] w _)
  refine exec_draw Rel Rs (fun a => hE _ _ (Upd.refl _ _)) tr ?_ ?_ hdst hnd ?_ ?_
  · intro i W W' vs hi h1 h2 hR x hx
    have h3 := hR x hx
    obtain ⟨x', deps, g, d, m, h4, h5, h6⟩ := hget i hi
    rw [hx] at h4; cases h4
    cases x with
    | val v => exact h3
    | rel js R => exact h6.2 W W' _ _ (tr _ _ _ hw0 h1) h2 h3
  · intro i c' g d m j W vs v hi hj hne hR x hx
    have h3 := hR x hx
    have hi' : i < fr.length := (List.getElem?_eq_some_iff.1 hi).1
    obtain ⟨x', deps, g', d', m', h4, h5, h6⟩ := hget i hi'
    rw [hi] at h5; cases h5
    rw [hx] at h4; cases h4
    cases x with
    | val u => show put vs j v i = u; simp only [put, if_neg (Ne.symm hne)]; exact h3
    | rel js R =>
      show R W (js.map (put vs j v)) (put vs j v i)
      have e1 : js.map (put vs j v) = js.map vs := by
        apply List.map_congr_left
        intro y hy
        have : y ∈ c' := by simpa using List.all_eq_true.1 h6.1 y hy
        simp only [put, if_neg (fun (h : y = j) => hj (h ▸ this))]
      rw [e1]
      simp only [put, if_neg (Ne.symm hne)]
      exact h3
  · suffices ∀ (r : List DOp) (i : Nat), (∀ j, r[j]? = fr[i + j]?) → DSteps P Rel fr Rs e { w with drawn := w.drawn + 1 } i r from this fr 0 (by simp)
    intro r
    induction r with
    | nil => intro i _; trivial
    | cons y r ih =>
      obtain ⟨deps, g, d, m⟩ := y
      intro i hr
      refine ⟨?_, ih (i + 1) fun j => by have := hr (j + 1); rw [show i + (j + 1) = i + 1 + j from by omega] at this; simpa using this⟩
      intro vs W hW hdeps
      have hi : fr[i]? = some (deps, g, d, m) := by have := hr 0; simpa using this.symm
      obtain ⟨x, h1, h2, h3⟩ := hs i deps g d m hi
      have hlt : ∀ j ∈ deps, j < i := by
        intro j hj
        simpa using wellDeps_get _ 0 hwd i _ _ _ _ hi j hj
      have hh : ∀ j ∈ deps, ∀ y, (rs.take i)[j]? = some y → y.holds W vs j := by
        intro j hj y hy
        rw [List.getElem?_take] at hy
        rw [if_pos (hlt j hj)] at hy
        exact hdeps j hj y hy
      have h4 := h3 vs W (tr _ _ _ hw0 hW) (depFacts_of deps hh)
      rw [envD_eq deps fun j hj => valD_eq (W := W) (hh j hj)] at h4
      have h5 : ∀ (W' : World) (v : Value), x.get W' vs v → Rs i W' (put vs i v) := by
        intro W' v hx y hy
        rw [h1] at hy; cases hy
        cases x with
        | val u => show put vs i v i = u; rw [show put vs i v i = v by simp [put]]; exact hx
        | rel js R =>
          show R W' (js.map (put vs i v)) (put vs i v i)
          have e1 : js.map (put vs i v) = js.map vs := by
            apply List.map_congr_left
            intro z hz
            have : z ∈ deps := by simpa using List.all_eq_true.1 h2.1 z hz
            have := hlt z this
            simp only [put, if_neg (show ¬ z = i from by omega)]
          rw [e1]
          rw [show put vs i v i = v by simp [put]]; exact hx
      unfold DStep at h4 ⊢
      split
      · exact h4.mono fun v W' h => ⟨h.1, h5 _ _ h.2⟩
      · exact h4
      · rcases h4 with ⟨ha, hb⟩ | ⟨ha, hb⟩
        · exact .inl ⟨ha, hb.mono fun v W' h => ⟨h.1, h5 _ _ h.2⟩⟩
        · exact .inr ⟨ha, h5 _ _ hb⟩
  · intro vs W hW hR
    have h1 : ∀ (j : Nat) (x : DR), rs[j]? = some x → x.holds W vs (0 + j) := by
      intro j x hx
      have : j < fr.length := by rw [← hl]; exact (List.getElem?_eq_some_iff.1 hx).1
      rw [Nat.zero_add]; exact hR j this x hx
    have h2 := hF vs W (tr _ _ _ hw0 hW) (factsD_of rs 0 h1)
    rw [outD_eq fr 0 fun j hj => valD_eq (W := W) (by intro x hx; exact h1 (0 + j) x hx |> fun h => by simpa using h)] at h2
    exact h2
end
def QW (P : Program) (Rel : World → World → Prop) (ds : List DOp) (e : Env) (w : World) (Fin : List (Nat × DR) → Prop) : Nat → List (Nat × DR) → List DOp → Prop
  | _, done, [] => Fin done
  | i, done, (deps, g, _, m) :: r => ∃ x : DR, x.goodQ Rel w deps ∧
      (∀ (vs : Nat → Value) (W : World), Rel w W → depFactsA done W vs deps → DStep P Rel g m (envA ds done vs deps ++ keepEnv ds i e) W fun W' v => x.get W' vs v) ∧
      QW P Rel ds e w Fin (i + 1) ((i, x) :: done) r
def FinQA (P : Program) (n : Nat) (c : Ctx) (D : List Deferred) (is : List Ins) (k : Kont) (Rel : World → World → Prop) (ds : List DOp) (e : Env) (w : World) (tl : List Ins) (done : List (Nat × DR)) : Prop :=
  ∀ vs W, Rel w W → factsA W vs done → Exec P n c D (tl ++ is) k (outA done vs 0 ds ++ e) W
theorem QW.toL {P : Program} {Rel : World → World → Prop} {ds : List DOp} {e : Env} {w : World} {F : List (Nat × DR) → Prop} : ∀ (rest : List DOp) (i : Nat) (done : List (Nat × DR)) (L : List DR), L.length = i → (∀ j, getA done j = L[j]?) → (∀ p ∈ done, L[p.1]? = some p.2) →
    QW P Rel ds e w F i done rest → QWL P Rel ds e w (fun L => ∃ done, (∀ j, getA done j = L[j]?) ∧ (∀ p ∈ done, L[p.1]? = some p.2) ∧ F done) L rest := by
  intro rest
  induction rest with
  | nil => intro i done L _ h1 h2 h; exact ⟨done, h1, h2, h⟩
  | cons y rest ih =>
    obtain ⟨deps, g, d, m⟩ := y
    intro i done L hl h1 h2 h
    obtain ⟨x, hg, hs, hr⟩ := h
    refine ⟨x, hg, fun vs W hW hd => ?_, ih (i + 1) ((i, x) :: done) (L ++ [x]) (by simp [hl]) ?_ ?_ hr⟩
    · have := hs vs W hW (depFactsA_of h1 deps hd)
      rw [envA_eq h1, ← hl] at this
      exact this
    · intro j
      simp only [getA]
      split
      · rename_i hb
        have := Nat.eq_of_beq_eq_true hb
        subst this
        rw [← hl]; simp
      · rename_i hb
        have hne : i ≠ j := fun h => by subst h; simp at hb
        rw [h1 j]
        rcases Nat.lt_or_ge j L.length with hj | hj
        · rw [List.getElem?_append_left hj]
        · rw [List.getElem?_eq_none hj, List.getElem?_eq_none (by simp; omega)]
    · intro p hp
      rcases List.mem_cons.1 hp with rfl | hp
      · rw [← hl]; simp
      · have h3 := h2 p hp
        have hj := (List.getElem?_eq_some_iff.1 h3).1
        rw [List.getElem?_append_left hj]; exact h3
section
variable {P : Program} {n : Nat} {c : Ctx} {D : List Deferred} {is : List Ins} {k : Kont} {e : Env} {w : World}
theorem exec_qw {fr : List DOp} {tl : List Ins} (Rel : World → World → Prop) (hE : ∀ a b, Ext a b → Rel a b) (tr : ∀ a b c, Rel a b → Rel b c → Rel a c) (hdst : (dsts fr).all (fun t => Nat.blt t n) = true) (hnd : nodupB (dsts fr) = true) (hwd : wellDeps 0 fr = true)
    (h : QW P Rel fr e w (FinQA P n c D is k Rel fr e w tl) 0 [] fr) : Exec P n c D (.draw fr tl :: is) k e w := by
  refine exec_qwL Rel hE tr hdst hnd hwd ?_
  have h2 := QW.toL fr 0 [] [] rfl (by simp [getA]) (by simp) h
  have mono : ∀ (rest : List DOp) (L : List DR) (F G : List DR → Prop), (∀ L, F L → G L) → QWL P Rel fr e w F L rest → QWL P Rel fr e w G L rest := by
    intro rest
    induction rest with
    | nil => intro L F G hFG h; exact hFG _ h
    | cons y rest ih =>
      obtain ⟨deps, g, d, m⟩ := y
      intro L F G hFG h
      obtain ⟨x, h1, h2, h3⟩ := h
      exact ⟨x, h1, h2, ih _ F G hFG h3⟩
  refine mono fr [] _ _ ?_ h2
  rintro L ⟨done, g1, g2, hF⟩ vs W hW hf
  have := hF vs W hW (factsA_of hf done g2)
  rw [outA_eq g1] at this
  exact this
variable {Rel : World → World → Prop} {ds : List DOp} {F : List (Nat × DR) → Prop} {done : List (Nat × DR)} {i : Nat} {deps : List Nat} {d : Option Nat} {m : MOp} {r : List DOp} {s : Nat} {b : Bool}
theorem qw_tame {v : Value} (hE : ∀ a b, Ext a b → Rel a b) (hp : tameOp m = true) (hv : ∀ vs, pureV (envA ds done vs deps ++ keepEnv ds i e) m = some v) (h : QW P Rel ds e w F (i + 1) ((i, .val v) :: done) r) : QW P Rel ds e w F i done ((deps, none, d, m) :: r) :=
  ⟨.val v, trivial, fun vs W _ _ => (ok_pure (hv vs)).mono fun u W' hu => ⟨hu.2 ▸ hE _ _ (Upd.refl _ _), hu.1⟩, h⟩
theorem qw_keep (v : Value) (hE : ∀ a b, Ext a b → Rel a b) (hv : ∀ vs W, Rel w W → depFactsA done W vs deps → OpOK P m (envA ds done vs deps ++ keepEnv ds i e) W (Just v W))
    (h : QW P Rel ds e w F (i + 1) ((i, .val v) :: done) r) : QW P Rel ds e w F i done ((deps, none, d, m) :: r) :=
  ⟨.val v, trivial, fun vs W h1 h2 => (hv vs W h1 h2).mono fun u W' hu => ⟨hu.2 ▸ hE _ _ (Upd.refl _ _), hu.1⟩, h⟩
theorem qw_rel (js : List Nat) (R : World → List Value → Value → Prop) (hj : js.all (fun j => deps.contains j) = true) (hm : ∀ W W' xs v, Rel w W → Rel W W' → R W xs v → R W' xs v)
    (hv : ∀ vs W, Rel w W → depFactsA done W vs deps → OpOK P m (envA ds done vs deps ++ keepEnv ds i e) W fun u W' => Rel W W' ∧ R W' (js.map vs) u)
    (h : QW P Rel ds e w F (i + 1) ((i, .rel js R) :: done) r) : QW P Rel ds e w F i done ((deps, none, d, m) :: r) :=
  ⟨.rel js R, ⟨hj, hm⟩, fun vs W h1 h2 => hv vs W h1 h2, h⟩
theorem qw_end {tl : List Ins} (h : ∀ vs W, Rel w W → factsA W vs done → Exec P n c D (tl ++ is) k (outA done vs 0 ds ++ e) W) : QW P Rel ds e w (FinQA P n c D is k Rel ds e w tl) i done [] := h
/-- a store, said as an operation -/
theorem ok_store {N B o : Nat} {x y : Operand} {v : Value} {cs : List Value} (hx : e.ev x = some (.pointer (some ⟨B, o, none⟩))) (hy : e.ev y = some v) (hB : Blk w B cs) (hl : v.cells.size = N) (hle : o + N ≤ cs.length) (hv : v.cells.toList.all cellValue = true) :
    OpOK P (.store N x y) e w fun _ W => Upd [B] w W ∧ W.heap.size = w.heap.size ∧ Blk W B (splice cs o v.cells.toList) := by
  intro a hk rd d next Q hn
  obtain ⟨w', hr, hu, hs, hb'⟩ := storeCells_run (P := P) (o := o) v.cells.toList 0 w cs hB (by simp [hl]; omega) hv
  have : ((MOp.store N x y).sem a.eval).run P w = .ok .skip w' := by
    simp [MOp.sem, Env.ok_ev hk hx, Env.ok_ev hk hy, Instr.sureAddr, hl, hr]
  rw [this]
  rw [Oper.uponIn_skip]
  exact hn undef w' ⟨hu, hs, hb'⟩
end
end Go.Sp
