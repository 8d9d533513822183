/- spinneylaw14.ForestKnown returns true for every input, and its arguments read afterwards as before: the card. No condition. This text: part 6 of 10. -/
import Derived.Test.YtgkfgclebdikgaaGreatDoorW5
set_option linter.unusedVariables false
set_option linter.unusedSimpArgs false
set_option linter.unusedSectionVars false
namespace Go.Sp
theorem otr_ptr {w : World} {v : Value} {t : Option (Tr Hash)} (h : OTr w v t) : ∃ p, v = .pointer p := by
  cases t with
  | none => exact ⟨none, h⟩
  | some t => obtain ⟨b, _, _, _, rfl, _⟩ := TrAt.node h; exact ⟨_, rfl⟩
/-- the functions of forest, on -/
structure ForI (P : Program) extends ForH P where
  grown : Nat
  TGH : Nat
  TGN : Nat
  TGT : Nat
  h_grown : Has P grown (b_forest_grown joined TGH TGN TGT)
theorem growT_step {a : List (TT Hash)} {l t : TT Hash} (h : l.2.2 = t.2.2) : growT parH (l :: a) t = growT parH a (joinT parH l.1 t.1 t.2.1, l.2.1, t.2.2 + 1) := by rw [growT, if_pos h]
theorem growT_stop {a : List (TT Hash)} {l t : TT Hash} (h : ¬ l.2.2 = t.2.2) : growT parH (l :: a) t = t :: l :: a := by rw [growT, if_neg h]
theorem take_rev {α : Type} {ts : List α} {k : Nat} {t : α} (h : ts[k]? = some t) : (ts.take (k + 1)).reverse = t :: (ts.take k).reverse := by
  rw [List.take_add_one, h]; simp
theorem blk_inj {w : World} {b : Nat} {cs cs' : List Value} (h : Blk w b cs) (h' : Blk w b cs') : cs = cs' := by
  obtain ⟨T1, h1⟩ := h
  obtain ⟨T2, h2⟩ := h'
  rw [h1] at h2
  have := congrArg (fun o => match o with | some (Obj.cells c _ _) => c.toList | _ => []) h2
  simpa using this
theorem NoNode.of {w : World} {b : Nat} {cs : List Value} (h : Blk w b cs) (hl : cs.length ≠ 35) : NoNode w [b] := by
  intro b' hb' cs' hcs'
  have : b' = b := by simpa using hb'
  subst this
  rw [blk_inj hcs' h]; exact fun hn => hl hn.1
theorem OwnC.nonode {w : World} {v : Value} {len : Nat} {cs : List Value} (h : OwnC w v 3 len cs) : NoNode w (blkOf v) := by
  rcases h with ⟨rfl, _⟩ | ⟨b, cap, rest, rfl, hB, _, hl, _⟩
  · exact NoNode.nil w
  · exact NoNode.of hB (by rw [hl]; omega)
section
variable {P : Program} {f : Nat} {w : World}
set_option maxHeartbeats 800000 in
theorem grown_ok (A : ForI P) (hT : Tabs A.toShaF w) {sv : Value} {ts : List (TT Hash)} (hd : Hash) (num : Nat) (h : TreesOwn w sv ts) (hl : ts.length < 64) (hnum : num < 2 ^ 62) (hb : ∀ t ∈ ts, t.2.1 < 2 ^ 62 ∧ t.2.2 < 62) :
    Ret P A.grown [sv, hV hd, u64V num] w fun v w' => TreesOwn w' v (growT parH ts.reverse (some (.leaf hd), num, 0)).reverse ∧ Upd (blkOf sv) w w' ∧ ∀ b ∈ blkOf v, b ∈ blkOf sv ∨ w.heap.size ≤ b := by
  obtain ⟨vs, hR, hO⟩ := h
  have hlen := hR.len
  refine Ret.of_exec A.h_grown (Nat.le_of_ble_eq_true rfl) fun c hc => ?_
  dsimp only [b_forest_grown, argEnv, ym, yo, yg, ys, yt, yd, ye]
  refine exec_box rfl rfl ?_
  intro b4 w1 hb4 hs1 hu1 hB4
  rw [hV_cells] at hB4
  refine xr 1 rfl ?_
  refine exec_loadN (b := b4) (o := 0) (vs := hC hd) rfl rfl hB4.memAll (hC_length hd) ?_
  refine xju (ok_mkL (l := [(0, 32, hV hd)]) (cs := hC hd ++ [.pointer none, .pointer none, u64V 0]) rfl (leaf_fill hd)) rfl ?_
  refine exec_box rfl rfl ?_
  intro bn w2 hbn hs2 hu2 hBn
  have hBn' : Blk w2 bn (hC hd ++ [.pointer none, .pointer none, u64V 0]) := by simpa [Value.cells] using hBn
  refine xr 1 rfl ?_
  refine xju (ok_mkL (l := [(0, 1, ptrV bn), (1, 1, u64V num)]) (cs := [ptrV bn, u64V num, intV' 0]) rfl rfl) rfl ?_
  refine exec_new_store (v := .agg #[ptrV bn, u64V num, intV' 0]) rfl rfl rfl rfl rfl rfl ?_
  intro b7 w3 hb7 hs3 hu3 hB7
  have hB7' : Blk w3 b7 [ptrV bn, u64V num, intV' 0] := hB7
  have hE3 : Ext w w3 := (hu1.trans hu2).trans hu3
  have hlf : OTr w3 (ptrV bn) (some (.leaf hd)) := ⟨bn, rfl, hBn'.upd hu3⟩
  refine xr 1 rfl ?_
  refine exec_inner_join (S := Nat × TT Hash × Value × Value) (fun s W => s.1 ≤ ts.length ∧ growT parH ts.reverse (some (.leaf hd), num, 0) = s.2.1 :: (ts.take s.1).reverse ∧ Blk W b7 [s.2.2.1, u64V s.2.1.2.1, intV' s.2.1.2.2] ∧ OTr W s.2.2.1 s.2.1.1 ∧ OwnC W s.2.2.2 3 s.1 (cellsT (vs.take s.1) (ts.take s.1)) ∧ Ext w W ∧ blkOf s.2.2.2 = blkOf sv)
    (fun s => [(0, s.2.2.2), (7, ptrV b7)]) ?_ ?_
  · refine xlo (S := Nat × TT Hash × Value × Value) (fun s W => s.1 ≤ ts.length ∧ growT parH (ts.take s.1).reverse s.2.1 = growT parH ts.reverse (some (.leaf hd), num, 0) ∧ s.2.1.2.1 < 2 ^ 62 ∧ s.2.1.2.2 < 63 ∧ Blk W b7 [s.2.2.1, u64V s.2.1.2.1, intV' s.2.1.2.2] ∧ OTr W s.2.2.1 s.2.1.1 ∧ OwnC W s.2.2.2 3 s.1 (cellsT (vs.take s.1) (ts.take s.1)) ∧ Ext w W ∧ blkOf s.2.2.2 = blkOf sv)
      (fun s => [(0, s.2.2.2), (7, ptrV b7)]) (fun s => s.1) (ts.length, (some (.leaf hd), num, 0), ptrV bn, sv)
      ⟨Nat.le_refl _, by simp, hnum, by show 0 < 63; omega, hB7', hlf, ?_, hE3, rfl⟩ ⟨rfl, rfl, trivial⟩ ?_
    · show OwnC w3 sv 3 ts.length (cellsT (vs.take ts.length) (ts.take ts.length))
      rw [List.take_length, ← hlen, List.take_length, hlen]; exact hO.upd hE3 (by simp)
    rintro ⟨k, t, tv, v⟩ W ⟨k1, kE, kf, kh, kB, kO, kS, kU, kb⟩
    simp only at k1 kE kf kh kB kO kS kb
    have zW := kU.size
    obtain ⟨p7, rfl⟩ := otr_ptr kO
    by_cases hk0 : k = 0
    · subst hk0
      have hv0 : ∃ a c', v = .slice a 0 c' := by
        rcases kS with ⟨rfl, _⟩ | ⟨b, cap, rest, rfl, _⟩ <;> exact ⟨_, _, rfl⟩
      obtain ⟨a, c', rfl⟩ := hv0
      refine exec_dwr rfl rfl rfl ?_
      repeat (first | refine wtm rfl rfl rfl ?_ | refine wgt rfl rfl rfl rfl ?_ | refine wgs rfl rfl ?_)
      refine ws_val rfl (pv_gtrI (a := 0) (b := 0) (q := false) rfl rfl rfl) ?_
      repeat (first | refine wtm rfl rfl rfl ?_ | refine wgt rfl rfl rfl rfl ?_ | refine wgs rfl rfl ?_)
      refine ws_fin fun W1 hw1 => ?_
      refine xr 4 rfl ?_
      refine exec_meet (0, t, .pointer p7, .slice a 0 c') ⟨Nat.zero_le _, ?_, kB.upd hw1, kO.ext hw1, kS.upd hw1 (by simp), kU.trans hw1, kb⟩ ⟨rfl, rfl, trivial⟩
      rw [← kE]; rfl
    obtain ⟨k, rfl⟩ : ∃ j, k = j + 1 := ⟨k - 1, by omega⟩
    obtain ⟨l, hl'⟩ : ∃ l, ts[k]? = some l := ⟨_, List.getElem?_eq_getElem (by omega)⟩
    obtain ⟨u, hu⟩ : ∃ u, vs[k]? = some u := ⟨_, List.getElem?_eq_getElem (by omega)⟩
    obtain ⟨hlf1, hlh⟩ := hb l (List.mem_of_getElem? hl')
    obtain ⟨g0, g1, g2⟩ := cellsT_get (vs.take (k + 1)) (ts.take (k + 1)) k u l (by rw [List.getElem?_take, if_pos (by omega)]; exact hu) (by rw [List.getElem?_take, if_pos (by omega)]; exact hl')
    have hOu := (hR.at' k u l hu hl').ext kU
    obtain ⟨pu, rfl⟩ := otr_ptr hOu
    rw [take_rev hl'] at kE
    have kS0 := kS
    rcases kS with ⟨_, h0, _⟩ | ⟨b, cap, rest, rfl, hBl, ho1, ho2, ho3⟩
    · omega
    have hM3 : Mem W b (0 + k * 3) [.pointer pu, u64V l.2.1, intV' l.2.2] := hBl.memPre.sub (k * 3) (us := [.pointer pu, u64V l.2.1, intV' l.2.2]) (fun j x hj => by
      match j, hj with
      | 0, hj => cases hj; exact g0
      | 1, hj => cases hj; exact g1
      | 2, hj => cases hj; exact g2)
    refine exec_dwr rfl rfl rfl ?_
    repeat (first | refine wtm rfl rfl rfl ?_ | refine wgt rfl rfl rfl rfl ?_ | refine wgs rfl rfl ?_)
    refine ws_val rfl (pv_gtrI (a := k + 1) (b := 0) (q := true) rfl rfl (by simp)) ?_
    repeat (first | refine wtm rfl rfl rfl ?_ | refine wgt rfl rfl rfl rfl ?_ | refine wgs rfl rfl ?_)
    refine ws_gval rfl rfl (pv_subI (a := k + 1) (b := 1) rfl rfl (by omega) (by omega)) ?_
    refine ws_gkeep _ rfl rfl (fun X hx => ok_iaddr (N := 3) (b := b) (o := 0) (len := k + 1) (cap := cap) rfl rfl k rfl (by omega)) ?_
    repeat (first | refine wtm rfl rfl rfl ?_ | refine wgt rfl rfl rfl rfl ?_ | refine wgs rfl rfl ?_)
    refine ws_gkeep (intV' l.2.2) rfl rfl (fun X hx => ok_load1 (b := b) (o := 0 + k * 3 + 2) rfl ((hM3.upd hx) 2 _ rfl)) ?_
    repeat (first | refine wtm rfl rfl rfl ?_ | refine wgt rfl rfl rfl rfl ?_ | refine wgs rfl rfl ?_)
    refine ws_gkeep (intV' t.2.2) rfl rfl (fun X hx => ok_load1 (b := b7) (o := 0 + 2) rfl ((kB.upd hx).cell rfl)) ?_
    refine ws_fin fun W1 hw1 => ?_
    refine xr 1 rfl ?_
    by_cases hlt : l.2.2 = t.2.2
    · refine xpu (pv_eqlI (a := l.2.2) (b := t.2.2) (q := true) rfl rfl (by simpa using hlt)) rfl ?_
      refine xr 7 rfl ?_
      refine xpu (pv_subI (a := k + 1) (b := 1) rfl rfl (by omega) (by omega)) rfl ?_
      refine xju (ok_iaddr (N := 3) (b := b) (o := 0) (len := k + 1) (cap := cap) rfl rfl k rfl (by omega)) rfl ?_
      refine exec_loadN (b := b) (o := 0 + k * 3) (vs := [.pointer pu, u64V l.2.1, intV' l.2.2]) rfl rfl (hM3.upd hw1) rfl ?_
      refine exec_new_store (v := .agg #[.pointer pu, u64V l.2.1, intV' l.2.2]) rfl rfl rfl rfl rfl rfl ?_
      intro b8 W2 hb8 hs8 hw2 hB8
      have hB8' : Blk W2 b8 [.pointer pu, u64V l.2.1, intV' l.2.2] := hB8
      refine xr 3 rfl ?_
      refine xpu (pv_subI (a := k + 1) (b := 1) rfl rfl (by omega) (by omega)) rfl ?_
      refine xju (ok_slS (N := 3) (b := b) (o := 0) (len := k + 1) (cap := cap) (lo := none) (hi := some (.tmp 38)) 0 k rfl rfl ⟨.i64, rfl⟩ (by omega) (by omega)) rfl ?_
      rw [show (if cap = 0 then (⟨b, 0, none⟩ : Addr) else ⟨b, 0 + 0 * 3, none⟩) = ⟨b, 0, none⟩ from by split <;> rfl]
      refine xr 1 rfl ?_
      have hW12 := hw1.trans hw2
      have kB2 := kB.upd hW12
      refine xen [(0, .slice (some ⟨b, 0, none⟩) k cap), (7, ptrV b7), (8, ptrV b8)] ⟨rfl, rfl, rfl, trivial⟩ ?_
      refine exec_dw [] rfl rfl rfl ?_
      repeat (first | refine dau rfl (fun _ => rfl) ?_ | refine dga rfl (fun _ => rfl) (fun _ => rfl) ?_ | refine dgs (fun _ => rfl) ?_)
      refine dw_keep (.pointer pu) (fun vs' X hx _ => ok_load1 (b := b8) (o := 0 + 0) rfl ((hB8'.upd hx).cell rfl)) ?_
      repeat (first | refine dau rfl (fun _ => rfl) ?_ | refine dga rfl (fun _ => rfl) (fun _ => rfl) ?_ | refine dgs (fun _ => rfl) ?_)
      refine dw_keep (.pointer p7) (fun vs' X hx _ => ok_load1 (b := b7) (o := 0 + 0) rfl ((kB2.upd hx).cell rfl)) ?_
      repeat (first | refine dau rfl (fun _ => rfl) ?_ | refine dga rfl (fun _ => rfl) (fun _ => rfl) ?_ | refine dgs (fun _ => rfl) ?_)
      refine dw_keep (u64V t.2.1) (fun vs' X hx _ => ok_load1 (b := b7) (o := 0 + 1) rfl ((kB2.upd hx).cell rfl)) ?_
      refine dw_rel [] (fun X _ r => OTr X r (joinT parH l.1 t.1 t.2.1)) rfl (fun X X' xs r _ hx h => h.ext hx) ?_ ?_
      · intro vs' X hx _
        refine (ok_call rfl (joined_ok A.toForF (hT.upd ((kU.trans hW12).trans hx)) t.2.1 kf (hOu.ext (hW12.trans hx)) (kO.ext (hW12.trans hx)))).mono ?_
        rintro r X' ⟨h1, h2⟩
        exact ⟨h2, h1⟩
      repeat (first | refine dau rfl (fun _ => rfl) ?_ | refine dga rfl (fun _ => rfl) (fun _ => rfl) ?_ | refine dgs (fun _ => rfl) ?_)
      refine dw_keep (u64V l.2.1) (fun vs' X hx _ => ok_load1 (b := b8) (o := 0 + 1) rfl ((hB8'.upd hx).cell rfl)) ?_
      repeat (first | refine dau rfl (fun _ => rfl) ?_ | refine dga rfl (fun _ => rfl) (fun _ => rfl) ?_ | refine dgs (fun _ => rfl) ?_)
      refine dw_keep (intV' t.2.2) (fun vs' X hx _ => ok_load1 (b := b7) (o := 0 + 2) rfl ((kB2.upd hx).cell rfl)) ?_
      refine dw_val (fun _ => pv_addI (a := t.2.2) (b := 1) rfl rfl (by omega)) ?_
      refine dw_end fun vs' W3 hw3 hf => ?_
      obtain ⟨hr6, _⟩ := hf
      obtain ⟨pr, hpr⟩ := otr_ptr hr6
      have hr6' : OTr W3 (.pointer pr) (joinT parH l.1 t.1 t.2.1) := by rw [← hpr]; exact hr6
      refine xen [(46, .pointer pr), (48, u64V l.2.1), (51, intV' (t.2.2 + 1)), (0, .slice (some ⟨b, 0, none⟩) k cap), (7, ptrV b7)] ⟨by show some (vs' 6) = _; rw [hpr], rfl, rfl, rfl, rfl, trivial⟩ ?_
      refine xju (ok_mkL (l := [(0, 1, .pointer pr), (1, 1, u64V l.2.1), (2, 1, intV' (t.2.2 + 1))]) (cs := [.pointer pr, u64V l.2.1, intV' (t.2.2 + 1)]) rfl rfl) rfl ?_
      have kB3 := kB2.upd hw3
      refine exec_store (b := b7) (o := 0) (v := .agg #[.pointer pr, u64V l.2.1, intV' (t.2.2 + 1)]) rfl rfl kB3 rfl (by simp) rfl ?_
      intro W4 hw4 _ hB7n
      have hB7n' : Blk W4 b7 [.pointer pr, u64V l.2.1, intV' (t.2.2 + 1)] := hB7n
      refine xr 2 rfl ?_
      have hno : NoNode W3 [b7] := NoNode.of kB3 (by simp)
      have hU4 : Ext w W4 := ((kU.trans hW12).trans hw3).trans hw4 (fun b hb => .inr (by simp at hb; omega))
      refine xag (k, (joinT parH l.1 t.1 t.2.1, l.2.1, t.2.2 + 1), .pointer pr, .slice (some ⟨b, 0, none⟩) k cap) ⟨by show k ≤ ts.length; omega, ?_, hlf1, by show t.2.2 + 1 < 63; omega, hB7n', hr6'.upd hw4 hno, ?_, hU4, ?_⟩ (by show k < k + 1; omega) ⟨rfl, rfl, trivial⟩
      · rw [← kE, growT_step hlt]
      · have h1 := OwnC.take (v := sv) kS0 k (by omega)
        rw [cellsT_take _ _ k (by simp [hlen]), List.take_take, List.take_take, Nat.min_eq_left (by omega)] at h1
        have hbw : b < w.heap.size := hO.lt b (by rw [← kb]; simp [blkOf])
        exact ((h1.upd hW12 (by simp)).upd hw3 (by simp)).upd hw4 (by simp [blkOf]; omega)
      · rw [← kb]; rfl
    · refine xpu (pv_eqlI (a := l.2.2) (b := t.2.2) (q := false) rfl rfl (by simpa using hlt)) rfl ?_
      refine xr 3 rfl ?_
      refine exec_meet (k + 1, t, .pointer p7, .slice (some ⟨b, 0, none⟩) (k + 1) cap) ⟨k1, ?_, kB.upd hw1, kO.ext hw1, kS0.upd hw1 (by simp), kU.trans hw1, kb⟩ ⟨rfl, rfl, trivial⟩
      rw [← kE, growT_stop hlt, take_rev hl']
  rintro ⟨k, t, tv, v⟩ W ⟨k1, kE, kB, kO, kS, kU, kb⟩
  simp only at k1 kE kB kO kS kb
  obtain ⟨p7, rfl⟩ := otr_ptr kO
  refine xr 1 rfl ?_
  refine exec_loadN (b := b7) (o := 0) (vs := [.pointer p7, u64V t.2.1, intV' t.2.2]) rfl rfl kB.memAll rfl ?_
  refine exec_litL (N := 3) (cs := [.pointer p7, u64V t.2.1, intV' t.2.2]) rfl rfl rfl rfl ?_
  intro bl W1 hbl hsl hw1 hOl
  refine exec_ok (ok_append (N := 3) rfl rfl (kS.upd hw1 (by simp)) hOl.sl rfl (by decide) (by omega) rfl) rfl ?_
  rintro v2 W2 ⟨hO2, hw2, hf2, _⟩
  refine xr 1 rfl ?_
  have zU := kU.size
  refine xre hc [_] ⟨rfl, trivial⟩ ⟨⟨vs.take k ++ [.pointer p7], ?_, ?_⟩, ?_, ?_⟩
  · rw [kE, List.reverse_cons, List.reverse_reverse]
    refine ⟨by simp [hlen], ?_⟩
    have hnn := (kS.upd hw1 (by simp)).nonode
    intro i v' t' h1 h2
    have hk' : (vs.take k).length = k := by simp; omega
    have hk2 : (ts.take k).length = k := by simp; omega
    rcases Nat.lt_or_ge i k with hik | hik
    · rw [List.getElem?_append_left (by omega), List.getElem?_take, if_pos hik] at h1 h2
      exact (((hR.at' i v' t' h1 h2).ext kU).ext hw1).upd hw2 hnn
    · rw [List.getElem?_append_right (by omega)] at h1 h2
      rw [hk'] at h1
      rw [hk2] at h2
      have : i - k = 0 := by
        have := (List.getElem?_eq_some_iff.1 h1).1
        simp at this; omega
      rw [this] at h1 h2
      cases h1; cases h2
      exact (kO.ext hw1).upd hw2 hnn
  · rw [kE, List.reverse_cons, List.reverse_reverse, cellsT_append _ _ _ _ (by simp [hlen])]
    have e1 : (ts.take k ++ [t]).length = k + 1 := by simp; omega
    rw [e1]
    exact hO2
  · exact ((kU.trans hw1).mono (m := blkOf sv) (by simp)).trans hw2 (fun b hb => .inl (by rw [← kb]; exact hb))
  · intro b hb
    rcases hf2 b hb with h | h
    · left; rw [← kb]; exact h
    · right; have := hw1.size; omega
end
end Go.Sp

namespace Go.Sp
/-- a forest: all leaves that came, those that went as none; which Modify was the last one, how many there were -/
structure Fo where
  L : List (Option Hash)
  turn : Nat
  turns : Nat
def lv (L : List (Option Hash)) (i : Nat) : Option Hash := L[i]?.join
def WhereOK (wl : List (Hash × Nat)) (L : List (Option Hash)) : Prop := ∀ h i, aget h wl = some i ↔ L[i]? = some (some h)
/-- the cells of hashes -/
def hs (l : List Hash) : List Value := l.flatMap hC
theorem hs_len (l : List Hash) : (hs l).length = l.length * 32 := by
  induction l with
  | nil => rfl
  | cons h l ih => simp only [hs, List.flatMap_cons, List.length_append, hC_length, List.length_cons] at ih ⊢; omega
theorem hs_get : ∀ (l : List Hash) (i j : Nat) (h : Hash) (v : Value), l[i]? = some h → (hC h)[j]? = some v → (hs l)[i * 32 + j]? = some v := by
  intro l
  induction l with
  | nil => intro i j h v hi; simp at hi
  | cons a l ih =>
    intro i j h v hi hj
    have hjl : j < 32 := by have := (List.getElem?_eq_some_iff.1 hj).1; rw [hC_length] at this; exact this
    simp only [hs, List.flatMap_cons]
    cases i with
    | zero => simp at hi; subst hi; rw [Nat.zero_mul, Nat.zero_add, List.getElem?_append_left (by rw [hC_length]; exact hjl)]; exact hj
    | succ i =>
      rw [List.getElem?_append_right (by rw [hC_length]; omega), hC_length, show (i + 1) * 32 + j - 32 = i * 32 + j by omega]
      exact ih i j h v (by simpa using hi) hj
theorem hs_ok (l : List Hash) : (hs l).all cellValue = true := by
  rw [List.all_eq_true]
  intro v hv
  simp only [hs, List.mem_flatMap] at hv
  obtain ⟨h, _, hv⟩ := hv
  exact List.all_eq_true.1 (hC_cell h) v hv
theorem hs_append (a b : List Hash) : hs (a ++ b) = hs a ++ hs b := by simp [hs]
/-- an element of a list of hashes -/
theorem hs_at {w : World} {v : Value} {l : List Hash} {i : Nat} {h : Hash} (hS : SlC w v 32 l.length (hs l)) (hi : l[i]? = some h) : ∃ b o cap, v = .slice (some ⟨b, o, none⟩) l.length cap ∧ i < l.length ∧ Mem w b (o + i * 32) (hC h) := by
  have hlt := (List.getElem?_eq_some_iff.1 hi).1
  obtain ⟨b, o, cap, hv, hm, _⟩ := hS.at (by omega)
  exact ⟨b, o, cap, hv, hlt, hm.sub (i * 32) fun j x hj => hs_get l i j h x hi hj⟩
/-- a forest's list of trees -/
structure TreesF (w : World) (sv : Value) (ts : List (TT Hash)) : Prop where
  own : TreesOwn w sv ts
  nil : ts = [] → sv = .slice none 0 0
/-- where a forest lies: its block, its map -/
structure FAt (w : World) (p m : Nat) (s : Fo) : Prop where
  ex : ∃ tv wl, Blk w p [u64V s.L.length, tv, .map (some m), intV' s.turn, intV' s.turns] ∧ TreesF w tv (treesT parH (lv s.L) s.L.length) ∧ MapAt w m hV u64V wl ∧ WhereOK wl s.L
  len : s.L.length < 2 ^ 40
  turns : s.turns < 2 ^ 40 ∧ s.turn < 2 ^ 40
/-- a block that is neither a node nor a list of trees, by its cells -/
def Strange (cs : List Value) : Prop := ¬ (cs.length = 35 ∧ ∃ n, cs[0]? = some (.int .u8 n)) ∧ ¬ ((∃ a, cs[0]? = some (.pointer a)) ∧ ∃ n, cs[1]? = some (.int .u64 n))
/-- these blocks are neither nodes nor lists of trees -/
def Foreign (w : World) (l : List Nat) : Prop := ∀ b ∈ l, ∀ cs, Blk w b cs → Strange cs
theorem Foreign.nil (w : World) : Foreign w [] := fun b hb => by simp at hb
theorem Foreign.noNode {w : World} {l : List Nat} (h : Foreign w l) : NoNode w l := fun b hb cs hc => (h b hb cs hc).1
theorem Foreign.cons {w : World} {b : Nat} {l : List Nat} (h1 : ∀ cs, Blk w b cs → Strange cs) (h : Foreign w l) : Foreign w (b :: l) := fun b' hb' cs hc => by
  rcases List.mem_cons.1 hb' with rfl | hb'
  · exact h1 cs hc
  · exact h b' hb' cs hc
theorem Foreign.blk {w : World} {b : Nat} {cs : List Value} (hB : Blk w b cs) (h1 : Strange cs) : ∀ cs', Blk w b cs' → Strange cs' := fun cs' h => by rw [blk_inj h hB]; exact h1
theorem Foreign.map {w : World} {r : Nat} {α β : Type} {enc : α → Value} {encV : β → Value} {l : List (α × β)} (hm : MapAt w r enc encV l) : ∀ cs', Blk w r cs' → Strange cs' := fun cs' h => by
  obtain ⟨es, clock, h1, _⟩ := hm
  obtain ⟨T, h2⟩ := h
  rw [h1] at h2; cases h2
/-- the first cell tells -/
theorem Strange.head {v : Value} {cs : List Value} (h1 : ∀ n, v ≠ .int .u8 n) (h2 : ∀ a, v ≠ .pointer a) : Strange (v :: cs) :=
  ⟨fun ⟨_, n, h⟩ => h1 n (Option.some.inj h), fun ⟨⟨a, h⟩, _⟩ => h2 a (Option.some.inj h)⟩
theorem Strange.two {v v' : Value} {cs : List Value} (h1 : ∀ n, v ≠ .int .u8 n) (h2 : ∀ n, v' ≠ .int .u64 n) : Strange (v :: v' :: cs) :=
  ⟨fun ⟨_, n, h⟩ => h1 n (Option.some.inj h), fun ⟨_, n, h⟩ => h2 n (Option.some.inj h)⟩
theorem TreesOwn.updB {l : List Nat} {w w' : World} {sv : Value} {ts : List (TT Hash)} (h : TreesOwn w sv ts) (hu : Upd l w w') (hl : NoNode w l) (hb : ∀ b ∈ blkOf sv, b ∉ l) : TreesOwn w' sv ts := by
  obtain ⟨vs, h1, h2⟩ := h
  exact ⟨vs, h1.upd hu hl, h2.upd hu hb⟩
theorem TreesF.upd {l : List Nat} {w w' : World} {sv : Value} {ts : List (TT Hash)} (h : TreesF w sv ts) (hu : Upd l w w') (hl : Foreign w l) : TreesF w' sv ts := by
  obtain ⟨⟨vs, h1, h2⟩, h3⟩ := h
  refine ⟨⟨vs, h1.upd hu hl.noNode, h2.upd hu fun b hb hm => ?_⟩, h3⟩
  cases ts with
  | nil => rw [h3 rfl] at hb; simp [blkOf] at hb
  | cons t ts =>
    have hR := h1
    rcases h2 with ⟨rfl, _⟩ | ⟨b', cap, rest, rfl, hB, _, hl2, _⟩
    · simp [blkOf] at hb
    · have : b = b' := by simpa [blkOf] using hb
      subst this
      cases vs with
      | nil => have := hR.len; simp at this
      | cons v vs =>
        obtain ⟨a, rfl⟩ := otr_ptr (hR.at' 0 v t rfl rfl)
        exact (hl b hm _ hB).2 ⟨⟨a, rfl⟩, _, rfl⟩
theorem TreesF.ext {w w' : World} {sv : Value} {ts : List (TT Hash)} (h : TreesF w sv ts) (hu : Ext w w') : TreesF w' sv ts := h.upd hu (Foreign.nil w)
theorem FAt.upd {l : List Nat} {w w' : World} {p m : Nat} {s : Fo} (h : FAt w p m s) (hu : Upd l w w') (hl : Foreign w l) (hp : p ∉ l) (hm : m ∉ l) : FAt w' p m s := by
  obtain ⟨⟨tv, wl, h1, h2, h3, h4⟩, h5, h6⟩ := h
  exact ⟨⟨tv, wl, h1.upd hu hp, h2.upd hu hl, h3.upd hu hm, h4⟩, h5, h6⟩
theorem FAt.ext {w w' : World} {p m : Nat} {s : Fo} (h : FAt w p m s) (hu : Ext w w') : FAt w' p m s := h.upd hu (Foreign.nil w) (by simp) (by simp)
theorem FAt.foreign {w : World} {p m : Nat} {s : Fo} (h : FAt w p m s) : Foreign w [p, m] := by
  obtain ⟨⟨tv, wl, h1, h2, h3, h4⟩, _⟩ := h
  exact Foreign.cons (Foreign.blk h1 (Strange.head (by simp [u64V]) (by simp [u64V]))) (Foreign.cons (Foreign.map h3) (Foreign.nil w))
theorem FAt.ne {w : World} {p m : Nat} {s : Fo} (h : FAt w p m s) : p ≠ m := by
  obtain ⟨⟨tv, wl, h1, h2, ⟨es, clock, h3, _⟩, h4⟩, _⟩ := h
  intro he
  subst he
  obtain ⟨T, h1⟩ := h1
  rw [h3] at h1; cases h1
theorem FAt.lt {w : World} {p m : Nat} {s : Fo} (h : FAt w p m s) : p < w.heap.size ∧ m < w.heap.size := by
  obtain ⟨⟨tv, wl, h1, h2, h3, h4⟩, _⟩ := h
  exact ⟨h1.lt, h3.lt⟩
/-- the functions of forest, on -/
structure ForJ (P : Program) extends ForI P where
  is' : Nat
  going : Nat
  coming : Nat
  TPF : Nat
  TPE : Nat
  TMp : Nat
  TMK : Nat
  TME : Nat
  TH : Nat
  h_is : Has P is' (b_Pforest_Forest_is TPF TMp)
  h_TPF : P.underlying TPF = some (.pointer TPE)
  h_TMp : P.underlying TMp = some (.map TMK TME)
  h_going : Has P going (b_Pforest_Forest_going TH)
  h_coming : Has P coming (b_Pforest_Forest_coming TH)
  h_TH : TyBytes P TH 32
section
variable {P : Program} {f : Nat} {w : World}
theorem is_ok (A : ForJ P) {p m : Nat} {s : Fo} (h : FAt w p m s) : RetV P A.is' [ptrV p] w (.bool true) := by
  obtain ⟨⟨tv, wl, h1, _⟩, _⟩ := h
  refine Ret.of_exec A.h_is (Nat.le_of_ble_eq_true rfl) fun c hc => ?_
  dsimp only [b_Pforest_Forest_is, argEnv, ym, yo, yg, ys, yt, yd, ye]
  refine xr 2 rfl ?_
  refine xju (ok_ne_nil A.h_TPF rfl rfl) rfl ?_
  refine xr 8 rfl ?_
  refine exec_load1 (b := p) (o := 0 + 2) rfl rfl (h1.cell rfl) ?_
  refine xgr rfl ?_
  refine xju (ok_ne_nilmap A.h_TMp rfl rfl) rfl ?_
  refine xr 2 rfl ?_
  exact xre hc [_] ⟨rfl, trivial⟩ ⟨rfl, Upd.refl _ _⟩
theorem ok_look {T r : Nat} {e : Env} {x y : Operand} {h : Hash} {wl : List (Hash × Nat)} {o : Option Nat} (hT : TyBytes P T 32) (hx : e.ev x = some (.map (some r))) (hy : e.ev y = some (hV h)) (hm : MapAt w r hV u64V wl) (ho : aget h wl = o) :
    OpOK P (.lookup T (.int .u64 0) x y true) e w (Just (.tuple #[u64V (o.getD 0), .bool o.isSome]) w) := by
  have := ok_lookup (z := .int .u64 0) (ok := true) (keyOK_hash hT) hx hy hm
  rw [ho] at this
  cases o with
  | none => exact this
  | some i => exact this
set_option maxHeartbeats 400000 in
theorem going_ok (A : ForJ P) {p m : Nat} {s : Fo} (h : FAt w p m s) {dv : Value} {del : List Hash} (hS : SlC w dv 32 del.length (hs del)) (hl : del.length < 2 ^ 40) :
    Ret P A.going [ptrV p, dv] w fun v w' => Ext w w' ∧ ((v = .tuple #[.map none, intV' 5] ∧ ∃ h ∈ del, some h ∉ s.L) ∨ (v = .tuple #[.map none, intV' 24] ∧ (∀ h ∈ del, some h ∈ s.L) ∧ ¬ del.Nodup) ∨
      ∃ r gl, v = .tuple #[.map (some r), intV' 0] ∧ w.heap.size ≤ r ∧ MapAt w' r hV u64V gl ∧ (∀ h i, aget h gl = some i ↔ h ∈ del ∧ s.L[i]? = some (some h)) ∧ gl.length ≤ del.length ∧ (∀ h ∈ del, some h ∈ s.L) ∧ del.Nodup) := by
  have hF := h
  obtain ⟨⟨tv, wl, h1, h2, h3, h4⟩, _⟩ := h
  have hlive : ∀ h, (aget h wl).isSome = true ↔ some h ∈ s.L := by
    intro h
    constructor
    · intro hi
      obtain ⟨i, hi⟩ := Option.isSome_iff_exists.1 hi
      exact List.mem_of_getElem? ((h4 h i).1 hi)
    · intro hm
      obtain ⟨i, hi⟩ := List.getElem?_of_mem hm
      rw [(h4 h i).2 hi]; rfl
  refine Ret.of_exec A.h_going (Nat.le_of_ble_eq_true rfl) fun c hc => ?_
  dsimp only [b_Pforest_Forest_going, argEnv, ym, yo, yg, ys, yt, yd, ye]
  refine xr 2 rfl ?_
  refine exec_mkMap rfl ?_
  intro r w1 hr hs1 hu1 hM
  refine xtm rfl rfl rfl ?_
  refine xtm rfl rfl rfl ?_
  refine xtm rfl rfl rfl ?_
  refine xpu (hS.lenS rfl) rfl ?_
  refine xr 2 rfl ?_
  refine xlo (S := Nat × List (Hash × Nat) × Bool) (fun st W => st.1 ≤ del.length ∧ Ext w W ∧ MapAt W r hV u64V st.2.1 ∧ (∀ h i, aget h st.2.1 = some i ↔ h ∈ del.take st.1 ∧ s.L[i]? = some (some h)) ∧ st.2.1.length ≤ st.1 ∧ (∀ h ∈ del.take st.1, some h ∈ s.L) ∧ (st.2.2 = false ↔ (del.take st.1).Nodup))
    (fun st => [(0, ptrV p), (6, .map (some r)), (7, .bool st.2.2), (15, dv), (16, intV' del.length), (17, intV' st.1)]) (fun st => del.length - st.1) (0, [], false)
    ⟨Nat.zero_le _, hu1, MapAt.empty hM, by simp [aget], by simp, by simp, by simp⟩ ⟨rfl, rfl, rfl, rfl, rfl, rfl, trivial⟩ ?_
  rintro ⟨i, gl, db⟩ W ⟨i1, iU, iM, iG, iL, iA, iD⟩
  simp only at i1 iM iG iL iA iD
  skip
  by_cases hi : i < del.length
  · refine xpu (pv_lssI (a := i) (b := del.length) (q := true) rfl rfl (by simpa using hi)) rfl ?_
    refine xr 3 rfl ?_
    obtain ⟨hh, hhi⟩ : ∃ x, del[i]? = some x := ⟨_, List.getElem?_eq_getElem hi⟩
    have htk : del.take (i + 1) = del.take i ++ [hh] := by rw [List.take_add_one, hhi]; rfl
    obtain ⟨bd, od, cd, hdv, _, hmd⟩ := hs_at (hS.upd iU (by simp)) hhi
    refine xju (ok_iaddr (N := 32) (b := bd) (o := od) (len := del.length) (cap := cd) (by rw [← hdv]; rfl) rfl i rfl hi) rfl ?_
    refine exec_loadN (b := bd) (o := od + i * 32) (vs := hC hh) rfl rfl hmd (hC_length _) ?_
    refine exec_new_store (v := hV hh) rfl rfl rfl (hV_size hh) rfl (by rw [hV_cells]; exact hC_cell _) ?_
    intro b9 W1 hb9 hs9 hw1 hB9
    rw [hV_cells] at hB9
    have iU1 := iU.trans hw1
    refine xen [(0, ptrV p), (6, .map (some r)), (7, .bool db), (9, ptrV b9), (15, dv), (16, intV' del.length), (17, intV' i)] ⟨rfl, rfl, rfl, rfl, rfl, rfl, rfl, trivial⟩ ?_
    obtain ⟨o, ho⟩ : ∃ o, aget hh wl = o := ⟨_, rfl⟩
    have hlo := hlive hh
    rw [ho] at hlo
    refine exec_dwr rfl rfl rfl ?_
    repeat (first | refine wtm rfl rfl rfl ?_ | refine wgt rfl rfl rfl rfl ?_ | refine wgs rfl rfl ?_)
    refine ws_keep (.map (some m)) rfl (fun X hx => ok_load1 (b := p) (o := 0 + 2) rfl (((h1.upd iU1).upd hx).cell rfl)) ?_
    refine ws_keep (hV hh) rfl (fun X hx => ok_loadN (b := b9) (o := 0) rfl (hB9.upd hx).memAll (hC_length _)) ?_
    refine ws_keep _ rfl (fun X hx => ok_look A.h_TH rfl rfl ((h3.upd iU1).upd hx) ho) ?_
    repeat (first | refine wtm rfl rfl rfl ?_ | refine wgt rfl rfl rfl rfl ?_ | refine wgs rfl rfl ?_)
    refine ws_fin fun W2 hw2 => ?_
    refine xr 3 rfl ?_
    refine exec_cond rfl (fun hq => ?_) (fun hq => ?_)
    · simp only [Bool.not_eq_true'] at hq
      refine xr 2 rfl ?_
      refine xre hc [_, _] ⟨rfl, rfl, trivial⟩ ⟨iU1.trans hw2, .inl ⟨rfl, hh, List.mem_of_getElem? hhi, ?_⟩⟩
      intro hm
      rw [hlo.2 hm] at hq; cases hq
    · simp only [Bool.not_eq_false'] at hq
      obtain ⟨x, rfl⟩ := Option.isSome_iff_exists.1 hq
      have hLx := (h4 hh x).1 ho
      refine xr 2 rfl ?_
      refine xen [(0, ptrV p), (6, .map (some r)), (33, .map (some r)), (7, .bool db), (9, ptrV b9), (10, u64V x), (15, dv), (16, intV' del.length), (17, intV' i)] ⟨rfl, rfl, rfl, rfl, rfl, rfl, rfl, rfl, rfl, trivial⟩ ?_
      have iM2 := (iM.upd hw1).upd hw2
      refine exec_loadN (b := b9) (o := 0) (vs := hC hh) rfl rfl (hB9.upd hw2).memAll (hC_length _) ?_
      obtain ⟨o2, ho2⟩ : ∃ o, aget hh gl = o := ⟨_, rfl⟩
      refine xju (ok_look A.h_TH rfl rfl iM2 ho2) rfl ?_
      have hin : o2.isSome = true ↔ hh ∈ del.take i := by
        constructor
        · intro hi2
          obtain ⟨y, rfl⟩ := Option.isSome_iff_exists.1 hi2
          exact ((iG hh y).1 ho2).1
        · intro hi2
          have := (iG hh x).2 ⟨hi2, hLx⟩
          rw [← ho2, this]; rfl
      have next : ∀ (e : Env), Env.sub [(0, ptrV p), (6, .map (some r)), (42, .map (some r)), (7, .bool (db || o2.isSome)), (9, ptrV b9), (10, u64V x), (15, dv), (16, intV' del.length), (17, intV' i)] e →
          Exec P 48 c [] [.op none (some 43) (.loadN 32 (.tmp 9)),
          .op none (some 44) (.mov (.tmp 10)),
          .op none none (.mapUpd A.TH (.tmp 42) (.tmp 43) (.tmp 44))] (.blk 1 (.seq [.op none (some 45) (.ibin .add (.tmp 17) (.const (.int .i64 1))), .op none (some 17) (.mov (.tmp 45))] (.stop (Again 48 [] (fun (st : Nat × List (Hash × Nat) × Bool) W => st.1 ≤ del.length ∧ Ext w W ∧ MapAt W r hV u64V st.2.1 ∧ (∀ h i, aget h st.2.1 = some i ↔ h ∈ del.take st.1 ∧ s.L[i]? = some (some h)) ∧ st.2.1.length ≤ st.1 ∧ (∀ h ∈ del.take st.1, some h ∈ s.L) ∧ (st.2.2 = false ↔ (del.take st.1).Nodup))
            (fun st => [(0, ptrV p), (6, .map (some r)), (7, .bool st.2.2), (15, dv), (16, intV' del.length), (17, intV' st.1)]) (fun st => del.length - st.1) (i, gl, db)) (.blk 0 (.seq [.op none (some 46) (.mov (.tmp 7)),
    .cond (.tmp 46) [
      .op none (some 4) (.mov (.const (.map none))),
      .op none (some 5) (.mov (.const (.int .i64 24))),
      .ret] [],
    .op none (some 47) (.mov (.tmp 6)),
    .op none (some 4) (.mov (.tmp 47)),
    .op none (some 5) (.mov (.const (.int .i64 0))),
    .ret] .done))))) e W2 := by
        intro e he
        refine xen _ he ?_
        refine exec_loadN (b := b9) (o := 0) (vs := hC hh) rfl rfl (hB9.upd hw2).memAll (hC_length _) ?_
        refine xr 1 rfl ?_
        refine exec_mapUpd (a := hh) (b := x) (keyOK_hash A.h_TH) rfl rfl rfl iM2 ?_
        intro W3 hw3 _ hM3
        refine xr 2 rfl ?_
        refine xpu (pv_addI (a := i) (b := 1) rfl rfl (by omega)) rfl ?_
        refine xr 1 rfl ?_
        have hrW : w.heap.size ≤ r := by omega
        refine xag (i + 1, aset hh x gl, db || o2.isSome) ⟨hi, (iU1.trans hw2).trans hw3 (fun b hb => .inr (by simp at hb; omega)), hM3, ?_, ?_, ?_, ?_⟩ (by show del.length - (i + 1) < del.length - i; omega) ⟨rfl, rfl, rfl, rfl, rfl, rfl, trivial⟩
        · intro h j
          show aget h (aset hh x gl) = some j ↔ h ∈ del.take (i + 1) ∧ _
          rw [htk, aget_set, List.mem_append, List.mem_singleton]
          by_cases hhh : h = hh
          · subst hhh
            rw [if_pos rfl]
            constructor
            · intro hx; cases hx; exact ⟨.inr rfl, hLx⟩
            · rintro ⟨_, hj⟩
              have := (h4 h j).2 hj
              rw [ho] at this; exact this
          · rw [if_neg hhh, iG h j]
            constructor
            · rintro ⟨a, b⟩; exact ⟨.inl a, b⟩
            · rintro ⟨a | a, b⟩
              · exact ⟨a, b⟩
              · exact absurd a hhh
        · show (aset hh x gl).length ≤ i + 1
          cases hai : aidx hh gl with
          | none => rw [aset_new hai]; simp; omega
          | some k => rw [aset_some hai]; simp; omega
        · intro h hm
          rw [htk] at hm
          rcases List.mem_append.1 hm with hm | hm
          · exact iA h hm
          · have : h = hh := by simpa using hm
            subst this; exact List.mem_of_getElem? hLx
        · show (db || o2.isSome) = false ↔ (del.take (i + 1)).Nodup
          rw [Bool.or_eq_false_iff, iD, htk, List.nodup_append]
          constructor
          · rintro ⟨a, b⟩
            refine ⟨a, by simp, fun y hy z hz => ?_⟩
            have : z = hh := by simpa using hz
            subst this
            intro he
            subst he
            rw [hin.2 hy] at b; cases b
          · rintro ⟨a, _, b⟩
            refine ⟨a, ?_⟩
            cases hoo : o2.isSome with
            | false => rfl
            | true => exact absurd rfl (b hh (hin.1 hoo) hh (by simp))
      cases db with
      | true =>
        refine xr 11 rfl ?_
        exact next _ ⟨rfl, rfl, rfl, rfl, rfl, rfl, rfl, rfl, rfl, trivial⟩
      | false =>
        refine xr 12 rfl ?_
        exact next _ ⟨rfl, rfl, rfl, rfl, rfl, rfl, rfl, rfl, rfl, trivial⟩
  · refine xpu (pv_lssI (a := i) (b := del.length) (q := false) rfl rfl (by simpa using hi)) rfl ?_
    have : i = del.length := by omega
    subst this
    rw [List.take_length] at iG iA iD
    refine xr 4 rfl ?_
    refine exec_cond rfl (fun hq => ?_) (fun hq => ?_)
    · refine xr 2 rfl ?_
      refine xre hc [_, _] ⟨rfl, rfl, trivial⟩ ⟨iU, .inr (.inl ⟨rfl, iA, fun hn => ?_⟩)⟩
      rw [iD.2 hn] at hq; cases hq
    · refine xr 4 rfl ?_
      exact xre hc [_, _] ⟨rfl, rfl, trivial⟩ ⟨iU, .inr (.inr ⟨r, gl, rfl, by omega, iM, iG, iL, iA, iD.1 hq⟩)⟩
end
end Go.Sp

namespace Go.Sp
section
variable {P : Program} {f : Nat} {w : World}
theorem tri {a b c : Bool} (h : ((a && !b) || c) = false) : ¬ (a = true ∧ b = false ∨ c = true) := by cases a <;> cases b <;> cases c <;> simp_all
/-- may these come? -/
def mayCome (s : Fo) (add : List Hash) (gl : List (Hash × Nat)) : Prop := add.Nodup ∧ ∀ h ∈ add, some h ∈ s.L → (aget h gl).isSome = true
set_option maxHeartbeats 800000 in
theorem coming_ok (A : ForJ P) {p m g : Nat} {s : Fo} {gl : List (Hash × Nat)} (h : FAt w p m s) {av : Value} {add : List Hash} (hS : SlC w av 32 add.length (hs add)) (hl : add.length < 2 ^ 40) (hg : MapAt w g hV u64V gl) :
    Ret P A.coming [ptrV p, av, .map (some g)] w fun v w' => Ext w w' ∧ ((v = .tuple #[.map none, intV' 6] ∧ ¬ mayCome s add gl) ∨
      ∃ r cl, v = .tuple #[.map (some r), intV' 0] ∧ w.heap.size ≤ r ∧ MapAt w' r hV u64V cl ∧ (∀ h i, aget h cl = some i ↔ ∃ k, add[k]? = some h ∧ i = s.L.length + k) ∧ mayCome s add gl) := by
  have hF := h
  have hlen := h.len
  obtain ⟨⟨tv, wl, h1, h2, h3, h4⟩, _⟩ := h
  have hlive : ∀ h, (aget h wl).isSome = true ↔ some h ∈ s.L := by
    intro h
    constructor
    · intro hi
      obtain ⟨i, hi⟩ := Option.isSome_iff_exists.1 hi
      exact List.mem_of_getElem? ((h4 h i).1 hi)
    · intro hm
      obtain ⟨i, hi⟩ := List.getElem?_of_mem hm
      rw [(h4 h i).2 hi]; rfl
  refine Ret.of_exec A.h_coming (Nat.le_of_ble_eq_true rfl) fun c hc => ?_
  dsimp only [b_Pforest_Forest_coming, argEnv, ym, yo, yg, ys, yt, yd, ye]
  refine xr 2 rfl ?_
  refine exec_mkMap rfl ?_
  intro r w1 hr hs1 hu1 hM
  refine xtm rfl rfl rfl ?_
  refine xtm rfl rfl rfl ?_
  refine xpu (hS.lenS rfl) rfl ?_
  refine xr 2 rfl ?_
  refine exec_inner_join (S := List (Hash × Nat)) (fun cl W => Ext w W ∧ MapAt W r hV u64V cl ∧ (∀ h i, aget h cl = some i ↔ ∃ k, add[k]? = some h ∧ i = s.L.length + k) ∧ mayCome s add gl) (fun _ => [(0, ptrV p), (1, av), (8, .map (some r))]) ?_ ?_
  rotate_left
  · rintro cl W ⟨q1, q2, q3, q4⟩
    refine xtm rfl rfl rfl ?_
    refine xpu (hS.lenS rfl) rfl ?_
    refine xpu (pv_toU (a := add.length) rfl (by omega)) rfl ?_
    refine xr 3 rfl ?_
    refine exec_load1 (b := p) (o := 0 + 0) rfl rfl ((h1.upd q1).cell rfl) ?_
    refine xpu (pv_subU (a := 9223372036854775807) (b := s.L.length) rfl rfl (by omega) (by omega)) rfl ?_
    refine xpu (pv_gtrI (a := add.length) (b := 9223372036854775807 - s.L.length) (q := false) rfl rfl (by simp; omega)) rfl ?_
    refine xr 5 rfl ?_
    exact xre hc [_, _] ⟨rfl, rfl, trivial⟩ ⟨q1, .inr ⟨r, cl, rfl, by omega, q2, q3, q4⟩⟩
  refine xlo (S := Nat × List (Hash × Nat)) (fun st W => st.1 ≤ add.length ∧ Ext w W ∧ MapAt W r hV u64V st.2 ∧ (∀ h i, aget h st.2 = some i ↔ ∃ k, k < st.1 ∧ add[k]? = some h ∧ i = s.L.length + k) ∧ mayCome s (add.take st.1) gl)
    (fun st => [(0, ptrV p), (1, av), (2, .map (some g)), (8, .map (some r)), (18, av), (19, intV' add.length), (20, intV' st.1)]) (fun st => add.length - st.1) (0, [])
    ⟨Nat.zero_le _, hu1, MapAt.empty hM, by simp [aget], by simp [mayCome]⟩ ⟨rfl, rfl, rfl, rfl, rfl, rfl, rfl, trivial⟩ ?_
  rintro ⟨i, cl⟩ W ⟨i1, iU, iM, iG, iA⟩
  simp only at i1 iM iG iA
  skip
  by_cases hi : i < add.length
  · refine xpu (pv_lssI (a := i) (b := add.length) (q := true) rfl rfl (by simpa using hi)) rfl ?_
    refine xr 4 rfl ?_
    obtain ⟨hh, hhi⟩ : ∃ x, add[i]? = some x := ⟨_, List.getElem?_eq_getElem hi⟩
    have htk : add.take (i + 1) = add.take i ++ [hh] := by rw [List.take_add_one, hhi]; rfl
    obtain ⟨bd, od, cd, hdv, _, hmd⟩ := hs_at (hS.upd iU (by simp)) hhi
    refine xju (ok_iaddr (N := 32) (b := bd) (o := od) (len := add.length) (cap := cd) (by rw [← hdv]; rfl) rfl i rfl hi) rfl ?_
    refine exec_loadN (b := bd) (o := od + i * 32) (vs := hC hh) rfl rfl hmd (hC_length _) ?_
    refine exec_new rfl ?_
    intro b9 W1 hb9 hs9 hw1 hB9
    refine xtm rfl rfl rfl ?_
    refine exec_store (b := b9) (o := 0) (v := hV hh) rfl rfl hB9 (hV_size hh) (by simp [rle]) (by rw [hV_cells]; exact hC_cell _) ?_
    intro W1' hw1' _ hB9'
    have zU := iU.size
    rw [hV_cells, splice_all (by simp [hC_length, rle])] at hB9'
    have iU1 : Ext w W1' := (iU.trans hw1).trans hw1' (fun b hb => .inr (by simp at hb; omega))
    have wW1 : Ext W W1' := hw1.trans hw1' (fun b hb => .inr (by simp at hb; omega))
    refine xen [(0, ptrV p), (1, av), (2, .map (some g)), (8, .map (some r)), (9, intV' i), (10, ptrV b9), (18, av), (19, intV' add.length), (20, intV' i)] ⟨rfl, rfl, rfl, rfl, rfl, rfl, rfl, rfl, rfl, trivial⟩ ?_
    obtain ⟨o, ho⟩ : ∃ o, aget hh wl = o := ⟨_, rfl⟩
    have hlo := hlive hh
    rw [ho] at hlo
    refine exec_dwr rfl rfl rfl ?_
    repeat (first | refine wtm rfl rfl rfl ?_ | refine wgt rfl rfl rfl rfl ?_ | refine wgs rfl rfl ?_)
    refine ws_keep (.map (some m)) rfl (fun X hx => ok_load1 (b := p) (o := 0 + 2) rfl (((h1.upd iU1).upd hx).cell rfl)) ?_
    refine ws_keep (hV hh) rfl (fun X hx => ok_loadN (b := b9) (o := 0) rfl (hB9'.upd hx).memAll (hC_length _)) ?_
    refine ws_keep _ rfl (fun X hx => ok_look A.h_TH rfl rfl ((h3.upd iU1).upd hx) ho) ?_
    repeat (first | refine wtm rfl rfl rfl ?_ | refine wgt rfl rfl rfl rfl ?_ | refine wgs rfl rfl ?_)
    refine ws_fin fun W2 hw2 => ?_
    refine xr 2 rfl ?_
    refine exec_loadN (b := b9) (o := 0) (vs := hC hh) rfl rfl (hB9'.upd hw2).memAll (hC_length _) ?_
    have iU2 := iU1.trans hw2
    have iM2 := (iM.upd wW1).upd hw2
    obtain ⟨o1, ho1⟩ : ∃ o, aget hh gl = o := ⟨_, rfl⟩
    refine xju (ok_look A.h_TH rfl rfl (hg.upd iU2) ho1) rfl ?_
    refine xr 6 rfl ?_
    refine exec_loadN (b := b9) (o := 0) (vs := hC hh) rfl rfl (hB9'.upd hw2).memAll (hC_length _) ?_
    obtain ⟨o2, ho2⟩ : ∃ o, aget hh cl = o := ⟨_, rfl⟩
    refine xju (ok_look A.h_TH rfl rfl iM2 ho2) rfl ?_
    have hin : o2.isSome = true ↔ hh ∈ add.take i := by
      constructor
      · intro hi2
        obtain ⟨y, rfl⟩ := Option.isSome_iff_exists.1 hi2
        obtain ⟨k, hk, hk2, _⟩ := (iG hh y).1 ho2
        exact List.mem_of_getElem? (i := k) (by rw [List.getElem?_take, if_pos hk]; exact hk2)
      · intro hi2
        obtain ⟨k, hk⟩ := List.getElem?_of_mem hi2
        rw [List.getElem?_take] at hk
        split at hk
        · have := (iG hh (s.L.length + k)).2 ⟨k, by assumption, hk, rfl⟩
          rw [← ho2, this]; rfl
        · cases hk
    refine xr 7 rfl ?_
    refine xen [(0, ptrV p), (1, av), (2, .map (some g)), (8, .map (some r)), (9, intV' i), (10, ptrV b9), (46, .bool o.isSome), (47, .bool o.isSome), (14, .bool o1.isSome), (16, .bool o2.isSome), (18, av), (19, intV' add.length), (20, intV' i)] ⟨rfl, rfl, rfl, rfl, rfl, rfl, rfl, rfl, rfl, rfl, rfl, rfl, rfl, trivial⟩ ?_
    have bad : (o.isSome = true ∧ o1.isSome = false ∨ o2.isSome = true) → ¬ mayCome s add gl := by
      rintro hbad ⟨hnd, hmay⟩
      rcases hbad with ⟨q1, q2⟩ | q
      · have := hmay hh (List.mem_of_getElem? hhi) (hlo.1 q1)
        rw [ho1] at this
        rw [this] at q2; cases q2
      · have hm := hin.1 q
        have : (add.take (i + 1)).Nodup := hnd.sublist (List.take_sublist _ _)
        rw [htk, List.nodup_append] at this
        exact this.2.2 hh hm hh (by simp) rfl
    have good : ¬ (o.isSome = true ∧ o1.isSome = false ∨ o2.isSome = true) → mayCome s (add.take (i + 1)) gl := by
      intro hgood
      refine ⟨?_, ?_⟩
      · rw [htk, List.nodup_append]
        refine ⟨iA.1, by simp, fun y hy z hz => ?_⟩
        have : z = hh := by simpa using hz
        subst this
        intro he
        subst he
        exact hgood (.inr (hin.2 hy))
      · intro h hm hL
        rw [htk] at hm
        rcases List.mem_append.1 hm with hm | hm
        · exact iA.2 h hm hL
        · have : h = hh := by simpa using hm
          subst this
          rw [ho1]
          cases ho1' : o1.isSome with
          | true => rfl
          | false => exact absurd (.inl ⟨hlo.2 hL, ho1'⟩) hgood
    have pick : ∀ (is : List Ins) (k : Kont), Exec P 74 c [] is k [(53, .bool ((o.isSome && !o1.isSome) || o2.isSome)), (0, ptrV p), (1, av), (2, .map (some g)), (8, .map (some r)), (9, intV' i), (10, ptrV b9), (18, av), (19, intV' add.length), (20, intV' i)] W2 →
        Exec P 74 c [] (.op (some (some 47, true)) (some 48) (.mov (.tmp 14)) ::
          .op (some (some 47, true)) (some 49) (.un .not (.tmp 48)) ::
          .op none (some 50) (.pick (.tmp 47) (.tmp 49) (.const (.bool false))) ::
          .op none (some 51) (.mov (.tmp 50)) ::
          .op (some (some 51, false)) (some 52) (.mov (.tmp 16)) ::
          .op none (some 53) (.pick (.tmp 51) (.const (.bool true)) (.tmp 52)) :: is) k [(0, ptrV p), (1, av), (2, .map (some g)), (8, .map (some r)), (9, intV' i), (10, ptrV b9), (46, .bool o.isSome), (47, .bool o.isSome), (14, .bool o1.isSome), (16, .bool o2.isSome), (18, av), (19, intV' add.length), (20, intV' i)] W2 := by
      intro is k hx
      generalize o.isSome = p0 at hx ⊢
      generalize o1.isSome = p1 at hx ⊢
      generalize o2.isSome = p2 at hx ⊢
      cases p0 with
      | false =>
        refine xgs rfl rfl ?_
        refine xgs rfl rfl ?_
        refine xtm rfl rfl rfl ?_
        refine xtm rfl rfl rfl ?_
        refine xgr rfl ?_
        refine xtm rfl rfl rfl ?_
        refine xtm rfl rfl rfl ?_
        refine xen _ ?_ hx
        exact ⟨rfl, rfl, rfl, rfl, rfl, rfl, rfl, rfl, rfl, rfl, trivial⟩
      | true =>
        cases p1 with
        | false =>
          refine xgr rfl ?_
          refine xtm rfl rfl rfl ?_
          refine xgr rfl ?_
          refine xtm rfl rfl rfl ?_
          refine xtm rfl rfl rfl ?_
          refine xtm rfl rfl rfl ?_
          refine xgs rfl rfl ?_
          refine xtm rfl rfl rfl ?_
          refine xen _ ?_ hx
          exact ⟨rfl, rfl, rfl, rfl, rfl, rfl, rfl, rfl, rfl, rfl, trivial⟩
        | true =>
          refine xgr rfl ?_
          refine xtm rfl rfl rfl ?_
          refine xgr rfl ?_
          refine xtm rfl rfl rfl ?_
          refine xtm rfl rfl rfl ?_
          refine xtm rfl rfl rfl ?_
          refine xgr rfl ?_
          refine xtm rfl rfl rfl ?_
          refine xtm rfl rfl rfl ?_
          refine xen _ ?_ hx
          exact ⟨rfl, rfl, rfl, rfl, rfl, rfl, rfl, rfl, rfl, rfl, trivial⟩
    refine pick _ _ ?_
    refine exec_cond rfl (fun hq => ?_) (fun hq => ?_)
    · refine xr 2 rfl ?_
      refine xre hc [_, _] ⟨rfl, rfl, trivial⟩ ⟨iU2, .inl ⟨rfl, bad ?_⟩⟩
      simpa using hq
    · have hgood := good (tri hq)
      have hnin : hh ∉ add.take i := fun hm => by
        have := hin.2 hm
        rw [Bool.or_eq_false_iff] at hq
        rw [hq.2] at this; cases this
      refine xr 1 rfl ?_
      refine exec_dwr rfl rfl rfl ?_
      repeat (first | refine wtm rfl rfl rfl ?_ | refine wgt rfl rfl rfl rfl ?_ | refine wgs rfl rfl ?_)
      refine ws_keep (hV hh) rfl (fun X hx => ok_loadN (b := b9) (o := 0) rfl ((hB9'.upd hw2).upd hx).memAll (hC_length _)) ?_
      repeat (first | refine wtm rfl rfl rfl ?_ | refine wgt rfl rfl rfl rfl ?_ | refine wgs rfl rfl ?_)
      refine ws_keep (u64V s.L.length) rfl (fun X hx => ok_load1 (b := p) (o := 0 + 0) rfl (((h1.upd iU2).upd hx).cell rfl)) ?_
      repeat (first | refine wtm rfl rfl rfl ?_ | refine wgt rfl rfl rfl rfl ?_ | refine wgs rfl rfl ?_)
      refine ws_val rfl (pv_toU (a := i) rfl (by omega)) ?_
      refine ws_val rfl (pv_addU (a := s.L.length) (b := i) rfl rfl (by omega)) ?_
      refine ws_fin fun W3 hw3 => ?_
      refine exec_mapUpd (a := hh) (b := s.L.length + i) (keyOK_hash A.h_TH) rfl rfl rfl (iM2.upd hw3) ?_
      intro W4 hw4 _ hM4
      refine xr 2 rfl ?_
      refine xpu (pv_addI (a := i) (b := 1) rfl rfl (by omega)) rfl ?_
      refine xr 1 rfl ?_
      refine xag (i + 1, aset hh (s.L.length + i) cl) ⟨hi, (iU2.trans hw3).trans hw4 (fun b hb => .inr (by simp at hb; omega)), hM4, ?_, hgood⟩ (by show add.length - (i + 1) < add.length - i; omega) ⟨rfl, rfl, rfl, rfl, rfl, rfl, rfl, trivial⟩
      intro h j
      show aget h (aset hh (s.L.length + i) cl) = some j ↔ ∃ k, k < i + 1 ∧ _
      rw [aget_set]
      by_cases hhh : h = hh
      · subst hhh
        rw [if_pos rfl]
        constructor
        · intro hx; cases hx; exact ⟨i, by omega, hhi, rfl⟩
        · rintro ⟨k, hk, hk2, rfl⟩
          rcases Nat.lt_or_ge k i with hki | hki
          · exact absurd (List.mem_of_getElem? (i := k) (by rw [List.getElem?_take, if_pos hki]; exact hk2)) hnin
          · have : k = i := by omega
            subst this; rfl
      · rw [if_neg hhh, iG h j]
        constructor
        · rintro ⟨k, a, b, d⟩; exact ⟨k, by omega, b, d⟩
        · rintro ⟨k, a, b, d⟩
          rcases Nat.lt_or_ge k i with hki | hki
          · exact ⟨k, hki, b, d⟩
          · have : k = i := by omega
            subst this
            rw [hhi] at b; cases b; exact absurd rfl hhh
  · refine xpu (pv_lssI (a := i) (b := add.length) (q := false) rfl rfl (by simpa using hi)) rfl ?_
    have : i = add.length := by omega
    subst this
    rw [List.take_length] at iA
    refine xr 2 rfl ?_
    refine exec_meet cl ⟨iU, iM, ?_, iA⟩ ⟨rfl, rfl, rfl, trivial⟩
    intro h j
    rw [iG h j]
    constructor
    · rintro ⟨k, _, b, d⟩; exact ⟨k, b, d⟩
    · rintro ⟨k, b, d⟩; exact ⟨k, (List.getElem?_eq_some_iff.1 b).1, b, d⟩
end
end Go.Sp

namespace Go.Sp
def b_need_Need (f0 f1 f2 f3 : Nat) (T0 : Nat) : Body := { n := 56,res := [.tmp 4,.tmp 5],code := [yo 4 (.mov (.const (.slice none 0 0))),yo 5 (.mov (.const (.int .i64 0))),ym 13 0,ym 14 1,
 yo 15 (.call f0 #[(yt 13),(yt 14)]),ym 12 15,yo 16 (.ext (yt 12) 0),yo 17 (.ext (yt 12) 1),ym 6 16,ym 7 17,ym 18 7,yo 19 (.ibin .neq (yt 18) (.const (.int .i64 0))),.cond (yt 19) [ym 20 7,
 yo 4 (.mov (.const (.slice none 0 0))),ym 5 20,.ret] [],yo 21 (.mkMap),ym 8 21,ym 22 6,yo 23 (.nilc (yt 22)),yo 24 (.faddr 3 (yt 23)),yo 25 (.load1 (yt 24)),yo 26 (.range (yt 25)),.block 0 [.loop [yo 27 (.next (yt 26)),
 yo 28 (.ext (yt 27) 0),.cond (yt 28) [] [.exit 0],.block 1 [yo 29 (.entry (yt 26)),yo 30 (.ext (yt 29) 0),ym 9 30,ym 31 6,ym 32 9,yo 33 (.call f1 #[(yt 31),(yt 32)]),.cond (yt 33) [.exit 1] [],ym 35 9,ym 36 6,
 yo 37 (.nilc (yt 36)),yo 38 (.faddr 1 (yt 37)),yo 39 (.load1 (yt 38)),yo 40 (.call f2 #[(yt 35),(yt 39)]),ym 34 40,yo 41 (.ext (yt 34) 0),yo 42 (.ext (yt 34) 1),ym 10 41,ym 11 42,ym 43 6,yo 44 (.nilc (yt 43)),
 yo 45 (.faddr 3 (yt 44)),yo 46 (.load1 (yt 45)),ym 47 10,yo 48 (.lookup T0 (.int .i64 0) (yt 46) (yt 47) false),yo 49 (.ibin .eql (yt 48) (.const (.int .i64 0))),.cond (yt 49) [ym 50 8,ym 51 10,
 yo 52 (.lookup T0 (.int .i64 0) (yt 50) (yt 51) false),yo 53 (.ibin .add (yt 52) (.const (.int .i64 1))),.op none none (.mapUpd T0 (yt 50) (yt 51) (yt 53))] []]]],ym 54 8,yo 55 (.call f3 #[(yt 54)]),ym 4 55,
 yo 5 (.mov (.const (.int .i64 0))),.ret] }
def b_need_made (f0 f1 f2 : Nat) (T0 T1 T2 T3 : Nat) : Body := { n := 98,res := [.cell false 1 4,.cell false 1 5],code := [yo 4 (.new T0 (rle [(1,.pointer none)])),yo 5 (.new T1 (rle [(1,.int .i64 0)])),ym 17 0,
 yo 18 (.call f0 #[(yt 17)]),ym 16 18,yo 19 (.ext (yt 16) 0),yo 20 (.ext (yt 16) 1),ym 6 19,ym 7 20,ym 21 7,yo 22 (.un .not (yt 21)),.cond (yt 22) [.op none none (.store 1 (yt 4) (.const (.pointer none))),
 .op none none (.store 1 (yt 5) (.const (.int .i64 2))),.ret] [],ym 23 0,ym 24 6,yo 25 (.mkMap),yo 26 (.mkMap),
 yo 27 (.mk (rle [(1,.int .u64 0),(1,.int .i64 0),(2,.map none)]) [(0,1,(yt 23)),(1,1,(yt 24)),(2,1,(yt 25)),(3,1,(yt 26))]),yo 28 (.box T2 (yt 27)),yo 8 (.new T0 (rle [(1,.pointer none)])),ys 1 8 28,ym 29 1,
 yo 30 (.lenS (yt 29)),yo 31 (.mov (.const (.int .i64 0))),.block 0 [.loop [yo 32 (.ibin .lss (yt 31) (yt 30)),.cond (yt 32) [] [.exit 0],.block 1 [yo 33 (.iaddr 1 (yt 29) (yt 31)),yo 34 (.load1 (yt 33)),ym 10 34,
 ym 36 0,ym 37 10,yo 38 (.call f1 #[(yt 36),(yt 37)]),ym 35 38,yo 39 (.ext (yt 35) 0),yo 40 (.ext (yt 35) 1),ym 11 39,ym 12 40,ym 41 12,yo 42 (.un .not (yt 41)),ym 43 42,yg 43 false 44 (.load1 (yt 8)),
 yg 43 false 45 (.nilc (yt 44)),yg 43 false 46 (.faddr 2 (yt 45)),yg 43 false 47 (.load1 (yt 46)),yg 43 false 48 (.mov (yt 10)),yg 43 false 49 (.lookup T3 (.int .i64 0) (yt 47) (yt 48) false),
 yg 43 false 50 (.ibin .gtr (yt 49) (.const (.int .i64 0))),yo 51 (.pick (yt 43) (.const (.bool true)) (yt 50)),.cond (yt 51) [.op none none (.store 1 (yt 4) (.const (.pointer none))),
 .op none none (.store 1 (yt 5) (.const (.int .i64 2))),.ret] [],yo 52 (.load1 (yt 8)),yo 53 (.nilc (yt 52)),yo 54 (.faddr 2 (yt 53)),yo 55 (.load1 (yt 54)),ym 56 10,
 yo 57 (.lookup T3 (.int .i64 0) (yt 55) (yt 56) false),yo 58 (.ibin .add (yt 57) (.const (.int .i64 1))),.op none none (.mapUpd T3 (yt 55) (yt 56) (yt 58))],yo 59 (.ibin .add (yt 31) (.const (.int .i64 1))),ym 31 59]],
 ym 60 1,yo 61 (.lenS (yt 60)),yo 62 (.mov (.const (.int .i64 0))),.block 2 [.loop [yo 63 (.ibin .lss (yt 62) (yt 61)),.cond (yt 63) [] [.exit 2],.block 3 [yo 64 (.iaddr 1 (yt 60) (yt 62)),yo 65 (.load1 (yt 64)),
 yo 14 (.new T3 (rle [(1,.int .u64 0)])),ys 1 14 65,ym 66 0,yo 67 (.load1 (yt 14)),yo 68 (.call f2 #[(yt 66),(yt 67)]),.block 4 [.rangeF (yt 68) #[69] [ym 15 69] [.block 5 [ym 70 15,yo 71 (.load1 (yt 14)),
 yo 72 (.ibin .neq (yt 70) (yt 71)),ym 73 72,yg 73 true 74 (.load1 (yt 8)),yg 73 true 75 (.nilc (yt 74)),yg 73 true 76 (.faddr 2 (yt 75)),yg 73 true 77 (.load1 (yt 76)),yg 73 true 78 (.mov (yt 15)),
 yg 73 true 79 (.lookup T3 (.int .i64 0) (yt 77) (yt 78) false),yg 73 true 80 (.ibin .gtr (yt 79) (.const (.int .i64 0))),yo 81 (.pick (yt 73) (yt 80) (.const (.bool false))),.cond (yt 81) [
 .op none none (.store 1 (yt 4) (.const (.pointer none))),.op none none (.store 1 (yt 5) (.const (.int .i64 2))),.ret] [],yo 82 (.load1 (yt 8)),yo 83 (.nilc (yt 82)),yo 84 (.faddr 3 (yt 83)),yo 85 (.load1 (yt 84)),
 ym 86 15,yo 87 (.lookup T3 (.int .i64 0) (yt 85) (yt 86) false),yo 88 (.ibin .add (yt 87) (.const (.int .i64 1))),.op none none (.mapUpd T3 (yt 85) (yt 86) (yt 88)),yo 89 (.load1 (yt 8)),yo 90 (.nilc (yt 89)),
 yo 91 (.faddr 3 (yt 90)),yo 92 (.load1 (yt 91)),ym 93 15,yo 94 (.lookup T3 (.int .i64 0) (yt 92) (yt 93) false),yo 95 (.ibin .gtr (yt 94) (.const (.int .i64 1))),.cond (yt 95) [.exit 4] []]]]],
 yo 96 (.ibin .add (yt 62) (.const (.int .i64 1))),ym 62 96]],yo 97 (.load1 (yt 8)),ys 1 4 97,.op none none (.store 1 (yt 5) (.const (.int .i64 0))),.ret] }
def b_Pneed_plan_isRoot (f0 f1 : Nat) : Body := { n := 30,res := [.tmp 4],code := [yo 4 (.mov (.const (.bool false))),ym 10 0,yo 11 (.nilc (yt 10)),yo 12 (.faddr 0 (yt 11)),yo 13 (.load1 (yt 12)),ym 14 1,
 yo 15 (.call f0 #[(yt 13),(yt 14)]),ym 9 15,yo 16 (.ext (yt 9) 0),yo 17 (.ext (yt 9) 1),ym 5 16,ym 6 17,ym 19 0,yo 20 (.nilc (yt 19)),yo 21 (.faddr 0 (yt 20)),yo 22 (.load1 (yt 21)),ym 23 5,
 yo 24 (.call f1 #[(yt 22),(yt 23)]),ym 18 24,yo 25 (.ext (yt 18) 0),yo 26 (.ext (yt 18) 1),ym 7 25,ym 8 26,ym 27 7,ym 28 1,yo 29 (.ibin .eql (yt 27) (yt 28)),ym 4 29,.ret] }
def b_need_rising_uint64_int (f0 f1 : Nat) : Body := { n := 6,res := [.tmp 2],code := [yo 2 (.mov (.const (.slice none 0 0))),ym 3 0,yo 4 (.call f0 #[(yt 3)]),yo 5 (.call f1 #[(yt 4)]),ym 2 5,.ret] }
def b_need_up (f0 f1 : Nat) : Body := { n := 9,res := [.tmp 4],code := [yo 4 (.mov (.const (.nilFunc))),ym 5 0,ym 6 1,yo 7 (.call f0 #[(yt 5),(yt 6)]),yo 8 (.call f1 #[(yt 7)]),ym 4 8,.ret] }
end Go.Sp

namespace Go.Sp
section
variable {P : Program} {f : Nat} {w : World}
theorem nextAfter {α : Type} {pre rem ks : List α} {x : α} [DecidableEq α] (hn : ks.Nodup) (hp : (pre ++ rem).Perm ks) (hx : x ∈ rem) : ((pre ++ [x]) ++ rem.erase x).Perm ks := by
  refine List.Perm.trans ?_ hp
  rw [List.append_assoc]
  exact List.Perm.append_left pre (List.perm_cons_erase hx).symm
/-- maps.Keys at map[uint64]int -/
theorem keysU1_ok (h : Has P f b_maps_Keys_map_uint64int_uint64_int_1) {bs r : Nat} {l : List (Nat × Nat)} (hB : Blk w bs [.map (some r)]) (hm : MapAt w r u64V intV' l) :
    SeqG P f [ptrV' bs] w [bs, r] [] (fun q => [u64V q]) (fun pre x => (pre ++ [x]).Sublist (pre ++ [x]) ∧ pre.length < (keys l).length) (fun xs => xs.Perm (keys l)) := by
  refine SeqG.of_ret fun S y n0 ws loc J Jx s0 hJ hJx h0 hn0 hl0 hwr hrd hrounds => ?_
  refine Ret.of_exec h (Nat.le_of_ble_eq_true rfl) fun c hc => ?_
  dsimp only [b_maps_Keys_map_uint64int_uint64_int_1, argEnv, ym, yo, yg, ys, yt, yd, ye]
  refine exec_load1 (b := bs) (o := 0) rfl rfl (hB.cell rfl) ?_
  refine exec_range rfl rfl hm ?_
  intro it w1 hit hs1 hu1 hI1
  have hnd := hm.nodup
  have hr0 := hrd r (by simp)
  refine xr 1 rfl ?_
  refine xlo (S := List Nat × List Nat × Option (Nat × Nat) × S) (fun s W => J s.1 s.2.2.2 W ∧ IterAt W it r u64V intV' l s.2.1 s.2.2.1 ∧ (s.1 ++ s.2.1).Perm (keys l) ∧ r ∉ ws ++ loc s.2.2.2 ∧ it ∉ ws ++ loc s.2.2.2 ∧ n0 ≤ it ∧ (∀ b ∈ ws ++ loc s.2.2.2, b < W.heap.size))
    (fun s => [(0, .func (.yield y) #[] #[]), (5, ptrV' it)]) (fun s => s.2.1.length) ([], keys l, none, s0)
    ⟨hJ _ _ _ _ [] h0 hu1 (by simp), hI1, by simp, by simp [hr0], fun hx => ?_, by omega, fun b hb => ?_⟩ ⟨rfl, rfl, trivial⟩ ?_
  · have := hl0 _ hx; omega
  · have := hl0 _ hb; omega
  rintro ⟨pre, rem, last, s⟩ W ⟨hJi, hI, hp, hrn, hin, hni, hlw⟩
  simp only at hJi hI hp hrn hin hlw
  refine exec_next rfl rfl hI (fun hrem => ?_) (fun a b w2 ha hab hu2 hs2 hI2 => ?_)
  · refine xr 4 rfl ?_
    subst hrem
    exact exec_end hc [] trivial (.inl ⟨pre, s, by simpa using hp, hJi⟩)
  · refine xr 4 rfl ?_
    refine xju (ok_entry rfl hI2) rfl ?_
    refine xr 4 rfl ?_
    have hplen : pre.length < (keys l).length := by
      have := hp.length_eq
      have hpos : 0 < rem.length := List.length_pos_of_mem ha
      simp only [List.length_append] at this; omega
    have hJ2 := hJ pre s W w2 [it] hJi hu2 (fun b hb => by simp at hb; subst hb; exact ⟨hni, fun h => hin (List.mem_append_right _ h)⟩)
    refine exec_yield (l := y) (vs := [u64V a]) rfl rfl rfl (hrounds pre s w2 a hJ2 ⟨List.Sublist.refl _, hplen⟩ (fun b hb => by rw [hs2]; exact hlw b hb)) ?_
    rintro go W1 ⟨s1, hgo, hu3, hfr, hlt⟩
    have z3 := hu3.size
    have hrn1 : r ∉ ws ++ loc s1 := by
      simp only [List.mem_append, not_or] at hrn ⊢
      refine ⟨hrn.1, fun hm' => ?_⟩
      rcases hfr _ hm' with h4 | h4
      · exact hrn.2 h4
      · have := hI2.map.lt; omega
    have hin1 : it ∉ ws ++ loc s1 := by
      simp only [List.mem_append, not_or] at hin ⊢
      refine ⟨hin.1, fun hm' => ?_⟩
      rcases hfr _ hm' with h4 | h4
      · exact hin.2 h4
      · have := hI2.lt; omega
    cases go with
    | false =>
      refine xr 2 rfl ?_
      exact xre hc [] trivial (.inr ⟨s1, hgo⟩)
    | true =>
      simp only [if_true] at hgo
      refine xr 5 rfl ?_
      refine xag (pre ++ [a], rem.erase a, some (a, b), s1) ⟨hgo, hI2.upd hu3 hrn hin, nextAfter hnd hp ha, hrn1, hin1, hni, fun b' hb' => ?_⟩ ?_ ⟨rfl, rfl, trivial⟩
      · rcases List.mem_append.1 hb' with h2 | h2
        · have := hlw b' (List.mem_append_left _ h2); omega
        · exact hlt b' h2
      · show (rem.erase a).length < rem.length
        rw [List.length_erase_of_mem ha]
        have := List.length_pos_of_mem ha
        omega
/-- slices.AppendSeq onto nil -/
theorem appendSeq_ok {T1 T2 gf : Nat} (h : Has P f (b_slices_AppendSeq_uint64_uint64 T1 T2)) {lb : List Value} (hen : Enters P gf) {rds : List Nat} {Part : List Nat → Nat → Prop} {Good : List Nat → Prop}
    (hseq : ∀ w1, Ext w w1 → SeqG P gf lb w1 rds [] (fun q => [u64V q]) Part Good) (hrds : ∀ b ∈ rds, b < w.heap.size) (hpart : ∀ pre x, Part pre x → pre.length < 2 ^ 40) :
    Ret P f [.slice none 0 0, .func (.func gf) #[] lb.toArray] w fun v w' => ∃ xs, Good xs ∧ OwnC w' v 1 xs.length (xs.map u64V) ∧ Ext w w' ∧ ∀ b ∈ blkOf v, w.heap.size ≤ b := by
  refine Ret.of_exec h (Nat.le_of_ble_eq_true rfl) fun c hc => ?_
  dsimp only [b_slices_AppendSeq_uint64_uint64, argEnv, ym, yo, yg, ys, yt, yd, ye]
  refine exec_box rfl rfl ?_
  intro b2 w1 hb2 hs1 hu1 hB2
  refine xr 3 rfl ?_
  refine exec_rangeG (S := Value) rfl hen hc.rd rds [] (fun q => [u64V q]) Part Good (fun W hu => hseq W (hu1.trans hu)) u64V (fun _ => rfl) rfl
    w.heap.size [] (fun v => b2 :: blkOf v)
    (fun pre v W => Blk W b2 [v] ∧ OwnC W v 1 pre.length (pre.map u64V) ∧ Ext w W ∧ (∀ b ∈ blkOf v, w.heap.size ≤ b ∧ b ≠ b2))
    (fun _ _ _ => False) (.slice none 0 0) ?_ ?_ ?_ ?_ ?_ ?_ ?_ (fun _ => rfl) rfl ?_ ?_ ?_
  · intro pre v W W' l' ⟨h1, h2, h3, h4⟩ hu hb
    refine ⟨h1.upd hu ?_, h2.upd hu ?_, h3.trans hu (fun b hb' => .inr (hb b hb').1), h4⟩
    · intro hm; exact (hb _ hm).2 (by simp)
    · intro b hb1 hm; exact (hb _ hm).2 (by simp [hb1])
  · intro cd v W W' l' h; exact h.elim
  · exact ⟨hB2, .inl (by simp), hu1, by simp [blkOf]⟩
  · omega
  · intro b hb; simp [blkOf] at hb; omega
  · simp
  · intro b hb; have := hrds b hb; refine ⟨by omega, by simp, ?_⟩; simp [blkOf]; omega
  · rintro l c' pre v W q hc' ⟨h1, h2, h3, h4⟩ hpq hlw hnw
    have hlen := hpart pre q hpq
    refine xbk ?_
    refine exec_load1 (b := b2) (o := 0) rfl rfl (h1.cell rfl) ?_
    refine xr 1 rfl ?_
    refine exec_lit (N := 1) [u64V q] rfl rfl rfl rfl rfl ?_
    intro bl w7 hbl hs7 hu7 hO7
    refine exec_ok (ok_append (N := 1) rfl rfl (h2.upd hu7 (by simp)) hO7.sl rfl (by decide) (by omega) rfl) rfl ?_
    rintro v2 w8 ⟨hO8, hu8, hf8, hl8⟩
    have n2 : b2 ∉ blkOf v := fun h => (h4 _ h).2 rfl
    have z7 := hu7.size
    have z8 := hu8.size
    have k2 := h1.lt
    have n2' : ∀ b ∈ blkOf v2, w.heap.size ≤ b ∧ b ≠ b2 := by
      intro b hb
      rcases hf8 b hb with h | h
      · exact h4 b h
      · exact ⟨by omega, by omega⟩
    have hcv : v2.cells.size = 1 ∧ v2.cells.toList.all cellValue = true ∧ splice [v] 0 v2.cells.toList = [v2] := by
      rcases hO8 with ⟨h, _⟩ | ⟨_, _, _, h, _⟩ <;> rw [h] <;> exact ⟨rfl, rfl, rfl⟩
    refine exec_store (b := b2) (o := 0) (v := v2) rfl rfl ((h1.upd hu7).upd hu8 n2) hcv.1 (by simp) hcv.2.1 ?_
    intro w9 hu9 hs9 hB9
    rw [hcv.2.2] at hB9
    have z9 := hu9.size
    refine xr 2 rfl ?_
    refine exec_round_end hc' ⟨v2, ⟨hB9, ?_, ?_, n2'⟩, ?_, ?_, ?_⟩
    · have := hO8.upd hu9 (fun b hb => by simp; exact (n2' b hb).2)
      rw [List.length_append, List.map_append]; exact this
    · exact ((h3.trans hu7).trans hu8 (fun b hb => .inr (h4 b hb).1)).trans hu9 (fun b hb => .inr (by simp at hb; omega))
    · exact ((hu7.mono (by simp)).trans hu8 (fun b hb => .inl (by simp [hb]))).trans hu9 (fun b hb => .inl (by simp at hb; simp [hb]))
    · intro b hb
      simp only [List.mem_cons] at hb ⊢
      rcases hb with h | h
      · exact .inl (.inl h)
      · rcases hf8 b h with h' | h'
        · exact .inl (.inr h')
        · exact .inr (by omega)
    · intro b hb
      simp only [List.mem_cons] at hb
      rcases hb with h | h
      · omega
      · have := hl8 b h; omega
  · rintro D0 xs v W hD hg ⟨h1, h2, h3, h4⟩ hsh hnl
    refine xr 2 rfl ?_
    refine exec_load1 (b := b2) (o := 0) rfl rfl (h1.cell rfl) ?_
    refine xr 1 rfl ?_
    refine exec_returnM hc [D0] rfl (by simp) (fun r hr => by simp at hr; subst hr; exact hsh) [v] fun W' hu' hs' => ?_
    refine ⟨⟨rfl, trivial⟩, xs, hg, h2.upd hu' (fun b hb hm => ?_), h3.trans hu' (fun b hb => .inr (by simp at hb; omega)), fun b hb => (h4 b hb).1⟩
    simp only [List.mem_singleton] at hm
    subst hm
    exact hnl (by simp [hb])
  · intro cd D0 v W _ h; exact h.elim
end
end Go.Sp

namespace Go.Sp
def sortN (l : List Nat) : List Nat := l.mergeSort (fun a b => decide (a ≤ b))
theorem sortN_perm (l : List Nat) : (sortN l).Perm l := List.mergeSort_perm l _
theorem sortN_sorted (l : List Nat) : (sortN l).Pairwise (· ≤ ·) := by
  have := List.pairwise_mergeSort (le := fun a b : Nat => decide (a ≤ b)) (by simp; omega) (by simp; omega) l
  simpa [sortN] using this
theorem sortN_eq {l l' : List Nat} (h : l.Perm l') : sortN l = sortN l' :=
  List.Perm.eq_of_pairwise (le := (· ≤ ·)) (fun _ _ _ _ h1 h2 => Nat.le_antisymm h1 h2) (sortN_sorted l) (sortN_sorted l') (((sortN_perm l).trans h).trans (sortN_perm l').symm)
def addWay (T : List Nat) (t : Nat) : List Nat → List (Nat × Nat) → Option (List (Nat × Nat))
  | [], m => some m
  | p :: ps, m => if p ≠ t ∧ p ∈ T then none else
    if (aget p m).getD 0 + 1 > 1 then some (aset p ((aget p m).getD 0 + 1) m) else addWay T t ps (aset p ((aget p m).getD 0 + 1) m)
def addWays (n : Nat) (T : List Nat) : List Nat → List (Nat × Nat) → Option (List (Nat × Nat))
  | [], m => some m
  | t :: ts, m => match addWay T t (wayN n t) m with
    | none => none
    | some m' => addWays n T ts m'
/-- a plan of targets that may be: what stands on their ways -/
def madeN (n : Nat) (T : List Nat) : Option (List (Nat × Nat)) :=
  if n < 2 ^ 63 ∧ (∀ t ∈ T, (treeN n t).isSome = true) ∧ T.Nodup then addWays n T T [] else none
def isRootN (n p : Nat) : Bool := decide ((rootN n ((treeN n p).getD 0)).getD 0 = p)
def needStep (n : Nat) (m acc : List (Nat × Nat)) (p : Nat) : List (Nat × Nat) :=
  if isRootN n p then acc else
    if (aget ((siblingN p (rowsN n)).getD 0) m).getD 0 = 0 then aset ((siblingN p (rowsN n)).getD 0) ((aget ((siblingN p (rowsN n)).getD 0) acc).getD 0 + 1) acc else acc
def needN (n : Nat) (T : List Nat) : Option (List Nat) := (madeN n T).map fun m => sortN (keys ((keys m).foldl (needStep n m) []))
theorem needStep_nodup {n : Nat} {m acc : List (Nat × Nat)} {p : Nat} (h : (keys acc).Nodup) : (keys (needStep n m acc p)).Nodup := by
  unfold needStep
  split
  · exact h
  · split
    · exact nodup_set h
    · exact h
def needs (n : Nat) (m : List (Nat × Nat)) (p : Nat) : Bool := !isRootN n p && (aget ((siblingN p (rowsN n)).getD 0) m).getD 0 == 0
theorem needStep_keys {n : Nat} {m acc : List (Nat × Nat)} {p x : Nat} : x ∈ keys (needStep n m acc p) ↔ x ∈ keys acc ∨ (needs n m p = true ∧ x = (siblingN p (rowsN n)).getD 0) := by
  unfold needStep needs
  split
  · rename_i h; simp [h]
  · rename_i h
    split
    · rename_i h2; rw [keys_set]; simp [h, h2]; exact Or.comm
    · rename_i h2; simp [h2]
theorem needFold_keys {n : Nat} {m : List (Nat × Nat)} : ∀ (l : List Nat) (acc : List (Nat × Nat)) (x : Nat), x ∈ keys (l.foldl (needStep n m) acc) ↔ x ∈ keys acc ∨ ∃ p ∈ l, needs n m p = true ∧ x = (siblingN p (rowsN n)).getD 0 := by
  intro l
  induction l with
  | nil => intro acc x; simp
  | cons p l ih =>
    intro acc x
    simp only [List.foldl_cons, ih, needStep_keys, List.mem_cons]
    constructor
    · rintro ((h | h) | ⟨q, h1, h2⟩)
      · exact .inl h
      · exact .inr ⟨p, .inl rfl, h⟩
      · exact .inr ⟨q, .inr h1, h2⟩
    · rintro (h | ⟨q, rfl | h1, h2⟩)
      · exact .inl (.inl h)
      · exact .inl (.inr h2)
      · exact .inr ⟨q, h1, h2⟩
theorem needFold_nodup {n : Nat} {m : List (Nat × Nat)} : ∀ (l : List Nat) (acc : List (Nat × Nat)), (keys acc).Nodup → (keys (l.foldl (needStep n m) acc)).Nodup := by
  intro l
  induction l with
  | nil => intro acc h; exact h
  | cons p l ih => intro acc h; exact ih _ (needStep_nodup h)
theorem needFold_perm {n : Nat} {m : List (Nat × Nat)} {l l' : List Nat} (h : l.Perm l') : sortN (keys (l.foldl (needStep n m) [])) = sortN (keys (l'.foldl (needStep n m) [])) := by
  apply sortN_eq
  refine (List.perm_ext_iff_of_nodup (needFold_nodup l [] (by simp [keys])) (needFold_nodup l' [] (by simp [keys]))).2 fun x => ?_
  rw [needFold_keys, needFold_keys]
  simp only [h.mem_iff]
end Go.Sp

namespace Go.Sp
/-- what slices.Sort is to do at numbers -/
def SortOK (P : Program) (f : FuncId) : Prop := ∀ (w : World) (v : Value) (l : List Nat), OwnC w v 1 l.length (l.map u64V) → l.length < 2 ^ 40 →
  Ret P f [v] w fun _ w' => OwnC w' v 1 l.length ((sortN l).map u64V) ∧ Upd (blkOf v) w w'
structure NeedF (P : Program) extends WayF P where
  values1 : Nat
  values : Nat
  needUp : Nat
  made : Nat
  isRoot : Nat
  keys1 : Nat
  keys' : Nat
  appendSeq : Nat
  collect : Nat
  sort : Nat
  sorted : Nat
  rising : Nat
  need : Nat
  TS : Nat
  TM : Nat
  TP : Nat
  TE : Nat
  TPl : Nat
  h_values1 : Has P values1 b_slices_Values_uint64_uint64_1
  h_values : Has P values (b_slices_Values_uint64_uint64 values1 TS)
  h_needUp : Has P needUp (b_need_up way values)
  h_made : Has P made (b_need_made rows tree needUp TP TE TPl T1)
  h_isRoot : Has P isRoot (b_Pneed_plan_isRoot tree root)
  h_keys1 : Has P keys1 b_maps_Keys_map_uint64int_uint64_int_1
  h_keys : Has P keys' (b_maps_Keys_map_uint64int_uint64_int keys1 TM)
  h_appendSeq : Has P appendSeq (b_slices_AppendSeq_uint64_uint64 T3 T1)
  h_collect : Has P collect (b_slices_Collect_uint64 appendSeq)
  h_sort : SortOK P sort
  h_sorted : Has P sorted (b_slices_Sorted_uint64 collect sort)
  h_rising : Has P rising (b_need_rising_uint64_int keys' sorted)
  h_need : Has P need (b_need_Need made isRoot sibling rising T1)
  hU : P.underlying T1 = some (.int .u64)
section
variable {P : Program} {f : Nat} {w : World} (A : NeedF P)
theorem needUp_ok (n p : Nat) (hn : n < 2 ^ 64) (hp : p < 2 ^ 64) : Ret P A.needUp [u64V n, u64V p] w fun v w' => ∃ bs sv, v = .func (.func A.values1) #[] #[ptrV bs] ∧ Blk w' bs [sv] ∧ OwnC w' sv 1 (wayN n p).length ((wayN n p).map u64V) ∧ bs ∉ blkOf sv ∧ w.heap.size ≤ bs ∧ (∀ b ∈ blkOf sv, w.heap.size ≤ b) ∧ Ext w w' := by
  refine Ret.of_exec A.h_needUp (Nat.le_of_ble_eq_true rfl) fun c hc => ?_
  dsimp only [b_need_up, argEnv, ym, yo, yg, ys, yt, yd, ye]
  refine xr 3 rfl ?_
  refine xca rfl rfl (way_ok A.toWayF n p hn hp) ?_
  rintro v w1 ⟨hO, hu1, hf⟩
  have hval : Ret P A.values [v] w1 fun v' w' => ∃ bs, v' = .func (.func A.values1) #[] #[ptrV bs] ∧ Blk w' bs [v] ∧ bs = w1.heap.size ∧ Ext w1 w' := by
    refine Ret.of_exec A.h_values (Nat.le_of_ble_eq_true rfl) fun c hc => ?_
    dsimp only [b_slices_Values_uint64_uint64, argEnv, ym, yo, yg, ys, yt, yd, ye]
    refine exec_box rfl rfl ?_
    intro b w2 hb hs hu hB
    refine xr 3 rfl ?_
    refine xre hc [_] ⟨rfl, trivial⟩ ⟨b, rfl, ?_, hb, hu⟩
    have : v.cells.toList = [v] := by rcases hO with ⟨h, _⟩ | ⟨_, _, _, h, _⟩ <;> rw [h] <;> rfl
    rw [← this]; exact hB
  refine xca rfl rfl hval ?_
  rintro v' w2 ⟨bs, rfl, hB, hbs, hu2⟩
  refine xr 1 rfl ?_
  have z1 := hu1.size
  refine xre hc [_] ⟨rfl, trivial⟩ ⟨bs, v, rfl, hB, hO.upd hu2 (by simp), fun h => by have := hO.lt _ h; omega, by omega, hf, hu1.trans hu2⟩
theorem isRoot_ok {bp n : Nat} {cs : List Value} (p : Nat) (hB : Blk w bp (u64V n :: cs)) (hn : n < 2 ^ 64) (hp : p < 2 ^ 64) : RetV P A.isRoot [ptrV bp, u64V p] w (.bool (isRootN n p)) := by
  refine Ret.of_exec A.h_isRoot (Nat.le_of_ble_eq_true rfl) fun c hc => ?_
  dsimp only [b_Pneed_plan_isRoot, argEnv, ym, yo, yg, ys, yt, yd, ye]
  refine xr 4 rfl ?_
  refine exec_load1 (b := bp) (o := 0 + 0) rfl rfl (hB.cell rfl) ?_
  refine xr 1 rfl ?_
  refine xca rfl rfl (tree_ok A.toWayF n p hn hp) ?_
  rintro v w1 ⟨rfl, hu1⟩
  obtain ⟨th, is0, hrw, htr⟩ : ∃ (r : Nat) (is0 : Bool), optV intV' (treeN n p) = .tuple #[intV' r, .bool is0] ∧ (treeN n p).getD 0 = r ∧ r < 2 ^ 63 := by
    cases ht : treeN n p with
    | none => exact ⟨0, false, rfl, rfl, by omega⟩
    | some r =>
      refine ⟨r, true, rfl, rfl, ?_⟩
      unfold treeN at ht
      split at ht
      · cases ht
      · rename_i q hq
        unfold rowN at ht
        split at ht
        · cases ht
          have : rowsN n ≤ 63 := by
            rcases Nat.lt_or_ge n (2 ^ 63) with h | h
            · exact rowsN_le h
            · rw [wayN, if_neg (by omega)] at hq; simp at hq
          omega
        · cases ht
  rw [hrw]
  refine xr 8 rfl ?_
  refine exec_load1 (b := bp) (o := 0 + 0) rfl rfl ((hB.upd hu1).cell rfl) ?_
  refine xr 1 rfl ?_
  refine xca rfl rfl (root_ok A.toPosF n th hn htr.2) ?_
  rintro v w2 ⟨rfl, hu2⟩
  obtain ⟨q, is1, hrw2, hq⟩ : ∃ (r : Nat) (is0 : Bool), optV u64V (rootN n th) = .tuple #[u64V r, .bool is0] ∧ (rootN n th).getD 0 = r := by
    cases rootN n th with
    | none => exact ⟨0, false, rfl, rfl⟩
    | some r => exact ⟨r, true, rfl, rfl⟩
  rw [hrw2]
  refine xr 9 rfl ?_
  refine xre hc [_] ⟨rfl, trivial⟩ ⟨?_, hu1.trans hu2⟩
  simp only [single, isRootN, htr.1, hq, Value.bool.injEq]
  by_cases h : q = p
  · simp [h]
  · simp [h, show ¬ (q : Int) = (p : Int) by omega]
theorem collect_ok {gf : Nat} {lb : List Value} (hen : Enters P gf) {rds : List Nat} {Part : List Nat → Nat → Prop} {Good : List Nat → Prop}
    (hseq : ∀ w1, Ext w w1 → SeqG P gf lb w1 rds [] (fun q => [u64V q]) Part Good) (hrds : ∀ b ∈ rds, b < w.heap.size) (hpart : ∀ pre x, Part pre x → pre.length < 2 ^ 40) :
    Ret P A.collect [.func (.func gf) #[] lb.toArray] w fun v w' => ∃ xs, Good xs ∧ OwnC w' v 1 xs.length (xs.map u64V) ∧ Ext w w' ∧ ∀ b ∈ blkOf v, w.heap.size ≤ b := by
  refine Ret.of_exec A.h_collect (Nat.le_of_ble_eq_true rfl) fun c hc => ?_
  dsimp only [b_slices_Collect_uint64, argEnv, ym, yo, yg, ys, yt, yd, ye]
  refine xr 2 rfl ?_
  refine xca rfl rfl (appendSeq_ok A.h_appendSeq hen hseq hrds hpart) ?_
  rintro v w1 h
  refine xr 1 rfl ?_
  exact xre hc [_] ⟨rfl, trivial⟩ h
theorem sorted_ok {gf : Nat} {lb : List Value} (hen : Enters P gf) {rds : List Nat} {Part : List Nat → Nat → Prop} {Good : List Nat → Prop}
    (hseq : ∀ w1, Ext w w1 → SeqG P gf lb w1 rds [] (fun q => [u64V q]) Part Good) (hrds : ∀ b ∈ rds, b < w.heap.size) (hpart : ∀ pre x, Part pre x → pre.length < 2 ^ 40) (hgood : ∀ xs, Good xs → xs.length < 2 ^ 40) :
    Ret P A.sorted [.func (.func gf) #[] lb.toArray] w fun v w' => ∃ xs, Good xs ∧ OwnC w' v 1 xs.length ((sortN xs).map u64V) ∧ Ext w w' ∧ ∀ b ∈ blkOf v, w.heap.size ≤ b := by
  refine Ret.of_exec A.h_sorted (Nat.le_of_ble_eq_true rfl) fun c hc => ?_
  dsimp only [b_slices_Sorted_uint64, argEnv, ym, yo, yg, ys, yt, yd, ye]
  refine xr 2 rfl ?_
  refine xca rfl rfl (collect_ok A hen hseq hrds hpart) ?_
  rintro v w1 ⟨xs, hg, hO, hu, hf⟩
  refine xr 2 rfl ?_
  refine xca rfl rfl (A.h_sort w1 v xs hO (hgood xs hg)) ?_
  rintro v2 w2 ⟨hO2, hu2⟩
  refine xr 2 rfl ?_
  exact xre hc [_] ⟨rfl, trivial⟩ ⟨xs, hg, hO2, hu.trans hu2 (fun b hb => .inr (hf b hb)), hf⟩
/-- need.rising: a map's keys, in order -/
theorem rising_ok {r : Nat} {l : List (Nat × Nat)} (hm : MapAt w r u64V intV' l) (hl : l.length < 2 ^ 40) : RetS P A.rising [.map (some r)] w 1 (sortN (keys l)).length ((sortN (keys l)).map u64V) := by
  refine Ret.of_exec A.h_rising (Nat.le_of_ble_eq_true rfl) fun c hc => ?_
  dsimp only [b_need_rising_uint64_int, argEnv, ym, yo, yg, ys, yt, yd, ye]
  refine xr 2 rfl ?_
  have hk : Ret P A.keys' [.map (some r)] w fun v' w' => ∃ bs, v' = .func (.func A.keys1) #[] #[ptrV bs] ∧ Blk w' bs [.map (some r)] ∧ bs = w.heap.size ∧ Ext w w' := by
    refine Ret.of_exec A.h_keys (Nat.le_of_ble_eq_true rfl) fun c hc => ?_
    dsimp only [b_maps_Keys_map_uint64int_uint64_int, argEnv, ym, yo, yg, ys, yt, yd, ye]
    refine exec_box rfl rfl ?_
    intro b w2 hb hs hu hB
    refine xr 3 rfl ?_
    exact xre hc [_] ⟨rfl, trivial⟩ ⟨b, rfl, hB, hb, hu⟩
  refine xca rfl rfl hk ?_
  rintro v w1 ⟨bs, rfl, hB, hbs, hu1⟩
  have hkl : (keys l).length = l.length := by simp [keys]
  refine xca rfl rfl (sorted_ok A A.h_keys1.enters (lb := [ptrV bs]) (fun W hu => keysU1_ok A.h_keys1 (hB.upd hu) ((hm.upd hu1).upd hu)) ?_ ?_ ?_) ?_
  · intro b hb
    simp at hb
    rcases hb with rfl | rfl
    · exact hB.lt
    · exact (hm.upd hu1).lt
  · rintro pre x ⟨_, h⟩; omega
  · intro xs h; have := h.length_eq; omega
  rintro v2 w2 ⟨xs, hg, hO, hu2, hf⟩
  refine xr 1 rfl ?_
  have z1 := hu1.size
  refine xre hc [_] ⟨rfl, trivial⟩ ⟨?_, hu1.trans hu2, fun b hb => by have := hf b hb; omega⟩
  have e1 : sortN xs = sortN (keys l) := sortN_eq hg
  have e2 : xs.length = (sortN (keys l)).length := by rw [← e1]; exact (sortN_perm xs).length_eq.symm
  rw [← e1, ← e2] at *
  rw [e1] at hO
  rw [← e2]
  exact hO
end
end Go.Sp

namespace Go.Sp
def onesOf (l : List Nat) : List (Nat × Nat) := l.map fun t => (t, 1)
theorem keys_ones (l : List Nat) : keys (onesOf l) = l := by simp [keys, onesOf, Function.comp_def]
theorem aget_ones {l : List Nat} {t : Nat} : aget t (onesOf l) = if t ∈ l then some 1 else none := by
  induction l with
  | nil => rfl
  | cons a l ih =>
    simp only [onesOf, List.map_cons, aget] at ih ⊢
    by_cases h : a = t
    · simp [h]
    · rw [if_neg h, ih]; simp [h, Ne.symm h]
theorem aset_ones {l : List Nat} {t : Nat} (h : t ∉ l) : aset t 1 (onesOf l) = onesOf (l ++ [t]) := by
  rw [aset_new (aidx_none.2 (by rw [keys_ones]; exact h))]
  simp [onesOf]
section
variable {P : Program} {f : Nat} {w : World} (A : NeedF P)
theorem optGetD (o : Option Nat) : ((o.map intV').getD (.int .i64 0)) = intV' (o.getD 0) := by cases o <;> rfl
set_option maxHeartbeats 400000 in
theorem made_ok (n : Nat) {tv : Value} {T : List Nat} (hn : n < 2 ^ 64) (hS : SlC w tv 1 T.length (T.map u64V)) (hT : ∀ t ∈ T, t < 2 ^ 64) (hlen : T.length < 2 ^ 40) (hbl : ∀ b ∈ blkOf tv, b < w.heap.size) :
    Ret P A.made [u64V n, tv] w fun v w' => Ext w w' ∧ match madeN n T with
      | none => v = .tuple #[.pointer none, intV' 2]
      | some m => ∃ bp rt rw, v = .tuple #[ptrV bp, intV' 0] ∧ Blk w' bp [u64V n, intV' (rowsN n), .map (some rt), .map (some rw)] ∧ MapAt w' rt u64V intV' (onesOf T) ∧ MapAt w' rw u64V intV' m ∧
          w.heap.size ≤ bp ∧ w.heap.size ≤ rt ∧ w.heap.size ≤ rw ∧ n < 2 ^ 63 ∧ m.length ≤ 65 * T.length ∧ (∀ p ∈ keys m, p < 2 ^ 64) := by
  refine Ret.of_exec A.h_made (Nat.le_of_ble_eq_true rfl) fun c hc => ?_
  dsimp only [b_need_made, argEnv, ym, yo, yg, ys, yt, yd, ye]
  refine exec_new rfl ?_
  intro b4 w1 hb4 hs1 hu1 hB4
  refine exec_new rfl ?_
  intro b5 w2 hb5 hs2 hu2 hB5
  refine xr 1 rfl ?_
  refine xca rfl rfl (rows_ok A.toPosF n hn) ?_
  rintro v w3 ⟨rfl, hu3⟩
  have z3 := hu3.size
  -- a refusal
  have refuse : ∀ (W : World) (ms : List Nat) (D : List Deferred) (is : List Ins) (k : Kont) (e : Env), madeN n T = none → Ext w W → Blk W b4 [.pointer none] → Blk W b5 [intV' 2] → D = ms.map markOf → ms.Nodup →
      (∀ r ∈ ms, W.heap[r]? = some (.deferred (some [])) ∧ w.heap.size ≤ r ∧ r ≠ b4 ∧ r ≠ b5) → e.get 4 = some (ptrV b4) → e.get 5 = some (ptrV b5) → Exec P 98 c D (.ret :: is) k e W := by
    intro W ms D is k e hno hu h4 h5 hD hnd hms he4 he5
    refine exec_returnM hc ms hD hnd (fun r hr => (hms r hr).1) [.pointer none, intV' 2] fun W' hu' hs' => ?_
    have g4 := h4.upd hu' (fun h => (hms _ h).2.2.1 rfl)
    have g5 := h5.upd hu' (fun h => (hms _ h).2.2.2 rfl)
    refine ⟨⟨⟨b4, 0, he4, g4.cell rfl⟩, ⟨b5, 0, he5, g5.cell rfl⟩, trivial⟩, hu.trans hu' (fun b hb => .inr (hms b hb).2.1), ?_⟩
    rw [hno]; rfl
  have refuse2 : ∀ (W : World) (ms : List Nat) (D : List Deferred) (is : List Ins) (k : Kont) (e : Env) (v4 : Value), madeN n T = none → Ext w W → Blk W b4 [v4] → Blk W b5 [intV' 0] → D = ms.map markOf → ms.Nodup →
      (∀ r ∈ ms, W.heap[r]? = some (.deferred (some [])) ∧ w.heap.size ≤ r ∧ r ≠ b4 ∧ r ≠ b5) → e.get 4 = some (ptrV b4) → e.get 5 = some (ptrV b5) →
      Exec P 98 c D (.op none none (.store 1 (.tmp 4) (.const (.pointer none))) :: .op none none (.store 1 (.tmp 5) (.const (.int .i64 2))) :: .ret :: is) k e W := by
    intro W ms D is k e v4 hno hu h4 h5 hD hnd hms he4 he5
    refine exec_store (b := b4) (o := 0) (v := .pointer none) he4 rfl h4 rfl (by simp) rfl ?_
    intro W1 hu1' hs1' g4
    refine exec_store (b := b5) (o := 0) (v := intV' 2) he5 rfl (h5.upd hu1' (by simp; omega)) rfl (by simp) rfl ?_
    intro W2 hu2' hs2' g5
    refine refuse W2 ms D is k e hno ((hu.trans hu1' (fun b hb => .inr (by simp at hb; omega))).trans hu2' (fun b hb => .inr (by simp at hb; omega))) (g4.upd hu2' (by simp; omega)) g5 hD hnd (fun r hr => ?_) he4 he5
    obtain ⟨q1, q2, q3, q4⟩ := hms r hr
    have hlt := (Array.getElem?_eq_some_iff.1 q1).1
    exact ⟨(hu2'.block r (by omega) (by simp; exact q4)).trans ((hu1'.block r hlt (by simp; exact q3)).trans q1), q2, q3, q4⟩
  by_cases h63 : n < 2 ^ 63
  case neg =>
    rw [if_neg h63]
    refine xr 8 rfl ?_
    have q4 : Blk w3 b4 [.pointer none] := (hB4.upd hu2).upd hu3
    have q5 : Blk w3 b5 [intV' 0] := hB5.upd hu3
    have hno : madeN n T = none := by rw [madeN, if_neg (fun h => h63 h.1)]
    refine refuse2 w3 [] _ _ _ _ _ hno ((hu1.trans hu2).trans hu3) q4 q5 rfl (by simp) (by simp) ?_ ?_
    · rfl
    · rfl
  rw [if_pos h63]
  refine xr 11 rfl ?_
  refine exec_mkMap rfl ?_
  intro rt w4 hrt hs4 hu4 hMt
  refine exec_mkMap rfl ?_
  intro rw w5 hrw hs5 hu5 hMw
  refine xju (ok_mkL rfl rfl) rfl ?_
  refine exec_box rfl rfl ?_
  intro bp w6 hbp hs6 hu6 hBp
  refine exec_new_store (v := ptrV bp) rfl rfl rfl rfl rfl rfl ?_
  intro b8 w7 hb8 hs7 hu7 hB8
  refine xr 1 rfl ?_
  have z7 : w7.heap.size = w3.heap.size + 4 := by omega
  have E7 : Ext w w7 := (((((hu1.trans hu2).trans hu3).trans hu4).trans hu5).trans hu6).trans hu7
  have g4 : Blk w7 b4 [.pointer none] := (((((hB4.upd hu2).upd hu3).upd hu4).upd hu5).upd hu6).upd hu7
  have g5 : Blk w7 b5 [intV' 0] := ((((hB5.upd hu3).upd hu4).upd hu5).upd hu6).upd hu7
  have gp : Blk w7 bp [u64V n, intV' (rowsN n), .map (some rt), .map (some rw)] := hBp.upd hu7
  have gt : MapAt w7 rt u64V intV' (onesOf []) := ((MapAt.empty hMt).upd hu5 |>.upd hu6).upd hu7
  have gw : MapAt w7 rw u64V intV' ([] : List (Nat × Nat)) := ((MapAt.empty hMw).upd hu6).upd hu7
  have hS7 : SlC w7 tv 1 T.length (T.map u64V) := hS.upd E7 (by simp)
  refine xpu (hS7.lenS rfl) rfl ?_
  refine xr 2 rfl ?_
  have k4 : b4 < w7.heap.size := g4.lt
  have hne : b4 ≠ b5 ∧ b4 ≠ rt ∧ b4 ≠ rw ∧ b4 ≠ bp ∧ b4 ≠ b8 ∧ b5 ≠ rt ∧ b5 ≠ rw ∧ b5 ≠ bp ∧ b5 ≠ b8 ∧ rt ≠ rw ∧ rt ≠ bp ∧ rt ≠ b8 ∧ rw ≠ bp ∧ rw ≠ b8 ∧ bp ≠ b8 := by omega
  have hall : w.heap.size ≤ b4 ∧ w.heap.size ≤ b5 ∧ w.heap.size ≤ rt ∧ w.heap.size ≤ rw ∧ w.heap.size ≤ bp ∧ w.heap.size ≤ b8 := by omega
  -- the targets, one by one
  refine xlo (S := Nat) (fun i W => i ≤ T.length ∧ Ext w W ∧ Blk W b4 [.pointer none] ∧ Blk W b5 [intV' 0] ∧ Blk W bp [u64V n, intV' (rowsN n), .map (some rt), .map (some rw)] ∧ Blk W b8 [ptrV bp] ∧ MapAt W rt u64V intV' (onesOf (T.take i)) ∧ MapAt W rw u64V intV' ([] : List (Nat × Nat)) ∧ (∀ t ∈ T.take i, (treeN n t).isSome = true) ∧ (T.take i).Nodup)
    (fun i => [(0, u64V n), (1, tv), (4, ptrV b4), (5, ptrV b5), (8, ptrV b8), (29, tv), (30, intV' T.length), (31, intV' i)]) (fun i => T.length - i) 0
    ⟨Nat.zero_le _, E7, g4, g5, gp, hB8, gt, gw, by simp, by simp⟩ ⟨rfl, rfl, rfl, rfl, rfl, rfl, rfl, rfl, trivial⟩ ?_
  rintro i W ⟨hi, hE, h4, h5, hp, h8, ht, hw, hok, hnd⟩
  refine xr 1 rfl ?_
  refine exec_cond rfl (fun h1 => ?_) (fun h1 => ?_)
  · simp only [decide_eq_true_eq] at h1
    have hil : i < T.length := by omega
    obtain ⟨t, htt⟩ : ∃ t, T[i]? = some t := ⟨_, List.getElem?_eq_getElem hil⟩
    have ht64 := hT t (List.mem_of_getElem? htt)
    have htk : T.take (i + 1) = T.take i ++ [t] := by rw [List.take_add_one, htt]; rfl
    have hSW : SlC W tv 1 T.length (T.map u64V) := hS.upd hE (by simp)
    obtain ⟨b, o, cap, htv, hm, _⟩ := hSW.at (by omega)
    refine xr 2 rfl ?_
    refine xju (ok_iaddr (b := b) (o := o) (len := T.length) (cap := cap) (by rw [← htv]; rfl) rfl i rfl hil) rfl ?_
    refine exec_load1 (b := b) (o := o + i * 1) (v := u64V t) rfl rfl (by rw [Nat.mul_one]; exact hm i _ (by simp [htt])) ?_
    refine xr 3 rfl ?_
    refine xca rfl rfl (tree_ok A.toWayF n t hn ht64) ?_
    rintro v W1 ⟨rfl, hu1⟩
    obtain ⟨th, is0, hrw', htr⟩ : ∃ (r : Nat) (is0 : Bool), optV intV' (treeN n t) = .tuple #[intV' r, .bool is0] ∧ (treeN n t).isSome = is0 := by
      cases treeN n t with
      | none => exact ⟨0, false, rfl, rfl⟩
      | some r => exact ⟨r, true, rfl, rfl⟩
    rw [hrw']
    refine xr 8 rfl ?_
    have h8' := h8.upd hu1
    have hp' := hp.upd hu1
    have ht' := ht.upd hu1
    cases is0 with
    | false =>
      refine xr 9 rfl ?_
      have hno : madeN n T = none := by
        rw [madeN, if_neg]
        rintro ⟨_, h, _⟩
        have := h t (List.mem_of_getElem? htt)
        rw [htr] at this; cases this
      exact refuse2 W1 [] _ _ _ _ _ hno (hE.trans hu1) (h4.upd hu1) (h5.upd hu1) rfl (by simp) (by simp) rfl rfl
    | true =>
      refine xr 1 rfl ?_
      refine exec_load1 (b := b8) (o := 0) rfl rfl (h8'.cell rfl) ?_
      refine xr 5 rfl ?_
      refine exec_load1 (b := bp) (o := 0 + 2) rfl rfl (hp'.cell rfl) ?_
      refine xr 3 rfl ?_
      refine xju (ok_lookup (keyOK_nat A.hU) rfl rfl ht') rfl ?_
      rw [aget_ones]
      refine xr 1 rfl ?_
      by_cases hin : t ∈ T.take i
      · rw [if_pos hin]
        refine xr 3 rfl ?_
        have hno : madeN n T = none := by
          rw [madeN, if_neg]
          rintro ⟨_, _, h⟩
          obtain ⟨j, hj⟩ := List.getElem?_of_mem hin
          rw [List.getElem?_take] at hj
          split at hj
          · rename_i hji
            have := (List.getElem?_inj (by omega) h).1 (hj.trans htt.symm)
            omega
          · cases hj
        exact refuse2 W1 [] _ _ _ _ _ hno (hE.trans hu1) (h4.upd hu1) (h5.upd hu1) rfl (by simp) (by simp) rfl rfl
      · rw [if_neg hin]
        refine xr 4 rfl ?_
        refine exec_load1 (b := b8) (o := 0) rfl rfl (h8'.cell rfl) ?_
        refine xr 2 rfl ?_
        refine exec_load1 (b := bp) (o := 0 + 2) rfl rfl (hp'.cell rfl) ?_
        refine xr 1 rfl ?_
        refine xju (ok_lookup (keyOK_nat A.hU) rfl rfl ht') rfl ?_
        rw [aget_ones, if_neg hin]
        refine xpu (pv_addI (a := 0) (b := 1) rfl rfl (by omega)) rfl ?_
        refine exec_mapUpd (a := t) (b := 1) (keyOK_nat A.hU) rfl rfl rfl ht' ?_
        intro W2 hu2 hs2 hm2
        rw [aset_ones hin, ← htk] at hm2
        refine xr 2 rfl ?_
        refine xpu (pv_addI (a := i) (b := 1) rfl rfl (by omega)) rfl ?_
        refine xr 1 rfl ?_
        refine xag (i + 1) ⟨hil, (hE.trans hu1).trans hu2 (fun b hb => .inr (by simp at hb; omega)), (h4.upd hu1).upd hu2 (by simp; omega), (h5.upd hu1).upd hu2 (by simp; omega), hp'.upd hu2 (by simp; omega), h8'.upd hu2 (by simp; omega), hm2, (hw.upd hu1).upd hu2 (by simp; omega), ?_, ?_⟩ (by show T.length - (i + 1) < T.length - i; omega) ⟨rfl, rfl, rfl, rfl, rfl, rfl, rfl, rfl, trivial⟩
        · intro t' ht'
          rw [htk] at ht'
          rcases List.mem_append.1 ht' with h | h
          · exact hok t' h
          · simp at h; subst h; exact htr
        · rw [htk]
          exact List.nodup_append.2 ⟨hnd, by simp, fun a ha b hb => by simp at hb; subst hb; exact fun h => hin (h ▸ ha)⟩
  · simp only [decide_eq_false_iff_not] at h1
    have : i = T.length := by omega
    subst this
    refine xr 3 rfl ?_
    rw [List.take_length] at ht hok hnd
    have hmade : madeN n T = addWays n T T [] := by rw [madeN, if_pos ⟨h63, hok, hnd⟩]
    have hSW : SlC W tv 1 T.length (T.map u64V) := hS.upd hE (by simp)
    refine xpu (hSW.lenS rfl) rfl ?_
    refine xr 2 rfl ?_
    refine exec_loopD (S := Nat × List (Nat × Nat) × List Nat) (fun s => s.2.2.map markOf)
      (fun s W => s.1 ≤ T.length ∧ Ext w W ∧ Blk W b4 [.pointer none] ∧ Blk W b5 [intV' 0] ∧ Blk W bp [u64V n, intV' (rowsN n), .map (some rt), .map (some rw)] ∧ Blk W b8 [ptrV bp] ∧ MapAt W rt u64V intV' (onesOf T) ∧ MapAt W rw u64V intV' s.2.1 ∧
        addWays n T T [] = addWays n T (T.drop s.1) s.2.1 ∧ (∀ p, (aget p s.2.1).getD 0 ≤ 66 * s.1) ∧ s.2.1.length ≤ 65 * s.1 ∧ (∀ p ∈ keys s.2.1, p < 2 ^ 64) ∧ s.2.2.Nodup ∧
        (∀ r ∈ s.2.2, W.heap[r]? = some (.deferred (some [])) ∧ w.heap.size ≤ r ∧ r ≠ b4 ∧ r ≠ b5 ∧ r ≠ rw ∧ r ≠ bp ∧ r ≠ b8 ∧ r ≠ rt))
      (fun s => [(0, u64V n), (1, tv), (4, ptrV b4), (5, ptrV b5), (8, ptrV b8), (60, tv), (61, intV' T.length), (62, intV' s.1)]) (fun s => T.length - s.1) (0, [], []) rfl
      ⟨Nat.zero_le _, hE, h4, h5, hp, h8, ht, hw, rfl, by simp [aget], by simp, by simp [keys], by simp, by simp⟩ ⟨rfl, rfl, rfl, rfl, rfl, rfl, rfl, rfl, trivial⟩ ?_
    rintro ⟨i, m, ms⟩ W ⟨hi, hE, h4, h5, hp, h8, ht, hw, hres, hval, hml, hm64, hmn, hms⟩
    simp only at hi hw hres hval hml hm64 hmn hms
    have hK := hw.nodup
    refine xr 1 rfl ?_
    refine exec_cond rfl (fun h1 => ?_) (fun h1 => ?_)
    · simp only [decide_eq_true_eq] at h1
      have hil : i < T.length := by omega
      obtain ⟨t, htt⟩ : ∃ t, T[i]? = some t := ⟨_, List.getElem?_eq_getElem hil⟩
      have ht64 := hT t (List.mem_of_getElem? htt)
      have hdr : T.drop i = t :: T.drop (i + 1) := by
        rw [List.drop_eq_getElem_cons hil]; congr 1; exact (List.getElem?_eq_some_iff.1 htt).2
      have hSW : SlC W tv 1 T.length (T.map u64V) := hS.upd hE (by simp)
      obtain ⟨b, o, cap, htv, hm, _⟩ := hSW.at (by omega)
      refine xr 2 rfl ?_
      refine xju (ok_iaddr (b := b) (o := o) (len := T.length) (cap := cap) (by rw [← htv]; rfl) rfl i rfl hil) rfl ?_
      refine exec_load1 (b := b) (o := o + i * 1) (v := u64V t) rfl rfl (by rw [Nat.mul_one]; exact hm i _ (by simp [htt])) ?_
      refine exec_new_store (v := u64V t) rfl rfl rfl rfl rfl rfl ?_
      intro b14 W1 hb14 hsW1 hu1 hB14
      refine xr 1 rfl ?_
      refine exec_load1 (b := b14) (o := 0) rfl rfl (hB14.cell rfl) ?_
      refine xca rfl rfl (needUp_ok A n t hn ht64) ?_
      rintro v W2 ⟨bs, sv, rfl, hBs, hOs, hbs1, hbs2, hbs3, hu2⟩
      have y1 := hu1.size
      have y2 := hu2.size
      have y0 := hE.size
      have EW : Ext W W2 := hu1.trans hu2
      have j4 := h4.lt
      have j5 := h5.lt
      have jp := hp.lt
      have j8 := h8.lt
      have jt := ht.lt
      have jw := hw.lt
      have j14 := hB14.lt
      have jbs := hBs.lt
      have hmsz : ∀ r ∈ ms, r < W.heap.size := fun r hr => (Array.getElem?_eq_some_iff.1 (hms r hr).1).1
      have hwl := wayN_length n t
      refine xr 1 rfl ?_
      have hout : ∀ (D0 : Nat) (m' : List (Nat × Nat)) (W3 : World) (e : Env), addWay T t (wayN n t) m = some m' → Ext w W3 → Blk W3 b4 [.pointer none] → Blk W3 b5 [intV' 0] → Blk W3 bp [u64V n, intV' (rowsN n), .map (some rt), .map (some rw)] → Blk W3 b8 [ptrV bp] → MapAt W3 rt u64V intV' (onesOf T) → MapAt W3 rw u64V intV' m' →
          (∀ p, (aget p m').getD 0 ≤ 66 * i + 66) → m'.length ≤ m.length + 65 → (∀ p ∈ keys m', p < 2 ^ 64) → W2.heap.size ≤ D0 → W3.heap[D0]? = some (.deferred (some [])) → (∀ r ∈ ms, W3.heap[r]? = some (.deferred (some []))) →
          Env.sub [(0, u64V n), (1, tv), (4, ptrV b4), (5, ptrV b5), (8, ptrV b8), (60, tv), (61, intV' T.length), (62, intV' i)] e →
          Exec P 98 c (markOf D0 :: ms.map markOf) [.op none (some 96) (.ibin .add (.tmp 62) (.const (.int .i64 1))), .op none (some 62) (.mov (.tmp 96))] (.stop (AgainD 98 (fun s : Nat × List (Nat × Nat) × List Nat => s.2.2.map markOf)
            (fun s W => s.1 ≤ T.length ∧ Ext w W ∧ Blk W b4 [.pointer none] ∧ Blk W b5 [intV' 0] ∧ Blk W bp [u64V n, intV' (rowsN n), .map (some rt), .map (some rw)] ∧ Blk W b8 [ptrV bp] ∧ MapAt W rt u64V intV' (onesOf T) ∧ MapAt W rw u64V intV' s.2.1 ∧
              addWays n T T [] = addWays n T (T.drop s.1) s.2.1 ∧ (∀ p, (aget p s.2.1).getD 0 ≤ 66 * s.1) ∧ s.2.1.length ≤ 65 * s.1 ∧ (∀ p ∈ keys s.2.1, p < 2 ^ 64) ∧ s.2.2.Nodup ∧
              (∀ r ∈ s.2.2, W.heap[r]? = some (.deferred (some [])) ∧ w.heap.size ≤ r ∧ r ≠ b4 ∧ r ≠ b5 ∧ r ≠ rw ∧ r ≠ bp ∧ r ≠ b8 ∧ r ≠ rt))
            (fun s => [(0, u64V n), (1, tv), (4, ptrV b4), (5, ptrV b5), (8, ptrV b8), (60, tv), (61, intV' T.length), (62, intV' s.1)]) (fun s => T.length - s.1) (i, m, ms)) (.blk 2 (.seq [.op none (some 97) (.load1 (.tmp 8)), .op none none (.store 1 (.tmp 4) (.tmp 97)), .op none none (.store 1 (.tmp 5) (.const (.int .i64 0))), .ret] .done))) e W3 := by
        intro D0 m' W3 e q1 q2 q3 q4 q5 q6 q7 q8 q9 q10 q11 q12 q13 q14 q15
        refine xen _ q15 ?_
        refine xpu (pv_addI (a := i) (b := 1) rfl rfl (by omega)) rfl ?_
        refine xr 1 rfl ?_
        refine exec_againD (i + 1, m', D0 :: ms) ⟨hil, q2, q3, q4, q5, q6, q7, q8, ?_, fun p => by have := q9 p; show _ ≤ 66 * (i + 1); omega, by show m'.length ≤ 65 * (i + 1); omega, q11, ?_, ?_⟩ (by show T.length - (i + 1) < T.length - i; omega) rfl ⟨rfl, rfl, rfl, rfl, rfl, rfl, rfl, rfl, trivial⟩
        · rw [hres, hdr]; simp only [addWays, q1]
        · exact List.nodup_cons.2 ⟨fun h => by have := hmsz _ h; omega, hmn⟩
        · intro r hr
          rcases List.mem_cons.1 hr with rfl | hr
          · refine ⟨q13, by omega, by omega, by omega, by omega, by omega, by omega, by omega⟩
          · exact ⟨q14 r hr, (hms r hr).2⟩
      refine exec_rangeF (S := List (Nat × Nat)) rfl A.h_values1.enters hc.rd (bs :: blkOf sv) [] (fun q => [u64V q]) (wayN n t)
        (fun W3 hu => values1_ok A.h_values1 (hBs.upd hu) (hOs.sl.upd hu (by simp)) (by omega) (fun b' hb' => by have := hOs.lt b' hb'; have := hu.size; omega)) u64V (fun _ => rfl) rfl
        w.heap.size [] (fun _ => b4 :: b5 :: rw :: rt :: bp :: b8 :: b14 :: ms)
        (fun k m' W3 => Ext w W3 ∧ Blk W3 b4 [.pointer none] ∧ Blk W3 b5 [intV' 0] ∧ Blk W3 bp [u64V n, intV' (rowsN n), .map (some rt), .map (some rw)] ∧ Blk W3 b8 [ptrV bp] ∧ Blk W3 b14 [u64V t] ∧ MapAt W3 rt u64V intV' (onesOf T) ∧ MapAt W3 rw u64V intV' m' ∧
          k ≤ (wayN n t).length ∧ addWay T t (wayN n t) m = addWay T t ((wayN n t).drop k) m' ∧ (∀ p, (aget p m').getD 0 ≤ 66 * i + k) ∧ m'.length ≤ m.length + k ∧ (∀ p ∈ keys m', p < 2 ^ 64) ∧ (∀ r ∈ ms, W3.heap[r]? = some (.deferred (some []))))
        (fun cd m' W3 => Ext w W3 ∧ (∀ r ∈ ms, W3.heap[r]? = some (.deferred (some []))) ∧ match cd with
          | none => madeN n T = none ∧ Blk W3 b4 [.pointer none] ∧ Blk W3 b5 [intV' 2]
          | some id => id = 4 ∧ Blk W3 b4 [.pointer none] ∧ Blk W3 b5 [intV' 0] ∧ Blk W3 bp [u64V n, intV' (rowsN n), .map (some rt), .map (some rw)] ∧ Blk W3 b8 [ptrV bp] ∧ MapAt W3 rt u64V intV' (onesOf T) ∧ MapAt W3 rw u64V intV' m' ∧
            addWay T t (wayN n t) m = some m' ∧ (∀ p, (aget p m').getD 0 ≤ 66 * i + 66) ∧ m'.length ≤ m.length + 65 ∧ (∀ p ∈ keys m', p < 2 ^ 64)) m ?_ ?_ ?_ ?_ ?_ ?_ ?_ (fun _ => rfl) rfl ?_ ?_ ?_
      · intro k m' W3 W4 l' ⟨q1, q2, q3, q4, q5, q6, q7, q8, q9, q10, q11, q12, q13, q14⟩ hu hb
        have nn : ∀ x, x ∈ b4 :: b5 :: rw :: rt :: bp :: b8 :: b14 :: ms → x ∉ l' := fun x hx hm => (hb x hm).2 hx
        refine ⟨q1.trans hu (fun b hb' => .inr (hb b hb').1), q2.upd hu (nn _ (by simp)), q3.upd hu (nn _ (by simp)), q4.upd hu (nn _ (by simp)), q5.upd hu (nn _ (by simp)), q6.upd hu (nn _ (by simp)), q7.upd hu (nn _ (by simp)), q8.upd hu (nn _ (by simp)), q9, q10, q11, q12, q13, fun r hr => ?_⟩
        exact (hu.block r (Array.getElem?_eq_some_iff.1 (q14 r hr)).1 (nn r (by simp [hr]))).trans (q14 r hr)
      · intro cd m' W3 W4 l' ⟨q1, q14, q2⟩ hu hb
        have nn : ∀ x, x ∈ b4 :: b5 :: rw :: rt :: bp :: b8 :: b14 :: ms → x ∉ l' := fun x hx hm => (hb x hm).2 hx
        refine ⟨q1.trans hu (fun b hb' => .inr (hb b hb').1), fun r hr => (hu.block r (Array.getElem?_eq_some_iff.1 (q14 r hr)).1 (nn r (by simp [hr]))).trans (q14 r hr), ?_⟩
        cases cd with
        | none => exact ⟨q2.1, q2.2.1.upd hu (nn _ (by simp)), q2.2.2.upd hu (nn _ (by simp))⟩
        | some id =>
          obtain ⟨p1, p2, p3, p4, p5, p6, p7, p8⟩ := q2
          exact ⟨p1, p2.upd hu (nn _ (by simp)), p3.upd hu (nn _ (by simp)), p4.upd hu (nn _ (by simp)), p5.upd hu (nn _ (by simp)), p6.upd hu (nn _ (by simp)), p7.upd hu (nn _ (by simp)), p8⟩
      · exact ⟨hE.trans EW, h4.upd EW, h5.upd EW, hp.upd EW, h8.upd EW, hB14.upd hu2, ht.upd EW, hw.upd EW, Nat.zero_le _, by simp, fun p => by have := hval p; omega, by omega, hm64, fun r hr => (EW.block r (hmsz r hr) (by simp)).trans (hms r hr).1⟩
      · omega
      · intro b' hb'
        simp only [List.nil_append, List.mem_cons] at hb'
        rcases hb' with h | h | h | h | h | h | h | h
        all_goals first | omega | (have := hmsz b' h; omega)
      · simp
      · intro b' hb'
        have hlt : b' < W2.heap.size ∧ W1.heap.size ≤ b' := by
          rcases List.mem_cons.1 hb' with rfl | h
          · exact ⟨jbs, hbs2⟩
          · exact ⟨hOs.lt b' h, hbs3 b' h⟩
        refine ⟨hlt.1, by simp, fun h => ?_⟩
        simp only [List.mem_cons] at h
        rcases h with h | h | h | h | h | h | h | h
        all_goals first | omega | (have := hmsz b' h; omega)
      · -- a round
        rintro l c' k m' W3 q hc' ⟨q1, q2, q3, q4, q5, q6, q7, q8, q9, q10, q11, q12, q13, q14⟩ hq hlw hnw
        have hql : k < (wayN n t).length := (List.getElem?_eq_some_iff.1 hq).1
        have hq64 := wayN_lt ht64 q (List.mem_of_getElem? hq)
        have hdrw : (wayN n t).drop k = q :: (wayN n t).drop (k + 1) := by
          rw [List.drop_eq_getElem_cons hql]; congr 1; exact (List.getElem?_eq_some_iff.1 hq).2
        have r4 := q2.lt
        have r5 := q3.lt
        have rp := q4.lt
        have r8 := q5.lt
        have rt' := q7.lt
        have rw' := q8.lt
        have r14 := q6.lt
        have rms : ∀ r ∈ ms, r < W3.heap.size := fun r hr => (Array.getElem?_eq_some_iff.1 (q14 r hr)).1
        have hlocs : ∀ b' ∈ b4 :: b5 :: rw :: rt :: bp :: b8 :: b14 :: ms, b' < W3.heap.size := by
          intro b' hb'
          simp only [List.mem_cons] at hb'
          rcases hb' with h | h | h | h | h | h | h | h
          all_goals first | omega | (have := rms b' h; omega)
        have n4 : b4 ∉ ms := fun h => (hms _ h).2.2.1 rfl
        have n5 : b5 ∉ ms := fun h => (hms _ h).2.2.2.1 rfl
        have nw : rw ∉ ms := fun h => (hms _ h).2.2.2.2.1 rfl
        refine xbk ?_
        refine xr 1 rfl ?_
        refine exec_load1 (b := b14) (o := 0) rfl rfl (q6.cell rfl) ?_
        refine xr 2 rfl ?_
        -- behind the test
        have hcount : ∀ e, e.get 8 = some (ptrV b8) → e.get 15 = some (u64V q) → ¬ (q ≠ t ∧ q ∈ T) → Exec P 98 c' [] [.op none (some 82) (.load1 (.tmp 8)),
                .op none (some 83) (.nilc (.tmp 82)),
                .op none (some 84) (.faddr 3 (.tmp 83)),
                .op none (some 85) (.load1 (.tmp 84)),
                .op none (some 86) (.mov (.tmp 15)),
                .op none (some 87) (.lookup A.T1 (.int .i64 0) (.tmp 85) (.tmp 86) false),
                .op none (some 88) (.ibin .add (.tmp 87) (.const (.int .i64 1))),
                .op none none (.mapUpd A.T1 (.tmp 85) (.tmp 86) (.tmp 88)),
                .op none (some 89) (.load1 (.tmp 8)),
                .op none (some 90) (.nilc (.tmp 89)),
                .op none (some 91) (.faddr 3 (.tmp 90)),
                .op none (some 92) (.load1 (.tmp 91)),
                .op none (some 93) (.mov (.tmp 15)),
                .op none (some 94) (.lookup A.T1 (.int .i64 0) (.tmp 92) (.tmp 93) false),
                .op none (some 95) (.ibin .gtr (.tmp 94) (.const (.int .i64 1))),
                .cond (.tmp 95) [
                  .exit 4] []] (.blk 5 (.seq [] .done)) e W3 := by
          intro e he8 he15 hnt
          refine xen [(8, ptrV b8), (15, u64V q)] ⟨he8, he15, trivial⟩ ?_
          refine exec_load1 (b := b8) (o := 0) rfl rfl (q5.cell rfl) ?_
          refine xr 2 rfl ?_
          refine exec_load1 (b := bp) (o := 0 + 3) rfl rfl (q4.cell rfl) ?_
          refine xr 1 rfl ?_
          refine xju (ok_lookup (keyOK_nat A.hU) rfl rfl q8) rfl ?_
          simp only [Bool.false_eq_true, if_false, optGetD]
          have hv := q11 q
          refine xpu (pv_addI (a := (aget q m').getD 0) (b := 1) rfl rfl (by omega)) rfl ?_
          refine exec_mapUpd (a := q) (b := (aget q m').getD 0 + 1) (keyOK_nat A.hU) rfl rfl rfl q8 ?_
          intro W4 hu4 hs4' hm4
          have s5 := q5.upd hu4 (by simp; omega)
          have s4 := q4.upd hu4 (by simp; omega)
          refine exec_load1 (b := b8) (o := 0) rfl rfl (s5.cell rfl) ?_
          refine xr 2 rfl ?_
          refine exec_load1 (b := bp) (o := 0 + 3) rfl rfl (s4.cell rfl) ?_
          refine xr 1 rfl ?_
          refine xju (ok_lookup (keyOK_nat A.hU) rfl rfl hm4) rfl ?_
          simp only [Bool.false_eq_true, if_false, aget_set, if_true, Option.map_some, Option.getD_some]
          refine xr 1 rfl ?_
          have hE4 : Ext w W4 := q1.trans hu4 (fun b hb => .inr (by simp at hb; omega))
          have hU4 : Upd ([] ++ (b4 :: b5 :: rw :: rt :: bp :: b8 :: b14 :: ms)) W3 W4 := hu4.mono (by simp)
          have hval4 : ∀ p, (aget p (aset q ((aget q m').getD 0 + 1) m')).getD 0 ≤ 66 * i + (k + 1) := by
            intro p
            rw [aget_set]
            split
            · simp only [Option.getD_some]; omega
            · have := q11 p; omega
          have hlen4 : (aset q ((aget q m').getD 0 + 1) m').length ≤ m.length + (k + 1) := by
            have : (aset q ((aget q m').getD 0 + 1) m').length ≤ m'.length + 1 := by
              cases hx : aidx q m' with
              | none => rw [aset_new hx]; simp
              | some j => rw [aset_some hx]; simp
            omega
          have hk4 : ∀ p ∈ keys (aset q ((aget q m').getD 0 + 1) m'), p < 2 ^ 64 := by
            intro p hp
            rcases (keys_set p).1 hp with rfl | h
            · exact hq64
            · exact q13 p h
          have hms4 : ∀ r ∈ ms, W4.heap[r]? = some (.deferred (some [])) := fun r hr => (hu4.block r (rms r hr) (by simp; intro h; subst h; exact nw hr)).trans (q14 r hr)
          have hstep : addWay T t (wayN n t) m = if (aget q m').getD 0 + 1 > 1 then some (aset q ((aget q m').getD 0 + 1) m') else addWay T t ((wayN n t).drop (k + 1)) (aset q ((aget q m').getD 0 + 1) m') := by
            rw [q10, hdrw]; simp only [addWay, if_neg hnt]
          refine exec_cond rfl (fun h2 => ?_) (fun h2 => ?_)
          · simp only [gt_iff_lt, decide_eq_true_eq] at h2
            skip
            refine exec_round_exit hc' rfl ⟨aset q ((aget q m').getD 0 + 1) m', ⟨hE4, hms4, rfl, q2.upd hu4 (by simp; omega), q3.upd hu4 (by simp; omega), s4, s5, q7.upd hu4 (by simp; omega), hm4, ?_, fun p => by have := hval4 p; omega, by omega, hk4⟩, hU4, fun b hb => .inl hb, fun b hb => by rw [hs4']; exact hlocs b hb⟩
            rw [hstep, if_pos (by omega)]
          · simp only [gt_iff_lt, decide_eq_false_iff_not] at h2
            refine xr 3 rfl ?_
            refine exec_round_end hc' ⟨aset q ((aget q m').getD 0 + 1) m', ⟨hE4, q2.upd hu4 (by simp; omega), q3.upd hu4 (by simp; omega), s4, s5, q6.upd hu4 (by simp; omega), q7.upd hu4 (by simp; omega), hm4, hql, ?_, hval4, hlen4, hk4, hms4⟩, hU4, fun b hb => .inl hb, fun b hb => by rw [hs4']; exact hlocs b hb⟩
            rw [hstep, if_neg (by omega)]
        have hbad : ∀ e, q ≠ t ∧ q ∈ T → e.get 4 = some (ptrV b4) → e.get 5 = some (ptrV b5) → ∀ is k, Exec P 98 c' [] (.op none none (.store 1 (.tmp 4) (.const (.pointer none))) :: .op none none (.store 1 (.tmp 5) (.const (.int .i64 2))) :: .ret :: is) k e W3 := by
          intro e hqt he4 he5 is k
          refine exec_store (b := b4) (o := 0) (v := .pointer none) he4 rfl q2 rfl (by simp) rfl ?_
          intro W4 hu4 hs4' g4'
          refine exec_store (b := b5) (o := 0) (v := intV' 2) he5 rfl (q3.upd hu4 (by simp; omega)) rfl (by simp) rfl ?_
          intro W5 hu5 hs5' g5'
          refine exec_round_ret hc' ⟨m', ⟨(q1.trans hu4 (fun b hb => .inr (by simp at hb; omega))).trans hu5 (fun b hb => .inr (by simp at hb; omega)), fun r hr => ?_, ?_, g4'.upd hu5 (by simp; omega), g5'⟩, (hu4.mono (by simp)).trans hu5 (fun b hb => .inl (by simp at hb; simp [hb])), fun b hb => .inl hb, fun b hb => by have := hlocs b hb; omega⟩
          · exact (hu5.block r (by have := rms r hr; omega) (by simp; intro h; subst h; exact n5 hr)).trans ((hu4.block r (rms r hr) (by simp; intro h; subst h; exact n4 hr)).trans (q14 r hr))
          · rw [hmade, hres, hdr]
            simp only [addWays]
            rw [q10, hdrw]
            simp only [addWay, if_pos hqt]
        refine exec_split 73 rfl (fun h2 => ?_) (fun h2 => ?_)
        · have hqt : q ≠ t := fun h => by subst h; simp at h2
          refine xr 1 rfl ?_
          refine exec_load1 (b := b8) (o := 0) rfl rfl (q5.cell rfl) ?_
          refine xr 5 rfl ?_
          refine exec_load1 (b := bp) (o := 0 + 2) rfl rfl (q4.cell rfl) ?_
          refine xr 3 rfl ?_
          refine xju (ok_lookup (keyOK_nat A.hU) rfl rfl q7) rfl ?_
          rw [aget_ones]
          by_cases hin : q ∈ T
          · rw [if_pos hin]
            refine xr 4 rfl ?_
            exact hbad _ ⟨hqt, hin⟩ rfl rfl _ _
          · rw [if_neg hin]
            refine xr 5 rfl ?_
            exact hcount _ rfl rfl (fun h => hin h.2)
        · have hqt : q = t := by
            simp at h2; omega
          refine xr 10 rfl ?_
          exact hcount _ rfl rfl (fun h => h.1 hqt)
      · -- the way's end
        rintro D0 m' W3 hD ⟨q1, q2, q3, q4, q5, q6, q7, q8, q9, q10, q11, q12, q13, q14⟩ hsh hnl
        refine xr 4 rfl ?_
        refine hout D0 m' W3 _ ?_ q1 q2 q3 q4 q5 q7 q8 (fun p => by have := q11 p; omega) (by omega) q13 hD hsh q14 ⟨rfl, rfl, rfl, rfl, rfl, rfl, rfl, rfl, trivial⟩
        rw [q10]; simp [addWay]
      · rintro cd D0 m' W3 hD ⟨q1, q14, q2⟩ hsh hnl
        have n4 : b4 ∉ ms := fun h => (hms _ h).2.2.1 rfl
        have n5 : b5 ∉ ms := fun h => (hms _ h).2.2.2.1 rfl
        cases cd with
        | none =>
          obtain ⟨p1, p2, p3⟩ := q2
          refine refuse W3 (D0 :: ms) _ _ _ _ p1 q1 p2 p3 rfl (List.nodup_cons.2 ⟨fun h => by have := hmsz _ h; omega, hmn⟩) (fun r hr => ?_) rfl rfl
          rcases List.mem_cons.1 hr with rfl | hr
          · exact ⟨hsh, by omega, by omega, by omega⟩
          · exact ⟨q14 r hr, (hms r hr).2.1, (hms r hr).2.2.1, (hms r hr).2.2.2.1⟩
        | some id =>
          obtain ⟨rfl, p2, p3, p4, p5, p6, p7, p8, p9, p10, p11⟩ := q2
          refine xex rfl ?_
          refine xr 3 rfl ?_
          exact hout D0 m' W3 _ p8 q1 p2 p3 p4 p5 p6 p7 p9 p10 p11 hD hsh q14 ⟨rfl, rfl, rfl, rfl, rfl, rfl, rfl, rfl, trivial⟩
    · simp only [decide_eq_false_iff_not] at h1
      have : i = T.length := by omega
      subst this
      refine xr 2 rfl ?_
      refine exec_load1 (b := b8) (o := 0) rfl rfl (h8.cell rfl) ?_
      refine exec_store (b := b4) (o := 0) (v := ptrV bp) rfl rfl h4 rfl (by simp) rfl ?_
      intro W1 hu1 hs1' q4
      refine exec_store (b := b5) (o := 0) (v := intV' 0) rfl rfl (h5.upd hu1 (by simp; omega)) rfl (by simp) rfl ?_
      intro W2 hu2 hs2' q5
      have hE2 : Ext w W2 := (hE.trans hu1 (fun b hb => .inr (by simp at hb; omega))).trans hu2 (fun b hb => .inr (by simp at hb; omega))
      refine exec_returnM hc ms rfl hmn (fun r hr => ?_) [ptrV bp, intV' 0] fun W' hu' hs' => ?_
      · obtain ⟨p1, p2, p3, p4, _⟩ := hms r hr
        have hlt := (Array.getElem?_eq_some_iff.1 p1).1
        exact (hu2.block r (by omega) (by simp; exact p4)).trans ((hu1.block r hlt (by simp; exact p3)).trans p1)
      · have n4 : b4 ∉ ms := fun h => (hms _ h).2.2.1 rfl
        have n5 : b5 ∉ ms := fun h => (hms _ h).2.2.2.1 rfl
        have nw : rw ∉ ms := fun h => (hms _ h).2.2.2.2.1 rfl
        have np : bp ∉ ms := fun h => (hms _ h).2.2.2.2.2.1 rfl
        have nt : rt ∉ ms := fun h => (hms _ h).2.2.2.2.2.2.2 rfl
        refine ⟨⟨⟨b4, 0, rfl, ((q4.upd hu2 (by simp; omega)).upd hu' n4).cell rfl⟩, ⟨b5, 0, rfl, (q5.upd hu' n5).cell rfl⟩, trivial⟩, hE2.trans hu' (fun b hb => .inr (hms b hb).2.1), ?_⟩
        have hmd : madeN n T = some m := by rw [hmade, hres]; simp [addWays]
        rw [hmd]
        refine ⟨bp, rt, rw, rfl, (((hp.upd hu1 (by simp; omega)).upd hu2 (by simp; omega)).upd hu' np), ((ht.upd hu1 (by simp; omega)).upd hu2 (by simp; omega)).upd hu' nt, ((hw.upd hu1 (by simp; omega)).upd hu2 (by simp; omega)).upd hu' nw, by omega, by omega, by omega, h63, hml, hm64⟩
end
end Go.Sp

namespace Go.Sp
section
variable {P : Program} {f : Nat} {w : World} (A : NeedF P)
theorem need_ok (n : Nat) {tv : Value} {T : List Nat} (hn : n < 2 ^ 64) (hS : SlC w tv 1 T.length (T.map u64V)) (hT : ∀ t ∈ T, t < 2 ^ 64) (hlen : T.length < 2 ^ 30) (hbl : ∀ b ∈ blkOf tv, b < w.heap.size) :
    Ret P A.need [u64V n, tv] w fun v w' => Ext w w' ∧ match needN n T with
      | none => v = .tuple #[.slice none 0 0, intV' 2]
      | some l => ∃ sv, v = .tuple #[sv, intV' 0] ∧ OwnC w' sv 1 l.length (l.map u64V) ∧ (∀ b ∈ blkOf sv, w.heap.size ≤ b) := by
  refine Ret.of_exec A.h_need (Nat.le_of_ble_eq_true rfl) fun c hc => ?_
  dsimp only [b_need_Need, argEnv, ym, yo, yg, ys, yt, yd, ye]
  refine xr 4 rfl ?_
  refine xca rfl rfl (made_ok A n hn hS hT (by omega) hbl) ?_
  rintro v w1 ⟨hu1, hm⟩
  cases hmd : madeN n T with
  | none =>
    rw [hmd] at hm
    subst hm
    refine xr 11 rfl ?_
    refine xre hc [_, _] ⟨rfl, rfl, trivial⟩ ⟨hu1, ?_⟩
    simp only [needN, hmd, Option.map_none]; rfl
  | some m =>
    rw [hmd] at hm
    obtain ⟨bp, rt, rw, rfl, hB, hMt, hMw, hbp, hrt, hrw, h63, hml, hm64⟩ := hm
    have hneed : needN n T = some (sortN (keys ((keys m).foldl (needStep n m) []))) := by simp only [needN, hmd, Option.map_some]
    have hR := rowsN_le h63
    refine xr 9 rfl ?_
    refine exec_mkMap rfl ?_
    intro rn w2 hrn hs2 hu2 hMn
    refine xr 4 rfl ?_
    have hB2 := hB.upd hu2
    have hw2 := hMw.upd hu2
    refine exec_load1 (b := bp) (o := 0 + 3) rfl rfl (hB2.cell rfl) ?_
    refine exec_range rfl rfl hw2 ?_
    intro it w3 hit hs3 hu3 hI3
    have jb := hB.lt
    have jw := hMw.lt
    refine xbk ?_
    refine xlo (S := List Nat × List Nat × Option (Nat × Nat) × List (Nat × Nat)) (fun s W => Ext w W ∧ IterAt W it rw u64V intV' m s.2.1 s.2.2.1 ∧ (s.1 ++ s.2.1).Perm (keys m) ∧ Blk W bp [u64V n, intV' (rowsN n), .map (some rt), .map (some rw)] ∧ MapAt W rn u64V intV' s.2.2.2 ∧ s.2.2.2 = s.1.foldl (needStep n m) [] ∧ (∀ p, (aget p s.2.2.2).getD 0 ≤ s.1.length) ∧ s.2.2.2.length ≤ s.1.length)
      (fun s => [(0, u64V n), (6, ptrV bp), (8, .map (some rn)), (26, ptrV it)]) (fun s => s.2.1.length) ([], keys m, none, [])
      ⟨(hu1.trans hu2).trans hu3, hI3, by simp, hB2.upd hu3, (MapAt.empty hMn).upd hu3, rfl, by simp [aget], by simp⟩ ⟨rfl, rfl, rfl, rfl, trivial⟩ ?_
    rintro ⟨pre, rem, last, acc⟩ W ⟨hE, hI, hp, hBp, hMa, hacc, hval, hal⟩
    simp only at hI hp hMa hacc hval hal
    have hplen : pre.length + rem.length = m.length := by have := hp.length_eq; simpa [keys] using this
    refine exec_next rfl rfl hI (fun hrem => ?_) (fun a b w5 ha hab hu5 hs5 hI5 => ?_)
    · subst hrem
      refine xr 5 rfl ?_
      have hperm : pre.Perm (keys m) := by simpa using hp
      refine xca rfl rfl (rising_ok A hMa (by omega)) ?_
      rintro v w6 ⟨hO6, hu6, hf6⟩
      refine xr 2 rfl ?_
      refine xre hc [_, _] ⟨rfl, rfl, trivial⟩ ⟨hE.trans hu6, ?_⟩
      rw [hneed]
      have e1 : sortN (keys acc) = sortN (keys ((keys m).foldl (needStep n m) [])) := by rw [hacc]; exact needFold_perm hperm
      rw [e1] at hO6
      have := hE.size
      exact ⟨v, rfl, hO6, fun b hb => by have := hf6 b hb; omega⟩
    · refine xr 4 rfl ?_
      refine xju (ok_entry rfl hI5) rfl ?_
      refine xr 4 rfl ?_
      have hpos : 0 < rem.length := List.length_pos_of_mem ha
      have ha64 : a < 2 ^ 64 := hm64 a (hp.mem_iff.1 (List.mem_append_right _ ha))
      have ne1 : it ≠ bp ∧ it ≠ rn ∧ rn ≠ bp ∧ rn ≠ rw ∧ it ≠ rw := by omega
      have hB5 := hBp.upd hu5 (by simp; omega)
      have hM5 := hMa.upd hu5 (by simp; omega)
      have hE5 : Ext w w5 := hE.trans hu5 (fun b hb => .inr (by simp at hb; have := hu1.size; omega))
      refine xca rfl rfl (isRoot_ok A a hB5 hn ha64) ?_
      rintro v w6 ⟨rfl, hu6⟩
      have hB6 := hB5.upd hu6
      have hM6 := hM5.upd hu6
      have hI6 := hI5.upd hu6 (by simp) (by simp)
      have again : ∀ (W' : World) (acc' : List (Nat × Nat)) (e : Env), Ext w W' → IterAt W' it rw u64V intV' m (rem.erase a) (some (a, b)) → Blk W' bp [u64V n, intV' (rowsN n), .map (some rt), .map (some rw)] → MapAt W' rn u64V intV' acc' → acc' = needStep n m acc a → (∀ p, (aget p acc').getD 0 ≤ pre.length + 1) → acc'.length ≤ pre.length + 1 →
          Env.sub [(0, u64V n), (6, ptrV bp), (8, .map (some rn)), (26, ptrV it)] e →
          Exec P 56 c [] [] (.stop (Again 56 [] (fun s W => Ext w W ∧ IterAt W it rw u64V intV' m s.2.1 s.2.2.1 ∧ (s.1 ++ s.2.1).Perm (keys m) ∧ Blk W bp [u64V n, intV' (rowsN n), .map (some rt), .map (some rw)] ∧ MapAt W rn u64V intV' s.2.2.2 ∧ s.2.2.2 = s.1.foldl (needStep n m) [] ∧ (∀ p, (aget p s.2.2.2).getD 0 ≤ s.1.length) ∧ s.2.2.2.length ≤ s.1.length)
            (fun s : List Nat × List Nat × Option (Nat × Nat) × List (Nat × Nat) => [(0, u64V n), (6, ptrV bp), (8, .map (some rn)), (26, ptrV it)]) (fun s => s.2.1.length) (pre, rem, last, acc)) (.blk 0 (.seq [.op none (some 54) (.mov (.tmp 8)), .op none (some 55) (.call A.rising #[.tmp 54]), .op none (some 4) (.mov (.tmp 55)), .op none (some 5) (.mov (.const (.int .i64 0))), .ret] .done))) e W' := by
        intro W' acc' e q1 q2 q3 q4 q5 q6 q7 q8
        refine xag (pre ++ [a], rem.erase a, some (a, b), acc') ⟨q1, q2, nextAfter hMw.nodup hp ha, q3, q4, ?_, ?_, ?_⟩ ?_ q8
        · rw [q5, hacc]; simp
        · intro p; have := q6 p; simp; omega
        · simp; omega
        · show (rem.erase a).length < rem.length
          rw [List.length_erase_of_mem ha]; omega
      cases hroot : isRootN n a with
      | true =>
        refine xr 3 rfl ?_
        refine again w6 acc _ (hE5.trans hu6) hI6 hB6 hM6 (by simp only [needStep, hroot, if_true]) (fun p => by have := hval p; omega) (by omega) ⟨rfl, rfl, rfl, rfl, trivial⟩
      | false =>
        refine xr 6 rfl ?_
        refine exec_load1 (b := bp) (o := 0 + 1) rfl rfl (hB6.cell rfl) ?_
        refine xca rfl rfl (sibling_ok A.toPosF a (rowsN n) ha64 hR) ?_
        rintro v w7 ⟨rfl, hu7⟩
        obtain ⟨s, is0, hrw', hsib⟩ : ∃ (r : Nat) (is0 : Bool), optV u64V (siblingN a (rowsN n)) = .tuple #[u64V r, .bool is0] ∧ (siblingN a (rowsN n)).getD 0 = r := by
          cases siblingN a (rowsN n) with
          | none => exact ⟨0, false, rfl, rfl⟩
          | some r => exact ⟨r, true, rfl, rfl⟩
        rw [hrw']
        have hB7 := hB6.upd hu7
        have hM7 := hM6.upd hu7
        have hI7 := hI6.upd hu7 (by simp) (by simp)
        refine xr 8 rfl ?_
        refine exec_load1 (b := bp) (o := 0 + 3) rfl rfl (hB7.cell rfl) ?_
        refine xr 1 rfl ?_
        refine xju (ok_lookup (keyOK_nat A.hU) rfl rfl hI7.map) rfl ?_
        simp only [Bool.false_eq_true, if_false, optGetD]
        have hst : needStep n m acc a = if (aget s m).getD 0 = 0 then aset s ((aget s acc).getD 0 + 1) acc else acc := by
          simp only [needStep, hroot, Bool.false_eq_true, if_false, hsib]
        refine xr 1 rfl ?_
        refine exec_cond rfl (fun h2 => ?_) (fun h2 => ?_)
        · simp only [beq_iff_eq] at h2
          refine xr 2 rfl ?_
          refine xju (ok_lookup (keyOK_nat A.hU) rfl rfl hM7) rfl ?_
          simp only [Bool.false_eq_true, if_false, optGetD]
          have hv := hval s
          refine xpu (pv_addI (a := (aget s acc).getD 0) (b := 1) rfl rfl (by omega)) rfl ?_
          refine exec_mapUpd (a := s) (b := (aget s acc).getD 0 + 1) (keyOK_nat A.hU) rfl rfl rfl hM7 ?_
          intro w8 hu8 hs8 hM8
          refine xr 3 rfl ?_
          refine again w8 _ _ (((hE5.trans hu6).trans hu7).trans hu8 (fun b hb => .inr (by simp at hb; have := hu1.size; omega))) (hI7.upd hu8 (by simp; omega) (by simp; omega)) (hB7.upd hu8 (by simp; omega)) hM8 ?_ ?_ ?_ ⟨rfl, rfl, rfl, rfl, trivial⟩
          · rw [hst, if_pos (by omega)]
          · intro p
            rw [aget_set]
            split
            · simp only [Option.getD_some]; omega
            · have := hval p; omega
          · have : (aset s ((aget s acc).getD 0 + 1) acc).length ≤ acc.length + 1 := by
              cases hx : aidx s acc with
              | none => rw [aset_new hx]; simp
              | some j => rw [aset_some hx]; simp
            omega
        · simp only [beq_eq_false_iff_ne, ne_eq] at h2
          refine xr 3 rfl ?_
          refine again w7 acc _ ((hE5.trans hu6).trans hu7) hI7 hB7 hM7 ?_ (fun p => by have := hval p; omega) (by omega) ⟨rfl, rfl, rfl, rfl, trivial⟩
          rw [hst, if_neg (by omega)]
end
end Go.Sp

namespace Go.Sp
/-- what a step through a map leaves to do -/
structure NextRem {α : Type} (rem rem' : List α) (a : α) : Prop where
  mem : rem.Nodup → ∀ x, x ∈ rem' ↔ x ∈ rem ∧ x ≠ a
  nodup : rem.Nodup → rem'.Nodup
  lt : rem'.length < rem.length
  perm : ∀ {pre ks : List α}, (pre ++ rem).Perm ks → ((pre ++ [a]) ++ rem').Perm ks
section
variable {P : Program} {n : Nat} {c : Ctx} {D : List Deferred} {is : List Ins} {k : Kont} {e : Env} {w : World} {α β : Type} [DecidableEq α] {enc : α → Value} {encV : β → Value} {r : Nat} {l : List (α × β)}
theorem exec_next' {x : Operand} {d it : Nat} {rem : List α} {last : Option (α × β)} (hx : e.ev x = some (.pointer (some ⟨it, 0, none⟩))) (hd : Nat.blt d n = true) (h : IterAt w it r enc encV l rem last)
    (over : rem = [] → Exec P n c D is k ((d, .tuple #[.bool false]) :: e) w)
    (more : ∀ a b w' rem', a ∈ rem → aget a l = some b → Upd [it] w w' → w'.heap.size = w.heap.size → IterAt w' it r enc encV l rem' (some (a, b)) → NextRem rem rem' a → Exec P n c D is k ((d, .tuple #[.bool true, enc a, encV b]) :: e) w') :
    Exec P n c D (.op none (some d) (.next x) :: is) k e w := by
  refine exec_next hx hd h over fun a b w' ha hab hu hs hI => more a b w' (rem.erase a) ha hab hu hs hI ⟨fun hn x => ?_, fun hn => hn.erase a, ?_, fun hp => ?_⟩
  · rw [hn.mem_erase_iff]; exact And.comm
  · rw [List.length_erase_of_mem ha]
    have := List.length_pos_of_mem ha
    omega
  · refine List.Perm.trans ?_ hp
    rw [List.append_assoc]
    exact List.Perm.append_left _ (List.perm_cons_erase ha).symm
end
/-- the functions of forest, on -/
structure ForK (P : Program) extends ForJ P where
  nf : NeedF P
  copyM : Nat
  change : Nat
  valsH1 : Nat
  valsH : Nat
  TVm : Nat
  h_copyM : Has P copyM (b_maps_Copy_map_api_Hashuint64_map_api_Hashuint64_api_Hash_uint64 TH)
  h_change : Has P change (b_Pforest_Forest_change copyM TH)
  h_valsH1 : Has P valsH1 b_maps_Values_map_api_Hashuint64_api_Hash_uint64_1
  h_valsH : Has P valsH (b_maps_Values_map_api_Hashuint64_api_Hash_uint64 valsH1 TVm)
theorem mem_keys_aget {α β : Type} [DecidableEq α] {a : α} {l : List (α × β)} (h : a ∈ keys l) : ∃ b, aget a l = some b := by
  cases ho : aget a l with
  | none => exact absurd h (aget_none.1 ho)
  | some b => exact ⟨b, rfl⟩
theorem vals_perm {α : Type} [DecidableEq α] {l : List (α × Nat)} (hn : (keys l).Nodup) : (keys l).map (fun a => (aget a l).getD 0) = l.map Prod.snd := by
  rw [keys, List.map_map]
  refine List.map_congr_left fun p hp => ?_
  simp only [Function.comp]
  rw [mem_aget hn (show (p.1, p.2) ∈ l from hp)]
  rfl
section
variable {P : Program} {f : Nat} {w : World}
theorem copyM_ok (A : ForK P) {d s : Nat} {l l' : List (Hash × Nat)} (hd : MapAt w d hV u64V l) (hs : MapAt w s hV u64V l') (hne : d ≠ s) :
    Ret P A.copyM [.map (some d), .map (some s)] w fun _ w' => ∃ l2, MapAt w' d hV u64V l2 ∧ (∀ h, aget h l2 = (aget h l').or (aget h l)) ∧ Upd [d] w w' := by
  refine Ret.of_exec A.h_copyM (Nat.le_of_ble_eq_true rfl) fun c hc => ?_
  dsimp only [b_maps_Copy_map_api_Hashuint64_map_api_Hashuint64_api_Hash_uint64, argEnv, ym, yo, yg, ys, yt, yd, ye]
  refine xr 1 rfl ?_
  refine exec_range rfl rfl hs ?_
  intro it w1 hit hs1 hu1 hI1
  have hnd := hs.nodup
  have hdlt := hd.lt
  have hslt := hs.lt
  refine xr 1 rfl ?_
  refine xlo (S := List Hash × Option (Hash × Nat) × List (Hash × Nat)) (fun st W => IterAt W it s hV u64V l' st.1 st.2.1 ∧ st.1.Nodup ∧ (∀ a ∈ st.1, a ∈ keys l') ∧ MapAt W d hV u64V st.2.2 ∧ (∀ h, h ∈ keys l' → h ∉ st.1 → aget h st.2.2 = aget h l') ∧ (∀ h, (h ∉ keys l' ∨ h ∈ st.1) → aget h st.2.2 = aget h l) ∧ Upd [d] w W)
    (fun _ => [(0, .map (some d)), (7, ptrV it)]) (fun st => st.1.length) (keys l', none, l) ⟨hI1, hnd, fun a h => h, hd.upd hu1, fun h h1 h2 => absurd h1 h2, fun h _ => rfl, hu1.mono (by simp)⟩ ⟨rfl, rfl, trivial⟩ ?_
  rintro ⟨rem, last, cur⟩ W ⟨hI, hrn, hrk, hM, hA, hA2, hU⟩
  simp only at hI hrn hrk hM hA hA2
  have zU := hU.size
  refine exec_next' rfl rfl hI (fun hrem => ?_) (fun a b w2 rem' ha hab hu2 hs2 hI2 hR => ?_)
  · refine xr 4 rfl ?_
    subst hrem
    refine exec_end hc [] trivial ⟨cur, hM, fun h => ?_, hU⟩
    by_cases hk : h ∈ keys l'
    · rw [hA h hk (by simp)]
      obtain ⟨b, hb⟩ := mem_keys_aget hk
      rw [hb]; rfl
    · rw [hA2 h (.inl hk), aget_none.2 hk]; rfl
  · refine xr 4 rfl ?_
    have hne2 : it ≠ d ∧ it ≠ s := by omega
    refine xju (ok_entry rfl hI2) rfl ?_
    refine xr 2 rfl ?_
    refine exec_new_store (v := hV a) rfl rfl rfl (hV_size a) rfl (by rw [hV_cells]; exact hC_cell _) ?_
    intro b4 w3 hb4 hs3 hu3 hB4
    rw [hV_cells] at hB4
    refine xr 2 rfl ?_
    refine exec_loadN (b := b4) (o := 0) (vs := hC a) rfl rfl hB4.memAll (hC_length _) ?_
    refine xr 1 rfl ?_
    have hM3 := (hM.upd hu2 (by simp; omega)).upd hu3
    refine exec_mapUpd (a := a) (b := b) (keyOK_hash A.h_TH) rfl rfl rfl hM3 ?_
    intro w4 hu4 _ hM4
    refine xr 2 rfl ?_
    have hU4 : Upd [d] w w4 := ((hU.trans hu2 (fun x hx => .inr (by simp at hx; omega))).trans hu3 (by simp)).trans hu4 (by simp)
    refine xag (_, some (a, b), aset a b cur) ⟨(hI2.upd hu3 (by simp) (by simp)).upd hu4 (by simp; omega) (by simp; omega), hR.nodup hrn, fun x hx => hrk x ((hR.mem hrn x).1 hx).1, hM4, fun h hk hn => ?_, fun h hk => ?_, hU4⟩ hR.lt ⟨rfl, rfl, trivial⟩
    · show aget h (aset a b cur) = _
      rw [aget_set]
      by_cases hh : h = a
      · subst hh; rw [if_pos rfl, hab]
      · rw [if_neg hh]
        exact hA h hk fun hm => hn ((hR.mem hrn h).2 ⟨hm, hh⟩)
    · show aget h (aset a b cur) = _
      rw [aget_set]
      have hha : h ≠ a := by
        rintro rfl
        rcases hk with hk | hk
        · exact hk (hrk h ha)
        · exact ((hR.mem hrn h).1 hk).2 rfl
      rw [if_neg hha]
      exact hA2 h (hk.imp id fun hx => ((hR.mem hrn h).1 hx).1)
theorem change_ok (A : ForK P) {p m g cm : Nat} {v0 v1 v3 v4 : Value} {wl gl cl : List (Hash × Nat)} (hB : Blk w p [v0, v1, .map (some m), v3, v4]) (hM : MapAt w m hV u64V wl) (hg : MapAt w g hV u64V gl) (hcm : MapAt w cm hV u64V cl) (h1 : m ≠ g) (h2 : m ≠ cm) :
    Ret P A.change [ptrV p, .map (some g), .map (some cm)] w fun _ w' => ∃ l2, MapAt w' m hV u64V l2 ∧ (∀ h, aget h l2 = (aget h cl).or (if (aget h gl).isSome then none else aget h wl)) ∧ Upd [m] w w' := by
  refine Ret.of_exec A.h_change (Nat.le_of_ble_eq_true rfl) fun c hc => ?_
  dsimp only [b_Pforest_Forest_change, argEnv, ym, yo, yg, ys, yt, yd, ye]
  refine xr 1 rfl ?_
  refine exec_range rfl rfl hg ?_
  intro it w1 hit hs1 hu1 hI1
  have hnd := hg.nodup
  have hplt := hB.lt
  have hmlt := hM.lt
  have hglt := hg.lt
  have hpm : p ≠ m := by
    intro he; subst he
    obtain ⟨es, clock, h3, _⟩ := hM
    obtain ⟨T, h4⟩ := hB
    rw [h3] at h4; cases h4
  refine xr 1 rfl ?_
  refine exec_inner_join (S := List (Hash × Nat)) (fun cur W => MapAt W m hV u64V cur ∧ (∀ h, aget h cur = if (aget h gl).isSome then none else aget h wl) ∧ Upd [m] w W) (fun _ => [(0, ptrV p), (2, .map (some cm))]) ?_ ?_
  rotate_left
  · rintro cur W ⟨q1, q2, q3⟩
    refine xr 3 rfl ?_
    refine exec_load1 (b := p) (o := 0 + 2) rfl rfl ((hB.upd q3 (by simp; omega)).cell rfl) ?_
    refine xr 1 rfl ?_
    refine xca rfl rfl (copyM_ok A q1 (hcm.upd q3 (by simp; omega)) h2) ?_
    rintro v w2 ⟨l2, r1, r2, r3⟩
    exact exec_end hc [] trivial ⟨l2, r1, fun h => by rw [r2, q2], q3.trans r3 (by simp)⟩
  refine xlo (S := List Hash × Option (Hash × Nat) × List (Hash × Nat)) (fun st W => IterAt W it g hV u64V gl st.1 st.2.1 ∧ st.1.Nodup ∧ (∀ a ∈ st.1, a ∈ keys gl) ∧ MapAt W m hV u64V st.2.2 ∧ (∀ h, h ∈ keys gl → h ∉ st.1 → aget h st.2.2 = none) ∧ (∀ h, (h ∉ keys gl ∨ h ∈ st.1) → aget h st.2.2 = aget h wl) ∧ Upd [m] w W)
    (fun _ => [(0, ptrV p), (2, .map (some cm)), (8, ptrV it)]) (fun st => st.1.length) (keys gl, none, wl) ⟨hI1, hnd, fun a h => h, hM.upd hu1, fun h h1 h2 => absurd h1 h2, fun h _ => rfl, hu1.mono (by simp)⟩ ⟨rfl, rfl, rfl, trivial⟩ ?_
  rintro ⟨rem, last, cur⟩ W ⟨hI, hrn, hrk, hMc, hA, hA2, hU⟩
  simp only at hI hrn hrk hMc hA hA2
  have zU := hU.size
  refine exec_next' rfl rfl hI (fun hrem => ?_) (fun a b w2 rem' ha hab hu2 hs2 hI2 hR => ?_)
  · refine xr 3 rfl ?_
    subst hrem
    refine exec_meet cur ⟨hMc, fun h => ?_, hU⟩ ⟨rfl, rfl, trivial⟩
    by_cases hk : h ∈ keys gl
    · rw [hA h hk (by simp)]
      obtain ⟨b, hb⟩ := mem_keys_aget hk
      rw [hb]; rfl
    · rw [hA2 h (.inl hk), aget_none.2 hk]; rfl
  · refine xr 4 rfl ?_
    have hne2 : it ≠ m ∧ it ≠ g ∧ it ≠ p := by omega
    refine xju (ok_entry rfl hI2) rfl ?_
    refine xr 1 rfl ?_
    refine exec_new_store (v := hV a) rfl rfl rfl (hV_size a) rfl (by rw [hV_cells]; exact hC_cell _) ?_
    intro b6 w3 hb6 hs3 hu3 hB6
    rw [hV_cells] at hB6
    have hUp : Upd [m] w w3 := (hU.trans hu2 (fun x hx => .inr (by simp at hx; omega))).trans hu3 (by simp)
    have hB3 := hB.upd hUp (by simp; omega)
    have hM3 := (hMc.upd hu2 (by simp; omega)).upd hu3
    have hI3 := hI2.upd hu3 (by simp) (by simp)
    refine xen [(0, ptrV p), (2, .map (some cm)), (6, ptrV b6), (8, ptrV it)] ⟨rfl, rfl, rfl, rfl, trivial⟩ ?_
    refine exec_dwr rfl rfl rfl ?_
    repeat (first | refine wtm rfl rfl rfl ?_ | refine wgt rfl rfl rfl rfl ?_ | refine wgs rfl rfl ?_)
    refine ws_keep (.map (some m)) rfl (fun X hx => ok_load1 (b := p) (o := 0 + 2) rfl ((hB3.upd hx).cell rfl)) ?_
    refine ws_keep (hV a) rfl (fun X hx => ok_loadN (b := b6) (o := 0) rfl (hB6.upd hx).memAll (hC_length _)) ?_
    refine ws_fin fun w4 hw4 => ?_
    refine exec_delete (a := a) (keyOK_hash A.h_TH) rfl rfl (hM3.upd hw4) ?_
    intro w5 hu5 _ hM5
    refine xr 2 rfl ?_
    have hU5 : Upd [m] w w5 := (hUp.trans hw4 (by simp)).trans hu5 (by simp)
    refine xag (_, some (a, b), adel a cur) ⟨(hI3.upd hw4 (by simp) (by simp)).upd hu5 (by simp; omega) (by simp; omega), hR.nodup hrn, fun x hx => hrk x ((hR.mem hrn x).1 hx).1, hM5, fun h hk hn => ?_, fun h hk => ?_, hU5⟩ hR.lt ⟨rfl, rfl, rfl, trivial⟩
    · show aget h (adel a cur) = _
      rw [aget_del hMc.nodup]
      by_cases hh : h = a
      · rw [if_pos hh]
      · rw [if_neg hh]
        exact hA h hk fun hm => hn ((hR.mem hrn h).2 ⟨hm, hh⟩)
    · show aget h (adel a cur) = _
      rw [aget_del hMc.nodup]
      have hha : h ≠ a := by
        rintro rfl
        rcases hk with hk | hk
        · exact hk (hrk h ha)
        · exact ((hR.mem hrn h).1 hk).2 rfl
      rw [if_neg hha]
      exact hA2 h (hk.imp id fun hx => ((hR.mem hrn h).1 hx).1)
/-- maps.Values at map[Hash]uint64 -/
theorem valsH1_ok (h : Has P f b_maps_Values_map_api_Hashuint64_api_Hash_uint64_1) {bs r : Nat} {l : List (Hash × Nat)} (hB : Blk w bs [.map (some r)]) (hm : MapAt w r hV u64V l) :
    SeqG P f [ptrV' bs] w [bs, r] [] (fun q => [u64V q]) (fun pre x => pre.length < l.length) (fun xs => xs.Perm (l.map Prod.snd)) := by
  refine SeqG.of_ret fun S y n0 ws loc J Jx s0 hJ hJx h0 hn0 hl0 hwr hrd hrounds => ?_
  refine Ret.of_exec h (Nat.le_of_ble_eq_true rfl) fun c hc => ?_
  dsimp only [b_maps_Values_map_api_Hashuint64_api_Hash_uint64_1, argEnv, ym, yo, yg, ys, yt, yd, ye]
  refine exec_load1 (b := bs) (o := 0) rfl rfl (hB.cell rfl) ?_
  refine exec_range rfl rfl hm ?_
  intro it w1 hit hs1 hu1 hI1
  have hnd := hm.nodup
  have hr0 := hrd r (by simp)
  have hkl : (keys l).length = l.length := by simp [keys]
  refine xr 1 rfl ?_
  refine xlo (S := List Hash × List Hash × Option (Hash × Nat) × S) (fun s W => J (s.1.map fun a => (aget a l).getD 0) s.2.2.2 W ∧ IterAt W it r hV u64V l s.2.1 s.2.2.1 ∧ (s.1 ++ s.2.1).Perm (keys l) ∧ r ∉ ws ++ loc s.2.2.2 ∧ it ∉ ws ++ loc s.2.2.2 ∧ n0 ≤ it ∧ (∀ b ∈ ws ++ loc s.2.2.2, b < W.heap.size))
    (fun s => [(0, .func (.yield y) #[] #[]), (6, ptrV' it)]) (fun s => s.2.1.length) ([], keys l, none, s0)
    ⟨hJ _ _ _ _ [] h0 hu1 (by simp), hI1, by simp, by simp [hr0], fun hx => ?_, by omega, fun b hb => ?_⟩ ⟨rfl, rfl, trivial⟩ ?_
  · have := hl0 _ hx; omega
  · have := hl0 _ hb; omega
  rintro ⟨pre, rem, last, s⟩ W ⟨hJi, hI, hp, hrn, hin, hni, hlw⟩
  simp only at hJi hI hp hrn hin hlw
  refine exec_next' rfl rfl hI (fun hrem => ?_) (fun a b w2 rem' ha hab hu2 hs2 hI2 hR => ?_)
  · refine xr 4 rfl ?_
    subst hrem
    refine exec_end hc [] trivial (.inl ⟨_, s, ?_, hJi⟩)
    rw [← vals_perm hnd]
    have : pre.Perm (keys l) := by simpa using hp
    exact this.map _
  · refine xr 4 rfl ?_
    refine xju (ok_entry rfl hI2) rfl ?_
    refine xr 4 rfl ?_
    have hplen : (pre.map fun a => (aget a l).getD 0).length < l.length := by
      have := hp.length_eq
      have hpos : 0 < rem.length := List.length_pos_of_mem ha
      simp only [List.length_append, List.length_map] at this ⊢; omega
    have hJ2 := hJ _ s W w2 [it] hJi hu2 (fun b hb => by simp at hb; subst hb; exact ⟨hni, fun h => hin (List.mem_append_right _ h)⟩)
    refine exec_yield (l := y) (vs := [u64V b]) rfl rfl rfl (hrounds _ s w2 b hJ2 hplen (fun b hb => by rw [hs2]; exact hlw b hb)) ?_
    rintro go W1 ⟨s1, hgo, hu3, hfr, hlt⟩
    have z3 := hu3.size
    have hrn1 : r ∉ ws ++ loc s1 := by
      simp only [List.mem_append, not_or] at hrn ⊢
      refine ⟨hrn.1, fun hm' => ?_⟩
      rcases hfr _ hm' with h4 | h4
      · exact hrn.2 h4
      · have := hI2.map.lt; omega
    have hin1 : it ∉ ws ++ loc s1 := by
      simp only [List.mem_append, not_or] at hin ⊢
      refine ⟨hin.1, fun hm' => ?_⟩
      rcases hfr _ hm' with h4 | h4
      · exact hin.2 h4
      · have := hI2.lt; omega
    cases go with
    | false =>
      refine xr 2 rfl ?_
      exact xre hc [] trivial (.inr ⟨s1, hgo⟩)
    | true =>
      simp only [if_true] at hgo
      refine xr 5 rfl ?_
      refine xag (pre ++ [a], _, some (a, b), s1) ⟨?_, hI2.upd hu3 hrn hin, hR.perm hp, hrn1, hin1, hni, fun b' hb' => ?_⟩ ?_ ⟨rfl, rfl, trivial⟩
      · rw [List.map_append]
        simp only [List.map_cons, List.map_nil, hab]
        exact hgo
      · rcases List.mem_append.1 hb' with h2 | h2
        · have := hlw b' (List.mem_append_left _ h2); omega
        · exact hlt b' h2
      · exact hR.lt
theorem valsH_ok (A : ForK P) {r : Nat} : Ret P A.valsH [.map (some r)] w fun v' w' => v' = .func (.func A.valsH1) #[] #[ptrV w.heap.size] ∧ Blk w' w.heap.size [.map (some r)] ∧ Ext w w' := by
  refine Ret.of_exec A.h_valsH (Nat.le_of_ble_eq_true rfl) fun c hc => ?_
  dsimp only [b_maps_Values_map_api_Hashuint64_api_Hash_uint64, argEnv, ym, yo, yg, ys, yt, yd, ye]
  refine exec_box rfl rfl ?_
  intro b w2 hb hs hu hB
  subst hb
  refine xr 3 rfl ?_
  exact xre hc [_] ⟨rfl, trivial⟩ ⟨rfl, hB, hu⟩
/-- a map's values, in order -/
theorem sortedVals_ok (A : ForK P) {r bs : Nat} {l : List (Hash × Nat)} (hB : Blk w bs [.map (some r)]) (hm : MapAt w r hV u64V l) (hl : l.length < 2 ^ 40) :
    RetS P A.nf.sorted [.func (.func A.valsH1) #[] #[ptrV bs]] w 1 (sortN (l.map Prod.snd)).length ((sortN (l.map Prod.snd)).map u64V) := by
  refine (sorted_ok A.nf A.h_valsH1.enters (lb := [ptrV bs]) (fun W hu => valsH1_ok A.h_valsH1 (hB.upd hu) (hm.upd hu)) ?_ ?_ ?_).mono ?_
  · intro b hb
    simp at hb
    rcases hb with rfl | rfl
    · exact hB.lt
    · exact hm.lt
  · intro pre x h; have : pre.length < l.length := h; omega
  · intro xs h; have := h.length_eq; simp at this; omega
  rintro v2 w2 ⟨xs, hg, hO, hu2, hf⟩
  have e1 : sortN xs = sortN (l.map Prod.snd) := sortN_eq hg
  have e2 : xs.length = (sortN (l.map Prod.snd)).length := by rw [← e1]; exact (sortN_perm xs).length_eq.symm
  rw [e1, e2] at hO
  exact ⟨hO, hu2, hf⟩
end
end Go.Sp

namespace Go.Sp
theorem treesBelow_mem (n : Nat) : ∀ k h, h ∈ treesBelow n k ↔ h < k ∧ bitN n h = true := by
  intro k h
  have := congrArg (fun l => h ∈ l) (treesBelow_rev n k)
  simp only [List.mem_reverse, List.mem_filter, List.mem_range, eq_iff_iff] at this
  exact this
theorem treesN_mem {n h : Nat} (hn : n < 2 ^ 63) : h ∈ treesN n ↔ h < 63 ∧ bitN n h = true := by
  rw [treesN, if_pos hn, treesBelow_mem]
theorem bitN_le {n h : Nat} (hb : bitN n h = true) : firstN n h + 2 ^ h ≤ n := by
  have hdiv : n / 2 ^ h = 2 * (n / 2 ^ (h + 1)) + 1 := by
    rw [Nat.pow_succ, ← Nat.div_div_eq_div_mul]
    have : n / 2 ^ h % 2 = 1 := by simpa [bitN] using hb
    omega
  have hle : n / 2 ^ h * 2 ^ h ≤ n := Nat.div_mul_le_self _ _
  rw [hdiv] at hle
  have : (2 * (n / 2 ^ (h + 1)) + 1) * 2 ^ h = firstN n h + 2 ^ h := by
    rw [firstN, Nat.pow_succ, Nat.add_mul, Nat.one_mul]
    congr 1
    rw [Nat.mul_comm 2, Nat.mul_assoc, Nat.mul_comm 2]
  omega
theorem pow_lt_imp {h k : Nat} (H : 2 ^ h < 2 ^ k) : h < k := (Nat.pow_lt_pow_iff_right (by omega)).1 H
section
variable {H : Type} (par : H → H → H)
theorem treesT_mem {L : Nat → Option H} {n : Nat} (hn : n < 2 ^ 40) {t : TT H} (ht : t ∈ treesT par L n) : ∃ h, t = (buildT par L h (firstN n h), firstN n h, h) ∧ firstN n h + 2 ^ h ≤ n ∧ h < 40 := by
  rw [treesT, List.mem_map] at ht
  obtain ⟨h, hh, rfl⟩ := ht
  have h63 : n < 2 ^ 63 := Nat.lt_trans hn (by decide)
  obtain ⟨h1, h2⟩ := (treesN_mem h63).1 hh
  have := bitN_le h2
  exact ⟨h, rfl, this, pow_lt_imp (by omega)⟩
theorem treesT_len {L : Nat → Option H} {n : Nat} (hn : n < 2 ^ 63) : (treesT par L n).length ≤ 63 := by
  rw [treesT, List.length_map, ← List.length_reverse, treesN_rev hn, highs]
  have := List.length_filter_le (bitN n) (List.range' 0 (63 - 0))
  simpa using this
end
section
variable {H : Type} [DecidableEq H]
/-- leaves behind a Modify -/
def goneL (del : List H) (L : List (Option H)) : List (Option H) := L.map fun o => o.filter fun h => decide (h ∉ del)
def modL (del add : List H) (L : List (Option H)) : List (Option H) := goneL del L ++ add.map some
omit [DecidableEq H] in
def lvG (L : List (Option H)) (i : Nat) : Option H := L[i]?.join
theorem goneL_len (del : List H) (L : List (Option H)) : (goneL del L).length = L.length := by simp [goneL]
theorem modL_len (del add : List H) (L : List (Option H)) : (modL del add L).length = L.length + add.length := by simp [modL, goneL_len]
theorem goneL_get (del : List H) (L : List (Option H)) (i : Nat) (h : H) : (goneL del L)[i]? = some (some h) ↔ L[i]? = some (some h) ∧ h ∉ del := by
  rw [goneL, List.getElem?_map]
  cases hL : L[i]? with
  | none => simp
  | some o =>
    cases o with
    | none => simp
    | some x =>
      by_cases hx : x ∈ del
      · simp [Option.filter, hx]; intro he; subst he; exact hx
      · simp [Option.filter, hx]; intro he; subst he; exact hx
omit [DecidableEq H] in
theorem lvG_some {L : List (Option H)} {i : Nat} {h : H} : lvG L i = some h ↔ L[i]? = some (some h) := by
  unfold lvG
  cases L[i]? with
  | none => simp
  | some o => cases o <;> simp
theorem opt_ext {α : Type} {a b : Option α} (h : ∀ x, a = some x ↔ b = some x) : a = b := by
  cases a with
  | none => cases b with
    | none => rfl
    | some y => exact absurd ((h y).2 rfl) (by simp)
  | some x => exact ((h x).1 rfl).symm
/-- the trees without the leaves that go -/
theorem gone_tree (par : H → H → H) {L : List (Option H)} {del : List H} {l : List Nat} (hl : ∀ x, x ∈ l ↔ ∃ h, h ∈ del ∧ L[x]? = some (some h)) (k f : Nat) :
    withoutO par (buildT par (lvG L) k f) (l.filter fun y => decide (f ≤ y ∧ y < f + 2 ^ k)) = buildT par (lvG (goneL del L)) k f := by
  rw [without_build]
  · refine buildT_congr par k f fun i h1 h2 => opt_ext fun x => ?_
    rw [delL, lvG_some, goneL_get]
    have hm : i ∈ (l.filter fun y => decide (f ≤ y ∧ y < f + 2 ^ k)) ↔ i ∈ l := by simp [h1, h2]
    by_cases hi : i ∈ l
    · rw [if_pos (hm.2 hi)]
      obtain ⟨h, hd, hL⟩ := (hl i).1 hi
      constructor
      · intro h; cases h
      · rintro ⟨h3, h4⟩
        rw [hL] at h3; cases h3; exact absurd hd h4
    · rw [if_neg (fun h => hi (hm.1 h)), lvG_some]
      exact ⟨fun h3 => ⟨h3, fun hd => hi ((hl i).2 ⟨x, hd, h3⟩)⟩, And.left⟩
  · intro x hx
    simp only [List.mem_filter, decide_eq_true_eq] at hx
    obtain ⟨h, _, hL⟩ := (hl x).1 hx.1
    exact ⟨hx.2.1, hx.2.2, by rw [lvG_some.2 hL]; rfl⟩
omit [DecidableEq H] in
theorem none_part (par : H → H → H) {L : List (Option H)} {l : List Nat} (hl : ∀ x ∈ l, ∃ h, L[x]? = some (some h)) {k f : Nat} (h0 : buildT par (lvG L) k f = none) : (l.filter fun y => decide (f ≤ y ∧ y < f + 2 ^ k)) = [] := by
  rw [List.filter_eq_nil_iff]
  intro x hx hd
  simp only [decide_eq_true_eq] at hd
  obtain ⟨h, hL⟩ := hl x hx
  have := (buildT_none par k f).1 h0 x hd.1 hd.2
  rw [lvG_some.2 hL] at this; cases this
omit [DecidableEq H] in
theorem grown_next {add : List H} {i : Nat} {h : H} (hi : add[i]? = some h) : add.take (i + 1) = add.take i ++ [h] := by
  rw [List.take_add_one, hi]; rfl
omit [DecidableEq H] in
theorem lvG_append {L M : List (Option H)} {i : Nat} (hi : i < L.length) : lvG (L ++ M) i = lvG L i := by
  unfold lvG; rw [List.getElem?_append_left hi]
omit [DecidableEq H] in
theorem lvG_last {L : List (Option H)} {h : H} : lvG (L ++ [some h]) L.length = some h := by
  unfold lvG; simp
omit [DecidableEq H] in
/-- one leaf more -/
theorem grow_one (par : H → H → H) {L : List (Option H)} {h : H} (h63 : L.length + 1 < 2 ^ 63) :
    (growT par (treesT par (lvG L) L.length).reverse (some (.leaf h), L.length, 0)).reverse = treesT par (lvG (L ++ [some h])) (L.length + 1) := by
  have := grown_trees par (L := lvG L) (n := L.length) (L' := lvG (L ++ [some h])) (fun i hi => lvG_append hi) h63
  rw [lvG_last] at this
  exact this
end
end Go.Sp

namespace Go.Sp
theorem leftN_lt {p rows : Nat} : (leftN p rows).getD 0 < 2 ^ (rows + 1) := by
  have hp : 0 < 2 ^ (rows + 1) := Nat.pow_pos (by omega)
  unfold leftN
  split
  · exact hp
  · split
    · exact hp
    · exact Nat.mod_lt _ hp
/-- each number below n is in one tree -/
theorem cover {n x : Nat} (hn : n < 2 ^ 63) (hx : x < n) : ∃ h, h < 63 ∧ bitN n h = true ∧ firstN n h ≤ x ∧ x < firstN n h + 2 ^ h := by
  have key : ∀ k, n / 2 ^ k = x / 2 ^ k → ∃ h, h < k ∧ n / 2 ^ (h + 1) = x / 2 ^ (h + 1) ∧ n / 2 ^ h ≠ x / 2 ^ h := by
    intro k
    induction k with
    | zero => intro h; simp at h; omega
    | succ k ih =>
      intro h
      by_cases h' : n / 2 ^ k = x / 2 ^ k
      · obtain ⟨j, h1, h2⟩ := ih h'; exact ⟨j, by omega, h2⟩
      · exact ⟨k, by omega, h, h'⟩
  obtain ⟨h, h1, h2, h3⟩ := key 63 (by rw [Nat.div_eq_of_lt hn, Nat.div_eq_of_lt (by omega)])
  have hp : 0 < 2 ^ h := Nat.pow_pos (by omega)
  have hle : x / 2 ^ h ≤ n / 2 ^ h := Nat.div_le_div_right (by omega)
  rw [Nat.pow_succ, ← Nat.div_div_eq_div_mul, ← Nat.div_div_eq_div_mul] at h2
  have hodd : n / 2 ^ h = 2 * (n / 2 ^ h / 2) + 1 ∧ x / 2 ^ h = 2 * (n / 2 ^ h / 2) := by omega
  have hf : firstN n h = x / 2 ^ h * 2 ^ h := by
    rw [firstN, Nat.pow_succ, ← Nat.div_div_eq_div_mul, hodd.2, Nat.mul_comm 2, Nat.mul_assoc, Nat.mul_comm 2]
  refine ⟨h, h1, ?_, ?_, ?_⟩
  · rw [bitN, hodd.1]; simp [Nat.add_mod]
  · rw [hf]; exact Nat.div_mul_le_self _ _
  · rw [hf]
    have := Nat.div_add_mod x (2 ^ h)
    have h4 := Nat.mod_lt x hp
    rw [Nat.mul_comm] at this
    omega
section
variable {H : Type}
def Tr.high : Tr H → Nat
  | .leaf _ => 0
  | .pair _ l r _ => l.high + r.high + 1
def whereN (R : Nat) : Tr H → Nat → Nat → Nat
  | .leaf _, p, _ => p
  | .pair _ l r m, p, x => if x < m then whereN R l ((leftN p R).getD 0) x else whereN R r ((leftN p R).getD 0 + 1) x
def inT (x : Nat) (t : TT H) : Bool := decide (t.2.1 ≤ x ∧ x - t.2.1 < 2 ^ t.2.2)
def whereT (ts : List (TT H)) (n x : Nat) : Nat := match ts.find? (inT x) with
  | some (some t, _, h) => whereN (rowsN n) t ((rootN n h).getD 0) x
  | _ => 0
theorem find_tree (par : H → H → H) {L : Nat → Option H} {n x : Nat} (hn : n < 2 ^ 63) (hx : x < n) : ∃ t ∈ treesT par L n, inT x t = true := by
  obtain ⟨h, h1, h2, h3, h4⟩ := cover hn hx
  refine ⟨_, List.mem_map.2 ⟨h, (treesN_mem hn).2 ⟨h1, h2⟩, rfl⟩, ?_⟩
  simp only [inT, decide_eq_true_eq]
  omega
theorem in_tree (par : H → H → H) {L : Nat → Option H} {n x : Nat} {t : TT H} (ht : t ∈ treesT par L n) (hx : inT x t = true) (hL : (L x).isSome = true) : ∃ r, t.1 = some r := by
  obtain ⟨h, _, rfl⟩ := List.mem_map.1 ht
  simp only [inT, decide_eq_true_eq] at hx
  cases hb : buildT par L h (firstN n h) with
  | some r => exact ⟨r, rfl⟩
  | none =>
    have := (buildT_none par h _).1 hb x hx.1 (by omega)
    rw [this] at hL; cases hL
end
end Go.Sp
