/- spinneylaw14.ForestProves returns true for every input, and its arguments read afterwards as before: the card. No condition. This text: part 9 of 10. -/
import Derived.Test.YtgkfgclebdikgaaGreatDoorW8
set_option linter.unusedVariables false
set_option linter.unusedSimpArgs false
set_option linter.unusedSectionVars false
namespace Go.Sp
/-- the functions of the laws, on -/
structure LawX (P : Program) extends LawH P, LawR P where
  lproves : Nat
  trees : Nat
  TXp : Nat
  TXs : Nat
  TXu : Nat
  TXi : Nat
  h_trees : Has P trees (b_pos_Trees TXi)
  h_lproves : Has P lproves (b_spinneylaw14_ForestProves told cut prove where' works stump nf.need nf.rows trees nf.root reck nf.way TXp TXs TXu TH)
section
variable {P : Program} {f : Nat} {w : World}
theorem OwnC.lenEq {w : World} {a : Option Addr} {l c N n : Nat} {cs : List Value} (h : OwnC w (.slice a l c) N n cs) : l = n := by
  rcases h with ⟨h, rfl, _⟩ | ⟨b, cap, rest, h, _⟩
  · cases h; rfl
  · cases h; rfl
set_option maxHeartbeats 3200000 in
theorem lproves_ok (A : LawX P) (hT : Tabs A.toShaF w) {v pv : Value} {l : List (List Hash × List Hash)} {pl : List Hash} (hl : ActsAt w v l) (hpl : SlC w pv 32 pl.length (hs pl)) : RetV P A.lproves [v, pv] w (.bool true) := by
  refine Ret.of_exec A.h_lproves (Nat.le_of_ble_eq_true rfl) fun c hc => ?_
  dsimp only [b_spinneylaw14_ForestProves, argEnv, ym, yo, yg, ys, yt, yd, ye]
  refine xr 2 rfl ?_
  refine xca rfl rfl (told_ok A.toLawH hT hl) ?_
  rintro _ w1 ⟨p, m, s, all, live, av, lv', rfl, hp, hm, hTo, hu1⟩
  have hF1 := hTo.f
  have hlen : s.L.length ≤ 120 := by rw [hTo.L, zipL_len hTo.eq]; have := hTo.len; omega
  clear hTo
  refine xr 8 rfl ?_
  refine xca rfl rfl (cut_ok A.toLawF (hpl.upd hu1 (by simp))) ?_
  rintro _ w2 ⟨rfl, hu2⟩
  have hE2 := hu1.trans hu2
  have hC2 := cutV_sl (hpl.upd hE2 (by simp))
  generalize hql : pl.take 10 = ql at *
  have hqlen : ql.length ≤ 10 := by rw [← hql, List.length_take]; omega
  generalize hcv : cutV pv pl = cv at *
  refine xr 3 rfl ?_
  refine xca rfl rfl (prove_ok A.toForT (hF1.ext hu2) hC2 (by omega)) ?_
  rintro r3 w3 ⟨hu3, hcase⟩
  have hE3 := hE2.trans hu3
  have hF3 := (hF1.ext hu2).ext hu3
  have hC3 := hC2.upd hu3 (by simp)
  have hcase' : ∃ tv hv e, r3 = .tuple #[.agg #[tv, hv], intV' e] ∧ (∃ a l c, tv = .slice a l c) ∧ (∃ a l c, hv = .slice a l c) ∧ ((e = 5 ∧ ∃ h ∈ ql, some h ∉ s.L) ∨ ((∀ h ∈ ql, some h ∈ s.L) ∧ (e = 24 ∨ (e = 0 ∧ ql.Nodup ∧ OwnC w3 tv 1 (proofT s.L ql).length ((proofT s.L ql).map u64V) ∧ OwnC w3 hv 32 (proofH s.L ql).length (hs (proofH s.L ql)))))) := by
    rcases hcase with ⟨rfl, h1⟩ | ⟨rfl, h1, h2⟩ | ⟨tv, hv, rfl, h1, h2, h3, h4, h5, h6⟩
    · exact ⟨_, _, 5, rfl, ⟨_, _, _, rfl⟩, ⟨_, _, _, rfl⟩, .inl ⟨rfl, h1⟩⟩
    · exact ⟨_, _, 24, rfl, ⟨_, _, _, rfl⟩, ⟨_, _, _, rfl⟩, .inr ⟨h1, .inl rfl⟩⟩
    · exact ⟨_, _, 0, rfl, h3.slice, h4.slice, .inr ⟨h1, .inr ⟨rfl, h2, h3, h4⟩⟩⟩
  obtain ⟨tv, hv, e, rfl, ⟨ta, tl, tc, rfl⟩, ⟨ha, hll, hcc⟩, hP⟩ := hcase'
  obtain ⟨hcc, rfl⟩ := hcc
  clear hcase
  refine xr 3 rfl ?_
  refine exec_new_store (v := .agg #[.slice ta tl tc, .slice ha hll hcc]) rfl rfl rfl rfl rfl rfl ?_
  intro b8 w4 hb8 hs4 hu4 hB8
  have hB8' : Blk w4 b8 [.slice ta tl tc, .slice ha hll hcc] := hB8
  clear hB8
  have hE4 := hE3.trans hu4
  have hF4 := hF3.ext hu4
  have hC4 := hC3.upd hu4 (by simp)
  refine xr 3 rfl ?_
  refine xen [(1, cv), (5, ptrV p), (8, ptrV b8), (9, intV' e), (10, intV' 0)] ⟨rfl, rfl, rfl, rfl, rfl, trivial⟩ ?_
  refine xlo (S := Nat) (fun i W => i ≤ ql.length ∧ (∀ j h, j < i → ql[j]? = some h → some h ∈ s.L) ∧ Ext w4 W) (fun i => [(1, cv), (5, ptrV p), (8, ptrV b8), (9, intV' e), (10, intV' i)]) (fun i => ql.length - i) 0 ⟨Nat.zero_le _, fun j h hj => by omega, Upd.refl _ _⟩ ⟨rfl, rfl, rfl, rfl, rfl, trivial⟩ ?_
  rintro i W ⟨i1, iL, iU⟩
  have hwW := hE4.trans iU
  have hFW := hF4.ext iU
  have hCW := hC4.upd iU (by simp)
  have hTW := hT.upd hwW
  refine xtm rfl rfl rfl ?_
  refine xtm rfl rfl rfl ?_
  refine xpu (hCW.lenS rfl) rfl ?_
  by_cases hi : i < ql.length
  · refine xpu (pv_lssI (a := i) (b := ql.length) (q := true) rfl rfl (by simpa using hi)) rfl ?_
    refine xr 6 rfl ?_
    obtain ⟨h, hh⟩ : ∃ h, ql[i]? = some h := ⟨_, List.getElem?_eq_getElem hi⟩
    obtain ⟨ba, oa, ca, hav, _, hma⟩ := hs_at hCW hh
    refine xju (ok_iaddr (N := 32) (b := ba) (o := oa) (len := ql.length) (cap := ca) (by rw [← hav]; rfl) rfl i rfl hi) rfl ?_
    refine exec_loadN (b := ba) (o := oa + i * 32) (vs := hC h) rfl rfl hma (hC_length _) ?_
    refine xca rfl rfl (where_ok A.toForN hFW h) ?_
    rintro v1 W1 ⟨hx1, hcase1⟩
    rcases hcase1 with ⟨rfl, q1⟩ | ⟨x, rfl, q1⟩
    · have he5 : e = 5 := by
        rcases hP with ⟨h5, _⟩ | ⟨h5, _⟩
        · exact h5
        · exact absurd (h5 h (List.mem_of_getElem? hh)) q1
      subst he5
      refine xr 9 rfl ?_
      refine xpu (pv_eqlI (K := .i64) (a := 5) (b := 5) (q := true) rfl rfl rfl) rfl ?_
      refine xr 2 rfl ?_
      refine xca rfl rfl (works_ok A.toLawG (hTW.upd hx1)) ?_
      rintro _ W2 ⟨rfl, hx2⟩
      refine xr 2 rfl ?_
      exact xre hc [_] ⟨rfl, trivial⟩ ⟨rfl, (hwW.trans hx1).trans hx2⟩
    · refine xr 12 rfl ?_
      refine xpu (pv_addI (a := i) (b := 1) rfl rfl (by omega)) rfl ?_
      refine xr 1 rfl ?_
      refine xag (i + 1) ⟨hi, fun j h' hj hh' => ?_, iU.trans hx1⟩ (by show ql.length - (i + 1) < ql.length - i; omega) ⟨rfl, rfl, rfl, rfl, rfl, trivial⟩
      rcases Nat.lt_or_ge j i with hj' | hj'
      · exact iL j h' hj' hh'
      · have : j = i := by omega
        subst this
        rw [hh] at hh'; cases hh'
        exact List.mem_of_getElem? q1
  refine xpu (pv_lssI (a := i) (b := ql.length) (q := false) rfl rfl (by simpa using hi)) rfl ?_
  refine xr 4 rfl ?_
  have hall : ∀ h ∈ ql, some h ∈ s.L := fun h hh => by
    obtain ⟨j, hj⟩ := List.getElem?_of_mem hh
    have := (List.getElem?_eq_some_iff.1 hj).1
    exact iL j h (by omega) hj
  rcases hP with ⟨_, h, hh, hno⟩ | ⟨_, rfl | ⟨rfl, hnd, hOt, hOh⟩⟩
  · exact absurd (hall h hh) hno
  · refine xpu (pv_eqlI (K := .i64) (a := 24) (b := 24) (q := true) rfl rfl rfl) rfl ?_
    refine xr 1 rfl ?_
    refine xca rfl rfl (works_ok A.toLawG hTW) ?_
    rintro _ W1 ⟨rfl, hx1⟩
    refine xr 1 rfl ?_
    exact xre hc [_] ⟨rfl, trivial⟩ ⟨rfl, hwW.trans hx1⟩
  refine xpu (pv_eqlI (K := .i64) (a := 0) (b := 24) (q := false) rfl rfl rfl) rfl ?_
  refine xr 3 rfl ?_
  have h1 := hOt.lenEq
  subst h1
  have h1 := hOh.lenEq
  subst h1
  have hn63 : s.L.length < 2 ^ 63 := by omega
  obtain ⟨hneed, hN⟩ := proof_need hn63 hall hnd
  have hTl : (proofT s.L ql).length = ql.length := by simp [proofT]
  have hHl := proofH_len s.L ql
  have hNl := hN.len
  have hOtW := (hOt.upd hu4 (by simp)).upd iU (by simp)
  have hOhW := (hOh.upd hu4 (by simp)).upd iU (by simp)
  have hB8W := hB8'.upd iU
  refine xca rfl rfl (stump_ok A.toForO hFW) ?_
  rintro _ W1 ⟨rv, rfl, hx1, hOr, _⟩
  obtain ⟨ra, rl, rc, rfl⟩ := hOr.slice
  have hrl := hOr.lenEq
  skip
  refine exec_new_store (v := .agg #[u64V s.L.length, .slice ra rl rc]) rfl rfl rfl rfl rfl rfl ?_
  intro b13 W2 hb13 hs13 hx2 hB13
  have hB13' : Blk W2 b13 [u64V s.L.length, .slice ra rl rc] := hB13
  clear hB13
  refine xr 1 rfl ?_
  refine exec_load1 (b := b13) (o := 0 + 0) rfl rfl (hB13'.cell rfl) ?_
  refine xr 1 rfl ?_
  have hx12 := hx1.trans hx2
  refine exec_load1 (b := b8) (o := 0 + 0) rfl rfl ((hB8W.upd hx12).cell rfl) ?_
  have hTlt : ∀ t ∈ proofT s.L ql, t < 2 ^ 64 := fun t ht => by
    obtain ⟨y, _, rfl⟩ := List.mem_map.1 ht
    exact Nat.lt_trans (whereT_lt (by omega)) (by decide)
  have hOt2 := hOtW.upd hx12 (by simp)
  refine xca rfl rfl (need_ok A.nf s.L.length (T := proofT s.L ql) (by omega) hOt2.sl hTlt (by omega) hOt2.lt) ?_
  rintro v3 W3 ⟨hx3, hmt⟩
  rw [hneed] at hmt
  obtain ⟨nv, rfl, hOn, hbn⟩ := hmt
  obtain ⟨na, nl, nc, rfl⟩ := hOn.slice
  have h1 := hOn.lenEq
  subst h1
  refine xr 6 rfl ?_
  refine exec_load1 (b := b13) (o := 0 + 0) rfl rfl ((hB13'.upd hx3).cell rfl) ?_
  refine xca rfl rfl (rows_ok A.nf.toPosF s.L.length (by omega)) ?_
  rintro _ W4 ⟨rfl, hx4⟩
  rw [if_pos hn63]
  refine xr 6 rfl ?_
  have hx34 := hx3.trans hx4
  have hx14 := hx12.trans hx34
  refine xpu (v := .bool false) rfl rfl ?_
  refine xr 4 rfl ?_
  refine xpu (v := .bool false) rfl rfl ?_
  refine xr 11 rfl ?_
  refine exec_load1 (b := b8) (o := 0 + 0) rfl rfl ((hB8W.upd hx14).cell rfl) ?_
  refine xr 5 rfl ?_
  refine xpu (hCW.lenS rfl) rfl ?_
  refine xgr rfl ?_
  refine xpu (pv_neqI (a := (proofT s.L ql).length) (b := ql.length) (q := false) rfl rfl (by simp [hTl])) rfl ?_
  refine xr 5 rfl ?_
  refine exec_load1 (b := b8) (o := 0 + 1) rfl rfl ((hB8W.upd hx14).cell rfl) ?_
  refine xr 7 rfl ?_
  refine xpu (pv_neqI (a := (proofH s.L ql).length) (b := (proofN s.L ql).length) (q := false) rfl rfl (by simp [hHl])) rfl ?_
  refine xr 3 rfl ?_
  refine exec_litL (N := 1) (cs := []) (l := []) rfl rfl rfl rfl ?_
  intro bq W5 hbq hsq hx5 hOq
  refine xr 1 rfl ?_
  have hx15 := hx14.trans hx5
  refine exec_load1 (b := b8) (o := 0 + 0) rfl rfl ((hB8W.upd hx15).cell rfl) ?_
  have hOt5 := hOtW.upd hx15 (by simp)
  refine exec_ok (ok_appendG (N := 1) rfl rfl hOq hOt5.sl rfl (by decide) (by omega)) rfl ?_
  rintro v6 W6 ⟨hO6, hx6, hb6, hl6⟩
  refine xr 1 rfl ?_
  have z45 := hx5.size
  have z6 := hx6.size
  have hOn6 := (((hOn.upd hx4 (by simp)).upd hx5 (by simp)).upd hx6 (by simp))
  refine exec_ok (ok_append (N := 1) rfl rfl hO6 hOn6.sl rfl (by decide) (by omega) (by simp [cellValue, u64V])) rfl ?_
  rintro v7 W7 ⟨hO7, hx7, hf7, hl7⟩
  refine xr 1 rfl ?_
  have hx47 : Ext W4 W7 := (hx5.trans hx6).trans hx7 (fun b hb => .inr (by
    rcases hb6 b hb with g | g
    · simp [blkOf] at g; omega
    · omega))
  have hps : OwnC W7 v7 1 (proofT s.L ql ++ proofN s.L ql).length ((proofT s.L ql ++ proofN s.L ql).map u64V) := by
    rw [List.length_append, List.map_append]
    simpa using hO7
  clear hO7 hO6
  have hx17 := hx14.trans hx47
  have hB13_7 := (hB13'.upd hx34).upd hx47
  have hB8_7 := hB8W.upd hx17
  have hOh7 := hOhW.upd hx17 (by simp)
  have hC7 := hCW.upd hx17 (by simp)
  refine xen [(1, cv), (5, ptrV p), (8, ptrV b8), (13, ptrV b13), (16, intV' (rowsN s.L.length)), (18, v7)] ⟨rfl, rfl, rfl, rfl, rfl, rfl, trivial⟩ ?_
  refine exec_dw [] rfl rfl rfl ?_
  refine dw_rel [] (fun X _ v => ∃ b, v = .slice (some ⟨b, 0, none⟩) 0 0 ∧ OwnC X v 32 0 [] ∧ W7.heap.size ≤ b) rfl (fun X X' xs v _ hx h => ?_) (fun vs X hx _ => ?_) ?_
  · obtain ⟨b, h1, h2, h3⟩ := h
    exact ⟨b, h1, h2.upd hx (by simp), h3⟩
  · refine (ok_litL (l := []) [] rfl rfl).mono ?_
    rintro v X' ⟨b, rfl, hB, hb, _, hX'⟩
    have := hx.size
    exact ⟨hX', b, rfl, .inr ⟨b, 0, [], rfl, by simpa using hB, rfl, rfl, Nat.le_refl _⟩, by omega⟩
  repeat (first | refine dau rfl (fun _ => rfl) ?_ | refine dga rfl (fun _ => rfl) (fun _ => rfl) ?_ | refine dgs (fun _ => rfl) ?_)
  refine dw_rel [] (fun X _ v => OwnC X v 32 ql.length (hs ql) ∧ ∀ b ∈ blkOf v, W7.heap.size ≤ b) rfl (fun X X' xs v _ hx h => ⟨h.1.upd hx (by simp), h.2⟩) (fun vs X hx hf => ?_) ?_
  · obtain ⟨⟨b, h0, hO0, hb0⟩, _⟩ := hf
    rw [h0] at hO0
    refine (ok_appendG (N := 32) (by show some (vs 0) = _; rw [h0]) rfl hO0 (hC7.upd hx (by simp)) rfl (by decide) (by omega)).mono ?_
    rintro v X' ⟨g1, g2, g3, _⟩
    have := hx.size
    exact ⟨g2, by simpa using g1, fun b' hb' => by
      rcases g3 b' hb' with g | g
      · simp [blkOf] at g; omega
      · omega⟩
  repeat (first | refine dau rfl (fun _ => rfl) ?_ | refine dga rfl (fun _ => rfl) (fun _ => rfl) ?_ | refine dgs (fun _ => rfl) ?_)
  refine dw_keep (.slice ha (proofH s.L ql).length hcc) (fun vs X hx _ => ok_load1 (b := b8) (o := 0 + 1) rfl ((hB8_7.upd hx).cell rfl)) ?_
  refine dw_end fun vs W8 hx8 hf => ?_
  obtain ⟨⟨hO2, hb2⟩, _⟩ := hf
  generalize hv2 : vs 2 = v2 at hO2 hb2
  refine xen [(1, cv), (5, ptrV p), (8, ptrV b8), (13, ptrV b13), (16, intV' (rowsN s.L.length)), (18, v7), (119, v2), (121, .slice ha (proofH s.L ql).length hcc)] ⟨rfl, rfl, rfl, rfl, rfl, rfl, by show some (vs 2) = _; rw [hv2], rfl, trivial⟩ ?_
  clear hv2
  refine exec_ok (ok_append (N := 32) rfl rfl hO2 (hOh7.upd hx8 (by simp)).sl rfl (by decide) (by omega) (hs_ok _)) rfl ?_
  rintro v9 W9 ⟨hO9, hx9, _, _⟩
  have hhh : OwnC W9 v9 32 (ql ++ proofH s.L ql).length (hs (ql ++ proofH s.L ql)) := by
    rw [List.length_append, hs_append]; exact hO9
  clear hO9
  have hx79 : Ext W7 W9 := hx8.trans hx9 (fun b hb => .inr (hb2 b hb))
  have hx19 := hx17.trans hx79
  have hB13_9 := hB13_7.upd hx79
  refine xr 2 rfl ?_
  refine exec_load1 (b := b13) (o := 0 + 0) rfl rfl (hB13_9.cell rfl) ?_
  refine xca rfl rfl (trees_ok A.h_trees s.L.length (by omega)) ?_
  rintro tv' W10 ⟨hOtr, hx10, _⟩
  obtain ⟨tra, trl, trc, rfl⟩ := hOtr.slice
  have h1 := hOtr.lenEq
  subst h1
  have hx110 := hx19.trans hx10
  have hB13_10 := hB13_9.upd hx10
  have hB8_10 := hB8W.upd hx110
  refine xr 4 rfl ?_
  refine exec_load1 (b := b13) (o := 0 + 1) rfl rfl (hB13_10.cell rfl) ?_
  refine xr 1 rfl ?_
  have hrlen : (treesN s.L.length).length = rl := by rw [hrl, rootsT, treesT]; simp
  refine xpu (pv_neqI (a := (treesN s.L.length).length) (b := rl) (q := false) rfl rfl (by simp [hrlen])) rfl ?_
  refine xr 4 rfl ?_
  have hps10 := (hps.upd hx79 (by simp)).upd hx10 (by simp)
  have hhh10 := hhh.upd hx10 (by simp)
  have hOr10 : OwnC W10 (.slice ra rl rc) 33 rl (rootsC (rootsT (treesT parH (lv s.L) s.L.length))) := by
    have h1 : Ext W1 W10 := (((hx2.trans hx34).trans hx47).trans hx79).trans hx10
    rw [← hrl] at hOr
    exact hOr.upd h1 (by simp)
  have hOt10 := hOtW.upd hx110 (by simp)
  have hw10 := hwW.trans hx110
  have hR40 := rowsN_40 (n := s.L.length) (by omega)
  have htl63 : (treesN s.L.length).length ≤ 63 := by
    have := treesT_len parH (L := lv s.L) (n := s.L.length) (by omega)
    rw [treesT, List.length_map] at this; exact this
  have hpsl : (proofT s.L ql ++ proofN s.L ql).length = (ql ++ proofH s.L ql).length := by simp [hTl, hHl]
  have hpsn : (proofT s.L ql ++ proofN s.L ql).length < 2 ^ 40 := by simp; omega
  have hreck : ∀ (q : Nat) (X : World), q < 2 ^ 64 → Ext W10 X → RetV P A.reck [u64V q, intV' (rowsN s.L.length), v7, v9] X (.tuple #[hV (reckN parH hZ (rowsN s.L.length) (givenL s.L ql) 63 q).1, .bool (reckN parH hZ (rowsN s.L.length) (givenL s.L ql) 63 q).2]) := fun q X hq hX =>
    reck_ok A.toLawR (by omega) hpsl hpsn 63 q X hq (fun r hr => by have := (rowN_le hr (by omega)).1; omega) (hT.upd (hw10.trans hX)) (hps10.sl.upd hX (by simp)) (hhh10.sl.upd hX (by simp))
  refine xen [(8, ptrV b8), (13, ptrV b13), (16, intV' (rowsN s.L.length)), (18, v7), (19, v9), (20, .slice tra (treesN s.L.length).length trc), (21, intV' 0)] ⟨rfl, rfl, rfl, rfl, rfl, rfl, rfl, trivial⟩ ?_
  refine xlo (S := Nat) (fun i X => i ≤ (treesN s.L.length).length ∧ Ext W10 X) (fun i => [(8, ptrV b8), (13, ptrV b13), (16, intV' (rowsN s.L.length)), (18, v7), (19, v9), (20, .slice tra (treesN s.L.length).length trc), (21, intV' i)]) (fun i => (treesN s.L.length).length - i) 0 ⟨Nat.zero_le _, Upd.refl _ _⟩ ⟨rfl, rfl, rfl, rfl, rfl, rfl, rfl, trivial⟩ ?_
  rintro i X ⟨j1, jU⟩
  refine xr 3 rfl ?_
  by_cases hi : i < (treesN s.L.length).length
  · refine xpu (pv_lssI (a := i) (b := (treesN s.L.length).length) (q := true) rfl rfl (by simpa using hi)) rfl ?_
    refine xr 3 rfl ?_
    obtain ⟨h, hh⟩ : ∃ h, (treesN s.L.length)[i]? = some h := ⟨_, List.getElem?_eq_getElem hi⟩
    obtain ⟨hh63, hbit⟩ := (treesN_mem hn63).1 (List.mem_of_getElem? hh)
    obtain ⟨hroot, hq⟩ := root_in hn63 hbit
    generalize hqq : posN (rowsN s.L.length) h (s.L.length / 2 ^ (h + 1) * 2) = q at hq
    have hqlt : q < 2 ^ 64 := by
      have := rootN_lt hq
      have : (2 : Nat) ^ (rowsN s.L.length + 1) ≤ 2 ^ 64 := Nat.pow_le_pow_right (by omega) (by omega)
      omega
    obtain ⟨bt, ot, ct, htv, hmt, _⟩ := (hOtr.upd jU (by simp)).sl.at (by omega)
    refine exec_dwr rfl rfl rfl ?_
    repeat (first | refine wtm rfl rfl rfl ?_ | refine wgt rfl rfl rfl rfl ?_ | refine wgs rfl rfl ?_ | refine ws_gskipU rfl rfl ?_)
    refine ws_keep (u64V s.L.length) rfl (fun Y hy => ok_load1 (b := b13) (o := 0 + 0) rfl ((hB13_10.upd (jU.trans hy)).cell rfl)) ?_
    repeat (first | refine wtm rfl rfl rfl ?_ | refine wgt rfl rfl rfl rfl ?_ | refine wgs rfl rfl ?_ | refine ws_gskipU rfl rfl ?_)
    refine ws_keep _ rfl (fun Y hy => ok_iaddr (N := 1) (b := bt) (o := ot) (len := (treesN s.L.length).length) (cap := ct) (by rw [← htv]; rfl) rfl i rfl hi) ?_
    refine ws_keep (intV' h) rfl (fun Y hy => ok_load1 (b := bt) (o := ot + i * 1) rfl ((hmt.upd hy) (i * 1) _ (by rw [Nat.mul_one, List.getElem?_map, hh]; rfl))) ?_
    refine ws_ext (.tuple #[u64V q, .bool true]) rfl (fun Y hy => by
      have := root_ok (w := Y) A.nf.toPosF s.L.length h (by omega) (by omega)
      rw [hq] at this
      exact ok_call rfl this) ?_
    repeat (first | refine wtm rfl rfl rfl ?_ | refine wgt rfl rfl rfl rfl ?_ | refine wgs rfl rfl ?_ | refine ws_gskipU rfl rfl ?_)
    refine ws_fin fun X1 hx1' => ?_
    refine xr 5 rfl ?_
    refine xca rfl rfl (hreck q X1 hqlt (jU.trans hx1')) ?_
    rintro _ X2 ⟨rfl, hx2'⟩
    refine xr 3 rfl ?_
    generalize hra : reckN parH hZ (rowsN s.L.length) (givenL s.L ql) 63 q = rr
    refine exec_new_store (v := hV rr.1) rfl rfl rfl (hV_size _) rfl (by rw [hV_cells]; exact hC_cell _) ?_
    intro b24 X3 hb24 hs24 hx3' hB24
    rw [hV_cells] at hB24
    obtain ⟨rh, rk⟩ := rr
    have hX3 : Ext W10 X3 := ((jU.trans hx1').trans hx2').trans hx3'
    refine xr 1 rfl ?_
    refine xen [(8, ptrV b8), (13, ptrV b13), (16, intV' (rowsN s.L.length)), (18, v7), (19, v9), (20, .slice tra (treesN s.L.length).length trc), (21, intV' i), (24, ptrV b24), (25, .bool rk)] ⟨rfl, rfl, rfl, rfl, rfl, rfl, rfl, rfl, rfl, trivial⟩ ?_
    have next : ∀ X4, Ext X3 X4 → ∀ (en : Env), Env.sub [(8, ptrV b8), (13, ptrV b13), (16, intV' (rowsN s.L.length)), (18, v7), (19, v9), (20, .slice tra (treesN s.L.length).length trc), (22, intV' i)] en → True := fun _ _ _ _ => trivial
    cases rk with
    | false =>
      refine exec_dwr rfl rfl rfl ?_
      repeat (first | refine wtm rfl rfl rfl ?_ | refine wgt rfl rfl rfl rfl ?_ | refine wgs rfl rfl ?_ | refine ws_gskipU rfl rfl ?_)
      refine ws_fin fun X4 hx4' => ?_
      refine xr 8 rfl ?_
      refine xpu (pv_addI (a := i) (b := 1) rfl rfl (by omega)) rfl ?_
      refine xr 1 rfl ?_
      exact xag (i + 1) ⟨hi, hX3.trans hx4'⟩ (by show (treesN s.L.length).length - (i + 1) < (treesN s.L.length).length - i; omega) ⟨rfl, rfl, rfl, rfl, rfl, rfl, rfl, trivial⟩
    | true =>
      obtain ⟨t, ht, hth⟩ := root_reck hn63 hall hnd hq hra
      have hri : (rootsT (treesT parH (lv s.L) s.L.length))[i]? = some (some rh) := by
        rw [rootsT, treesT, List.map_map, List.getElem?_map, hh]
        simp [ht, hth]
      obtain ⟨br, orr, cr, hrv, _, hmr⟩ := rootsC_at (l := rootsT (treesT parH (lv s.L) s.L.length)) (by rw [← hrl]; exact (hOr10.upd hX3 (by simp)).sl) hri
      rw [← hrl] at hrv
      refine exec_dwr rfl rfl rfl ?_
      repeat (first | refine wtm rfl rfl rfl ?_ | refine wgt rfl rfl rfl rfl ?_ | refine wgs rfl rfl ?_ | refine ws_gskipU rfl rfl ?_)
      refine ws_gkeep (.slice ra rl rc) rfl rfl (fun Y hy => ok_load1 (b := b13) (o := 0 + 1) rfl ((hB13_10.upd (hX3.trans hy)).cell rfl)) ?_
      repeat (first | refine wtm rfl rfl rfl ?_ | refine wgt rfl rfl rfl rfl ?_ | refine wgs rfl rfl ?_ | refine ws_gskipU rfl rfl ?_)
      refine ws_gkeep _ rfl rfl (fun Y hy => ok_iaddr (N := 33) (b := br) (o := orr) (len := rl) (cap := cr) (by rw [← hrv]; rfl) rfl i rfl (by omega)) ?_
      repeat (first | refine wtm rfl rfl rfl ?_ | refine wgt rfl rfl rfl rfl ?_ | refine wgs rfl rfl ?_ | refine ws_gskipU rfl rfl ?_)
      refine ws_gkeep (.bool true) rfl rfl (fun Y hy => ok_load1 (b := br) (o := orr + i * 33 + 0) rfl ((hmr.upd hy) 0 _ rfl)) ?_
      repeat (first | refine wtm rfl rfl rfl ?_ | refine wgt rfl rfl rfl rfl ?_ | refine wgs rfl rfl ?_ | refine ws_gskipU rfl rfl ?_)
      refine ws_gkeep (hV rh) rfl rfl (fun Y hy => ok_loadN (b := b24) (o := 0) (vs := hC rh) rfl (hB24.upd hy).memAll (hC_length _)) ?_
      repeat (first | refine wtm rfl rfl rfl ?_ | refine wgt rfl rfl rfl rfl ?_ | refine wgs rfl rfl ?_ | refine ws_gskipU rfl rfl ?_)
      refine ws_gkeep (.slice ra rl rc) rfl rfl (fun Y hy => ok_load1 (b := b13) (o := 0 + 1) rfl ((hB13_10.upd (hX3.trans hy)).cell rfl)) ?_
      repeat (first | refine wtm rfl rfl rfl ?_ | refine wgt rfl rfl rfl rfl ?_ | refine wgs rfl rfl ?_ | refine ws_gskipU rfl rfl ?_)
      refine ws_gkeep _ rfl rfl (fun Y hy => ok_iaddr (N := 33) (b := br) (o := orr) (len := rl) (cap := cr) (by rw [← hrv]; rfl) rfl i rfl (by omega)) ?_
      repeat (first | refine wtm rfl rfl rfl ?_ | refine wgt rfl rfl rfl rfl ?_ | refine wgs rfl rfl ?_ | refine ws_gskipU rfl rfl ?_)
      refine ws_gkeep (hV rh) rfl rfl (fun Y hy => ok_loadN (b := br) (o := orr + i * 33 + 1) (vs := hC rh) rfl ((hmr.upd hy).sub 1 (us := hC rh) (fun j x hj => by rw [rootC, Nat.add_comm]; exact hj)) (hC_length _)) ?_
      refine ws_fin fun X4 hx4' => ?_
      refine xgr rfl ?_
      refine xju (v := .bool false) (by
        have e0 : (Value.bool false) = Value.bool (!decide (rh = rh)) := by simp
        rw [e0]
        exact ok_ne_hash A.h_TH rfl rfl) rfl ?_
      refine xr 8 rfl ?_
      refine xpu (pv_addI (a := i) (b := 1) rfl rfl (by omega)) rfl ?_
      refine xr 1 rfl ?_
      exact xag (i + 1) ⟨hi, hX3.trans hx4'⟩ (by show (treesN s.L.length).length - (i + 1) < (treesN s.L.length).length - i; omega) ⟨rfl, rfl, rfl, rfl, rfl, rfl, rfl, trivial⟩
  refine xpu (pv_lssI (a := i) (b := (treesN s.L.length).length) (q := false) rfl rfl (by simpa using hi)) rfl ?_
  refine xr 5 rfl ?_
  refine xen [(8, ptrV b8), (13, ptrV b13), (16, intV' (rowsN s.L.length)), (18, v7), (19, v9), (26, intV' 0)] ⟨rfl, rfl, rfl, rfl, rfl, rfl, trivial⟩ ?_
  refine xlo (S := Nat) (fun i Y => i ≤ ql.length ∧ Ext X Y) (fun i => [(8, ptrV b8), (13, ptrV b13), (16, intV' (rowsN s.L.length)), (18, v7), (19, v9), (26, intV' i)]) (fun i => ql.length - i) 0 ⟨Nat.zero_le _, Upd.refl _ _⟩ ⟨rfl, rfl, rfl, rfl, rfl, rfl, trivial⟩ ?_
  rintro k Y ⟨k1, kU⟩
  have kX := jU.trans kU
  refine xr 2 rfl ?_
  refine exec_load1 (b := b8) (o := 0 + 0) rfl rfl ((hB8_10.upd kX).cell rfl) ?_
  refine xr 1 rfl ?_
  by_cases hk : k < ql.length
  · refine xpu (pv_lssI (a := k) (b := (proofT s.L ql).length) (q := true) rfl rfl (by simp [hTl, hk])) rfl ?_
    refine xr 3 rfl ?_
    obtain ⟨a, ha'⟩ : ∃ a, ql[k]? = some a := ⟨_, List.getElem?_eq_getElem hk⟩
    have haq := List.mem_of_getElem? ha'
    have hTk : (proofT s.L ql)[k]? = some (spotL s.L a) := by rw [proofT, List.getElem?_map, ha']; rfl
    obtain ⟨bt, ot, ct, htv, hmt, _⟩ := (hOt10.upd kX (by simp)).sl.at (by omega)
    have hslt := hTlt _ (List.mem_of_getElem? hTk)
    refine exec_dwr rfl rfl rfl ?_
    repeat (first | refine wtm rfl rfl rfl ?_ | refine wgt rfl rfl rfl rfl ?_ | refine wgs rfl rfl ?_ | refine ws_gskipU rfl rfl ?_)
    refine ws_keep (u64V s.L.length) rfl (fun Z hz => ok_load1 (b := b13) (o := 0 + 0) rfl ((hB13_10.upd (kX.trans hz)).cell rfl)) ?_
    repeat (first | refine wtm rfl rfl rfl ?_ | refine wgt rfl rfl rfl rfl ?_ | refine wgs rfl rfl ?_ | refine ws_gskipU rfl rfl ?_)
    refine ws_keep (.slice ta (proofT s.L ql).length tc) rfl (fun Z hz => ok_load1 (b := b8) (o := 0 + 0) rfl ((hB8_10.upd (kX.trans hz)).cell rfl)) ?_
    repeat (first | refine wtm rfl rfl rfl ?_ | refine wgt rfl rfl rfl rfl ?_ | refine wgs rfl rfl ?_ | refine ws_gskipU rfl rfl ?_)
    refine ws_keep _ rfl (fun Z hz => ok_iaddr (N := 1) (b := bt) (o := ot) (len := (proofT s.L ql).length) (cap := ct) (by rw [← htv]; rfl) rfl k rfl (by omega)) ?_
    refine ws_keep (u64V (spotL s.L a)) rfl (fun Z hz => ok_load1 (b := bt) (o := ot + k * 1) rfl ((hmt.upd hz) (k * 1) _ (by rw [Nat.mul_one, List.getElem?_map, hTk]; rfl))) ?_
    refine ws_fin fun Y1 hy1 => ?_
    refine xca rfl rfl (way_ok A.nf.toWayF s.L.length (spotL s.L a) (by omega) hslt) ?_
    rintro wv Y2 ⟨hOw, hy2, _⟩
    obtain ⟨q, hqlast, hknown⟩ := way_reck hn63 hall hnd haq
    obtain ⟨wa, wl, wc, rfl⟩ := hOw.slice
    have h1 := hOw.lenEq
    subst h1
    have hwne : (wayN s.L.length (spotL s.L a)).length ≠ 0 := by
      intro h0
      rw [List.length_eq_zero_iff.1 h0] at hqlast; cases hqlast
    have hqi : (wayN s.L.length (spotL s.L a))[(wayN s.L.length (spotL s.L a)).length - 1]? = some q := by rw [← List.getLast?_eq_getElem?]; exact hqlast
    have hwl := wayN_length s.L.length (spotL s.L a)
    have hqlt := wayN_lt hslt q (List.mem_of_getElem? hqi)
    generalize wayN s.L.length (spotL s.L a) = way at *
    refine xr 3 rfl ?_
    refine xpu (pv_eqlI (K := .i64) (a := way.length) (b := 0) (q := false) rfl rfl (by simpa using hwne)) rfl ?_
    refine xr 5 rfl ?_
    refine xpu (pv_subI (a := way.length) (b := 1) rfl rfl (by omega) (by omega)) rfl ?_
    obtain ⟨bw, ow, cw, hwv, hmw, _⟩ := hOw.sl.at (by omega)
    refine xju (ok_iaddr (N := 1) (b := bw) (o := ow) (len := way.length) (cap := cw) (by rw [← hwv]; rfl) rfl (way.length - 1) rfl (by omega)) rfl ?_
    refine exec_load1 (b := bw) (o := ow + (way.length - 1) * 1) (v := u64V q) rfl rfl (hmw ((way.length - 1) * 1) _ (by rw [Nat.mul_one, List.getElem?_map, hqi]; rfl)) ?_
    refine xr 3 rfl ?_
    refine xca rfl rfl (hreck q Y2 hqlt ((kX.trans hy1).trans hy2)) ?_
    rintro _ Y3 ⟨rfl, hy3⟩
    rw [hknown 63 (by omega)]
    generalize (reckN parH hZ (rowsN s.L.length) (givenL s.L ql) 63 q).1 = rh
    refine xr 3 rfl ?_
    refine exec_new_store (v := hV rh) rfl rfl rfl (hV_size _) rfl (by rw [hV_cells]; exact hC_cell _) ?_
    intro b28 Y4 hb28 hs28 hy4 hB28
    refine xr 8 rfl ?_
    refine xpu (pv_addI (a := k) (b := 1) rfl rfl (by omega)) rfl ?_
    refine xr 1 rfl ?_
    exact xag (k + 1) ⟨hk, (((kU.trans hy1).trans hy2).trans hy3).trans hy4⟩ (by show ql.length - (k + 1) < ql.length - k; omega) ⟨rfl, rfl, rfl, rfl, rfl, rfl, trivial⟩
  · refine xpu (pv_lssI (a := k) (b := (proofT s.L ql).length) (q := false) rfl rfl (by simp [hTl]; omega)) rfl ?_
    refine xr 3 rfl ?_
    refine xca rfl rfl (works_ok A.toLawG (hT.upd (hw10.trans kX))) ?_
    rintro _ Y1 ⟨rfl, hy1⟩
    refine xr 1 rfl ?_
    exact xre hc [_] ⟨rfl, trivial⟩ ⟨rfl, (hw10.trans kX).trans hy1⟩
end
end Go.Sp

namespace Go.Sp
open Go.Sort (order2 median medianAdjacent choosePivot Hint)
def hintN : Hint → Nat
  | .unknown => 0
  | .increasing => 1
  | .decreasing => 2
section
variable {P : Program} {f : Nat} {w : World} (A : SortF P)
theorem order2_ok (h : Has P f (b_slices_order2Ordered_uint64 A.less)) {b n cap x y s bs : Nat} {d : Array Nat} {rest : List Value} (hB : Blk w b (row d rest)) (hS : Blk w bs [intV' s]) (hd : d.size = n) (hx : x < n) (hy : y < n) (hn : n < 2 ^ 40) (hs : s < 2 ^ 40) :
    Ret P f [slV b n cap, intV' x, intV' y, ptrV bs] w fun v w' => v = .tuple #[intV' (order2 ltN d x y s).1, intV' (order2 ltN d x y s).2.1] ∧ Blk w' bs [intV' (order2 ltN d x y s).2.2] ∧ Upd [bs] w w' := by
  refine Ret.of_exec h (Nat.le_of_ble_eq_true rfl) fun c hc => ?_
  dsimp only [b_slices_order2Ordered_uint64, argEnv, ym, yo, yg, ys, yt, yd, ye]
  refine xr 2 rfl ?_
  refine exec_dw [] rfl rfl rfl ?_
  repeat (first | refine dau rfl (fun _ => rfl) ?_ | refine dga rfl (fun _ => rfl) (fun _ => rfl) ?_ | refine dgs (fun _ => rfl) ?_)
  refine dw_keep _ (fun vs W' hu _ => ok_iaddr (b := b) (o := 0) (len := n) (cap := cap) rfl rfl (y) rfl (by omega)) ?_
  refine dw_keep (u64V d[y]!) (fun vs W' hu _ => ok_load1 (b := b) (o := 0 + (y) * 1) rfl ((hB.upd hu).cell (row_get (by omega)))) ?_
  repeat (first | refine dau rfl (fun _ => rfl) ?_ | refine dga rfl (fun _ => rfl) (fun _ => rfl) ?_ | refine dgs (fun _ => rfl) ?_)
  refine dw_keep _ (fun vs W' hu _ => ok_iaddr (b := b) (o := 0) (len := n) (cap := cap) rfl rfl (x) rfl (by omega)) ?_
  refine dw_keep (u64V d[x]!) (fun vs W' hu _ => ok_load1 (b := b) (o := 0 + (x) * 1) rfl ((hB.upd hu).cell (row_get (by omega)))) ?_
  refine dw_end fun vs W1 hu1 _ => ?_
  refine xca rfl rfl (less_ok A.h_nan A.h_less d[y]! d[x]!) ?_
  rintro v W2 ⟨rfl, hu2⟩
  have hu := hu1.trans hu2
  refine exec_cond rfl (fun hc1 => ?_) (fun hc1 => ?_)
  · refine xr 2 rfl ?_
    refine exec_load1 (b := bs) (o := 0) (v := intV' s) rfl rfl ((hS.upd hu).cell rfl) ?_
    refine xpu (pv_addI (a := s) (b := 1) rfl rfl (by omega)) rfl ?_
    refine xr 1 rfl ?_
    refine exec_store (b := bs) (o := 0) (v := intV' (s + 1)) rfl rfl (hS.upd hu) rfl (by simp) rfl ?_
    intro W3 hu3 _ hS3
    refine xr 4 rfl ?_
    refine xre hc [_, _] ⟨rfl, rfl, trivial⟩ ?_
    rw [order2, if_pos hc1]
    exact ⟨rfl, hS3, (hu.mono (by simp)).trans hu3 (by simp)⟩
  · refine xr 5 rfl ?_
    refine xre hc [_, _] ⟨rfl, rfl, trivial⟩ ?_
    rw [order2, if_neg (by rw [hc1]; simp)]
    exact ⟨rfl, hS.upd hu, hu.mono (by simp)⟩
theorem order2_lt {d : Array Nat} {n x y s : Nat} (hx : x < n) (hy : y < n) : (order2 ltN d x y s).1 < n ∧ (order2 ltN d x y s).2.1 < n ∧ (order2 ltN d x y s).2.2 ≤ s + 1 := by
  unfold order2
  split <;> exact ⟨by assumption, by assumption, by simp⟩
theorem median_ok {g : Nat} (h2 : Has P g (b_slices_order2Ordered_uint64 A.less)) (h : Has P f (b_slices_medianOrdered_uint64 g)) {b n cap x y z s bs : Nat} {d : Array Nat} {rest : List Value} (hB : Blk w b (row d rest)) (hS : Blk w bs [intV' s]) (hd : d.size = n) (hx : x < n) (hy : y < n) (hz : z < n) (hn : n < 2 ^ 40) (hs : s < 2 ^ 30) (hne : b ≠ bs) :
    Ret P f [slV b n cap, intV' x, intV' y, intV' z, ptrV bs] w fun v w' => v = intV' (median ltN d x y z s).1 ∧ Blk w' bs [intV' (median ltN d x y z s).2] ∧ Upd [bs] w w' := by
  refine Ret.of_exec h (Nat.le_of_ble_eq_true rfl) fun c hc => ?_
  dsimp only [b_slices_medianOrdered_uint64, argEnv, ym, yo, yg, ys, yt, yd, ye]
  refine xr 5 rfl ?_
  refine xca rfl rfl (order2_ok A h2 hB hS hd hx hy hn (by omega)) ?_
  rintro v W1 ⟨rfl, hS1, hu1⟩
  obtain ⟨l1, l2, l3⟩ := order2_lt (d := d) (s := s) hx hy
  have hB1 := hB.upd hu1 (by simp; exact hne)
  refine xr 9 rfl ?_
  refine xca rfl rfl (order2_ok A h2 hB1 hS1 hd l2 hz hn (by omega)) ?_
  rintro v W2 ⟨rfl, hS2, hu2⟩
  obtain ⟨m1, m2, m3⟩ := order2_lt (d := d) (s := (order2 ltN d x y s).2.2) l2 hz
  have hB2 := hB1.upd hu2 (by simp; exact hne)
  refine xr 9 rfl ?_
  refine xca rfl rfl (order2_ok A h2 hB2 hS2 hd l1 m1 hn (by omega)) ?_
  rintro v W3 ⟨rfl, hS3, hu3⟩
  refine xr 7 rfl ?_
  refine xre hc [_] ⟨rfl, trivial⟩ ⟨rfl, hS3, (hu1.trans hu2 (by simp)).trans hu3 (by simp)⟩
theorem median_lt {d : Array Nat} {n x y z s : Nat} (hx : x < n) (hy : y < n) (hz : z < n) : (median ltN d x y z s).1 < n ∧ (median ltN d x y z s).2 ≤ s + 3 := by
  obtain ⟨l1, l2, l3⟩ := order2_lt (d := d) (s := s) hx hy
  obtain ⟨m1, m2, m3⟩ := order2_lt (d := d) (s := (order2 ltN d x y s).2.2) l2 hz
  obtain ⟨k1, k2, k3⟩ := order2_lt (d := d) (s := (order2 ltN d (order2 ltN d x y s).2.1 z (order2 ltN d x y s).2.2).2.2) l1 m1
  unfold median
  exact ⟨k2, by simp only; omega⟩
theorem medianAdj_ok {g g2 : Nat} (h2 : Has P g (b_slices_order2Ordered_uint64 A.less)) (h3 : Has P g2 (b_slices_medianOrdered_uint64 g)) (h : Has P f (b_slices_medianAdjacentOrdered_uint64 g2)) {b n cap x s bs : Nat} {d : Array Nat} {rest : List Value} (hB : Blk w b (row d rest)) (hS : Blk w bs [intV' s]) (hd : d.size = n) (hx0 : 0 < x) (hx : x + 1 < n) (hn : n < 2 ^ 40) (hs : s < 2 ^ 30) (hne : b ≠ bs) :
    Ret P f [slV b n cap, intV' x, ptrV bs] w fun v w' => v = intV' (medianAdjacent ltN d x s).1 ∧ Blk w' bs [intV' (medianAdjacent ltN d x s).2] ∧ Upd [bs] w w' := by
  refine Ret.of_exec h (Nat.le_of_ble_eq_true rfl) fun c hc => ?_
  dsimp only [b_slices_medianAdjacentOrdered_uint64, argEnv, ym, yo, yg, ys, yt, yd, ye]
  refine xr 3 rfl ?_
  refine xpu (pv_subI (a := x) (b := 1) rfl rfl (by omega) (by omega)) rfl ?_
  refine xr 2 rfl ?_
  refine xpu (pv_addI (a := x) (b := 1) rfl rfl (by omega)) rfl ?_
  refine xr 1 rfl ?_
  refine xca rfl rfl (median_ok A h2 h3 hB hS hd (by omega) (by omega) (by omega) hn hs hne) ?_
  rintro v W1 ⟨rfl, hS1, hu1⟩
  refine xr 1 rfl ?_
  exact xre hc [_] ⟨rfl, trivial⟩ ⟨rfl, hS1, hu1⟩
theorem choosePivot_ok {g g2 g3 T : Nat} (h2 : Has P g (b_slices_order2Ordered_uint64 A.less)) (h3 : Has P g2 (b_slices_medianOrdered_uint64 g)) (h4 : Has P g3 (b_slices_medianAdjacentOrdered_uint64 g2)) (h : Has P f (b_slices_choosePivotOrdered_uint64 g3 g2 T))
    {b n cap x y : Nat} {d : Array Nat} {rest : List Value} (hB : Blk w b (row d rest)) (hd : d.size = n) (hxy : x + 12 < y) (hy : y ≤ n) (hn : n < 2 ^ 40) :
    Ret P f [slV b n cap, intV' x, intV' y] w fun v w' => v = .tuple #[intV' (choosePivot ltN d x y).1, intV' (hintN (choosePivot ltN d x y).2)] ∧ Ext w w' := by
  refine Ret.of_exec h (Nat.le_of_ble_eq_true rfl) fun c hc => ?_
  dsimp only [b_slices_choosePivotOrdered_uint64, argEnv, ym, yo, yg, ys, yt, yd, ye]
  refine xr 4 rfl ?_
  refine xpu (pv_subI (a := y) (b := x) rfl rfl (by omega) (by omega)) rfl ?_
  refine xr 1 rfl ?_
  refine exec_new rfl ?_
  intro bs W1 hbs hs1 hu1 hS1
  have hS : Blk W1 bs [intV' 0] := hS1
  have hlt := hB.lt
  have hne : b ≠ bs := by omega
  have hB1 := hB.upd hu1
  refine xr 2 rfl ?_
  refine xju (ok_quoI (a := y - x) (b := 4) rfl rfl (by omega) (by omega)) rfl ?_
  refine xpu (pv_mulI (a := (y - x) / 4) (b := 1) rfl rfl (by omega)) rfl ?_
  refine xpu (pv_addI (a := x) (b := (y - x) / 4 * 1) rfl rfl (by omega)) rfl ?_
  refine xr 3 rfl ?_
  refine xju (ok_quoI (a := y - x) (b := 4) rfl rfl (by omega) (by omega)) rfl ?_
  refine xpu (pv_mulI (a := (y - x) / 4) (b := 2) rfl rfl (by omega)) rfl ?_
  refine xpu (pv_addI (a := x) (b := (y - x) / 4 * 2) rfl rfl (by omega)) rfl ?_
  refine xr 3 rfl ?_
  refine xju (ok_quoI (a := y - x) (b := 4) rfl rfl (by omega) (by omega)) rfl ?_
  refine xpu (pv_mulI (a := (y - x) / 4) (b := 3) rfl rfl (by omega)) rfl ?_
  refine xpu (pv_addI (a := x) (b := (y - x) / 4 * 3) rfl rfl (by omega)) rfl ?_
  refine xr 2 rfl ?_
  refine xpu (pv_geqI (a := y - x) (b := 8) (q := true) rfl rfl (by simp; omega)) rfl ?_
  refine xr 2 rfl ?_
  refine xpu (pv_geqI (a := y - x) (b := 50) (q := decide (50 ≤ y - x)) rfl rfl rfl) rfl ?_
  refine exec_cond_join (S := Nat × Nat × Nat × Nat) (fun s W => Ext w W ∧ Blk W b (row d rest) ∧ Blk W bs [intV' s.2.2.2] ∧ s.2.2.2 < 20 ∧ s.1 < n ∧ s.2.1 < n ∧ s.2.2.1 < n ∧ (choosePivot ltN d x y = ((median ltN d s.1 s.2.1 s.2.2.1 s.2.2.2).1, if (median ltN d s.1 s.2.1 s.2.2.1 s.2.2.2).2 = 0 then .increasing else if (median ltN d s.1 s.2.1 s.2.2.1 s.2.2.2).2 = 12 then .decreasing else .unknown)))
    (fun s => [(0, slV b n cap), (10, intV' s.1), (11, intV' s.2.1), (12, intV' s.2.2.1), (9, ptrV bs)]) rfl (fun c50 => ?_) (fun c50 => ?_) ?_
  · simp only [decide_eq_true_eq] at c50
    refine xr 2 rfl ?_
    refine xca rfl rfl (medianAdj_ok A h2 h3 h4 hB1 hS hd (by omega) (by omega) hn (by omega) hne) ?_
    rintro v W2 ⟨rfl, hS2, hu2⟩
    have hB2 := hB1.upd hu2 (by simp; exact hne)
    obtain ⟨i1, i2⟩ := median_lt (d := d) (n := n) (x := x + (y - x) / 4 * 1 - 1) (y := x + (y - x) / 4 * 1) (z := x + (y - x) / 4 * 1 + 1) (s := 0) (by omega) (by omega) (by omega)
    refine xr 3 rfl ?_
    refine xca rfl rfl (medianAdj_ok A h2 h3 h4 hB2 hS2 hd (by omega) (by omega) hn (by show (median _ _ _ _ _ _).2 < _; omega) hne) ?_
    rintro v W3 ⟨rfl, hS3, hu3⟩
    have hB3 := hB2.upd hu3 (by simp; exact hne)
    obtain ⟨j1, j2⟩ := median_lt (d := d) (n := n) (x := x + (y - x) / 4 * 2 - 1) (y := x + (y - x) / 4 * 2) (z := x + (y - x) / 4 * 2 + 1) (s := (medianAdjacent ltN d (x + (y - x) / 4 * 1) 0).2) (by omega) (by omega) (by omega)
    have i2' : (medianAdjacent ltN d (x + (y - x) / 4 * 1) 0).2 ≤ 3 := by simpa [medianAdjacent] using i2
    refine xr 3 rfl ?_
    refine xca rfl rfl (medianAdj_ok A h2 h3 h4 hB3 hS3 hd (by omega) (by omega) hn (by show (median _ _ _ _ _ _).2 < _; omega) hne) ?_
    rintro v W4 ⟨rfl, hS4, hu4⟩
    have hB4 := hB3.upd hu4 (by simp; exact hne)
    have j2' : (medianAdjacent ltN d (x + (y - x) / 4 * 2) (medianAdjacent ltN d (x + (y - x) / 4 * 1) 0).2).2 ≤ 6 := by
      have : (medianAdjacent ltN d (x + (y - x) / 4 * 2) (medianAdjacent ltN d (x + (y - x) / 4 * 1) 0).2).2 ≤ (medianAdjacent ltN d (x + (y - x) / 4 * 1) 0).2 + 3 := j2
      omega
    obtain ⟨k1, k2⟩ := median_lt (d := d) (n := n) (x := x + (y - x) / 4 * 3 - 1) (y := x + (y - x) / 4 * 3) (z := x + (y - x) / 4 * 3 + 1) (s := (medianAdjacent ltN d (x + (y - x) / 4 * 2) (medianAdjacent ltN d (x + (y - x) / 4 * 1) 0).2).2) (by omega) (by omega) (by omega)
    refine xr 1 rfl ?_
    have hE : Ext w W4 := ((hu1.trans hu2 (fun b hb => .inr (by simp at hb; omega))).trans hu3 (fun b hb => .inr (by simp at hb; omega))).trans hu4 (fun b hb => .inr (by simp at hb; omega))
    refine exec_meet (_, _, _, _) ⟨hE, hB4, hS4, (by show (median _ _ _ _ _ _).2 < _; omega), i1, j1, k1, ?_⟩ ⟨rfl, rfl, rfl, rfl, rfl, trivial⟩
    rw [choosePivot, if_pos (show y - x ≥ 8 by omega), if_pos (show y - x ≥ 50 by omega)]
    rfl
  · simp only [decide_eq_false_iff_not] at c50
    refine exec_meet (_, _, _, _) ⟨hu1, hB1, hS, (by show 0 < 20; omega), (by show x + (y - x) / 4 * 1 < n; omega), (by show x + (y - x) / 4 * 2 < n; omega), (by show x + (y - x) / 4 * 3 < n; omega), ?_⟩ ⟨rfl, rfl, rfl, rfl, rfl, trivial⟩
    rw [choosePivot, if_pos (show y - x ≥ 8 by omega), if_neg (show ¬ y - x ≥ 50 by omega)]
  · rintro ⟨i, j, k, s⟩ W ⟨q1, q2, q3, q4, q5, q6, q7, q8⟩
    simp only at q2 q3 q4 q5 q6 q7 q8
    refine xr 4 rfl ?_
    refine xca rfl rfl (median_ok A h2 h3 q2 q3 hd q5 q6 q7 hn (by omega) hne) ?_
    rintro v W2 ⟨rfl, hS2, hu2⟩
    have hu : Ext w W2 := q1.trans hu2 (fun b hb => .inr (by simp at hb; omega))
    refine xr 2 rfl ?_
    refine exec_load1 (b := bs) (o := 0) rfl rfl (hS2.cell rfl) ?_
    refine xbk ?_
    have hm := (median_lt (d := d) (s := s) q5 q6 q7).2
    by_cases c0 : (median ltN d i j k s).2 = 0
    · refine xpu (pv_eqlI (a := (median ltN d i j k s).2) (b := 0) (q := true) rfl rfl (by simpa using c0)) rfl ?_
      refine xr 5 rfl ?_
      refine xre hc [_, _] ⟨rfl, rfl, trivial⟩ ?_
      rw [q8, if_pos c0]
      exact ⟨rfl, hu⟩
    · refine xpu (pv_eqlI (a := (median ltN d i j k s).2) (b := 0) (q := false) rfl rfl (by simpa using c0)) rfl ?_
      refine xr 2 rfl ?_
      by_cases c1 : (median ltN d i j k s).2 = 12
      · refine xpu (pv_eqlI (a := (median ltN d i j k s).2) (b := 12) (q := true) rfl rfl (by simpa using c1)) rfl ?_
        refine xr 5 rfl ?_
        refine xre hc [_, _] ⟨rfl, rfl, trivial⟩ ?_
        rw [q8, if_neg c0, if_pos c1]
        exact ⟨rfl, hu⟩
      · refine xpu (pv_eqlI (a := (median ltN d i j k s).2) (b := 12) (q := false) rfl rfl (by simpa using c1)) rfl ?_
        refine xr 5 rfl ?_
        refine xre hc [_, _] ⟨rfl, rfl, trivial⟩ ?_
        rw [q8, if_neg c0, if_neg c1]
        exact ⟨rfl, hu⟩
end
end Go.Sp

namespace Go.Sp
open Go.Sort (swp siftDown heapBuild heapPop heapSort reverseLoop reverseRange)
theorem siftDown_if (lt : Nat → Nat → Bool) (hi first root : Nat) (d : Array Nat) : siftDown lt hi first root d =
    if _h : 2 * root + 1 ≥ hi then d else
    if 2 * root + 1 + 1 < hi && lt d[first + (2 * root + 1)]! d[first + (2 * root + 1) + 1]! then
      if !lt d[first + root]! d[first + (2 * root + 2)]! then d else
        if _h2 : 2 * root + 2 < hi then siftDown lt hi first (2 * root + 2) (swp d (first + root) (first + (2 * root + 2))) else d
    else
      if !lt d[first + root]! d[first + (2 * root + 1)]! then d else siftDown lt hi first (2 * root + 1) (swp d (first + root) (first + (2 * root + 1))) := by rw [siftDown]
theorem reverseLoop_if (i j : Nat) (d : Array Nat) : reverseLoop i j d = if i < j then reverseLoop (i + 1) (j - 1) (swp d i j) else d := by rw [reverseLoop]
section
variable {P : Program} {f : Nat} {w : World} (A : SortF P)
theorem sift_ok (h : Has P f (b_slices_siftDownOrdered_uint64 A.less)) {b n cap lo hi first : Nat} {d : Array Nat} {rest : List Value} (hB : Blk w b (row d rest)) (hd : d.size = n) (hf : first + hi ≤ n) (hlo : lo ≤ n) (hn : n < 2 ^ 40) :
    Ret P f [slV b n cap, intV' lo, intV' hi, intV' first] w fun _ w' => Blk w' b (row (siftDown ltN hi first lo d) rest) ∧ Upd [b] w w' := by
  refine Ret.of_exec h (Nat.le_of_ble_eq_true rfl) fun c hc => ?_
  dsimp only [b_slices_siftDownOrdered_uint64, argEnv, ym, yo, yg, ys, yt, yd, ye]
  refine xr 3 rfl ?_
  refine xlo (S := Nat × Array Nat) (fun s W => s.1 ≤ n ∧ s.2.size = n ∧ siftDown ltN hi first s.1 s.2 = siftDown ltN hi first lo d ∧ Blk W b (row s.2 rest) ∧ Upd [b] w W)
    (fun s => [(0, slV b n cap), (2, intV' hi), (3, intV' first), (8, intV' s.1)]) (fun s => n + 1 - s.1) (lo, d) ⟨hlo, hd, rfl, hB, Upd.refl _ _⟩ ⟨rfl, rfl, rfl, rfl, trivial⟩ ?_
  rintro ⟨root, dk⟩ W ⟨h1, h3, h4, h5, h6⟩
  simp only at h1 h3 h4 h5
  refine xr 2 rfl ?_
  refine xpu (pv_mulI (a := 2) (b := root) rfl rfl (by omega)) rfl ?_
  refine xpu (pv_addI (a := 2 * root) (b := 1) rfl rfl (by omega)) rfl ?_
  refine xr 3 rfl ?_
  by_cases hch : hi ≤ 2 * root + 1
  · refine xpu (pv_geqI (a := 2 * root + 1) (b := hi) (q := true) rfl rfl (by simpa using hch)) rfl ?_
    refine xr 3 rfl ?_
    refine exec_end hc [] trivial ?_
    rw [← h4, siftDown_if, dif_pos hch]
    exact ⟨h5, h6⟩
  · refine xpu (pv_geqI (a := 2 * root + 1) (b := hi) (q := false) rfl rfl (by simpa using hch)) rfl ?_
    refine xr 2 rfl ?_
    by_cases hc2' : 2 * root + 1 + 1 < hi
    · refine exec_dw [] rfl rfl rfl ?_
      refine dau rfl (fun _ => rfl) ?_
      refine dw_val (fun _ => pv_addI (a := 2 * root + 1) (b := 1) rfl rfl (by omega)) ?_
      refine dau rfl (fun _ => rfl) ?_
      refine dw_val (fun _ => pv_lssI (a := 2 * root + 1 + 1) (b := hi) (q := true) rfl rfl (by simpa using hc2')) ?_
      repeat (first | refine dau rfl (fun _ => rfl) ?_ | refine dga rfl (fun _ => rfl) (fun _ => rfl) ?_ | refine dgs (fun _ => rfl) ?_)
      refine dw_gval (fun _ => rfl) (fun _ => pv_addI (a := first) (b := 2 * root + 1) rfl rfl (by omega)) ?_
      refine dw_gok _ (fun _ => rfl) (fun vs W' hu _ => (ok_iaddr (b := b) (o := 0) (len := n) (cap := cap) rfl rfl (first + (2 * root + 1)) rfl (by omega)).keep _) ?_
      refine dw_gok (u64V dk[first + (2 * root + 1)]!) (fun _ => rfl) (fun vs W' hu _ => (ok_load1 (b := b) (o := 0 + (first + (2 * root + 1)) * 1) rfl ((h5.upd hu).cell (row_get (by omega)))).keep _) ?_
      repeat (first | refine dau rfl (fun _ => rfl) ?_ | refine dga rfl (fun _ => rfl) (fun _ => rfl) ?_ | refine dgs (fun _ => rfl) ?_)
      refine dw_gval (fun _ => rfl) (fun _ => pv_addI (a := first) (b := 2 * root + 1) rfl rfl (by omega)) ?_
      refine dw_gval (fun _ => rfl) (fun _ => pv_addI (a := first + (2 * root + 1)) (b := 1) rfl rfl (by omega)) ?_
      refine dw_gok _ (fun _ => rfl) (fun vs W' hu _ => (ok_iaddr (b := b) (o := 0) (len := n) (cap := cap) rfl rfl (first + (2 * root + 1) + 1) rfl (by omega)).keep _) ?_
      refine dw_gok (u64V dk[first + (2 * root + 1) + 1]!) (fun _ => rfl) (fun vs W' hu _ => (ok_load1 (b := b) (o := 0 + (first + (2 * root + 1) + 1) * 1) rfl ((h5.upd hu).cell (row_get (by omega)))).keep _) ?_
      refine dw_end fun vs W1 hu1 _ => ?_
      refine xr 1 rfl ?_
      refine xca rfl rfl (less_ok A.h_nan A.h_less dk[first + (2 * root + 1)]! dk[first + (2 * root + 1) + 1]!) ?_
      rintro v W2 ⟨rfl, hu2⟩
      have hu12 := hu1.trans hu2
      have hB2 := h5.upd hu12
      have hE := h6.trans hu12 (by simp)
      refine xr 1 rfl ?_
      refine exec_cond rfl (fun hc1 => ?_) (fun hc1 => ?_)
      · refine xr 1 rfl ?_
        refine xpu (pv_addI (a := 2 * root + 1) (b := 1) rfl rfl (by omega)) rfl ?_
        refine xr 2 rfl ?_
        have hc1' : (decide (2 * root + 1 + 1 < hi) && ltN dk[first + (2 * root + 1)]! dk[first + (2 * root + 1) + 1]!) = true := by rw [hc1]; simpa using hc2'
        refine exec_dw [] rfl rfl rfl ?_
        repeat (first | refine dau rfl (fun _ => rfl) ?_ | refine dga rfl (fun _ => rfl) (fun _ => rfl) ?_ | refine dgs (fun _ => rfl) ?_)
        refine dw_val (fun _ => pv_addI (a := first) (b := root) rfl rfl (by omega)) ?_
        refine dw_keep _ (fun vs W' hu _ => ok_iaddr (b := b) (o := 0) (len := n) (cap := cap) rfl rfl (first + root) rfl (by omega)) ?_
        refine dw_keep (u64V dk[first + root]!) (fun vs W' hu _ => ok_load1 (b := b) (o := 0 + (first + root) * 1) rfl ((hB2.upd hu).cell (row_get (by omega)))) ?_
        repeat (first | refine dau rfl (fun _ => rfl) ?_ | refine dga rfl (fun _ => rfl) (fun _ => rfl) ?_ | refine dgs (fun _ => rfl) ?_)
        refine dw_val (fun _ => pv_addI (a := first) (b := 2 * root + 1 + 1) rfl rfl (by omega)) ?_
        refine dw_keep _ (fun vs W' hu _ => ok_iaddr (b := b) (o := 0) (len := n) (cap := cap) rfl rfl (first + (2 * root + 1 + 1)) rfl (by omega)) ?_
        refine dw_keep (u64V dk[first + (2 * root + 1 + 1)]!) (fun vs W' hu _ => ok_load1 (b := b) (o := 0 + (first + (2 * root + 1 + 1)) * 1) rfl ((hB2.upd hu).cell (row_get (by omega)))) ?_
        refine dw_end fun vs W_1 hu_1 _ => ?_
        refine xca rfl rfl (less_ok A.h_nan A.h_less dk[first + root]! dk[first + (2 * root + 1 + 1)]!) ?_
        rintro v W_2 ⟨rfl, hu_2⟩
        have hu_12 := hu_1.trans hu_2
        have hB_2 := hB2.upd hu_12
        refine xau rfl rfl rfl ?_
        refine exec_cond rfl (fun hc2 => ?_) (fun hc2 => ?_)
        · skip
          refine xre hc [] trivial ?_
          have e1 : siftDown ltN hi first root dk = dk := by
            rw [siftDown_if, dif_neg (by omega)]
            rw [if_pos hc1']
            rw [if_pos hc2]
          rw [← h4, e1]
          exact ⟨hB_2, (hE.trans hu_12 (by simp))⟩
        · simp only [Bool.not_eq_false'] at hc2
          refine xr 1 rfl ?_
          refine exec_dws [b] 21 (fun W => Blk W b (splice (row dk rest) (0 + (first + root) * 1) (Value.cells (u64V dk[first + (2 * root + 1 + 1)]!)).toList)) (fun W W' h hu => h.upd hu) rfl rfl rfl ?_
          repeat (first | refine ws_auto rfl rfl rfl ?_ | refine ws_gauto rfl rfl rfl rfl ?_ | refine wgs rfl rfl ?_)
          refine ws_val rfl (pv_addI (a := first) (b := root) rfl rfl (by omega)) ?_
          repeat (first | refine ws_auto rfl rfl rfl ?_ | refine ws_gauto rfl rfl rfl rfl ?_ | refine wgs rfl rfl ?_)
          refine ws_val rfl (pv_addI (a := first) (b := 2 * root + 1 + 1) rfl rfl (by omega)) ?_
          repeat (first | refine ws_auto rfl rfl rfl ?_ | refine ws_gauto rfl rfl rfl rfl ?_ | refine wgs rfl rfl ?_)
          refine ws_val rfl (pv_addI (a := first) (b := 2 * root + 1 + 1) rfl rfl (by omega)) ?_
          refine ws_any _ rfl (fun W => ok_iaddr (b := b) (o := 0) (len := n) (cap := cap) rfl rfl (first + (2 * root + 1 + 1)) rfl (by omega)) ?_
          refine ws_ok (u64V dk[first + (2 * root + 1 + 1)]!) rfl rfl (fun W hu => ok_load1 (b := b) (o := 0 + (first + (2 * root + 1 + 1)) * 1) rfl ((hB_2.upd hu).cell (row_get (by omega)))) ?_
          repeat (first | refine ws_auto rfl rfl rfl ?_ | refine ws_gauto rfl rfl rfl rfl ?_ | refine wgs rfl rfl ?_)
          refine ws_val rfl (pv_addI (a := first) (b := root) rfl rfl (by omega)) ?_
          refine ws_any _ rfl (fun W => ok_iaddr (b := b) (o := 0) (len := n) (cap := cap) rfl rfl (first + root) rfl (by omega)) ?_
          refine ws_ok (u64V dk[first + root]!) rfl rfl (fun W hu => ok_load1 (b := b) (o := 0 + (first + root) * 1) rfl ((hB_2.upd hu).cell (row_get (by omega)))) ?_
          refine ws_any _ rfl (fun W => ok_iaddr (b := b) (o := 0) (len := n) (cap := cap) rfl rfl (first + root) rfl (by omega)) ?_
          refine ws_store rfl rfl rfl hB_2 rfl (by rw [row_length]; omega) rfl (by simp) (fun W h => h) ?_
          refine ws_end fun W_a hu_a hW_a => ?_
          refine xju (ok_iaddr (b := b) (o := 0) (len := n) (cap := cap) rfl rfl (first + (2 * root + 1 + 1)) rfl (by omega)) rfl ?_
          refine exec_store (b := b) (o := 0 + (first + (2 * root + 1 + 1)) * 1) (v := u64V dk[first + root]!) rfl rfl (hW_a rfl) rfl (by rw [row_set (by omega), row_length]; simp; omega) rfl ?_
          intro W_3 hu_b _ hB_3
          rw [row_swp (by omega) (by omega)] at hB_3
          have hu_3 := hu_a.trans hu_b (by simp)
          refine xr 4 rfl ?_
          refine xag (2 * root + 1 + 1, swp dk (first + root) (first + (2 * root + 1 + 1))) ⟨by show 2 * root + 1 + 1 ≤ n; omega, by rw [swp_size]; exact h3, ?_, hB_3, (hE.trans hu_12 (by simp)).trans hu_3 (by simp)⟩ (by show n + 1 - (2 * root + 1 + 1) < n + 1 - root; omega) ⟨rfl, rfl, rfl, rfl, trivial⟩
          rw [← h4]
          show siftDown ltN hi first (2 * root + 1 + 1) _ = siftDown ltN hi first root dk
          rw [siftDown_if ltN hi first root dk, dif_neg (by omega)]
          rw [if_pos hc1']
          rw [if_neg (by rw [hc2]; simp)]
          rw [dif_pos (show 2 * root + 2 < hi by omega)]
      · refine xr 1 rfl ?_
        have hc1' : ¬ (decide (2 * root + 1 + 1 < hi) && ltN dk[first + (2 * root + 1)]! dk[first + (2 * root + 1) + 1]!) = true := by rw [hc1]; simp
        refine exec_dw [] rfl rfl rfl ?_
        repeat (first | refine dau rfl (fun _ => rfl) ?_ | refine dga rfl (fun _ => rfl) (fun _ => rfl) ?_ | refine dgs (fun _ => rfl) ?_)
        refine dw_val (fun _ => pv_addI (a := first) (b := root) rfl rfl (by omega)) ?_
        refine dw_keep _ (fun vs W' hu _ => ok_iaddr (b := b) (o := 0) (len := n) (cap := cap) rfl rfl (first + root) rfl (by omega)) ?_
        refine dw_keep (u64V dk[first + root]!) (fun vs W' hu _ => ok_load1 (b := b) (o := 0 + (first + root) * 1) rfl ((hB2.upd hu).cell (row_get (by omega)))) ?_
        repeat (first | refine dau rfl (fun _ => rfl) ?_ | refine dga rfl (fun _ => rfl) (fun _ => rfl) ?_ | refine dgs (fun _ => rfl) ?_)
        refine dw_val (fun _ => pv_addI (a := first) (b := 2 * root + 1) rfl rfl (by omega)) ?_
        refine dw_keep _ (fun vs W' hu _ => ok_iaddr (b := b) (o := 0) (len := n) (cap := cap) rfl rfl (first + (2 * root + 1)) rfl (by omega)) ?_
        refine dw_keep (u64V dk[first + (2 * root + 1)]!) (fun vs W' hu _ => ok_load1 (b := b) (o := 0 + (first + (2 * root + 1)) * 1) rfl ((hB2.upd hu).cell (row_get (by omega)))) ?_
        refine dw_end fun vs W_1 hu_1 _ => ?_
        refine xca rfl rfl (less_ok A.h_nan A.h_less dk[first + root]! dk[first + (2 * root + 1)]!) ?_
        rintro v W_2 ⟨rfl, hu_2⟩
        have hu_12 := hu_1.trans hu_2
        have hB_2 := hB2.upd hu_12
        refine xau rfl rfl rfl ?_
        refine exec_cond rfl (fun hc2 => ?_) (fun hc2 => ?_)
        · skip
          refine xre hc [] trivial ?_
          have e1 : siftDown ltN hi first root dk = dk := by
            rw [siftDown_if, dif_neg (by omega)]
            rw [if_neg hc1']
            rw [if_pos hc2]
          rw [← h4, e1]
          exact ⟨hB_2, (hE.trans hu_12 (by simp))⟩
        · simp only [Bool.not_eq_false'] at hc2
          refine xr 1 rfl ?_
          refine exec_dws [b] 21 (fun W => Blk W b (splice (row dk rest) (0 + (first + root) * 1) (Value.cells (u64V dk[first + (2 * root + 1)]!)).toList)) (fun W W' h hu => h.upd hu) rfl rfl rfl ?_
          repeat (first | refine ws_auto rfl rfl rfl ?_ | refine ws_gauto rfl rfl rfl rfl ?_ | refine wgs rfl rfl ?_)
          refine ws_val rfl (pv_addI (a := first) (b := root) rfl rfl (by omega)) ?_
          repeat (first | refine ws_auto rfl rfl rfl ?_ | refine ws_gauto rfl rfl rfl rfl ?_ | refine wgs rfl rfl ?_)
          refine ws_val rfl (pv_addI (a := first) (b := 2 * root + 1) rfl rfl (by omega)) ?_
          repeat (first | refine ws_auto rfl rfl rfl ?_ | refine ws_gauto rfl rfl rfl rfl ?_ | refine wgs rfl rfl ?_)
          refine ws_val rfl (pv_addI (a := first) (b := 2 * root + 1) rfl rfl (by omega)) ?_
          refine ws_any _ rfl (fun W => ok_iaddr (b := b) (o := 0) (len := n) (cap := cap) rfl rfl (first + (2 * root + 1)) rfl (by omega)) ?_
          refine ws_ok (u64V dk[first + (2 * root + 1)]!) rfl rfl (fun W hu => ok_load1 (b := b) (o := 0 + (first + (2 * root + 1)) * 1) rfl ((hB_2.upd hu).cell (row_get (by omega)))) ?_
          repeat (first | refine ws_auto rfl rfl rfl ?_ | refine ws_gauto rfl rfl rfl rfl ?_ | refine wgs rfl rfl ?_)
          refine ws_val rfl (pv_addI (a := first) (b := root) rfl rfl (by omega)) ?_
          refine ws_any _ rfl (fun W => ok_iaddr (b := b) (o := 0) (len := n) (cap := cap) rfl rfl (first + root) rfl (by omega)) ?_
          refine ws_ok (u64V dk[first + root]!) rfl rfl (fun W hu => ok_load1 (b := b) (o := 0 + (first + root) * 1) rfl ((hB_2.upd hu).cell (row_get (by omega)))) ?_
          refine ws_any _ rfl (fun W => ok_iaddr (b := b) (o := 0) (len := n) (cap := cap) rfl rfl (first + root) rfl (by omega)) ?_
          refine ws_store rfl rfl rfl hB_2 rfl (by rw [row_length]; omega) rfl (by simp) (fun W h => h) ?_
          refine ws_end fun W_a hu_a hW_a => ?_
          refine xju (ok_iaddr (b := b) (o := 0) (len := n) (cap := cap) rfl rfl (first + (2 * root + 1)) rfl (by omega)) rfl ?_
          refine exec_store (b := b) (o := 0 + (first + (2 * root + 1)) * 1) (v := u64V dk[first + root]!) rfl rfl (hW_a rfl) rfl (by rw [row_set (by omega), row_length]; simp; omega) rfl ?_
          intro W_3 hu_b _ hB_3
          rw [row_swp (by omega) (by omega)] at hB_3
          have hu_3 := hu_a.trans hu_b (by simp)
          refine xr 4 rfl ?_
          refine xag (2 * root + 1, swp dk (first + root) (first + (2 * root + 1))) ⟨by show 2 * root + 1 ≤ n; omega, by rw [swp_size]; exact h3, ?_, hB_3, (hE.trans hu_12 (by simp)).trans hu_3 (by simp)⟩ (by show n + 1 - (2 * root + 1) < n + 1 - root; omega) ⟨rfl, rfl, rfl, rfl, trivial⟩
          rw [← h4]
          show siftDown ltN hi first (2 * root + 1) _ = siftDown ltN hi first root dk
          rw [siftDown_if ltN hi first root dk, dif_neg (by omega)]
          rw [if_neg hc1']
          rw [if_neg (by rw [hc2]; simp)]
          skip
    · refine exec_dw [] rfl rfl rfl ?_
      refine dau rfl (fun _ => rfl) ?_
      refine dw_val (fun _ => pv_addI (a := 2 * root + 1) (b := 1) rfl rfl (by omega)) ?_
      refine dau rfl (fun _ => rfl) ?_
      refine dw_val (fun _ => pv_lssI (a := 2 * root + 1 + 1) (b := hi) (q := false) rfl rfl (by simpa using hc2')) ?_
      repeat (first | refine dau rfl (fun _ => rfl) ?_ | refine dga rfl (fun _ => rfl) (fun _ => rfl) ?_ | refine dgs (fun _ => rfl) ?_)
      refine dw_end fun vs W1 hu1 _ => ?_
      refine xr 4 rfl ?_
      have hB2 := h5.upd hu1
      have hE := h6.trans hu1 (by simp)
      have hc1' : ¬ (decide (2 * root + 1 + 1 < hi) && ltN dk[first + (2 * root + 1)]! dk[first + (2 * root + 1) + 1]!) = true := by simp [hc2']
      refine exec_dw [] rfl rfl rfl ?_
      repeat (first | refine dau rfl (fun _ => rfl) ?_ | refine dga rfl (fun _ => rfl) (fun _ => rfl) ?_ | refine dgs (fun _ => rfl) ?_)
      refine dw_val (fun _ => pv_addI (a := first) (b := root) rfl rfl (by omega)) ?_
      refine dw_keep _ (fun vs W' hu _ => ok_iaddr (b := b) (o := 0) (len := n) (cap := cap) rfl rfl (first + root) rfl (by omega)) ?_
      refine dw_keep (u64V dk[first + root]!) (fun vs W' hu _ => ok_load1 (b := b) (o := 0 + (first + root) * 1) rfl ((hB2.upd hu).cell (row_get (by omega)))) ?_
      repeat (first | refine dau rfl (fun _ => rfl) ?_ | refine dga rfl (fun _ => rfl) (fun _ => rfl) ?_ | refine dgs (fun _ => rfl) ?_)
      refine dw_val (fun _ => pv_addI (a := first) (b := 2 * root + 1) rfl rfl (by omega)) ?_
      refine dw_keep _ (fun vs W' hu _ => ok_iaddr (b := b) (o := 0) (len := n) (cap := cap) rfl rfl (first + (2 * root + 1)) rfl (by omega)) ?_
      refine dw_keep (u64V dk[first + (2 * root + 1)]!) (fun vs W' hu _ => ok_load1 (b := b) (o := 0 + (first + (2 * root + 1)) * 1) rfl ((hB2.upd hu).cell (row_get (by omega)))) ?_
      refine dw_end fun vs W_1 hu_1 _ => ?_
      refine xca rfl rfl (less_ok A.h_nan A.h_less dk[first + root]! dk[first + (2 * root + 1)]!) ?_
      rintro v W_2 ⟨rfl, hu_2⟩
      have hu_12 := hu_1.trans hu_2
      have hB_2 := hB2.upd hu_12
      refine xau rfl rfl rfl ?_
      refine exec_cond rfl (fun hc2 => ?_) (fun hc2 => ?_)
      · skip
        refine xre hc [] trivial ?_
        have e1 : siftDown ltN hi first root dk = dk := by
          rw [siftDown_if, dif_neg (by omega)]
          rw [if_neg hc1']
          rw [if_pos hc2]
        rw [← h4, e1]
        exact ⟨hB_2, (hE.trans hu_12 (by simp))⟩
      · simp only [Bool.not_eq_false'] at hc2
        refine xr 1 rfl ?_
        refine exec_dws [b] 21 (fun W => Blk W b (splice (row dk rest) (0 + (first + root) * 1) (Value.cells (u64V dk[first + (2 * root + 1)]!)).toList)) (fun W W' h hu => h.upd hu) rfl rfl rfl ?_
        repeat (first | refine ws_auto rfl rfl rfl ?_ | refine ws_gauto rfl rfl rfl rfl ?_ | refine wgs rfl rfl ?_)
        refine ws_val rfl (pv_addI (a := first) (b := root) rfl rfl (by omega)) ?_
        repeat (first | refine ws_auto rfl rfl rfl ?_ | refine ws_gauto rfl rfl rfl rfl ?_ | refine wgs rfl rfl ?_)
        refine ws_val rfl (pv_addI (a := first) (b := 2 * root + 1) rfl rfl (by omega)) ?_
        repeat (first | refine ws_auto rfl rfl rfl ?_ | refine ws_gauto rfl rfl rfl rfl ?_ | refine wgs rfl rfl ?_)
        refine ws_val rfl (pv_addI (a := first) (b := 2 * root + 1) rfl rfl (by omega)) ?_
        refine ws_any _ rfl (fun W => ok_iaddr (b := b) (o := 0) (len := n) (cap := cap) rfl rfl (first + (2 * root + 1)) rfl (by omega)) ?_
        refine ws_ok (u64V dk[first + (2 * root + 1)]!) rfl rfl (fun W hu => ok_load1 (b := b) (o := 0 + (first + (2 * root + 1)) * 1) rfl ((hB_2.upd hu).cell (row_get (by omega)))) ?_
        repeat (first | refine ws_auto rfl rfl rfl ?_ | refine ws_gauto rfl rfl rfl rfl ?_ | refine wgs rfl rfl ?_)
        refine ws_val rfl (pv_addI (a := first) (b := root) rfl rfl (by omega)) ?_
        refine ws_any _ rfl (fun W => ok_iaddr (b := b) (o := 0) (len := n) (cap := cap) rfl rfl (first + root) rfl (by omega)) ?_
        refine ws_ok (u64V dk[first + root]!) rfl rfl (fun W hu => ok_load1 (b := b) (o := 0 + (first + root) * 1) rfl ((hB_2.upd hu).cell (row_get (by omega)))) ?_
        refine ws_any _ rfl (fun W => ok_iaddr (b := b) (o := 0) (len := n) (cap := cap) rfl rfl (first + root) rfl (by omega)) ?_
        refine ws_store rfl rfl rfl hB_2 rfl (by rw [row_length]; omega) rfl (by simp) (fun W h => h) ?_
        refine ws_end fun W_a hu_a hW_a => ?_
        refine xju (ok_iaddr (b := b) (o := 0) (len := n) (cap := cap) rfl rfl (first + (2 * root + 1)) rfl (by omega)) rfl ?_
        refine exec_store (b := b) (o := 0 + (first + (2 * root + 1)) * 1) (v := u64V dk[first + root]!) rfl rfl (hW_a rfl) rfl (by rw [row_set (by omega), row_length]; simp; omega) rfl ?_
        intro W_3 hu_b _ hB_3
        rw [row_swp (by omega) (by omega)] at hB_3
        have hu_3 := hu_a.trans hu_b (by simp)
        refine xr 4 rfl ?_
        refine xag (2 * root + 1, swp dk (first + root) (first + (2 * root + 1))) ⟨by show 2 * root + 1 ≤ n; omega, by rw [swp_size]; exact h3, ?_, hB_3, (hE.trans hu_12 (by simp)).trans hu_3 (by simp)⟩ (by show n + 1 - (2 * root + 1) < n + 1 - root; omega) ⟨rfl, rfl, rfl, rfl, trivial⟩
        rw [← h4]
        show siftDown ltN hi first (2 * root + 1) _ = siftDown ltN hi first root dk
        rw [siftDown_if ltN hi first root dk, dif_neg (by omega)]
        rw [if_neg hc1']
        rw [if_neg (by rw [hc2]; simp)]
        skip
theorem siftDown_size (hi first : Nat) : ∀ (m root : Nat) (d : Array Nat), hi - root ≤ m → (siftDown ltN hi first root d).size = d.size := by
  intro m
  induction m with
  | zero => intro root d h; rw [siftDown_if, dif_pos (by omega)]
  | succ m ih =>
    intro root d h
    rw [siftDown_if]
    split
    · rfl
    · split
      · split
        · rfl
        · split
          · rw [ih _ _ (by omega), swp_size]
          · rfl
      · split
        · rfl
        · rw [ih _ _ (by omega), swp_size]
theorem heap_ok {g : Nat} (h1 : Has P g (b_slices_siftDownOrdered_uint64 A.less)) (h : Has P f (b_slices_heapSortOrdered_uint64 g)) {b n cap x y : Nat} {d : Array Nat} {rest : List Value} (hB : Blk w b (row d rest)) (hd : d.size = n) (hxy : x < y) (hy : y ≤ n) (hn : n < 2 ^ 40) :
    Ret P f [slV b n cap, intV' x, intV' y] w fun _ w' => Blk w' b (row (heapSort ltN d x y) rest) ∧ Upd [b] w w' := by
  have hss : ∀ (hi first root : Nat) (d : Array Nat), (siftDown ltN hi first root d).size = d.size := fun hi first root d => siftDown_size hi first _ root d (Nat.le_refl _)
  refine Ret.of_exec h (Nat.le_of_ble_eq_true rfl) fun c hc => ?_
  dsimp only [b_slices_heapSortOrdered_uint64, argEnv, ym, yo, yg, ys, yt, yd, ye]
  refine xr 5 rfl ?_
  refine xpu (pv_subI (a := y) (b := x) rfl rfl (by omega) (by omega)) rfl ?_
  refine xr 2 rfl ?_
  refine xpu (pv_subI (a := y - x) (b := 1) rfl rfl (by omega) (by omega)) rfl ?_
  refine xju (ok_quoI (a := y - x - 1) (b := 2) rfl rfl (by omega) (by omega)) rfl ?_
  refine xr 2 rfl ?_
  refine xlo (S := Nat × Array Nat) (fun s W => s.1 ≤ (y - x - 1) / 2 + 1 ∧ s.2.size = n ∧ heapBuild ltN (y - x) x s.1 s.2 = heapBuild ltN (y - x) x ((y - x - 1) / 2 + 1) d ∧ Blk W b (row s.2 rest) ∧ Upd [b] w W)
    (fun s => [(0, slV b n cap), (6, intV' x), (7, intV' 0), (8, intV' (y - x)), (9, .int .i64 ((s.1 : Int) - 1))]) (fun s => s.1) ((y - x - 1) / 2 + 1, d) ⟨Nat.le_refl _, hd, rfl, hB, Upd.refl _ _⟩ ⟨rfl, rfl, rfl, rfl, by simp [Env.get], trivial⟩ ?_
  rintro ⟨k, dk⟩ W ⟨g1, g3, g4, g5, g6⟩
  simp only at g1 g3 g4 g5
  refine xr 1 rfl ?_
  cases k with
  | succ k =>
    rw [show (((k + 1 : Nat) : Int) - 1) = (k : Int) by omega]
    refine xpu (pv_geqI (a := k) (b := 0) (q := true) rfl rfl (by simp)) rfl ?_
    refine xr 7 rfl ?_
    refine xca rfl rfl (sift_ok A h1 g5 g3 (by omega) (by omega) hn) ?_
    rintro v W1 ⟨hB1, hu1⟩
    refine xr 3 rfl ?_
    refine xpu (pv_subZ (a := (k : Int)) (b := 1) rfl rfl (by omega) (by omega)) rfl ?_
    refine xr 1 rfl ?_
    refine xag (k, siftDown ltN (y - x) x k dk) ⟨by show k ≤ _; omega, by rw [hss]; exact g3, ?_, hB1, g6.trans hu1 (by simp)⟩ (by show k < k + 1; omega) ⟨rfl, rfl, rfl, rfl, rfl, trivial⟩
    rw [← g4]; rfl
  | zero =>
    refine xau rfl rfl rfl ?_
    refine exec_cond rfl (fun hq => ?_) (fun hq => ?_)
    · simp at hq
    refine xr 3 rfl ?_
    refine xpu (pv_subI (a := y - x) (b := 1) rfl rfl (by omega) (by omega)) rfl ?_
    refine xr 2 rfl ?_
    have hdk : dk = heapBuild ltN (y - x) x ((y - x - 1) / 2 + 1) d := by rw [← g4]; rfl
    refine xlo (S := Nat × Array Nat) (fun s W => s.1 ≤ y - x ∧ s.2.size = n ∧ heapPop ltN x s.1 s.2 = heapSort ltN d x y ∧ Blk W b (row s.2 rest) ∧ Upd [b] w W)
      (fun s => [(0, slV b n cap), (6, intV' x), (7, intV' 0), (8, intV' (y - x)), (10, .int .i64 ((s.1 : Int) - 1))]) (fun s => s.1) (y - x, dk) ⟨Nat.le_refl _, g3, by rw [heapSort, ← hdk], g5, g6⟩ ⟨rfl, rfl, rfl, rfl, by simp [Env.get]; omega, trivial⟩ ?_
    rintro ⟨k, dj⟩ W1 ⟨k1, k3, k4, k5, k6⟩
    simp only at k1 k3 k4 k5
    refine xr 1 rfl ?_
    cases k with
    | succ k =>
      rw [show (((k + 1 : Nat) : Int) - 1) = (k : Int) by omega]
      refine xpu (pv_geqI (a := k) (b := 0) (q := true) rfl rfl (by simp)) rfl ?_
      refine xr 3 rfl ?_
      refine exec_dws [b] 17 (fun W => Blk W b (splice (row dj rest) (0 + (x) * 1) (Value.cells (u64V dj[x + k]!)).toList)) (fun W W' h hu => h.upd hu) rfl rfl rfl ?_
      repeat (first | refine ws_auto rfl rfl rfl ?_ | refine ws_gauto rfl rfl rfl rfl ?_ | refine wgs rfl rfl ?_)
      refine ws_val rfl (pv_addI (a := x) (b := k) rfl rfl (by omega)) ?_
      repeat (first | refine ws_auto rfl rfl rfl ?_ | refine ws_gauto rfl rfl rfl rfl ?_ | refine wgs rfl rfl ?_)
      refine ws_val rfl (pv_addI (a := x) (b := k) rfl rfl (by omega)) ?_
      refine ws_any _ rfl (fun W => ok_iaddr (b := b) (o := 0) (len := n) (cap := cap) rfl rfl (x + k) rfl (by omega)) ?_
      refine ws_ok (u64V dj[x + k]!) rfl rfl (fun W hu => ok_load1 (b := b) (o := 0 + (x + k) * 1) rfl ((k5.upd hu).cell (row_get (by omega)))) ?_
      repeat (first | refine ws_auto rfl rfl rfl ?_ | refine ws_gauto rfl rfl rfl rfl ?_ | refine wgs rfl rfl ?_)
      refine ws_any _ rfl (fun W => ok_iaddr (b := b) (o := 0) (len := n) (cap := cap) rfl rfl (x) rfl (by omega)) ?_
      refine ws_ok (u64V dj[x]!) rfl rfl (fun W hu => ok_load1 (b := b) (o := 0 + (x) * 1) rfl ((k5.upd hu).cell (row_get (by omega)))) ?_
      refine ws_any _ rfl (fun W => ok_iaddr (b := b) (o := 0) (len := n) (cap := cap) rfl rfl (x) rfl (by omega)) ?_
      refine ws_store rfl rfl rfl k5 rfl (by rw [row_length]; omega) rfl (by simp) (fun W h => h) ?_
      refine ws_end fun W_a hu_a hW_a => ?_
      refine xju (ok_iaddr (b := b) (o := 0) (len := n) (cap := cap) rfl rfl (x + k) rfl (by omega)) rfl ?_
      refine exec_store (b := b) (o := 0 + (x + k) * 1) (v := u64V dj[x]!) rfl rfl (hW_a rfl) rfl (by rw [row_set (by omega), row_length]; simp; omega) rfl ?_
      intro W2 hu_b _ hB2
      rw [row_swp (by omega) (by omega)] at hB2
      have hu2 := hu_a.trans hu_b (by simp)
      refine xr 4 rfl ?_
      refine xca rfl rfl (sift_ok A h1 hB2 (by rw [swp_size]; exact k3) (by omega) (by omega) hn) ?_
      rintro v W3 ⟨hB3, hu3⟩
      refine xr 3 rfl ?_
      refine xpu (pv_subZ (a := (k : Int)) (b := 1) rfl rfl (by omega) (by omega)) rfl ?_
      refine xr 1 rfl ?_
      refine xag (k, siftDown ltN k x 0 (swp dj x (x + k))) ⟨by show k ≤ _; omega, by rw [hss, swp_size]; exact k3, ?_, hB3, (k6.trans hu2 (by simp)).trans hu3 (by simp)⟩ (by show k < k + 1; omega) ⟨rfl, rfl, rfl, rfl, rfl, trivial⟩
      rw [← k4]; rfl
    | zero =>
      refine xau rfl rfl rfl ?_
      refine exec_cond rfl (fun hq => ?_) (fun hq => ?_)
      · simp at hq
      refine xr 2 rfl ?_
      refine exec_end hc [] trivial ?_
      rw [← k4]
      exact ⟨k5, k6⟩
theorem reverse_ok (h : Has P f b_slices_reverseRangeOrdered_uint64) {b n cap x y : Nat} {d : Array Nat} {rest : List Value} (hB : Blk w b (row d rest)) (hd : d.size = n) (hxy : x < y) (hy : y ≤ n) (hn : n < 2 ^ 40) :
    Ret P f [slV b n cap, intV' x, intV' y] w fun _ w' => Blk w' b (row (reverseRange d x y) rest) ∧ Upd [b] w w' := by
  refine Ret.of_exec h (Nat.le_of_ble_eq_true rfl) fun c hc => ?_
  dsimp only [b_slices_reverseRangeOrdered_uint64, argEnv, ym, yo, yg, ys, yt, yd, ye]
  refine xr 3 rfl ?_
  refine xpu (pv_subI (a := y) (b := 1) rfl rfl (by omega) (by omega)) rfl ?_
  refine xr 2 rfl ?_
  refine xlo (S := Nat × Nat × Array Nat) (fun s W => s.2.1 < y ∧ s.1 ≤ n ∧ s.2.2.size = n ∧ reverseLoop s.1 s.2.1 s.2.2 = reverseRange d x y ∧ Blk W b (row s.2.2 rest) ∧ Upd [b] w W)
    (fun s => [(0, slV b n cap), (6, intV' s.1), (7, intV' s.2.1)]) (fun s => s.2.1 - s.1) (x, y - 1, d) ⟨by show y - 1 < y; omega, by show x ≤ n; omega, hd, rfl, hB, Upd.refl _ _⟩ ⟨rfl, rfl, rfl, trivial⟩ ?_
  rintro ⟨i, j, dk⟩ W ⟨g1, g2, g3, g4, g5, g6⟩
  simp only at g1 g2 g3 g4 g5
  refine xr 2 rfl ?_
  by_cases hij : i < j
  · refine xpu (pv_lssI (a := i) (b := j) (q := true) rfl rfl (by simpa using hij)) rfl ?_
    refine xr 3 rfl ?_
    refine exec_dws [b] 13 (fun W => Blk W b (splice (row dk rest) (0 + i * 1) (Value.cells (u64V dk[j]!)).toList)) (fun W W' h hu => h.upd hu) rfl rfl rfl ?_
    repeat (first | refine ws_auto rfl rfl rfl ?_ | refine ws_gauto rfl rfl rfl rfl ?_ | refine wgs rfl rfl ?_)
    refine ws_any _ rfl (fun W => ok_iaddr (b := b) (o := 0) (len := n) (cap := cap) rfl rfl (j) rfl (by omega)) ?_
    refine ws_ok (u64V dk[j]!) rfl rfl (fun W hu => ok_load1 (b := b) (o := 0 + (j) * 1) rfl ((g5.upd hu).cell (row_get (by omega)))) ?_
    repeat (first | refine ws_auto rfl rfl rfl ?_ | refine ws_gauto rfl rfl rfl rfl ?_ | refine wgs rfl rfl ?_)
    refine ws_any _ rfl (fun W => ok_iaddr (b := b) (o := 0) (len := n) (cap := cap) rfl rfl (i) rfl (by omega)) ?_
    refine ws_ok (u64V dk[i]!) rfl rfl (fun W hu => ok_load1 (b := b) (o := 0 + (i) * 1) rfl ((g5.upd hu).cell (row_get (by omega)))) ?_
    refine ws_any _ rfl (fun W => ok_iaddr (b := b) (o := 0) (len := n) (cap := cap) rfl rfl (i) rfl (by omega)) ?_
    refine ws_store rfl rfl rfl g5 rfl (by rw [row_length]; omega) rfl (by simp) (fun W h => h) ?_
    refine ws_end fun W_a hu_a hW_a => ?_
    refine xju (ok_iaddr (b := b) (o := 0) (len := n) (cap := cap) rfl rfl (j) rfl (by omega)) rfl ?_
    refine exec_store (b := b) (o := 0 + (j) * 1) (v := u64V dk[i]!) rfl rfl (hW_a rfl) rfl (by rw [row_set (by omega), row_length]; simp; omega) rfl ?_
    intro W1 hu_b _ hB1
    rw [row_swp (by omega) (by omega)] at hB1
    have hu1 := hu_a.trans hu_b (by simp)
    refine xr 1 rfl ?_
    refine xpu (pv_addI (a := i) (b := 1) rfl rfl (by omega)) rfl ?_
    refine xr 2 rfl ?_
    refine xpu (pv_subI (a := j) (b := 1) rfl rfl (by omega) (by omega)) rfl ?_
    refine xr 3 rfl ?_
    refine xag (i + 1, j - 1, swp dk i j) ⟨by show j - 1 < y; omega, by show i + 1 ≤ n; omega, by rw [swp_size]; exact g3, ?_, hB1, g6.trans hu1 (by simp)⟩ (by show j - 1 - (i + 1) < j - i; omega) ⟨rfl, rfl, rfl, trivial⟩
    rw [← g4]
    show _ = reverseLoop i j dk
    rw [reverseLoop_if i j dk, if_pos hij]
  · refine xpu (pv_lssI (a := i) (b := j) (q := false) rfl rfl (by simpa using hij)) rfl ?_
    refine xr 3 rfl ?_
    refine exec_end hc [] trivial ?_
    rw [← g4, reverseLoop_if, if_neg hij]
    exact ⟨g5, g6⟩
end
end Go.Sp

namespace Go.Sp
open Go.Sort (swp breakStep breakPatterns bitsLen xorNext xorNextN xorNext_toNat)
theorem bitsLen_eq {n : Nat} (h : n < 2 ^ 64) : bitsLen n = bitLen n := by
  refine (bitLen_eq h ⟨Go.Sort.lt_two_pow_bitsLen n, ?_⟩).symm
  rcases Nat.eq_zero_or_pos n with h0 | h0
  · left; subst h0; rfl
  · right
    have := Go.Sort.two_pow_bitsLen_le h0
    have hb : bitsLen n ≠ 0 := by
      intro hz
      have := Go.Sort.lt_two_pow_bitsLen n
      rw [hz] at this; simp at this; omega
    have e : (2 : Nat) ^ bitsLen n = 2 * 2 ^ (bitsLen n - 1) := by rw [← Nat.pow_succ']; congr 1; omega
    omega
def breakRuns (x len md : Nat) : Nat → Nat → UInt64 × Array Nat → UInt64 × Array Nat
  | 0, _, st => st
  | k + 1, idx, st => breakRuns x len md k (idx + 1) (breakStep x len md st idx)
section
variable {P : Program} {f : Nat} {w : World} (A : SortF P)
theorem len_ok {l32 : Nat} (h : Has P f (b_math_bits_Len l32 A.len64)) (x : Nat) (hx : x < 2 ^ 64) : RetV P f [u64V x] w (intV' (bitLen x)) := by
  refine Ret.of_exec h (Nat.le_of_ble_eq_true rfl) fun c hc => ?_
  dsimp only [b_math_bits_Len, argEnv, ym, yo, yg, ys, yt, yd, ye]
  refine xr 4 rfl ?_
  refine xca rfl rfl (len64_ok A.h_len64 x hx) ?_
  rintro v w1 ⟨rfl, hu1⟩
  refine xr 1 rfl ?_
  exact xre hc [_] ⟨rfl, trivial⟩ ⟨rfl, hu1⟩
theorem pow2_ok {l32 g : Nat} (h0 : Has P g (b_math_bits_Len l32 A.len64)) (h : Has P f (b_slices_nextPowerOfTwo g)) (x : Nat) (hx : x < 2 ^ 40) : RetV P f [intV' x] w (u64V (2 ^ bitLen x)) := by
  refine Ret.of_exec h (Nat.le_of_ble_eq_true rfl) fun c hc => ?_
  dsimp only [b_slices_nextPowerOfTwo, argEnv, ym, yo, yg, ys, yt, yd, ye]
  refine xr 2 rfl ?_
  refine xpu (pv_toU (a := x) rfl (by omega)) rfl ?_
  refine xca rfl rfl (len_ok A h0 x (by omega)) ?_
  rintro v w1 ⟨rfl, hu1⟩
  refine xju (ok_shlU (a := 1) (j := bitLen x) rfl rfl) rfl ?_
  have hb : bitLen x ≤ 40 := bitLen_le (by omega) (by omega)
  have : 2 ^ bitLen x ≤ 2 ^ 40 := Nat.pow_le_pow_right (by omega) hb
  rw [Nat.one_mul, Nat.mod_eq_of_lt (by omega)]
  refine xr 1 rfl ?_
  exact xre hc [_] ⟨rfl, trivial⟩ ⟨rfl, hu1⟩
theorem xor_ok (h : Has P f b_Pslices_xorshift_Next) {bs x : Nat} (hB : Blk w bs [u64V x]) (hx : x < 18446744073709551616) :
    Ret P f [ptrV bs] w fun v w' => v = u64V (xorNextN x) ∧ Blk w' bs [u64V (xorNextN x)] ∧ Upd [bs] w w' := by
  have p : (18446744073709551616 : Nat) = 2 ^ 64 := by decide
  have l1 : x * 8192 % 18446744073709551616 < 18446744073709551616 := Nat.mod_lt _ (by omega)
  refine Ret.of_exec h (Nat.le_of_ble_eq_true rfl) fun c hc => ?_
  dsimp only [b_Pslices_xorshift_Next, argEnv, ym, yo, yg, ys, yt, yd, ye]
  refine xr 1 rfl ?_
  refine exec_dw [] rfl rfl rfl ?_
  repeat (first | refine dau rfl (fun _ => rfl) ?_ | refine dga rfl (fun _ => rfl) (fun _ => rfl) ?_ | refine dgs (fun _ => rfl) ?_)
  refine dw_keep (u64V x) (fun vs W' hu _ => ok_load1 (b := bs) (o := 0) rfl ((hB.upd hu).cell rfl)) ?_
  repeat (first | refine dau rfl (fun _ => rfl) ?_ | refine dga rfl (fun _ => rfl) (fun _ => rfl) ?_ | refine dgs (fun _ => rfl) ?_)
  refine dw_keep (u64V x) (fun vs W' hu _ => ok_load1 (b := bs) (o := 0) rfl ((hB.upd hu).cell rfl)) ?_
  refine dw_keep _ (fun vs W' hu _ => ok_shlU (a := x) (j := 13) rfl rfl) ?_
  refine dw_end fun vs W1 hu1 _ => ?_
  refine xpu (pv_xorU (a := x) (b := x * 2 ^ 13 % 18446744073709551616) rfl rfl hx l1) rfl ?_
  refine xr 1 rfl ?_
  generalize hy : x ^^^ x * 2 ^ 13 % 18446744073709551616 = y
  have ly : y < 18446744073709551616 := by rw [← hy, p]; exact Nat.xor_lt_two_pow (by omega) (by omega)
  refine exec_store (b := bs) (o := 0) (v := u64V y) rfl rfl (hB.upd hu1) rfl (by simp) rfl ?_
  intro W2 hu2 _ hB2
  have hB2' : Blk W2 bs [u64V y] := hB2
  refine exec_dw [] rfl rfl rfl ?_
  repeat (first | refine dau rfl (fun _ => rfl) ?_ | refine dga rfl (fun _ => rfl) (fun _ => rfl) ?_ | refine dgs (fun _ => rfl) ?_)
  refine dw_keep (u64V y) (fun vs W' hu _ => ok_load1 (b := bs) (o := 0) rfl ((hB2'.upd hu).cell rfl)) ?_
  repeat (first | refine dau rfl (fun _ => rfl) ?_ | refine dga rfl (fun _ => rfl) (fun _ => rfl) ?_ | refine dgs (fun _ => rfl) ?_)
  refine dw_keep (u64V y) (fun vs W' hu _ => ok_load1 (b := bs) (o := 0) rfl ((hB2'.upd hu).cell rfl)) ?_
  refine dw_keep _ (fun vs W' hu _ => ok_shrU (a := y) (j := 7) rfl rfl ly) ?_
  refine dw_end fun vs W3 hu3 _ => ?_
  refine xpu (pv_xorU (a := y) (b := y / 2 ^ 7) rfl rfl ly (Nat.lt_of_le_of_lt (Nat.div_le_self _ _) ly)) rfl ?_
  refine xr 1 rfl ?_
  generalize hz : y ^^^ y / 2 ^ 7 = z
  have lz : z < 18446744073709551616 := by
    have := Nat.lt_of_le_of_lt (Nat.div_le_self y (2 ^ 7)) ly
    rw [← hz, p]; exact Nat.xor_lt_two_pow (by omega) (by omega)
  refine exec_store (b := bs) (o := 0) (v := u64V z) rfl rfl (hB2'.upd hu3) rfl (by simp) rfl ?_
  intro W4 hu4 _ hB4
  have hB4' : Blk W4 bs [u64V z] := hB4
  have l2 : z * 2 ^ 17 % 18446744073709551616 < 18446744073709551616 := Nat.mod_lt _ (by omega)
  refine exec_dw [] rfl rfl rfl ?_
  repeat (first | refine dau rfl (fun _ => rfl) ?_ | refine dga rfl (fun _ => rfl) (fun _ => rfl) ?_ | refine dgs (fun _ => rfl) ?_)
  refine dw_keep (u64V z) (fun vs W' hu _ => ok_load1 (b := bs) (o := 0) rfl ((hB4'.upd hu).cell rfl)) ?_
  repeat (first | refine dau rfl (fun _ => rfl) ?_ | refine dga rfl (fun _ => rfl) (fun _ => rfl) ?_ | refine dgs (fun _ => rfl) ?_)
  refine dw_keep (u64V z) (fun vs W' hu _ => ok_load1 (b := bs) (o := 0) rfl ((hB4'.upd hu).cell rfl)) ?_
  refine dw_keep _ (fun vs W' hu _ => ok_shlU (a := z) (j := 17) rfl rfl) ?_
  refine dw_end fun vs W5 hu5 _ => ?_
  refine xpu (pv_xorU (a := z) (b := z * 2 ^ 17 % 18446744073709551616) rfl rfl lz l2) rfl ?_
  refine xr 1 rfl ?_
  have hr : z ^^^ z * 2 ^ 17 % 18446744073709551616 = xorNextN x := by rw [← hz, ← hy]; rfl
  rw [hr]
  refine exec_store (b := bs) (o := 0) (v := u64V (xorNextN x)) rfl rfl (hB4'.upd hu5) rfl (by simp) rfl ?_
  intro W6 hu6 _ hB6
  have hB6' : Blk W6 bs [u64V (xorNextN x)] := hB6
  refine xr 2 rfl ?_
  refine exec_load1 (b := bs) (o := 0) rfl rfl (hB6'.cell rfl) ?_
  refine xr 1 rfl ?_
  refine xre hc [_] ⟨rfl, trivial⟩ ⟨rfl, hB6', ?_⟩
  have t1 : Upd [bs] w W2 := (hu1.mono (m := [bs]) (by simp)).trans hu2 (by simp)
  have t2 : Upd [bs] W2 W4 := (hu3.mono (m := [bs]) (by simp)).trans hu4 (by simp)
  have t3 : Upd [bs] W4 W6 := (hu5.mono (m := [bs]) (by simp)).trans hu6 (by simp)
  exact (t1.trans t2 (by simp)).trans t3 (by simp)
theorem break_ok {l32 g1 g2 g3 T : Nat} (h0 : Has P g1 (b_math_bits_Len l32 A.len64)) (h1 : Has P g2 (b_slices_nextPowerOfTwo g1)) (h2 : Has P g3 b_Pslices_xorshift_Next) (h : Has P f (b_slices_breakPatternsOrdered_uint64 g2 g3 T))
    {b n cap x y : Nat} {d : Array Nat} {rest : List Value} (hB : Blk w b (row d rest)) (hd : d.size = n) (hxy : x + 12 < y) (hy : y ≤ n) (hn : n < 2 ^ 40) :
    Ret P f [slV b n cap, intV' x, intV' y] w fun _ w' => Blk w' b (row (breakPatterns d x y) rest) ∧ Upd [b] w w' := by
  have hlt := hB.lt
  have hlen : bitsLen (y - x) = bitLen (y - x) := bitsLen_eq (by omega)
  have hp2 := Go.Sort.two_pow_bitsLen_le (n := y - x) (by omega)
  have hp1 := Go.Sort.lt_two_pow_bitsLen (y - x)
  have hresult : breakPatterns d x y = (breakRuns x (y - x) (2 ^ bitLen (y - x)) 3 (x + (y - x) / 4 * 2 - 1) (UInt64.ofNat (y - x), d)).2 := by
    unfold breakPatterns
    simp only []
    rw [if_pos (show y - x ≥ 8 by omega), Nat.one_shiftLeft, hlen]
    rfl
  rw [hlen] at hp2 hp1
  generalize hmd : 2 ^ bitLen (y - x) = md at *
  refine Ret.of_exec h (Nat.le_of_ble_eq_true rfl) fun c hc => ?_
  dsimp only [b_slices_breakPatternsOrdered_uint64, argEnv, ym, yo, yg, ys, yt, yd, ye]
  refine xr 2 rfl ?_
  refine xpu (pv_subI (a := y) (b := x) rfl rfl (by omega) (by omega)) rfl ?_
  refine xr 2 rfl ?_
  refine xpu (pv_geqI (a := y - x) (b := 8) (q := true) rfl rfl (by simp; omega)) rfl ?_
  refine xr 2 rfl ?_
  refine xpu (pv_toU (a := y - x) rfl (by omega)) rfl ?_
  refine exec_new_store (v := u64V (y - x)) rfl rfl rfl rfl rfl rfl ?_
  intro bs W1 hbs hs1 hu1 hS1
  have hS : Blk W1 bs [u64V (y - x)] := hS1
  have hne : b ≠ bs := by omega
  have hB1 := hB.upd hu1
  refine xr 1 rfl ?_
  refine xca rfl rfl (pow2_ok A h0 h1 (y - x) (by omega)) ?_
  rintro v W2 ⟨rfl, hu2⟩
  rw [hmd]
  refine xr 3 rfl ?_
  refine xju (ok_quoI (a := y - x) (b := 4) rfl rfl (by omega) (by omega)) rfl ?_
  refine xpu (pv_mulI (a := (y - x) / 4) (b := 2) rfl rfl (by omega)) rfl ?_
  refine xpu (pv_addI (a := x) (b := (y - x) / 4 * 2) rfl rfl (by omega)) rfl ?_
  refine xpu (pv_subI (a := x + (y - x) / 4 * 2) (b := 1) rfl rfl (by omega) (by omega)) rfl ?_
  refine xr 2 rfl ?_
  refine xlo (S := Nat × UInt64 × Array Nat) (fun s W => s.1 ≤ 3 ∧ s.2.2.size = n ∧ (breakRuns x (y - x) md (3 - s.1) (x + (y - x) / 4 * 2 - 1 + s.1) s.2).2 = breakPatterns d x y ∧ Blk W b (row s.2.2 rest) ∧ Blk W bs [u64V s.2.1.toNat] ∧ Upd [b] w W)
    (fun s => [(0, slV b n cap), (1, intV' x), (2, intV' y), (6, intV' (y - x)), (7, ptrV bs), (8, u64V md), (9, intV' (x + (y - x) / 4 * 2 - 1 + s.1))]) (fun s => 3 - s.1) (0, UInt64.ofNat (y - x), d)
    ⟨by show 0 ≤ 3; omega, hd, hresult.symm, hB1.upd hu2, ?_, (hu1.mono (m := [b]) (by simp)).trans (hu2.mono (m := [b]) (by simp)) (by simp)⟩ ⟨rfl, rfl, rfl, rfl, rfl, rfl, rfl, trivial⟩ ?_
  · have e1 : (UInt64.ofNat (y - x)).toNat = y - x := by rw [UInt64.toNat_ofNat']; exact Nat.mod_eq_of_lt (by omega)
    show Blk W2 bs [u64V (UInt64.ofNat (y - x)).toNat]
    rw [e1]; exact hS.upd hu2
  rintro ⟨t, r, dk⟩ W ⟨t1, t2, t3, t4, t5, t6⟩
  simp only at t1 t2 t3 t4 t5
  refine xr 3 rfl ?_
  refine xju (ok_quoI (a := y - x) (b := 4) rfl rfl (by omega) (by omega)) rfl ?_
  refine xpu (pv_mulI (a := (y - x) / 4) (b := 2) rfl rfl (by omega)) rfl ?_
  refine xpu (pv_addI (a := x) (b := (y - x) / 4 * 2) rfl rfl (by omega)) rfl ?_
  refine xpu (pv_addI (a := x + (y - x) / 4 * 2) (b := 1) rfl rfl (by omega)) rfl ?_
  by_cases ht : t < 3
  · refine xpu (pv_leqI (a := x + (y - x) / 4 * 2 - 1 + t) (b := x + (y - x) / 4 * 2 + 1) (q := true) rfl rfl (by simp; omega)) rfl ?_
    refine xr 3 rfl ?_
    refine exec_inner_join (S := Nat) (fun o W4 => breakStep x (y - x) md (r, dk) (x + (y - x) / 4 * 2 - 1 + t) = (xorNext r, swp dk (x + (y - x) / 4 * 2 - 1 + t) (x + o)) ∧ Blk W4 b (row (swp dk (x + (y - x) / 4 * 2 - 1 + t) (x + o)) rest) ∧ Blk W4 bs [u64V (xorNext r).toNat] ∧ Upd [b] w W4)
      (fun _ => [(0, slV b n cap), (1, intV' x), (2, intV' y), (6, intV' (y - x)), (7, ptrV bs), (8, u64V md), (9, intV' (x + (y - x) / 4 * 2 - 1 + t))]) ?_ ?_
    rotate_left
    · rintro o W4 ⟨q1, q2, q3, q4⟩
      refine xr 1 rfl ?_
      refine xpu (pv_addI (a := x + (y - x) / 4 * 2 - 1 + t) (b := 1) rfl rfl (by omega)) rfl ?_
      refine xr 1 rfl ?_
      refine xag (t + 1, xorNext r, swp dk (x + (y - x) / 4 * 2 - 1 + t) (x + o)) ⟨ht, by rw [swp_size]; exact t2, ?_, q2, q3, q4⟩ (by show 3 - (t + 1) < 3 - t; omega) ⟨rfl, rfl, rfl, rfl, rfl, rfl, rfl, trivial⟩
      rw [← t3, show 3 - t = (3 - (t + 1)) + 1 by omega]
      show _ = (breakRuns x (y - x) md (3 - (t + 1)) (x + (y - x) / 4 * 2 - 1 + t + 1) (breakStep x (y - x) md (r, dk) (x + (y - x) / 4 * 2 - 1 + t))).2
      rw [q1]
      rfl
    refine xca rfl rfl (xor_ok h2 t5 r.toNat_lt) ?_
    rintro v W3 ⟨rfl, hS3, hu3⟩
    rw [← xorNext_toNat] at hS3
    rw [← xorNext_toNat]
    have hB3 := t4.upd hu3 (by simp; exact hne)
    have hr := (xorNext r).toNat_lt
    have hands : (xorNext r).toNat &&& (md - 1) ≤ md - 1 := Nat.and_le_right
    refine xr 1 rfl ?_
    refine xpu (pv_subU (a := md) (b := 1) rfl rfl (by omega) (by omega)) rfl ?_
    refine xpu (pv_andU (a := (xorNext r).toNat) (b := md - 1) rfl rfl hr (by omega)) rfl ?_
    refine xpu (pv_toI (a := (xorNext r).toNat &&& (md - 1)) rfl (by omega)) rfl ?_
    refine xr 3 rfl ?_
    have hstep : ∀ o, o = (if (xorNext r).toNat &&& (md - 1) ≥ y - x then ((xorNext r).toNat &&& (md - 1)) - (y - x) else (xorNext r).toNat &&& (md - 1)) → breakStep x (y - x) md (r, dk) (x + (y - x) / 4 * 2 - 1 + t) = (xorNext r, swp dk (x + (y - x) / 4 * 2 - 1 + t) (x + o)) := by
      rintro o rfl; rfl
    by_cases hge : y - x ≤ (xorNext r).toNat &&& (md - 1)
    · refine xpu (pv_geqI (a := (xorNext r).toNat &&& (md - 1)) (b := y - x) (q := true) rfl rfl (by simpa using hge)) rfl ?_
      refine xr 3 rfl ?_
      refine xpu (pv_subI (a := (xorNext r).toNat &&& (md - 1)) (b := y - x) rfl rfl hge (by omega)) rfl ?_
      refine xr 2 rfl ?_
      have e1 := hstep (((xorNext r).toNat &&& (md - 1)) - (y - x)) (by rw [if_pos hge])
      generalize ho : ((xorNext r).toNat &&& (md - 1)) - (y - x) = o at e1
      have ho2 : o < y - x := by omega
      refine exec_dws [b] 17 (fun W => Blk W b (splice (row dk rest) (0 + (x + (y - x) / 4 * 2 - 1 + t) * 1) (Value.cells (u64V dk[x + o]!)).toList)) (fun W W' h hu => h.upd hu) rfl rfl rfl ?_
      repeat (first | refine ws_auto rfl rfl rfl ?_ | refine ws_gauto rfl rfl rfl rfl ?_ | refine wgs rfl rfl ?_)
      refine ws_val rfl (pv_addI (a := x) (b := o) rfl rfl (by omega)) ?_
      repeat (first | refine ws_auto rfl rfl rfl ?_ | refine ws_gauto rfl rfl rfl rfl ?_ | refine wgs rfl rfl ?_)
      refine ws_val rfl (pv_addI (a := x) (b := o) rfl rfl (by omega)) ?_
      refine ws_any _ rfl (fun W => ok_iaddr (b := b) (o := 0) (len := n) (cap := cap) rfl rfl (x + o) rfl (by omega)) ?_
      refine ws_ok (u64V dk[x + o]!) rfl rfl (fun W hu => ok_load1 (b := b) (o := 0 + (x + o) * 1) rfl ((hB3.upd hu).cell (row_get (by omega)))) ?_
      repeat (first | refine ws_auto rfl rfl rfl ?_ | refine ws_gauto rfl rfl rfl rfl ?_ | refine wgs rfl rfl ?_)
      refine ws_any _ rfl (fun W => ok_iaddr (b := b) (o := 0) (len := n) (cap := cap) rfl rfl (x + (y - x) / 4 * 2 - 1 + t) rfl (by omega)) ?_
      refine ws_ok (u64V dk[x + (y - x) / 4 * 2 - 1 + t]!) rfl rfl (fun W hu => ok_load1 (b := b) (o := 0 + (x + (y - x) / 4 * 2 - 1 + t) * 1) rfl ((hB3.upd hu).cell (row_get (by omega)))) ?_
      refine ws_any _ rfl (fun W => ok_iaddr (b := b) (o := 0) (len := n) (cap := cap) rfl rfl (x + (y - x) / 4 * 2 - 1 + t) rfl (by omega)) ?_
      refine ws_store rfl rfl rfl hB3 rfl (by rw [row_length]; omega) rfl (by simp) (fun W h => h) ?_
      refine ws_end fun W_a hu_a hW_a => ?_
      refine xju (ok_iaddr (b := b) (o := 0) (len := n) (cap := cap) rfl rfl (x + o) rfl (by omega)) rfl ?_
      refine exec_store (b := b) (o := 0 + (x + o) * 1) (v := u64V dk[x + (y - x) / 4 * 2 - 1 + t]!) rfl rfl (hW_a rfl) rfl (by rw [row_set (by omega), row_length]; simp; omega) rfl ?_
      intro W4 hu_b _ hB4
      rw [row_swp (by omega) (by omega)] at hB4
      have hu4 := hu_a.trans hu_b (by simp)
      refine xr 1 rfl ?_
      exact exec_meet o ⟨e1, hB4, hS3.upd hu4 (by simp; omega), (t6.trans hu3 (fun z hz => .inr (by simp at hz; omega))).trans hu4 (by simp)⟩ ⟨rfl, rfl, rfl, rfl, rfl, rfl, rfl, trivial⟩
    · refine xpu (pv_geqI (a := (xorNext r).toNat &&& (md - 1)) (b := y - x) (q := false) rfl rfl (by simpa using hge)) rfl ?_
      refine xr 2 rfl ?_
      have e1 := hstep ((xorNext r).toNat &&& (md - 1)) (by rw [if_neg hge])
      generalize ho : (xorNext r).toNat &&& (md - 1) = o at e1 hge
      have ho2 : o < y - x := by omega
      refine exec_dws [b] 17 (fun W => Blk W b (splice (row dk rest) (0 + (x + (y - x) / 4 * 2 - 1 + t) * 1) (Value.cells (u64V dk[x + o]!)).toList)) (fun W W' h hu => h.upd hu) rfl rfl rfl ?_
      repeat (first | refine ws_auto rfl rfl rfl ?_ | refine ws_gauto rfl rfl rfl rfl ?_ | refine wgs rfl rfl ?_)
      refine ws_val rfl (pv_addI (a := x) (b := o) rfl rfl (by omega)) ?_
      repeat (first | refine ws_auto rfl rfl rfl ?_ | refine ws_gauto rfl rfl rfl rfl ?_ | refine wgs rfl rfl ?_)
      refine ws_val rfl (pv_addI (a := x) (b := o) rfl rfl (by omega)) ?_
      refine ws_any _ rfl (fun W => ok_iaddr (b := b) (o := 0) (len := n) (cap := cap) rfl rfl (x + o) rfl (by omega)) ?_
      refine ws_ok (u64V dk[x + o]!) rfl rfl (fun W hu => ok_load1 (b := b) (o := 0 + (x + o) * 1) rfl ((hB3.upd hu).cell (row_get (by omega)))) ?_
      repeat (first | refine ws_auto rfl rfl rfl ?_ | refine ws_gauto rfl rfl rfl rfl ?_ | refine wgs rfl rfl ?_)
      refine ws_any _ rfl (fun W => ok_iaddr (b := b) (o := 0) (len := n) (cap := cap) rfl rfl (x + (y - x) / 4 * 2 - 1 + t) rfl (by omega)) ?_
      refine ws_ok (u64V dk[x + (y - x) / 4 * 2 - 1 + t]!) rfl rfl (fun W hu => ok_load1 (b := b) (o := 0 + (x + (y - x) / 4 * 2 - 1 + t) * 1) rfl ((hB3.upd hu).cell (row_get (by omega)))) ?_
      refine ws_any _ rfl (fun W => ok_iaddr (b := b) (o := 0) (len := n) (cap := cap) rfl rfl (x + (y - x) / 4 * 2 - 1 + t) rfl (by omega)) ?_
      refine ws_store rfl rfl rfl hB3 rfl (by rw [row_length]; omega) rfl (by simp) (fun W h => h) ?_
      refine ws_end fun W_a hu_a hW_a => ?_
      refine xju (ok_iaddr (b := b) (o := 0) (len := n) (cap := cap) rfl rfl (x + o) rfl (by omega)) rfl ?_
      refine exec_store (b := b) (o := 0 + (x + o) * 1) (v := u64V dk[x + (y - x) / 4 * 2 - 1 + t]!) rfl rfl (hW_a rfl) rfl (by rw [row_set (by omega), row_length]; simp; omega) rfl ?_
      intro W4 hu_b _ hB4
      rw [row_swp (by omega) (by omega)] at hB4
      have hu4 := hu_a.trans hu_b (by simp)
      refine xr 1 rfl ?_
      exact exec_meet o ⟨e1, hB4, hS3.upd hu4 (by simp; omega), (t6.trans hu3 (fun z hz => .inr (by simp at hz; omega))).trans hu4 (by simp)⟩ ⟨rfl, rfl, rfl, rfl, rfl, rfl, rfl, trivial⟩
  · refine xpu (pv_leqI (a := x + (y - x) / 4 * 2 - 1 + t) (b := x + (y - x) / 4 * 2 + 1) (q := false) rfl rfl (by simp; omega)) rfl ?_
    refine xr 4 rfl ?_
    refine exec_end hc [] trivial ?_
    have : t = 3 := by omega
    subst this
    rw [← t3]
    exact ⟨t4, t6⟩
end
end Go.Sp

namespace Go.Sp
open Go.Sort (swp scanUp scanDown partEqLoop partEqLoop_eq partLoop partLoop_eq partitionEqual partition)
theorem scanUp_if (p : Nat → Bool) (d : Array Nat) (j i : Nat) : scanUp p d j i = if i ≤ j && p d[i]! then scanUp p d j (i + 1) else i := by rw [scanUp]
theorem scanDown_succ (p : Nat → Bool) (d : Array Nat) (i j : Nat) : scanDown p d i (j + 1) = if i ≤ j + 1 && p d[j + 1]! then scanDown p d i j else j + 1 := rfl
section
variable {P : Program} {f : Nat} {w : World} (A : SortF P)
set_option maxHeartbeats 1000000 in
theorem partEq_ok (h : Has P f (b_slices_partitionEqualOrdered_uint64 A.less)) {b n cap x y p : Nat} {d : Array Nat} {rest : List Value} (hB : Blk w b (row d rest)) (hd : d.size = n) (hxp : x ≤ p) (hpy : p < y) (hy : y ≤ n) (hn : n < 2 ^ 40) :
    Ret P f [slV b n cap, intV' x, intV' y, intV' p] w fun v w' => v = intV' (partitionEqual ltN d x y p).1 ∧ Blk w' b (row (partitionEqual ltN d x y p).2 rest) ∧ Upd [b] w w' := by
  refine Ret.of_exec h (Nat.le_of_ble_eq_true rfl) fun c hc => ?_
  dsimp only [b_slices_partitionEqualOrdered_uint64, argEnv, ym, yo, yg, ys, yt, yd, ye]
  refine xr 1 rfl ?_
  refine exec_dws [b] 13 (fun W => Blk W b (splice (row d rest) (0 + x * 1) (Value.cells (u64V d[p]!)).toList)) (fun W W' h hu => h.upd hu) rfl rfl rfl ?_
  repeat (first | refine ws_auto rfl rfl rfl ?_ | refine ws_gauto rfl rfl rfl rfl ?_ | refine wgs rfl rfl ?_)
  refine ws_any _ rfl (fun W => ok_iaddr (b := b) (o := 0) (len := n) (cap := cap) rfl rfl (p) rfl (by omega)) ?_
  refine ws_ok (u64V d[p]!) rfl rfl (fun W hu => ok_load1 (b := b) (o := 0 + (p) * 1) rfl ((hB.upd hu).cell (row_get (by omega)))) ?_
  repeat (first | refine ws_auto rfl rfl rfl ?_ | refine ws_gauto rfl rfl rfl rfl ?_ | refine wgs rfl rfl ?_)
  refine ws_any _ rfl (fun W => ok_iaddr (b := b) (o := 0) (len := n) (cap := cap) rfl rfl (x) rfl (by omega)) ?_
  refine ws_ok (u64V d[x]!) rfl rfl (fun W hu => ok_load1 (b := b) (o := 0 + (x) * 1) rfl ((hB.upd hu).cell (row_get (by omega)))) ?_
  refine ws_any _ rfl (fun W => ok_iaddr (b := b) (o := 0) (len := n) (cap := cap) rfl rfl (x) rfl (by omega)) ?_
  refine ws_store rfl rfl rfl hB rfl (by rw [row_length]; omega) rfl (by simp) (fun W h => h) ?_
  refine ws_end fun W_a hu_a hW_a => ?_
  refine xju (ok_iaddr (b := b) (o := 0) (len := n) (cap := cap) rfl rfl (p) rfl (by omega)) rfl ?_
  refine exec_store (b := b) (o := 0 + (p) * 1) (v := u64V d[x]!) rfl rfl (hW_a rfl) rfl (by rw [row_set (by omega), row_length]; simp; omega) rfl ?_
  intro W0 hu_b _ hB0
  rw [row_swp (by omega) (by omega)] at hB0
  have hu0 := hu_a.trans hu_b (by simp)
  refine xr 1 rfl ?_
  refine xpu (pv_addI (a := x) (b := 1) rfl rfl (by omega)) rfl ?_
  refine xr 1 rfl ?_
  refine xpu (pv_subI (a := y) (b := 1) rfl rfl (by omega) (by omega)) rfl ?_
  refine xr 3 rfl ?_
  refine xlo (S := Nat × Nat × Array Nat) (fun s W => x < s.1 ∧ s.1 ≤ s.2.1 + 2 ∧ s.2.1 < y ∧ s.2.2.size = n ∧ partEqLoop ltN x s.1 s.2.1 s.2.2 = partitionEqual ltN d x y p ∧ Blk W b (row s.2.2 rest) ∧ Upd [b] w W)
    (fun s => [(0, slV b n cap), (1, intV' x), (2, intV' y), (9, intV' s.1), (10, intV' s.2.1)]) (fun s => s.2.1 + 3 - s.1) (x + 1, y - 1, swp d x p) ⟨by show x < x + 1; omega, by show x + 1 ≤ y - 1 + 2; omega, by show y - 1 < y; omega, by rw [swp_size]; exact hd, rfl, hB0, hu0⟩ ⟨rfl, rfl, rfl, rfl, rfl, trivial⟩ ?_
  rintro ⟨i, j, dk⟩ W ⟨g1, g2, g3, g4, gE, g5, g6⟩
  simp only at g1 g2 g3 g4 gE g5
  rw [partEqLoop_eq] at gE
  refine xr 2 rfl ?_
  skip
  refine exec_inner_join (S := Nat) (fun i2 W => x < i2 ∧ i2 ≤ j + 2 ∧ i ≤ i2 ∧ i2 = scanUp (fun z => !ltN dk[x]! z) dk j i ∧ Blk W b (row dk rest) ∧ Upd [b] w W) (fun i2 => [(0, slV b n cap), (1, intV' x), (2, intV' y), (9, intV' i2), (10, intV' j)]) ?_ ?_
  · refine xlo (S := Nat) (fun s W => x < s ∧ s ≤ j + 2 ∧ i ≤ s ∧ scanUp (fun z => !ltN dk[x]! z) dk j s = scanUp (fun z => !ltN dk[x]! z) dk j i ∧ Blk W b (row dk rest) ∧ Upd [b] w W) (fun s => [(0, slV b n cap), (1, intV' x), (2, intV' y), (9, intV' s), (10, intV' j)]) (fun s => j + 3 - s) i ⟨by omega, by omega, Nat.le_refl _, rfl, g5, g6⟩ ⟨rfl, rfl, rfl, rfl, rfl, trivial⟩ ?_
    rintro s W_1 ⟨s1, s2, s3, s4, s5, s6⟩
    by_cases hsj : s ≤ j
    · refine exec_dw [] rfl rfl rfl ?_
      refine dau rfl (fun _ => rfl) ?_
      refine dau rfl (fun _ => rfl) ?_
      refine dw_val (fun _ => pv_leqI (a := s) (b := j) (q := true) rfl rfl (by simpa using hsj)) ?_
      repeat (first | refine dau rfl (fun _ => rfl) ?_ | refine dga rfl (fun _ => rfl) (fun _ => rfl) ?_ | refine dgs (fun _ => rfl) ?_)
      refine dw_gok _ (fun _ => rfl) (fun vs W' hu _ => (ok_iaddr (b := b) (o := 0) (len := n) (cap := cap) rfl rfl (x) rfl (by omega)).keep _) ?_
      refine dw_gok (u64V dk[x]!) (fun _ => rfl) (fun vs W' hu _ => (ok_load1 (b := b) (o := 0 + (x) * 1) rfl ((s5.upd hu).cell (row_get (by omega)))).keep _) ?_
      repeat (first | refine dau rfl (fun _ => rfl) ?_ | refine dga rfl (fun _ => rfl) (fun _ => rfl) ?_ | refine dgs (fun _ => rfl) ?_)
      refine dw_gok _ (fun _ => rfl) (fun vs W' hu _ => (ok_iaddr (b := b) (o := 0) (len := n) (cap := cap) rfl rfl (s) rfl (by omega)).keep _) ?_
      refine dw_gok (u64V dk[s]!) (fun _ => rfl) (fun vs W' hu _ => (ok_load1 (b := b) (o := 0 + (s) * 1) rfl ((s5.upd hu).cell (row_get (by omega)))).keep _) ?_
      refine dw_end fun vs W_2 hu_2 _ => ?_
      refine xr 1 rfl ?_
      refine xca rfl rfl (less_ok A.h_nan A.h_less dk[x]! dk[s]!) ?_
      rintro v W_3 ⟨rfl, hu_3⟩
      have hu_23 := hu_2.trans hu_3
      refine xr 3 rfl ?_
      refine exec_cond rfl (fun hq => ?_) (fun hq => ?_)
      · refine xr 3 rfl ?_
        refine xpu (pv_addI (a := s) (b := 1) rfl rfl (by omega)) rfl ?_
        refine xr 3 rfl ?_
        refine xag (s + 1) ⟨by omega, by omega, by omega, ?_, s5.upd hu_23, s6.trans hu_23 (by simp)⟩ (by show j + 3 - (s + 1) < j + 3 - s; omega) ⟨rfl, rfl, rfl, rfl, rfl, trivial⟩
        rw [← s4, scanUp_if _ _ _ s, if_pos (by simp only [Bool.and_eq_true, decide_eq_true_eq]; exact ⟨hsj, hq⟩)]
      · refine xr 1 rfl ?_
        refine exec_meet s ⟨s1, s2, s3, ?_, s5.upd hu_23, s6.trans hu_23 (by simp)⟩ ⟨rfl, rfl, rfl, rfl, rfl, trivial⟩
        rw [← s4, scanUp_if _ _ _ s, if_neg (by simp only [Bool.and_eq_true, decide_eq_true_eq]; rintro ⟨_, h⟩; exact Bool.false_ne_true (hq.symm.trans h))]
    · refine exec_dw [] rfl rfl rfl ?_
      refine dau rfl (fun _ => rfl) ?_
      refine dau rfl (fun _ => rfl) ?_
      refine dw_val (fun _ => pv_leqI (a := s) (b := j) (q := false) rfl rfl (by simpa using hsj)) ?_
      repeat (first | refine dau rfl (fun _ => rfl) ?_ | refine dga rfl (fun _ => rfl) (fun _ => rfl) ?_ | refine dgs (fun _ => rfl) ?_)
      refine dw_end fun vs W_2 hu_2 _ => ?_
      refine xr 5 rfl ?_
      refine exec_meet s ⟨s1, s2, s3, ?_, s5.upd hu_2, s6.trans hu_2 (by simp)⟩ ⟨rfl, rfl, rfl, rfl, rfl, trivial⟩
      rw [← s4, scanUp_if _ _ _ s, if_neg (by simp only [Bool.and_eq_true, decide_eq_true_eq]; rintro ⟨h, _⟩; exact hsj h)]
  rintro i2 W1 ⟨u1, u2, u3, u4, u5, u6⟩
  refine xr 1 rfl ?_
  refine exec_inner_join (S := Nat) (fun j2 W => j2 ≤ j ∧ j2 = scanDown (fun z => ltN dk[x]! z) dk i2 j ∧ Blk W b (row dk rest) ∧ Upd [b] w W) (fun j2 => [(0, slV b n cap), (1, intV' x), (2, intV' y), (9, intV' i2), (10, intV' j2)]) ?_ ?_
  · refine xlo (S := Nat) (fun s W => s ≤ j ∧ scanDown (fun z => ltN dk[x]! z) dk i2 s = scanDown (fun z => ltN dk[x]! z) dk i2 j ∧ Blk W b (row dk rest) ∧ Upd [b] w W) (fun s => [(0, slV b n cap), (1, intV' x), (2, intV' y), (9, intV' i2), (10, intV' s)]) (fun s => s) j ⟨Nat.le_refl _, rfl, u5, u6⟩ ⟨rfl, rfl, rfl, rfl, rfl, trivial⟩ ?_
    rintro s W_1 ⟨s1, s4, s5, s6⟩
    by_cases hsj : i2 ≤ s
    · obtain ⟨s, rfl⟩ : ∃ t, s = t + 1 := ⟨s - 1, by omega⟩
      refine exec_dw [] rfl rfl rfl ?_
      refine dau rfl (fun _ => rfl) ?_
      refine dau rfl (fun _ => rfl) ?_
      refine dw_val (fun _ => pv_leqI (a := i2) (b := s + 1) (q := true) rfl rfl (by simpa using hsj)) ?_
      repeat (first | refine dau rfl (fun _ => rfl) ?_ | refine dga rfl (fun _ => rfl) (fun _ => rfl) ?_ | refine dgs (fun _ => rfl) ?_)
      refine dw_gok _ (fun _ => rfl) (fun vs W' hu _ => (ok_iaddr (b := b) (o := 0) (len := n) (cap := cap) rfl rfl (x) rfl (by omega)).keep _) ?_
      refine dw_gok (u64V dk[x]!) (fun _ => rfl) (fun vs W' hu _ => (ok_load1 (b := b) (o := 0 + (x) * 1) rfl ((s5.upd hu).cell (row_get (by omega)))).keep _) ?_
      repeat (first | refine dau rfl (fun _ => rfl) ?_ | refine dga rfl (fun _ => rfl) (fun _ => rfl) ?_ | refine dgs (fun _ => rfl) ?_)
      refine dw_gok _ (fun _ => rfl) (fun vs W' hu _ => (ok_iaddr (b := b) (o := 0) (len := n) (cap := cap) rfl rfl (s + 1) rfl (by omega)).keep _) ?_
      refine dw_gok (u64V dk[s + 1]!) (fun _ => rfl) (fun vs W' hu _ => (ok_load1 (b := b) (o := 0 + (s + 1) * 1) rfl ((s5.upd hu).cell (row_get (by omega)))).keep _) ?_
      refine dw_end fun vs W_2 hu_2 _ => ?_
      refine xr 1 rfl ?_
      refine xca rfl rfl (less_ok A.h_nan A.h_less dk[x]! dk[s + 1]!) ?_
      rintro v W_3 ⟨rfl, hu_3⟩
      have hu_23 := hu_2.trans hu_3
      refine xr 1 rfl ?_
      refine exec_cond rfl (fun hq => ?_) (fun hq => ?_)
      · refine xr 3 rfl ?_
        refine xpu (pv_subI (a := s + 1) (b := 1) rfl rfl (by omega) (by omega)) rfl ?_
        refine xr 3 rfl ?_
        refine xag s ⟨by omega, ?_, s5.upd hu_23, s6.trans hu_23 (by simp)⟩ (by show s < s + 1; omega) ⟨rfl, rfl, rfl, rfl, rfl, trivial⟩
        rw [← s4, scanDown_succ, if_pos (by simp only [Bool.and_eq_true, decide_eq_true_eq]; exact ⟨hsj, hq⟩)]
      · refine xr 1 rfl ?_
        refine exec_meet (s + 1) ⟨s1, ?_, s5.upd hu_23, s6.trans hu_23 (by simp)⟩ ⟨rfl, rfl, rfl, rfl, rfl, trivial⟩
        rw [← s4, scanDown_succ, if_neg (by simp only [Bool.and_eq_true, decide_eq_true_eq]; rintro ⟨_, h⟩; exact Bool.false_ne_true (hq.symm.trans h))]
    · refine exec_dw [] rfl rfl rfl ?_
      refine dau rfl (fun _ => rfl) ?_
      refine dau rfl (fun _ => rfl) ?_
      refine dw_val (fun _ => pv_leqI (a := i2) (b := s) (q := false) rfl rfl (by simpa using hsj)) ?_
      repeat (first | refine dau rfl (fun _ => rfl) ?_ | refine dga rfl (fun _ => rfl) (fun _ => rfl) ?_ | refine dgs (fun _ => rfl) ?_)
      refine dw_end fun vs W_2 hu_2 _ => ?_
      refine xr 4 rfl ?_
      refine exec_meet s ⟨s1, ?_, s5.upd hu_2, s6.trans hu_2 (by simp)⟩ ⟨rfl, rfl, rfl, rfl, rfl, trivial⟩
      rw [← s4]
      cases s with
      | zero => rfl
      | succ s => rw [scanDown_succ, if_neg (by simp only [Bool.and_eq_true, decide_eq_true_eq]; rintro ⟨h, _⟩; exact hsj h)]
  rintro j2 W2 ⟨v1, v4, v5, v6⟩
  refine xr 2 rfl ?_
  by_cases hij : j2 < i2
  · refine xpu (pv_gtrI (a := i2) (b := j2) (q := true) rfl rfl (by simpa using hij)) rfl ?_
    refine xr 5 rfl ?_
    refine xre hc [_] ⟨rfl, trivial⟩ ?_
    rw [← gE, ← u4, ← v4, if_pos hij]
    exact ⟨rfl, v5, v6⟩
  · refine xpu (pv_gtrI (a := i2) (b := j2) (q := false) rfl rfl (by simpa using hij)) rfl ?_
    refine xr 2 rfl ?_
    refine exec_dws [b] 13 (fun W => Blk W b (splice (row dk rest) (0 + i2 * 1) (Value.cells (u64V dk[j2]!)).toList)) (fun W W' h hu => h.upd hu) rfl rfl rfl ?_
    repeat (first | refine ws_auto rfl rfl rfl ?_ | refine ws_gauto rfl rfl rfl rfl ?_ | refine wgs rfl rfl ?_)
    refine ws_any _ rfl (fun W => ok_iaddr (b := b) (o := 0) (len := n) (cap := cap) rfl rfl (j2) rfl (by omega)) ?_
    refine ws_ok (u64V dk[j2]!) rfl rfl (fun W hu => ok_load1 (b := b) (o := 0 + (j2) * 1) rfl ((v5.upd hu).cell (row_get (by omega)))) ?_
    repeat (first | refine ws_auto rfl rfl rfl ?_ | refine ws_gauto rfl rfl rfl rfl ?_ | refine wgs rfl rfl ?_)
    refine ws_any _ rfl (fun W => ok_iaddr (b := b) (o := 0) (len := n) (cap := cap) rfl rfl (i2) rfl (by omega)) ?_
    refine ws_ok (u64V dk[i2]!) rfl rfl (fun W hu => ok_load1 (b := b) (o := 0 + (i2) * 1) rfl ((v5.upd hu).cell (row_get (by omega)))) ?_
    refine ws_any _ rfl (fun W => ok_iaddr (b := b) (o := 0) (len := n) (cap := cap) rfl rfl (i2) rfl (by omega)) ?_
    refine ws_store rfl rfl rfl v5 rfl (by rw [row_length]; omega) rfl (by simp) (fun W h => h) ?_
    refine ws_end fun W_a hu_a hW_a => ?_
    refine xju (ok_iaddr (b := b) (o := 0) (len := n) (cap := cap) rfl rfl (j2) rfl (by omega)) rfl ?_
    refine exec_store (b := b) (o := 0 + (j2) * 1) (v := u64V dk[i2]!) rfl rfl (hW_a rfl) rfl (by rw [row_set (by omega), row_length]; simp; omega) rfl ?_
    intro W3 hu_b _ hB3
    rw [row_swp (by omega) (by omega)] at hB3
    have hu3 := hu_a.trans hu_b (by simp)
    refine xr 1 rfl ?_
    refine xpu (pv_addI (a := i2) (b := 1) rfl rfl (by omega)) rfl ?_
    refine xr 2 rfl ?_
    refine xpu (pv_subI (a := j2) (b := 1) rfl rfl (by omega) (by omega)) rfl ?_
    refine xr 3 rfl ?_
    refine xag (i2 + 1, j2 - 1, swp dk i2 j2) ⟨by show x < i2 + 1; omega, by show i2 + 1 ≤ j2 - 1 + 2; omega, by show j2 - 1 < y; omega, by rw [swp_size]; exact g4, ?_, hB3, v6.trans hu3 (by simp)⟩ (by show j2 - 1 + 3 - (i2 + 1) < j + 3 - i; omega) ⟨rfl, rfl, rfl, rfl, rfl, trivial⟩
    rw [← u4, ← v4, if_neg hij] at gE
    exact gE
set_option maxHeartbeats 2000000 in
theorem part_ok (h : Has P f (b_slices_partitionOrdered_uint64 A.less)) {b n cap x y p : Nat} {d : Array Nat} {rest : List Value} (hB : Blk w b (row d rest)) (hd : d.size = n) (hxp : x ≤ p) (hpy : p < y) (hy : y ≤ n) (hn : n < 2 ^ 40) :
    Ret P f [slV b n cap, intV' x, intV' y, intV' p] w fun v w' => v = .tuple #[intV' (partition ltN d x y p).1, .bool (partition ltN d x y p).2.1] ∧ Blk w' b (row (partition ltN d x y p).2.2 rest) ∧ Upd [b] w w' := by
  refine Ret.of_exec h (Nat.le_of_ble_eq_true rfl) fun c hc => ?_
  dsimp only [b_slices_partitionOrdered_uint64, argEnv, ym, yo, yg, ys, yt, yd, ye]
  refine xr 2 rfl ?_
  refine exec_dws [b] 13 (fun W => Blk W b (splice (row d rest) (0 + x * 1) (Value.cells (u64V d[p]!)).toList)) (fun W W' h hu => h.upd hu) rfl rfl rfl ?_
  repeat (first | refine ws_auto rfl rfl rfl ?_ | refine ws_gauto rfl rfl rfl rfl ?_ | refine wgs rfl rfl ?_)
  refine ws_any _ rfl (fun W => ok_iaddr (b := b) (o := 0) (len := n) (cap := cap) rfl rfl (p) rfl (by omega)) ?_
  refine ws_ok (u64V d[p]!) rfl rfl (fun W hu => ok_load1 (b := b) (o := 0 + (p) * 1) rfl ((hB.upd hu).cell (row_get (by omega)))) ?_
  repeat (first | refine ws_auto rfl rfl rfl ?_ | refine ws_gauto rfl rfl rfl rfl ?_ | refine wgs rfl rfl ?_)
  refine ws_any _ rfl (fun W => ok_iaddr (b := b) (o := 0) (len := n) (cap := cap) rfl rfl (x) rfl (by omega)) ?_
  refine ws_ok (u64V d[x]!) rfl rfl (fun W hu => ok_load1 (b := b) (o := 0 + (x) * 1) rfl ((hB.upd hu).cell (row_get (by omega)))) ?_
  refine ws_any _ rfl (fun W => ok_iaddr (b := b) (o := 0) (len := n) (cap := cap) rfl rfl (x) rfl (by omega)) ?_
  refine ws_store rfl rfl rfl hB rfl (by rw [row_length]; omega) rfl (by simp) (fun W h => h) ?_
  refine ws_end fun W_a hu_a hW_a => ?_
  refine xju (ok_iaddr (b := b) (o := 0) (len := n) (cap := cap) rfl rfl (p) rfl (by omega)) rfl ?_
  refine exec_store (b := b) (o := 0 + (p) * 1) (v := u64V d[x]!) rfl rfl (hW_a rfl) rfl (by rw [row_set (by omega), row_length]; simp; omega) rfl ?_
  intro W0 hu_b _ hB0
  rw [row_swp (by omega) (by omega)] at hB0
  have hu0 := hu_a.trans hu_b (by simp)
  refine xr 1 rfl ?_
  refine xpu (pv_addI (a := x) (b := 1) rfl rfl (by omega)) rfl ?_
  refine xr 1 rfl ?_
  refine xpu (pv_subI (a := y) (b := 1) rfl rfl (by omega) (by omega)) rfl ?_
  refine xr 3 rfl ?_
  obtain ⟨i, hi⟩ : ∃ i, i = x + 1 := ⟨_, rfl⟩
  obtain ⟨j, hj⟩ : ∃ j, j = y - 1 := ⟨_, rfl⟩
  obtain ⟨dk, hdk⟩ : ∃ dk, dk = swp d x p := ⟨_, rfl⟩
  have g4 : dk.size = n := by rw [hdk, swp_size]; exact hd
  have hres : partition ltN d x y p = if scanUp (fun z => ltN z dk[x]!) dk j i > scanDown (fun z => !ltN z dk[x]!) dk (scanUp (fun z => ltN z dk[x]!) dk j i) j then (scanDown (fun z => !ltN z dk[x]!) dk (scanUp (fun z => ltN z dk[x]!) dk j i) j, true, swp dk (scanDown (fun z => !ltN z dk[x]!) dk (scanUp (fun z => ltN z dk[x]!) dk j i) j) x)
      else ((partLoop ltN x (scanUp (fun z => ltN z dk[x]!) dk j i + 1) (scanDown (fun z => !ltN z dk[x]!) dk (scanUp (fun z => ltN z dk[x]!) dk j i) j - 1) (swp dk (scanUp (fun z => ltN z dk[x]!) dk j i) (scanDown (fun z => !ltN z dk[x]!) dk (scanUp (fun z => ltN z dk[x]!) dk j i) j))).1, false,
        swp (partLoop ltN x (scanUp (fun z => ltN z dk[x]!) dk j i + 1) (scanDown (fun z => !ltN z dk[x]!) dk (scanUp (fun z => ltN z dk[x]!) dk j i) j - 1) (swp dk (scanUp (fun z => ltN z dk[x]!) dk j i) (scanDown (fun z => !ltN z dk[x]!) dk (scanUp (fun z => ltN z dk[x]!) dk j i) j))).2 (partLoop ltN x (scanUp (fun z => ltN z dk[x]!) dk j i + 1) (scanDown (fun z => !ltN z dk[x]!) dk (scanUp (fun z => ltN z dk[x]!) dk j i) j - 1) (swp dk (scanUp (fun z => ltN z dk[x]!) dk j i) (scanDown (fun z => !ltN z dk[x]!) dk (scanUp (fun z => ltN z dk[x]!) dk j i) j))).1 x) := by
    subst hi hj hdk; rfl
  rw [← hi, ← hj]
  rw [← hdk] at hB0
  have g5 := hB0
  have g6 := hu0
  skip
  refine exec_inner_join (S := Nat) (fun i2 W => x < i2 ∧ i2 ≤ j + 2 ∧ i ≤ i2 ∧ i2 = scanUp (fun z => ltN z dk[x]!) dk j i ∧ Blk W b (row dk rest) ∧ Upd [b] w W) (fun i2 => [(0, slV b n cap), (1, intV' x), (2, intV' y), (10, intV' i2), (11, intV' j)]) ?_ ?_
  · refine xlo (S := Nat) (fun s W => x < s ∧ s ≤ j + 2 ∧ i ≤ s ∧ scanUp (fun z => ltN z dk[x]!) dk j s = scanUp (fun z => ltN z dk[x]!) dk j i ∧ Blk W b (row dk rest) ∧ Upd [b] w W) (fun s => [(0, slV b n cap), (1, intV' x), (2, intV' y), (10, intV' s), (11, intV' j)]) (fun s => j + 3 - s) i ⟨by omega, by omega, Nat.le_refl _, rfl, g5, g6⟩ ⟨rfl, rfl, rfl, rfl, rfl, trivial⟩ ?_
    rintro s W_1 ⟨s1, s2, s3, s4, s5, s6⟩
    by_cases hsj : s ≤ j
    · refine exec_dw [] rfl rfl rfl ?_
      refine dau rfl (fun _ => rfl) ?_
      refine dau rfl (fun _ => rfl) ?_
      refine dw_val (fun _ => pv_leqI (a := s) (b := j) (q := true) rfl rfl (by simpa using hsj)) ?_
      repeat (first | refine dau rfl (fun _ => rfl) ?_ | refine dga rfl (fun _ => rfl) (fun _ => rfl) ?_ | refine dgs (fun _ => rfl) ?_)
      refine dw_gok _ (fun _ => rfl) (fun vs W' hu _ => (ok_iaddr (b := b) (o := 0) (len := n) (cap := cap) rfl rfl (s) rfl (by omega)).keep _) ?_
      refine dw_gok (u64V dk[s]!) (fun _ => rfl) (fun vs W' hu _ => (ok_load1 (b := b) (o := 0 + (s) * 1) rfl ((s5.upd hu).cell (row_get (by omega)))).keep _) ?_
      repeat (first | refine dau rfl (fun _ => rfl) ?_ | refine dga rfl (fun _ => rfl) (fun _ => rfl) ?_ | refine dgs (fun _ => rfl) ?_)
      refine dw_gok _ (fun _ => rfl) (fun vs W' hu _ => (ok_iaddr (b := b) (o := 0) (len := n) (cap := cap) rfl rfl (x) rfl (by omega)).keep _) ?_
      refine dw_gok (u64V dk[x]!) (fun _ => rfl) (fun vs W' hu _ => (ok_load1 (b := b) (o := 0 + (x) * 1) rfl ((s5.upd hu).cell (row_get (by omega)))).keep _) ?_
      refine dw_end fun vs W_2 hu_2 _ => ?_
      refine xr 1 rfl ?_
      refine xca rfl rfl (less_ok A.h_nan A.h_less dk[s]! dk[x]!) ?_
      rintro v W_3 ⟨rfl, hu_3⟩
      have hu_23 := hu_2.trans hu_3
      refine xr 1 rfl ?_
      refine exec_cond rfl (fun hq => ?_) (fun hq => ?_)
      · refine xr 3 rfl ?_
        refine xpu (pv_addI (a := s) (b := 1) rfl rfl (by omega)) rfl ?_
        refine xr 3 rfl ?_
        refine xag (s + 1) ⟨by omega, by omega, by omega, ?_, s5.upd hu_23, s6.trans hu_23 (by simp)⟩ (by show j + 3 - (s + 1) < j + 3 - s; omega) ⟨rfl, rfl, rfl, rfl, rfl, trivial⟩
        rw [← s4, scanUp_if _ _ _ s, if_pos (by simp only [Bool.and_eq_true, decide_eq_true_eq]; exact ⟨hsj, hq⟩)]
      · refine xr 1 rfl ?_
        refine exec_meet s ⟨s1, s2, s3, ?_, s5.upd hu_23, s6.trans hu_23 (by simp)⟩ ⟨rfl, rfl, rfl, rfl, rfl, trivial⟩
        rw [← s4, scanUp_if _ _ _ s, if_neg (by simp only [Bool.and_eq_true, decide_eq_true_eq]; rintro ⟨_, h⟩; exact Bool.false_ne_true (hq.symm.trans h))]
    · refine exec_dw [] rfl rfl rfl ?_
      refine dau rfl (fun _ => rfl) ?_
      refine dau rfl (fun _ => rfl) ?_
      refine dw_val (fun _ => pv_leqI (a := s) (b := j) (q := false) rfl rfl (by simpa using hsj)) ?_
      repeat (first | refine dau rfl (fun _ => rfl) ?_ | refine dga rfl (fun _ => rfl) (fun _ => rfl) ?_ | refine dgs (fun _ => rfl) ?_)
      refine dw_end fun vs W_2 hu_2 _ => ?_
      refine xr 4 rfl ?_
      refine exec_meet s ⟨s1, s2, s3, ?_, s5.upd hu_2, s6.trans hu_2 (by simp)⟩ ⟨rfl, rfl, rfl, rfl, rfl, trivial⟩
      rw [← s4, scanUp_if _ _ _ s, if_neg (by simp only [Bool.and_eq_true, decide_eq_true_eq]; rintro ⟨h, _⟩; exact hsj h)]
  rintro i2 W1 ⟨u1, u2, u3, u4, u5, u6⟩
  refine xr 1 rfl ?_
  refine exec_inner_join (S := Nat) (fun j2 W => j2 ≤ j ∧ j2 = scanDown (fun z => !ltN z dk[x]!) dk i2 j ∧ Blk W b (row dk rest) ∧ Upd [b] w W) (fun j2 => [(0, slV b n cap), (1, intV' x), (2, intV' y), (10, intV' i2), (11, intV' j2)]) ?_ ?_
  · refine xlo (S := Nat) (fun s W => s ≤ j ∧ scanDown (fun z => !ltN z dk[x]!) dk i2 s = scanDown (fun z => !ltN z dk[x]!) dk i2 j ∧ Blk W b (row dk rest) ∧ Upd [b] w W) (fun s => [(0, slV b n cap), (1, intV' x), (2, intV' y), (10, intV' i2), (11, intV' s)]) (fun s => s) j ⟨Nat.le_refl _, rfl, u5, u6⟩ ⟨rfl, rfl, rfl, rfl, rfl, trivial⟩ ?_
    rintro s W_1 ⟨s1, s4, s5, s6⟩
    by_cases hsj : i2 ≤ s
    · obtain ⟨s, rfl⟩ : ∃ t, s = t + 1 := ⟨s - 1, by omega⟩
      refine exec_dw [] rfl rfl rfl ?_
      refine dau rfl (fun _ => rfl) ?_
      refine dau rfl (fun _ => rfl) ?_
      refine dw_val (fun _ => pv_leqI (a := i2) (b := s + 1) (q := true) rfl rfl (by simpa using hsj)) ?_
      repeat (first | refine dau rfl (fun _ => rfl) ?_ | refine dga rfl (fun _ => rfl) (fun _ => rfl) ?_ | refine dgs (fun _ => rfl) ?_)
      refine dw_gok _ (fun _ => rfl) (fun vs W' hu _ => (ok_iaddr (b := b) (o := 0) (len := n) (cap := cap) rfl rfl (s + 1) rfl (by omega)).keep _) ?_
      refine dw_gok (u64V dk[s + 1]!) (fun _ => rfl) (fun vs W' hu _ => (ok_load1 (b := b) (o := 0 + (s + 1) * 1) rfl ((s5.upd hu).cell (row_get (by omega)))).keep _) ?_
      repeat (first | refine dau rfl (fun _ => rfl) ?_ | refine dga rfl (fun _ => rfl) (fun _ => rfl) ?_ | refine dgs (fun _ => rfl) ?_)
      refine dw_gok _ (fun _ => rfl) (fun vs W' hu _ => (ok_iaddr (b := b) (o := 0) (len := n) (cap := cap) rfl rfl (x) rfl (by omega)).keep _) ?_
      refine dw_gok (u64V dk[x]!) (fun _ => rfl) (fun vs W' hu _ => (ok_load1 (b := b) (o := 0 + (x) * 1) rfl ((s5.upd hu).cell (row_get (by omega)))).keep _) ?_
      refine dw_end fun vs W_2 hu_2 _ => ?_
      refine xr 1 rfl ?_
      refine xca rfl rfl (less_ok A.h_nan A.h_less dk[s + 1]! dk[x]!) ?_
      rintro v W_3 ⟨rfl, hu_3⟩
      have hu_23 := hu_2.trans hu_3
      refine xr 3 rfl ?_
      refine exec_cond rfl (fun hq => ?_) (fun hq => ?_)
      · refine xr 3 rfl ?_
        refine xpu (pv_subI (a := s + 1) (b := 1) rfl rfl (by omega) (by omega)) rfl ?_
        refine xr 3 rfl ?_
        refine xag s ⟨by omega, ?_, s5.upd hu_23, s6.trans hu_23 (by simp)⟩ (by show s < s + 1; omega) ⟨rfl, rfl, rfl, rfl, rfl, trivial⟩
        rw [← s4, scanDown_succ, if_pos (by simp only [Bool.and_eq_true, decide_eq_true_eq]; exact ⟨hsj, hq⟩)]
      · refine xr 1 rfl ?_
        refine exec_meet (s + 1) ⟨s1, ?_, s5.upd hu_23, s6.trans hu_23 (by simp)⟩ ⟨rfl, rfl, rfl, rfl, rfl, trivial⟩
        rw [← s4, scanDown_succ, if_neg (by simp only [Bool.and_eq_true, decide_eq_true_eq]; rintro ⟨_, h⟩; exact Bool.false_ne_true (hq.symm.trans h))]
    · refine exec_dw [] rfl rfl rfl ?_
      refine dau rfl (fun _ => rfl) ?_
      refine dau rfl (fun _ => rfl) ?_
      refine dw_val (fun _ => pv_leqI (a := i2) (b := s) (q := false) rfl rfl (by simpa using hsj)) ?_
      repeat (first | refine dau rfl (fun _ => rfl) ?_ | refine dga rfl (fun _ => rfl) (fun _ => rfl) ?_ | refine dgs (fun _ => rfl) ?_)
      refine dw_end fun vs W_2 hu_2 _ => ?_
      refine xr 5 rfl ?_
      refine exec_meet s ⟨s1, ?_, s5.upd hu_2, s6.trans hu_2 (by simp)⟩ ⟨rfl, rfl, rfl, rfl, rfl, trivial⟩
      rw [← s4]
      cases s with
      | zero => rfl
      | succ s => rw [scanDown_succ, if_neg (by simp only [Bool.and_eq_true, decide_eq_true_eq]; rintro ⟨h, _⟩; exact hsj h)]
  rintro j2 W2 ⟨v1, v4, v5, v6⟩
  rw [← u4, ← v4] at hres
  refine xr 2 rfl ?_
  by_cases hij : j2 < i2
  · refine xpu (pv_gtrI (a := i2) (b := j2) (q := true) rfl rfl (by simpa using hij)) rfl ?_
    refine xr 1 rfl ?_
    refine exec_dws [b] 13 (fun W => Blk W b (splice (row dk rest) (0 + j2 * 1) (Value.cells (u64V dk[x]!)).toList)) (fun W W' h hu => h.upd hu) rfl rfl rfl ?_
    repeat (first | refine ws_auto rfl rfl rfl ?_ | refine ws_gauto rfl rfl rfl rfl ?_ | refine wgs rfl rfl ?_)
    refine ws_any _ rfl (fun W => ok_iaddr (b := b) (o := 0) (len := n) (cap := cap) rfl rfl (x) rfl (by omega)) ?_
    refine ws_ok (u64V dk[x]!) rfl rfl (fun W hu => ok_load1 (b := b) (o := 0 + (x) * 1) rfl ((v5.upd hu).cell (row_get (by omega)))) ?_
    repeat (first | refine ws_auto rfl rfl rfl ?_ | refine ws_gauto rfl rfl rfl rfl ?_ | refine wgs rfl rfl ?_)
    refine ws_any _ rfl (fun W => ok_iaddr (b := b) (o := 0) (len := n) (cap := cap) rfl rfl (j2) rfl (by omega)) ?_
    refine ws_ok (u64V dk[j2]!) rfl rfl (fun W hu => ok_load1 (b := b) (o := 0 + (j2) * 1) rfl ((v5.upd hu).cell (row_get (by omega)))) ?_
    refine ws_any _ rfl (fun W => ok_iaddr (b := b) (o := 0) (len := n) (cap := cap) rfl rfl (j2) rfl (by omega)) ?_
    refine ws_store rfl rfl rfl v5 rfl (by rw [row_length]; omega) rfl (by simp) (fun W h => h) ?_
    refine ws_end fun W_a hu_a hW_a => ?_
    refine xju (ok_iaddr (b := b) (o := 0) (len := n) (cap := cap) rfl rfl (x) rfl (by omega)) rfl ?_
    refine exec_store (b := b) (o := 0 + (x) * 1) (v := u64V dk[j2]!) rfl rfl (hW_a rfl) rfl (by rw [row_set (by omega), row_length]; simp; omega) rfl ?_
    intro W3 hu_b _ hB3
    rw [row_swp (by omega) (by omega)] at hB3
    have hu3 := hu_a.trans hu_b (by simp)
    refine xr 3 rfl ?_
    refine xre hc [_, _] ⟨rfl, rfl, trivial⟩ ?_
    rw [hres, if_pos hij]
    exact ⟨rfl, hB3, v6.trans hu3 (by simp)⟩
  · refine xpu (pv_gtrI (a := i2) (b := j2) (q := false) rfl rfl (by simpa using hij)) rfl ?_
    refine xr 2 rfl ?_
    rw [if_neg hij] at hres
    refine exec_dws [b] 13 (fun W => Blk W b (splice (row dk rest) (0 + i2 * 1) (Value.cells (u64V dk[j2]!)).toList)) (fun W W' h hu => h.upd hu) rfl rfl rfl ?_
    repeat (first | refine ws_auto rfl rfl rfl ?_ | refine ws_gauto rfl rfl rfl rfl ?_ | refine wgs rfl rfl ?_)
    refine ws_any _ rfl (fun W => ok_iaddr (b := b) (o := 0) (len := n) (cap := cap) rfl rfl (j2) rfl (by omega)) ?_
    refine ws_ok (u64V dk[j2]!) rfl rfl (fun W hu => ok_load1 (b := b) (o := 0 + (j2) * 1) rfl ((v5.upd hu).cell (row_get (by omega)))) ?_
    repeat (first | refine ws_auto rfl rfl rfl ?_ | refine ws_gauto rfl rfl rfl rfl ?_ | refine wgs rfl rfl ?_)
    refine ws_any _ rfl (fun W => ok_iaddr (b := b) (o := 0) (len := n) (cap := cap) rfl rfl (i2) rfl (by omega)) ?_
    refine ws_ok (u64V dk[i2]!) rfl rfl (fun W hu => ok_load1 (b := b) (o := 0 + (i2) * 1) rfl ((v5.upd hu).cell (row_get (by omega)))) ?_
    refine ws_any _ rfl (fun W => ok_iaddr (b := b) (o := 0) (len := n) (cap := cap) rfl rfl (i2) rfl (by omega)) ?_
    refine ws_store rfl rfl rfl v5 rfl (by rw [row_length]; omega) rfl (by simp) (fun W h => h) ?_
    refine ws_end fun W_a hu_a hW_a => ?_
    refine xju (ok_iaddr (b := b) (o := 0) (len := n) (cap := cap) rfl rfl (j2) rfl (by omega)) rfl ?_
    refine exec_store (b := b) (o := 0 + (j2) * 1) (v := u64V dk[i2]!) rfl rfl (hW_a rfl) rfl (by rw [row_set (by omega), row_length]; simp; omega) rfl ?_
    intro W3 hu_b _ hB3
    rw [row_swp (by omega) (by omega)] at hB3
    have hu3 := hu_a.trans hu_b (by simp)
    refine xr 1 rfl ?_
    refine xpu (pv_addI (a := i2) (b := 1) rfl rfl (by omega)) rfl ?_
    refine xr 2 rfl ?_
    refine xpu (pv_subI (a := j2) (b := 1) rfl rfl (by omega) (by omega)) rfl ?_
    refine xr 2 rfl ?_
    have hj2 : j2 < y := by omega
    have hu4 := v6.trans hu3 (by simp)
    generalize hpl : partLoop ltN x (i2 + 1) (j2 - 1) (swp dk i2 j2) = pl at hres
    clear g5 g6 u5 u6 v5 v6
    refine xlo (S := Nat × Nat × Array Nat) (fun s W => x < s.1 ∧ s.1 ≤ s.2.1 + 2 ∧ s.2.1 < y ∧ s.2.2.size = n ∧ partLoop ltN x s.1 s.2.1 s.2.2 = pl ∧ Blk W b (row s.2.2 rest) ∧ Upd [b] w W)
      (fun s => [(0, slV b n cap), (1, intV' x), (2, intV' y), (10, intV' s.1), (11, intV' s.2.1)]) (fun s => s.2.1 + 3 - s.1) (i2 + 1, j2 - 1, swp dk i2 j2) ⟨by show x < i2 + 1; omega, by show i2 + 1 ≤ j2 - 1 + 2; omega, by show j2 - 1 < y; omega, by rw [swp_size]; exact g4, hpl, hB3, hu4⟩ ⟨rfl, rfl, rfl, rfl, rfl, trivial⟩ ?_
    rintro ⟨i, j, dk⟩ W ⟨g1, g2, g3, g4, gE, g5, g6⟩
    simp only at g1 g2 g3 g4 gE g5
    rw [partLoop_eq] at gE
    refine xr 2 rfl ?_
    skip
    refine exec_inner_join (S := Nat) (fun i2 W => x < i2 ∧ i2 ≤ j + 2 ∧ i ≤ i2 ∧ i2 = scanUp (fun z => ltN z dk[x]!) dk j i ∧ Blk W b (row dk rest) ∧ Upd [b] w W) (fun i2 => [(0, slV b n cap), (1, intV' x), (2, intV' y), (10, intV' i2), (11, intV' j)]) ?_ ?_
    · refine xlo (S := Nat) (fun s W => x < s ∧ s ≤ j + 2 ∧ i ≤ s ∧ scanUp (fun z => ltN z dk[x]!) dk j s = scanUp (fun z => ltN z dk[x]!) dk j i ∧ Blk W b (row dk rest) ∧ Upd [b] w W) (fun s => [(0, slV b n cap), (1, intV' x), (2, intV' y), (10, intV' s), (11, intV' j)]) (fun s => j + 3 - s) i ⟨by omega, by omega, Nat.le_refl _, rfl, g5, g6⟩ ⟨rfl, rfl, rfl, rfl, rfl, trivial⟩ ?_
      rintro s W_1 ⟨s1, s2, s3, s4, s5, s6⟩
      by_cases hsj : s ≤ j
      · refine exec_dw [] rfl rfl rfl ?_
        refine dau rfl (fun _ => rfl) ?_
        refine dau rfl (fun _ => rfl) ?_
        refine dw_val (fun _ => pv_leqI (a := s) (b := j) (q := true) rfl rfl (by simpa using hsj)) ?_
        repeat (first | refine dau rfl (fun _ => rfl) ?_ | refine dga rfl (fun _ => rfl) (fun _ => rfl) ?_ | refine dgs (fun _ => rfl) ?_)
        refine dw_gok _ (fun _ => rfl) (fun vs W' hu _ => (ok_iaddr (b := b) (o := 0) (len := n) (cap := cap) rfl rfl (s) rfl (by omega)).keep _) ?_
        refine dw_gok (u64V dk[s]!) (fun _ => rfl) (fun vs W' hu _ => (ok_load1 (b := b) (o := 0 + (s) * 1) rfl ((s5.upd hu).cell (row_get (by omega)))).keep _) ?_
        repeat (first | refine dau rfl (fun _ => rfl) ?_ | refine dga rfl (fun _ => rfl) (fun _ => rfl) ?_ | refine dgs (fun _ => rfl) ?_)
        refine dw_gok _ (fun _ => rfl) (fun vs W' hu _ => (ok_iaddr (b := b) (o := 0) (len := n) (cap := cap) rfl rfl (x) rfl (by omega)).keep _) ?_
        refine dw_gok (u64V dk[x]!) (fun _ => rfl) (fun vs W' hu _ => (ok_load1 (b := b) (o := 0 + (x) * 1) rfl ((s5.upd hu).cell (row_get (by omega)))).keep _) ?_
        refine dw_end fun vs W_2 hu_2 _ => ?_
        refine xr 1 rfl ?_
        refine xca rfl rfl (less_ok A.h_nan A.h_less dk[s]! dk[x]!) ?_
        rintro v W_3 ⟨rfl, hu_3⟩
        have hu_23 := hu_2.trans hu_3
        refine xr 1 rfl ?_
        refine exec_cond rfl (fun hq => ?_) (fun hq => ?_)
        · refine xr 3 rfl ?_
          refine xpu (pv_addI (a := s) (b := 1) rfl rfl (by omega)) rfl ?_
          refine xr 3 rfl ?_
          refine xag (s + 1) ⟨by omega, by omega, by omega, ?_, s5.upd hu_23, s6.trans hu_23 (by simp)⟩ (by show j + 3 - (s + 1) < j + 3 - s; omega) ⟨rfl, rfl, rfl, rfl, rfl, trivial⟩
          rw [← s4, scanUp_if _ _ _ s, if_pos (by simp only [Bool.and_eq_true, decide_eq_true_eq]; exact ⟨hsj, hq⟩)]
        · refine xr 1 rfl ?_
          refine exec_meet s ⟨s1, s2, s3, ?_, s5.upd hu_23, s6.trans hu_23 (by simp)⟩ ⟨rfl, rfl, rfl, rfl, rfl, trivial⟩
          rw [← s4, scanUp_if _ _ _ s, if_neg (by simp only [Bool.and_eq_true, decide_eq_true_eq]; rintro ⟨_, h⟩; exact Bool.false_ne_true (hq.symm.trans h))]
      · refine exec_dw [] rfl rfl rfl ?_
        refine dau rfl (fun _ => rfl) ?_
        refine dau rfl (fun _ => rfl) ?_
        refine dw_val (fun _ => pv_leqI (a := s) (b := j) (q := false) rfl rfl (by simpa using hsj)) ?_
        repeat (first | refine dau rfl (fun _ => rfl) ?_ | refine dga rfl (fun _ => rfl) (fun _ => rfl) ?_ | refine dgs (fun _ => rfl) ?_)
        refine dw_end fun vs W_2 hu_2 _ => ?_
        refine xr 4 rfl ?_
        refine exec_meet s ⟨s1, s2, s3, ?_, s5.upd hu_2, s6.trans hu_2 (by simp)⟩ ⟨rfl, rfl, rfl, rfl, rfl, trivial⟩
        rw [← s4, scanUp_if _ _ _ s, if_neg (by simp only [Bool.and_eq_true, decide_eq_true_eq]; rintro ⟨h, _⟩; exact hsj h)]
    rintro i2 W1 ⟨u1, u2, u3, u4, u5, u6⟩
    refine xr 1 rfl ?_
    refine exec_inner_join (S := Nat) (fun j2 W => j2 ≤ j ∧ j2 = scanDown (fun z => !ltN z dk[x]!) dk i2 j ∧ Blk W b (row dk rest) ∧ Upd [b] w W) (fun j2 => [(0, slV b n cap), (1, intV' x), (2, intV' y), (10, intV' i2), (11, intV' j2)]) ?_ ?_
    · refine xlo (S := Nat) (fun s W => s ≤ j ∧ scanDown (fun z => !ltN z dk[x]!) dk i2 s = scanDown (fun z => !ltN z dk[x]!) dk i2 j ∧ Blk W b (row dk rest) ∧ Upd [b] w W) (fun s => [(0, slV b n cap), (1, intV' x), (2, intV' y), (10, intV' i2), (11, intV' s)]) (fun s => s) j ⟨Nat.le_refl _, rfl, u5, u6⟩ ⟨rfl, rfl, rfl, rfl, rfl, trivial⟩ ?_
      rintro s W_1 ⟨s1, s4, s5, s6⟩
      by_cases hsj : i2 ≤ s
      · obtain ⟨s, rfl⟩ : ∃ t, s = t + 1 := ⟨s - 1, by omega⟩
        refine exec_dw [] rfl rfl rfl ?_
        refine dau rfl (fun _ => rfl) ?_
        refine dau rfl (fun _ => rfl) ?_
        refine dw_val (fun _ => pv_leqI (a := i2) (b := s + 1) (q := true) rfl rfl (by simpa using hsj)) ?_
        repeat (first | refine dau rfl (fun _ => rfl) ?_ | refine dga rfl (fun _ => rfl) (fun _ => rfl) ?_ | refine dgs (fun _ => rfl) ?_)
        refine dw_gok _ (fun _ => rfl) (fun vs W' hu _ => (ok_iaddr (b := b) (o := 0) (len := n) (cap := cap) rfl rfl (s + 1) rfl (by omega)).keep _) ?_
        refine dw_gok (u64V dk[s + 1]!) (fun _ => rfl) (fun vs W' hu _ => (ok_load1 (b := b) (o := 0 + (s + 1) * 1) rfl ((s5.upd hu).cell (row_get (by omega)))).keep _) ?_
        repeat (first | refine dau rfl (fun _ => rfl) ?_ | refine dga rfl (fun _ => rfl) (fun _ => rfl) ?_ | refine dgs (fun _ => rfl) ?_)
        refine dw_gok _ (fun _ => rfl) (fun vs W' hu _ => (ok_iaddr (b := b) (o := 0) (len := n) (cap := cap) rfl rfl (x) rfl (by omega)).keep _) ?_
        refine dw_gok (u64V dk[x]!) (fun _ => rfl) (fun vs W' hu _ => (ok_load1 (b := b) (o := 0 + (x) * 1) rfl ((s5.upd hu).cell (row_get (by omega)))).keep _) ?_
        refine dw_end fun vs W_2 hu_2 _ => ?_
        refine xr 1 rfl ?_
        refine xca rfl rfl (less_ok A.h_nan A.h_less dk[s + 1]! dk[x]!) ?_
        rintro v W_3 ⟨rfl, hu_3⟩
        have hu_23 := hu_2.trans hu_3
        refine xr 3 rfl ?_
        refine exec_cond rfl (fun hq => ?_) (fun hq => ?_)
        · refine xr 3 rfl ?_
          refine xpu (pv_subI (a := s + 1) (b := 1) rfl rfl (by omega) (by omega)) rfl ?_
          refine xr 3 rfl ?_
          refine xag s ⟨by omega, ?_, s5.upd hu_23, s6.trans hu_23 (by simp)⟩ (by show s < s + 1; omega) ⟨rfl, rfl, rfl, rfl, rfl, trivial⟩
          rw [← s4, scanDown_succ, if_pos (by simp only [Bool.and_eq_true, decide_eq_true_eq]; exact ⟨hsj, hq⟩)]
        · refine xr 1 rfl ?_
          refine exec_meet (s + 1) ⟨s1, ?_, s5.upd hu_23, s6.trans hu_23 (by simp)⟩ ⟨rfl, rfl, rfl, rfl, rfl, trivial⟩
          rw [← s4, scanDown_succ, if_neg (by simp only [Bool.and_eq_true, decide_eq_true_eq]; rintro ⟨_, h⟩; exact Bool.false_ne_true (hq.symm.trans h))]
      · refine exec_dw [] rfl rfl rfl ?_
        refine dau rfl (fun _ => rfl) ?_
        refine dau rfl (fun _ => rfl) ?_
        refine dw_val (fun _ => pv_leqI (a := i2) (b := s) (q := false) rfl rfl (by simpa using hsj)) ?_
        repeat (first | refine dau rfl (fun _ => rfl) ?_ | refine dga rfl (fun _ => rfl) (fun _ => rfl) ?_ | refine dgs (fun _ => rfl) ?_)
        refine dw_end fun vs W_2 hu_2 _ => ?_
        refine xr 5 rfl ?_
        refine exec_meet s ⟨s1, ?_, s5.upd hu_2, s6.trans hu_2 (by simp)⟩ ⟨rfl, rfl, rfl, rfl, rfl, trivial⟩
        rw [← s4]
        cases s with
        | zero => rfl
        | succ s => rw [scanDown_succ, if_neg (by simp only [Bool.and_eq_true, decide_eq_true_eq]; rintro ⟨h, _⟩; exact hsj h)]
    rintro j2 W2 ⟨v1, v4, v5, v6⟩
    refine xr 2 rfl ?_
    by_cases hij : j2 < i2
    · refine xpu (pv_gtrI (a := i2) (b := j2) (q := true) rfl rfl (by simpa using hij)) rfl ?_
      refine xr 3 rfl ?_
      refine exec_dws [b] 13 (fun W => Blk W b (splice (row dk rest) (0 + j2 * 1) (Value.cells (u64V dk[x]!)).toList)) (fun W W' h hu => h.upd hu) rfl rfl rfl ?_
      repeat (first | refine ws_auto rfl rfl rfl ?_ | refine ws_gauto rfl rfl rfl rfl ?_ | refine wgs rfl rfl ?_)
      refine ws_any _ rfl (fun W => ok_iaddr (b := b) (o := 0) (len := n) (cap := cap) rfl rfl (x) rfl (by omega)) ?_
      refine ws_ok (u64V dk[x]!) rfl rfl (fun W hu => ok_load1 (b := b) (o := 0 + (x) * 1) rfl ((v5.upd hu).cell (row_get (by omega)))) ?_
      repeat (first | refine ws_auto rfl rfl rfl ?_ | refine ws_gauto rfl rfl rfl rfl ?_ | refine wgs rfl rfl ?_)
      refine ws_any _ rfl (fun W => ok_iaddr (b := b) (o := 0) (len := n) (cap := cap) rfl rfl (j2) rfl (by omega)) ?_
      refine ws_ok (u64V dk[j2]!) rfl rfl (fun W hu => ok_load1 (b := b) (o := 0 + (j2) * 1) rfl ((v5.upd hu).cell (row_get (by omega)))) ?_
      refine ws_any _ rfl (fun W => ok_iaddr (b := b) (o := 0) (len := n) (cap := cap) rfl rfl (j2) rfl (by omega)) ?_
      refine ws_store rfl rfl rfl v5 rfl (by rw [row_length]; omega) rfl (by simp) (fun W h => h) ?_
      refine ws_end fun W_a hu_a hW_a => ?_
      refine xju (ok_iaddr (b := b) (o := 0) (len := n) (cap := cap) rfl rfl (x) rfl (by omega)) rfl ?_
      refine exec_store (b := b) (o := 0 + (x) * 1) (v := u64V dk[j2]!) rfl rfl (hW_a rfl) rfl (by rw [row_set (by omega), row_length]; simp; omega) rfl ?_
      intro W3 hu_b _ hB3
      rw [row_swp (by omega) (by omega)] at hB3
      have hu3 := hu_a.trans hu_b (by simp)
      refine xr 3 rfl ?_
      refine xre hc [_, _] ⟨rfl, rfl, trivial⟩ ?_
      rw [← u4, ← v4, if_pos hij] at gE
      rw [hres, ← gE]
      exact ⟨rfl, hB3, v6.trans hu3 (by simp)⟩
    · refine xpu (pv_gtrI (a := i2) (b := j2) (q := false) rfl rfl (by simpa using hij)) rfl ?_
      refine xr 2 rfl ?_
      refine exec_dws [b] 13 (fun W => Blk W b (splice (row dk rest) (0 + i2 * 1) (Value.cells (u64V dk[j2]!)).toList)) (fun W W' h hu => h.upd hu) rfl rfl rfl ?_
      repeat (first | refine ws_auto rfl rfl rfl ?_ | refine ws_gauto rfl rfl rfl rfl ?_ | refine wgs rfl rfl ?_)
      refine ws_any _ rfl (fun W => ok_iaddr (b := b) (o := 0) (len := n) (cap := cap) rfl rfl (j2) rfl (by omega)) ?_
      refine ws_ok (u64V dk[j2]!) rfl rfl (fun W hu => ok_load1 (b := b) (o := 0 + (j2) * 1) rfl ((v5.upd hu).cell (row_get (by omega)))) ?_
      repeat (first | refine ws_auto rfl rfl rfl ?_ | refine ws_gauto rfl rfl rfl rfl ?_ | refine wgs rfl rfl ?_)
      refine ws_any _ rfl (fun W => ok_iaddr (b := b) (o := 0) (len := n) (cap := cap) rfl rfl (i2) rfl (by omega)) ?_
      refine ws_ok (u64V dk[i2]!) rfl rfl (fun W hu => ok_load1 (b := b) (o := 0 + (i2) * 1) rfl ((v5.upd hu).cell (row_get (by omega)))) ?_
      refine ws_any _ rfl (fun W => ok_iaddr (b := b) (o := 0) (len := n) (cap := cap) rfl rfl (i2) rfl (by omega)) ?_
      refine ws_store rfl rfl rfl v5 rfl (by rw [row_length]; omega) rfl (by simp) (fun W h => h) ?_
      refine ws_end fun W_a hu_a hW_a => ?_
      refine xju (ok_iaddr (b := b) (o := 0) (len := n) (cap := cap) rfl rfl (j2) rfl (by omega)) rfl ?_
      refine exec_store (b := b) (o := 0 + (j2) * 1) (v := u64V dk[i2]!) rfl rfl (hW_a rfl) rfl (by rw [row_set (by omega), row_length]; simp; omega) rfl ?_
      intro W3 hu_b _ hB3
      rw [row_swp (by omega) (by omega)] at hB3
      have hu3 := hu_a.trans hu_b (by simp)
      refine xr 1 rfl ?_
      refine xpu (pv_addI (a := i2) (b := 1) rfl rfl (by omega)) rfl ?_
      refine xr 2 rfl ?_
      refine xpu (pv_subI (a := j2) (b := 1) rfl rfl (by omega) (by omega)) rfl ?_
      refine xr 3 rfl ?_
      refine xag (i2 + 1, j2 - 1, swp dk i2 j2) ⟨by show x < i2 + 1; omega, by show i2 + 1 ≤ j2 - 1 + 2; omega, by show j2 - 1 < y; omega, by rw [swp_size]; exact g4, ?_, hB3, v6.trans hu3 (by simp)⟩ (by show j2 - 1 + 3 - (i2 + 1) < j + 3 - i; omega) ⟨rfl, rfl, rfl, rfl, rfl, trivial⟩
      rw [← u4, ← v4, if_neg hij] at gE
      exact gE
end
end Go.Sp
