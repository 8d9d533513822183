/- spinneylaw14.ForestMoves returns true for every input, and its arguments read afterwards as before: the card. No condition. This text: part 8 of 10. -/
import Derived.Test.YtgkfgclebdikgaaGreatDoorW7
set_option linter.unusedVariables false
set_option linter.unusedSimpArgs false
set_option linter.unusedSectionVars false
namespace Go.Sp
def zipL (all : List Hash) (live : List Bool) : List (Option Hash) := List.zipWith (fun h b => if b = true then some h else none) all live
def nextLive (del all : List Hash) (live : List Bool) : List Bool := List.zipWith (fun h b => b && !hasB del h) all live
theorem nextLive_len {del all : List Hash} {live : List Bool} (h : all.length = live.length) : (nextLive del all live).length = live.length := by simp [nextLive, h]
theorem zipL_len {all : List Hash} {live : List Bool} (h : all.length = live.length) : (zipL all live).length = all.length := by simp [zipL, h]
theorem goneL_zip (del : List Hash) : ∀ (all : List Hash) (live : List Bool), goneL del (zipL all live) = zipL all (nextLive del all live) := by
  intro all
  induction all with
  | nil => intro live; rfl
  | cons h all ih =>
    intro live
    cases live with
    | nil => rfl
    | cons b live =>
      have := ih live
      simp only [goneL, zipL, nextLive, List.zipWith_cons_cons, List.map_cons] at this ⊢
      rw [this]
      congr 1
      cases b with
      | false => rfl
      | true =>
        simp only [if_true, Bool.true_and, Option.filter]
        by_cases hd : h ∈ del
        · simp [hd, hasB_iff.2 hd]
        · have : hasB del h = false := by
            cases hb : hasB del h with
            | false => rfl
            | true => exact absurd (hasB_iff.1 hb) hd
          simp [hd, this]
theorem zipL_append {all all' : List Hash} {live live' : List Bool} (h : all.length = live.length) : zipL (all ++ all') (live ++ live') = zipL all live ++ zipL all' live' := List.zipWith_append h
theorem zipL_true : ∀ (add : List Hash), zipL add (add.map fun _ => true) = add.map some := by
  intro add
  induction add with
  | nil => rfl
  | cons a add ih =>
    simp only [zipL, List.map_cons, List.zipWith_cons_cons] at ih ⊢
    rw [ih]; simp
theorem modL_zip {del add all : List Hash} {live : List Bool} (h : all.length = live.length) : modL del add (zipL all live) = zipL (all ++ add) (nextLive del all live ++ add.map fun _ => true) := by
  rw [modL, goneL_zip, zipL_append (by rw [nextLive_len h, h]), zipL_true]
/-- steps, where they lie -/
def ActsAt (w : World) (v : Value) (l : List (List Hash × List Hash)) : Prop := ∃ cs, SlC w v 3 l.length cs ∧ ∀ (i : Nat) (a : List Hash × List Hash), l[i]? = some a → ∃ x dv av, cs[i * 3]? = some x ∧ cs[i * 3 + 1]? = some dv ∧ cs[i * 3 + 2]? = some av ∧
  SlC w dv 32 a.1.length (hs a.1) ∧ SlC w av 32 a.2.length (hs a.2)
theorem hs_strange {w : World} {v : Value} {l : List Hash} (h : OwnC w v 32 l.length (hs l)) (hn : l = [] → v = .slice none 0 0) : Foreign w (blkOf v) := by
  rcases h with ⟨rfl, _⟩ | ⟨b, cap, rest, rfl, hB, _, hl, _⟩
  · exact Foreign.nil w
  · refine Foreign.cons (Foreign.blk hB ?_) (Foreign.nil w)
    cases l with
    | nil => cases hn rfl
    | cons a l =>
      obtain ⟨n, hh⟩ := hC_head a (hs l ++ rest)
      have e : hs (a :: l) ++ rest = hC a ++ (hs l ++ rest) := by simp [hs]
      rw [e] at hl ⊢
      refine ⟨fun h => ?_, fun ⟨⟨q, h⟩, _⟩ => ?_⟩
      · omega
      · rw [hh] at h; cases h
theorem bs_strange {w : World} {v : Value} {l : List Bool} (h : OwnC w v 1 l.length (l.map .bool)) (hn : l = [] → v = .slice none 0 0) : Foreign w (blkOf v) := by
  rcases h with ⟨rfl, _⟩ | ⟨b, cap, rest, rfl, hB, _, hl, _⟩
  · exact Foreign.nil w
  · refine Foreign.cons (Foreign.blk hB ?_) (Foreign.nil w)
    cases l with
    | nil => cases hn rfl
    | cons a l => exact Strange.head (by simp) (by simp)
def mixB (nl live : List Bool) (k : Nat) : List Bool := nl.take k ++ live.drop k
theorem mixB_len {nl live : List Bool} {k : Nat} (h : nl.length = live.length) : (mixB nl live k).length = live.length := by
  simp [mixB]; omega
theorem mixB_get {nl live : List Bool} {k : Nat} {b : Bool} (h : nl.length = live.length) (hk : live[k]? = some b) : (mixB nl live k)[k]? = some b := by
  have hlt := (List.getElem?_eq_some_iff.1 hk).1
  have : (nl.take k).length = k := by simp; omega
  rw [mixB, List.getElem?_append_right (by omega), this, Nat.sub_self, List.getElem?_drop]; exact hk
theorem mixB_next {nl live : List Bool} {k : Nat} {b : Bool} (h : nl.length = live.length) (hk : nl[k]? = some b) : (mixB nl live k).set k b = mixB nl live (k + 1) := by
  have hlt := (List.getElem?_eq_some_iff.1 hk).1
  have hl : (nl.take k).length = k := by simp; omega
  rw [mixB, mixB, List.take_add_one, hk, List.set_append_right _ _ (by omega), hl, Nat.sub_self]
  have : live.drop k = live[k]'(by omega) :: live.drop (k + 1) := List.drop_eq_getElem_cons (by omega)
  rw [this, List.set_cons_zero, List.append_assoc]; rfl
theorem mixB_zero (nl live : List Bool) : mixB nl live 0 = live := by simp [mixB]
theorem mixB_all {nl live : List Bool} (h : nl.length = live.length) : mixB nl live live.length = nl := by
  rw [mixB, List.drop_length, List.append_nil, List.take_of_length_le (by omega)]
theorem nextLive_get {del all : List Hash} {live : List Bool} {k : Nat} {h : Hash} {b : Bool} (h1 : all[k]? = some h) (h2 : live[k]? = some b) : (nextLive del all live)[k]? = some (b && !hasB del h) := by
  rw [nextLive, List.getElem?_zipWith, h1, h2]
/-- a bool written into a list of one's own -/
theorem OwnC.put {w w' : World} {b cap n k : Nat} {l : List Bool} {x : Bool} (h : OwnC w (.slice (some ⟨b, 0, none⟩) n cap) 1 n (l.map .bool)) (hk : k < l.length)
    (hB : ∀ cs, Blk w b cs → Blk w' b (splice cs (0 + k * 1) [.bool x])) : OwnC w' (.slice (some ⟨b, 0, none⟩) n cap) 1 n ((l.set k x).map .bool) := by
  rcases h with ⟨h, _⟩ | ⟨b', cap', rest, hv, hBl, h1, h2, h3⟩
  · cases h
  · cases hv
    refine .inr ⟨b, cap, rest, rfl, ?_, ?_, ?_, h3⟩
    · have := hB _ hBl
      rw [splice_one _ _ _ (by simp; omega), Nat.zero_add, Nat.mul_one, List.set_append_left _ _ (by simpa using hk), ← List.map_set] at this
      exact this
    · simpa using h1
    · simpa using h2
theorem Foreign.append {w : World} {l l' : List Nat} (h : Foreign w l) (h' : Foreign w l') : Foreign w (l ++ l') := fun b hb => by
  rcases List.mem_append.1 hb with hb | hb
  · exact h b hb
  · exact h' b hb
/-- the functions of the laws, on -/
structure LawH (P : Program) extends LawG P where
  told : Nat
  TT1 : Nat
  TT2 : Nat
  h_told : Has P told (b_spinneylaw14_told new' cut modify has TT1 TH TT2)
/-- what told has gathered -/
structure Told (W : World) (n0 p m : Nat) (k : Nat) (s : Fo) (all : List Hash) (live : List Bool) (av lv' : Value) : Prop where
  f : FAt W p m s
  turns : s.turns ≤ k
  len : all.length ≤ 10 * k
  eq : all.length = live.length
  L : s.L = zipL all live
  oa : OwnC W av 32 all.length (hs all)
  ol : OwnC W lv' 1 live.length (live.map .bool)
  na : all = [] → av = .slice none 0 0 ∧ lv' = .slice none 0 0
  ba : ∀ b ∈ blkOf av, n0 ≤ b ∧ b ≠ p ∧ b ≠ m ∧ b ∉ blkOf lv'
  bl : ∀ b ∈ blkOf lv', n0 ≤ b ∧ b ≠ p ∧ b ≠ m ∧ b ∉ blkOf av
theorem Told.ext {W W' : World} {n0 p m k : Nat} {s : Fo} {all : List Hash} {live : List Bool} {av lv' : Value} (h : Told W n0 p m k s all live av lv') (hu : Ext W W') : Told W' n0 p m k s all live av lv' :=
  ⟨h.f.ext hu, h.turns, h.len, h.eq, h.L, h.oa.upd hu (by simp), h.ol.upd hu (by simp), h.na, h.ba, h.bl⟩
theorem Told.mono {W : World} {n0 p m k k' : Nat} {s : Fo} {all : List Hash} {live : List Bool} {av lv' : Value} (h : Told W n0 p m k s all live av lv') (hk : k ≤ k') : Told W n0 p m k' s all live av lv' :=
  ⟨h.f, Nat.le_trans h.turns hk, Nat.le_trans h.len (Nat.mul_le_mul_left 10 hk), h.eq, h.L, h.oa, h.ol, h.na, h.ba, h.bl⟩
section
variable {P : Program} {f : Nat} {w : World}
theorem ActsAt.at' {v : Value} {l : List (List Hash × List Hash)} {i : Nat} {a : List Hash × List Hash} (h : ActsAt w v l) (hi : l[i]? = some a) : ∃ b o cap x dv av, v = .slice (some ⟨b, o, none⟩) l.length cap ∧ i < l.length ∧ Mem w b (o + i * 3) [x, dv, av] ∧
    SlC w dv 32 a.1.length (hs a.1) ∧ SlC w av 32 a.2.length (hs a.2) := by
  obtain ⟨cs, hS, hall⟩ := h
  have hlt := (List.getElem?_eq_some_iff.1 hi).1
  obtain ⟨x, dv, av, g0, g1, g2, h1, h2⟩ := hall i a hi
  obtain ⟨b, o, cap, hv, hm, _⟩ := hS.at (by omega)
  refine ⟨b, o, cap, x, dv, av, hv, hlt, hm.sub (i * 3) (us := [x, dv, av]) (fun k y hk => ?_), h1, h2⟩
  match k, hk with
  | 0, hk => cases hk; exact g0
  | 1, hk => cases hk; exact g1
  | 2, hk => cases hk; exact g2
set_option maxHeartbeats 1600000 in
theorem told_ok (A : LawH P) (hT : Tabs A.toShaF w) {v : Value} {l : List (List Hash × List Hash)} (hl : ActsAt w v l) :
    Ret P A.told [v] w fun r w' => ∃ p m s all live av lv', r = .tuple #[ptrV p, av, lv'] ∧ w.heap.size ≤ p ∧ w.heap.size ≤ m ∧ Told w' w.heap.size p m 12 s all live av lv' ∧ Ext w w' := by
  refine Ret.of_exec A.h_told (Nat.le_of_ble_eq_true rfl) fun c hc => ?_
  dsimp only [b_spinneylaw14_told, argEnv, ym, yo, yg, ys, yt, yd, ye]
  refine xr 3 rfl ?_
  refine xca rfl rfl (new_ok A.toForM) ?_
  rintro _ w1 ⟨p, m, rfl, hp, hm, hF, hu1⟩
  refine xr 5 rfl ?_
  have hlenS : ∃ cs, SlC w v 3 l.length cs := let ⟨cs, h, _⟩ := hl; ⟨cs, h⟩
  obtain ⟨lcs, hLS⟩ := hlenS
  refine exec_inner_join (S := Fo × List Hash × List Bool × Value × Value) (fun st W => Told W w.heap.size p m 12 st.1 st.2.1 st.2.2.1 st.2.2.2.1 st.2.2.2.2 ∧ Ext w W)
    (fun st => [(5, ptrV p), (6, st.2.2.2.1), (7, st.2.2.2.2)]) ?_ ?_
  rotate_left
  · rintro ⟨s, all, live, av, lv'⟩ W ⟨h1, h2⟩
    refine xr 6 rfl ?_
    exact xre hc [_, _, _] ⟨rfl, rfl, rfl, trivial⟩ ⟨p, m, s, all, live, av, lv', rfl, hp, hm, h1, h2⟩
  refine xlo (S := Nat × Fo × List Hash × List Bool × Value × Value) (fun st W => st.1 ≤ 12 ∧ Told W w.heap.size p m st.1 st.2.1 st.2.2.1 st.2.2.2.1 st.2.2.2.2.1 st.2.2.2.2.2 ∧ Ext w W)
    (fun st => [(0, v), (5, ptrV p), (6, st.2.2.2.2.1), (7, st.2.2.2.2.2), (8, intV' st.1)]) (fun st => 12 - st.1) (0, ⟨[], 0, 0⟩, [], [], .slice none 0 0, .slice none 0 0)
    ⟨by show 0 ≤ 12; omega, ⟨hF, Nat.le_refl _, Nat.le_refl _, rfl, rfl, .inl ⟨rfl, rfl, rfl⟩, .inl ⟨rfl, rfl, rfl⟩, fun _ => ⟨rfl, rfl⟩, by simp [blkOf], by simp [blkOf]⟩, hu1⟩ ⟨rfl, rfl, rfl, rfl, rfl, trivial⟩ ?_
  rintro ⟨i, s, all, live, av, lv'⟩ W ⟨i1, hTo, hwW⟩
  simp only at i1 hTo
  refine xtm rfl rfl rfl ?_
  refine xtm rfl rfl rfl ?_
  refine xpu (hLS.lenS rfl) rfl ?_
  by_cases hil : i < l.length
  case neg =>
    refine xpu (pv_lssI (a := i) (b := l.length) (q := false) rfl rfl (by simpa using hil)) rfl ?_
    refine xr 6 rfl ?_
    refine exec_meet (s, all, live, av, lv') ⟨hTo.mono i1, hwW⟩ ⟨rfl, rfl, rfl, trivial⟩
  refine xpu (pv_lssI (a := i) (b := l.length) (q := true) rfl rfl (by simpa using hil)) rfl ?_
  refine xr 4 rfl ?_
  by_cases hi12 : i < 12
  case neg =>
    refine xpu (pv_lssI (a := i) (b := 12) (q := false) rfl rfl (by simpa using hi12)) rfl ?_
    refine xr 3 rfl ?_
    refine exec_meet (s, all, live, av, lv') ⟨hTo.mono i1, hwW⟩ ⟨rfl, rfl, rfl, trivial⟩
  refine xpu (pv_lssI (a := i) (b := 12) (q := true) rfl rfl (by simpa using hi12)) rfl ?_
  refine xr 4 rfl ?_
  obtain ⟨⟨del, add⟩, hai⟩ : ∃ a, l[i]? = some a := ⟨_, List.getElem?_eq_getElem hil⟩
  obtain ⟨bl, ol, cl, x, dv, ad, hv, _, hml, hSd, hSa⟩ := hl.at' hai
  simp only at hSd hSa
  refine xen [(0, v), (5, ptrV p), (6, av), (7, lv'), (8, intV' i)] ⟨rfl, rfl, rfl, rfl, rfl, trivial⟩ ?_
  refine exec_dwr rfl rfl rfl ?_
  repeat (first | refine wtm rfl rfl rfl ?_ | refine wgt rfl rfl rfl rfl ?_ | refine wgs rfl rfl ?_)
  refine ws_keep _ rfl (fun X hx => ok_iaddr (N := 3) (b := bl) (o := ol) (len := l.length) (cap := cl) (by rw [← hv]; rfl) rfl i rfl hil) ?_
  repeat (first | refine wtm rfl rfl rfl ?_ | refine wgt rfl rfl rfl rfl ?_ | refine wgs rfl rfl ?_)
  refine ws_keep dv rfl (fun X hx => ok_load1 (b := bl) (o := ol + i * 3 + 1) rfl ((hml.upd (hwW.trans hx) (by simp)) 1 dv rfl)) ?_
  refine ws_ext (cutV dv del) rfl (fun X hx => ok_call rfl (cut_ok A.toLawF (hSd.upd (hwW.trans hx) (by simp)))) ?_
  repeat (first | refine wtm rfl rfl rfl ?_ | refine wgt rfl rfl rfl rfl ?_ | refine wgs rfl rfl ?_)
  refine ws_keep _ rfl (fun X hx => ok_iaddr (N := 3) (b := bl) (o := ol) (len := l.length) (cap := cl) (by rw [← hv]; rfl) rfl i rfl hil) ?_
  repeat (first | refine wtm rfl rfl rfl ?_ | refine wgt rfl rfl rfl rfl ?_ | refine wgs rfl rfl ?_)
  refine ws_keep ad rfl (fun X hx => ok_load1 (b := bl) (o := ol + i * 3 + 2) rfl ((hml.upd (hwW.trans hx) (by simp)) 2 ad rfl)) ?_
  refine ws_fin fun w2 hw2 => ?_
  refine xca rfl rfl (cut_ok A.toLawF (hSa.upd (hwW.trans hw2) (by simp))) ?_
  rintro _ w3 ⟨rfl, hu3⟩
  refine xr 5 rfl ?_
  have hW3 : Ext W w3 := hw2.trans hu3
  have hE3 : Ext w w3 := hwW.trans hW3
  have hTo3 := hTo.ext hW3
  refine xen [(0, v), (5, ptrV p), (6, av), (7, lv'), (8, intV' i), (9, cutV dv del), (10, cutV ad add), (39, ptrV p), (40, cutV dv del), (41, cutV ad add)] ⟨rfl, rfl, rfl, rfl, rfl, rfl, rfl, rfl, rfl, rfl, trivial⟩ ?_
  have hSd3 := cutV_sl (hSd.upd hE3 (by simp))
  have hSa3 := cutV_sl (hSa.upd hE3 (by simp))
  have hlen3 : s.L.length ≤ 120 := by rw [hTo.L, zipL_len hTo.eq]; have := hTo.len; omega
  have hd10 : (del.take 10).length ≤ 10 := by rw [List.length_take]; omega
  have ha10 : (add.take 10).length ≤ 10 := by rw [List.length_take]; omega
  have htu := hTo.turns
  have hT3 := hT.upd hE3
  refine xca rfl rfl (modify_ok A.toForL hT3 hTo3.f hSd3 hSa3 (by omega) (by omega) (by omega)) ?_
  rintro _ w4 hcase
  have ht3 := hTo3.f.tabs hT3
  have zE3 := hE3.size
  have hE4 : Ext w w4 := by
    rcases hcase with ⟨_, _, _, h⟩ | ⟨_, _, _, _, _, h⟩
    · exact hE3.trans h
    · exact hE3.trans h (fun b hb => .inr (by simp at hb; rcases hb with rfl | rfl <;> omega))
  rcases hcase with ⟨e, rfl, hR, hu4⟩ | ⟨u, rfl, hGr, hF4, hU4, hu4⟩
  · refine xr 3 rfl ?_
    refine exec_new_store (v := .agg undoZ.toArray) rfl rfl rfl rfl rfl rfl ?_
    intro b11 w5 hb11 hs5 hu5 hB11
    have he0 : e ≠ 0 := by rcases hR with ⟨rfl, _⟩ | ⟨rfl, _⟩ | ⟨rfl, _⟩ <;> omega
    refine xr 2 rfl ?_
    refine xpu (pv_neqI (a := e) (b := 0) (q := true) rfl rfl (by simpa using he0)) rfl ?_
    refine xr 4 rfl ?_
    refine xpu (pv_addI (a := i) (b := 1) rfl rfl (by omega)) rfl ?_
    refine xr 1 rfl ?_
    exact xag (i + 1, s, all, live, av, lv') ⟨hi12, ((hTo3.ext hu4).ext hu5).mono (Nat.le_succ _), hE4.trans hu5⟩ (by show 12 - (i + 1) < 12 - i; omega) ⟨rfl, rfl, rfl, rfl, rfl, trivial⟩
  · refine xr 3 rfl ?_
    refine exec_new_store (v := u) rfl rfl rfl hU4.cells.1 rfl hU4.cells.2 ?_
    intro b11 w5 hb11 hs5 hu5 hB11
    refine xr 2 rfl ?_
    refine xpu (pv_neqI (a := 0) (b := 0) (q := false) rfl rfl rfl) rfl ?_
    refine xr 4 rfl ?_
    have hF5 := hF4.ext hu5
    have hE5 := hE4.trans hu5
    have hoa5 : OwnC w5 av 32 all.length (hs all) := (hTo3.oa.upd hu4 (fun b hb => by have := hTo3.ba b hb; simp; omega)).upd hu5 (by simp)
    have hol5 : OwnC w5 lv' 1 live.length (live.map .bool) := (hTo3.ol.upd hu4 (fun b hb => by have := hTo3.bl b hb; simp; omega)).upd hu5 (by simp)
    refine xen [(0, v), (5, ptrV p), (6, av), (7, lv'), (8, intV' i), (9, cutV dv del), (10, cutV ad add), (13, intV' 0)] ⟨rfl, rfl, rfl, rfl, rfl, rfl, rfl, rfl, trivial⟩ ?_
    have heq := hTo.eq
    have hal := hTo.len
    have hnl := nextLive_len (del := del.take 10) heq
    refine xlo (S := Nat) (fun k W => k ≤ live.length ∧ OwnC W lv' 1 live.length ((mixB (nextLive (del.take 10) all live) live k).map .bool) ∧ Upd (blkOf lv') w5 W)
      (fun k => [(0, v), (5, ptrV p), (6, av), (7, lv'), (8, intV' i), (9, cutV dv del), (10, cutV ad add), (13, intV' k)]) (fun k => live.length - k) 0
      ⟨Nat.zero_le _, by rw [mixB_zero]; exact hol5, Upd.refl _ _⟩ ⟨rfl, rfl, rfl, rfl, rfl, rfl, rfl, rfl, trivial⟩ ?_
    rintro k X ⟨k1, kO, kU⟩
    have zE5 := hE5.size
    have hwX : Ext w X := hE5.trans kU (fun b hb => .inr (hTo3.bl b hb).1)
    have koa : OwnC X av 32 all.length (hs all) := hoa5.upd kU (fun b hb => (hTo3.ba b hb).2.2.2)
    refine xtm rfl rfl rfl ?_
    refine xtm rfl rfl rfl ?_
    refine xpu (koa.sl.lenS rfl) rfl ?_
    by_cases hk : k < all.length
    · refine xpu (pv_lssI (a := k) (b := all.length) (q := true) rfl rfl (by simpa using hk)) rfl ?_
      refine xr 7 rfl ?_
      obtain ⟨hh, hhk⟩ : ∃ h, all[k]? = some h := ⟨_, List.getElem?_eq_getElem hk⟩
      obtain ⟨bk, hbk⟩ : ∃ b, live[k]? = some b := ⟨_, List.getElem?_eq_getElem (by omega)⟩
      have kO0 := kO
      have hl0 := mixB_len (k := k) hnl
      rcases kO0 with ⟨_, h0, _⟩ | ⟨bb, cap, rest, rfl, hBb, ho1, ho2, ho3⟩
      · omega
      refine xju (ok_iaddr (N := 1) (b := bb) (o := 0) (len := live.length) (cap := cap) rfl rfl k rfl (by omega)) rfl ?_
      have hcell : ((mixB (nextLive (del.take 10) all live) live k).map Value.bool ++ rest)[0 + k * 1]? = some (.bool bk) := by
        rw [Nat.zero_add, Nat.mul_one, List.getElem?_append_left (by simp; omega), List.getElem?_map, mixB_get hnl hbk]; rfl
      refine exec_load1 (b := bb) (o := 0 + k * 1) rfl rfl (hBb.cell hcell) ?_
      refine xr 1 rfl ?_
      have next : ∀ (en : Env), Env.sub [(0, v), (5, ptrV p), (6, av), (7, .slice (some ⟨bb, 0, none⟩) live.length cap), (8, intV' i), (9, cutV dv del), (10, cutV ad add), (13, intV' k), (53, .slice (some ⟨bb, 0, none⟩) live.length cap), (54, intV' k), (67, .bool (bk && !hasB (del.take 10) hh))] en →
          ∀ X2, Ext X X2 → ∀ is K, (∀ X3 en3, Env.sub [(0, v), (5, ptrV p), (6, av), (7, .slice (some ⟨bb, 0, none⟩) live.length cap), (8, intV' i), (9, cutV dv del), (10, cutV ad add), (13, intV' k)] en3 →
            OwnC X3 (.slice (some ⟨bb, 0, none⟩) live.length cap) 1 live.length ((mixB (nextLive (del.take 10) all live) live (k + 1)).map .bool) → Upd [bb] w5 X3 → Exec P 88 c [] is K en3 X3) →
            Exec P 88 c [] (.op none (some 68) (.iaddr 1 (.tmp 53) (.tmp 54)) :: .op none none (.store 1 (.tmp 68) (.tmp 67)) :: is) K en X2 := by
        intro en hen X2 hX2 is K hK
        refine xen _ hen ?_
        refine xju (ok_iaddr (N := 1) (b := bb) (o := 0) (len := live.length) (cap := cap) rfl rfl k rfl (by omega)) rfl ?_
        refine exec_store (b := bb) (o := 0 + k * 1) (v := .bool (bk && !hasB (del.take 10) hh)) rfl rfl (hBb.upd hX2) rfl (by simp; omega) rfl ?_
        intro X3 hX3 _ hB3
        refine hK X3 _ ⟨rfl, rfl, rfl, rfl, rfl, rfl, rfl, rfl, trivial⟩ ?_ ((kU.trans hX2).trans hX3 (by simp [blkOf]))
        have := (kO.upd hX2 (by simp)).put (w' := X3) (k := k) (x := bk && !hasB (del.take 10) hh) (by omega) (fun cs hcs => by rw [blk_inj hcs (hBb.upd hX2)]; exact hB3)
        rw [mixB_next hnl (nextLive_get hhk hbk)] at this
        exact this
      cases bk with
      | false =>
        refine xr 8 rfl ?_
        refine next _ ⟨rfl, rfl, rfl, rfl, rfl, rfl, rfl, rfl, rfl, rfl, rfl, trivial⟩ X (Upd.refl _ _) _ _ ?_
        intro X3 en3 hen3 hO3 hU3
        refine xen _ hen3 ?_
        refine xr 3 rfl ?_
        refine xpu (pv_addI (a := k) (b := 1) rfl rfl (by omega)) rfl ?_
        refine xr 1 rfl ?_
        exact xag (k + 1) ⟨by show k + 1 ≤ live.length; omega, hO3, hU3⟩ (by show live.length - (k + 1) < live.length - k; omega) ⟨rfl, rfl, rfl, rfl, rfl, rfl, rfl, rfl, trivial⟩
      | true =>
        refine xr 7 rfl ?_
        obtain ⟨ba, oa, ca, hav, _, hma⟩ := hs_at koa.sl hhk
        refine xju (ok_iaddr (N := 32) (b := ba) (o := oa) (len := all.length) (cap := ca) (by rw [← hav]; rfl) rfl k rfl hk) rfl ?_
        refine xgr rfl ?_
        refine exec_loadN (b := ba) (o := oa + k * 32) (vs := hC hh) rfl rfl hma (hC_length _) ?_
        refine xgr rfl ?_
        refine xca rfl rfl (has_ok A.toLawF (cutV_sl (hSd.upd hwX (by simp))) (by omega) hh) ?_
        rintro _ X2 ⟨rfl, hX2⟩
        refine xr 3 rfl ?_
        refine next _ ⟨rfl, rfl, rfl, rfl, rfl, rfl, rfl, rfl, rfl, rfl, rfl, trivial⟩ X2 hX2 _ _ ?_
        intro X3 en3 hen3 hO3 hU3
        refine xen _ hen3 ?_
        refine xr 3 rfl ?_
        refine xpu (pv_addI (a := k) (b := 1) rfl rfl (by omega)) rfl ?_
        refine xr 1 rfl ?_
        exact xag (k + 1) ⟨by show k + 1 ≤ live.length; omega, hO3, hU3⟩ (by show live.length - (k + 1) < live.length - k; omega) ⟨rfl, rfl, rfl, rfl, rfl, rfl, rfl, rfl, trivial⟩
    · refine xpu (pv_lssI (a := k) (b := all.length) (q := false) rfl rfl (by simpa using hk)) rfl ?_
      have : k = live.length := by omega
      subst this
      rw [mixB_all hnl] at kO
      refine xr 5 rfl ?_
      refine xen [(0, v), (5, ptrV p), (6, av), (7, lv'), (8, intV' i), (10, cutV ad add), (14, intV' 0)] ⟨rfl, rfl, rfl, rfl, rfl, rfl, rfl, trivial⟩ ?_
      have hlX := hs_strange koa (fun h => (hTo3.na h).1)
      have hF : FAt X p m _ := hF5.upd kU (bs_strange hol5 fun h => (hTo3.na (by cases all with
        | nil => rfl
        | cons a r => rw [h] at heq; simp at heq)).2) (fun h => (hTo3.bl p h).2.1 rfl) (fun h => (hTo3.bl m h).2.2.1 rfl)
      generalize hnle : nextLive (del.take 10) all live = nl at *
      refine xlo (S := Nat × Value × Value) (fun st W => st.1 ≤ (add.take 10).length ∧ OwnC W st.2.1 32 (all ++ (add.take 10).take st.1).length (hs (all ++ (add.take 10).take st.1)) ∧
          OwnC W st.2.2 1 (nl ++ ((add.take 10).take st.1).map fun _ => true).length ((nl ++ ((add.take 10).take st.1).map fun _ => true).map .bool) ∧ Upd (blkOf av ++ blkOf lv') X W ∧
          (∀ b ∈ blkOf st.2.1, (b ∈ blkOf av ∨ X.heap.size ≤ b) ∧ b ∉ blkOf st.2.2) ∧ (∀ b ∈ blkOf st.2.2, (b ∈ blkOf lv' ∨ X.heap.size ≤ b) ∧ b ∉ blkOf st.2.1) ∧ (all ++ (add.take 10).take st.1 = [] → st.2.1 = .slice none 0 0 ∧ st.2.2 = .slice none 0 0))
        (fun st => [(0, v), (5, ptrV p), (6, st.2.1), (7, st.2.2), (8, intV' i), (10, cutV ad add), (14, intV' st.1)]) (fun st => (add.take 10).length - st.1) (0, av, lv')
        ⟨Nat.zero_le _, by simpa using koa, by simpa [hnl] using kO, Upd.refl _ _, fun b hb => ⟨.inl hb, (hTo3.ba b hb).2.2.2⟩, fun b hb => ⟨.inl hb, (hTo3.bl b hb).2.2.2⟩, fun h => hTo3.na (by simpa using h)⟩ ⟨rfl, rfl, rfl, rfl, rfl, rfl, rfl, trivial⟩ ?_
      rintro ⟨j, av2, lv2⟩ Y ⟨j1, jA, jL, jU, jba, jbl, jn⟩
      simp only at j1 jA jL jba jbl jn
      have zX := hwX.size
      have hwY : Ext w Y := hwX.trans jU (fun b hb => .inr (by
        rcases List.mem_append.1 hb with h | h
        · exact (hTo3.ba b h).1
        · exact (hTo3.bl b h).1))
      have hSaY := cutV_sl (hSa.upd hwY (by simp))
      refine xtm rfl rfl rfl ?_
      refine xtm rfl rfl rfl ?_
      refine xpu (hSaY.lenS rfl) rfl ?_
      by_cases hj : j < (add.take 10).length
      · refine xpu (pv_lssI (a := j) (b := (add.take 10).length) (q := true) rfl rfl (by simpa using hj)) rfl ?_
        refine xr 6 rfl ?_
        obtain ⟨ah, hah⟩ : ∃ h, (add.take 10)[j]? = some h := ⟨_, List.getElem?_eq_getElem hj⟩
        have htk : (add.take 10).take (j + 1) = (add.take 10).take j ++ [ah] := by rw [List.take_add_one, hah]; rfl
        obtain ⟨bd, od, cd, hdv, _, hmd⟩ := hs_at hSaY hah
        have hjl : ((add.take 10).take j).length = j := by rw [List.length_take]; omega
        refine xju (ok_iaddr (N := 32) (b := bd) (o := od) (len := (add.take 10).length) (cap := cd) (by rw [← hdv]; rfl) rfl j rfl hj) rfl ?_
        refine exec_loadN (b := bd) (o := od + j * 32) (vs := hC ah) rfl rfl hmd (hC_length _) ?_
        refine exec_litL (N := 32) (cs := hC ah) (l := [(0, 32, hV ah)]) rfl (hash_fill ah) (by rw [hC_length]) rfl ?_
        intro bq Y1 hbq hsq hY1 hOq
        have hla2 : (all ++ (add.take 10).take j).length ≤ 130 := by rw [List.length_append, hjl]; omega
        refine exec_ok (ok_append (N := 32) rfl rfl (jA.upd hY1 (by simp)) hOq.sl rfl (by decide) (by omega) (hC_cell _)) rfl ?_
        rintro av3 Y2 ⟨hO2, hY2, hf2, hl2⟩
        have zY1 := hY1.size
        have zY2 := hY2.size
        have zXY := jU.size
        have jL2 := (jL.upd hY1 (by simp)).upd hY2 (fun b hb => (jbl b hb).2)
        refine xr 2 rfl ?_
        refine exec_litL (N := 1) (cs := [.bool true]) (l := [(0, 1, .bool true)]) rfl rfl rfl rfl ?_
        intro br Y3 hbr hsr hY3 hOr
        have hll2 : (nl ++ ((add.take 10).take j).map fun _ => true).length ≤ 130 := by rw [List.length_append, List.length_map, hjl, hnl, ← heq]; omega
        refine exec_ok (ok_append (N := 1) rfl rfl (jL2.upd hY3 (by simp)) hOr.sl rfl (by decide) (by omega) rfl) rfl ?_
        rintro lv3 Y4 ⟨hO4, hY4, hf4, hl4⟩
        have zY3 := hY3.size
        refine xr 4 rfl ?_
        refine xpu (pv_addI (a := j) (b := 1) rfl rfl (by omega)) rfl ?_
        refine xr 1 rfl ?_
        have kl2 : ∀ b ∈ blkOf lv2, b < Y.heap.size := fun b hb => jL.lt b hb
        have d34 : ∀ b ∈ blkOf av3, b ∉ blkOf lv3 := by
          intro b hb hb'
          have h1 := hl2 b hb
          rcases hf4 b hb' with h | h
          · rcases hf2 b hb with g | g
            · exact (jba b g).2 h
            · have := kl2 b h; omega
          · omega
        have hA4 := (hO2.upd hY3 (by simp)).upd hY4 (fun b hb hb' => by
          have h1 := hl2 b hb
          rcases hf2 b hb with g | g
          · exact (jba b g).2 hb'
          · have := kl2 b hb'; omega)
        refine xag (j + 1, av3, lv3) ⟨hj, ?_, ?_, ?_, fun b hb => ⟨?_, d34 b hb⟩, fun b hb => ⟨?_, fun h => d34 b h hb⟩, fun h => ?_⟩ (by show (add.take 10).length - (j + 1) < (add.take 10).length - j; omega) ⟨rfl, rfl, rfl, rfl, rfl, rfl, rfl, trivial⟩
        · rw [htk, ← List.append_assoc, hs_append, List.length_append]
          simpa [hs] using hA4
        · rw [htk, List.map_append, ← List.append_assoc, List.map_append, List.length_append]
          exact hO4
        · refine (((jU.trans hY1).trans hY2 (fun b hb => ?_)).trans hY3).trans hY4 (fun b hb => ?_)
          · exact (jba b hb).1.imp (fun h => List.mem_append_left _ h) id
          · exact (jbl b hb).1.imp (fun h => List.mem_append_right _ h) id
        · rcases hf2 b hb with g | g
          · exact (jba b g).1
          · right; omega
        · rcases hf4 b hb with g | g
          · exact (jbl b g).1
          · right; omega
        · have h' : all ++ (add.take 10).take (j + 1) = [] := h
          rw [htk] at h'; simp at h'
      · refine xpu (pv_lssI (a := j) (b := (add.take 10).length) (q := false) rfl rfl (by simpa using hj)) rfl ?_
        have : j = (add.take 10).length := by omega
        subst this
        rw [List.take_length] at jA jL jn
        refine xr 6 rfl ?_
        refine xpu (pv_addI (a := i) (b := 1) rfl rfl (by omega)) rfl ?_
        refine xr 1 rfl ?_
        have hnl0 : nl = [] → lv' = .slice none 0 0 := fun h => (hTo3.na (by
          rw [h] at hnl
          cases all with
          | nil => rfl
          | cons a r => simp at hnl heq; omega)).2
        have hfor : Foreign X (blkOf av ++ blkOf lv') := hlX.append (bs_strange (l := nl) (by rw [hnl]; exact kO) hnl0)
        have kp := hF.lt
        refine xag (i + 1, _, all ++ add.take 10, nl ++ (add.take 10).map fun _ => true, av2, lv2) ⟨hi12, ⟨hF.upd jU hfor ?_ ?_, ?_, ?_, ?_, ?_, jA, jL, jn, ?_, ?_⟩, hwY⟩ (by show 12 - (i + 1) < 12 - i; omega) ⟨rfl, rfl, rfl, rfl, rfl, trivial⟩
        · intro h
          rcases List.mem_append.1 h with h | h
          · exact (hTo3.ba p h).2.1 rfl
          · exact (hTo3.bl p h).2.1 rfl
        · intro h
          rcases List.mem_append.1 h with h | h
          · exact (hTo3.ba m h).2.2.1 rfl
          · exact (hTo3.bl m h).2.2.1 rfl
        · show s.turns + 1 ≤ i + 1; omega
        · show (all ++ add.take 10).length ≤ 10 * (i + 1)
          rw [List.length_append]; omega
        · show (all ++ add.take 10).length = (nl ++ (add.take 10).map fun _ => true).length
          rw [List.length_append, List.length_append, List.length_map, hnl, heq]
        · show modL (del.take 10) (add.take 10) s.L = _
          rw [hTo.L, modL_zip heq, hnle]
        · intro b hb
          rcases (jba b hb).1 with h | h
          · have := hTo3.ba b h; exact ⟨this.1, this.2.1, this.2.2.1, (jba b hb).2⟩
          · exact ⟨by omega, by omega, by omega, (jba b hb).2⟩
        · intro b hb
          rcases (jbl b hb).1 with h | h
          · have := hTo3.bl b h; exact ⟨this.1, this.2.1, this.2.2.1, (jbl b hb).2⟩
          · exact ⟨by omega, by omega, by omega, (jbl b hb).2⟩
end
end Go.Sp

namespace Go.Sp
def posN (R r i : Nat) : Nat := beginN r R + i
/-- the place (r, i) belongs to the tree of height h -/
structure InT (n h r i : Nat) : Prop where
  le : r ≤ h
  bit : bitN n h = true
  idx : i / 2 ^ (h - r) = n / 2 ^ (h + 1) * 2
/-- a place and k places above it -/
def upsN (R : Nat) : Nat → Nat → Nat → List Nat
  | 0, r, i => [posN R r i]
  | k + 1, r, i => posN R r i :: upsN R k (r + 1) (i / 2)
theorem bit_rows {n h : Nat} (hn : n < 2 ^ 63) (hb : bitN n h = true) : h ≤ rowsN n := by
  have h1 := bitN_le hb
  have h2 := le_rows hn
  have : 2 ^ h ≤ 2 ^ rowsN n := by omega
  exact (Nat.pow_le_pow_iff_right (by omega)).1 this
theorem bit_odd {n h : Nat} (hb : bitN n h = true) : n / 2 ^ h = n / 2 ^ (h + 1) * 2 + 1 := by
  have : n / 2 ^ h % 2 = 1 := by simpa [bitN] using hb
  rw [Nat.pow_succ, ← Nat.div_div_eq_div_mul]
  omega
theorem div_step (i d : Nat) : i / 2 / 2 ^ d = i / 2 ^ (d + 1) := by rw [Nat.div_div_eq_div_mul, ← Nat.pow_succ']
theorem InT.up {n h r i : Nat} (hI : InT n h r i) (hr : r < h) : InT n h (r + 1) (i / 2) :=
  ⟨hr, hI.bit, by rw [div_step, show h - (r + 1) + 1 = h - r by omega]; exact hI.idx⟩
theorem InT.down {n h r i : Nat} (hI : InT n h (r + 1) (i / 2)) : InT n h r i := by
  have := hI.le
  refine ⟨by omega, hI.bit, ?_⟩
  have h2 := hI.idx
  rw [div_step, show h - (r + 1) + 1 = h - r by omega] at h2
  exact h2
theorem InT.lt {n h r i : Nat} (hn : n < 2 ^ 63) (hI : InT n h r i) : i < 2 ^ (rowsN n - r) := by
  have h1 := bit_rows hn hI.bit
  have h2 := hI.le
  have h3 := le_rows hn
  have h4 := bit_odd hI.bit
  have h5 := hI.idx
  have e1 : n / 2 ^ h ≤ 2 ^ (rowsN n - h) := by
    have : 2 ^ rowsN n = 2 ^ (rowsN n - h) * 2 ^ h := by rw [← Nat.pow_add]; congr 1; omega
    rw [this] at h3
    exact Nat.div_le_of_le_mul (by rw [Nat.mul_comm]; exact h3)
  have h6 : i < (i / 2 ^ (h - r) + 1) * 2 ^ (h - r) := by
    have hp : 0 < 2 ^ (h - r) := Nat.pow_pos (by omega)
    have := Nat.div_add_mod i (2 ^ (h - r))
    have := Nat.mod_lt i hp
    rw [Nat.add_mul, Nat.one_mul, Nat.mul_comm]
    omega
  have h7 : (i / 2 ^ (h - r) + 1) * 2 ^ (h - r) ≤ 2 ^ (rowsN n - h) * 2 ^ (h - r) := Nat.mul_le_mul_right _ (by omega)
  rw [← Nat.pow_add, show rowsN n - h + (h - r) = rowsN n - r by omega] at h7
  omega
theorem InT.row {n h r i : Nat} (hn : n < 2 ^ 63) (hI : InT n h r i) : rowN (posN (rowsN n) r i) (rowsN n) = some r :=
  row_posN (rowsN_le hn) (Nat.le_trans hI.le (bit_rows hn hI.bit)) (hI.lt hn)
theorem pos_inj {R r r' i i' : Nat} (hR : R ≤ 63) (h : r ≤ R) (h' : r' ≤ R) (hi : i < 2 ^ (R - r)) (hi' : i' < 2 ^ (R - r')) (he : posN R r i = posN R r' i') : r = r' ∧ i = i' := by
  have h1 := row_posN hR h hi
  have h2 := row_posN hR h' hi'
  unfold posN at he
  rw [he, h2] at h1
  have : r = r' := (Option.some.inj h1).symm
  subst this
  exact ⟨rfl, by omega⟩
theorem InT.inj {n h h' r r' i i' : Nat} (hn : n < 2 ^ 63) (hI : InT n h r i) (hI' : InT n h' r' i') (he : posN (rowsN n) r i = posN (rowsN n) r' i') : r = r' ∧ i = i' :=
  pos_inj (rowsN_le hn) (Nat.le_trans hI.le (bit_rows hn hI.bit)) (Nat.le_trans hI'.le (bit_rows hn hI'.bit)) (hI.lt hn) (hI'.lt hn) he
theorem root_iff {n r i : Nat} (hn : n < 2 ^ 63) : rootN n r = some (posN (rowsN n) r i) ↔ InT n r r i := by
  constructor
  · intro h
    unfold rootN at h
    split at h
    · rename_i hc
      have h2 := Option.some.inj h
      simp only [posN] at h2
      exact ⟨Nat.le_refl _, hc.2.2, by rw [Nat.sub_self, Nat.pow_zero, Nat.div_one]; omega⟩
    · cases h
  · intro h
    unfold rootN
    rw [if_pos ⟨hn, bit_rows hn h.bit, h.bit⟩]
    have := h.idx
    rw [Nat.sub_self, Nat.pow_zero, Nat.div_one] at this
    rw [posN, this]
/-- a place is in one tree alone -/
theorem InT.uniq {n h h' r i : Nat} (hI : InT n h r i) (hI' : InT n h' r i) : h = h' := by
  have key : ∀ {h h' : Nat}, InT n h r i → InT n h' r i → h < h' → False := by
    intro h h' hI hI' hlt
    have h1 := hI.idx
    have h2 := hI'.idx
    have h3 := hI.le
    have e1 : i / 2 ^ (h' - r) = i / 2 ^ (h - r) / 2 ^ (h' - h) := by
      rw [Nat.div_div_eq_div_mul, ← Nat.pow_add]; congr 2; omega
    have e2 : n / 2 ^ (h + 1) * 2 / 2 ^ (h' - h) = n / 2 ^ h' := by
      obtain ⟨d, rfl⟩ : ∃ d, h' = h + 1 + d := ⟨h' - h - 1, by omega⟩
      generalize hx : n / 2 ^ (h + 1) = x
      rw [show h + 1 + d - h = d + 1 by omega, Nat.pow_succ', ← Nat.div_div_eq_div_mul, Nat.mul_div_cancel _ (by omega), ← hx, Nat.div_div_eq_div_mul, ← Nat.pow_add]
    rw [e1, h1, e2, bit_odd hI'.bit] at h2
    omega
  rcases Nat.lt_trichotomy h h' with hlt | he | hlt
  · exact (key hI hI' hlt).elim
  · exact he
  · exact (key hI' hI hlt).elim
theorem wayCut_ups {n : Nat} (hn : n < 2 ^ 63) : ∀ (k r i h : Nat), InT n h r i → h ≤ r + k → wayCut n r (upsN (rowsN n) k r i) = some (upsN (rowsN n) (h - r) r i) := by
  intro k
  induction k with
  | zero =>
    intro r i h hI hk
    have : h = r := by have := hI.le; omega
    subst this
    simp only [upsN, wayCut]
    rw [if_pos ((root_iff hn).2 hI), Nat.sub_self]; rfl
  | succ k ih =>
    intro r i h hI hk
    simp only [upsN, wayCut]
    by_cases hr : h = r
    · subst hr
      rw [if_pos ((root_iff hn).2 hI), Nat.sub_self]; rfl
    · have hlt : r < h := by have := hI.le; omega
      rw [if_neg (fun hx => by have := ((root_iff hn).1 hx).uniq hI; omega), ih (r + 1) (i / 2) h (hI.up hlt) (by omega)]
      rw [show h - r = h - (r + 1) + 1 by omega]; rfl
theorem wayCut_some {n : Nat} (hn : n < 2 ^ 63) : ∀ (k r i : Nat) (l : List Nat), wayCut n r (upsN (rowsN n) k r i) = some l → ∃ h, InT n h r i := by
  intro k
  induction k with
  | zero =>
    intro r i l h
    simp only [upsN, wayCut] at h
    split at h
    · exact ⟨r, (root_iff hn).1 ‹_›⟩
    · cases h
  | succ k ih =>
    intro r i l h
    simp only [upsN, wayCut] at h
    split at h
    · exact ⟨r, (root_iff hn).1 ‹_›⟩
    · obtain ⟨l', h', _⟩ := Option.map_eq_some_iff.1 h
      obtain ⟨h, hI⟩ := ih _ _ _ h'
      exact ⟨h, hI.down⟩
theorem chain_ups {R : Nat} (hR : R ≤ 63) : ∀ (f r i : Nat), r ≤ R → i < 2 ^ (R - r) → R - r ≤ f → chainN f R (posN R r i) = upsN R (R - r) r i := by
  intro f
  induction f with
  | zero =>
    intro r i hr hi hf
    rw [show R - r = 0 by omega]; rfl
  | succ f ih =>
    intro r i hr hi hf
    simp only [chainN]
    rcases Nat.lt_or_ge r R with hlt | hge
    · unfold posN
      rw [parent_posN hR hlt hi]
      simp only
      have hi2 : i / 2 < 2 ^ (R - (r + 1)) := by
        have : 2 ^ (R - r) = 2 * 2 ^ (R - (r + 1)) := by rw [← Nat.pow_succ']; congr 1; omega
        omega
      have := ih (r + 1) (i / 2) hlt hi2 (by omega)
      unfold posN at this
      rw [this, show R - r = R - (r + 1) + 1 by omega]; rfl
    · have : r = R := by omega
      subst this
      unfold posN
      rw [parent_none hR rfl hi, Nat.sub_self]; rfl
theorem InT.way {n h r i : Nat} (hn : n < 2 ^ 63) (hI : InT n h r i) : wayN n (posN (rowsN n) r i) = upsN (rowsN n) (h - r) r i := by
  have hR := rowsN_le hn
  have hh := bit_rows hn hI.bit
  have hle := hI.le
  unfold wayN
  rw [if_pos hn, hI.row hn]
  simp only
  rw [chain_ups hR 64 r i (by omega) (hI.lt hn) (by omega), wayCut_ups hn (rowsN n - r) r i h hI (by omega)]; rfl
theorem ups_last (R : Nat) : ∀ (k r i : Nat), (upsN R k r i).getLast? = some (posN R (r + k) (i / 2 ^ k)) := by
  intro k
  induction k with
  | zero => intro r i; simp [upsN]
  | succ k ih =>
    intro r i
    rw [upsN, List.getLast?_cons, ih, div_step]
    simp [Nat.add_assoc, Nat.add_comm 1 k]
theorem mem_ups {R : Nat} : ∀ {k r i q : Nat}, q ∈ upsN R k r i ↔ ∃ j, j ≤ k ∧ q = posN R (r + j) (i / 2 ^ j) := by
  intro k
  induction k with
  | zero =>
    intro r i q
    simp only [upsN, List.mem_singleton]
    constructor
    · rintro rfl; exact ⟨0, Nat.le_refl _, by simp⟩
    · rintro ⟨j, hj, rfl⟩
      have : j = 0 := by omega
      subst this; simp
  | succ k ih =>
    intro r i q
    simp only [upsN, List.mem_cons, ih]
    constructor
    · rintro (rfl | ⟨j, hj, rfl⟩)
      · exact ⟨0, by omega, by simp⟩
      · exact ⟨j + 1, by omega, by rw [div_step]; congr 1; omega⟩
    · rintro ⟨j, hj, rfl⟩
      cases j with
      | zero => left; simp
      | succ j => right; exact ⟨j, by omega, by rw [div_step]; congr 1; omega⟩
theorem InT.tree {n h r i : Nat} (hn : n < 2 ^ 63) (hI : InT n h r i) : treeN n (posN (rowsN n) r i) = some h := by
  have hh := bit_rows hn hI.bit
  have hle := hI.le
  unfold treeN
  rw [hI.way hn, ups_last]
  simp only
  have hroot : InT n h h (i / 2 ^ (h - r)) := ⟨Nat.le_refl _, hI.bit, by rw [Nat.sub_self, Nat.pow_zero, Nat.div_one]; exact hI.idx⟩
  rw [show r + (h - r) = h by omega]
  exact hroot.row hn
theorem pos_of_row {p R r : Nat} (hR : R ≤ 63) (h : rowN p R = some r) : ∃ i, p = posN R r i ∧ r ≤ R ∧ i < 2 ^ (R - r) := by
  have h1 := (rowN_iff hR).1 h
  exact ⟨p - beginN r R, by unfold posN; omega, h1.1, by omega⟩
theorem way_in {n p : Nat} (hw : wayN n p ≠ []) : n < 2 ^ 63 ∧ ∃ h r i, p = posN (rowsN n) r i ∧ InT n h r i := by
  unfold wayN at hw
  split at hw
  · rename_i hn
    refine ⟨hn, ?_⟩
    split at hw
    · exact absurd rfl hw
    · rename_i r hr
      obtain ⟨i, rfl, h1, h2⟩ := pos_of_row (rowsN_le hn) hr
      rw [chain_ups (rowsN_le hn) 64 r i h1 h2 (by have := rowsN_le hn; omega)] at hw
      cases hc : wayCut n r (upsN (rowsN n) (rowsN n - r) r i) with
      | none => rw [hc] at hw; exact absurd rfl hw
      | some l =>
        obtain ⟨h, hI⟩ := wayCut_some hn _ _ _ _ hc
        exact ⟨h, r, i, rfl, hI⟩
  · exact absurd rfl hw
theorem tree_in {n p h : Nat} (ht : treeN n p = some h) : n < 2 ^ 63 ∧ ∃ r i, p = posN (rowsN n) r i ∧ InT n h r i := by
  have hw : wayN n p ≠ [] := (treeN_bit ht).2.2
  obtain ⟨hn, h', r, i, rfl, hI⟩ := way_in hw
  rw [hI.tree hn] at ht
  cases ht
  exact ⟨hn, r, i, rfl, hI⟩
/-! ### the neighbours of a place -/
theorem begin_even {R r : Nat} (h : r ≤ R) : beginN r R % 2 = 0 := by
  unfold beginN
  have e1 : (2 : Nat) ^ (R + 1) = 2 * 2 ^ R := by rw [Nat.pow_succ]; omega
  have e2 := two_pow_split h
  rw [e1, e2]; omega
def sibI (i : Nat) : Nat := if i % 2 = 0 then i + 1 else i - 1
theorem sibI_half (i : Nat) : sibI i / 2 = i / 2 := by unfold sibI; split <;> omega
theorem InT.parent {n h r i : Nat} (hn : n < 2 ^ 63) (hI : InT n h r i) (hr : r < h) : parentN (posN (rowsN n) r i) (rowsN n) = some (posN (rowsN n) (r + 1) (i / 2)) :=
  parent_posN (rowsN_le hn) (by have := bit_rows hn hI.bit; omega) (hI.lt hn)
theorem InT.sib {n h r i : Nat} (hI : InT n h r i) (hr : r < h) : InT n h r (sibI i) := by
  have := hI.up hr
  rw [← sibI_half] at this
  exact this.down
theorem sibN_add {b i : Nat} (hb : b % 2 = 0) : sibN (b + i) = b + sibI i := by
  unfold sibN sibI
  by_cases hi : i % 2 = 0
  · have h2 : (b + i) % 2 = 0 := by omega
    rw [if_pos hi, if_pos h2]; omega
  · have h2 : ¬ (b + i) % 2 = 0 := by omega
    rw [if_neg hi, if_neg h2]; omega
theorem InT.sibling {n h r i : Nat} (hn : n < 2 ^ 63) (hI : InT n h r i) (hr : r < h) : siblingN (posN (rowsN n) r i) (rowsN n) = some (posN (rowsN n) r (sibI i)) := by
  unfold siblingN
  rw [hI.parent hn hr]
  have hb := begin_even (R := rowsN n) (r := r) (by have := bit_rows hn hI.bit; have := hI.le; omega)
  exact congrArg some (sibN_add hb)
theorem left_posN {R r i : Nat} (hR : R ≤ 63) (h : r < R) (hi : i < 2 ^ (R - (r + 1))) : leftN (posN R (r + 1) i) R = some (posN R r (2 * i)) := by
  unfold leftN posN
  rw [row_posN hR (by omega) hi]
  simp only
  rw [if_neg (by omega)]
  congr 1
  have e1 := two_pow_split (R := R) (r := r) (by omega)
  have e2 : (2 : Nat) ^ (R + 1 - (r + 1)) = 2 ^ (R - r) := by congr 1; omega
  have e3 : (2 : Nat) ^ (R - r) = 2 * 2 ^ (R - (r + 1)) := by rw [← Nat.pow_succ']; congr 1; omega
  have e4 : (2 : Nat) ^ (R + 1 - r) ≤ 2 ^ (R + 1) := Nat.pow_le_pow_right (by omega) (by omega)
  have e5 : (2 : Nat) ^ (R - r) ≤ 2 ^ R := Nat.pow_le_pow_right (by omega) (by omega)
  have e6 : (2 : Nat) ^ (R + 1) = 2 * 2 ^ R := by rw [Nat.pow_succ]; omega
  simp only [beginN, e2]
  have key : 2 * (2 ^ (R + 1) - 2 ^ (R - r) + i) = (2 ^ (R + 1) - 2 ^ (R + 1 - r) + 2 * i) + 2 ^ (R + 1) := by omega
  rw [key, Nat.add_mod_right, Nat.mod_eq_of_lt (by omega)]
theorem InT.left {n h r i : Nat} (hn : n < 2 ^ 63) (hI : InT n h (r + 1) i) : leftN (posN (rowsN n) (r + 1) i) (rowsN n) = some (posN (rowsN n) r (2 * i)) :=
  left_posN (rowsN_le hn) (by have := bit_rows hn hI.bit; have := hI.le; omega) (hI.lt hn)
theorem InT.kid {n h r i : Nat} (hI : InT n h (r + 1) i) (b : Nat) (hb : b < 2) : InT n h r (2 * i + b) := by
  have : InT n h (r + 1) ((2 * i + b) / 2) := by rw [show (2 * i + b) / 2 = i by omega]; exact hI
  exact this.down
theorem root_in {n h : Nat} (hn : n < 2 ^ 63) (hb : bitN n h = true) : InT n h h (n / 2 ^ (h + 1) * 2) ∧ rootN n h = some (posN (rowsN n) h (n / 2 ^ (h + 1) * 2)) := by
  have : InT n h h (n / 2 ^ (h + 1) * 2) := ⟨Nat.le_refl _, hb, by rw [Nat.sub_self, Nat.pow_zero, Nat.div_one]⟩
  exact ⟨this, (root_iff hn).2 this⟩
/-! ### plans -/
theorem mem_keys {m : List (Nat × Nat)} {q : Nat} : q ∈ keys m ↔ ∃ c, aget q m = some c := by
  induction m with
  | nil => simp [keys, aget]
  | cons a m ih =>
    obtain ⟨x, y⟩ := a
    simp only [keys, List.map_cons, List.mem_cons] at ih ⊢
    by_cases h : x = q
    · subst h; simp [aget]
    · have hq : ¬ q = x := fun he => h he.symm
      have : aget q ((x, y) :: m) = aget q m := by simp [aget, h]
      rw [this, ← ih]; simp [hq]
theorem keys_aset {m : List (Nat × Nat)} {p c q : Nat} : q ∈ keys (aset p c m) ↔ q ∈ keys m ∨ q = p := by
  rw [mem_keys, mem_keys]
  constructor
  · rintro ⟨x, hx⟩
    rw [aget_set] at hx
    split at hx
    · right; assumption
    · exact .inl ⟨x, hx⟩
  · rintro (⟨x, hx⟩ | rfl)
    · by_cases h : q = p
      · exact ⟨c, by rw [aget_set, if_pos h]⟩
      · exact ⟨x, by rw [aget_set, if_neg h]; exact hx⟩
    · exact ⟨c, by rw [aget_set, if_pos rfl]⟩
theorem aset_len (p c : Nat) (m : List (Nat × Nat)) : (aset p c m).length ≤ m.length + 1 := by
  cases h : aidx p m with
  | none => rw [aset_new h]; simp
  | some k => rw [aset_some h]; simp
theorem ups_above {n h r i q : Nat} (hn : n < 2 ^ 63) (hI : InT n h r i) (hq : q ∈ wayN n (posN (rowsN n) r i)) : ∃ j, j ≤ h - r ∧ q = posN (rowsN n) (r + j) (i / 2 ^ j) ∧ InT n h (r + j) (i / 2 ^ j) ∧ wayN n q = upsN (rowsN n) (h - r - j) (r + j) (i / 2 ^ j) := by
  rw [hI.way hn, mem_ups] at hq
  obtain ⟨j, hj, rfl⟩ := hq
  have hI' : InT n h (r + j) (i / 2 ^ j) := ⟨by have := hI.le; omega, hI.bit, by
    rw [Nat.div_div_eq_div_mul, ← Nat.pow_add, show j + (h - (r + j)) = h - r by omega]; exact hI.idx⟩
  exact ⟨j, hj, rfl, hI', by rw [hI'.way hn, Nat.sub_add_eq]⟩
theorem way_self {n p : Nat} (h : wayN n p ≠ []) : p ∈ wayN n p := by
  obtain ⟨hn, h', r, i, rfl, hI⟩ := way_in h
  rw [hI.way hn, mem_ups]
  exact ⟨0, Nat.zero_le _, by simp⟩
/-- the way of what is on a way is part of it -/
theorem way_sub {n p q q' : Nat} (hq : q ∈ wayN n p) (hq' : q' ∈ wayN n q) : q' ∈ wayN n p := by
  have hne : wayN n p ≠ [] := by intro he; rw [he] at hq; simp at hq
  obtain ⟨hn, h, r, i, rfl, hI⟩ := way_in hne
  obtain ⟨j, hj, rfl, hI', hw⟩ := ups_above hn hI hq
  obtain ⟨j', hj', rfl, _, _⟩ := ups_above hn hI' hq'
  rw [hI.way hn, mem_ups]
  exact ⟨j + j', by omega, by rw [Nat.div_div_eq_div_mul, ← Nat.pow_add, Nat.add_assoc]⟩
/-- what is strictly above what is on a way is not the way's begin -/
theorem way_above {n p q q' : Nat} (hq : q ∈ wayN n p) (hq' : q' ∈ wayN n q) (hne : q' ≠ q) : q' ≠ p := by
  have hne0 : wayN n p ≠ [] := by intro he; rw [he] at hq; simp at hq
  obtain ⟨hn, h, r, i, rfl, hI⟩ := way_in hne0
  obtain ⟨j, hj, rfl, hI', hw⟩ := ups_above hn hI hq
  obtain ⟨j', hj', rfl, hI2, _⟩ := ups_above hn hI' hq'
  intro he
  have := (hI2.inj hn hI he).1
  have hj0 : j = 0 ∧ j' = 0 := by omega
  obtain ⟨rfl, rfl⟩ := hj0
  exact hne (by simp)
def posM (m : List (Nat × Nat)) : Prop := ∀ q c, aget q m = some c → 1 ≤ c
theorem addWay_spec {n : Nat} (hn : n < 2 ^ 63) {T : List Nat} {t : Nat} : ∀ (k r i h : Nat) (m : List (Nat × Nat)), InT n h r i → k = h - r →
    (∀ q ∈ upsN (rowsN n) k r i, q ∈ keys m → ∀ q' ∈ wayN n q, q' ∈ keys m) → (∀ q ∈ upsN (rowsN n) k r i, q ∈ keys m → ∀ q' ∈ wayN n q, q' ≠ q → q' ∉ T) → posM m →
    match addWay T t (upsN (rowsN n) k r i) m with
    | none => ∃ q ∈ upsN (rowsN n) k r i, q ≠ t ∧ q ∈ T
    | some m' => (∀ q ∈ upsN (rowsN n) k r i, q ≠ t → q ∉ T) ∧ (∀ q, q ∈ keys m' ↔ q ∈ keys m ∨ q ∈ upsN (rowsN n) k r i) ∧ posM m' ∧ m'.length ≤ m.length + (k + 1) ∧ ((keys m).Nodup → (keys m').Nodup) := by
  intro k
  induction k with
  | zero =>
    intro r i h m hI hk hcl hd hp
    simp only [upsN, addWay]
    by_cases hc : posN (rowsN n) r i ≠ t ∧ posN (rowsN n) r i ∈ T
    · rw [if_pos hc]
      exact ⟨_, by simp, hc⟩
    · rw [if_neg hc]
      have hpp : posM (aset (posN (rowsN n) r i) ((aget (posN (rowsN n) r i) m).getD 0 + 1) m) := by
        intro q c hq
        rw [aget_set] at hq
        split at hq
        · have := Option.some.inj hq; omega
        · exact hp q c hq
      have hres : (∀ q ∈ [posN (rowsN n) r i], q ≠ t → q ∉ T) ∧ (∀ q, q ∈ keys (aset (posN (rowsN n) r i) ((aget (posN (rowsN n) r i) m).getD 0 + 1) m) ↔ q ∈ keys m ∨ q ∈ [posN (rowsN n) r i]) ∧ posM (aset (posN (rowsN n) r i) ((aget (posN (rowsN n) r i) m).getD 0 + 1) m) ∧ (aset (posN (rowsN n) r i) ((aget (posN (rowsN n) r i) m).getD 0 + 1) m).length ≤ m.length + (0 + 1) ∧ ((keys m).Nodup → (keys (aset (posN (rowsN n) r i) ((aget (posN (rowsN n) r i) m).getD 0 + 1) m)).Nodup) := by
        refine ⟨fun q hq hne hT => ?_, fun q => ?_, hpp, aset_len _ _ _, fun h => nodup_set h⟩
        · have : q = posN (rowsN n) r i := by simpa using hq
          subst this
          exact hc ⟨hne, hT⟩
        · rw [keys_aset]; simp
      split
      · rename_i heq
        split at heq <;> cases heq
      · rename_i m' heq
        have : m' = aset (posN (rowsN n) r i) ((aget (posN (rowsN n) r i) m).getD 0 + 1) m := by
          split at heq
          · exact (Option.some.inj heq).symm
          · exact (Option.some.inj heq).symm
        subst this
        exact hres
  | succ k ih =>
    intro r i h m hI hk hcl hd hp
    simp only [upsN, addWay]
    have hrh : r < h := by omega
    by_cases hc : posN (rowsN n) r i ≠ t ∧ posN (rowsN n) r i ∈ T
    · rw [if_pos hc]
      exact ⟨_, by simp, hc⟩
    rw [if_neg hc]
    have hpp : posM (aset (posN (rowsN n) r i) ((aget (posN (rowsN n) r i) m).getD 0 + 1) m) := by
      intro q c hq
      rw [aget_set] at hq
      split at hq
      · have := Option.some.inj hq; omega
      · exact hp q c hq
    have hway : wayN n (posN (rowsN n) r i) = posN (rowsN n) r i :: upsN (rowsN n) k (r + 1) (i / 2) := by rw [hI.way hn, ← hk]; rfl
    have habove : ∀ q ∈ upsN (rowsN n) k (r + 1) (i / 2), q ≠ posN (rowsN n) r i := by
      intro q hq he
      obtain ⟨j, hj, rfl⟩ := mem_ups.1 hq
      have hI2 : InT n h (r + 1) (i / 2) := hI.up hrh
      have hm : posN (rowsN n) (r + 1 + j) (i / 2 / 2 ^ j) ∈ wayN n (posN (rowsN n) (r + 1) (i / 2)) := by
        rw [hI2.way hn, mem_ups]; exact ⟨j, by omega, rfl⟩
      obtain ⟨j', _, he', hI3, _⟩ := ups_above hn hI2 hm
      rw [he'] at he
      have := (hI3.inj hn hI he).1
      omega
    by_cases hc2 : (aget (posN (rowsN n) r i) m).getD 0 + 1 > 1
    · rw [if_pos hc2]
      have hin : posN (rowsN n) r i ∈ keys m := by
        rw [mem_keys]
        cases hx : aget (posN (rowsN n) r i) m with
        | none => rw [hx] at hc2; simp at hc2
        | some c => exact ⟨c, rfl⟩
      refine ⟨fun q hq hne hT => ?_, fun q => ?_, hpp, by have := aset_len (posN (rowsN n) r i) ((aget (posN (rowsN n) r i) m).getD 0 + 1) m; omega, fun h => nodup_set h⟩
      · rcases List.mem_cons.1 hq with rfl | hq
        · exact hc ⟨hne, hT⟩
        · exact hd _ (by simp [upsN]) hin q (by rw [hway]; simp [hq]) (habove q hq) hT
      · rw [keys_aset]
        constructor
        · rintro (h | rfl)
          · exact .inl h
          · exact .inl hin
        · rintro (h | h)
          · exact .inl h
          · exact .inl (hcl _ (by simp [upsN]) hin q (by rw [hway]; exact h))
    · rw [if_neg hc2]
      have hnin : posN (rowsN n) r i ∉ keys m := by
        rw [mem_keys]
        rintro ⟨c, hx⟩
        have := hp _ _ hx
        rw [hx] at hc2; simp at hc2; omega
      have := ih (r + 1) (i / 2) h (aset (posN (rowsN n) r i) ((aget (posN (rowsN n) r i) m).getD 0 + 1) m) (hI.up hrh) (by omega) (fun q hq hk q' hq' => ?_) (fun q hq hk q' hq' hne => ?_) hpp
      · split at this
        · obtain ⟨q, h1, h2⟩ := this
          exact ⟨q, by simp [h1], h2⟩
        · rename_i m' heq
          obtain ⟨h1, h2, h3, h4, h5⟩ := this
          refine ⟨fun q hq hne => ?_, fun q => ?_, h3, by have := aset_len (posN (rowsN n) r i) ((aget (posN (rowsN n) r i) m).getD 0 + 1) m; omega, fun h => h5 (nodup_set h)⟩
          · rcases List.mem_cons.1 hq with rfl | hq
            · exact fun hT => hc ⟨hne, hT⟩
            · exact h1 q hq hne
          · rw [h2, keys_aset, List.mem_cons]
            constructor
            · rintro ((h | h) | h)
              · exact .inl h
              · exact .inr (.inl h)
              · exact .inr (.inr h)
            · rintro (h | h | h)
              · exact .inl (.inl h)
              · exact .inl (.inr h)
              · exact .inr h
      · rw [keys_aset] at hk ⊢
        rcases hk with hk | hk
        · exact .inl (hcl q (by simp [upsN, hq]) hk q' hq')
        · exact absurd hk (habove q hq)
      · rw [keys_aset] at hk
        rcases hk with hk | hk
        · exact hd q (by simp [upsN, hq]) hk q' hq' hne
        · exact absurd hk (habove q hq)
/-- targets that may be -/
structure Fine (n : Nat) (T : List Nat) : Prop where
  tree : ∀ t ∈ T, (treeN n t).isSome = true
  once : T.Nodup
  free : ∀ t ∈ T, ∀ q ∈ wayN n t, q ≠ t → q ∉ T
theorem addWays_spec {n : Nat} (hn : n < 2 ^ 63) {T : List Nat} : ∀ (ts : List Nat) (m : List (Nat × Nat)), (∀ t ∈ ts, (treeN n t).isSome = true) →
    (∀ q ∈ keys m, ∀ q' ∈ wayN n q, q' ∈ keys m) → (∀ q ∈ keys m, ∀ q' ∈ wayN n q, q' ≠ q → q' ∉ T) → posM m → (keys m).Nodup →
    match addWays n T ts m with
    | none => ∃ t ∈ ts, ∃ q ∈ wayN n t, q ≠ t ∧ q ∈ T
    | some m' => (∀ t ∈ ts, ∀ q ∈ wayN n t, q ≠ t → q ∉ T) ∧ (∀ q, q ∈ keys m' ↔ q ∈ keys m ∨ ∃ t ∈ ts, q ∈ wayN n t) ∧ posM m' ∧ m'.length ≤ m.length + 65 * ts.length ∧ (keys m').Nodup := by
  intro ts
  induction ts with
  | nil =>
    intro m _ h1 h2 h3 h4
    simp only [addWays]
    exact ⟨by simp, by simp, h3, by simp, h4⟩
  | cons t ts ih =>
    intro m ht h1 h2 h3 h4
    obtain ⟨h, hh⟩ := Option.isSome_iff_exists.1 (ht t (by simp))
    obtain ⟨_, r, i, rfl, hI⟩ := tree_in hh
    have hs := addWay_spec hn (T := T) (t := posN (rowsN n) r i) (h - r) r i h m hI rfl (fun q _ hk => h1 q hk) (fun q _ hk => h2 q hk) h3
    rw [← hI.way hn] at hs
    simp only [addWays]
    split at hs
    · rename_i heq
      simp only [heq]
      obtain ⟨q, g1, g2⟩ := hs
      exact ⟨_, by simp, q, g1, g2⟩
    · rename_i m' heq
      simp only [heq]
      obtain ⟨g1, g2, g3, g4, g5⟩ := hs
      have hlen : h - r + 1 ≤ 65 := by
        have := bit_rows hn hI.bit
        have := rowsN_le hn
        omega
      have := ih m' (fun t' ht' => ht t' (by simp [ht'])) (fun q hq q' hq' => ?_) (fun q hq q' hq' hne => ?_) g3 (g5 h4)
      · split at this
        · obtain ⟨t', k1, k2⟩ := this
          exact ⟨t', by simp [k1], k2⟩
        · rename_i m2 heq2
          obtain ⟨k1, k2, k3, k4, k5⟩ := this
          refine ⟨fun t' ht' => ?_, fun q => ?_, k3, by simp only [List.length_cons]; omega, k5⟩
          · rcases List.mem_cons.1 ht' with rfl | ht'
            · exact g1
            · exact k1 t' ht'
          · rw [k2, g2]
            constructor
            · rintro ((h | h) | ⟨t', h, h'⟩)
              · exact .inl h
              · exact .inr ⟨_, by simp, h⟩
              · exact .inr ⟨t', by simp [h], h'⟩
            · rintro (h | ⟨t', h, h'⟩)
              · exact .inl (.inl h)
              · rcases List.mem_cons.1 h with rfl | h
                · exact .inl (.inr h')
                · exact .inr ⟨t', h, h'⟩
      · rw [g2] at hq ⊢
        rcases hq with hq | hq
        · exact .inl (h1 q hq q' hq')
        · exact .inr (way_sub hq hq')
      · rw [g2] at hq
        rcases hq with hq | hq
        · exact h2 q hq q' hq' hne
        · exact g1 q' (way_sub hq hq') (way_above hq hq' hne)
theorem made_none {n : Nat} {T : List Nat} (h : madeN n T = none) : ¬ (n < 2 ^ 63 ∧ Fine n T) := by
  rintro ⟨hn, hF⟩
  unfold madeN at h
  rw [if_pos ⟨hn, hF.tree, hF.once⟩] at h
  have := addWays_spec hn (T := T) T [] hF.tree (by simp [keys]) (by simp [keys]) (by intro q c h; simp [aget] at h) (by simp [keys])
  rw [h] at this
  obtain ⟨t, h1, q, h2, h3, h4⟩ := this
  exact hF.free t h1 q h2 h3 h4
structure Made (n : Nat) (T : List Nat) (m : List (Nat × Nat)) : Prop where
  n63 : n < 2 ^ 63
  fine : Fine n T
  mem : ∀ q, q ∈ keys m ↔ ∃ t ∈ T, q ∈ wayN n t
  pos : posM m
  len : m.length ≤ 65 * T.length
  once : (keys m).Nodup
theorem made_some {n : Nat} {T : List Nat} {m : List (Nat × Nat)} (h : madeN n T = some m) : Made n T m := by
  unfold madeN at h
  split at h
  · rename_i hc
    have := addWays_spec hc.1 (T := T) T [] hc.2.1 (by simp [keys]) (by simp [keys]) (by intro q c h; simp [aget] at h) (by simp [keys])
    rw [h] at this
    obtain ⟨h1, h2, h3, h4, h5⟩ := this
    exact ⟨hc.1, ⟨hc.2.1, hc.2.2, h1⟩, fun q => by rw [h2]; simp [keys], h3, by simpa using h4, h5⟩
  · cases h
theorem made_fine {n : Nat} {T : List Nat} (hn : n < 2 ^ 63) (hF : Fine n T) : ∃ m, madeN n T = some m := by
  cases h : madeN n T with
  | none => exact absurd ⟨hn, hF⟩ (made_none h)
  | some m => exact ⟨m, rfl⟩
/-! ### what is needed -/
theorem Made.zero {n : Nat} {T : List Nat} {m : List (Nat × Nat)} (h : Made n T m) (q : Nat) : (aget q m).getD 0 = 0 ↔ ¬ ∃ t ∈ T, q ∈ wayN n t := by
  rw [← h.mem, mem_keys]
  cases hq : aget q m with
  | none => simp
  | some c => have := h.pos q c hq; simp; omega
end Go.Sp

namespace Go.Sp
theorem whereN_lt {R : Nat} : ∀ (t : Tr Hash) (p x : Nat), p < 2 ^ (R + 1) + 1 → whereN R t p x < 2 ^ (R + 1) + 1 := by
  intro t
  induction t with
  | leaf h => intro p x hp; exact hp
  | pair h l r m ihl ihr =>
    intro p x hp
    have := leftN_lt (p := p) (rows := R)
    simp only [whereN]
    split
    · exact ihl _ _ (by omega)
    · exact ihr _ _ (by omega)
theorem whereT_lt {ts : List (TT Hash)} {n x : Nat} (hn : n < 2 ^ 40) : whereT ts n x < 2 ^ 42 := by
  have h1 := rowsN_40 hn
  have h2 := pow41 h1
  unfold whereT
  split
  · rename_i t _ h _
    have h3 : (rootN n h).getD 0 < 2 ^ (rowsN n + 1) + 1 := by
      cases hq : rootN n h with
      | none => simp
      | some q => have := rootN_lt hq; simp; omega
    have := whereN_lt (R := rowsN n) t _ x h3
    omega
  · decide
/-- the number of a live leaf -/
def numL (L : List (Option Hash)) (h : Hash) : Nat := L.idxOf (some h)
theorem FAt.num {w : World} {p m : Nat} {s : Fo} (h : FAt w p m s) {x : Nat} {a : Hash} (hx : s.L[x]? = some (some a)) : x = numL s.L a := by
  have hm : some a ∈ s.L := List.mem_of_getElem? hx
  have hlt := List.idxOf_lt_length_of_mem hm
  have : s.L[numL s.L a]? = some (some a) := by
    rw [numL, List.getElem?_eq_getElem hlt, List.getElem_idxOf hlt]
  obtain ⟨⟨tv, wl, h1, h2, h3, h4⟩, _⟩ := h
  have := ((h4 a x).2 hx).symm.trans ((h4 a _).2 this)
  exact Option.some.inj this
/-- where a leaf stands -/
def spotL (L : List (Option Hash)) (h : Hash) : Nat := whereT (treesT parH (lv L) L.length) L.length (numL L h)
/-- the proof of leaves: its targets, its hashes -/
def proofT (L : List (Option Hash)) (l : List Hash) : List Nat := l.map (spotL L)
end Go.Sp

namespace Go.Sp
/-- the functions of the laws, on -/
structure LawU (P : Program) extends LawG P, ForS P where
  equal : Nat
  TBo : Nat
  h_equal : Has P equal (b_spinneylaw14_equal leaves stump same where' atF TH TBo)
  h_TBo : P.underlying TBo = some .bool
theorem FAt.uniq' {w : World} {p m : Nat} {s : Fo} (h : FAt w p m s) {x y : Nat} {a : Hash} (hx : s.L[x]? = some (some a)) (hy : s.L[y]? = some (some a)) : x = y := by
  obtain ⟨⟨tv, wl, h1, h2, h3, h4⟩, _⟩ := h
  have := ((h4 a x).2 hx).symm.trans ((h4 a y).2 hy)
  exact Option.some.inj this
end Go.Sp

namespace Go.Sp
section
variable {H : Type} (par : H → H → H)
def Tr.wf : Tr H → Prop
  | .leaf _ => True
  | .pair h l r _ => h = par l.hash r.hash ∧ l.wf ∧ r.wf
def Tr.dep {H : Type} : Tr H → Nat
  | .leaf _ => 0
  | .pair _ l r _ => max l.dep r.dep + 1
/-- the leaf that number x leads to -/
def Tr.find {H : Type} (x : Nat) : Tr H → H
  | .leaf h => h
  | .pair _ l r m => if x < m then l.find x else r.find x
theorem build_wf {L : Nat → Option H} : ∀ (k f : Nat) (t : Tr H), buildT par L k f = some t → t.wf par ∧ t.dep ≤ k := by
  intro k
  induction k with
  | zero =>
    intro f t h
    simp only [buildT, Option.map_eq_some_iff] at h
    obtain ⟨a, _, rfl⟩ := h
    exact ⟨trivial, Nat.le_refl _⟩
  | succ k ih =>
    intro f t h
    simp only [buildT] at h
    cases ha : buildT par L k f with
    | none =>
      rw [ha] at h
      have := ih _ _ h
      exact ⟨this.1, by omega⟩
    | some a =>
      cases hb : buildT par L k (f + 2 ^ k) with
      | none =>
        rw [ha, hb] at h
        cases h
        have := ih _ _ ha
        exact ⟨this.1, by omega⟩
      | some b =>
        rw [ha, hb] at h
        cases h
        have h1 := ih _ _ ha
        have h2 := ih _ _ hb
        refine ⟨⟨rfl, h1.1, h2.1⟩, ?_⟩
        simp only [Tr.dep]; omega
theorem build_find {L : Nat → Option H} : ∀ (k f : Nat) (t : Tr H), buildT par L k f = some t → ∀ x a, f ≤ x → x < f + 2 ^ k → L x = some a → t.find x = a := by
  intro k
  induction k with
  | zero =>
    intro f t h x a h1 h2 hx
    have : x = f := by simp at h2; omega
    subst this
    simp only [buildT, hx, Option.map_some, Option.some.injEq] at h
    subst h; rfl
  | succ k ih =>
    intro f t h x a h1 h2 hx
    rw [Nat.pow_succ] at h2
    simp only [buildT] at h
    cases ha : buildT par L k f with
    | none =>
      rw [ha] at h
      rcases Nat.lt_or_ge x (f + 2 ^ k) with hl | hl
      · have := (buildT_none par k f).1 ha x h1 hl
        rw [this] at hx; cases hx
      · exact ih _ _ h x a hl (by omega) hx
    | some ta =>
      cases hb : buildT par L k (f + 2 ^ k) with
      | none =>
        rw [ha, hb] at h
        cases h
        rcases Nat.lt_or_ge x (f + 2 ^ k) with hl | hl
        · exact ih _ _ ha x a h1 hl hx
        · have := (buildT_none par k _).1 hb x hl (by omega)
          rw [this] at hx; cases hx
      | some tb =>
        rw [ha, hb] at h
        cases h
        simp only [Tr.find]
        split
        · exact ih _ _ ha x a h1 ‹_› hx
        · exact ih _ _ hb x a (by omega) (by omega) hx
theorem ups_ne (R k r i : Nat) : upsN R k r i ≠ [] := by cases k <;> simp [upsN]
theorem InT.rows {n h r i : Nat} (hn : n < 2 ^ 63) (hI : InT n h r i) : r ≤ rowsN n := Nat.le_trans hI.le (bit_rows hn hI.bit)
theorem pos_mod {R r i : Nat} (h : r ≤ R) : posN R r i % 2 = i % 2 := by
  have := begin_even h
  unfold posN; omega
theorem node_root {L : Nat → Option H} {n h i : Nat} (hn : n < 2 ^ 63) (hI : InT n h h i) : nodeN par L n (posN (rowsN n) h i) = buildT par L h (firstN n h) := by
  unfold nodeN
  rw [hI.tree hn, hI.way hn, Nat.sub_self]; rfl
theorem node_step {L : Nat → Option H} {n h r i : Nat} (hn : n < 2 ^ 63) (hI : InT n h r i) (hr : r < h) :
    nodeN par L n (posN (rowsN n) r i) = stepT (nodeN par L n (posN (rowsN n) (r + 1) (i / 2))) (posN (rowsN n) r i) := by
  have hI2 := hI.up hr
  unfold nodeN
  rw [hI.tree hn, hI.way hn, hI2.tree hn, hI2.way hn]
  simp only
  rw [show h - r = h - (r + 1) + 1 by omega, upsN, List.dropLast_cons_of_ne_nil (ups_ne _ _ _ _), List.reverse_cons, List.foldl_append]
  rfl
theorem node_kid {L : Nat → Option H} {n h r i : Nat} (hn : n < 2 ^ 63) (hI : InT n h (r + 1) i) (b : Nat) (hb : b < 2) :
    nodeN par L n (posN (rowsN n) r (2 * i + b)) = match nodeN par L n (posN (rowsN n) (r + 1) i) with
      | some (.pair _ l q _) => some (if b = 0 then l else q)
      | _ => none := by
  have hk := hI.kid b hb
  rw [node_step par hn hk (by have := hI.le; omega), show (2 * i + b) / 2 = i by omega]
  unfold stepT
  have hm : posN (rowsN n) r (2 * i + b) % 2 = b := by rw [pos_mod (hk.rows hn)]; omega
  rw [hm]
  cases nodeN par L n (posN (rowsN n) (r + 1) i) with
  | none => rfl
  | some t => cases t <;> rfl
theorem node_wf {L : Nat → Option H} {n h : Nat} (hn : n < 2 ^ 63) : ∀ (k r i : Nat) (t : Tr H), k + r = h → InT n h r i → nodeN par L n (posN (rowsN n) r i) = some t → t.wf par ∧ t.dep ≤ r := by
  intro k
  induction k with
  | zero =>
    intro r i t hk hI ht
    have : r = h := by omega
    subst this
    rw [node_root par hn hI] at ht
    exact build_wf par _ _ _ ht
  | succ k ih =>
    intro r i t hk hI ht
    have hlt : r < h := by omega
    rw [node_step par hn hI hlt] at ht
    unfold stepT at ht
    split at ht
    · rename_i hh l q m heq
      have := ih (r + 1) (i / 2) _ (by omega) (hI.up hlt) heq
      obtain ⟨⟨h1, h2, h3⟩, h4⟩ := this
      simp only [Tr.dep] at h4
      have := Option.some.inj ht
      subst this
      split
      · exact ⟨h2, by omega⟩
      · exact ⟨h3, by omega⟩
    · cases ht
theorem node_wf' {L : Nat → Option H} {n h r i : Nat} (hn : n < 2 ^ 63) (hI : InT n h r i) {t : Tr H} (ht : nodeN par L n (posN (rowsN n) r i) = some t) : t.wf par ∧ t.dep ≤ r :=
  node_wf par hn (h - r) r i t (by have := hI.le; omega) hI ht
/-- what stands below a place stands in its tree; a leaf is found -/
theorem where_pos {L : Nat → Option H} {n h x : Nat} (hn : n < 2 ^ 63) : ∀ (t : Tr H) (r i : Nat), InT n h r i → nodeN par L n (posN (rowsN n) r i) = some t →
    ∃ r' i', InT n h r' i' ∧ whereN (rowsN n) t (posN (rowsN n) r i) x = posN (rowsN n) r' i' ∧ nodeN par L n (posN (rowsN n) r' i') = some (.leaf (t.find x)) ∧ r' ≤ r ∧ i' / 2 ^ (r - r') = i := by
  intro t
  induction t with
  | leaf a =>
    intro r i hI ht
    exact ⟨r, i, hI, rfl, ht, Nat.le_refl _, by simp⟩
  | pair hh l q m ihl ihq =>
    intro r i hI ht
    have hd := (node_wf' par hn hI ht).2
    simp only [Tr.dep] at hd
    obtain ⟨r, rfl⟩ : ∃ r1, r = r1 + 1 := ⟨r - 1, by omega⟩
    simp only [whereN, Tr.find]
    rw [hI.left hn]
    simp only [Option.getD_some]
    split
    · have := node_kid par (L := L) hn hI 0 (by omega)
      rw [ht] at this
      obtain ⟨r', i', g1, g2, g3, g4, g5⟩ := ihl r (2 * i + 0) (hI.kid 0 (by omega)) this
      refine ⟨r', i', g1, g2, g3, by omega, ?_⟩
      rw [show r + 1 - r' = r - r' + 1 by omega, Nat.pow_succ, ← Nat.div_div_eq_div_mul, g5]; omega
    · have := node_kid par (L := L) hn hI 1 (by omega)
      rw [ht] at this
      obtain ⟨r', i', g1, g2, g3, g4, g5⟩ := ihq r (2 * i + 1) (hI.kid 1 (by omega)) this
      refine ⟨r', i', g1, ?_, g3, by omega, ?_⟩
      · rw [← g2]; congr 1
      · rw [show r + 1 - r' = r - r' + 1 by omega, Nat.pow_succ, ← Nat.div_div_eq_div_mul, g5]; omega
/-- a leaf, live: the tree it is in -/
theorem where_tree {L : Nat → Option H} {n x : Nat} {a : H} (hn : n < 2 ^ 63) (hx : x < n) (hL : L x = some a) :
    ∃ h t, h < 63 ∧ bitN n h = true ∧ buildT par L h (firstN n h) = some t ∧ firstN n h ≤ x ∧ x < firstN n h + 2 ^ h ∧ t.find x = a ∧ whereT (treesT par L n) n x = whereN (rowsN n) t ((rootN n h).getD 0) x := by
  obtain ⟨t, ht, hin⟩ := find_tree par (L := L) hn hx
  have hf : ∃ t', (treesT par L n).find? (inT x) = some t' := by
    cases hc : (treesT par L n).find? (inT x) with
    | some t' => exact ⟨t', rfl⟩
    | none => rw [List.find?_eq_none] at hc; exact absurd hin (hc t ht)
  obtain ⟨t', hf⟩ := hf
  have hm := List.mem_of_find?_eq_some hf
  have hi := List.find?_some hf
  obtain ⟨r, hr⟩ := in_tree par hm hi (by rw [hL]; rfl)
  obtain ⟨h, hh, rfl⟩ := List.mem_map.1 hm
  simp only at hr
  have hb := (treesN_mem hn).1 hh
  simp only [inT, decide_eq_true_eq] at hi
  refine ⟨h, r, hb.1, hb.2, hr, hi.1, by omega, build_find par _ _ _ hr x a hi.1 (by omega) hL, ?_⟩
  unfold whereT
  rw [hf, hr]
/-- where a live leaf stands -/
theorem where_spot {L : Nat → Option H} {n x : Nat} {a : H} (hn : n < 2 ^ 63) (hx : x < n) (hL : L x = some a) :
    ∃ h r i, InT n h r i ∧ whereT (treesT par L n) n x = posN (rowsN n) r i ∧ nodeN par L n (posN (rowsN n) r i) = some (.leaf a) := by
  obtain ⟨h, t, h63, hb, ht, h1, h2, hfind, hw⟩ := where_tree par hn hx hL
  obtain ⟨hI, hroot⟩ := root_in hn hb
  have hnode := node_root par (L := L) hn hI
  rw [ht] at hnode
  obtain ⟨r, i, g1, g2, g3, _⟩ := where_pos par (x := x) hn t _ _ hI hnode
  rw [hfind] at g3
  exact ⟨h, r, i, g1, by rw [hw, hroot]; exact g2, g3⟩
end
end Go.Sp

namespace Go.Sp
section
variable {H : Type} (par : H → H → H)
theorem node_above {L : Nat → Option H} {n h r i : Nat} (hn : n < 2 ^ 63) (hI : InT n h r i) (hr : r < h) {t : Tr H} (ht : nodeN par L n (posN (rowsN n) r i) = some t) :
    ∃ hh l q m, nodeN par L n (posN (rowsN n) (r + 1) (i / 2)) = some (.pair hh l q m) := by
  rw [node_step par hn hI hr] at ht
  unfold stepT at ht
  split at ht
  · rename_i hh l q m heq
    exact ⟨hh, l, q, m, heq⟩
  · cases ht
/-- all that is above what stands is a pair -/
theorem node_up {L : Nat → Option H} {n h : Nat} (hn : n < 2 ^ 63) : ∀ (j r i : Nat) (t : Tr H), InT n h r i → nodeN par L n (posN (rowsN n) r i) = some t → r + (j + 1) ≤ h →
    ∃ hh l q m, nodeN par L n (posN (rowsN n) (r + (j + 1)) (i / 2 ^ (j + 1))) = some (.pair hh l q m) := by
  intro j
  induction j with
  | zero =>
    intro r i t hI ht hj
    have := node_above par hn hI (by omega) ht
    simpa using this
  | succ j ih =>
    intro r i t hI ht hj
    obtain ⟨hh, l, q, m, hp⟩ := node_above par hn hI (by omega) ht
    have := ih (r + 1) (i / 2) _ (hI.up (by omega)) hp (by omega)
    rw [div_step, show r + 1 + (j + 1) = r + (j + 1 + 1) by omega] at this
    exact this
/-- live leaves' places may be targets -/
theorem leaves_fine {L : Nat → Option H} {n : Nat} (hn : n < 2 ^ 63) {T : List Nat} (h : ∀ t ∈ T, ∃ h r i a, InT n h r i ∧ t = posN (rowsN n) r i ∧ nodeN par L n t = some (.leaf a)) (hnd : T.Nodup) : Fine n T := by
  refine ⟨fun t ht => ?_, hnd, fun t ht q hq hne hqT => ?_⟩
  · obtain ⟨h', r, i, a, hI, rfl, _⟩ := h t ht
    rw [hI.tree hn]; rfl
  · obtain ⟨h', r, i, a, hI, rfl, hleaf⟩ := h t ht
    obtain ⟨j, hj, rfl, hI', _⟩ := ups_above hn hI hq
    obtain ⟨_, _, _, b, _, _, hb⟩ := h _ hqT
    cases j with
    | zero => exact hne (by simp)
    | succ j =>
      obtain ⟨hh, l, q, m, hp⟩ := node_up par hn j r i _ hI hleaf (by have := hI.le; omega)
      rw [hp] at hb; cases hb
variable (z : H)
end
end Go.Sp


namespace Go.Sp
theorem lv_some {L : List (Option Hash)} {x : Nat} {a : Hash} : lv L x = some a ↔ L[x]? = some (some a) := by
  unfold lv
  cases h : L[x]? with
  | none => simp
  | some o => cases o <;> simp
theorem num_some {L : List (Option Hash)} {a : Hash} (h : some a ∈ L) : lv L (numL L a) = some a ∧ numL L a < L.length := by
  have hlt := List.idxOf_lt_length_of_mem h
  refine ⟨?_, hlt⟩
  rw [lv_some, numL, List.getElem?_eq_getElem hlt, List.getElem_idxOf hlt]
theorem spot_some {L : List (Option Hash)} {a : Hash} (hn : L.length < 2 ^ 63) (h : some a ∈ L) :
    ∃ h r i, InT L.length h r i ∧ spotL L a = posN (rowsN L.length) r i ∧ nodeN parH (lv L) L.length (posN (rowsN L.length) r i) = some (.leaf a) := by
  obtain ⟨h1, h2⟩ := num_some h
  exact where_spot parH hn h2 h1
theorem spot_node {L : List (Option Hash)} {a : Hash} (hn : L.length < 2 ^ 63) (h : some a ∈ L) : nodeN parH (lv L) L.length (spotL L a) = some (.leaf a) := by
  obtain ⟨h', r, i, _, h2, h3⟩ := spot_some hn h
  rw [h2, h3]
theorem spot_inj {L : List (Option Hash)} {a b : Hash} (hn : L.length < 2 ^ 63) (ha : some a ∈ L) (hb : some b ∈ L) (he : spotL L a = spotL L b) : a = b := by
  have h1 := spot_node hn ha
  have h2 := spot_node hn hb
  rw [he, h2] at h1
  cases h1; rfl
theorem proof_fine {L : List (Option Hash)} {l : List Hash} (hn : L.length < 2 ^ 63) (hl : ∀ h ∈ l, some h ∈ L) (hd : l.Nodup) : Fine L.length (proofT L l) := by
  refine leaves_fine parH (L := lv L) hn (fun t ht => ?_) ?_
  · obtain ⟨a, ha, rfl⟩ := List.mem_map.1 ht
    obtain ⟨h, r, i, h1, h2, h3⟩ := spot_some hn (hl a ha)
    exact ⟨h, r, i, a, h1, h2, by rw [h2]; exact h3⟩
  · rw [proofT, List.nodup_iff_pairwise_ne, List.pairwise_map]
    rw [List.nodup_iff_pairwise_ne] at hd
    exact hd.imp_of_mem (fun {a b} ha hb hne he => hne (spot_inj hn (hl a ha) (hl b hb) he))
end Go.Sp

namespace Go.Sp
/-- is a place emptied that is no descendant of a target? -/
def emptN (T : List Nat) (m : List (Nat × Nat)) (R : Nat) : Nat → Nat → Bool
  | 0, p => decide (p ∈ T)
  | f + 1, p => if p ∈ T then true else if (aget p m).getD 0 = 0 then false else
    emptN T m R f ((leftN p R).getD 0) && emptN T m R f ((siblingN ((leftN p R).getD 0) R).getD 0)
/-- is a place emptied, or below one that is? -/
def goneN (n : Nat) (T : List Nat) (m : List (Nat × Nat)) (p : Nat) : Bool := (wayN n p).any (fun q => decide (q ∈ T)) || emptN T m (rowsN n) 64 p
def moveStep (T : List Nat) (m : List (Nat × Nat)) (R place next : Nat) : Nat :=
  if emptN T m R 64 ((siblingN next R).getD 0) = true then place else (leftN place R).getD 0 + next % 2
def movedN (n : Nat) (T : List Nat) (m : List (Nat × Nat)) (p : Nat) : Nat := (wayN n p).dropLast.reverse.foldl (moveStep T m (rowsN n)) ((wayN n p).getLast?.getD 0)
end Go.Sp

namespace Go.Sp
section
variable {H : Type} [DecidableEq H] (par : H → H → H)
/-- a tree without the leaves that go -/
def cutT (del : List H) : Tr H → Option (Tr H)
  | .leaf h => if h ∈ del then none else some (.leaf h)
  | .pair _ l r m => joinT par (cutT del l) (cutT del r) m
theorem cut_build {L : List (Option H)} {del : List H} : ∀ (k f : Nat), buildT par (lvG (goneL del L)) k f = (buildT par (lvG L) k f).bind (cutT par del) := by
  intro k
  induction k with
  | zero =>
    intro f
    simp only [buildT, lvG, goneL, List.getElem?_map]
    cases h : L[f]? with
    | none => rfl
    | some o =>
      cases o with
      | none => rfl
      | some a =>
        simp only [Option.map_some, Option.join_some, Option.bind_some, cutT, Option.filter]
        by_cases ha : a ∈ del
        · simp [ha]
        · simp [ha]
  | succ k ih =>
    intro f
    simp only [buildT, ih]
    cases buildT par (lvG L) k f with
    | none => rfl
    | some a =>
      cases buildT par (lvG L) k (f + 2 ^ k) with
      | none =>
        simp only [Option.bind_some, Option.bind_none, joinT]
        cases cutT par del a <;> rfl
      | some b => rfl
theorem ups_snoc (R : Nat) : ∀ (k r i : Nat), upsN R (k + 1) r i = upsN R k r i ++ [posN R (r + k + 1) (i / 2 ^ (k + 1))] := by
  intro k
  induction k with
  | zero => intro r i; simp [upsN]
  | succ k ih =>
    intro r i
    rw [upsN, ih, upsN, List.cons_append, div_step]
    congr 4; omega
variable {L : Nat → Option H} {n h : Nat} {T : List Nat} {m : List (Nat × Nat)} {del : List H}
/-- what targets stand for: the leaves that go -/
structure Goes (L : Nat → Option H) (n : Nat) (T : List Nat) (del : List H) : Prop where
  leaf : ∀ t ∈ T, ∃ h r i a, InT n h r i ∧ t = posN (rowsN n) r i ∧ nodeN par L n t = some (.leaf a) ∧ a ∈ del
  all : ∀ h r i a, InT n h r i → nodeN par L n (posN (rowsN n) r i) = some (.leaf a) → a ∈ del → posN (rowsN n) r i ∈ T
theorem empt_way (hM : Made n T m) : ∀ (f r i : Nat), InT n h r i → emptN T m (rowsN n) f (posN (rowsN n) r i) = true → ∃ t ∈ T, posN (rowsN n) r i ∈ wayN n t := by
  have hn := hM.n63
  have self : ∀ r i, InT n h r i → posN (rowsN n) r i ∈ T → ∃ t ∈ T, posN (rowsN n) r i ∈ wayN n t := fun r i hI hT => ⟨_, hT, way_self (by rw [hI.way hn]; exact ups_ne _ _ _ _)⟩
  intro f r i hI he
  cases f with
  | zero =>
    simp only [emptN, decide_eq_true_eq] at he
    exact self r i hI he
  | succ f =>
    simp only [emptN] at he
    split at he
    · exact self r i hI ‹_›
    · split at he
      · cases he
      · rename_i hw
        exact Classical.byContradiction fun hc => hw ((hM.zero _).2 hc)
theorem way_parent (hn : n < 2 ^ 63) {r i t : Nat} (hI : InT n h r i) (hr : r < h) (hq : posN (rowsN n) r i ∈ wayN n t) : posN (rowsN n) (r + 1) (i / 2) ∈ wayN n t := by
  refine way_sub hq ?_
  rw [hI.way hn, mem_ups]
  exact ⟨1, by omega, by simp⟩
/-- a place is emptied just if no leaf stays below it -/
theorem empt_cut (hM : Made n T m) (hG : Goes par L n T del) : ∀ (t : Tr H) (f r i : Nat), InT n h r i → r ≤ f → nodeN par L n (posN (rowsN n) r i) = some t → emptN T m (rowsN n) f (posN (rowsN n) r i) = (cutT par del t).isNone := by
  have hn := hM.n63
  intro t
  induction t with
  | leaf a =>
    intro f r i hI hf ht
    by_cases ha : a ∈ del
    · have hT := hG.all h r i a hI ht ha
      have : emptN T m (rowsN n) f (posN (rowsN n) r i) = true := by cases f <;> simp [emptN, hT]
      rw [this]; simp [cutT, ha]
    · have hT : posN (rowsN n) r i ∉ T := fun hT => by
        obtain ⟨_, _, _, b, _, _, hb, hd⟩ := hG.leaf _ hT
        rw [ht] at hb; cases hb; exact ha hd
      have hw : ¬ ∃ t ∈ T, posN (rowsN n) r i ∈ wayN n t := by
        rintro ⟨t, htT, hq⟩
        obtain ⟨h', r', i', b, hI', rfl, hb, _⟩ := hG.leaf _ htT
        obtain ⟨j, hj, he, hI2, _⟩ := ups_above hn hI' hq
        cases j with
        | zero => rw [he] at hT; exact hT (by simpa using htT)
        | succ j =>
          obtain ⟨hh, l, q, mm, hp⟩ := node_up par hn j r' i' _ hI' hb (by have := hI'.le; omega)
          rw [← he, ht] at hp; cases hp
      have : emptN T m (rowsN n) f (posN (rowsN n) r i) = false := by cases f <;> simp [emptN, hT, (hM.zero _).2 hw]
      rw [this]; simp [cutT, ha]
  | pair hh l q mm ihl ihq =>
    intro f r i hI hf ht
    have hd := (node_wf' par hn hI ht).2
    simp only [Tr.dep] at hd
    obtain ⟨r, rfl⟩ : ∃ r1, r = r1 + 1 := ⟨r - 1, by omega⟩
    obtain ⟨f, rfl⟩ : ∃ f1, f = f1 + 1 := ⟨f - 1, by omega⟩
    have hT : posN (rowsN n) (r + 1) i ∉ T := fun hT => by
      obtain ⟨_, _, _, b, _, _, hb, hd⟩ := hG.leaf _ hT
      rw [ht] at hb; cases hb
    have hlt := hI.le
    have k0 := node_kid par (L := L) hn hI 0 (by omega)
    have k1 := node_kid par (L := L) hn hI 1 (by omega)
    rw [ht] at k0 k1
    simp only [if_true] at k0
    simp only [Nat.one_ne_zero, if_false] at k1
    have e0 := ihl f r (2 * i + 0) (hI.kid 0 (by omega)) (by omega) k0
    have e1 := ihq f r (2 * i + 1) (hI.kid 1 (by omega)) (by omega) k1
    have hl1 : (siblingN (posN (rowsN n) r (2 * i)) (rowsN n)).getD 0 = posN (rowsN n) r (2 * i + 1) := by
      have := (hI.kid 0 (by omega)).sibling hn (by omega)
      simp only [Nat.add_zero] at this
      rw [this]
      simp only [Option.getD_some]
      congr 1; unfold sibI; rw [if_pos (by omega)]
    have hcut : (cutT par del (.pair hh l q mm)).isNone = ((cutT par del l).isNone && (cutT par del q).isNone) := by
      simp only [cutT]
      cases cutT par del l <;> cases cutT par del q <;> rfl
    rw [hcut, ← e0, ← e1]
    simp only [emptN, if_neg hT, hI.left hn, Option.getD_some, hl1]
    by_cases hw : (aget (posN (rowsN n) (r + 1) i) m).getD 0 = 0
    · rw [if_pos hw]
      have hno := (hM.zero _).1 hw
      cases hq : emptN T m (rowsN n) f (posN (rowsN n) r (2 * i)) with
      | false => simp [hq]
      | true =>
        obtain ⟨t, htT, hq'⟩ := empt_way hM f r (2 * i) (hI.kid 0 (by omega)) hq
        have := way_parent hn (hI.kid 0 (by omega)) (by omega) hq'
        rw [show (2 * i + 0) / 2 = i by omega] at this
        exact absurd ⟨t, htT, this⟩ hno
    · rw [if_neg hw]; simp
/-- the walk down, as far as a leaf that stays -/
theorem move_tree (hM : Made n T m) (hG : Goes par L n T del) (hf : rowsN n ≤ 64) (x : Nat) : ∀ (t t' : Tr H) (r i P : Nat), InT n h r i → nodeN par L n (posN (rowsN n) r i) = some t → cutT par del t = some t' → t.find x ∉ del →
    ∃ r' i', r' ≤ r ∧ i' / 2 ^ (r - r') = i ∧ whereN (rowsN n) t (posN (rowsN n) r i) x = posN (rowsN n) r' i' ∧ ((upsN (rowsN n) (r - r') r' i').dropLast.reverse).foldl (moveStep T m (rowsN n)) P = whereN (rowsN n) t' P x := by
  have hn := hM.n63
  intro t
  induction t with
  | leaf a =>
    intro t' r i P hI ht hc hx
    simp only [cutT] at hc
    split at hc
    · cases hc
    · cases hc
      exact ⟨r, i, Nat.le_refl _, by simp, rfl, by simp [upsN, whereN]⟩
  | pair hh l q mm ihl ihq =>
    intro t' r i P hI ht hc hx
    have hd := (node_wf' par hn hI ht).2
    simp only [Tr.dep] at hd
    obtain ⟨r, rfl⟩ : ∃ r1, r = r1 + 1 := ⟨r - 1, by omega⟩
    have hlt := hI.le
    have hrr := hI.rows hn
    have k0 := node_kid par (L := L) hn hI 0 (by omega)
    have k1 := node_kid par (L := L) hn hI 1 (by omega)
    rw [ht] at k0 k1
    simp only [if_true] at k0
    simp only [Nat.one_ne_zero, if_false] at k1
    have e0 := empt_cut par hM hG l 64 r (2 * i + 0) (hI.kid 0 (by omega)) (by omega) k0
    have e1 := empt_cut par hM hG q 64 r (2 * i + 1) (hI.kid 1 (by omega)) (by omega) k1
    have s0 : (siblingN (posN (rowsN n) r (2 * i + 0)) (rowsN n)).getD 0 = posN (rowsN n) r (2 * i + 1) := by
      rw [(hI.kid 0 (by omega)).sibling hn (by omega)]
      simp only [Option.getD_some]
      congr 1; unfold sibI; rw [if_pos (by omega)]
    have s1 : (siblingN (posN (rowsN n) r (2 * i + 1)) (rowsN n)).getD 0 = posN (rowsN n) r (2 * i + 0) := by
      rw [(hI.kid 1 (by omega)).sibling hn (by omega)]
      simp only [Option.getD_some]
      congr 1; unfold sibI; rw [if_neg (by omega)]; omega
    have p0 : posN (rowsN n) r (2 * i + 0) % 2 = 0 := by rw [pos_mod (by omega)]; omega
    have p1 : posN (rowsN n) r (2 * i + 1) % 2 = 1 := by rw [pos_mod (by omega)]; omega
    simp only [whereN, hI.left hn, Option.getD_some]
    simp only [Tr.find] at hx
    -- one step up
    have lift : ∀ (b r' i' : Nat), r' ≤ r → i' / 2 ^ (r - r') = 2 * i + b → b < 2 → ∀ P', moveStep T m (rowsN n) P (posN (rowsN n) r (2 * i + b)) = P' →
        i' / 2 ^ (r + 1 - r') = i ∧ ((upsN (rowsN n) (r + 1 - r') r' i').dropLast.reverse).foldl (moveStep T m (rowsN n)) P = ((upsN (rowsN n) (r - r') r' i').dropLast.reverse).foldl (moveStep T m (rowsN n)) P' := by
      intro b r' i' h1 h2 hb P' hP
      refine ⟨by rw [show r + 1 - r' = r - r' + 1 by omega, Nat.pow_succ, ← Nat.div_div_eq_div_mul, h2]; omega, ?_⟩
      rw [show r + 1 - r' = r - r' + 1 by omega, ups_snoc, List.dropLast_concat]
      have hl := ups_last (rowsN n) (r - r') r' i'
      rw [show r' + (r - r') = r by omega, h2] at hl
      have hsp : upsN (rowsN n) (r - r') r' i' = (upsN (rowsN n) (r - r') r' i').dropLast ++ [posN (rowsN n) r (2 * i + b)] := by
        have hne := ups_ne (rowsN n) (r - r') r' i'
        have h3 := List.dropLast_concat_getLast hne
        rw [List.getLast?_eq_some_getLast hne] at hl
        rw [Option.some.inj hl] at h3
        exact h3.symm
      conv => lhs; rw [hsp, List.reverse_append, List.foldl_append]
      simp only [List.reverse_singleton, List.foldl_cons, List.foldl_nil, hP]
    cases hcl : cutT par del l with
    | none =>
      rw [cutT, hcl] at hc
      simp only [joinT] at hc
      have hxm : ¬ x < mm := by
        intro hlt'
        rw [if_pos hlt'] at hx
        -- a leaf that stays is in l
        have : ∀ (u : Tr H), u.find x ∉ del → cutT par del u ≠ none := by
          intro u
          induction u with
          | leaf b => intro hb; simp only [Tr.find] at hb; simp [cutT, hb]
          | pair h' u1 u2 m' i1 i2 =>
            intro hb
            simp only [Tr.find] at hb
            simp only [cutT]
            split at hb
            · have := i1 hb
              cases hq : cutT par del u1 with
              | none => exact absurd hq this
              | some y => cases cutT par del u2 <;> simp [joinT]
            · have := i2 hb
              cases hq : cutT par del u2 with
              | none => exact absurd hq this
              | some y => cases cutT par del u1 <;> simp [joinT]
        exact this l hx hcl
      rw [if_neg hxm] at hx ⊢
      obtain ⟨r', i', g1, g2, g3, g4⟩ := ihq t' r (2 * i + 1) P (hI.kid 1 (by omega)) k1 hc hx
      have hstep : moveStep T m (rowsN n) P (posN (rowsN n) r (2 * i + 1)) = P := by
        unfold moveStep
        rw [s1, e0, hcl]; simp
      obtain ⟨a1, a2⟩ := lift 1 r' i' g1 g2 (by omega) P hstep
      exact ⟨r', i', by omega, a1, g3, by rw [a2]; exact g4⟩
    | some l' =>
      cases hcq : cutT par del q with
      | none =>
        rw [cutT, hcl, hcq] at hc
        simp only [joinT, Option.some.injEq] at hc
        subst hc
        have hxm : x < mm := by
          refine Classical.byContradiction fun hlt' => ?_
          rw [if_neg hlt'] at hx
          have : ∀ (u : Tr H), u.find x ∉ del → cutT par del u ≠ none := by
            intro u
            induction u with
            | leaf b => intro hb; simp only [Tr.find] at hb; simp [cutT, hb]
            | pair h' u1 u2 m' i1 i2 =>
              intro hb
              simp only [Tr.find] at hb
              simp only [cutT]
              split at hb
              · have := i1 hb
                cases hq : cutT par del u1 with
                | none => exact absurd hq this
                | some y => cases cutT par del u2 <;> simp [joinT]
              · have := i2 hb
                cases hq : cutT par del u2 with
                | none => exact absurd hq this
                | some y => cases cutT par del u1 <;> simp [joinT]
          exact this q hx hcq
        rw [if_pos hxm] at hx ⊢
        obtain ⟨r', i', g1, g2, g3, g4⟩ := ihl l' r (2 * i + 0) P (hI.kid 0 (by omega)) k0 hcl hx
        have hstep : moveStep T m (rowsN n) P (posN (rowsN n) r (2 * i + 0)) = P := by
          unfold moveStep
          rw [s0, e1, hcq]; simp
        obtain ⟨a1, a2⟩ := lift 0 r' i' g1 g2 (by omega) P hstep
        exact ⟨r', i', by omega, a1, g3, by rw [a2]; exact g4⟩
      | some q' =>
        rw [cutT, hcl, hcq] at hc
        simp only [joinT, Option.some.injEq] at hc
        subst hc
        simp only [whereN]
        by_cases hxm : x < mm
        · rw [if_pos hxm] at hx ⊢
          rw [if_pos hxm]
          obtain ⟨r', i', g1, g2, g3, g4⟩ := ihl l' r (2 * i + 0) ((leftN P (rowsN n)).getD 0) (hI.kid 0 (by omega)) k0 hcl hx
          have hstep : moveStep T m (rowsN n) P (posN (rowsN n) r (2 * i + 0)) = (leftN P (rowsN n)).getD 0 := by
            unfold moveStep
            rw [s0, e1, hcq, p0]; simp
          obtain ⟨a1, a2⟩ := lift 0 r' i' g1 g2 (by omega) _ hstep
          exact ⟨r', i', by omega, a1, g3, by rw [a2]; exact g4⟩
        · rw [if_neg hxm] at hx ⊢
          rw [if_neg hxm]
          obtain ⟨r', i', g1, g2, g3, g4⟩ := ihq q' r (2 * i + 1) ((leftN P (rowsN n)).getD 0 + 1) (hI.kid 1 (by omega)) k1 hcq hx
          have hstep : moveStep T m (rowsN n) P (posN (rowsN n) r (2 * i + 1)) = (leftN P (rowsN n)).getD 0 + 1 := by
            unfold moveStep
            rw [s1, e0, hcl, p1]; simp
          obtain ⟨a1, a2⟩ := lift 1 r' i' g1 g2 (by omega) _ hstep
          exact ⟨r', i', by omega, a1, g3, by rw [a2]; exact g4⟩
end
end Go.Sp

namespace Go.Sp
section
variable {H : Type} (par : H → H → H)
theorem in_leaf {n h x : Nat} (hb : bitN n h = true) (h1 : firstN n h ≤ x) (h2 : x < firstN n h + 2 ^ h) : InT n h 0 x := by
  refine ⟨Nat.zero_le _, hb, ?_⟩
  rw [Nat.sub_zero]
  have hp : 0 < 2 ^ h := Nat.pow_pos (by omega)
  have e : firstN n h = n / 2 ^ (h + 1) * 2 * 2 ^ h := by rw [firstN, Nat.pow_succ, Nat.mul_assoc, Nat.mul_comm 2]
  rw [e] at h1 h2
  clear e
  generalize n / 2 ^ (h + 1) * 2 = y at *
  obtain ⟨d, rfl⟩ : ∃ d, x = y * 2 ^ h + d := ⟨x - y * 2 ^ h, by omega⟩
  have hd : d < 2 ^ h := by omega
  rw [Nat.mul_comm y, Nat.mul_add_div hp, Nat.div_eq_of_lt hd, Nat.add_zero]
theorem whereT_of {L : Nat → Option H} {n h x : Nat} {t : Tr H} (hn : n < 2 ^ 63) (h63 : h < 63) (hb : bitN n h = true) (h1 : firstN n h ≤ x) (h2 : x < firstN n h + 2 ^ h) (ht : buildT par L h (firstN n h) = some t) :
    whereT (treesT par L n) n x = whereN (rowsN n) t ((rootN n h).getD 0) x := by
  have hI := in_leaf hb h1 h2
  have hm : (some t, firstN n h, h) ∈ treesT par L n := List.mem_map.2 ⟨h, (treesN_mem hn).2 ⟨h63, hb⟩, by rw [ht]⟩
  have hin : inT x ((some t, firstN n h, h) : TT H) = true := by simp only [inT, decide_eq_true_eq]; omega
  cases hc : (treesT par L n).find? (inT x) with
  | none => rw [List.find?_eq_none] at hc; exact absurd hin (hc _ hm)
  | some t' =>
    have hm' := List.mem_of_find?_eq_some hc
    have hi' := List.find?_some hc
    obtain ⟨h', hh', rfl⟩ := List.mem_map.1 hm'
    simp only [inT, decide_eq_true_eq] at hi'
    have hb' := (treesN_mem hn).1 hh'
    have : h' = h := (in_leaf hb'.2 hi'.1 (by omega)).uniq hI
    subst this
    unfold whereT
    rw [hc, ht]
/-- a leaf that stands has a number -/
theorem leaf_num {L : Nat → Option H} {n h : Nat} (hn : n < 2 ^ 63) {a : H} {r2 i2 : Nat} (hI2 : InT n h r2 i2) (h2 : nodeN par L n (posN (rowsN n) r2 i2) = some (.leaf a)) :
    ∀ (k f r i : Nat) (t : Tr H), InT n h r i → r2 ≤ r → i2 / 2 ^ (r - r2) = i → buildT par L k f = some t → nodeN par L n (posN (rowsN n) r i) = some t →
      ∃ x, f ≤ x ∧ x < f + 2 ^ k ∧ L x = some a ∧ whereN (rowsN n) t (posN (rowsN n) r i) x = posN (rowsN n) r2 i2 := by
  intro k
  induction k with
  | zero =>
    intro f r i t hI hr hi ht hnode
    simp only [buildT, Option.map_eq_some_iff] at ht
    obtain ⟨b, hb, rfl⟩ := ht
    rcases Nat.eq_or_lt_of_le hr with he | hlt
    · subst he
      have : i2 = i := by simpa using hi
      subst this
      rw [hnode] at h2
      cases h2
      exact ⟨f, Nat.le_refl _, by simp, hb, rfl⟩
    · obtain ⟨hh, x, y, z, hp⟩ := node_up par hn (r - r2 - 1) r2 i2 _ hI2 h2 (by have := hI.le; omega)
      rw [show r2 + (r - r2 - 1 + 1) = r by omega, show r - r2 - 1 + 1 = r - r2 by omega, hi, hnode] at hp
      cases hp
  | succ k ih =>
    intro f r i t hI hr hi ht hnode
    have hp2 : 0 < 2 ^ k := Nat.pow_pos (by omega)
    simp only [buildT] at ht
    cases ha : buildT par L k f with
    | none =>
      rw [ha] at ht
      obtain ⟨x, g1, g2, g3, g4⟩ := ih (f + 2 ^ k) r i t hI hr hi ht hnode
      exact ⟨x, by omega, by rw [Nat.pow_succ]; omega, g3, g4⟩
    | some ta =>
      cases hb : buildT par L k (f + 2 ^ k) with
      | none =>
        rw [ha, hb] at ht
        simp only [joinT] at ht
        obtain ⟨x, g1, g2, g3, g4⟩ := ih f r i t hI hr hi (ha.trans ht) hnode
        exact ⟨x, g1, by rw [Nat.pow_succ]; omega, g3, g4⟩
      | some tb =>
        rw [ha, hb] at ht
        simp only [joinT, Option.some.injEq] at ht
        subst ht
        have hd := (node_wf' par hn hI hnode).2
        simp only [Tr.dep] at hd
        rcases Nat.eq_or_lt_of_le hr with he | hlt
        · subst he
          have : i2 = i := by simpa using hi
          subst this
          rw [hnode] at h2; cases h2
        obtain ⟨r, rfl⟩ : ∃ r1, r = r1 + 1 := ⟨r - 1, by omega⟩
        have k0 := node_kid par (L := L) hn hI 0 (by omega)
        have k1 := node_kid par (L := L) hn hI 1 (by omega)
        rw [hnode] at k0 k1
        simp only [if_true] at k0
        simp only [Nat.one_ne_zero, if_false] at k1
        have hi' : i2 / 2 ^ (r - r2) / 2 = i := by rw [Nat.div_div_eq_div_mul, ← Nat.pow_succ, show (r - r2).succ = r + 1 - r2 by omega]; exact hi
        simp only [whereN, hI.left hn, Option.getD_some]
        by_cases hpar : i2 / 2 ^ (r - r2) % 2 = 0
        · obtain ⟨x, g1, g2, g3, g4⟩ := ih f r (2 * i + 0) ta (hI.kid 0 (by omega)) (by omega) (by omega) ha k0
          exact ⟨x, g1, by rw [Nat.pow_succ]; omega, g3, by rw [if_pos (by omega)]; exact g4⟩
        · obtain ⟨x, g1, g2, g3, g4⟩ := ih (f + 2 ^ k) r (2 * i + 1) tb (hI.kid 1 (by omega)) (by omega) (by omega) hb k1
          exact ⟨x, by omega, by rw [Nat.pow_succ]; omega, g3, by rw [if_neg (by omega)]; exact g4⟩
theorem leaf_where {L : Nat → Option H} {n h r i : Nat} (hn : n < 2 ^ 63) {a : H} (hI : InT n h r i) (ha : nodeN par L n (posN (rowsN n) r i) = some (.leaf a)) :
    ∃ x, L x = some a ∧ x < n ∧ whereT (treesT par L n) n x = posN (rowsN n) r i := by
  have hle := hI.le
  obtain ⟨hroot, hq⟩ := root_in hn hI.bit
  have hi : i / 2 ^ (h - r) = n / 2 ^ (h + 1) * 2 := hI.idx
  have hstand : ∃ t, nodeN par L n (posN (rowsN n) h (n / 2 ^ (h + 1) * 2)) = some t := by
    rcases Nat.eq_or_lt_of_le hle with he | hlt
    · subst he
      rw [Nat.sub_self, Nat.pow_zero, Nat.div_one] at hi
      rw [← hi]; exact ⟨_, ha⟩
    · obtain ⟨hh, x, y, z, hp⟩ := node_up par hn (h - r - 1) r i _ hI ha (by omega)
      rw [show r + (h - r - 1 + 1) = h by omega, show h - r - 1 + 1 = h - r by omega, hi] at hp
      exact ⟨_, hp⟩
  obtain ⟨t, ht⟩ := hstand
  have hb := ht
  rw [node_root par hn hroot] at hb
  obtain ⟨x, g1, g2, g3, g4⟩ := leaf_num par hn hI ha h (firstN n h) h _ t hroot hle hi hb ht
  have h63 : h < 63 := by
    have := bitN_le hI.bit
    exact pow_lt_imp (by omega)
  refine ⟨x, g3, by have := bitN_le hI.bit; omega, ?_⟩
  rw [whereT_of par hn h63 hI.bit g1 g2 hb, hq]
  exact g4
end
/-- each hash is live at one number at most -/
def Uniq (L : List (Option Hash)) : Prop := ∀ (x y : Nat) (a : Hash), L[x]? = some (some a) → L[y]? = some (some a) → x = y
theorem num_eq {L : List (Option Hash)} (hU : Uniq L) {x : Nat} {a : Hash} (hx : L[x]? = some (some a)) : numL L a = x := by
  have hm : some a ∈ L := List.mem_of_getElem? hx
  have hlt := List.idxOf_lt_length_of_mem hm
  refine hU _ _ a ?_ hx
  rw [numL, List.getElem?_eq_getElem hlt, List.getElem_idxOf hlt]
theorem proof_goes {L : List (Option Hash)} {del : List Hash} (hn : L.length < 2 ^ 63) (hU : Uniq L) (hl : ∀ h ∈ del, some h ∈ L) : Goes parH (lv L) L.length (proofT L del) del := by
  refine ⟨fun t ht => ?_, fun h r i a hI ha hd => ?_⟩
  · obtain ⟨a, ha, rfl⟩ := List.mem_map.1 ht
    obtain ⟨h, r, i, h1, h2, h3⟩ := spot_some hn (hl a ha)
    exact ⟨h, r, i, a, h1, h2, by rw [h2]; exact h3, ha⟩
  · obtain ⟨x, g1, g2, g3⟩ := leaf_where parH hn hI ha
    rw [← g3, ← num_eq hU (lv_some.1 g1)]
    exact List.mem_map.2 ⟨a, hd, rfl⟩
theorem gone_law {L : List (Option Hash)} {del : List Hash} {m : List (Nat × Nat)} (hn : L.length < 2 ^ 63) (hU : Uniq L) (hl : ∀ h ∈ del, some h ∈ L) (hM : Made L.length (proofT L del) m) {a : Hash} (ha : some a ∈ L) :
    goneN L.length (proofT L del) m (spotL L a) = decide (a ∈ del) := by
  obtain ⟨h, r, i, hI, h2, h3⟩ := spot_some hn ha
  have hG := proof_goes hn hU hl
  have he := empt_cut parH hM hG (.leaf a) 64 r i hI (by have := hI.rows hn; have := rowsN_le hn; omega) h3
  unfold goneN
  rw [h2, he]
  by_cases hd : a ∈ del
  · simp [cutT, hd]
  · simp only [cutT, if_neg hd, Option.isNone_some, Bool.or_false, decide_eq_false hd]
    rw [List.any_eq_false]
    intro q hq
    simp only [decide_eq_true_eq]
    intro hT
    obtain ⟨_, _, _, b, _, _, hb, hbd⟩ := hG.leaf q hT
    obtain ⟨j, hj, rfl, hI', _⟩ := ups_above hn hI hq
    cases j with
    | zero =>
      simp only [Nat.add_zero, Nat.pow_zero, Nat.div_one] at hb
      rw [h3] at hb; cases hb; exact hd hbd
    | succ j =>
      obtain ⟨hh, x, y, z, hp⟩ := node_up parH hn j r i _ hI h3 (by have := hI.le; omega)
      rw [hp] at hb; cases hb
theorem moved_law {L : List (Option Hash)} {del : List Hash} {m : List (Nat × Nat)} (hn : L.length < 2 ^ 63) (hU : Uniq L) (hl : ∀ h ∈ del, some h ∈ L) (hM : Made L.length (proofT L del) m) {a : Hash} (ha : some a ∈ L) (hd : a ∉ del) :
    movedN L.length (proofT L del) m (spotL L a) = spotL (goneL del L) a := by
  have hG := proof_goes hn hU hl
  obtain ⟨hx1, hx2⟩ := num_some ha
  obtain ⟨h, t, h63, hb, ht, f1, f2, hfind, hw⟩ := where_tree parH hn hx2 hx1
  obtain ⟨hroot, hq⟩ := root_in hn hb
  have hnode := node_root parH (L := lv L) hn hroot
  rw [ht] at hnode
  have hxg : (goneL del L)[numL L a]? = some (some a) := (goneL_get del L _ a).2 ⟨lv_some.1 hx1, hd⟩
  have hUg : Uniq (goneL del L) := fun x y b h1 h2 => hU x y b ((goneL_get del L x b).1 h1).1 ((goneL_get del L y b).1 h2).1
  have hnum : numL (goneL del L) a = numL L a := num_eq hUg hxg
  have hcut : buildT parH (lvG (goneL del L)) h (firstN L.length h) = cutT parH del t := by
    have hb := cut_build parH (L := L) (del := del) h (firstN L.length h)
    have ht' : buildT parH (lvG L) h (firstN L.length h) = some t := ht
    rw [ht'] at hb
    exact hb
  have hsome : ∃ t', cutT parH del t = some t' := by
    cases hc : cutT parH del t with
    | some t' => exact ⟨t', rfl⟩
    | none =>
      rw [hc] at hcut
      have := (buildT_none parH _ _).1 hcut (numL L a) f1 f2
      rw [lvG_some.2 hxg] at this; cases this
  obtain ⟨t', ht'⟩ := hsome
  obtain ⟨r', i', g1, g2, g3, g4⟩ := move_tree parH hM hG (by have := rowsN_le hn; omega) (numL L a) t t' h _ (posN (rowsN L.length) h (L.length / 2 ^ (h + 1) * 2)) hroot hnode ht' (by rw [hfind]; exact hd)
  have hspot : spotL L a = posN (rowsN L.length) r' i' := by rw [spotL, hw, hq]; exact g3
  have hI' : InT L.length h r' i' := ⟨g1, hb, by rw [g2]⟩
  have hcut' := hcut.trans ht'
  have hspot' : spotL (goneL del L) a = whereN (rowsN L.length) t' (posN (rowsN L.length) h (L.length / 2 ^ (h + 1) * 2)) (numL L a) := by
    rw [spotL, goneL_len, hnum]
    have := whereT_of parH (L := lvG (goneL del L)) hn h63 hb f1 f2 hcut'
    rw [hq] at this
    exact this
  rw [hspot', ← g4, movedN, hspot, hI'.way hn, ups_last, show r' + (h - r') = h by omega, g2]
  rfl
end Go.Sp

namespace Go.Sp
/-- the functions of need, on -/
structure MoveF (P : Program) extends ForS P where
  emptied : Nat
  gone : Nat
  asked : Nat
  moved : Nat
  TMq : Nat
  TMb : Nat
  h_emptied : Has P emptied (b_Pneed_plan_emptied nf.left nf.sibling emptied nf.T1)
  h_gone : Has P gone (b_Pneed_plan_gone nf.needUp emptied TMq TMb nf.T1)
  h_asked : Has P asked (b_need_asked nf.made nf.tree)
  h_moved : Has P moved (b_need_Moved asked gone nf.way back nf.sibling emptied nf.left isLeft TMq nf.T1)
/-- where a plan lies -/
structure PlnAt (w : World) (bp n : Nat) (T : List Nat) (m : List (Nat × Nat)) (rt rw' : Nat) : Prop where
  b : Blk w bp [u64V n, intV' (rowsN n), .map (some rt), .map (some rw')]
  t : MapAt w rt u64V intV' (onesOf T)
  w : MapAt w rw' u64V intV' m
theorem PlnAt.upd {l : List Nat} {w w' : World} {bp n : Nat} {T : List Nat} {m : List (Nat × Nat)} {rt rw' : Nat} (h : PlnAt w bp n T m rt rw') (hu : Upd l w w') (h1 : bp ∉ l := by simp) (h2 : rt ∉ l := by simp) (h3 : rw' ∉ l := by simp) : PlnAt w' bp n T m rt rw' := ⟨h.b.upd hu h1, h.t.upd hu h2, h.w.upd hu h3⟩
theorem ones_get (T : List Nat) (p : Nat) : (aget p (onesOf T)).getD 0 = if p ∈ T then 1 else 0 := by rw [aget_ones]; split <;> rfl
/-- a place of a plan's forest -/
def PlaceN (n p f : Nat) : Prop := ∃ h r i, InT n h r i ∧ p = posN (rowsN n) r i ∧ r ≤ f
theorem PlaceN.lt {n p f : Nat} (hn : n < 2 ^ 63) (h : PlaceN n p f) : p < 2 ^ 64 := by
  obtain ⟨h', r, i, hI, rfl, _⟩ := h
  have h1 := (rowN_le (hI.row hn) (rowsN_le hn)).2
  have : (2 : Nat) ^ (rowsN n + 1) ≤ 2 ^ 64 := Nat.pow_le_pow_right (by omega) (by have := rowsN_le hn; omega)
  omega
/-- what is on a way and no target has places below it -/
theorem Made.below {n : Nat} {T : List Nat} {m : List (Nat × Nat)} (hM : Made n T m) {p f : Nat} (hp : PlaceN n p f) (hT : p ∉ T) (hw : (aget p m).getD 0 ≠ 0) : ∃ h r i, InT n h (r + 1) i ∧ p = posN (rowsN n) (r + 1) i ∧ r + 1 ≤ f := by
  obtain ⟨h, r, i, hI, rfl, hf⟩ := hp
  have hn := hM.n63
  have hw' : ∃ t ∈ T, posN (rowsN n) r i ∈ wayN n t := by
    refine Classical.byContradiction fun hc => hw ((hM.zero _).2 hc)
  obtain ⟨t, ht, hq⟩ := hw'
  obtain ⟨h', hh⟩ := Option.isSome_iff_exists.1 (hM.fine.tree t ht)
  obtain ⟨_, r', i', rfl, hI'⟩ := tree_in hh
  obtain ⟨j, hj, he, hI2, _⟩ := ups_above hn hI' hq
  obtain ⟨e1, e2⟩ := hI.inj hn hI2 he
  cases j with
  | zero => exact absurd (by rw [he]; simpa using ht) hT
  | succ j =>
    obtain ⟨r, rfl⟩ : ∃ r1, r = r1 + 1 := ⟨r - 1, by omega⟩
    exact ⟨h, r, i, hI, rfl, hf⟩
section
variable {P : Program} {f : Nat} {w : World}
theorem ok_cnt (A : NeedF P) {e : Env} {x y : Operand} {r p : Nat} {l : List (Nat × Nat)} (hx : e.ev x = some (.map (some r))) (hy : e.ev y = some (u64V p)) (hm : MapAt w r u64V intV' l) :
    OpOK P (.lookup A.T1 (.int .i64 0) x y false) e w (Just (intV' ((aget p l).getD 0)) w) := by
  have := ok_lookup (z := .int .i64 0) (ok := false) (keyOK_nat A.hU) hx hy hm
  simp only [Bool.false_eq_true, if_false, optGetD] at this
  exact this
set_option maxHeartbeats 800000 in
theorem emptied_ok (A : MoveF P) {bp n : Nat} {T : List Nat} {m : List (Nat × Nat)} {rt rw' : Nat} (hM : Made n T m) : ∀ (f p : Nat) (w : World), PlaceN n p f → PlnAt w bp n T m rt rw' → RetV P A.emptied [ptrV bp, u64V p] w (.bool (emptN T m (rowsN n) f p)) := by
  have hn := hM.n63
  have step : ∀ (f p : Nat) (w : World), PlaceN n p f → PlnAt w bp n T m rt rw' → (∀ (q : Nat) (w' : World), PlaceN n q (f - 1) → PlnAt w' bp n T m rt rw' → 0 < f → RetV P A.emptied [ptrV bp, u64V q] w' (.bool (emptN T m (rowsN n) (f - 1) q))) →
      RetV P A.emptied [ptrV bp, u64V p] w (.bool (emptN T m (rowsN n) f p)) := by
    intro f p w hp hP ih
    have hp64 := hp.lt hn
    refine Ret.of_exec A.h_emptied (Nat.le_of_ble_eq_true rfl) fun c hc => ?_
    dsimp only [b_Pneed_plan_emptied, argEnv, ym, yo, yg, ys, yt, yd, ye]
    refine xr 4 rfl ?_
    refine exec_load1 (b := bp) (o := 0 + 2) rfl rfl (hP.b.cell rfl) ?_
    refine xr 1 rfl ?_
    refine xju (ok_cnt A.nf rfl rfl hP.t) rfl ?_
    rw [ones_get]
    by_cases hT : p ∈ T
    · rw [if_pos hT]
      have hval : emptN T m (rowsN n) f p = true := by cases f <;> simp [emptN, hT]
      rw [hval] at hc
      refine xpu (pv_gtrI (a := 1) (b := 0) (q := true) rfl rfl rfl) rfl ?_
      refine xr 13 rfl ?_
      refine exec_load1 (b := bp) (o := 0 + 2) rfl rfl (hP.b.cell rfl) ?_
      refine xr 1 rfl ?_
      refine xju (ok_cnt A.nf rfl rfl hP.t) rfl ?_
      rw [ones_get, if_pos hT]
      refine xpu (pv_gtrI (a := 1) (b := 0) (q := true) rfl rfl rfl) rfl ?_
      refine xr 1 rfl ?_
      exact xre hc [_] ⟨rfl, trivial⟩ ⟨rfl, Upd.refl _ _⟩
    rw [if_neg hT]
    refine xpu (pv_gtrI (a := 0) (b := 0) (q := false) rfl rfl rfl) rfl ?_
    refine xr 8 rfl ?_
    refine exec_load1 (b := bp) (o := 0 + 3) rfl rfl (hP.b.cell rfl) ?_
    refine xr 3 rfl ?_
    refine xju (ok_cnt A.nf rfl rfl hP.w) rfl ?_
    refine xgr rfl ?_
    by_cases hW : (aget p m).getD 0 = 0
    · have hval : emptN T m (rowsN n) f p = false := by cases f <;> simp [emptN, hT, hW]
      rw [hval] at hc
      rw [hW]
      refine xpu (pv_eqlI (K := .i64) (a := 0) (b := 0) (q := true) rfl rfl rfl) rfl ?_
      refine xr 5 rfl ?_
      refine exec_load1 (b := bp) (o := 0 + 2) rfl rfl (hP.b.cell rfl) ?_
      refine xr 1 rfl ?_
      refine xju (ok_cnt A.nf rfl rfl hP.t) rfl ?_
      rw [ones_get, if_neg hT]
      refine xpu (pv_gtrI (a := 0) (b := 0) (q := false) rfl rfl rfl) rfl ?_
      refine xr 1 rfl ?_
      exact xre hc [_] ⟨rfl, trivial⟩ ⟨rfl, Upd.refl _ _⟩
    refine xpu (pv_eqlI (K := .i64) (a := (aget p m).getD 0) (b := 0) (q := false) rfl rfl (by simpa using hW)) rfl ?_
    obtain ⟨h, r, i, hI, rfl, hrf⟩ := hM.below hp hT hW
    have hR := rowsN_le hn
    have hlt := hI.le
    have hK0 := hI.kid 0 (by omega)
    have hK1 := hI.kid 1 (by omega)
    have hsib : sibI (2 * i) = 2 * i + 1 := by unfold sibI; rw [if_pos (by omega)]
    have hl0 := hI.left hn
    have hl1 : siblingN (posN (rowsN n) r (2 * i)) (rowsN n) = some (posN (rowsN n) r (2 * i + 1)) := by
      have := hK0.sibling hn (by omega)
      simp only [Nat.add_zero] at this
      rw [this, hsib]
    obtain ⟨f, rfl⟩ : ∃ f1, f = f1 + 1 := ⟨f - 1, by omega⟩
    simp only [Nat.add_sub_cancel] at ih
    have hp0 : PlaceN n (posN (rowsN n) r (2 * i)) f := ⟨h, r, _, hK0, rfl, by omega⟩
    have hp1 : PlaceN n (posN (rowsN n) r (2 * i + 1)) f := ⟨h, r, _, hK1, rfl, by omega⟩
    have hval : emptN T m (rowsN n) (f + 1) (posN (rowsN n) (r + 1) i) = (emptN T m (rowsN n) f (posN (rowsN n) r (2 * i)) && emptN T m (rowsN n) f (posN (rowsN n) r (2 * i + 1))) := by
      simp only [emptN, if_neg hT, if_neg hW, hl0, hl1, Option.getD_some]
    rw [hval] at hc
    refine xr 7 rfl ?_
    refine exec_load1 (b := bp) (o := 0 + 1) rfl rfl (hP.b.cell rfl) ?_
    refine xca rfl rfl (left_ok A.nf.toPosF _ _ hp64 (by omega)) ?_
    rintro _ w1 ⟨rfl, hu1⟩
    rw [hl0]
    dsimp only [optV]
    have hP1 := hP.upd hu1
    refine xr 9 rfl ?_
    refine exec_load1 (b := bp) (o := 0 + 1) rfl rfl (hP1.b.cell rfl) ?_
    refine xca rfl rfl (sibling_ok A.nf.toPosF _ _ (hp0.lt hn) (by omega)) ?_
    rintro _ w2 ⟨rfl, hu2⟩
    rw [hl1]
    dsimp only [optV]
    have hP2 := hP1.upd hu2
    refine xr 7 rfl ?_
    refine xca rfl rfl (ih _ w2 hp0 hP2 (by omega)) ?_
    rintro _ w3 ⟨rfl, hu3⟩
    generalize emptN T m (rowsN n) f (posN (rowsN n) r (2 * i)) = b0 at hc ⊢
    cases b0 with
    | false =>
      refine xr 6 rfl ?_
      exact xre hc [_] ⟨rfl, trivial⟩ ⟨rfl, (hu1.trans hu2).trans hu3⟩
    | true =>
      refine xr 6 rfl ?_
      refine xca rfl rfl (ih _ w3 hp1 (hP2.upd hu3) (by omega)) ?_
      rintro _ w4 ⟨rfl, hu4⟩
      refine xr 2 rfl ?_
      exact xre hc [_] ⟨rfl, trivial⟩ ⟨by simp [single], ((hu1.trans hu2).trans hu3).trans hu4⟩
  intro f
  induction f with
  | zero => intro p w hp hP; exact step 0 p w hp hP (fun q w' _ _ h => by omega)
  | succ f ih => intro p w hp hP; exact step (f + 1) p w hp hP (fun q w' hq hP' _ => ih q w' hq hP')
theorem asked_ok (A : MoveF P) (n : Nat) {tv : Value} {T : List Nat} {p : Nat} (hn : n < 2 ^ 64) (hp : p < 2 ^ 64) (hS : SlC w tv 1 T.length (T.map u64V)) (hT : ∀ t ∈ T, t < 2 ^ 64) (hlen : T.length < 2 ^ 40) (hbl : ∀ b ∈ blkOf tv, b < w.heap.size) {m : List (Nat × Nat)} (hm : madeN n T = some m) (ht : (treeN n p).isSome = true) :
    Ret P A.asked [u64V n, tv, u64V p] w fun v w' => Ext w w' ∧ ∃ bp rt rw', v = .tuple #[ptrV bp, intV' 0] ∧ PlnAt w' bp n T m rt rw' ∧ w.heap.size ≤ bp ∧ w.heap.size ≤ rt ∧ w.heap.size ≤ rw' := by
  refine Ret.of_exec A.h_asked (Nat.le_of_ble_eq_true rfl) fun c hc => ?_
  dsimp only [b_need_asked, argEnv, ym, yo, yg, ys, yt, yd, ye]
  refine xr 4 rfl ?_
  refine xca rfl rfl (made_ok A.nf n hn hS hT hlen hbl) ?_
  rintro v1 w1 ⟨hu1, hcase⟩
  rw [hm] at hcase
  obtain ⟨bp, rt, rw', rfl, hB, hM1, hM2, g1, g2, g3, _⟩ := hcase
  refine xr 6 rfl ?_
  refine xpu (pv_neqI (a := 0) (b := 0) (q := false) rfl rfl rfl) rfl ?_
  refine xr 4 rfl ?_
  refine xca rfl rfl (tree_ok A.nf.toWayF n p hn hp) ?_
  rintro _ w2 ⟨rfl, hu2⟩
  obtain ⟨h, hh⟩ := Option.isSome_iff_exists.1 ht
  rw [hh]
  dsimp only [optV]
  refine xr 12 rfl ?_
  exact xre hc [_, _] ⟨rfl, rfl, trivial⟩ ⟨hu1.trans hu2, bp, rt, rw', rfl, ⟨hB.upd hu2, hM1.upd hu2, hM2.upd hu2⟩, g1, g2, g3⟩
set_option maxHeartbeats 800000 in
theorem gone_ok (A : MoveF P) {bp n : Nat} {T : List Nat} {m : List (Nat × Nat)} {rt rw' : Nat} (hM : Made n T m) {p : Nat} (hp : PlaceN n p 64) (hP : PlnAt w bp n T m rt rw') : RetV P A.gone [ptrV bp, u64V p] w (.bool (goneN n T m p)) := by
  have hn := hM.n63
  have hp64 := hp.lt hn
  refine Ret.of_exec A.h_gone (Nat.le_of_ble_eq_true rfl) fun c hc => ?_
  dsimp only [b_Pneed_plan_gone, argEnv, ym, yo, yg, ys, yt, yd, ye]
  refine exec_box rfl rfl ?_
  intro b2 w1 hb2 hs1 hu1 hB2
  have hB2' : Blk w1 b2 [ptrV bp] := hB2
  clear hB2
  refine exec_new rfl ?_
  intro b4 w2 hb4 hs2 hu2 hB4
  have hB4' : Blk w2 b4 [.bool false] := hB4
  clear hB4
  have hE2 := hu1.trans hu2
  have hP2 := hP.upd hE2
  have hB22 := hB2'.upd hu2
  refine exec_load1 (b := b2) (o := 0) rfl rfl (hB22.cell rfl) ?_
  refine xr 2 rfl ?_
  refine exec_load1 (b := bp) (o := 0 + 0) rfl rfl (hP2.b.cell rfl) ?_
  refine xr 1 rfl ?_
  refine xca rfl rfl (needUp_ok A.nf n p (by omega) hp64) ?_
  rintro _ w3 ⟨bs, sv, rfl, hBs, hOs, hbs, hbs2, hbl2, hu3⟩
  have hE3 := hE2.trans hu3
  have hP3 := hP2.upd hu3
  have hB23 := hB22.upd hu3
  have hB43 := hB4'.upd hu3
  have z2 := hE2.size
  have z3 := hu3.size
  have k4 := hB4'.lt
  have k2 := hB22.lt
  have kp := hP.b.lt
  have kt := hP.t.lt
  have kw := hP.w.lt
  have hwl := wayN_length n p
  have hbn4 : b2 ≠ b4 := by omega
  refine xen [(1, u64V p), (2, ptrV b2), (4, ptrV b4), (11, .func (.func A.nf.values1) #[] #[ptrV bs])] ⟨rfl, rfl, rfl, rfl, trivial⟩ ?_
  refine xbk ?_
  have fresh : ∀ X, Upd [b4] w3 X → PlnAt X bp n T m rt rw' ∧ Blk X b2 [ptrV bp] ∧ Ext w X := fun X hX =>
    ⟨hP3.upd hX (by simp; omega) (by simp; omega) (by simp; omega), hB23.upd hX (by simp; omega), hE3.trans hX (fun b hb => .inr (by simp at hb; omega))⟩
  refine exec_rangeF (S := Unit) (e := [(1, u64V p), (2, ptrV b2), (4, ptrV b4), (11, .func (.func A.nf.values1) #[] #[ptrV bs])]) rfl A.nf.h_values1.enters hc.rd (bs :: blkOf sv) [] (fun q : Nat => [u64V q]) (wayN n p)
    (fun W hu => values1_ok A.nf.h_values1 (hBs.upd hu) ((hOs.upd hu (by simp)).sl) (by omega) (fun b hb => by have := hOs.lt b hb; have := hu.size; omega))
    (fun q => u64V q) (fun _ => rfl) rfl
    w3.heap.size [b4] (fun _ => [])
    (fun k _ W => k ≤ (wayN n p).length ∧ Upd [b4] w3 W ∧ Blk W b4 [.bool false] ∧ ∀ q ∈ (wayN n p).take k, q ∉ T)
    (fun cd _ W => cd = none ∧ Upd [b4] w3 W ∧ Blk W b4 [.bool true] ∧ ∃ q ∈ wayN n p, q ∈ T) () ?_ ?_ ?_ ?_ ?_ ?_ ?_ (fun _ => rfl) rfl ?_ ?_ ?_
  · rintro k u W W' l' ⟨q1, q2, q3, q4⟩ hu hb
    have n4 : b4 ∉ l' := fun hm => by have := (hb _ hm).1; omega
    exact ⟨q1, q2.trans hu (fun b hb' => .inr (hb b hb').1), q3.upd hu n4, q4⟩
  · rintro cd u W W' l' ⟨q1, q2, q3, q4⟩ hu hb
    have n4 : b4 ∉ l' := fun hm => by have := (hb _ hm).1; omega
    exact ⟨q1, q2.trans hu (fun b hb' => .inr (hb b hb').1), q3.upd hu n4, q4⟩
  · exact ⟨Nat.zero_le _, Upd.refl _ _, hB43, by simp⟩
  · exact Nat.le_refl _
  · intro b hb; simp at hb; omega
  · simp
  · intro b hb
    rcases List.mem_cons.1 hb with rfl | hb
    · exact ⟨hBs.lt, by simp; omega, by simp⟩
    · have h1 := hbl2 b hb; have h2 := hOs.lt b hb; exact ⟨by omega, by simp; omega, by simp⟩
  · rintro l c' k u W q hc' ⟨q1, q2, q3, q4⟩ hq hlw hnw
    obtain ⟨hPW, hB2W, hEW⟩ := fresh W q2
    have htk : (wayN n p).take (k + 1) = (wayN n p).take k ++ [q] := by rw [List.take_add_one, hq]; rfl
    have hkl := (List.getElem?_eq_some_iff.1 hq).1
    refine xbk ?_
    refine exec_load1 (b := b2) (o := 0) rfl rfl (hB2W.cell rfl) ?_
    refine xr 2 rfl ?_
    refine exec_load1 (b := bp) (o := 0 + 2) rfl rfl (hPW.b.cell rfl) ?_
    refine xr 1 rfl ?_
    refine xju (ok_cnt A.nf rfl rfl hPW.t) rfl ?_
    rw [ones_get]
    by_cases hT : q ∈ T
    · rw [if_pos hT]
      refine xpu (pv_gtrI (a := 1) (b := 0) (q := true) rfl rfl rfl) rfl ?_
      refine xr 1 rfl ?_
      refine exec_store (b := b4) (o := 0) (v := .bool true) rfl rfl q3 rfl (by simp) rfl ?_
      intro Y hY _ hBY
      exact exec_round_ret hc' ⟨(), ⟨rfl, q2.trans hY, hBY, q, List.mem_of_getElem? hq, hT⟩, by simpa using hY, by simp, by simp⟩
    · rw [if_neg hT]
      refine xpu (pv_gtrI (a := 0) (b := 0) (q := false) rfl rfl rfl) rfl ?_
      refine xr 4 rfl ?_
      refine exec_round_end hc' ⟨(), ⟨hkl, q2, q3, fun q' hq' => ?_⟩, Upd.refl _ _, by simp, by simp⟩
      rw [htk] at hq'
      rcases List.mem_append.1 hq' with h | h
      · exact q4 q' h
      · have : q' = q := by simpa using h
        subst this; exact hT
  · rintro D0 u W hD ⟨q1, q2, q3, q4⟩ hsh hnl
    obtain ⟨hPW, hB2W, hEW⟩ := fresh W q2
    rw [List.take_length] at q4
    refine xr 2 rfl ?_
    refine exec_load1 (b := b2) (o := 0) rfl rfl (hB2W.cell rfl) ?_
    refine xr 1 rfl ?_
    refine xca rfl rfl (emptied_ok A hM 64 p W hp hPW) ?_
    rintro _ X ⟨rfl, hX⟩
    have hval : goneN n T m p = emptN T m (rowsN n) 64 p := by
      unfold goneN
      have : (wayN n p).any (fun q => decide (q ∈ T)) = false := by
        rw [List.any_eq_false]; intro q hq; simpa using q4 q hq
      rw [this, Bool.false_or]
    rw [hval] at hc
    generalize emptN T m (rowsN n) 64 p = bb at hc ⊢
    refine exec_store (b := b4) (o := 0) (v := .bool bb) rfl rfl (q3.upd hX) rfl (by simp) rfl ?_
    intro Y hY _ hBY
    have hBY' : Blk Y b4 [.bool bb] := hBY
    have hXY : Upd [b4] W Y := (hX.mono (m := [b4]) (by simp)).trans hY
    have hD4 : D0 ≠ b4 := by omega
    have hsh' : Y.heap[D0]? = some (.deferred (some [])) := (hXY.block D0 (Array.getElem?_eq_some_iff.1 hsh).1 (by simp; omega)).trans hsh
    refine exec_returnM hc [D0] rfl (by simp) (fun r hr => by simp at hr; subst hr; exact hsh') [.bool bb] fun W' hu' hs' => ?_
    have h3W : Upd [b4] w3 W' := (q2.trans hXY).trans hu' (fun b hb => .inr (by simp at hb; omega))
    exact ⟨⟨⟨b4, 0, rfl, (hBY'.upd hu' (by simp; omega)).cell rfl⟩, trivial⟩, rfl, hE3.trans h3W (fun b hb => .inr (by simp at hb; omega))⟩
  · rintro cd D0 u W hD ⟨rfl, q2, q3, q, hq, hT⟩ hsh hnl
    have hval : goneN n T m p = true := by
      unfold goneN
      have : (wayN n p).any (fun q => decide (q ∈ T)) = true := List.any_eq_true.2 ⟨q, hq, by simpa using hT⟩
      rw [this, Bool.true_or]
    rw [hval] at hc
    have hD4 : D0 ≠ b4 := by omega
    refine exec_returnM hc [D0] rfl (by simp) (fun r hr => by simp at hr; subst hr; exact hsh) [.bool true] fun W' hu' hs' => ?_
    have h3W : Upd [b4] w3 W' := q2.trans hu' (fun b hb => .inr (by simp at hb; omega))
    exact ⟨⟨⟨b4, 0, rfl, (q3.upd hu' (by simp; omega)).cell rfl⟩, trivial⟩, rfl, hE3.trans h3W (fun b hb => .inr (by simp at hb; omega))⟩
end
end Go.Sp








namespace Go.Sp
section
variable {P : Program} {n : Nat} {c : Ctx} {D : List Deferred} {is : List Ins} {k : Kont} {e : Env} {w : World}
variable {l : List Nat} {wr : Nat} {Wr : World → Prop} {ds : List DOp} {F : List (Nat × Value) → Prop} {done : List (Nat × Value)} {i : Nat} {deps : List Nat} {d : Option Nat} {m : MOp} {r : List DOp} {s : Nat} {b : Bool}
/-- an operation that may lay new blocks, ahead of the one that writes -/
theorem ws_okE (v : Value) (hne : Nat.beq i wr = false) (hb : befB ds wr i = true) (hv : ∀ W, Ext w W → OpOK P m (envV ds done deps ++ keepEnv ds i e) W (fun u W' => u = v ∧ Ext W W'))
    (h : DWS P l wr Wr ds e w F (i + 1) ((i, v) :: done) r) : DWS P l wr Wr ds e w F i done ((deps, none, d, m) :: r) :=
  ⟨v, fun W _ h2 => (hv W (h2 hb)).mono fun u W' hu => ⟨⟨hu.2.mono (by simp), fun _ => hu.2⟩, hu.1, fun hi => by subst hi; simp at hne⟩, h⟩
end
end Go.Sp

namespace Go.Sp
theorem ups_drop {R q : Nat} : ∀ (k r i : Nat), q ∈ (upsN R k r i).dropLast → ∃ j, j < k ∧ q = posN R (r + j) (i / 2 ^ j) := by
  intro k
  induction k with
  | zero => intro r i h; simp [upsN] at h
  | succ k ih =>
    intro r i h
    have hne : upsN R k (r + 1) (i / 2) ≠ [] := by cases k <;> simp [upsN]
    rw [upsN, List.dropLast_cons_of_ne_nil hne, List.mem_cons] at h
    rcases h with rfl | h
    · exact ⟨0, by omega, by simp⟩
    · obtain ⟨j, hj, rfl⟩ := ih _ _ h
      exact ⟨j + 1, by omega, by rw [div_step]; congr 1; omega⟩
theorem way_drop {n p q : Nat} (hq : q ∈ (wayN n p).dropLast) : n < 2 ^ 63 ∧ ∃ h r i, InT n h r i ∧ r < h ∧ q = posN (rowsN n) r i := by
  have hne : wayN n p ≠ [] := by intro he; rw [he] at hq; simp at hq
  obtain ⟨hn, h, r, i, rfl, hI⟩ := way_in hne
  refine ⟨hn, ?_⟩
  have hm := List.dropLast_subset _ hq
  rw [hI.way hn] at hq
  obtain ⟨j, hj, he⟩ := ups_drop _ _ _ hq
  obtain ⟨j', hj', he', hI', _⟩ := ups_above hn hI hm
  have hI2 : InT n h (r + j) (i / 2 ^ j) := ⟨by omega, hI.bit, by
    rw [Nat.div_div_eq_div_mul, ← Nat.pow_add, show j + (h - (r + j)) = h - r by omega]; exact hI.idx⟩
  exact ⟨h, r + j, _, hI2, by omega, he⟩
theorem moveStep_lt {T : List Nat} {m : List (Nat × Nat)} {R place next : Nat} (hR : R ≤ 40) (hp : place < 2 ^ 42) : moveStep T m R place next < 2 ^ 42 := by
  unfold moveStep
  split
  · exact hp
  · have h1 := leftN_lt (p := place) (rows := R)
    have h2 := pow41 hR
    omega
theorem moveFold_lt {T : List Nat} {m : List (Nat × Nat)} {R : Nat} (hR : R ≤ 40) : ∀ (l : List Nat) (p : Nat), p < 2 ^ 42 → l.foldl (moveStep T m R) p < 2 ^ 42 := by
  intro l
  induction l with
  | nil => intro p h; exact h
  | cons q l ih => intro p h; exact ih _ (moveStep_lt hR h)
theorem backs (l : List Nat) : ((l.zipIdx.map (fun p : Nat × Nat => (p.2, p.1))).reverse).map Prod.snd = l.reverse := by
  rw [List.map_reverse, List.map_map]
  congr 1
  apply List.ext_getElem?
  intro k
  simp only [List.getElem?_map, List.getElem?_zipIdx, Option.map_map]
  cases l[k]? <;> rfl
section
variable {P : Program} {f : Nat} {w : World}
set_option maxHeartbeats 1600000 in
theorem moved_ok (A : MoveF P) (n : Nat) {tv : Value} {T : List Nat} {p : Nat} (hn : n < 2 ^ 40) (hS : SlC w tv 1 T.length (T.map u64V)) (hT : ∀ t ∈ T, t < 2 ^ 64) (hlen : T.length < 2 ^ 40) (hbl : ∀ b ∈ blkOf tv, b < w.heap.size) {m : List (Nat × Nat)} (hm : madeN n T = some m) (hp : PlaceN n p 64) :
    RetV P A.moved [u64V n, tv, u64V p] w (if goneN n T m p = true then .tuple #[u64V 0, .bool false, intV' 0] else .tuple #[u64V (movedN n T m p), .bool true, intV' 0]) := by
  have hM := made_some hm
  have hn63 := hM.n63
  have hp64 := hp.lt hn63
  have hR40 := rowsN_40 hn
  have htree : (treeN n p).isSome = true := by obtain ⟨h, r, i, hI, rfl, _⟩ := hp; rw [hI.tree hn63]; rfl
  refine Ret.of_exec A.h_moved (Nat.le_of_ble_eq_true rfl) fun c hc => ?_
  dsimp only [b_need_Moved, argEnv, ym, yo, yg, ys, yt, yd, ye]
  refine xr 6 rfl ?_
  refine xca rfl rfl (asked_ok A n (by omega) hp64 hS hT hlen hbl hm htree) ?_
  rintro _ w1 ⟨hu1, bp, rt, rw', rfl, hP1, g1, g2, g3⟩
  refine xr 3 rfl ?_
  refine exec_new_store (v := ptrV bp) rfl rfl rfl rfl rfl rfl ?_
  intro b9 w2 hb9 hs2 hu2 hB9
  have hB92 : Blk w2 b9 [ptrV bp] := hB9
  clear hB9
  have hE2 := hu1.trans hu2
  have hP2 := hP1.upd hu2
  refine xr 2 rfl ?_
  refine xpu (pv_neqI (a := 0) (b := 0) (q := false) rfl rfl rfl) rfl ?_
  refine xr 2 rfl ?_
  refine exec_load1 (b := b9) (o := 0) rfl rfl (hB92.cell rfl) ?_
  refine xr 3 rfl ?_
  refine xca rfl rfl (gone_ok A hM hp hP2) ?_
  rintro _ w3 ⟨rfl, hu3⟩
  have hE3 := hE2.trans hu3
  have hP3 := hP2.upd hu3
  have hB93 := hB92.upd hu3
  cases hg : goneN n T m p with
  | true =>
    rw [hg] at hc
    refine xr 6 rfl ?_
    exact xre hc [_, _, _] ⟨rfl, rfl, rfl, trivial⟩ ⟨rfl, hE3⟩
  | false =>
    rw [hg] at hc
    simp only [Bool.false_eq_true, if_false] at hc
    refine xr 5 rfl ?_
    refine xca rfl rfl (way_ok A.nf.toWayF n p (by omega) hp64) ?_
    rintro wv w4 ⟨hO4, hu4, hf4⟩
    have hwl := wayN_length n p
    have hwne : wayN n p ≠ [] := (treeN_bit (Option.isSome_iff_exists.1 htree).choose_spec).2.2
    have hw0 : 0 < (wayN n p).length := List.length_pos_iff.2 hwne
    obtain ⟨q0, hq0⟩ : ∃ q0, (wayN n p)[(wayN n p).length - 1]? = some q0 := ⟨_, List.getElem?_eq_getElem (by omega)⟩
    have hlast : (wayN n p).getLast?.getD 0 = q0 := by rw [List.getLast?_eq_getElem?, hq0]; rfl
    have hq0lt : q0 < 2 ^ 42 := by
      have hm0 := List.mem_of_getElem? hq0
      obtain ⟨h, r, i, hI, rfl, _⟩ := hp
      obtain ⟨j, hj, rfl, hI', _⟩ := ups_above hn63 hI hm0
      have h1 := (rowN_le (hI'.row hn63) (by omega)).2
      have h2 := pow41 hR40
      omega
    refine xr 3 rfl ?_
    refine xpu (hO4.sl.lenS rfl) rfl ?_
    refine xpu (pv_subI (a := (wayN n p).length) (b := 1) rfl rfl (by omega) (by omega)) rfl ?_
    obtain ⟨bw, ow, cw, hwv, hmw, _⟩ := hO4.sl.at (by omega)
    refine xju (ok_iaddr (N := 1) (b := bw) (o := ow) (len := (wayN n p).length) (cap := cw) (by rw [← hwv]; rfl) rfl ((wayN n p).length - 1) rfl (by omega)) rfl ?_
    refine exec_load1 (b := bw) (o := ow + ((wayN n p).length - 1) * 1) (v := u64V q0) rfl rfl (hmw (((wayN n p).length - 1) * 1) _ (by rw [Nat.mul_one, List.getElem?_map, hq0]; rfl)) ?_
    refine exec_new_store (v := u64V q0) rfl rfl rfl rfl rfl rfl ?_
    intro b12 w5 hb12 hs5 hu5 hB12
    have hB125 : Blk w5 b12 [u64V q0] := hB12
    clear hB12
    refine xr 2 rfl ?_
    refine xpu (hO4.sl.lenS rfl) rfl ?_
    refine xpu (pv_subI (a := (wayN n p).length) (b := 1) rfl rfl (by omega) (by omega)) rfl ?_
    have hO5 := hO4.upd hu5 (by simp)
    refine xju (ok_slSd (N := 1) (len := (wayN n p).length) none (some (.tmp 44)) 0 ((wayN n p).length - 1) rfl hO5.sl rfl ⟨.i64, rfl⟩ (Nat.zero_le _) (by omega)) rfl ?_
    have hsub := subV_sl hO5.sl (Nat.zero_le ((wayN n p).length - 1)) (show (wayN n p).length - 1 ≤ (wayN n p).length by omega)
    have hcs : (((wayN n p).map u64V).take (((wayN n p).length - 1) * 1)).drop (0 * 1) = (wayN n p).dropLast.map u64V := by
      simp only [Nat.mul_one, Nat.zero_mul, List.drop_zero]
      rw [← List.map_take, List.dropLast_eq_take]
    rw [hcs, Nat.sub_zero] at hsub
    have hdl : (wayN n p).dropLast.length = (wayN n p).length - 1 := List.length_dropLast
    rw [← hdl] at hsub ⊢
    have hbl2 : ∀ b ∈ blkOf (subV wv 1 0 (wayN n p).dropLast.length), w3.heap.size ≤ b ∧ b < w4.heap.size := by
      intro b hb
      have hbw : b ∈ blkOf wv := by
        rcases hO5 with ⟨rfl, _⟩ | ⟨b', cap', rest', rfl, _⟩
        · simp [subV, blkOf] at hb
        · simp only [subV, blkOf] at hb ⊢
          split at hb <;> simpa using hb
      exact ⟨hf4 b hbw, hO4.lt b hbw⟩
    generalize hsv : subV wv 1 0 (wayN n p).dropLast.length = sv at hsub hbl2
    refine xca rfl rfl (back_ok A.toForS (by rcases hsub with ⟨rfl | ⟨_, _, _, _, rfl⟩, _⟩ | ⟨_, _, _, rfl, _⟩ <;> exact ⟨_, _, _, rfl⟩)) ?_
    rintro _ w6 ⟨bs, rfl, hBs, hbs, hu6⟩
    have hE4 := hE3.trans hu4
    have hE5 := hE4.trans hu5
    have hE6 := hE5.trans hu6
    have hu36 := (hu4.trans hu5).trans hu6
    have hP6 := hP3.upd hu36
    have hB96 := hB93.upd hu36
    have hB126 := hB125.upd hu6
    have z3 := hE3.size
    have z2 := hE2.size
    have z34 := hu4.size
    have z45 := hu5.size
    have z56 := hu6.size
    have k9 := hB93.lt
    have k12 := hB125.lt
    have kp := hP3.b.lt
    have kt := hP3.t.lt
    have kw := hP3.w.lt
    refine xen [(9, ptrV b9), (12, ptrV b12), (46, .func (.func A.back1) #[] #[ptrV bs])] ⟨rfl, rfl, rfl, trivial⟩ ?_
    refine xbk ?_
    have hxl := backs (wayN n p).dropLast
    have hxlen : ((wayN n p).dropLast.zipIdx.map (fun p : Nat × Nat => (p.2, p.1))).reverse.length = (wayN n p).dropLast.length := by simp
    generalize hxs : ((wayN n p).dropLast.zipIdx.map (fun p : Nat × Nat => (p.2, p.1))).reverse = xs at hxl hxlen
    have hx64 : ∀ (i : Nat) (q : Nat × Nat), xs[i]? = some q → q.2 ∈ (wayN n p).dropLast := by
      intro i q hq
      have : q.2 ∈ (wayN n p).dropLast.reverse := by rw [← hxl]; exact List.mem_map.2 ⟨q, List.mem_of_getElem? hq, rfl⟩
      rwa [List.mem_reverse] at this
    have hmv : movedN n T m p = (xs.map Prod.snd).foldl (moveStep T m (rowsN n)) q0 := by rw [movedN, hlast, hxl]
    have fresh : ∀ X, Upd [b12] w6 X → PlnAt X bp n T m rt rw' ∧ Blk X b9 [ptrV bp] ∧ Ext w X := fun X hX =>
      ⟨hP6.upd hX (by simp; omega) (by simp; omega) (by simp; omega), hB96.upd hX (by simp; omega), hE6.trans hX (fun b hb => .inr (by simp at hb; omega))⟩
    refine exec_rangeF (S := Unit) (e := [(9, ptrV b9), (12, ptrV b12), (46, .func (.func A.back1) #[] #[ptrV bs])]) rfl A.h_back1.enters hc.rd (bs :: blkOf sv) [] (fun q : Nat × Nat => [intV' q.1, u64V q.2]) xs
      (fun W hu => by rw [← hxs]; exact backward1_ok A.h_back1 (hBs.upd hu) ((hsub.upd hu6 (by simp)).upd hu (by simp)) (by rw [hdl]; omega) (fun b hb => by have := (hbl2 b hb).2; have := hu.size; omega))
      (fun q => u64V q.2) (fun _ => rfl) rfl
      w6.heap.size [b12] (fun _ => [])
      (fun k _ W => k ≤ xs.length ∧ Upd [b12] w6 W ∧ Blk W b12 [u64V (((xs.take k).map Prod.snd).foldl (moveStep T m (rowsN n)) q0)])
      (fun _ _ _ => False) () ?_ ?_ ?_ ?_ ?_ ?_ ?_ (fun _ => rfl) rfl ?_ ?_ ?_
    · rintro k u W W' l' ⟨q1, q2, q3⟩ hu hb
      have n4 : b12 ∉ l' := fun hm => by have := (hb _ hm).1; omega
      exact ⟨q1, q2.trans hu (fun b hb' => .inr (hb b hb').1), q3.upd hu n4⟩
    · rintro cd u W W' l' h hu hb; exact h.elim
    · exact ⟨Nat.zero_le _, Upd.refl _ _, hB126⟩
    · exact Nat.le_refl _
    · intro b hb; simp at hb; omega
    · simp
    · intro b hb
      rcases List.mem_cons.1 hb with rfl | hb
      · exact ⟨hBs.lt, by simp; omega, by simp⟩
      · have h1 := hbl2 b hb; exact ⟨by omega, by simp; omega, by simp⟩
    · rintro l c' k u W q hc' ⟨q1, q2, q3⟩ hq hlw hnw
      obtain ⟨hPW, hB9W, hEW⟩ := fresh W q2
      have htk : xs.take (k + 1) = xs.take k ++ [q] := by rw [List.take_add_one, hq]; rfl
      have hkl := (List.getElem?_eq_some_iff.1 hq).1
      have hmem := hx64 k q hq
      obtain ⟨_, h', r', i', hI', hlt', hqq⟩ := way_drop hmem
      have hsibq : siblingN q.2 (rowsN n) = some (posN (rowsN n) r' (sibI i')) := by rw [hqq]; exact hI'.sibling hn63 hlt'
      have hq64 : q.2 < 2 ^ 64 := by rw [hqq]; exact PlaceN.lt hn63 ⟨h', r', i', hI', rfl, Nat.le_refl _⟩
      have hps : PlaceN n (posN (rowsN n) r' (sibI i')) 64 := ⟨h', r', _, hI'.sib hlt', rfl, by have := bit_rows hn63 hI'.bit; omega⟩
      generalize hpl : ((xs.take k).map Prod.snd).foldl (moveStep T m (rowsN n)) q0 = place at q3
      have hplt : place < 2 ^ 42 := by rw [← hpl]; exact moveFold_lt hR40 _ _ hq0lt
      have hnext : ((xs.take (k + 1)).map Prod.snd).foldl (moveStep T m (rowsN n)) q0 = moveStep T m (rowsN n) place q.2 := by
        rw [htk, ← hpl]; simp only [List.map_append, List.foldl_append, List.map_cons, List.map_nil, List.foldl_cons, List.foldl_nil]
      refine xbk ?_
      refine xr 1 rfl ?_
      refine exec_load1 (b := b9) (o := 0) rfl rfl (hB9W.cell rfl) ?_
      refine xr 2 rfl ?_
      refine exec_load1 (b := bp) (o := 0 + 1) rfl rfl (hPW.b.cell rfl) ?_
      refine xca rfl rfl (sibling_ok A.nf.toPosF q.2 (rowsN n) hq64 (by omega)) ?_
      rintro _ W1 ⟨rfl, hx1⟩
      rw [hsibq]
      dsimp only [optV]
      refine xr 5 rfl ?_
      have hPW1 := hPW.upd hx1
      refine exec_load1 (b := b9) (o := 0) rfl rfl ((hB9W.upd hx1).cell rfl) ?_
      refine xr 1 rfl ?_
      refine xca rfl rfl (emptied_ok A hM 64 _ W1 hps hPW1) ?_
      rintro _ W2 ⟨rfl, hx2⟩
      have hx12 := hx1.trans hx2
      cases hem : emptN T m (rowsN n) 64 (posN (rowsN n) r' (sibI i')) with
      | true =>
        refine xr 3 rfl ?_
        refine exec_round_end hc' ⟨(), ⟨hkl, q2.trans (hx12.mono (m := [b12]) (by simp)), ?_⟩, hx12.mono (by simp), by simp, by simp⟩
        rw [hnext, moveStep, hsibq]
        simp only [Option.getD_some, hem, if_true]
        exact q3.upd hx12
      | false =>
        refine xr 2 rfl ?_
        have hPW2 := hPW1.upd hx2
        have hB9W2 := (hB9W.upd hx1).upd hx2
        have q32 := q3.upd hx12
        have hml : moveStep T m (rowsN n) place q.2 = (leftN place (rowsN n)).getD 0 + q.2 % 2 := by
          rw [moveStep, hsibq]; simp only [Option.getD_some, hem, Bool.false_eq_true, if_false]
        have hlb : (leftN place (rowsN n)).getD 0 < 2 ^ 41 := Nat.lt_of_lt_of_le leftN_lt (pow41 hR40)
        generalize hlf : (leftN place (rowsN n)).getD 0 = lf at hml hlb
        have hlv : ∃ bb, optV u64V (leftN place (rowsN n)) = .tuple #[u64V lf, .bool bb] := by
          cases hx : leftN place (rowsN n) with
          | none => rw [hx] at hlf; simp at hlf; subst hlf; exact ⟨false, rfl⟩
          | some y => rw [hx] at hlf; simp at hlf; subst hlf; exact ⟨true, rfl⟩
        obtain ⟨bb, hlv⟩ := hlv
        refine xen [(9, ptrV b9), (12, ptrV b12), (14, u64V q.2)] ⟨rfl, rfl, rfl, trivial⟩ ?_
        refine exec_dws [b12] 9 (fun X => Blk X b12 [u64V lf]) (fun X X' h hu => h.upd hu) rfl rfl rfl ?_
        refine ws_ok (u64V place) rfl rfl (fun X hx => ok_load1 (b := b12) (o := 0) rfl ((q32.upd hx).cell rfl)) ?_
        refine ws_ok (ptrV bp) rfl rfl (fun X hx => ok_load1 (b := b9) (o := 0) rfl ((hB9W2.upd hx).cell rfl)) ?_
        repeat (first | refine wtm rfl rfl rfl ?_ | refine wgt rfl rfl rfl rfl ?_ | refine wgs rfl rfl ?_ | refine ws_gskipU rfl rfl ?_)
        refine ws_ok (intV' (rowsN n)) rfl rfl (fun X hx => ok_load1 (b := bp) (o := 0 + 1) rfl ((hPW2.b.upd hx).cell rfl)) ?_
        refine ws_okE (.tuple #[u64V lf, .bool bb]) rfl rfl (fun X hx => by rw [← hlv]; exact ok_call rfl (left_ok A.nf.toPosF place (rowsN n) (by omega) (by omega))) ?_
        repeat (first | refine wtm rfl rfl rfl ?_ | refine wgt rfl rfl rfl rfl ?_ | refine wgs rfl rfl ?_ | refine ws_gskipU rfl rfl ?_)
        refine ws_store (B := b12) (o := 0) (v := u64V lf) rfl rfl rfl q32 rfl (by simp) rfl (by simp) (fun X h => h) ?_
        refine ws_end fun W3 hu3' hW3 => ?_
        have hB3 := hW3 rfl
        have hU3 : Upd [b12] W W3 := (hx12.mono (m := [b12]) (by simp)).trans hu3'
        refine xr 1 rfl ?_
        refine xca rfl rfl (isLeft_ok A.h_isLeft q.2 hq64) ?_
        rintro _ W4 ⟨rfl, hx4⟩
        have hU4 : Upd [b12] W W4 := hU3.trans hx4 (by simp)
        by_cases hev : q.2 % 2 = 0
        · simp only [hev, decide_true]
          refine xr 5 rfl ?_
          refine exec_round_end hc' ⟨(), ⟨hkl, q2.trans hU4, ?_⟩, hU4, by simp, by simp⟩
          rw [hnext, hml, hev]
          exact hB3.upd hx4
        · simp only [hev, decide_false]
          refine xr 2 rfl ?_
          refine exec_load1 (b := b12) (o := 0) rfl rfl ((hB3.upd hx4).cell rfl) ?_
          refine xpu (pv_addU (a := lf) (b := 1) rfl rfl (by omega)) rfl ?_
          refine exec_store (b := b12) (o := 0) (v := u64V (lf + 1)) rfl rfl (hB3.upd hx4) rfl (by simp) rfl ?_
          intro Y hY _ hBY
          refine xr 3 rfl ?_
          have hUY : Upd [b12] W Y := hU4.trans hY
          refine exec_round_end hc' ⟨(), ⟨hkl, q2.trans hUY, ?_⟩, hUY, by simp, by simp⟩
          rw [hnext, hml, show q.2 % 2 = 1 by omega]
          exact hBY
    · rintro D0 u W hD ⟨q1, q2, q3⟩ hsh hnl
      obtain ⟨hPW, hB9W, hEW⟩ := fresh W q2
      rw [List.take_length, ← hmv] at q3
      refine xr 2 rfl ?_
      refine exec_load1 (b := b12) (o := 0) rfl rfl (q3.cell rfl) ?_
      refine xr 3 rfl ?_
      refine exec_returnM hc [D0] rfl (by simp) (fun r hr => by simp at hr; subst hr; exact hsh) [u64V (movedN n T m p), .bool true, intV' 0] fun W' hu' hs' => ?_
      exact ⟨⟨rfl, rfl, rfl, trivial⟩, rfl, hEW.trans hu' (fun b hb => .inr (by simp at hb; omega))⟩
    · rintro cd D0 u W hD h hsh hnl; exact h.elim
end
end Go.Sp


