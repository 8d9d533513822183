/- spinneylaw14.ForestProves returns true for every input, and its arguments read afterwards as before: the card. No condition. This text: part 8 of 10. -/
import Derived.Test.YtgkfgclebdikgaaGreatDoorW7
set_option linter.unusedVariables false
set_option linter.unusedSimpArgs false
set_option linter.unusedSectionVars false
namespace Go.Sp
def zipL (all : List Hash) (live : List Bool) : List (Option Hash) := List.zipWith (fun h b => if b = true then some h else none) all live
def nextLive (del all : List Hash) (live : List Bool) : List Bool := List.zipWith (fun h b => b && !hasB del h) all live
theorem nextLive_len {del all : List Hash} {live : List Bool} (h : all.length = live.length) : (nextLive del all live).length = live.length := by simp [nextLive, h]
theorem zipL_len {all : List Hash} {live : List Bool} (h : all.length = live.length) : (zipL all live).length = all.length := by simp [zipL, h]
theorem goneL_zip (del : List Hash) : ∀ (all : List Hash) (live : List Bool), goneL del (zipL all live) = zipL all (nextLive del all live) := by
  intro all
  induction all with
  | nil => intro live; rfl
  | cons h all ih =>
    intro live
    cases live with
    | nil => rfl
    | cons b live =>
      have := ih live
      simp only [goneL, zipL, nextLive, List.zipWith_cons_cons, List.map_cons] at this ⊢
      rw [this]
      congr 1
      cases b with
      | false => rfl
      | true =>
        simp only [if_true, Bool.true_and, Option.filter]
        by_cases hd : h ∈ del
        · simp [hd, hasB_iff.2 hd]
        · have : hasB del h = false := by
            cases hb : hasB del h with
            | false => rfl
            | true => exact absurd (hasB_iff.1 hb) hd
          simp [hd, this]
theorem zipL_append {all all' : List Hash} {live live' : List Bool} (h : all.length = live.length) : zipL (all ++ all') (live ++ live') = zipL all live ++ zipL all' live' := List.zipWith_append h
theorem zipL_true : ∀ (add : List Hash), zipL add (add.map fun _ => true) = add.map some := by
  intro add
  induction add with
  | nil => rfl
  | cons a add ih =>
    simp only [zipL, List.map_cons, List.zipWith_cons_cons] at ih ⊢
    rw [ih]; simp
theorem modL_zip {del add all : List Hash} {live : List Bool} (h : all.length = live.length) : modL del add (zipL all live) = zipL (all ++ add) (nextLive del all live ++ add.map fun _ => true) := by
  rw [modL, goneL_zip, zipL_append (by rw [nextLive_len h, h]), zipL_true]
/-- steps, where they lie -/
def ActsAt (w : World) (v : Value) (l : List (List Hash × List Hash)) : Prop := ∃ cs, SlC w v 3 l.length cs ∧ ∀ (i : Nat) (a : List Hash × List Hash), l[i]? = some a → ∃ x dv av, cs[i * 3]? = some x ∧ cs[i * 3 + 1]? = some dv ∧ cs[i * 3 + 2]? = some av ∧
  SlC w dv 32 a.1.length (hs a.1) ∧ SlC w av 32 a.2.length (hs a.2)
theorem hs_strange {w : World} {v : Value} {l : List Hash} (h : OwnC w v 32 l.length (hs l)) (hn : l = [] → v = .slice none 0 0) : Foreign w (blkOf v) := by
  rcases h with ⟨rfl, _⟩ | ⟨b, cap, rest, rfl, hB, _, hl, _⟩
  · exact Foreign.nil w
  · refine Foreign.cons (Foreign.blk hB ?_) (Foreign.nil w)
    cases l with
    | nil => cases hn rfl
    | cons a l =>
      obtain ⟨n, hh⟩ := hC_head a (hs l ++ rest)
      have e : hs (a :: l) ++ rest = hC a ++ (hs l ++ rest) := by simp [hs]
      rw [e] at hl ⊢
      refine ⟨fun h => ?_, fun ⟨⟨q, h⟩, _⟩ => ?_⟩
      · omega
      · rw [hh] at h; cases h
theorem bs_strange {w : World} {v : Value} {l : List Bool} (h : OwnC w v 1 l.length (l.map .bool)) (hn : l = [] → v = .slice none 0 0) : Foreign w (blkOf v) := by
  rcases h with ⟨rfl, _⟩ | ⟨b, cap, rest, rfl, hB, _, hl, _⟩
  · exact Foreign.nil w
  · refine Foreign.cons (Foreign.blk hB ?_) (Foreign.nil w)
    cases l with
    | nil => cases hn rfl
    | cons a l => exact Strange.head (by simp) (by simp)
def mixB (nl live : List Bool) (k : Nat) : List Bool := nl.take k ++ live.drop k
theorem mixB_len {nl live : List Bool} {k : Nat} (h : nl.length = live.length) : (mixB nl live k).length = live.length := by
  simp [mixB]; omega
theorem mixB_get {nl live : List Bool} {k : Nat} {b : Bool} (h : nl.length = live.length) (hk : live[k]? = some b) : (mixB nl live k)[k]? = some b := by
  have hlt := (List.getElem?_eq_some_iff.1 hk).1
  have : (nl.take k).length = k := by simp; omega
  rw [mixB, List.getElem?_append_right (by omega), this, Nat.sub_self, List.getElem?_drop]; exact hk
theorem mixB_next {nl live : List Bool} {k : Nat} {b : Bool} (h : nl.length = live.length) (hk : nl[k]? = some b) : (mixB nl live k).set k b = mixB nl live (k + 1) := by
  have hlt := (List.getElem?_eq_some_iff.1 hk).1
  have hl : (nl.take k).length = k := by simp; omega
  rw [mixB, mixB, List.take_add_one, hk, List.set_append_right _ _ (by omega), hl, Nat.sub_self]
  have : live.drop k = live[k]'(by omega) :: live.drop (k + 1) := List.drop_eq_getElem_cons (by omega)
  rw [this, List.set_cons_zero, List.append_assoc]; rfl
theorem mixB_zero (nl live : List Bool) : mixB nl live 0 = live := by simp [mixB]
theorem mixB_all {nl live : List Bool} (h : nl.length = live.length) : mixB nl live live.length = nl := by
  rw [mixB, List.drop_length, List.append_nil, List.take_of_length_le (by omega)]
theorem nextLive_get {del all : List Hash} {live : List Bool} {k : Nat} {h : Hash} {b : Bool} (h1 : all[k]? = some h) (h2 : live[k]? = some b) : (nextLive del all live)[k]? = some (b && !hasB del h) := by
  rw [nextLive, List.getElem?_zipWith, h1, h2]
/-- a bool written into a list of one's own -/
theorem OwnC.put {w w' : World} {b cap n k : Nat} {l : List Bool} {x : Bool} (h : OwnC w (.slice (some ⟨b, 0, none⟩) n cap) 1 n (l.map .bool)) (hk : k < l.length)
    (hB : ∀ cs, Blk w b cs → Blk w' b (splice cs (0 + k * 1) [.bool x])) : OwnC w' (.slice (some ⟨b, 0, none⟩) n cap) 1 n ((l.set k x).map .bool) := by
  rcases h with ⟨h, _⟩ | ⟨b', cap', rest, hv, hBl, h1, h2, h3⟩
  · cases h
  · cases hv
    refine .inr ⟨b, cap, rest, rfl, ?_, ?_, ?_, h3⟩
    · have := hB _ hBl
      rw [splice_one _ _ _ (by simp; omega), Nat.zero_add, Nat.mul_one, List.set_append_left _ _ (by simpa using hk), ← List.map_set] at this
      exact this
    · simpa using h1
    · simpa using h2
theorem Foreign.append {w : World} {l l' : List Nat} (h : Foreign w l) (h' : Foreign w l') : Foreign w (l ++ l') := fun b hb => by
  rcases List.mem_append.1 hb with hb | hb
  · exact h b hb
  · exact h' b hb
/-- the functions of the laws, on -/
structure LawH (P : Program) extends LawG P where
  told : Nat
  TT1 : Nat
  TT2 : Nat
  h_told : Has P told (b_spinneylaw14_told new' cut modify has TT1 TH TT2)
/-- what told has gathered -/
structure Told (W : World) (n0 p m : Nat) (k : Nat) (s : Fo) (all : List Hash) (live : List Bool) (av lv' : Value) : Prop where
  f : FAt W p m s
  turns : s.turns ≤ k
  len : all.length ≤ 10 * k
  eq : all.length = live.length
  L : s.L = zipL all live
  oa : OwnC W av 32 all.length (hs all)
  ol : OwnC W lv' 1 live.length (live.map .bool)
  na : all = [] → av = .slice none 0 0 ∧ lv' = .slice none 0 0
  ba : ∀ b ∈ blkOf av, n0 ≤ b ∧ b ≠ p ∧ b ≠ m ∧ b ∉ blkOf lv'
  bl : ∀ b ∈ blkOf lv', n0 ≤ b ∧ b ≠ p ∧ b ≠ m ∧ b ∉ blkOf av
theorem Told.ext {W W' : World} {n0 p m k : Nat} {s : Fo} {all : List Hash} {live : List Bool} {av lv' : Value} (h : Told W n0 p m k s all live av lv') (hu : Ext W W') : Told W' n0 p m k s all live av lv' :=
  ⟨h.f.ext hu, h.turns, h.len, h.eq, h.L, h.oa.upd hu (by simp), h.ol.upd hu (by simp), h.na, h.ba, h.bl⟩
theorem Told.mono {W : World} {n0 p m k k' : Nat} {s : Fo} {all : List Hash} {live : List Bool} {av lv' : Value} (h : Told W n0 p m k s all live av lv') (hk : k ≤ k') : Told W n0 p m k' s all live av lv' :=
  ⟨h.f, Nat.le_trans h.turns hk, Nat.le_trans h.len (Nat.mul_le_mul_left 10 hk), h.eq, h.L, h.oa, h.ol, h.na, h.ba, h.bl⟩
section
variable {P : Program} {f : Nat} {w : World}
theorem ActsAt.at' {v : Value} {l : List (List Hash × List Hash)} {i : Nat} {a : List Hash × List Hash} (h : ActsAt w v l) (hi : l[i]? = some a) : ∃ b o cap x dv av, v = .slice (some ⟨b, o, none⟩) l.length cap ∧ i < l.length ∧ Mem w b (o + i * 3) [x, dv, av] ∧
    SlC w dv 32 a.1.length (hs a.1) ∧ SlC w av 32 a.2.length (hs a.2) := by
  obtain ⟨cs, hS, hall⟩ := h
  have hlt := (List.getElem?_eq_some_iff.1 hi).1
  obtain ⟨x, dv, av, g0, g1, g2, h1, h2⟩ := hall i a hi
  obtain ⟨b, o, cap, hv, hm, _⟩ := hS.at (by omega)
  refine ⟨b, o, cap, x, dv, av, hv, hlt, hm.sub (i * 3) (us := [x, dv, av]) (fun k y hk => ?_), h1, h2⟩
  match k, hk with
  | 0, hk => cases hk; exact g0
  | 1, hk => cases hk; exact g1
  | 2, hk => cases hk; exact g2
set_option maxHeartbeats 1600000 in
theorem told_ok (A : LawH P) (hT : Tabs A.toShaF w) {v : Value} {l : List (List Hash × List Hash)} (hl : ActsAt w v l) :
    Ret P A.told [v] w fun r w' => ∃ p m s all live av lv', r = .tuple #[ptrV p, av, lv'] ∧ w.heap.size ≤ p ∧ w.heap.size ≤ m ∧ Told w' w.heap.size p m 12 s all live av lv' ∧ Ext w w' := by
  refine Ret.of_exec A.h_told (Nat.le_of_ble_eq_true rfl) fun c hc => ?_
  dsimp only [b_spinneylaw14_told, argEnv, ym, yo, yg, ys, yt, yd, ye]
  refine xr 3 rfl ?_
  refine xca rfl rfl (new_ok A.toForM) ?_
  rintro _ w1 ⟨p, m, rfl, hp, hm, hF, hu1⟩
  refine xr 5 rfl ?_
  have hlenS : ∃ cs, SlC w v 3 l.length cs := let ⟨cs, h, _⟩ := hl; ⟨cs, h⟩
  obtain ⟨lcs, hLS⟩ := hlenS
  refine exec_inner_join (S := Fo × List Hash × List Bool × Value × Value) (fun st W => Told W w.heap.size p m 12 st.1 st.2.1 st.2.2.1 st.2.2.2.1 st.2.2.2.2 ∧ Ext w W)
    (fun st => [(5, ptrV p), (6, st.2.2.2.1), (7, st.2.2.2.2)]) ?_ ?_
  rotate_left
  · rintro ⟨s, all, live, av, lv'⟩ W ⟨h1, h2⟩
    refine xr 6 rfl ?_
    exact xre hc [_, _, _] ⟨rfl, rfl, rfl, trivial⟩ ⟨p, m, s, all, live, av, lv', rfl, hp, hm, h1, h2⟩
  refine xlo (S := Nat × Fo × List Hash × List Bool × Value × Value) (fun st W => st.1 ≤ 12 ∧ Told W w.heap.size p m st.1 st.2.1 st.2.2.1 st.2.2.2.1 st.2.2.2.2.1 st.2.2.2.2.2 ∧ Ext w W)
    (fun st => [(0, v), (5, ptrV p), (6, st.2.2.2.2.1), (7, st.2.2.2.2.2), (8, intV' st.1)]) (fun st => 12 - st.1) (0, ⟨[], 0, 0⟩, [], [], .slice none 0 0, .slice none 0 0)
    ⟨by show 0 ≤ 12; omega, ⟨hF, Nat.le_refl _, Nat.le_refl _, rfl, rfl, .inl ⟨rfl, rfl, rfl⟩, .inl ⟨rfl, rfl, rfl⟩, fun _ => ⟨rfl, rfl⟩, by simp [blkOf], by simp [blkOf]⟩, hu1⟩ ⟨rfl, rfl, rfl, rfl, rfl, trivial⟩ ?_
  rintro ⟨i, s, all, live, av, lv'⟩ W ⟨i1, hTo, hwW⟩
  simp only at i1 hTo
  refine xtm rfl rfl rfl ?_
  refine xtm rfl rfl rfl ?_
  refine xpu (hLS.lenS rfl) rfl ?_
  by_cases hil : i < l.length
  case neg =>
    refine xpu (pv_lssI (a := i) (b := l.length) (q := false) rfl rfl (by simpa using hil)) rfl ?_
    refine xr 6 rfl ?_
    refine exec_meet (s, all, live, av, lv') ⟨hTo.mono i1, hwW⟩ ⟨rfl, rfl, rfl, trivial⟩
  refine xpu (pv_lssI (a := i) (b := l.length) (q := true) rfl rfl (by simpa using hil)) rfl ?_
  refine xr 4 rfl ?_
  by_cases hi12 : i < 12
  case neg =>
    refine xpu (pv_lssI (a := i) (b := 12) (q := false) rfl rfl (by simpa using hi12)) rfl ?_
    refine xr 3 rfl ?_
    refine exec_meet (s, all, live, av, lv') ⟨hTo.mono i1, hwW⟩ ⟨rfl, rfl, rfl, trivial⟩
  refine xpu (pv_lssI (a := i) (b := 12) (q := true) rfl rfl (by simpa using hi12)) rfl ?_
  refine xr 4 rfl ?_
  obtain ⟨⟨del, add⟩, hai⟩ : ∃ a, l[i]? = some a := ⟨_, List.getElem?_eq_getElem hil⟩
  obtain ⟨bl, ol, cl, x, dv, ad, hv, _, hml, hSd, hSa⟩ := hl.at' hai
  simp only at hSd hSa
  refine xen [(0, v), (5, ptrV p), (6, av), (7, lv'), (8, intV' i)] ⟨rfl, rfl, rfl, rfl, rfl, trivial⟩ ?_
  refine exec_dwr rfl rfl rfl ?_
  repeat (first | refine wtm rfl rfl rfl ?_ | refine wgt rfl rfl rfl rfl ?_ | refine wgs rfl rfl ?_)
  refine ws_keep _ rfl (fun X hx => ok_iaddr (N := 3) (b := bl) (o := ol) (len := l.length) (cap := cl) (by rw [← hv]; rfl) rfl i rfl hil) ?_
  repeat (first | refine wtm rfl rfl rfl ?_ | refine wgt rfl rfl rfl rfl ?_ | refine wgs rfl rfl ?_)
  refine ws_keep dv rfl (fun X hx => ok_load1 (b := bl) (o := ol + i * 3 + 1) rfl ((hml.upd (hwW.trans hx) (by simp)) 1 dv rfl)) ?_
  refine ws_ext (cutV dv del) rfl (fun X hx => ok_call rfl (cut_ok A.toLawF (hSd.upd (hwW.trans hx) (by simp)))) ?_
  repeat (first | refine wtm rfl rfl rfl ?_ | refine wgt rfl rfl rfl rfl ?_ | refine wgs rfl rfl ?_)
  refine ws_keep _ rfl (fun X hx => ok_iaddr (N := 3) (b := bl) (o := ol) (len := l.length) (cap := cl) (by rw [← hv]; rfl) rfl i rfl hil) ?_
  repeat (first | refine wtm rfl rfl rfl ?_ | refine wgt rfl rfl rfl rfl ?_ | refine wgs rfl rfl ?_)
  refine ws_keep ad rfl (fun X hx => ok_load1 (b := bl) (o := ol + i * 3 + 2) rfl ((hml.upd (hwW.trans hx) (by simp)) 2 ad rfl)) ?_
  refine ws_fin fun w2 hw2 => ?_
  refine xca rfl rfl (cut_ok A.toLawF (hSa.upd (hwW.trans hw2) (by simp))) ?_
  rintro _ w3 ⟨rfl, hu3⟩
  refine xr 5 rfl ?_
  have hW3 : Ext W w3 := hw2.trans hu3
  have hE3 : Ext w w3 := hwW.trans hW3
  have hTo3 := hTo.ext hW3
  refine xen [(0, v), (5, ptrV p), (6, av), (7, lv'), (8, intV' i), (9, cutV dv del), (10, cutV ad add), (39, ptrV p), (40, cutV dv del), (41, cutV ad add)] ⟨rfl, rfl, rfl, rfl, rfl, rfl, rfl, rfl, rfl, rfl, trivial⟩ ?_
  have hSd3 := cutV_sl (hSd.upd hE3 (by simp))
  have hSa3 := cutV_sl (hSa.upd hE3 (by simp))
  have hlen3 : s.L.length ≤ 120 := by rw [hTo.L, zipL_len hTo.eq]; have := hTo.len; omega
  have hd10 : (del.take 10).length ≤ 10 := by rw [List.length_take]; omega
  have ha10 : (add.take 10).length ≤ 10 := by rw [List.length_take]; omega
  have htu := hTo.turns
  have hT3 := hT.upd hE3
  refine xca rfl rfl (modify_ok A.toForL hT3 hTo3.f hSd3 hSa3 (by omega) (by omega) (by omega)) ?_
  rintro _ w4 hcase
  have ht3 := hTo3.f.tabs hT3
  have zE3 := hE3.size
  have hE4 : Ext w w4 := by
    rcases hcase with ⟨_, _, _, h⟩ | ⟨_, _, _, _, _, h⟩
    · exact hE3.trans h
    · exact hE3.trans h (fun b hb => .inr (by simp at hb; rcases hb with rfl | rfl <;> omega))
  rcases hcase with ⟨e, rfl, hR, hu4⟩ | ⟨u, rfl, hGr, hF4, hU4, hu4⟩
  · refine xr 3 rfl ?_
    refine exec_new_store (v := .agg undoZ.toArray) rfl rfl rfl rfl rfl rfl ?_
    intro b11 w5 hb11 hs5 hu5 hB11
    have he0 : e ≠ 0 := by rcases hR with ⟨rfl, _⟩ | ⟨rfl, _⟩ | ⟨rfl, _⟩ <;> omega
    refine xr 2 rfl ?_
    refine xpu (pv_neqI (a := e) (b := 0) (q := true) rfl rfl (by simpa using he0)) rfl ?_
    refine xr 4 rfl ?_
    refine xpu (pv_addI (a := i) (b := 1) rfl rfl (by omega)) rfl ?_
    refine xr 1 rfl ?_
    exact xag (i + 1, s, all, live, av, lv') ⟨hi12, ((hTo3.ext hu4).ext hu5).mono (Nat.le_succ _), hE4.trans hu5⟩ (by show 12 - (i + 1) < 12 - i; omega) ⟨rfl, rfl, rfl, rfl, rfl, trivial⟩
  · refine xr 3 rfl ?_
    refine exec_new_store (v := u) rfl rfl rfl hU4.cells.1 rfl hU4.cells.2 ?_
    intro b11 w5 hb11 hs5 hu5 hB11
    refine xr 2 rfl ?_
    refine xpu (pv_neqI (a := 0) (b := 0) (q := false) rfl rfl rfl) rfl ?_
    refine xr 4 rfl ?_
    have hF5 := hF4.ext hu5
    have hE5 := hE4.trans hu5
    have hoa5 : OwnC w5 av 32 all.length (hs all) := (hTo3.oa.upd hu4 (fun b hb => by have := hTo3.ba b hb; simp; omega)).upd hu5 (by simp)
    have hol5 : OwnC w5 lv' 1 live.length (live.map .bool) := (hTo3.ol.upd hu4 (fun b hb => by have := hTo3.bl b hb; simp; omega)).upd hu5 (by simp)
    refine xen [(0, v), (5, ptrV p), (6, av), (7, lv'), (8, intV' i), (9, cutV dv del), (10, cutV ad add), (13, intV' 0)] ⟨rfl, rfl, rfl, rfl, rfl, rfl, rfl, rfl, trivial⟩ ?_
    have heq := hTo.eq
    have hal := hTo.len
    have hnl := nextLive_len (del := del.take 10) heq
    refine xlo (S := Nat) (fun k W => k ≤ live.length ∧ OwnC W lv' 1 live.length ((mixB (nextLive (del.take 10) all live) live k).map .bool) ∧ Upd (blkOf lv') w5 W)
      (fun k => [(0, v), (5, ptrV p), (6, av), (7, lv'), (8, intV' i), (9, cutV dv del), (10, cutV ad add), (13, intV' k)]) (fun k => live.length - k) 0
      ⟨Nat.zero_le _, by rw [mixB_zero]; exact hol5, Upd.refl _ _⟩ ⟨rfl, rfl, rfl, rfl, rfl, rfl, rfl, rfl, trivial⟩ ?_
    rintro k X ⟨k1, kO, kU⟩
    have zE5 := hE5.size
    have hwX : Ext w X := hE5.trans kU (fun b hb => .inr (hTo3.bl b hb).1)
    have koa : OwnC X av 32 all.length (hs all) := hoa5.upd kU (fun b hb => (hTo3.ba b hb).2.2.2)
    refine xtm rfl rfl rfl ?_
    refine xtm rfl rfl rfl ?_
    refine xpu (koa.sl.lenS rfl) rfl ?_
    by_cases hk : k < all.length
    · refine xpu (pv_lssI (a := k) (b := all.length) (q := true) rfl rfl (by simpa using hk)) rfl ?_
      refine xr 7 rfl ?_
      obtain ⟨hh, hhk⟩ : ∃ h, all[k]? = some h := ⟨_, List.getElem?_eq_getElem hk⟩
      obtain ⟨bk, hbk⟩ : ∃ b, live[k]? = some b := ⟨_, List.getElem?_eq_getElem (by omega)⟩
      have kO0 := kO
      have hl0 := mixB_len (k := k) hnl
      rcases kO0 with ⟨_, h0, _⟩ | ⟨bb, cap, rest, rfl, hBb, ho1, ho2, ho3⟩
      · omega
      refine xju (ok_iaddr (N := 1) (b := bb) (o := 0) (len := live.length) (cap := cap) rfl rfl k rfl (by omega)) rfl ?_
      have hcell : ((mixB (nextLive (del.take 10) all live) live k).map Value.bool ++ rest)[0 + k * 1]? = some (.bool bk) := by
        rw [Nat.zero_add, Nat.mul_one, List.getElem?_append_left (by simp; omega), List.getElem?_map, mixB_get hnl hbk]; rfl
      refine exec_load1 (b := bb) (o := 0 + k * 1) rfl rfl (hBb.cell hcell) ?_
      refine xr 1 rfl ?_
      have next : ∀ (en : Env), Env.sub [(0, v), (5, ptrV p), (6, av), (7, .slice (some ⟨bb, 0, none⟩) live.length cap), (8, intV' i), (9, cutV dv del), (10, cutV ad add), (13, intV' k), (53, .slice (some ⟨bb, 0, none⟩) live.length cap), (54, intV' k), (67, .bool (bk && !hasB (del.take 10) hh))] en →
          ∀ X2, Ext X X2 → ∀ is K, (∀ X3 en3, Env.sub [(0, v), (5, ptrV p), (6, av), (7, .slice (some ⟨bb, 0, none⟩) live.length cap), (8, intV' i), (9, cutV dv del), (10, cutV ad add), (13, intV' k)] en3 →
            OwnC X3 (.slice (some ⟨bb, 0, none⟩) live.length cap) 1 live.length ((mixB (nextLive (del.take 10) all live) live (k + 1)).map .bool) → Upd [bb] w5 X3 → Exec P 88 c [] is K en3 X3) →
            Exec P 88 c [] (.op none (some 68) (.iaddr 1 (.tmp 53) (.tmp 54)) :: .op none none (.store 1 (.tmp 68) (.tmp 67)) :: is) K en X2 := by
        intro en hen X2 hX2 is K hK
        refine xen _ hen ?_
        refine xju (ok_iaddr (N := 1) (b := bb) (o := 0) (len := live.length) (cap := cap) rfl rfl k rfl (by omega)) rfl ?_
        refine exec_store (b := bb) (o := 0 + k * 1) (v := .bool (bk && !hasB (del.take 10) hh)) rfl rfl (hBb.upd hX2) rfl (by simp; omega) rfl ?_
        intro X3 hX3 _ hB3
        refine hK X3 _ ⟨rfl, rfl, rfl, rfl, rfl, rfl, rfl, rfl, trivial⟩ ?_ ((kU.trans hX2).trans hX3 (by simp [blkOf]))
        have := (kO.upd hX2 (by simp)).put (w' := X3) (k := k) (x := bk && !hasB (del.take 10) hh) (by omega) (fun cs hcs => by rw [blk_inj hcs (hBb.upd hX2)]; exact hB3)
        rw [mixB_next hnl (nextLive_get hhk hbk)] at this
        exact this
      cases bk with
      | false =>
        refine xr 8 rfl ?_
        refine next _ ⟨rfl, rfl, rfl, rfl, rfl, rfl, rfl, rfl, rfl, rfl, rfl, trivial⟩ X (Upd.refl _ _) _ _ ?_
        intro X3 en3 hen3 hO3 hU3
        refine xen _ hen3 ?_
        refine xr 3 rfl ?_
        refine xpu (pv_addI (a := k) (b := 1) rfl rfl (by omega)) rfl ?_
        refine xr 1 rfl ?_
        exact xag (k + 1) ⟨by show k + 1 ≤ live.length; omega, hO3, hU3⟩ (by show live.length - (k + 1) < live.length - k; omega) ⟨rfl, rfl, rfl, rfl, rfl, rfl, rfl, rfl, trivial⟩
      | true =>
        refine xr 7 rfl ?_
        obtain ⟨ba, oa, ca, hav, _, hma⟩ := hs_at koa.sl hhk
        refine xju (ok_iaddr (N := 32) (b := ba) (o := oa) (len := all.length) (cap := ca) (by rw [← hav]; rfl) rfl k rfl hk) rfl ?_
        refine xgr rfl ?_
        refine exec_loadN (b := ba) (o := oa + k * 32) (vs := hC hh) rfl rfl hma (hC_length _) ?_
        refine xgr rfl ?_
        refine xca rfl rfl (has_ok A.toLawF (cutV_sl (hSd.upd hwX (by simp))) (by omega) hh) ?_
        rintro _ X2 ⟨rfl, hX2⟩
        refine xr 3 rfl ?_
        refine next _ ⟨rfl, rfl, rfl, rfl, rfl, rfl, rfl, rfl, rfl, rfl, rfl, trivial⟩ X2 hX2 _ _ ?_
        intro X3 en3 hen3 hO3 hU3
        refine xen _ hen3 ?_
        refine xr 3 rfl ?_
        refine xpu (pv_addI (a := k) (b := 1) rfl rfl (by omega)) rfl ?_
        refine xr 1 rfl ?_
        exact xag (k + 1) ⟨by show k + 1 ≤ live.length; omega, hO3, hU3⟩ (by show live.length - (k + 1) < live.length - k; omega) ⟨rfl, rfl, rfl, rfl, rfl, rfl, rfl, rfl, trivial⟩
    · refine xpu (pv_lssI (a := k) (b := all.length) (q := false) rfl rfl (by simpa using hk)) rfl ?_
      have : k = live.length := by omega
      subst this
      rw [mixB_all hnl] at kO
      refine xr 5 rfl ?_
      refine xen [(0, v), (5, ptrV p), (6, av), (7, lv'), (8, intV' i), (10, cutV ad add), (14, intV' 0)] ⟨rfl, rfl, rfl, rfl, rfl, rfl, rfl, trivial⟩ ?_
      have hlX := hs_strange koa (fun h => (hTo3.na h).1)
      have hF : FAt X p m _ := hF5.upd kU (bs_strange hol5 fun h => (hTo3.na (by cases all with
        | nil => rfl
        | cons a r => rw [h] at heq; simp at heq)).2) (fun h => (hTo3.bl p h).2.1 rfl) (fun h => (hTo3.bl m h).2.2.1 rfl)
      generalize hnle : nextLive (del.take 10) all live = nl at *
      refine xlo (S := Nat × Value × Value) (fun st W => st.1 ≤ (add.take 10).length ∧ OwnC W st.2.1 32 (all ++ (add.take 10).take st.1).length (hs (all ++ (add.take 10).take st.1)) ∧
          OwnC W st.2.2 1 (nl ++ ((add.take 10).take st.1).map fun _ => true).length ((nl ++ ((add.take 10).take st.1).map fun _ => true).map .bool) ∧ Upd (blkOf av ++ blkOf lv') X W ∧
          (∀ b ∈ blkOf st.2.1, (b ∈ blkOf av ∨ X.heap.size ≤ b) ∧ b ∉ blkOf st.2.2) ∧ (∀ b ∈ blkOf st.2.2, (b ∈ blkOf lv' ∨ X.heap.size ≤ b) ∧ b ∉ blkOf st.2.1) ∧ (all ++ (add.take 10).take st.1 = [] → st.2.1 = .slice none 0 0 ∧ st.2.2 = .slice none 0 0))
        (fun st => [(0, v), (5, ptrV p), (6, st.2.1), (7, st.2.2), (8, intV' i), (10, cutV ad add), (14, intV' st.1)]) (fun st => (add.take 10).length - st.1) (0, av, lv')
        ⟨Nat.zero_le _, by simpa using koa, by simpa [hnl] using kO, Upd.refl _ _, fun b hb => ⟨.inl hb, (hTo3.ba b hb).2.2.2⟩, fun b hb => ⟨.inl hb, (hTo3.bl b hb).2.2.2⟩, fun h => hTo3.na (by simpa using h)⟩ ⟨rfl, rfl, rfl, rfl, rfl, rfl, rfl, trivial⟩ ?_
      rintro ⟨j, av2, lv2⟩ Y ⟨j1, jA, jL, jU, jba, jbl, jn⟩
      simp only at j1 jA jL jba jbl jn
      have zX := hwX.size
      have hwY : Ext w Y := hwX.trans jU (fun b hb => .inr (by
        rcases List.mem_append.1 hb with h | h
        · exact (hTo3.ba b h).1
        · exact (hTo3.bl b h).1))
      have hSaY := cutV_sl (hSa.upd hwY (by simp))
      refine xtm rfl rfl rfl ?_
      refine xtm rfl rfl rfl ?_
      refine xpu (hSaY.lenS rfl) rfl ?_
      by_cases hj : j < (add.take 10).length
      · refine xpu (pv_lssI (a := j) (b := (add.take 10).length) (q := true) rfl rfl (by simpa using hj)) rfl ?_
        refine xr 6 rfl ?_
        obtain ⟨ah, hah⟩ : ∃ h, (add.take 10)[j]? = some h := ⟨_, List.getElem?_eq_getElem hj⟩
        have htk : (add.take 10).take (j + 1) = (add.take 10).take j ++ [ah] := by rw [List.take_add_one, hah]; rfl
        obtain ⟨bd, od, cd, hdv, _, hmd⟩ := hs_at hSaY hah
        have hjl : ((add.take 10).take j).length = j := by rw [List.length_take]; omega
        refine xju (ok_iaddr (N := 32) (b := bd) (o := od) (len := (add.take 10).length) (cap := cd) (by rw [← hdv]; rfl) rfl j rfl hj) rfl ?_
        refine exec_loadN (b := bd) (o := od + j * 32) (vs := hC ah) rfl rfl hmd (hC_length _) ?_
        refine exec_litL (N := 32) (cs := hC ah) (l := [(0, 32, hV ah)]) rfl (hash_fill ah) (by rw [hC_length]) rfl ?_
        intro bq Y1 hbq hsq hY1 hOq
        have hla2 : (all ++ (add.take 10).take j).length ≤ 130 := by rw [List.length_append, hjl]; omega
        refine exec_ok (ok_append (N := 32) rfl rfl (jA.upd hY1 (by simp)) hOq.sl rfl (by decide) (by omega) (hC_cell _)) rfl ?_
        rintro av3 Y2 ⟨hO2, hY2, hf2, hl2⟩
        have zY1 := hY1.size
        have zY2 := hY2.size
        have zXY := jU.size
        have jL2 := (jL.upd hY1 (by simp)).upd hY2 (fun b hb => (jbl b hb).2)
        refine xr 2 rfl ?_
        refine exec_litL (N := 1) (cs := [.bool true]) (l := [(0, 1, .bool true)]) rfl rfl rfl rfl ?_
        intro br Y3 hbr hsr hY3 hOr
        have hll2 : (nl ++ ((add.take 10).take j).map fun _ => true).length ≤ 130 := by rw [List.length_append, List.length_map, hjl, hnl, ← heq]; omega
        refine exec_ok (ok_append (N := 1) rfl rfl (jL2.upd hY3 (by simp)) hOr.sl rfl (by decide) (by omega) rfl) rfl ?_
        rintro lv3 Y4 ⟨hO4, hY4, hf4, hl4⟩
        have zY3 := hY3.size
        refine xr 4 rfl ?_
        refine xpu (pv_addI (a := j) (b := 1) rfl rfl (by omega)) rfl ?_
        refine xr 1 rfl ?_
        have kl2 : ∀ b ∈ blkOf lv2, b < Y.heap.size := fun b hb => jL.lt b hb
        have d34 : ∀ b ∈ blkOf av3, b ∉ blkOf lv3 := by
          intro b hb hb'
          have h1 := hl2 b hb
          rcases hf4 b hb' with h | h
          · rcases hf2 b hb with g | g
            · exact (jba b g).2 h
            · have := kl2 b h; omega
          · omega
        have hA4 := (hO2.upd hY3 (by simp)).upd hY4 (fun b hb hb' => by
          have h1 := hl2 b hb
          rcases hf2 b hb with g | g
          · exact (jba b g).2 hb'
          · have := kl2 b hb'; omega)
        refine xag (j + 1, av3, lv3) ⟨hj, ?_, ?_, ?_, fun b hb => ⟨?_, d34 b hb⟩, fun b hb => ⟨?_, fun h => d34 b h hb⟩, fun h => ?_⟩ (by show (add.take 10).length - (j + 1) < (add.take 10).length - j; omega) ⟨rfl, rfl, rfl, rfl, rfl, rfl, rfl, trivial⟩
        · rw [htk, ← List.append_assoc, hs_append, List.length_append]
          simpa [hs] using hA4
        · rw [htk, List.map_append, ← List.append_assoc, List.map_append, List.length_append]
          exact hO4
        · refine (((jU.trans hY1).trans hY2 (fun b hb => ?_)).trans hY3).trans hY4 (fun b hb => ?_)
          · exact (jba b hb).1.imp (fun h => List.mem_append_left _ h) id
          · exact (jbl b hb).1.imp (fun h => List.mem_append_right _ h) id
        · rcases hf2 b hb with g | g
          · exact (jba b g).1
          · right; omega
        · rcases hf4 b hb with g | g
          · exact (jbl b g).1
          · right; omega
        · have h' : all ++ (add.take 10).take (j + 1) = [] := h
          rw [htk] at h'; simp at h'
      · refine xpu (pv_lssI (a := j) (b := (add.take 10).length) (q := false) rfl rfl (by simpa using hj)) rfl ?_
        have : j = (add.take 10).length := by omega
        subst this
        rw [List.take_length] at jA jL jn
        refine xr 6 rfl ?_
        refine xpu (pv_addI (a := i) (b := 1) rfl rfl (by omega)) rfl ?_
        refine xr 1 rfl ?_
        have hnl0 : nl = [] → lv' = .slice none 0 0 := fun h => (hTo3.na (by
          rw [h] at hnl
          cases all with
          | nil => rfl
          | cons a r => simp at hnl heq; omega)).2
        have hfor : Foreign X (blkOf av ++ blkOf lv') := hlX.append (bs_strange (l := nl) (by rw [hnl]; exact kO) hnl0)
        have kp := hF.lt
        refine xag (i + 1, _, all ++ add.take 10, nl ++ (add.take 10).map fun _ => true, av2, lv2) ⟨hi12, ⟨hF.upd jU hfor ?_ ?_, ?_, ?_, ?_, ?_, jA, jL, jn, ?_, ?_⟩, hwY⟩ (by show 12 - (i + 1) < 12 - i; omega) ⟨rfl, rfl, rfl, rfl, rfl, trivial⟩
        · intro h
          rcases List.mem_append.1 h with h | h
          · exact (hTo3.ba p h).2.1 rfl
          · exact (hTo3.bl p h).2.1 rfl
        · intro h
          rcases List.mem_append.1 h with h | h
          · exact (hTo3.ba m h).2.2.1 rfl
          · exact (hTo3.bl m h).2.2.1 rfl
        · show s.turns + 1 ≤ i + 1; omega
        · show (all ++ add.take 10).length ≤ 10 * (i + 1)
          rw [List.length_append]; omega
        · show (all ++ add.take 10).length = (nl ++ (add.take 10).map fun _ => true).length
          rw [List.length_append, List.length_append, List.length_map, hnl, heq]
        · show modL (del.take 10) (add.take 10) s.L = _
          rw [hTo.L, modL_zip heq, hnle]
        · intro b hb
          rcases (jba b hb).1 with h | h
          · have := hTo3.ba b h; exact ⟨this.1, this.2.1, this.2.2.1, (jba b hb).2⟩
          · exact ⟨by omega, by omega, by omega, (jba b hb).2⟩
        · intro b hb
          rcases (jbl b hb).1 with h | h
          · have := hTo3.bl b h; exact ⟨this.1, this.2.1, this.2.2.1, (jbl b hb).2⟩
          · exact ⟨by omega, by omega, by omega, (jbl b hb).2⟩
end
end Go.Sp

namespace Go.Sp
def posN (R r i : Nat) : Nat := beginN r R + i
/-- the place (r, i) belongs to the tree of height h -/
structure InT (n h r i : Nat) : Prop where
  le : r ≤ h
  bit : bitN n h = true
  idx : i / 2 ^ (h - r) = n / 2 ^ (h + 1) * 2
/-- a place and k places above it -/
def upsN (R : Nat) : Nat → Nat → Nat → List Nat
  | 0, r, i => [posN R r i]
  | k + 1, r, i => posN R r i :: upsN R k (r + 1) (i / 2)
theorem bit_rows {n h : Nat} (hn : n < 2 ^ 63) (hb : bitN n h = true) : h ≤ rowsN n := by
  have h1 := bitN_le hb
  have h2 := le_rows hn
  have : 2 ^ h ≤ 2 ^ rowsN n := by omega
  exact (Nat.pow_le_pow_iff_right (by omega)).1 this
theorem bit_odd {n h : Nat} (hb : bitN n h = true) : n / 2 ^ h = n / 2 ^ (h + 1) * 2 + 1 := by
  have : n / 2 ^ h % 2 = 1 := by simpa [bitN] using hb
  rw [Nat.pow_succ, ← Nat.div_div_eq_div_mul]
  omega
theorem div_step (i d : Nat) : i / 2 / 2 ^ d = i / 2 ^ (d + 1) := by rw [Nat.div_div_eq_div_mul, ← Nat.pow_succ']
theorem InT.up {n h r i : Nat} (hI : InT n h r i) (hr : r < h) : InT n h (r + 1) (i / 2) :=
  ⟨hr, hI.bit, by rw [div_step, show h - (r + 1) + 1 = h - r by omega]; exact hI.idx⟩
theorem InT.down {n h r i : Nat} (hI : InT n h (r + 1) (i / 2)) : InT n h r i := by
  have := hI.le
  refine ⟨by omega, hI.bit, ?_⟩
  have h2 := hI.idx
  rw [div_step, show h - (r + 1) + 1 = h - r by omega] at h2
  exact h2
theorem InT.lt {n h r i : Nat} (hn : n < 2 ^ 63) (hI : InT n h r i) : i < 2 ^ (rowsN n - r) := by
  have h1 := bit_rows hn hI.bit
  have h2 := hI.le
  have h3 := le_rows hn
  have h4 := bit_odd hI.bit
  have h5 := hI.idx
  have e1 : n / 2 ^ h ≤ 2 ^ (rowsN n - h) := by
    have : 2 ^ rowsN n = 2 ^ (rowsN n - h) * 2 ^ h := by rw [← Nat.pow_add]; congr 1; omega
    rw [this] at h3
    exact Nat.div_le_of_le_mul (by rw [Nat.mul_comm]; exact h3)
  have h6 : i < (i / 2 ^ (h - r) + 1) * 2 ^ (h - r) := by
    have hp : 0 < 2 ^ (h - r) := Nat.pow_pos (by omega)
    have := Nat.div_add_mod i (2 ^ (h - r))
    have := Nat.mod_lt i hp
    rw [Nat.add_mul, Nat.one_mul, Nat.mul_comm]
    omega
  have h7 : (i / 2 ^ (h - r) + 1) * 2 ^ (h - r) ≤ 2 ^ (rowsN n - h) * 2 ^ (h - r) := Nat.mul_le_mul_right _ (by omega)
  rw [← Nat.pow_add, show rowsN n - h + (h - r) = rowsN n - r by omega] at h7
  omega
theorem InT.row {n h r i : Nat} (hn : n < 2 ^ 63) (hI : InT n h r i) : rowN (posN (rowsN n) r i) (rowsN n) = some r :=
  row_posN (rowsN_le hn) (Nat.le_trans hI.le (bit_rows hn hI.bit)) (hI.lt hn)
theorem pos_inj {R r r' i i' : Nat} (hR : R ≤ 63) (h : r ≤ R) (h' : r' ≤ R) (hi : i < 2 ^ (R - r)) (hi' : i' < 2 ^ (R - r')) (he : posN R r i = posN R r' i') : r = r' ∧ i = i' := by
  have h1 := row_posN hR h hi
  have h2 := row_posN hR h' hi'
  unfold posN at he
  rw [he, h2] at h1
  have : r = r' := (Option.some.inj h1).symm
  subst this
  exact ⟨rfl, by omega⟩
theorem InT.inj {n h h' r r' i i' : Nat} (hn : n < 2 ^ 63) (hI : InT n h r i) (hI' : InT n h' r' i') (he : posN (rowsN n) r i = posN (rowsN n) r' i') : r = r' ∧ i = i' :=
  pos_inj (rowsN_le hn) (Nat.le_trans hI.le (bit_rows hn hI.bit)) (Nat.le_trans hI'.le (bit_rows hn hI'.bit)) (hI.lt hn) (hI'.lt hn) he
theorem root_iff {n r i : Nat} (hn : n < 2 ^ 63) : rootN n r = some (posN (rowsN n) r i) ↔ InT n r r i := by
  constructor
  · intro h
    unfold rootN at h
    split at h
    · rename_i hc
      have h2 := Option.some.inj h
      simp only [posN] at h2
      exact ⟨Nat.le_refl _, hc.2.2, by rw [Nat.sub_self, Nat.pow_zero, Nat.div_one]; omega⟩
    · cases h
  · intro h
    unfold rootN
    rw [if_pos ⟨hn, bit_rows hn h.bit, h.bit⟩]
    have := h.idx
    rw [Nat.sub_self, Nat.pow_zero, Nat.div_one] at this
    rw [posN, this]
/-- a place is in one tree alone -/
theorem InT.uniq {n h h' r i : Nat} (hI : InT n h r i) (hI' : InT n h' r i) : h = h' := by
  have key : ∀ {h h' : Nat}, InT n h r i → InT n h' r i → h < h' → False := by
    intro h h' hI hI' hlt
    have h1 := hI.idx
    have h2 := hI'.idx
    have h3 := hI.le
    have e1 : i / 2 ^ (h' - r) = i / 2 ^ (h - r) / 2 ^ (h' - h) := by
      rw [Nat.div_div_eq_div_mul, ← Nat.pow_add]; congr 2; omega
    have e2 : n / 2 ^ (h + 1) * 2 / 2 ^ (h' - h) = n / 2 ^ h' := by
      obtain ⟨d, rfl⟩ : ∃ d, h' = h + 1 + d := ⟨h' - h - 1, by omega⟩
      generalize hx : n / 2 ^ (h + 1) = x
      rw [show h + 1 + d - h = d + 1 by omega, Nat.pow_succ', ← Nat.div_div_eq_div_mul, Nat.mul_div_cancel _ (by omega), ← hx, Nat.div_div_eq_div_mul, ← Nat.pow_add]
    rw [e1, h1, e2, bit_odd hI'.bit] at h2
    omega
  rcases Nat.lt_trichotomy h h' with hlt | he | hlt
  · exact (key hI hI' hlt).elim
  · exact he
  · exact (key hI' hI hlt).elim
theorem wayCut_ups {n : Nat} (hn : n < 2 ^ 63) : ∀ (k r i h : Nat), InT n h r i → h ≤ r + k → wayCut n r (upsN (rowsN n) k r i) = some (upsN (rowsN n) (h - r) r i) := by
  intro k
  induction k with
  | zero =>
    intro r i h hI hk
    have : h = r := by have := hI.le; omega
    subst this
    simp only [upsN, wayCut]
    rw [if_pos ((root_iff hn).2 hI), Nat.sub_self]; rfl
  | succ k ih =>
    intro r i h hI hk
    simp only [upsN, wayCut]
    by_cases hr : h = r
    · subst hr
      rw [if_pos ((root_iff hn).2 hI), Nat.sub_self]; rfl
    · have hlt : r < h := by have := hI.le; omega
      rw [if_neg (fun hx => by have := ((root_iff hn).1 hx).uniq hI; omega), ih (r + 1) (i / 2) h (hI.up hlt) (by omega)]
      rw [show h - r = h - (r + 1) + 1 by omega]; rfl
theorem wayCut_some {n : Nat} (hn : n < 2 ^ 63) : ∀ (k r i : Nat) (l : List Nat), wayCut n r (upsN (rowsN n) k r i) = some l → ∃ h, InT n h r i := by
  intro k
  induction k with
  | zero =>
    intro r i l h
    simp only [upsN, wayCut] at h
    split at h
    · exact ⟨r, (root_iff hn).1 ‹_›⟩
    · cases h
  | succ k ih =>
    intro r i l h
    simp only [upsN, wayCut] at h
    split at h
    · exact ⟨r, (root_iff hn).1 ‹_›⟩
    · obtain ⟨l', h', _⟩ := Option.map_eq_some_iff.1 h
      obtain ⟨h, hI⟩ := ih _ _ _ h'
      exact ⟨h, hI.down⟩
theorem chain_ups {R : Nat} (hR : R ≤ 63) : ∀ (f r i : Nat), r ≤ R → i < 2 ^ (R - r) → R - r ≤ f → chainN f R (posN R r i) = upsN R (R - r) r i := by
  intro f
  induction f with
  | zero =>
    intro r i hr hi hf
    rw [show R - r = 0 by omega]; rfl
  | succ f ih =>
    intro r i hr hi hf
    simp only [chainN]
    rcases Nat.lt_or_ge r R with hlt | hge
    · unfold posN
      rw [parent_posN hR hlt hi]
      simp only
      have hi2 : i / 2 < 2 ^ (R - (r + 1)) := by
        have : 2 ^ (R - r) = 2 * 2 ^ (R - (r + 1)) := by rw [← Nat.pow_succ']; congr 1; omega
        omega
      have := ih (r + 1) (i / 2) hlt hi2 (by omega)
      unfold posN at this
      rw [this, show R - r = R - (r + 1) + 1 by omega]; rfl
    · have : r = R := by omega
      subst this
      unfold posN
      rw [parent_none hR rfl hi, Nat.sub_self]; rfl
theorem InT.way {n h r i : Nat} (hn : n < 2 ^ 63) (hI : InT n h r i) : wayN n (posN (rowsN n) r i) = upsN (rowsN n) (h - r) r i := by
  have hR := rowsN_le hn
  have hh := bit_rows hn hI.bit
  have hle := hI.le
  unfold wayN
  rw [if_pos hn, hI.row hn]
  simp only
  rw [chain_ups hR 64 r i (by omega) (hI.lt hn) (by omega), wayCut_ups hn (rowsN n - r) r i h hI (by omega)]; rfl
theorem ups_last (R : Nat) : ∀ (k r i : Nat), (upsN R k r i).getLast? = some (posN R (r + k) (i / 2 ^ k)) := by
  intro k
  induction k with
  | zero => intro r i; simp [upsN]
  | succ k ih =>
    intro r i
    rw [upsN, List.getLast?_cons, ih, div_step]
    simp [Nat.add_assoc, Nat.add_comm 1 k]
theorem mem_ups {R : Nat} : ∀ {k r i q : Nat}, q ∈ upsN R k r i ↔ ∃ j, j ≤ k ∧ q = posN R (r + j) (i / 2 ^ j) := by
  intro k
  induction k with
  | zero =>
    intro r i q
    simp only [upsN, List.mem_singleton]
    constructor
    · rintro rfl; exact ⟨0, Nat.le_refl _, by simp⟩
    · rintro ⟨j, hj, rfl⟩
      have : j = 0 := by omega
      subst this; simp
  | succ k ih =>
    intro r i q
    simp only [upsN, List.mem_cons, ih]
    constructor
    · rintro (rfl | ⟨j, hj, rfl⟩)
      · exact ⟨0, by omega, by simp⟩
      · exact ⟨j + 1, by omega, by rw [div_step]; congr 1; omega⟩
    · rintro ⟨j, hj, rfl⟩
      cases j with
      | zero => left; simp
      | succ j => right; exact ⟨j, by omega, by rw [div_step]; congr 1; omega⟩
theorem InT.tree {n h r i : Nat} (hn : n < 2 ^ 63) (hI : InT n h r i) : treeN n (posN (rowsN n) r i) = some h := by
  have hh := bit_rows hn hI.bit
  have hle := hI.le
  unfold treeN
  rw [hI.way hn, ups_last]
  simp only
  have hroot : InT n h h (i / 2 ^ (h - r)) := ⟨Nat.le_refl _, hI.bit, by rw [Nat.sub_self, Nat.pow_zero, Nat.div_one]; exact hI.idx⟩
  rw [show r + (h - r) = h by omega]
  exact hroot.row hn
theorem pos_of_row {p R r : Nat} (hR : R ≤ 63) (h : rowN p R = some r) : ∃ i, p = posN R r i ∧ r ≤ R ∧ i < 2 ^ (R - r) := by
  have h1 := (rowN_iff hR).1 h
  exact ⟨p - beginN r R, by unfold posN; omega, h1.1, by omega⟩
theorem way_in {n p : Nat} (hw : wayN n p ≠ []) : n < 2 ^ 63 ∧ ∃ h r i, p = posN (rowsN n) r i ∧ InT n h r i := by
  unfold wayN at hw
  split at hw
  · rename_i hn
    refine ⟨hn, ?_⟩
    split at hw
    · exact absurd rfl hw
    · rename_i r hr
      obtain ⟨i, rfl, h1, h2⟩ := pos_of_row (rowsN_le hn) hr
      rw [chain_ups (rowsN_le hn) 64 r i h1 h2 (by have := rowsN_le hn; omega)] at hw
      cases hc : wayCut n r (upsN (rowsN n) (rowsN n - r) r i) with
      | none => rw [hc] at hw; exact absurd rfl hw
      | some l =>
        obtain ⟨h, hI⟩ := wayCut_some hn _ _ _ _ hc
        exact ⟨h, r, i, rfl, hI⟩
  · exact absurd rfl hw
theorem tree_in {n p h : Nat} (ht : treeN n p = some h) : n < 2 ^ 63 ∧ ∃ r i, p = posN (rowsN n) r i ∧ InT n h r i := by
  have hw : wayN n p ≠ [] := (treeN_bit ht).2.2
  obtain ⟨hn, h', r, i, rfl, hI⟩ := way_in hw
  rw [hI.tree hn] at ht
  cases ht
  exact ⟨hn, r, i, rfl, hI⟩
/-! ### the neighbours of a place -/
theorem begin_even {R r : Nat} (h : r ≤ R) : beginN r R % 2 = 0 := by
  unfold beginN
  have e1 : (2 : Nat) ^ (R + 1) = 2 * 2 ^ R := by rw [Nat.pow_succ]; omega
  have e2 := two_pow_split h
  rw [e1, e2]; omega
def sibI (i : Nat) : Nat := if i % 2 = 0 then i + 1 else i - 1
theorem sibI_half (i : Nat) : sibI i / 2 = i / 2 := by unfold sibI; split <;> omega
theorem InT.parent {n h r i : Nat} (hn : n < 2 ^ 63) (hI : InT n h r i) (hr : r < h) : parentN (posN (rowsN n) r i) (rowsN n) = some (posN (rowsN n) (r + 1) (i / 2)) :=
  parent_posN (rowsN_le hn) (by have := bit_rows hn hI.bit; omega) (hI.lt hn)
theorem InT.sib {n h r i : Nat} (hI : InT n h r i) (hr : r < h) : InT n h r (sibI i) := by
  have := hI.up hr
  rw [← sibI_half] at this
  exact this.down
theorem sibN_add {b i : Nat} (hb : b % 2 = 0) : sibN (b + i) = b + sibI i := by
  unfold sibN sibI
  by_cases hi : i % 2 = 0
  · have h2 : (b + i) % 2 = 0 := by omega
    rw [if_pos hi, if_pos h2]; omega
  · have h2 : ¬ (b + i) % 2 = 0 := by omega
    rw [if_neg hi, if_neg h2]; omega
theorem InT.sibling {n h r i : Nat} (hn : n < 2 ^ 63) (hI : InT n h r i) (hr : r < h) : siblingN (posN (rowsN n) r i) (rowsN n) = some (posN (rowsN n) r (sibI i)) := by
  unfold siblingN
  rw [hI.parent hn hr]
  have hb := begin_even (R := rowsN n) (r := r) (by have := bit_rows hn hI.bit; have := hI.le; omega)
  exact congrArg some (sibN_add hb)
theorem left_posN {R r i : Nat} (hR : R ≤ 63) (h : r < R) (hi : i < 2 ^ (R - (r + 1))) : leftN (posN R (r + 1) i) R = some (posN R r (2 * i)) := by
  unfold leftN posN
  rw [row_posN hR (by omega) hi]
  simp only
  rw [if_neg (by omega)]
  congr 1
  have e1 := two_pow_split (R := R) (r := r) (by omega)
  have e2 : (2 : Nat) ^ (R + 1 - (r + 1)) = 2 ^ (R - r) := by congr 1; omega
  have e3 : (2 : Nat) ^ (R - r) = 2 * 2 ^ (R - (r + 1)) := by rw [← Nat.pow_succ']; congr 1; omega
  have e4 : (2 : Nat) ^ (R + 1 - r) ≤ 2 ^ (R + 1) := Nat.pow_le_pow_right (by omega) (by omega)
  have e5 : (2 : Nat) ^ (R - r) ≤ 2 ^ R := Nat.pow_le_pow_right (by omega) (by omega)
  have e6 : (2 : Nat) ^ (R + 1) = 2 * 2 ^ R := by rw [Nat.pow_succ]; omega
  simp only [beginN, e2]
  have key : 2 * (2 ^ (R + 1) - 2 ^ (R - r) + i) = (2 ^ (R + 1) - 2 ^ (R + 1 - r) + 2 * i) + 2 ^ (R + 1) := by omega
  rw [key, Nat.add_mod_right, Nat.mod_eq_of_lt (by omega)]
theorem InT.left {n h r i : Nat} (hn : n < 2 ^ 63) (hI : InT n h (r + 1) i) : leftN (posN (rowsN n) (r + 1) i) (rowsN n) = some (posN (rowsN n) r (2 * i)) :=
  left_posN (rowsN_le hn) (by have := bit_rows hn hI.bit; have := hI.le; omega) (hI.lt hn)
theorem InT.left0 {n h i : Nat} (hn : n < 2 ^ 63) (hI : InT n h 0 i) : leftN (posN (rowsN n) 0 i) (rowsN n) = none := by
  unfold leftN
  rw [hI.row hn]; rfl
theorem InT.kid {n h r i : Nat} (hI : InT n h (r + 1) i) (b : Nat) (hb : b < 2) : InT n h r (2 * i + b) := by
  have : InT n h (r + 1) ((2 * i + b) / 2) := by rw [show (2 * i + b) / 2 = i by omega]; exact hI
  exact this.down
theorem InT.isRoot {n h r i : Nat} (hn : n < 2 ^ 63) (hI : InT n h r i) : isRootN n (posN (rowsN n) r i) = decide (r = h) := by
  have hroot : InT n h h (i / 2 ^ (h - r)) := ⟨Nat.le_refl _, hI.bit, by rw [Nat.sub_self, Nat.pow_zero, Nat.div_one]; exact hI.idx⟩
  have hx : (rootN n ((treeN n (posN (rowsN n) r i)).getD 0)).getD 0 = posN (rowsN n) h (i / 2 ^ (h - r)) := by
    rw [hI.tree hn]
    simp only [Option.getD_some]
    rw [(root_iff hn).2 hroot]; rfl
  unfold isRootN
  simp only [hx, decide_eq_decide]
  constructor
  · intro he; exact (hroot.inj hn hI he).1.symm
  · rintro rfl; rw [Nat.sub_self, Nat.pow_zero, Nat.div_one]
theorem root_in {n h : Nat} (hn : n < 2 ^ 63) (hb : bitN n h = true) : InT n h h (n / 2 ^ (h + 1) * 2) ∧ rootN n h = some (posN (rowsN n) h (n / 2 ^ (h + 1) * 2)) := by
  have : InT n h h (n / 2 ^ (h + 1) * 2) := ⟨Nat.le_refl _, hb, by rw [Nat.sub_self, Nat.pow_zero, Nat.div_one]⟩
  exact ⟨this, (root_iff hn).2 this⟩
/-! ### plans -/
theorem mem_keys {m : List (Nat × Nat)} {q : Nat} : q ∈ keys m ↔ ∃ c, aget q m = some c := by
  induction m with
  | nil => simp [keys, aget]
  | cons a m ih =>
    obtain ⟨x, y⟩ := a
    simp only [keys, List.map_cons, List.mem_cons] at ih ⊢
    by_cases h : x = q
    · subst h; simp [aget]
    · have hq : ¬ q = x := fun he => h he.symm
      have : aget q ((x, y) :: m) = aget q m := by simp [aget, h]
      rw [this, ← ih]; simp [hq]
theorem keys_aset {m : List (Nat × Nat)} {p c q : Nat} : q ∈ keys (aset p c m) ↔ q ∈ keys m ∨ q = p := by
  rw [mem_keys, mem_keys]
  constructor
  · rintro ⟨x, hx⟩
    rw [aget_set] at hx
    split at hx
    · right; assumption
    · exact .inl ⟨x, hx⟩
  · rintro (⟨x, hx⟩ | rfl)
    · by_cases h : q = p
      · exact ⟨c, by rw [aget_set, if_pos h]⟩
      · exact ⟨x, by rw [aget_set, if_neg h]; exact hx⟩
    · exact ⟨c, by rw [aget_set, if_pos rfl]⟩
theorem aset_len (p c : Nat) (m : List (Nat × Nat)) : (aset p c m).length ≤ m.length + 1 := by
  cases h : aidx p m with
  | none => rw [aset_new h]; simp
  | some k => rw [aset_some h]; simp
theorem ups_above {n h r i q : Nat} (hn : n < 2 ^ 63) (hI : InT n h r i) (hq : q ∈ wayN n (posN (rowsN n) r i)) : ∃ j, j ≤ h - r ∧ q = posN (rowsN n) (r + j) (i / 2 ^ j) ∧ InT n h (r + j) (i / 2 ^ j) ∧ wayN n q = upsN (rowsN n) (h - r - j) (r + j) (i / 2 ^ j) := by
  rw [hI.way hn, mem_ups] at hq
  obtain ⟨j, hj, rfl⟩ := hq
  have hI' : InT n h (r + j) (i / 2 ^ j) := ⟨by have := hI.le; omega, hI.bit, by
    rw [Nat.div_div_eq_div_mul, ← Nat.pow_add, show j + (h - (r + j)) = h - r by omega]; exact hI.idx⟩
  exact ⟨j, hj, rfl, hI', by rw [hI'.way hn, Nat.sub_add_eq]⟩
/-- the way of what is on a way is part of it -/
theorem way_sub {n p q q' : Nat} (hq : q ∈ wayN n p) (hq' : q' ∈ wayN n q) : q' ∈ wayN n p := by
  have hne : wayN n p ≠ [] := by intro he; rw [he] at hq; simp at hq
  obtain ⟨hn, h, r, i, rfl, hI⟩ := way_in hne
  obtain ⟨j, hj, rfl, hI', hw⟩ := ups_above hn hI hq
  obtain ⟨j', hj', rfl, _, _⟩ := ups_above hn hI' hq'
  rw [hI.way hn, mem_ups]
  exact ⟨j + j', by omega, by rw [Nat.div_div_eq_div_mul, ← Nat.pow_add, Nat.add_assoc]⟩
/-- what is strictly above what is on a way is not the way's begin -/
theorem way_above {n p q q' : Nat} (hq : q ∈ wayN n p) (hq' : q' ∈ wayN n q) (hne : q' ≠ q) : q' ≠ p := by
  have hne0 : wayN n p ≠ [] := by intro he; rw [he] at hq; simp at hq
  obtain ⟨hn, h, r, i, rfl, hI⟩ := way_in hne0
  obtain ⟨j, hj, rfl, hI', hw⟩ := ups_above hn hI hq
  obtain ⟨j', hj', rfl, hI2, _⟩ := ups_above hn hI' hq'
  intro he
  have := (hI2.inj hn hI he).1
  have hj0 : j = 0 ∧ j' = 0 := by omega
  obtain ⟨rfl, rfl⟩ := hj0
  exact hne (by simp)
def posM (m : List (Nat × Nat)) : Prop := ∀ q c, aget q m = some c → 1 ≤ c
theorem addWay_spec {n : Nat} (hn : n < 2 ^ 63) {T : List Nat} {t : Nat} : ∀ (k r i h : Nat) (m : List (Nat × Nat)), InT n h r i → k = h - r →
    (∀ q ∈ upsN (rowsN n) k r i, q ∈ keys m → ∀ q' ∈ wayN n q, q' ∈ keys m) → (∀ q ∈ upsN (rowsN n) k r i, q ∈ keys m → ∀ q' ∈ wayN n q, q' ≠ q → q' ∉ T) → posM m →
    match addWay T t (upsN (rowsN n) k r i) m with
    | none => ∃ q ∈ upsN (rowsN n) k r i, q ≠ t ∧ q ∈ T
    | some m' => (∀ q ∈ upsN (rowsN n) k r i, q ≠ t → q ∉ T) ∧ (∀ q, q ∈ keys m' ↔ q ∈ keys m ∨ q ∈ upsN (rowsN n) k r i) ∧ posM m' ∧ m'.length ≤ m.length + (k + 1) ∧ ((keys m).Nodup → (keys m').Nodup) := by
  intro k
  induction k with
  | zero =>
    intro r i h m hI hk hcl hd hp
    simp only [upsN, addWay]
    by_cases hc : posN (rowsN n) r i ≠ t ∧ posN (rowsN n) r i ∈ T
    · rw [if_pos hc]
      exact ⟨_, by simp, hc⟩
    · rw [if_neg hc]
      have hpp : posM (aset (posN (rowsN n) r i) ((aget (posN (rowsN n) r i) m).getD 0 + 1) m) := by
        intro q c hq
        rw [aget_set] at hq
        split at hq
        · have := Option.some.inj hq; omega
        · exact hp q c hq
      have hres : (∀ q ∈ [posN (rowsN n) r i], q ≠ t → q ∉ T) ∧ (∀ q, q ∈ keys (aset (posN (rowsN n) r i) ((aget (posN (rowsN n) r i) m).getD 0 + 1) m) ↔ q ∈ keys m ∨ q ∈ [posN (rowsN n) r i]) ∧ posM (aset (posN (rowsN n) r i) ((aget (posN (rowsN n) r i) m).getD 0 + 1) m) ∧ (aset (posN (rowsN n) r i) ((aget (posN (rowsN n) r i) m).getD 0 + 1) m).length ≤ m.length + (0 + 1) ∧ ((keys m).Nodup → (keys (aset (posN (rowsN n) r i) ((aget (posN (rowsN n) r i) m).getD 0 + 1) m)).Nodup) := by
        refine ⟨fun q hq hne hT => ?_, fun q => ?_, hpp, aset_len _ _ _, fun h => nodup_set h⟩
        · have : q = posN (rowsN n) r i := by simpa using hq
          subst this
          exact hc ⟨hne, hT⟩
        · rw [keys_aset]; simp
      split
      · rename_i heq
        split at heq <;> cases heq
      · rename_i m' heq
        have : m' = aset (posN (rowsN n) r i) ((aget (posN (rowsN n) r i) m).getD 0 + 1) m := by
          split at heq
          · exact (Option.some.inj heq).symm
          · exact (Option.some.inj heq).symm
        subst this
        exact hres
  | succ k ih =>
    intro r i h m hI hk hcl hd hp
    simp only [upsN, addWay]
    have hrh : r < h := by omega
    by_cases hc : posN (rowsN n) r i ≠ t ∧ posN (rowsN n) r i ∈ T
    · rw [if_pos hc]
      exact ⟨_, by simp, hc⟩
    rw [if_neg hc]
    have hpp : posM (aset (posN (rowsN n) r i) ((aget (posN (rowsN n) r i) m).getD 0 + 1) m) := by
      intro q c hq
      rw [aget_set] at hq
      split at hq
      · have := Option.some.inj hq; omega
      · exact hp q c hq
    have hway : wayN n (posN (rowsN n) r i) = posN (rowsN n) r i :: upsN (rowsN n) k (r + 1) (i / 2) := by rw [hI.way hn, ← hk]; rfl
    have habove : ∀ q ∈ upsN (rowsN n) k (r + 1) (i / 2), q ≠ posN (rowsN n) r i := by
      intro q hq he
      obtain ⟨j, hj, rfl⟩ := mem_ups.1 hq
      have hI2 : InT n h (r + 1) (i / 2) := hI.up hrh
      have hm : posN (rowsN n) (r + 1 + j) (i / 2 / 2 ^ j) ∈ wayN n (posN (rowsN n) (r + 1) (i / 2)) := by
        rw [hI2.way hn, mem_ups]; exact ⟨j, by omega, rfl⟩
      obtain ⟨j', _, he', hI3, _⟩ := ups_above hn hI2 hm
      rw [he'] at he
      have := (hI3.inj hn hI he).1
      omega
    by_cases hc2 : (aget (posN (rowsN n) r i) m).getD 0 + 1 > 1
    · rw [if_pos hc2]
      have hin : posN (rowsN n) r i ∈ keys m := by
        rw [mem_keys]
        cases hx : aget (posN (rowsN n) r i) m with
        | none => rw [hx] at hc2; simp at hc2
        | some c => exact ⟨c, rfl⟩
      refine ⟨fun q hq hne hT => ?_, fun q => ?_, hpp, by have := aset_len (posN (rowsN n) r i) ((aget (posN (rowsN n) r i) m).getD 0 + 1) m; omega, fun h => nodup_set h⟩
      · rcases List.mem_cons.1 hq with rfl | hq
        · exact hc ⟨hne, hT⟩
        · exact hd _ (by simp [upsN]) hin q (by rw [hway]; simp [hq]) (habove q hq) hT
      · rw [keys_aset]
        constructor
        · rintro (h | rfl)
          · exact .inl h
          · exact .inl hin
        · rintro (h | h)
          · exact .inl h
          · exact .inl (hcl _ (by simp [upsN]) hin q (by rw [hway]; exact h))
    · rw [if_neg hc2]
      have hnin : posN (rowsN n) r i ∉ keys m := by
        rw [mem_keys]
        rintro ⟨c, hx⟩
        have := hp _ _ hx
        rw [hx] at hc2; simp at hc2; omega
      have := ih (r + 1) (i / 2) h (aset (posN (rowsN n) r i) ((aget (posN (rowsN n) r i) m).getD 0 + 1) m) (hI.up hrh) (by omega) (fun q hq hk q' hq' => ?_) (fun q hq hk q' hq' hne => ?_) hpp
      · split at this
        · obtain ⟨q, h1, h2⟩ := this
          exact ⟨q, by simp [h1], h2⟩
        · rename_i m' heq
          obtain ⟨h1, h2, h3, h4, h5⟩ := this
          refine ⟨fun q hq hne => ?_, fun q => ?_, h3, by have := aset_len (posN (rowsN n) r i) ((aget (posN (rowsN n) r i) m).getD 0 + 1) m; omega, fun h => h5 (nodup_set h)⟩
          · rcases List.mem_cons.1 hq with rfl | hq
            · exact fun hT => hc ⟨hne, hT⟩
            · exact h1 q hq hne
          · rw [h2, keys_aset, List.mem_cons]
            constructor
            · rintro ((h | h) | h)
              · exact .inl h
              · exact .inr (.inl h)
              · exact .inr (.inr h)
            · rintro (h | h | h)
              · exact .inl (.inl h)
              · exact .inl (.inr h)
              · exact .inr h
      · rw [keys_aset] at hk ⊢
        rcases hk with hk | hk
        · exact .inl (hcl q (by simp [upsN, hq]) hk q' hq')
        · exact absurd hk (habove q hq)
      · rw [keys_aset] at hk
        rcases hk with hk | hk
        · exact hd q (by simp [upsN, hq]) hk q' hq' hne
        · exact absurd hk (habove q hq)
/-- targets that may be -/
structure Fine (n : Nat) (T : List Nat) : Prop where
  tree : ∀ t ∈ T, (treeN n t).isSome = true
  once : T.Nodup
  free : ∀ t ∈ T, ∀ q ∈ wayN n t, q ≠ t → q ∉ T
theorem addWays_spec {n : Nat} (hn : n < 2 ^ 63) {T : List Nat} : ∀ (ts : List Nat) (m : List (Nat × Nat)), (∀ t ∈ ts, (treeN n t).isSome = true) →
    (∀ q ∈ keys m, ∀ q' ∈ wayN n q, q' ∈ keys m) → (∀ q ∈ keys m, ∀ q' ∈ wayN n q, q' ≠ q → q' ∉ T) → posM m → (keys m).Nodup →
    match addWays n T ts m with
    | none => ∃ t ∈ ts, ∃ q ∈ wayN n t, q ≠ t ∧ q ∈ T
    | some m' => (∀ t ∈ ts, ∀ q ∈ wayN n t, q ≠ t → q ∉ T) ∧ (∀ q, q ∈ keys m' ↔ q ∈ keys m ∨ ∃ t ∈ ts, q ∈ wayN n t) ∧ posM m' ∧ m'.length ≤ m.length + 65 * ts.length ∧ (keys m').Nodup := by
  intro ts
  induction ts with
  | nil =>
    intro m _ h1 h2 h3 h4
    simp only [addWays]
    exact ⟨by simp, by simp, h3, by simp, h4⟩
  | cons t ts ih =>
    intro m ht h1 h2 h3 h4
    obtain ⟨h, hh⟩ := Option.isSome_iff_exists.1 (ht t (by simp))
    obtain ⟨_, r, i, rfl, hI⟩ := tree_in hh
    have hs := addWay_spec hn (T := T) (t := posN (rowsN n) r i) (h - r) r i h m hI rfl (fun q _ hk => h1 q hk) (fun q _ hk => h2 q hk) h3
    rw [← hI.way hn] at hs
    simp only [addWays]
    split at hs
    · rename_i heq
      simp only [heq]
      obtain ⟨q, g1, g2⟩ := hs
      exact ⟨_, by simp, q, g1, g2⟩
    · rename_i m' heq
      simp only [heq]
      obtain ⟨g1, g2, g3, g4, g5⟩ := hs
      have hlen : h - r + 1 ≤ 65 := by
        have := bit_rows hn hI.bit
        have := rowsN_le hn
        omega
      have := ih m' (fun t' ht' => ht t' (by simp [ht'])) (fun q hq q' hq' => ?_) (fun q hq q' hq' hne => ?_) g3 (g5 h4)
      · split at this
        · obtain ⟨t', k1, k2⟩ := this
          exact ⟨t', by simp [k1], k2⟩
        · rename_i m2 heq2
          obtain ⟨k1, k2, k3, k4, k5⟩ := this
          refine ⟨fun t' ht' => ?_, fun q => ?_, k3, by simp only [List.length_cons]; omega, k5⟩
          · rcases List.mem_cons.1 ht' with rfl | ht'
            · exact g1
            · exact k1 t' ht'
          · rw [k2, g2]
            constructor
            · rintro ((h | h) | ⟨t', h, h'⟩)
              · exact .inl h
              · exact .inr ⟨_, by simp, h⟩
              · exact .inr ⟨t', by simp [h], h'⟩
            · rintro (h | ⟨t', h, h'⟩)
              · exact .inl (.inl h)
              · rcases List.mem_cons.1 h with rfl | h
                · exact .inl (.inr h')
                · exact .inr ⟨t', h, h'⟩
      · rw [g2] at hq ⊢
        rcases hq with hq | hq
        · exact .inl (h1 q hq q' hq')
        · exact .inr (way_sub hq hq')
      · rw [g2] at hq
        rcases hq with hq | hq
        · exact h2 q hq q' hq' hne
        · exact g1 q' (way_sub hq hq') (way_above hq hq' hne)
theorem made_none {n : Nat} {T : List Nat} (h : madeN n T = none) : ¬ (n < 2 ^ 63 ∧ Fine n T) := by
  rintro ⟨hn, hF⟩
  unfold madeN at h
  rw [if_pos ⟨hn, hF.tree, hF.once⟩] at h
  have := addWays_spec hn (T := T) T [] hF.tree (by simp [keys]) (by simp [keys]) (by intro q c h; simp [aget] at h) (by simp [keys])
  rw [h] at this
  obtain ⟨t, h1, q, h2, h3, h4⟩ := this
  exact hF.free t h1 q h2 h3 h4
structure Made (n : Nat) (T : List Nat) (m : List (Nat × Nat)) : Prop where
  n63 : n < 2 ^ 63
  fine : Fine n T
  mem : ∀ q, q ∈ keys m ↔ ∃ t ∈ T, q ∈ wayN n t
  pos : posM m
  len : m.length ≤ 65 * T.length
  once : (keys m).Nodup
theorem made_some {n : Nat} {T : List Nat} {m : List (Nat × Nat)} (h : madeN n T = some m) : Made n T m := by
  unfold madeN at h
  split at h
  · rename_i hc
    have := addWays_spec hc.1 (T := T) T [] hc.2.1 (by simp [keys]) (by simp [keys]) (by intro q c h; simp [aget] at h) (by simp [keys])
    rw [h] at this
    obtain ⟨h1, h2, h3, h4, h5⟩ := this
    exact ⟨hc.1, ⟨hc.2.1, hc.2.2, h1⟩, fun q => by rw [h2]; simp [keys], h3, by simpa using h4, h5⟩
  · cases h
theorem made_fine {n : Nat} {T : List Nat} (hn : n < 2 ^ 63) (hF : Fine n T) : ∃ m, madeN n T = some m := by
  cases h : madeN n T with
  | none => exact absurd ⟨hn, hF⟩ (made_none h)
  | some m => exact ⟨m, rfl⟩
/-! ### what is needed -/
theorem Made.zero {n : Nat} {T : List Nat} {m : List (Nat × Nat)} (h : Made n T m) (q : Nat) : (aget q m).getD 0 = 0 ↔ ¬ ∃ t ∈ T, q ∈ wayN n t := by
  rw [← h.mem, mem_keys]
  cases hq : aget q m with
  | none => simp
  | some c => have := h.pos q c hq; simp; omega
theorem sortN_mem {l : List Nat} {x : Nat} : x ∈ sortN l ↔ x ∈ l := (sortN_perm l).mem_iff
structure Needed (n : Nat) (T N : List Nat) : Prop where
  mem : ∀ q, q ∈ N ↔ ∃ h r i, InT n h r i ∧ r < h ∧ (∃ t ∈ T, posN (rowsN n) r i ∈ wayN n t) ∧ (¬ ∃ t ∈ T, posN (rowsN n) r (sibI i) ∈ wayN n t) ∧ q = posN (rowsN n) r (sibI i)
  once : N.Nodup
  sorted : N.Pairwise (· ≤ ·)
  len : N.length ≤ 65 * T.length
theorem needFold_len {n : Nat} {m : List (Nat × Nat)} : ∀ (l : List Nat) (acc : List (Nat × Nat)), (l.foldl (needStep n m) acc).length ≤ acc.length + l.length := by
  intro l
  induction l with
  | nil => intro acc; simp
  | cons p l ih =>
    intro acc
    simp only [List.foldl_cons, List.length_cons]
    have h1 := ih (needStep n m acc p)
    have h2 : (needStep n m acc p).length ≤ acc.length + 1 := by
      unfold needStep
      split
      · omega
      · split
        · exact aset_len _ _ _
        · omega
    omega
theorem need_some {n : Nat} {T N : List Nat} (h : needN n T = some N) : (∃ m, Made n T m) ∧ Needed n T N := by
  unfold needN at h
  obtain ⟨m, hm, rfl⟩ := Option.map_eq_some_iff.1 h
  have hM := made_some hm
  have hn := hM.n63
  have hnd := needFold_nodup (n := n) (m := m) (keys m) [] (by simp [keys])
  refine ⟨⟨m, hM⟩, fun q => ?_, ?_, sortN_sorted _, ?_⟩
  · rw [sortN_mem, needFold_keys]
    simp only [keys, List.map_nil, List.not_mem_nil, false_or]
    constructor
    · rintro ⟨p, hp, h1, rfl⟩
      obtain ⟨t, ht, hpt⟩ := (hM.mem p).1 hp
      obtain ⟨h', hh⟩ := Option.isSome_iff_exists.1 (hM.fine.tree t ht)
      obtain ⟨_, r, i, rfl, hI⟩ := tree_in hh
      obtain ⟨j, hj, rfl, hI', _⟩ := ups_above hn hI hpt
      simp only [needs, Bool.and_eq_true, Bool.not_eq_true', beq_iff_eq] at h1
      obtain ⟨h2, h3⟩ := h1
      rw [hI'.isRoot hn] at h2
      have hlt : r + j < h' := by have := hI'.le; have : ¬ r + j = h' := by simpa using h2
                                  omega
      rw [hI'.sibling hn hlt] at h3 ⊢
      simp only [Option.getD_some] at h3 ⊢
      exact ⟨h', r + j, i / 2 ^ j, hI', hlt, ⟨_, ht, hpt⟩, (hM.zero _).1 h3, rfl⟩
    · rintro ⟨h', r, i, hI, hlt, hon, hoff, rfl⟩
      refine ⟨posN (rowsN n) r i, (hM.mem _).2 hon, ?_, by rw [hI.sibling hn hlt]; rfl⟩
      simp only [needs, Bool.and_eq_true, Bool.not_eq_true', beq_iff_eq]
      refine ⟨by rw [hI.isRoot hn]; simp; omega, ?_⟩
      rw [hI.sibling hn hlt]
      exact (hM.zero _).2 hoff
  · exact ((sortN_perm _).nodup_iff).2 hnd
  · rw [(sortN_perm _).length_eq]
    have h1 := needFold_len (n := n) (m := m) (keys m) []
    simp only [keys, List.length_map, List.length_nil] at h1 ⊢
    have := hM.len
    omega
theorem need_fine {n : Nat} {T : List Nat} (hn : n < 2 ^ 63) (hF : Fine n T) : ∃ N, needN n T = some N := by
  obtain ⟨m, hm⟩ := made_fine hn hF
  unfold needN
  rw [hm]
  exact ⟨_, rfl⟩
theorem Needed.lt {n : Nat} {T N : List Nat} (hn : n < 2 ^ 63) (h : Needed n T N) {q : Nat} (hq : q ∈ N) : q < 2 ^ 64 := by
  obtain ⟨h', r, i, hI, hlt, _, _, rfl⟩ := (h.mem q).1 hq
  have hI2 := hI.sib hlt
  have h1 := (rowN_le (hI2.row hn) (rowsN_le hn)).2
  have : (2 : Nat) ^ (rowsN n + 1) ≤ 2 ^ 64 := Nat.pow_le_pow_right (by omega) (by have := rowsN_le hn; omega)
  omega
end Go.Sp

namespace Go.Sp
theorem whereN_lt {R : Nat} : ∀ (t : Tr Hash) (p x : Nat), p < 2 ^ (R + 1) + 1 → whereN R t p x < 2 ^ (R + 1) + 1 := by
  intro t
  induction t with
  | leaf h => intro p x hp; exact hp
  | pair h l r m ihl ihr =>
    intro p x hp
    have := leftN_lt (p := p) (rows := R)
    simp only [whereN]
    split
    · exact ihl _ _ (by omega)
    · exact ihr _ _ (by omega)
theorem whereT_lt {ts : List (TT Hash)} {n x : Nat} (hn : n < 2 ^ 40) : whereT ts n x < 2 ^ 42 := by
  have h1 := rowsN_40 hn
  have h2 := pow41 h1
  unfold whereT
  split
  · rename_i t _ h _
    have h3 : (rootN n h).getD 0 < 2 ^ (rowsN n + 1) + 1 := by
      cases hq : rootN n h with
      | none => simp
      | some q => have := rootN_lt hq; simp; omega
    have := whereN_lt (R := rowsN n) t _ x h3
    omega
  · decide
/-- the number of a live leaf -/
def numL (L : List (Option Hash)) (h : Hash) : Nat := L.idxOf (some h)
theorem FAt.num {w : World} {p m : Nat} {s : Fo} (h : FAt w p m s) {x : Nat} {a : Hash} (hx : s.L[x]? = some (some a)) : x = numL s.L a := by
  have hm : some a ∈ s.L := List.mem_of_getElem? hx
  have hlt := List.idxOf_lt_length_of_mem hm
  have : s.L[numL s.L a]? = some (some a) := by
    rw [numL, List.getElem?_eq_getElem hlt, List.getElem_idxOf hlt]
  obtain ⟨⟨tv, wl, h1, h2, h3, h4⟩, _⟩ := h
  have := ((h4 a x).2 hx).symm.trans ((h4 a _).2 this)
  exact Option.some.inj this
/-- where a leaf stands -/
def spotL (L : List (Option Hash)) (h : Hash) : Nat := whereT (treesT parH (lv L) L.length) L.length (numL L h)
/-- the hash that stands at a place -/
def hashL (L : List (Option Hash)) (q : Nat) : Hash := ((nodeN parH (lv L) L.length q).map Tr.hash).getD hZ
/-- the proof of leaves: its targets, its hashes -/
def proofT (L : List (Option Hash)) (l : List Hash) : List Nat := l.map (spotL L)
def proofN (L : List (Option Hash)) (l : List Hash) : List Nat := (needN L.length (proofT L l)).getD []
def proofH (L : List (Option Hash)) (l : List Hash) : List Hash := (proofN L l).map (hashL L)
theorem proofN_len {L : List (Option Hash)} {l : List Hash} (hl : l.length < 2 ^ 20) : (proofN L l).length < 2 ^ 30 := by
  unfold proofN
  cases h : needN L.length (proofT L l) with
  | none => simp
  | some N =>
    have := (need_some h).2.len
    simp only [Option.getD_some]
    have : (proofT L l).length = l.length := by simp [proofT]
    omega
theorem proofN_lt {L : List (Option Hash)} {l : List Hash} (hn : L.length < 2 ^ 40) {i q : Nat} (hq : (proofN L l)[i]? = some q) : q < 2 ^ 64 := by
  unfold proofN at hq
  cases h : needN L.length (proofT L l) with
  | none => rw [h] at hq; simp at hq
  | some N =>
    rw [h] at hq
    exact (need_some h).2.lt (by omega) (List.mem_of_getElem? hq)
/-- the functions of forest, on -/
structure ForT (P : Program) extends ForS P where
  prove : Nat
  TPr : Nat
  TPu : Nat
  h_prove : Has P prove (b_Pforest_Forest_Prove is' going where' nf.need atF TPr TH TPu)
section
variable {P : Program} {f : Nat} {w : World}
set_option maxHeartbeats 1600000 in
theorem prove_ok (A : ForT P) {p m : Nat} {s : Fo} (h : FAt w p m s) {dv : Value} {l : List Hash} (hS : SlC w dv 32 l.length (hs l)) (hl : l.length < 2 ^ 20) :
    Ret P A.prove [ptrV p, dv] w fun v w' => Ext w w' ∧ ((v = .tuple #[.agg #[.slice none 0 0, .slice none 0 0], intV' 5] ∧ ∃ h ∈ l, some h ∉ s.L) ∨ (v = .tuple #[.agg #[.slice none 0 0, .slice none 0 0], intV' 24] ∧ (∀ h ∈ l, some h ∈ s.L) ∧ ¬ l.Nodup) ∨
      ∃ tv hv, v = .tuple #[.agg #[tv, hv], intV' 0] ∧ (∀ h ∈ l, some h ∈ s.L) ∧ l.Nodup ∧ OwnC w' tv 1 (proofT s.L l).length ((proofT s.L l).map u64V) ∧ OwnC w' hv 32 (proofH s.L l).length (hs (proofH s.L l)) ∧ (∀ b ∈ blkOf tv, w.heap.size ≤ b) ∧ (∀ b ∈ blkOf hv, w.heap.size ≤ b)) := by
  have hF := h
  have hlt := h.lt
  have hlen := h.len
  have hB0 : ∃ a1 a2 a3 a4, Blk w p [u64V s.L.length, a1, a2, a3, a4] := let ⟨⟨_, _, h1, _⟩, _, _⟩ := h; ⟨_, _, _, _, h1⟩
  obtain ⟨a1, a2, a3, a4, hBp⟩ := hB0
  refine Ret.of_exec A.h_prove (Nat.le_of_ble_eq_true rfl) fun c hc => ?_
  dsimp only [b_Pforest_Forest_Prove, argEnv, ym, yo, yg, ys, yt, yd, ye]
  refine exec_new rfl ?_
  intro b4 w1 hb4 hs1 hu1 hB4
  have hB41 : Blk w1 b4 [.slice none 0 0, .slice none 0 0] := hB4
  clear hB4
  refine xr 2 rfl ?_
  refine xca rfl rfl (is_ok A.toForJ (hF.ext hu1)) ?_
  rintro _ w2 ⟨rfl, hu2⟩
  refine xr 5 rfl ?_
  have hE2 : Ext w w2 := hu1.trans hu2
  refine xca rfl rfl (going_ok A.toForJ (hF.ext hE2) (hS.upd hE2 (by simp)) (by omega)) ?_
  rintro v3 w3 ⟨hu3, hcase⟩
  have hE3 := hE2.trans hu3
  have hB43 := (hB41.upd hu2).upd hu3
  have hwb : ∀ X, Upd [b4] w3 X → Ext w X := fun X hX => hE3.trans hX (fun b hb => .inr (by simp at hb; omega))
  rcases hcase with ⟨rfl, hno⟩ | ⟨rfl, hall, hnd⟩ | ⟨gr, gl, rfl, hgr, hG, hGm, hgl, hall, hnd⟩
  · refine xr 6 rfl ?_
    refine xpu (pv_neqI (a := 5) (b := 0) (q := true) rfl rfl rfl) rfl ?_
    refine xr 1 rfl ?_
    refine xju (ok_mkL (l := []) (cs := [.slice none 0 0, .slice none 0 0]) rfl rfl) rfl ?_
    refine xr 1 rfl ?_
    refine exec_store (b := b4) (o := 0) (v := .agg #[.slice none 0 0, .slice none 0 0]) rfl rfl hB43 rfl (by decide) rfl ?_
    intro W' hu' _ hB'
    refine xr 1 rfl ?_
    exact xre hc [.agg #[.slice none 0 0, .slice none 0 0], _] ⟨⟨b4, 0, _, rfl, Blk.memAll (show Blk W' b4 [.slice none 0 0, .slice none 0 0] from hB'), rfl, rfl⟩, rfl, trivial⟩ ⟨hwb _ hu', .inl ⟨rfl, hno⟩⟩
  · refine xr 6 rfl ?_
    refine xpu (pv_neqI (a := 24) (b := 0) (q := true) rfl rfl rfl) rfl ?_
    refine xr 1 rfl ?_
    refine xju (ok_mkL (l := []) (cs := [.slice none 0 0, .slice none 0 0]) rfl rfl) rfl ?_
    refine xr 1 rfl ?_
    refine exec_store (b := b4) (o := 0) (v := .agg #[.slice none 0 0, .slice none 0 0]) rfl rfl hB43 rfl (by decide) rfl ?_
    intro W' hu' _ hB'
    refine xr 1 rfl ?_
    exact xre hc [.agg #[.slice none 0 0, .slice none 0 0], _] ⟨⟨b4, 0, _, rfl, Blk.memAll (show Blk W' b4 [.slice none 0 0, .slice none 0 0] from hB'), rfl, rfl⟩, rfl, trivial⟩ ⟨hwb _ hu', .inr (.inl ⟨rfl, hall, hnd⟩)⟩
  refine xr 6 rfl ?_
  refine xpu (pv_neqI (a := 0) (b := 0) (q := false) rfl rfl rfl) rfl ?_
  refine xr 2 rfl ?_
  refine exec_new rfl ?_
  intro b8 w4 hb8 hs4 hu4 hB8
  have hB84 : Blk w4 b8 [.slice none 0 0, .slice none 0 0] := hB8
  clear hB8
  have hE4 := hE3.trans hu4
  have hB44 := hB43.upd hu4
  have z3 := hE3.size
  have z2 := hE2.size
  have z23 := hu3.size
  have k4 := hB43.lt
  have hSW : ∀ X, Ext w X → SlC X dv 32 l.length (hs l) := fun X hX => hS.upd hX (by simp)
  refine xr 1 rfl ?_
  refine xpu (hS.lenS rfl) rfl ?_
  refine xr 2 rfl ?_
  refine xen [(0, ptrV p), (4, ptrV b4), (5, intV' 0), (8, ptrV b8), (33, dv), (34, intV' l.length), (35, intV' 0)] ⟨rfl, rfl, rfl, rfl, rfl, rfl, rfl, trivial⟩ ?_
  refine xlo (S := Nat × Value) (fun st W => st.1 ≤ l.length ∧ Upd [b8] w4 W ∧ Blk W b8 [st.2, .slice none 0 0] ∧ OwnC W st.2 1 (proofT s.L (l.take st.1)).length ((proofT s.L (l.take st.1)).map u64V) ∧ (∀ b ∈ blkOf st.2, w4.heap.size ≤ b) ∧ (l.take st.1 = [] → st.2 = .slice none 0 0))
    (fun st => [(0, ptrV p), (4, ptrV b4), (5, intV' 0), (8, ptrV b8), (33, dv), (34, intV' l.length), (35, intV' st.1)]) (fun st => l.length - st.1) (0, .slice none 0 0)
    ⟨Nat.zero_le _, Upd.refl _ _, hB84, .inl ⟨rfl, rfl, rfl⟩, by simp [blkOf], fun _ => rfl⟩ ⟨rfl, rfl, rfl, rfl, rfl, rfl, rfl, trivial⟩ ?_
  rintro ⟨i, tv⟩ W ⟨i1, iU, iB, iO, ib, iN⟩
  simp only at i1 iB iO ib iN
  have hwW : Ext w W := hE4.trans iU (fun b hb => .inr (by simp at hb; omega))
  have hFW : FAt W p m s := (hF.ext hE4).upd iU (Foreign.cons (Foreign.blk hB84 (Strange.head (by simp) (by simp))) (Foreign.nil _)) (by simp; omega) (by simp; omega)
  by_cases hi : i < l.length
  · refine xpu (pv_lssI (a := i) (b := l.length) (q := true) rfl rfl (by simpa using hi)) rfl ?_
    refine xr 3 rfl ?_
    obtain ⟨hh, hhi⟩ : ∃ x, l[i]? = some x := ⟨_, List.getElem?_eq_getElem hi⟩
    have htk : l.take (i + 1) = l.take i ++ [hh] := by rw [List.take_add_one, hhi]; rfl
    obtain ⟨bd, od, cd, hdv, _, hmd⟩ := hs_at (hSW W hwW) hhi
    refine xju (ok_iaddr (N := 32) (b := bd) (o := od) (len := l.length) (cap := cd) (by rw [← hdv]; rfl) rfl i rfl hi) rfl ?_
    refine exec_loadN (b := bd) (o := od + i * 32) (vs := hC hh) rfl rfl hmd (hC_length _) ?_
    refine exec_new_store (v := hV hh) rfl rfl rfl (hV_size hh) rfl (by rw [hV_cells]; exact hC_cell _) ?_
    intro b10 W1 hb10 hs10 hw1 hB10
    rw [hV_cells] at hB10
    refine xr 1 rfl ?_
    refine exec_loadN (b := b10) (o := 0) (vs := hC hh) rfl rfl hB10.memAll (hC_length _) ?_
    refine xca rfl rfl (where_ok A.toForN (hFW.ext hw1) hh) ?_
    rintro v1 W2 ⟨hw2, hcase1⟩
    rcases hcase1 with ⟨_, q1⟩ | ⟨x, rfl, q1⟩
    · exact absurd (hall hh (List.mem_of_getElem? hhi)) q1
    have hxx : whereT (treesT parH (lv s.L) s.L.length) s.L.length x = spotL s.L hh := by rw [spotL, ← hF.num q1]
    rw [hxx]
    refine xr 6 rfl ?_
    have hx12 := hw1.trans hw2
    refine exec_load1 (b := b8) (o := 0 + 0) rfl rfl ((iB.upd hx12).cell rfl) ?_
    refine xr 1 rfl ?_
    refine exec_litL (N := 1) (cs := [u64V (spotL s.L hh)]) (l := [(0, 1, u64V (spotL s.L hh))]) rfl rfl rfl rfl ?_
    intro bq W3 hbq hsq hw3 hOq
    have hlT : (proofT s.L (l.take i)).length = i := by simp [proofT]; omega
    refine exec_ok (ok_append (N := 1) rfl rfl ((iO.upd hx12 (by simp)).upd hw3 (by simp)) hOq.sl rfl (by decide) (by omega) rfl) rfl ?_
    rintro tv2 W4 ⟨hO4, hw4, hf4, hl4⟩
    have zU := iU.size
    have z12 := hx12.size
    have zw3 := hw3.size
    have ib8 : ∀ b ∈ blkOf tv, b ≠ b8 := fun b hb he => by have := ib b hb; subst he; have := hB84.lt; omega
    have hB4' : Blk W4 b8 [tv, .slice none 0 0] := ((iB.upd hx12).upd hw3).upd hw4 (fun h => ib8 _ h rfl)
    refine xr 1 rfl ?_
    refine exec_store (b := b8) (o := 0 + 0) (v := tv2) rfl rfl hB4' (by rcases hO4 with ⟨rfl, _⟩ | ⟨_, _, _, rfl, _⟩ <;> rfl) (by simp) (by rcases hO4 with ⟨rfl, _⟩ | ⟨_, _, _, rfl, _⟩ <;> rfl) ?_
    intro W5 hw5 _ hB5
    have hcel : tv2.cells.toList = [tv2] := by rcases hO4 with ⟨rfl, _⟩ | ⟨_, _, _, rfl, _⟩ <;> rfl
    rw [hcel] at hB5
    refine xr 2 rfl ?_
    refine xpu (pv_addI (a := i) (b := 1) rfl rfl (by omega)) rfl ?_
    refine xr 1 rfl ?_
    have kb8 := hB84.lt
    have kf4 : ∀ b ∈ blkOf tv2, b ≠ b8 := fun b hb he => by
      rcases hf4 b hb with g | g
      · exact ib8 b g he
      · omega
    have hPT : proofT s.L (l.take (i + 1)) = proofT s.L (l.take i) ++ [spotL s.L hh] := by rw [htk, proofT, proofT, List.map_append]; rfl
    refine xag (i + 1, tv2) ⟨hi, ?_, hB5, ?_, ?_, fun h => ?_⟩ (by show l.length - (i + 1) < l.length - i; omega) ⟨rfl, rfl, rfl, rfl, rfl, rfl, rfl, trivial⟩
    · exact (((iU.trans hx12).trans hw3).trans hw4 (fun b hb => .inr (ib b hb))).trans hw5
    · show OwnC W5 tv2 1 (proofT s.L (l.take (i + 1))).length _
      rw [hPT, List.map_append, List.length_append]
      exact hO4.upd hw5 (fun b hb => by simpa using kf4 b hb)
    · intro b hb
      rcases hf4 b hb with g | g
      · exact ib b g
      · omega
    · have h' : l.take (i + 1) = [] := h
      rw [htk] at h'; simp at h'
  · refine xpu (pv_lssI (a := i) (b := l.length) (q := false) rfl rfl (by simpa using hi)) rfl ?_
    have : i = l.length := by omega
    subst this
    rw [List.take_length] at iO iN
    refine xr 3 rfl ?_
    have hTlen : (proofT s.L l).length = l.length := by simp [proofT]
    refine xen [(0, ptrV p), (4, ptrV b4), (5, intV' 0), (8, ptrV b8)] ⟨rfl, rfl, rfl, rfl, trivial⟩ ?_
    refine exec_dw [] rfl rfl rfl ?_
    repeat (first | refine dau rfl (fun _ => rfl) ?_ | refine dga rfl (fun _ => rfl) (fun _ => rfl) ?_ | refine dgs (fun _ => rfl) ?_)
    refine dw_keep (u64V s.L.length) (fun vs X hx _ => ok_load1 (b := p) (o := 0 + 0) rfl ((hBp.upd (hwW.trans hx)).cell rfl)) ?_
    repeat (first | refine dau rfl (fun _ => rfl) ?_ | refine dga rfl (fun _ => rfl) (fun _ => rfl) ?_ | refine dgs (fun _ => rfl) ?_)
    refine dw_keep tv (fun vs X hx _ => ok_load1 (b := b8) (o := 0 + 0) rfl ((iB.upd hx).cell rfl)) ?_
    refine dw_rel [] (fun X _ v => ∃ sv e, v = .tuple #[sv, intV' e] ∧ OwnC X sv 1 (proofN s.L l).length ((proofN s.L l).map u64V) ∧ ∀ b ∈ blkOf sv, W.heap.size ≤ b) rfl (fun X X' xs v _ hx h => ?_) ?_ ?_
    · obtain ⟨sv, e, h1, h2, h3⟩ := h
      exact ⟨sv, e, h1, h2.upd hx (by simp), h3⟩
    · intro vs X hx _
      refine (ok_call rfl (need_ok A.nf s.L.length (T := proofT s.L l) (by omega) (iO.sl.upd hx (by simp)) (fun t ht => ?_) (by omega) (fun b hb => by have := iO.lt b hb; have := hx.size; omega))).mono ?_
      · obtain ⟨y, _, rfl⟩ := List.mem_map.1 ht
        exact Nat.lt_trans (whereT_lt hlen) (by decide)
      · rintro v X' ⟨hX', hm⟩
        refine ⟨hX', ?_⟩
        have := hx.size
        cases hN : needN s.L.length (proofT s.L l) with
        | none =>
          rw [hN] at hm
          simp only at hm
          exact ⟨_, _, hm, by rw [proofN, hN]; exact .inl ⟨rfl, rfl, rfl⟩, by simp [blkOf]⟩
        | some N =>
          rw [hN] at hm
          obtain ⟨sv, h1, h2, h3⟩ := hm
          exact ⟨sv, 0, h1, by rw [proofN, hN]; exact h2, fun b hb => by have := h3 b hb; omega⟩
    refine dw_of (j := 6) id rfl (fun vs X _ _ => rfl) ?_
    refine dw_rel [6] (fun X xs v => ∃ sv e, xs = [.tuple #[sv, intV' e]] ∧ v = sv) rfl (fun X X' xs v _ _ h => h) (fun vs X hx hf => ?_) ?_
    · obtain ⟨⟨x7, h7, h7'⟩, ⟨sv, e, h6, _⟩, _⟩ := hf
      have h77 : vs 7 = .tuple #[sv, intV' e] := by rw [h7']; simp at h7; rw [← h7]; exact h6
      exact (ok_pure (v := sv) (by show (match some (vs 7) with | some (.tuple vs) => vs[0]? | _ => none) = _; rw [h77]; rfl)).mono fun u X' hu => ⟨hu.2 ▸ Upd.refl _ _, sv, e, by simp [h6], hu.1⟩
    refine dw_rel [6] (fun X xs v => ∃ sv e, xs = [.tuple #[sv, intV' e]] ∧ v = intV' e) rfl (fun X X' xs v _ _ h => h) (fun vs X hx hf => ?_) ?_
    · obtain ⟨⟨x7, h7, h7'⟩, ⟨sv, e, h6, _⟩, _⟩ := hf
      have h77 : vs 7 = .tuple #[sv, intV' e] := by rw [h7']; simp at h7; rw [← h7]; exact h6
      exact (ok_pure (v := intV' e) (by show (match some (vs 7) with | some (.tuple vs) => vs[1]? | _ => none) = _; rw [h77]; rfl)).mono fun u X' hu => ⟨hu.2 ▸ Upd.refl _ _, sv, e, by simp [h6], hu.1⟩
    refine dw_of (j := 8) id rfl (fun vs X _ _ => rfl) ?_
    refine dw_end fun vs X hx hf => ?_
    obtain ⟨⟨x10, k10, h10⟩, ⟨s9, e9, k9, h9⟩, ⟨s8, e8, k8, h8⟩, ⟨x7, k7, h7⟩, ⟨sv, e, h6, hOs, hbs⟩, _⟩ := hf
    have hv8 : vs 8 = sv := by
      have : vs 6 = .tuple #[s8, intV' e8] := by simpa using k8
      rw [h6] at this; simp at this
      rw [h8]; exact this.1.symm
    have hv9 : vs 9 = intV' e := by
      have : vs 6 = .tuple #[s9, intV' e9] := by simpa using k9
      rw [h6] at this; simp at this
      rw [h9]; have h2 := this.2; simp only [intV'] ; rw [h2]
    have hv10 : vs 10 = sv := by
      have : vs 8 = x10 := by simpa using k10
      rw [h10, ← this]; exact hv8
    refine xen [(0, ptrV p), (4, ptrV b4), (5, intV' 0), (8, ptrV b8), (13, sv), (61, intV' e)] ⟨rfl, rfl, rfl, rfl, by show some (vs 10) = _; rw [hv10], by show some (vs 9) = _; rw [hv9], trivial⟩ ?_
    clear h6 k7 k8 k9 k10 h7 h8 h9 h10 hv8 hv9 hv10
    have hwX : Ext w X := hwW.trans hx
    have hFX := hFW.ext hx
    have iBX := iB.upd hx
    have iOX := iO.upd hx (by simp)
    have zX := hx.size
    have zW := hwW.size
    have hNlen : (proofN s.L l).length ≤ (proofN s.L l).length := Nat.le_refl _
    refine xr 2 rfl ?_
    refine xpu (hOs.sl.lenS rfl) rfl ?_
    refine xr 2 rfl ?_
    refine xen [(0, ptrV p), (4, ptrV b4), (5, intV' 0), (8, ptrV b8), (62, sv), (63, intV' (proofN s.L l).length), (64, intV' 0)] ⟨rfl, rfl, rfl, rfl, rfl, rfl, rfl, trivial⟩ ?_
    have hib8 : ∀ b ∈ blkOf tv, b ≠ b8 := fun b hb he => by have := ib b hb; subst he; have := hB84.lt; omega
    have hlb : (proofN s.L l).length < 2 ^ 30 := proofN_len hl
    refine xlo (S := Nat × Value) (fun st Z => st.1 ≤ (proofN s.L l).length ∧ Upd [b8] X Z ∧ Blk Z b8 [tv, st.2] ∧ OwnC Z st.2 32 (((proofN s.L l).take st.1).map (hashL s.L)).length (hs (((proofN s.L l).take st.1).map (hashL s.L))) ∧ (∀ b ∈ blkOf st.2, X.heap.size ≤ b) ∧ ((proofN s.L l).take st.1 = [] → st.2 = .slice none 0 0))
      (fun st => [(0, ptrV p), (4, ptrV b4), (5, intV' 0), (8, ptrV b8), (62, sv), (63, intV' (proofN s.L l).length), (64, intV' st.1)]) (fun st => (proofN s.L l).length - st.1) (0, .slice none 0 0)
      ⟨Nat.zero_le _, Upd.refl _ _, iBX, .inl ⟨rfl, rfl, rfl⟩, by simp [blkOf], fun _ => rfl⟩ ⟨rfl, rfl, rfl, rfl, rfl, rfl, rfl, trivial⟩ ?_
    rintro ⟨i, hv⟩ Z ⟨j1, jU, jB, jO, jb, jN⟩
    simp only at j1 jB jO jb jN
    have hwZ : Ext w Z := hwX.trans jU (fun b hb => .inr (by simp at hb; omega))
    have hFZ : FAt Z p m s := hFX.upd jU (Foreign.cons (Foreign.blk iBX (Strange.head (by rcases iO with ⟨rfl, _⟩ | ⟨_, _, _, rfl, _⟩ <;> simp) (by rcases iO with ⟨rfl, _⟩ | ⟨_, _, _, rfl, _⟩ <;> simp))) (Foreign.nil _)) (by simp; omega) (by simp; omega)
    have k8 := hB84.lt
    have zU := iU.size
    have hOsZ : OwnC Z sv 1 (proofN s.L l).length ((proofN s.L l).map u64V) := hOs.upd jU (fun b hb => by have := hbs b hb; simp; omega)
    by_cases hi : i < (proofN s.L l).length
    · refine xpu (pv_lssI (a := i) (b := (proofN s.L l).length) (q := true) rfl rfl (by simpa using hi)) rfl ?_
      refine xr 3 rfl ?_
      obtain ⟨q, hq⟩ : ∃ q, (proofN s.L l)[i]? = some q := ⟨_, List.getElem?_eq_getElem hi⟩
      have htk : (proofN s.L l).take (i + 1) = (proofN s.L l).take i ++ [q] := by rw [List.take_add_one, hq]; rfl
      obtain ⟨bs, os, cs, hsv, hms, _⟩ := hOsZ.sl.at (by omega)
      refine xju (ok_iaddr (N := 1) (b := bs) (o := os) (len := (proofN s.L l).length) (cap := cs) (by rw [← hsv]; rfl) rfl i rfl hi) rfl ?_
      refine exec_load1 (b := bs) (o := os + i * 1) (v := u64V q) rfl rfl (hms (i * 1) _ (by rw [Nat.mul_one, List.getElem?_map, hq]; rfl)) ?_
      refine xr 3 rfl ?_
      refine xca rfl rfl (at_ok A.toForS hFZ q (proofN_lt hlen hq)) ?_
      rintro _ Z1 ⟨rfl, hz1⟩
      refine xr 3 rfl ?_
      generalize hhh : ((nodeN parH (lv s.L) s.L.length q).map Tr.hash).getD hZ = hh
      have hhL : hashL s.L q = hh := hhh
      generalize hbb : (nodeN parH (lv s.L) s.L.length q).isSome = bb
      refine exec_new_store (v := hV hh) rfl rfl rfl (hV_size hh) rfl (by rw [hV_cells]; exact hC_cell _) ?_
      intro b17 Z2 hb17 hs17 hz2 hB17
      rw [hV_cells] at hB17
      have hz12 := hz1.trans hz2
      refine xr 2 rfl ?_
      refine exec_load1 (b := b8) (o := 0 + 1) rfl rfl ((jB.upd hz12).cell rfl) ?_
      refine exec_loadN (b := b17) (o := 0) (vs := hC hh) rfl rfl hB17.memAll (hC_length _) ?_
      refine exec_litL (N := 32) (cs := hs [hh]) (l := [(0, 32, hV hh)]) rfl (by rw [hash_fill]; simp [hs]) (by simp [hs, hC_length]) rfl ?_
      intro bq Z3 hbq hsq hz3 hOq
      have hlT : (((proofN s.L l).take i).map (hashL s.L)).length = i := by simp; omega
      refine exec_ok (ok_append (N := 32) rfl rfl ((jO.upd hz12 (by simp)).upd hz3 (by simp)) hOq.sl rfl (by decide) (by omega) (hs_ok _)) rfl ?_
      rintro hv2 Z4 ⟨hO4, hz4, hf4, hl4⟩
      have zj := jU.size
      have z12 := hz12.size
      have zz3 := hz3.size
      have jb8 : ∀ b ∈ blkOf hv, b ≠ b8 := fun b hb he => by have := jb b hb; subst he; omega
      have hB4' : Blk Z4 b8 [tv, hv] := ((jB.upd hz12).upd hz3).upd hz4 (fun h => jb8 _ h rfl)
      refine xr 1 rfl ?_
      refine exec_store (b := b8) (o := 0 + 1) (v := hv2) rfl rfl hB4' (by rcases hO4 with ⟨rfl, _⟩ | ⟨_, _, _, rfl, _⟩ <;> rfl) (by simp) (by rcases hO4 with ⟨rfl, _⟩ | ⟨_, _, _, rfl, _⟩ <;> rfl) ?_
      intro Z5 hz5 _ hB5
      have hcel : hv2.cells.toList = [hv2] := by rcases hO4 with ⟨rfl, _⟩ | ⟨_, _, _, rfl, _⟩ <;> rfl
      rw [hcel] at hB5
      refine xr 2 rfl ?_
      refine xpu (pv_addI (a := i) (b := 1) rfl rfl (by omega)) rfl ?_
      refine xr 1 rfl ?_
      have kf4 : ∀ b ∈ blkOf hv2, b ≠ b8 := fun b hb he => by
        rcases hf4 b hb with g | g
        · exact jb8 b g he
        · omega
      refine xag (i + 1, hv2) ⟨hi, ?_, hB5, ?_, ?_, fun h => ?_⟩ (by show (proofN s.L l).length - (i + 1) < (proofN s.L l).length - i; omega) ⟨rfl, rfl, rfl, rfl, rfl, rfl, rfl, trivial⟩
      · exact (((jU.trans hz12).trans hz3).trans hz4 (fun b hb => .inr (jb b hb))).trans hz5
      · show OwnC Z5 hv2 32 (((proofN s.L l).take (i + 1)).map (hashL s.L)).length _
        rw [htk, List.map_append, hs_append, List.length_append]
        have : List.map (hashL s.L) [q] = [hh] := by simp [hhL]
        rw [this]
        exact hO4.upd hz5 (fun b hb => by simpa using kf4 b hb)
      · intro b hb
        rcases hf4 b hb with g | g
        · exact jb b g
        · omega
      · have h' : (proofN s.L l).take (i + 1) = [] := h
        rw [htk] at h'; simp at h'
    · refine xpu (pv_lssI (a := i) (b := (proofN s.L l).length) (q := false) rfl rfl (by simpa using hi)) rfl ?_
      have : i = (proofN s.L l).length := by omega
      subst this
      rw [List.take_length] at jO jN
      refine xr 3 rfl ?_
      refine exec_loadN (b := b8) (o := 0) (vs := [tv, hv]) rfl rfl jB.memAll rfl ?_
      have hB4Z : Blk Z b4 [.slice none 0 0, .slice none 0 0] := ((hB44.upd iU (by simp; omega)).upd hx).upd jU (by simp; omega)
      refine exec_store (b := b4) (o := 0) (v := .agg #[tv, hv]) rfl rfl hB4Z rfl (by decide) (by rcases iO with ⟨rfl, _⟩ | ⟨_, _, _, rfl, _⟩ <;> rcases jO with ⟨rfl, _⟩ | ⟨_, _, _, rfl, _⟩ <;> rfl) ?_
      intro Z1 hz1 _ hBz
      refine xr 1 rfl ?_
      have hb4t : ∀ b ∈ blkOf tv, b ∉ [b4] := fun b hb => by have := ib b hb; simp; omega
      have hb4h : ∀ b ∈ blkOf hv, b ∉ [b4] := fun b hb => by have := jb b hb; simp; omega
      have hTZ : OwnC Z tv 1 (proofT s.L l).length ((proofT s.L l).map u64V) := iOX.upd jU (fun b hb => by simpa using hib8 b hb)
      exact xre hc [.agg #[tv, hv], _] ⟨⟨b4, 0, [tv, hv], rfl, Blk.memAll (show Blk Z1 b4 [tv, hv] from hBz), rfl, rfl⟩, rfl, trivial⟩ ⟨hwZ.trans hz1 (fun b hb => .inr (by simp at hb; omega)), .inr (.inr ⟨tv, hv, rfl, hall, hnd, hTZ.upd hz1 hb4t, jO.upd hz1 hb4h, fun b hb => by have := ib b hb; omega, fun b hb => by have := jb b hb; omega⟩)⟩
end
end Go.Sp

namespace Go.Sp
/-- the functions of the laws, on -/
structure LawU (P : Program) extends LawG P, ForS P where
  equal : Nat
  TBo : Nat
  h_equal : Has P equal (b_spinneylaw14_equal leaves stump same where' atF TH TBo)
  h_TBo : P.underlying TBo = some .bool
end Go.Sp

namespace Go.Sp
section
variable {H : Type} (par : H → H → H)
def Tr.wf : Tr H → Prop
  | .leaf _ => True
  | .pair h l r _ => h = par l.hash r.hash ∧ l.wf ∧ r.wf
def Tr.dep {H : Type} : Tr H → Nat
  | .leaf _ => 0
  | .pair _ l r _ => max l.dep r.dep + 1
/-- the leaf that number x leads to -/
def Tr.find {H : Type} (x : Nat) : Tr H → H
  | .leaf h => h
  | .pair _ l r m => if x < m then l.find x else r.find x
theorem build_wf {L : Nat → Option H} : ∀ (k f : Nat) (t : Tr H), buildT par L k f = some t → t.wf par ∧ t.dep ≤ k := by
  intro k
  induction k with
  | zero =>
    intro f t h
    simp only [buildT, Option.map_eq_some_iff] at h
    obtain ⟨a, _, rfl⟩ := h
    exact ⟨trivial, Nat.le_refl _⟩
  | succ k ih =>
    intro f t h
    simp only [buildT] at h
    cases ha : buildT par L k f with
    | none =>
      rw [ha] at h
      have := ih _ _ h
      exact ⟨this.1, by omega⟩
    | some a =>
      cases hb : buildT par L k (f + 2 ^ k) with
      | none =>
        rw [ha, hb] at h
        cases h
        have := ih _ _ ha
        exact ⟨this.1, by omega⟩
      | some b =>
        rw [ha, hb] at h
        cases h
        have h1 := ih _ _ ha
        have h2 := ih _ _ hb
        refine ⟨⟨rfl, h1.1, h2.1⟩, ?_⟩
        simp only [Tr.dep]; omega
theorem build_find {L : Nat → Option H} : ∀ (k f : Nat) (t : Tr H), buildT par L k f = some t → ∀ x a, f ≤ x → x < f + 2 ^ k → L x = some a → t.find x = a := by
  intro k
  induction k with
  | zero =>
    intro f t h x a h1 h2 hx
    have : x = f := by simp at h2; omega
    subst this
    simp only [buildT, hx, Option.map_some, Option.some.injEq] at h
    subst h; rfl
  | succ k ih =>
    intro f t h x a h1 h2 hx
    rw [Nat.pow_succ] at h2
    simp only [buildT] at h
    cases ha : buildT par L k f with
    | none =>
      rw [ha] at h
      rcases Nat.lt_or_ge x (f + 2 ^ k) with hl | hl
      · have := (buildT_none par k f).1 ha x h1 hl
        rw [this] at hx; cases hx
      · exact ih _ _ h x a hl (by omega) hx
    | some ta =>
      cases hb : buildT par L k (f + 2 ^ k) with
      | none =>
        rw [ha, hb] at h
        cases h
        rcases Nat.lt_or_ge x (f + 2 ^ k) with hl | hl
        · exact ih _ _ ha x a h1 hl hx
        · have := (buildT_none par k _).1 hb x hl (by omega)
          rw [this] at hx; cases hx
      | some tb =>
        rw [ha, hb] at h
        cases h
        simp only [Tr.find]
        split
        · exact ih _ _ ha x a h1 ‹_› hx
        · exact ih _ _ hb x a (by omega) (by omega) hx
theorem ups_ne (R k r i : Nat) : upsN R k r i ≠ [] := by cases k <;> simp [upsN]
theorem InT.rows {n h r i : Nat} (hn : n < 2 ^ 63) (hI : InT n h r i) : r ≤ rowsN n := Nat.le_trans hI.le (bit_rows hn hI.bit)
theorem pos_mod {R r i : Nat} (h : r ≤ R) : posN R r i % 2 = i % 2 := by
  have := begin_even h
  unfold posN; omega
theorem node_root {L : Nat → Option H} {n h i : Nat} (hn : n < 2 ^ 63) (hI : InT n h h i) : nodeN par L n (posN (rowsN n) h i) = buildT par L h (firstN n h) := by
  unfold nodeN
  rw [hI.tree hn, hI.way hn, Nat.sub_self]; rfl
theorem node_step {L : Nat → Option H} {n h r i : Nat} (hn : n < 2 ^ 63) (hI : InT n h r i) (hr : r < h) :
    nodeN par L n (posN (rowsN n) r i) = stepT (nodeN par L n (posN (rowsN n) (r + 1) (i / 2))) (posN (rowsN n) r i) := by
  have hI2 := hI.up hr
  unfold nodeN
  rw [hI.tree hn, hI.way hn, hI2.tree hn, hI2.way hn]
  simp only
  rw [show h - r = h - (r + 1) + 1 by omega, upsN, List.dropLast_cons_of_ne_nil (ups_ne _ _ _ _), List.reverse_cons, List.foldl_append]
  rfl
theorem node_kid {L : Nat → Option H} {n h r i : Nat} (hn : n < 2 ^ 63) (hI : InT n h (r + 1) i) (b : Nat) (hb : b < 2) :
    nodeN par L n (posN (rowsN n) r (2 * i + b)) = match nodeN par L n (posN (rowsN n) (r + 1) i) with
      | some (.pair _ l q _) => some (if b = 0 then l else q)
      | _ => none := by
  have hk := hI.kid b hb
  rw [node_step par hn hk (by have := hI.le; omega), show (2 * i + b) / 2 = i by omega]
  unfold stepT
  have hm : posN (rowsN n) r (2 * i + b) % 2 = b := by rw [pos_mod (hk.rows hn)]; omega
  rw [hm]
  cases nodeN par L n (posN (rowsN n) (r + 1) i) with
  | none => rfl
  | some t => cases t <;> rfl
theorem node_wf {L : Nat → Option H} {n h : Nat} (hn : n < 2 ^ 63) : ∀ (k r i : Nat) (t : Tr H), k + r = h → InT n h r i → nodeN par L n (posN (rowsN n) r i) = some t → t.wf par ∧ t.dep ≤ r := by
  intro k
  induction k with
  | zero =>
    intro r i t hk hI ht
    have : r = h := by omega
    subst this
    rw [node_root par hn hI] at ht
    exact build_wf par _ _ _ ht
  | succ k ih =>
    intro r i t hk hI ht
    have hlt : r < h := by omega
    rw [node_step par hn hI hlt] at ht
    unfold stepT at ht
    split at ht
    · rename_i hh l q m heq
      have := ih (r + 1) (i / 2) _ (by omega) (hI.up hlt) heq
      obtain ⟨⟨h1, h2, h3⟩, h4⟩ := this
      simp only [Tr.dep] at h4
      have := Option.some.inj ht
      subst this
      split
      · exact ⟨h2, by omega⟩
      · exact ⟨h3, by omega⟩
    · cases ht
theorem node_wf' {L : Nat → Option H} {n h r i : Nat} (hn : n < 2 ^ 63) (hI : InT n h r i) {t : Tr H} (ht : nodeN par L n (posN (rowsN n) r i) = some t) : t.wf par ∧ t.dep ≤ r :=
  node_wf par hn (h - r) r i t (by have := hI.le; omega) hI ht
/-- what stands below a place stands in its tree; a leaf is found -/
theorem where_pos {L : Nat → Option H} {n h x : Nat} (hn : n < 2 ^ 63) : ∀ (t : Tr H) (r i : Nat), InT n h r i → nodeN par L n (posN (rowsN n) r i) = some t →
    ∃ r' i', InT n h r' i' ∧ whereN (rowsN n) t (posN (rowsN n) r i) x = posN (rowsN n) r' i' ∧ nodeN par L n (posN (rowsN n) r' i') = some (.leaf (t.find x)) ∧ r' ≤ r ∧ i' / 2 ^ (r - r') = i := by
  intro t
  induction t with
  | leaf a =>
    intro r i hI ht
    exact ⟨r, i, hI, rfl, ht, Nat.le_refl _, by simp⟩
  | pair hh l q m ihl ihq =>
    intro r i hI ht
    have hd := (node_wf' par hn hI ht).2
    simp only [Tr.dep] at hd
    obtain ⟨r, rfl⟩ : ∃ r1, r = r1 + 1 := ⟨r - 1, by omega⟩
    simp only [whereN, Tr.find]
    rw [hI.left hn]
    simp only [Option.getD_some]
    split
    · have := node_kid par (L := L) hn hI 0 (by omega)
      rw [ht] at this
      obtain ⟨r', i', g1, g2, g3, g4, g5⟩ := ihl r (2 * i + 0) (hI.kid 0 (by omega)) this
      refine ⟨r', i', g1, g2, g3, by omega, ?_⟩
      rw [show r + 1 - r' = r - r' + 1 by omega, Nat.pow_succ, ← Nat.div_div_eq_div_mul, g5]; omega
    · have := node_kid par (L := L) hn hI 1 (by omega)
      rw [ht] at this
      obtain ⟨r', i', g1, g2, g3, g4, g5⟩ := ihq r (2 * i + 1) (hI.kid 1 (by omega)) this
      refine ⟨r', i', g1, ?_, g3, by omega, ?_⟩
      · rw [← g2]; congr 1
      · rw [show r + 1 - r' = r - r' + 1 by omega, Nat.pow_succ, ← Nat.div_div_eq_div_mul, g5]; omega
/-- a leaf, live: the tree it is in -/
theorem where_tree {L : Nat → Option H} {n x : Nat} {a : H} (hn : n < 2 ^ 63) (hx : x < n) (hL : L x = some a) :
    ∃ h t, h < 63 ∧ bitN n h = true ∧ buildT par L h (firstN n h) = some t ∧ firstN n h ≤ x ∧ x < firstN n h + 2 ^ h ∧ t.find x = a ∧ whereT (treesT par L n) n x = whereN (rowsN n) t ((rootN n h).getD 0) x := by
  obtain ⟨t, ht, hin⟩ := find_tree par (L := L) hn hx
  have hf : ∃ t', (treesT par L n).find? (inT x) = some t' := by
    cases hc : (treesT par L n).find? (inT x) with
    | some t' => exact ⟨t', rfl⟩
    | none => rw [List.find?_eq_none] at hc; exact absurd hin (hc t ht)
  obtain ⟨t', hf⟩ := hf
  have hm := List.mem_of_find?_eq_some hf
  have hi := List.find?_some hf
  obtain ⟨r, hr⟩ := in_tree par hm hi (by rw [hL]; rfl)
  obtain ⟨h, hh, rfl⟩ := List.mem_map.1 hm
  simp only at hr
  have hb := (treesN_mem hn).1 hh
  simp only [inT, decide_eq_true_eq] at hi
  refine ⟨h, r, hb.1, hb.2, hr, hi.1, by omega, build_find par _ _ _ hr x a hi.1 (by omega) hL, ?_⟩
  unfold whereT
  rw [hf, hr]
/-- where a live leaf stands -/
theorem where_spot {L : Nat → Option H} {n x : Nat} {a : H} (hn : n < 2 ^ 63) (hx : x < n) (hL : L x = some a) :
    ∃ h r i, InT n h r i ∧ whereT (treesT par L n) n x = posN (rowsN n) r i ∧ nodeN par L n (posN (rowsN n) r i) = some (.leaf a) := by
  obtain ⟨h, t, h63, hb, ht, h1, h2, hfind, hw⟩ := where_tree par hn hx hL
  obtain ⟨hI, hroot⟩ := root_in hn hb
  have hnode := node_root par (L := L) hn hI
  rw [ht] at hnode
  obtain ⟨r, i, g1, g2, g3, _⟩ := where_pos par (x := x) hn t _ _ hI hnode
  rw [hfind] at g3
  exact ⟨h, r, i, g1, by rw [hw, hroot]; exact g2, g3⟩
end
end Go.Sp

namespace Go.Sp
section
variable {H : Type} (par : H → H → H)
theorem node_above {L : Nat → Option H} {n h r i : Nat} (hn : n < 2 ^ 63) (hI : InT n h r i) (hr : r < h) {t : Tr H} (ht : nodeN par L n (posN (rowsN n) r i) = some t) :
    ∃ hh l q m, nodeN par L n (posN (rowsN n) (r + 1) (i / 2)) = some (.pair hh l q m) := by
  rw [node_step par hn hI hr] at ht
  unfold stepT at ht
  split at ht
  · rename_i hh l q m heq
    exact ⟨hh, l, q, m, heq⟩
  · cases ht
theorem node_sib {L : Nat → Option H} {n h r i : Nat} (hn : n < 2 ^ 63) (hI : InT n h r i) (hr : r < h) {t : Tr H} (ht : nodeN par L n (posN (rowsN n) r i) = some t) :
    ∃ t', nodeN par L n (posN (rowsN n) r (sibI i)) = some t' := by
  obtain ⟨hh, l, q, m, hp⟩ := node_above par hn hI hr ht
  rw [node_step par hn (hI.sib hr) hr, sibI_half, hp]
  exact ⟨_, rfl⟩
/-- all that is above what stands is a pair -/
theorem node_up {L : Nat → Option H} {n h : Nat} (hn : n < 2 ^ 63) : ∀ (j r i : Nat) (t : Tr H), InT n h r i → nodeN par L n (posN (rowsN n) r i) = some t → r + (j + 1) ≤ h →
    ∃ hh l q m, nodeN par L n (posN (rowsN n) (r + (j + 1)) (i / 2 ^ (j + 1))) = some (.pair hh l q m) := by
  intro j
  induction j with
  | zero =>
    intro r i t hI ht hj
    have := node_above par hn hI (by omega) ht
    simpa using this
  | succ j ih =>
    intro r i t hI ht hj
    obtain ⟨hh, l, q, m, hp⟩ := node_above par hn hI (by omega) ht
    have := ih (r + 1) (i / 2) _ (hI.up (by omega)) hp (by omega)
    rw [div_step, show r + 1 + (j + 1) = r + (j + 1 + 1) by omega] at this
    exact this
/-- live leaves' places may be targets -/
theorem leaves_fine {L : Nat → Option H} {n : Nat} (hn : n < 2 ^ 63) {T : List Nat} (h : ∀ t ∈ T, ∃ h r i a, InT n h r i ∧ t = posN (rowsN n) r i ∧ nodeN par L n t = some (.leaf a)) (hnd : T.Nodup) : Fine n T := by
  refine ⟨fun t ht => ?_, hnd, fun t ht q hq hne hqT => ?_⟩
  · obtain ⟨h', r, i, a, hI, rfl, _⟩ := h t ht
    rw [hI.tree hn]; rfl
  · obtain ⟨h', r, i, a, hI, rfl, hleaf⟩ := h t ht
    obtain ⟨j, hj, rfl, hI', _⟩ := ups_above hn hI hq
    obtain ⟨_, _, _, b, _, _, hb⟩ := h _ hqT
    cases j with
    | zero => exact hne (by simp)
    | succ j =>
      obtain ⟨hh, l, q, m, hp⟩ := node_up par hn j r i _ hI hleaf (by have := hI.le; omega)
      rw [hp] at hb; cases hb
variable (z : H)
/-- the hash at a place, of those that are given -/
def reckN (R : Nat) (at' : List (Nat × H)) : Nat → Nat → H × Bool
  | 0, p => match aget p at' with
    | some h => (h, true)
    | none => (z, false)
  | f + 1, p => match aget p at' with
    | some h => (h, true)
    | none => match leftN p R with
      | none => (z, false)
      | some c => (par (reckN R at' f c).1 (reckN R at' f (c + 1)).1, (reckN R at' f c).2 && (reckN R at' f (c + 1)).2)
/-- what is reckoned stands -/
theorem reck_node {L : Nat → Option H} {n h : Nat} (hn : n < 2 ^ 63) {at' : List (Nat × H)} (hat : ∀ p x, aget p at' = some x → ∃ t, nodeN par L n p = some t ∧ t.hash = x) :
    ∀ (f r i : Nat) (x : H), InT n h r i → reckN par z (rowsN n) at' f (posN (rowsN n) r i) = (x, true) → ∃ t, nodeN par L n (posN (rowsN n) r i) = some t ∧ t.hash = x := by
  intro f
  induction f with
  | zero =>
    intro r i x hI hx
    simp only [reckN] at hx
    split at hx
    · rename_i y hy
      cases hx
      exact hat _ _ hy
    · cases hx
  | succ f ih =>
    intro r i x hI hx
    simp only [reckN] at hx
    split at hx
    · rename_i y hy
      cases hx
      exact hat _ _ hy
    · cases r with
      | zero => rw [hI.left0 hn] at hx; cases hx
      | succ r =>
        rw [hI.left hn] at hx
        simp only [Prod.mk.injEq, Bool.and_eq_true] at hx
        obtain ⟨h1, h2, h3⟩ := hx
        obtain ⟨ta, a1, a2⟩ := ih r (2 * i + 0) _ (hI.kid 0 (by omega)) (Prod.ext rfl h2)
        obtain ⟨tb, b1, b2⟩ := ih r (2 * i + 1) (reckN par z (rowsN n) at' f (posN (rowsN n) r (2 * i) + 1)).1 (hI.kid 1 (by omega)) (Prod.ext rfl h3)
        rw [node_kid par hn hI 0 (by omega)] at a1
        rw [node_kid par hn hI 1 (by omega)] at b1
        cases hc : nodeN par L n (posN (rowsN n) (r + 1) i) with
        | none => rw [hc] at a1; cases a1
        | some t =>
          cases t with
          | leaf y => rw [hc] at a1; cases a1
          | pair hh l q m =>
            rw [hc] at a1 b1
            simp only [if_true, Option.some.injEq] at a1
            simp only [Nat.one_ne_zero, if_false, Option.some.injEq] at b1
            subst a1; subst b1
            refine ⟨_, rfl, ?_⟩
            have hw := (node_wf' par hn hI hc).1.1
            show hh = x
            rw [hw, ← h1]
            congr 1
/-- on the ways all is reckoned -/
theorem reck_known {n : Nat} (hn : n < 2 ^ 63) {T N : List Nat} (hF : Fine n T) (hN : Needed n T N) {at' : List (Nat × H)} (hat : ∀ p, p ∈ T ∨ p ∈ N → ∃ x, aget p at' = some x) :
    ∀ (f h r i : Nat), InT n h r i → r ≤ f → (∃ t ∈ T, posN (rowsN n) r i ∈ wayN n t) → (reckN par z (rowsN n) at' f (posN (rowsN n) r i)).2 = true := by
  intro f
  induction f with
  | zero =>
    intro h r i hI hr hw
    have hr0 : r = 0 := by omega
    subst hr0
    obtain ⟨t, ht, hq⟩ := hw
    obtain ⟨h', hh⟩ := Option.isSome_iff_exists.1 (hF.tree t ht)
    obtain ⟨_, r', i', rfl, hI'⟩ := tree_in hh
    obtain ⟨j, hj, he, hI2, _⟩ := ups_above hn hI' hq
    have := hI.inj hn hI2 he
    have hj0 : j = 0 := by omega
    subst hj0
    obtain ⟨x, hx⟩ := hat _ (.inl (show posN (rowsN n) 0 i ∈ T by rw [he]; simpa using ht))
    simp only [reckN, hx]
  | succ f ih =>
    intro h r i hI hr hw
    cases hag : aget (posN (rowsN n) r i) at' with
    | some x => simp only [reckN, hag]
    | none =>
      obtain ⟨t, ht, hq⟩ := hw
      obtain ⟨h', hh⟩ := Option.isSome_iff_exists.1 (hF.tree t ht)
      obtain ⟨_, r', i', rfl, hI'⟩ := tree_in hh
      obtain ⟨j, hj, he, hI2, _⟩ := ups_above hn hI' hq
      obtain ⟨e1, e2⟩ := hI.inj hn hI2 he
      cases j with
      | zero =>
        obtain ⟨x, hx⟩ := hat _ (.inl (show posN (rowsN n) r i ∈ T by rw [he]; simpa using ht))
        rw [hx] at hag; cases hag
      | succ j =>
        obtain ⟨r, rfl⟩ : ∃ r1, r = r1 + 1 := ⟨r - 1, by omega⟩
        -- the child on the way
        have hk : InT n h' (r' + j) (i' / 2 ^ j) := ⟨by omega, hI'.bit, by
          rw [Nat.div_div_eq_div_mul, ← Nat.pow_add, show j + (h' - (r' + j)) = h' - r' by have := hI'.le; omega]; exact hI'.idx⟩
        have hkw : posN (rowsN n) r (i' / 2 ^ j) ∈ wayN n (posN (rowsN n) r' i') := by
          rw [hI'.way hn, mem_ups]; exact ⟨j, by omega, by congr 1; omega⟩
        have hr' : r' + j = r := by omega
        rw [hr'] at hk
        have hci : i' / 2 ^ j / 2 = i := by rw [e2, Nat.pow_succ, Nat.div_div_eq_div_mul]
        generalize i' / 2 ^ j = c at hk hkw hci
        have hlt : r < h' := by have := hI2.le; omega
        have know : ∀ b, b < 2 → (reckN par z (rowsN n) at' f (posN (rowsN n) r (2 * i + b))).2 = true := by
          intro b hb
          by_cases hbc : 2 * i + b = c
          · rw [hbc]
            exact ih h' r c hk (by omega) ⟨_, ht, hkw⟩
          · have hs : 2 * i + b = sibI c := by unfold sibI; split <;> omega
            rw [hs]
            by_cases hon : ∃ t ∈ T, posN (rowsN n) r (sibI c) ∈ wayN n t
            · exact ih h' r (sibI c) (hk.sib hlt) (by omega) hon
            · have hin : posN (rowsN n) r (sibI c) ∈ N := (hN.mem _).2 ⟨h', r, c, hk, hlt, ⟨_, ht, hkw⟩, hon, rfl⟩
              obtain ⟨x, hx⟩ := hat _ (.inr hin)
              cases f with
              | zero => simp only [reckN, hx]
              | succ f => simp only [reckN, hx]
        simp only [reckN, hag]
        rw [hI.left hn]
        simp only [Bool.and_eq_true]
        exact ⟨know 0 (by omega), know 1 (by omega)⟩
end
end Go.Sp

namespace Go.Sp
theorem aget_zip {α : Type} {p : Nat} {h : α} : ∀ (ps : List Nat) (hh : List α) (i : Nat), (∀ j, j < i → ps[j]? ≠ some p) → ps[i]? = some p → hh[i]? = some h → aget p (ps.zip hh) = some h := by
  intro ps
  induction ps with
  | nil => intro hh i _ h2; simp at h2
  | cons a ps ih =>
    intro hh i h1 h2 h3
    cases hh with
    | nil => simp at h3
    | cons b hh =>
      cases i with
      | zero =>
        simp at h2 h3
        subst h2; subst h3
        simp [aget]
      | succ i =>
        have hne : a ≠ p := fun he => h1 0 (by omega) (by simp [he])
        simp only [List.zip_cons_cons, aget]
        rw [if_neg hne]
        exact ih hh i (fun j hj => by have := h1 (j + 1) (by omega); simpa using this) (by simpa using h2) (by simpa using h3)
theorem aget_zip_none {α : Type} {p : Nat} : ∀ (ps : List Nat) (hh : List α), p ∉ ps → aget p (ps.zip hh) = none := by
  intro ps
  induction ps with
  | nil => intro hh _; rfl
  | cons a ps ih =>
    intro hh h
    cases hh with
    | nil => rfl
    | cons b hh =>
      simp only [List.zip_cons_cons, aget]
      rw [if_neg (fun he => h (by simp [he]))]
      exact ih hh (fun hm => h (by simp [hm]))
/-- the functions of the laws, on -/
structure LawR (P : Program) extends LawU P, ForT P where
  reck : Nat
  h_reck : Has P reck (b_spinneylaw14_reckoned nf.left reck parent TH)
section
variable {P : Program} {f : Nat} {w : World}
set_option maxHeartbeats 800000 in
theorem reck_step (A : LawR P) {R : Nat} (hR : R ≤ 62) {av hv : Value} {ps : List Nat} {hh : List Hash} (hlen : ps.length = hh.length) (hl : ps.length < 2 ^ 40) (p : Nat) (hp : p < 2 ^ 64) (hT : Tabs A.toShaF w) (hA : SlC w av 1 ps.length (ps.map u64V)) (hH : SlC w hv 32 hh.length (hs hh)) (ra rb X : Hash × Bool)
    (g1 : ∀ h, aget p (ps.zip hh) = some h → X = (h, true)) (g2 : aget p (ps.zip hh) = none → leftN p R = none → X = (hZ, false))
    (g3 : ∀ c, aget p (ps.zip hh) = none → leftN p R = some c → c + 1 < 2 ^ 64 ∧ X = (parH ra.1 rb.1, ra.2 && rb.2) ∧ ∀ W, Ext w W → RetV P A.reck [u64V c, intV' R, av, hv] W (.tuple #[hV ra.1, .bool ra.2]) ∧ RetV P A.reck [u64V (c + 1), intV' R, av, hv] W (.tuple #[hV rb.1, .bool rb.2])) :
    RetV P A.reck [u64V p, intV' R, av, hv] w (.tuple #[hV X.1, .bool X.2]) := by
  refine Ret.of_exec A.h_reck (Nat.le_of_ble_eq_true rfl) fun c hc => ?_
  dsimp only [b_spinneylaw14_reckoned, argEnv, ym, yo, yg, ys, yt, yd, ye]
  refine exec_new rfl ?_
  intro b8 w1 hb8 hs1 hu1 hB8
  have hB81 : Blk w1 b8 (hC hZ) := hB8
  clear hB8
  refine xr 3 rfl ?_
  refine xlo (S := Nat) (fun i W => i ≤ ps.length ∧ (∀ j, j < i → ps[j]? ≠ some p) ∧ Ext w1 W) (fun i => [(0, u64V p), (1, intV' R), (2, av), (3, hv), (8, ptrV b8), (9, .bool false), (10, intV' i)]) (fun i => ps.length - i) 0 ⟨Nat.zero_le _, fun j hj => by omega, Upd.refl _ _⟩ ⟨rfl, rfl, rfl, rfl, rfl, rfl, rfl, trivial⟩ ?_
  rintro i W ⟨i1, iN, iU⟩
  have hwW := hu1.trans iU
  have hAW := hA.upd hwW (by simp)
  have hHW := hH.upd hwW (by simp)
  refine xtm rfl rfl rfl ?_
  refine xtm rfl rfl rfl ?_
  refine xpu (hAW.lenS rfl) rfl ?_
  by_cases hi : i < ps.length
  · refine xpu (pv_lssI (a := i) (b := ps.length) (q := true) rfl rfl (by simpa using hi)) rfl ?_
    refine xr 5 rfl ?_
    obtain ⟨q, hq⟩ : ∃ q, ps[i]? = some q := ⟨_, List.getElem?_eq_getElem hi⟩
    obtain ⟨h, hhi⟩ : ∃ h, hh[i]? = some h := ⟨_, List.getElem?_eq_getElem (by omega)⟩
    obtain ⟨ba, oa, ca, hav, hma, _⟩ := hAW.at (by omega)
    refine xju (ok_iaddr (N := 1) (b := ba) (o := oa) (len := ps.length) (cap := ca) (by rw [← hav]; rfl) rfl i rfl hi) rfl ?_
    refine exec_load1 (b := ba) (o := oa + i * 1) (v := u64V q) rfl rfl (hma (i * 1) _ (by rw [Nat.mul_one, List.getElem?_map, hq]; rfl)) ?_
    refine xr 1 rfl ?_
    by_cases hqp : q = p
    · refine xpu (pv_eqlI (K := .u64) (a := q) (b := p) (q := true) rfl rfl (by simpa using hqp)) rfl ?_
      refine xr 3 rfl ?_
      obtain ⟨bh, oh, ch, hvv, _, hmh⟩ := hs_at hHW hhi
      refine xju (ok_iaddr (N := 32) (b := bh) (o := oh) (len := hh.length) (cap := ch) (by rw [← hvv]; rfl) rfl i rfl (by omega)) rfl ?_
      refine exec_loadN (b := bh) (o := oh + i * 32) (vs := hC h) rfl rfl hmh (hC_length _) ?_
      refine exec_store (b := b8) (o := 0) (v := hV h) rfl rfl (hB81.upd iU) (hV_size h) (by rw [hC_length]; omega) (by rw [hV_cells]; exact hC_cell _) ?_
      intro W2 hu2 _ hB2
      have hB2' : Blk W2 b8 (hC h) := by
        have e : splice (hC hZ) 0 (hV h).cells.toList = hC h := by rw [hV_cells]; simp [splice, hC_length]
        rw [e] at hB2; exact hB2
      refine xr 1 rfl ?_
      have hag := aget_zip ps hh i iN (by rw [hq, hqp]) hhi
      have e1 := g1 h hag
      subst e1
      exact xre hc [hV h, .bool true] ⟨⟨b8, 0, hC h, rfl, hB2'.memAll, hC_length _, rfl⟩, rfl, trivial⟩ ⟨rfl, hwW.trans hu2 (fun b hb => .inr (by simp at hb; omega))⟩
    · refine xpu (pv_eqlI (K := .u64) (a := q) (b := p) (q := false) rfl rfl (by simpa using hqp)) rfl ?_
      refine xr 5 rfl ?_
      refine xpu (pv_addI (a := i) (b := 1) rfl rfl (by omega)) rfl ?_
      refine xr 1 rfl ?_
      refine xag (i + 1) ⟨hi, fun j hj => ?_, iU⟩ (by show ps.length - (i + 1) < ps.length - i; omega) ⟨rfl, rfl, rfl, rfl, rfl, rfl, rfl, trivial⟩
      rcases Nat.lt_or_ge j i with hj' | hj'
      · exact iN j hj'
      · have : j = i := by omega
        subst this
        rw [hq]; simpa using hqp
  · refine xpu (pv_lssI (a := i) (b := ps.length) (q := false) rfl rfl (by simpa using hi)) rfl ?_
    have hno : p ∉ ps := by
      intro hm
      obtain ⟨j, hj⟩ := List.getElem?_of_mem hm
      have hjl := (List.getElem?_eq_some_iff.1 hj).1
      exact iN j (by omega) hj
    have hag := aget_zip_none ps hh hno
    refine xr 5 rfl ?_
    refine xca rfl rfl (left_ok A.nf.toPosF p R hp (by omega)) ?_
    rintro _ W1 ⟨rfl, hx1⟩
    cases hlf : leftN p R with
    | none =>
      have e1 := g2 hag hlf
      subst e1
      dsimp only [optV]
      refine xr 8 rfl ?_
      refine xju (ok_mkL (l := []) (cs := hC hZ) rfl rfl) rfl ?_
      refine exec_store (b := b8) (o := 0) (v := .agg (hC hZ).toArray) rfl rfl ((hB81.upd iU).upd hx1) rfl (by rw [hC_length]; omega) (by decide) ?_
      intro W2 hu2 _ hB2
      refine xr 1 rfl ?_
      exact xre hc [hV hZ, .bool false] ⟨⟨b8, 0, hC hZ, rfl, (show Blk W2 b8 (hC hZ) from hB2).memAll, hC_length _, rfl⟩, rfl, trivial⟩ ⟨rfl, (hwW.trans hx1).trans hu2 (fun b hb => .inr (by simp at hb; omega))⟩
    | some cc =>
      dsimp only [optV]
      refine xr 13 rfl ?_
      obtain ⟨hlt1, e1, hrec⟩ := g3 cc hag hlf
      subst e1
      have hE1 := hwW.trans hx1
      refine xca rfl rfl (hrec W1 hE1).1 ?_
      rintro _ W2 ⟨rfl, hx2⟩
      refine xr 3 rfl ?_
      refine exec_new_store (v := hV ra.1) rfl rfl rfl (hV_size _) rfl (by rw [hV_cells]; exact hC_cell _) ?_
      intro b13 W3 hb13 hs13 hx3 hB13
      rw [hV_cells] at hB13
      refine xr 2 rfl ?_
      refine xpu (pv_addU (a := cc) (b := 1) rfl rfl (by omega)) rfl ?_
      refine xr 3 rfl ?_
      have hE3 := (hE1.trans hx2).trans hx3
      refine xca rfl rfl (hrec W3 hE3).2 ?_
      rintro _ W4 ⟨rfl, hx4⟩
      refine xr 3 rfl ?_
      refine exec_new_store (v := hV rb.1) rfl rfl rfl (hV_size _) rfl (by rw [hV_cells]; exact hC_cell _) ?_
      intro b15 W5 hb15 hs15 hx5 hB15
      rw [hV_cells] at hB15
      refine xr 1 rfl ?_
      refine exec_loadN (b := b13) (o := 0) (vs := hC ra.1) rfl rfl ((hB13.upd hx4).upd hx5).memAll (hC_length _) ?_
      refine exec_loadN (b := b15) (o := 0) (vs := hC rb.1) rfl rfl hB15.memAll (hC_length _) ?_
      have hE5 := (hE3.trans hx4).trans hx5
      refine xca rfl rfl (parH_ok A.toLeafF (hT.upd hE5) ra.1 rb.1) ?_
      rintro _ W6 ⟨rfl, hx6⟩
      have hb8x : Blk W6 b8 (hC hZ) := ((((((hB81.upd iU).upd hx1).upd hx2).upd hx3).upd hx4).upd hx5).upd hx6
      obtain ⟨ra1, ra2⟩ := ra
      have fin : ∀ (e : Env), Env.sub [(8, ptrV b8), (61, hV (parH ra1 rb.1)), (65, .bool (ra2 && rb.2))] e → Exec P 66 c [] [.op none none (.store 32 (.tmp 8) (.tmp 61)), .op none (some 9) (.mov (.tmp 65)), .ret] .done e W6 := by
        intro e he
        refine xen _ he ?_
        refine exec_store (b := b8) (o := 0) (v := hV (parH ra1 rb.1)) rfl rfl hb8x (hV_size _) (by rw [hC_length]; omega) (by rw [hV_cells]; exact hC_cell _) ?_
        intro W7 hu7 _ hB7
        have hB7' : Blk W7 b8 (hC (parH ra1 rb.1)) := by
          have e : splice (hC hZ) 0 (hV (parH ra1 rb.1)).cells.toList = hC (parH ra1 rb.1) := by rw [hV_cells]; simp [splice, hC_length]
          rw [e] at hB7; exact hB7
        refine xr 1 rfl ?_
        exact xre hc [hV (parH ra1 rb.1), .bool (ra2 && rb.2)] ⟨⟨b8, 0, hC (parH ra1 rb.1), rfl, hB7'.memAll, hC_length _, rfl⟩, rfl, trivial⟩ ⟨rfl, (hE5.trans hx6).trans hu7 (fun b hb => .inr (by simp at hb; omega))⟩
      cases ra2 with
      | true =>
        refine xr 5 rfl ?_
        exact fin _ ⟨rfl, rfl, rfl, trivial⟩
      | false =>
        refine xr 4 rfl ?_
        exact fin _ ⟨rfl, rfl, rfl, trivial⟩
theorem reck_ok (A : LawR P) {R : Nat} (hR : R ≤ 62) {av hv : Value} {ps : List Nat} {hh : List Hash} (hlen : ps.length = hh.length) (hl : ps.length < 2 ^ 40) :
    ∀ (f p : Nat) (w : World), p < 2 ^ 64 → (∀ r, rowN p R = some r → r ≤ f) → Tabs A.toShaF w → SlC w av 1 ps.length (ps.map u64V) → SlC w hv 32 hh.length (hs hh) →
    RetV P A.reck [u64V p, intV' R, av, hv] w (.tuple #[hV (reckN parH hZ R (ps.zip hh) f p).1, .bool (reckN parH hZ R (ps.zip hh) f p).2]) := by
  intro f
  induction f with
  | zero =>
    intro p w hp hrow hT hA hH
    have hlf : leftN p R = none := by
      unfold leftN
      split
      · rfl
      · rename_i r hr
        have := hrow r hr
        rw [if_pos (by omega)]
    refine reck_step A hR hlen hl p hp hT hA hH (hZ, false) (hZ, false) _ (fun h hh => by simp only [reckN, hh]) (fun h _ => by simp only [reckN, h]) (fun c _ h => by rw [hlf] at h; cases h)
  | succ f ih =>
    intro p w hp hrow hT hA hH
    refine reck_step A hR hlen hl p hp hT hA hH (reckN parH hZ R (ps.zip hh) f ((leftN p R).getD 0)) (reckN parH hZ R (ps.zip hh) f ((leftN p R).getD 0 + 1)) _ (fun h hh => by simp only [reckN, hh]) (fun h h' => by simp only [reckN, h, h']) (fun cc hag hlf => ?_)
    have hrr : ∃ r i, r + 1 ≤ R ∧ p = posN R (r + 1) i ∧ i < 2 ^ (R - (r + 1)) ∧ r + 1 ≤ f + 1 ∧ cc = posN R r (2 * i) := by
      have hlf' := hlf
      unfold leftN at hlf
      split at hlf
      · cases hlf
      · rename_i r hr
        split at hlf
        · cases hlf
        · obtain ⟨i', rfl, h1, h2⟩ := pos_of_row (by omega) hr
          obtain ⟨r, rfl⟩ : ∃ r1, r = r1 + 1 := ⟨r - 1, by omega⟩
          refine ⟨r, i', h1, rfl, h2, hrow _ hr, ?_⟩
          rw [left_posN (by omega) (by omega) h2] at hlf'
          exact (Option.some.inj hlf').symm
    obtain ⟨r, i', hr1, hpp, hi2, hrf, hcc⟩ := hrr
    have h2i : (2 : Nat) ^ (R - r) = 2 * 2 ^ (R - (r + 1)) := by rw [← Nat.pow_succ']; congr 1; omega
    have hrow0 : rowN cc R = some r := by rw [hcc]; exact row_posN (by omega) (by omega) (by omega)
    have hrow1 : rowN (cc + 1) R = some r := by rw [hcc]; exact row_posN (i := 2 * i' + 1) (by omega) (by omega) (by omega)
    have hlt1 := (rowN_le hrow1 (by omega)).2
    have h64 : (2 : Nat) ^ (R + 1) ≤ 2 ^ 63 := Nat.pow_le_pow_right (by omega) (by omega)
    rw [hlf]
    refine ⟨by omega, by simp only [reckN, hag, hlf, Option.getD_some], fun W hW => ⟨?_, ?_⟩⟩
    · exact ih cc W (by omega) (fun r' h => by rw [hrow0] at h; cases h; omega) (hT.upd hW) (hA.upd hW (by simp)) (hH.upd hW (by simp))
    · exact ih (cc + 1) W (by omega) (fun r' h => by rw [hrow1] at h; cases h; omega) (hT.upd hW) (hA.upd hW (by simp)) (hH.upd hW (by simp))
end
end Go.Sp

namespace Go.Sp
theorem lv_some {L : List (Option Hash)} {x : Nat} {a : Hash} : lv L x = some a ↔ L[x]? = some (some a) := by
  unfold lv
  cases h : L[x]? with
  | none => simp
  | some o => cases o <;> simp
theorem num_some {L : List (Option Hash)} {a : Hash} (h : some a ∈ L) : lv L (numL L a) = some a ∧ numL L a < L.length := by
  have hlt := List.idxOf_lt_length_of_mem h
  refine ⟨?_, hlt⟩
  rw [lv_some, numL, List.getElem?_eq_getElem hlt, List.getElem_idxOf hlt]
theorem spot_some {L : List (Option Hash)} {a : Hash} (hn : L.length < 2 ^ 63) (h : some a ∈ L) :
    ∃ h r i, InT L.length h r i ∧ spotL L a = posN (rowsN L.length) r i ∧ nodeN parH (lv L) L.length (posN (rowsN L.length) r i) = some (.leaf a) := by
  obtain ⟨h1, h2⟩ := num_some h
  exact where_spot parH hn h2 h1
theorem spot_node {L : List (Option Hash)} {a : Hash} (hn : L.length < 2 ^ 63) (h : some a ∈ L) : nodeN parH (lv L) L.length (spotL L a) = some (.leaf a) := by
  obtain ⟨h', r, i, _, h2, h3⟩ := spot_some hn h
  rw [h2, h3]
theorem spot_inj {L : List (Option Hash)} {a b : Hash} (hn : L.length < 2 ^ 63) (ha : some a ∈ L) (hb : some b ∈ L) (he : spotL L a = spotL L b) : a = b := by
  have h1 := spot_node hn ha
  have h2 := spot_node hn hb
  rw [he, h2] at h1
  cases h1; rfl
theorem proof_fine {L : List (Option Hash)} {l : List Hash} (hn : L.length < 2 ^ 63) (hl : ∀ h ∈ l, some h ∈ L) (hd : l.Nodup) : Fine L.length (proofT L l) := by
  refine leaves_fine parH (L := lv L) hn (fun t ht => ?_) ?_
  · obtain ⟨a, ha, rfl⟩ := List.mem_map.1 ht
    obtain ⟨h, r, i, h1, h2, h3⟩ := spot_some hn (hl a ha)
    exact ⟨h, r, i, a, h1, h2, by rw [h2]; exact h3⟩
  · rw [proofT, List.nodup_iff_pairwise_ne, List.pairwise_map]
    rw [List.nodup_iff_pairwise_ne] at hd
    exact hd.imp_of_mem (fun {a b} ha hb hne he => hne (spot_inj hn (hl a ha) (hl b hb) he))
theorem proof_need {L : List (Option Hash)} {l : List Hash} (hn : L.length < 2 ^ 63) (hl : ∀ h ∈ l, some h ∈ L) (hd : l.Nodup) : needN L.length (proofT L l) = some (proofN L l) ∧ Needed L.length (proofT L l) (proofN L l) := by
  obtain ⟨N, hN⟩ := need_fine hn (proof_fine hn hl hd)
  have : proofN L l = N := by rw [proofN, hN]; rfl
  rw [this]
  exact ⟨hN, (need_some hN).2⟩
theorem proofH_len (L : List (Option Hash)) (l : List Hash) : (proofH L l).length = (proofN L l).length := by simp [proofH]
/-- what is needed stands -/
theorem proof_stands {L : List (Option Hash)} {l : List Hash} (hn : L.length < 2 ^ 63) (hl : ∀ h ∈ l, some h ∈ L) (hd : l.Nodup) {q : Nat} (hq : q ∈ proofN L l) : ∃ t, nodeN parH (lv L) L.length q = some t ∧ t.hash = hashL L q := by
  obtain ⟨h, r, i, hI, hlt, ⟨t, ht, hon⟩, _, rfl⟩ := ((proof_need hn hl hd).2.mem q).1 hq
  obtain ⟨a, ha, rfl⟩ := List.mem_map.1 ht
  obtain ⟨h', r', i', hI', h2, h3⟩ := spot_some hn (hl a ha)
  rw [h2] at hon
  obtain ⟨j, hj, he, hI2, _⟩ := ups_above hn hI' hon
  have hsib : ∃ t, nodeN parH (lv L) L.length (posN (rowsN L.length) r i) = some t := by
    rw [he]
    cases j with
    | zero => exact ⟨_, by simpa using h3⟩
    | succ j =>
      obtain ⟨hh, x, y, z, hp⟩ := node_up parH hn j r' i' _ hI' h3 (by have := hI'.le; omega)
      exact ⟨_, hp⟩
  obtain ⟨t, ht⟩ := hsib
  obtain ⟨t', ht'⟩ := node_sib parH hn hI hlt ht
  exact ⟨t', ht', by rw [hashL, ht']; rfl⟩
/-- the hashes that are given, and where -/
def givenL (L : List (Option Hash)) (l : List Hash) : List (Nat × Hash) := (proofT L l ++ proofN L l).zip (l ++ proofH L l)
theorem aget_in {α : Type} {p : Nat} {x : α} : ∀ {l : List (Nat × α)}, aget p l = some x → (p, x) ∈ l := by
  intro l
  induction l with
  | nil => intro h; simp [aget] at h
  | cons a l ih =>
    obtain ⟨q, y⟩ := a
    intro h
    simp only [aget] at h
    split at h
    · rename_i hq; subst hq; simp at h; subst h; simp
    · exact List.mem_cons_of_mem _ (ih h)
theorem aget_of {α : Type} {p : Nat} : ∀ {l : List (Nat × α)}, p ∈ l.map Prod.fst → ∃ x, aget p l = some x := by
  intro l
  induction l with
  | nil => intro h; simp at h
  | cons a l ih =>
    obtain ⟨q, y⟩ := a
    intro h
    simp only [aget]
    split
    · exact ⟨y, rfl⟩
    · rename_i hq
      refine ih ?_
      simp only [List.map_cons, List.mem_cons] at h
      rcases h with h | h
      · exact absurd h.symm hq
      · exact h
theorem given_node {L : List (Option Hash)} {l : List Hash} (hn : L.length < 2 ^ 63) (hl : ∀ h ∈ l, some h ∈ L) (hd : l.Nodup) : ∀ p x, aget p (givenL L l) = some x → ∃ t, nodeN parH (lv L) L.length p = some t ∧ t.hash = x := by
  intro p x h
  have hm := aget_in h
  rw [givenL, List.zip_append (by simp [proofT])] at hm
  rcases List.mem_append.1 hm with hm | hm
  · rw [proofT, List.zip_map_left, List.mem_map] at hm
    obtain ⟨⟨a, b⟩, hab, he⟩ := hm
    simp only [Prod.map_apply, id_eq, Prod.mk.injEq] at he
    obtain ⟨rfl, rfl⟩ := he
    have hz : ∀ (m : List Hash), (a, b) ∈ m.zip m → a = b ∧ a ∈ m := by
      intro m
      induction m with
      | nil => intro h; simp at h
      | cons c m ih =>
        intro h
        rw [List.zip_cons_cons, List.mem_cons] at h
        rcases h with h | h
        · cases h; exact ⟨rfl, by simp⟩
        · exact ⟨(ih h).1, by simp [(ih h).2]⟩
    obtain ⟨rfl, ha⟩ := hz l hab
    exact ⟨_, spot_node hn (hl a ha), rfl⟩
  · rw [proofH, List.zip_map_right, List.mem_map] at hm
    obtain ⟨⟨a, b⟩, hab, he⟩ := hm
    simp only [Prod.map_apply, id_eq, Prod.mk.injEq] at he
    obtain ⟨rfl, rfl⟩ := he
    have hz : ∀ (m : List Nat), (a, b) ∈ m.zip m → a = b ∧ a ∈ m := by
      intro m
      induction m with
      | nil => intro h; simp at h
      | cons c m ih =>
        intro h
        rw [List.zip_cons_cons, List.mem_cons] at h
        rcases h with h | h
        · cases h; exact ⟨rfl, by simp⟩
        · exact ⟨(ih h).1, by simp [(ih h).2]⟩
    obtain ⟨rfl, ha⟩ := hz _ hab
    exact proof_stands hn hl hd ha
theorem given_all {L : List (Option Hash)} {l : List Hash} : ∀ p, p ∈ proofT L l ∨ p ∈ proofN L l → ∃ x, aget p (givenL L l) = some x := by
  intro p hp
  refine aget_of ?_
  rw [givenL, List.map_fst_zip (by simp [proofT, proofH])]
  simpa using hp
/-- roots that are reckoned stand -/
theorem root_reck {L : List (Option Hash)} {l : List Hash} (hn : L.length < 2 ^ 63) (hl : ∀ h ∈ l, some h ∈ L) (hd : l.Nodup) {h q : Nat} (hq : rootN L.length h = some q) {x : Hash} {f : Nat} (hx : reckN parH hZ (rowsN L.length) (givenL L l) f q = (x, true)) :
    ∃ t, buildT parH (lv L) h (firstN L.length h) = some t ∧ t.hash = x := by
  have hb := (rootN_row hq).2.1
  obtain ⟨hI, hr⟩ := root_in hn hb
  rw [hr] at hq
  cases hq
  obtain ⟨t, ht, he⟩ := reck_node parH hZ hn (given_node hn hl hd) f h _ x hI hx
  rw [node_root parH hn hI] at ht
  exact ⟨t, ht, he⟩
/-- a target's way ends in a root that is reckoned -/
theorem way_reck {L : List (Option Hash)} {l : List Hash} (hn : L.length < 2 ^ 63) (hl : ∀ h ∈ l, some h ∈ L) (hd : l.Nodup) {a : Hash} (ha : a ∈ l) :
    ∃ q, (wayN L.length (spotL L a)).getLast? = some q ∧ ∀ f, rowsN L.length ≤ f → (reckN parH hZ (rowsN L.length) (givenL L l) f q).2 = true := by
  obtain ⟨h, r, i, hI, h2, h3⟩ := spot_some hn (hl a ha)
  have hle := hI.le
  refine ⟨posN (rowsN L.length) h (i / 2 ^ (h - r)), ?_, fun f hf => ?_⟩
  · rw [h2, hI.way hn, ups_last, show r + (h - r) = h by omega]
  · have hroot : InT L.length h h (i / 2 ^ (h - r)) := ⟨Nat.le_refl _, hI.bit, by rw [Nat.sub_self, Nat.pow_zero, Nat.div_one]; exact hI.idx⟩
    refine reck_known parH hZ hn (proof_fine hn hl hd) (proof_need hn hl hd).2 given_all f h h _ hroot (by have := bit_rows hn hI.bit; omega) ⟨spotL L a, List.mem_map.2 ⟨a, ha, rfl⟩, ?_⟩
    rw [h2, hI.way hn, mem_ups]
    exact ⟨h - r, Nat.le_refl _, by congr 1; omega⟩
end Go.Sp


namespace Go.Sp
section
variable {P : Program} {n : Nat} {c : Ctx} {D : List Deferred} {is : List Ins} {k : Kont} {e : Env} {w : World}
theorem ok_appendG {T : TypeId} {N bytes : Nat} {z : Array Value} {s x : Operand} {base : Option Addr} {xv : Value} {l1 l2 : Nat} {cs1 cs2 : List Value} (hs : e.ev s = some (.slice base l1 l1)) (hx : e.ev x = some xv)
    (h1 : OwnC w (.slice base l1 l1) N l1 cs1) (h2 : SlC w xv N l2 cs2) (hz : z.size = N) (hb0 : 0 < bytes) (hb : (2 * (l1 + l2) + 192) * bytes ≤ 2 ^ 48) :
    OpOK P (.append T N bytes z s x) e w fun v W => OwnC W v N (l1 + l2) (cs1 ++ cs2) ∧ Ext w W ∧ (∀ b ∈ blkOf v, b ∈ blkOf (.slice base l1 l1) ∨ w.heap.size ≤ b) ∧ (∀ b ∈ blkOf v, b < W.heap.size) := by
  intro a hk rd d next Q hn
  simp only [MOp.sem, Env.ok_ev hk hs, Env.ok_ev hk hx, Sem.run_bind]
  suffices ∃ v W, (appendTo T N bytes z (.slice base l1 l1) xv).run P w = .ok v W ∧ OwnC W v N (l1 + l2) (cs1 ++ cs2) ∧ Ext w W ∧ (∀ b ∈ blkOf v, b ∈ blkOf (.slice base l1 l1) ∨ w.heap.size ≤ b) by
    obtain ⟨v, W, hr, h3, h4, h5⟩ := this
    simp only [hr, Result.andThen_ok, Sem.run_pure]
    exact hn v W ⟨h3, h4, h5, h3.lt⟩
  have hc2 := h2.len
  have hc1 := h1.len
  by_cases h0 : l2 = 0
  · subst h0
    have he : cs2 = [] := List.length_eq_zero_iff.1 (by rw [hc2]; simp)
    subst he
    have hf2 := firstCells_run (P := P) (m := 0) h2 (by omega)
    refine ⟨.slice base l1 l1, w, ?_, by simpa using h1, Upd.refl _ _, fun b hb => .inl hb⟩
    simp only [appendTo, Sem.run_bind, lenOf_run h2, Result.andThen_ok, Nat.add_zero, Nat.le_refl, if_true, Sem.run_pure, hf2]
    cases base with
    | none => simp
    | some a => simp [storeCells]
  · have hle : ¬ l1 + l2 ≤ l1 := by omega
    have hcapn := nextslicecap_le (need := l1 + l2) (cap := l1) (by omega)
    have hbb : ¬ Builtin.nextslicecap (l1 + l2) l1 * bytes > 2 ^ 48 := by
      have := Nat.mul_le_mul_right bytes hcapn
      omega
    have hb1 : ¬ bytes = 0 := by omega
    obtain ⟨nc, hnc⟩ : ∃ nc, Question.cut (.appendCap (l1 + l2) l1 T) (w.tape w.drawn (.appendCap (l1 + l2) l1 T)) = nc := ⟨_, rfl⟩
    have hge : l1 + l2 ≤ nc := by rw [← hnc]; simp [Question.cut]
    have t1 : cs1.take (l1 * N) = cs1 := List.take_of_length_le (by omega)
    have t2 : cs2.take (l2 * N) = cs2 := List.take_of_length_le (by omega)
    have hd1 : SlC w.drew (.slice base l1 l1) N l1 cs1 := h1.sl.upd (Upd.drew [] w _) (by simp)
    have hd2 : SlC w.drew xv N l2 cs2 := h2.upd (Upd.drew [] w _) (by simp)
    have hf1 := firstCells_run (P := P) (m := l1) hd1 (Nat.le_refl _)
    have hf2 := firstCells_run (P := P) (m := l2) hd2 (Nat.le_refl _)
    rw [t1] at hf1
    rw [t2] at hf2
    obtain ⟨ZL, hZ⟩ : ∃ l : List Value, Builtin.zeroCells z (nc - (l1 + l2)) = l.toArray := ⟨_, Array.toArray_toList.symm⟩
    have hZl : ZL.length = (nc - (l1 + l2)) * N := by
      have : (Builtin.zeroCells z (nc - (l1 + l2))).size = ZL.length := by rw [hZ]; simp
      rw [← this]; simp [Builtin.zeroCells, hz]
    have hrun : (appendTo T N bytes z (.slice base l1 l1) xv).run P w = .ok (.slice (some ⟨w.heap.size, 0, none⟩) (l1 + l2) nc) (w.drew.alloc (.cells (cs1 ++ cs2 ++ ZL).toArray T)) := by
      simp only [appendTo, Sem.run_bind, lenOf_run h2, Result.andThen_ok, hle, if_false, Sem.run_pure, hb1, and_false, hbb, Sem.run_ite]
      simp [hnc, Question.forced, hf1, hf2, newRow, hZ]
    refine ⟨_, _, hrun, .inr ⟨w.heap.size, nc, ZL, rfl, ?_, by simp [hc1, hc2, Nat.add_mul], ?_, hge⟩, ?_, by simp [blkOf]⟩
    · exact alloc_blk w.drew (cs1 ++ cs2 ++ ZL) T
    · have e3 : nc * N = (l1 + l2) * N + (nc - (l1 + l2)) * N := by rw [← Nat.add_mul]; congr 1; omega
      simp [hc1, hc2, hZl, e3, Nat.add_mul]; omega
    · exact (Upd.drew [] w _).trans (Upd.alloc [] _ _)
end
end Go.Sp
