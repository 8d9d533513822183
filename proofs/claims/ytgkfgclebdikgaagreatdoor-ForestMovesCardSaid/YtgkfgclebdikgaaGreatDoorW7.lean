/- spinneylaw14.ForestMoves returns true for every input, and its arguments read afterwards as before: the card. No condition. This text: part 7 of 10. -/
import Derived.Test.YtgkfgclebdikgaaGreatDoorW6
set_option linter.unusedVariables false
set_option linter.unusedSimpArgs false
set_option linter.unusedSectionVars false
namespace Go.Sp
theorem lv_eq (L : List (Option Hash)) : lv L = lvG L := rfl
theorem Blk.over {w : World} {b i : Nat} {cs : List Value} (h : Blk w b cs) (hi : cs.length ≤ i) : w.cell? ⟨b, i, none⟩ = none := by
  obtain ⟨T, h⟩ := h
  simp [World.cell?, h, hi]
theorem map_nocell {w : World} {b i : Nat} {α β : Type} {enc : α → Value} {encV : β → Value} {l : List (α × β)} (h : MapAt w b enc encV l) : w.cell? ⟨b, i, none⟩ = none := by
  obtain ⟨es, clock, h, _⟩ := h
  simp [World.cell?, h]
theorem FAt.tabs {P : Program} {A : ShaF P} {w : World} {p m : Nat} {s : Fo} (h : FAt w p m s) (hT : Tabs A w) : A.gFirst ∉ [p, m] ∧ A.gConst ∉ [p, m] := by
  obtain ⟨⟨tv, wl, h1, h2, h3, h4⟩, _⟩ := h
  have f7 := hT.first 7 _ (show (firstW.map u64V)[7]? = some _ from rfl)
  have c7 := hT.const 7 _ (show (constW.map u64V)[7]? = some _ from rfl)
  simp only [List.mem_cons, List.not_mem_nil, or_false, not_or]
  refine ⟨⟨?_, ?_⟩, ?_, ?_⟩ <;> intro he
  · rw [he, h1.over (by simp)] at f7; cases f7
  · rw [he, map_nocell h3] at f7; cases f7
  · rw [he, h1.over (by simp)] at c7; cases c7
  · rw [he, map_nocell h3] at c7; cases c7
section
variable {P : Program} {n : Nat} {c : Ctx} {D : List Deferred} {is : List Ins} {k : Kont} {e : Env} {w : World}
variable {l : List Nat} {wr : Nat} {Wr : World → Prop} {ds : List DOp} {F : List (Nat × Value) → Prop} {done : List (Nat × Value)} {i : Nat} {deps : List Nat} {d : Option Nat} {m : MOp} {r : List DOp}
/-- an operation that reads what the writing one leaves alone -/
theorem ws_upd (v : Value) (hne : Nat.beq i wr = false) (hv : ∀ W, Upd l w W → OpOK P m (envV ds done deps ++ keepEnv ds i e) W (Just v W))
    (h : DWS P l wr Wr ds e w F (i + 1) ((i, v) :: done) r) : DWS P l wr Wr ds e w F i done ((deps, none, d, m) :: r) :=
  ⟨v, fun W h1 _ => (hv W h1).mono fun u W' hu => ⟨⟨hu.2 ▸ Upd.refl _ _, fun _ => hu.2 ▸ Upd.refl _ _⟩, hu.1, fun hi => by subst hi; simp at hne⟩, h⟩
end
/-- what a Modify is refused for -/
def Refused (L : List (Option Hash)) (del add : List Hash) (e : Nat) : Prop :=
  (e = 5 ∧ ∃ h ∈ del, some h ∉ L) ∨ (e = 24 ∧ (∀ h ∈ del, some h ∈ L) ∧ ¬ del.Nodup) ∨ (e = 6 ∧ (∀ h ∈ del, some h ∈ L) ∧ del.Nodup ∧ ¬ (add.Nodup ∧ ∀ h ∈ add, some h ∈ L → h ∈ del))
structure Granted (L : List (Option Hash)) (del add : List Hash) : Prop where
  live : ∀ h ∈ del, some h ∈ L
  once : del.Nodup
  new : add.Nodup
  free : ∀ h ∈ add, some h ∈ L → h ∈ del
def goneMap (gl : List (Hash × Nat)) (L : List (Option Hash)) (del : List Hash) : Prop := ∀ h i, aget h gl = some i ↔ h ∈ del ∧ L[i]? = some (some h)
def newMap (cl : List (Hash × Nat)) (n : Nat) (add : List Hash) : Prop := ∀ h i, aget h cl = some i ↔ ∃ k, add[k]? = some h ∧ i = n + k
/-- where what undoes a Modify lies -/
structure UAt (w : World) (u : Value) (p m : Nat) (s : Fo) (t : Nat) (del add : List Hash) : Prop where
  ex : ∃ tv gr cr gl cl, u = .agg #[ptrV p, intV' t, intV' s.turn, u64V s.L.length, tv, .map (some gr), .map (some cr)] ∧ TreesF w tv (treesT parH (lv s.L) s.L.length) ∧ MapAt w gr hV u64V gl ∧ MapAt w cr hV u64V cl ∧ goneMap gl s.L del ∧ newMap cl s.L.length add ∧ gr ≠ p ∧ gr ≠ m ∧ cr ≠ p ∧ cr ≠ m
  len : s.L.length + add.length < 2 ^ 40
  turn : s.turn < 2 ^ 40
theorem where_mod {wl gl cl l2 : List (Hash × Nat)} {L : List (Option Hash)} {del add : List Hash} (h : WhereOK wl L) (hg : goneMap gl L del) (hc : newMap cl L.length add) (ha : Granted L del add)
    (h2 : ∀ h, aget h l2 = (aget h cl).or (if (aget h gl).isSome then none else aget h wl)) : WhereOK l2 (modL del add L) := by
  intro x i
  have key : (modL del add L)[i]? = some (some x) ↔ (L[i]? = some (some x) ∧ x ∉ del) ∨ ∃ k, add[k]? = some x ∧ i = L.length + k := by
    rw [modL]
    rcases Nat.lt_or_ge i L.length with hi | hi
    · rw [List.getElem?_append_left (by rw [goneL_len]; exact hi), goneL_get]
      constructor
      · exact .inl
      · rintro (h | ⟨k, _, h⟩)
        · exact h
        · omega
    · rw [List.getElem?_append_right (by rw [goneL_len]; exact hi), goneL_len, List.getElem?_map]
      have hn : L[i]? = none := List.getElem?_eq_none hi
      constructor
      · intro h
        refine .inr ⟨i - L.length, ?_, by omega⟩
        cases ho : add[i - L.length]? with
        | none => rw [ho] at h; cases h
        | some y => rw [ho] at h; cases h; rfl
      · rintro (⟨h, _⟩ | ⟨k, h, rfl⟩)
        · rw [hn] at h; cases h
        · rw [Nat.add_sub_cancel_left, h]; rfl
  rw [key, h2]
  cases ho : aget x cl with
  | some j =>
    obtain ⟨k, hk, rfl⟩ := (hc x j).1 ho
    simp only [Option.some_or, Option.some.injEq]
    constructor
    · rintro rfl; exact .inr ⟨k, hk, rfl⟩
    · rintro (⟨h3, h4⟩ | ⟨k', h3, rfl⟩)
      · exact absurd (ha.free x (List.mem_of_getElem? hk) (List.mem_of_getElem? h3)) h4
      · have := (hc x (L.length + k')).2 ⟨k', h3, rfl⟩
        rw [ho] at this; exact Option.some.inj this
  | none =>
    have hno : ¬ ∃ k, add[k]? = some x ∧ i = L.length + k := fun h => by rw [(hc x i).2 h] at ho; cases ho
    simp only [Option.none_or, hno, or_false]
    cases hgo : aget x gl with
    | some j =>
      have := (hg x j).1 hgo
      simp [this.1]
    | none =>
      simp only [Option.isSome_none, Bool.false_eq_true, if_false]
      rw [h x i]
      constructor
      · intro h3
        refine ⟨h3, fun hd => ?_⟩
        rw [(hg x i).2 ⟨hd, h3⟩] at hgo; cases hgo
      · exact And.left
theorem TreesOwn.val {w : World} {tv : Value} {ts : List (TT Hash)} (h : TreesOwn w tv ts) : ∃ a l c, tv = .slice a l c := by
  obtain ⟨vs, _, h⟩ := h
  rcases h with ⟨rfl, _⟩ | ⟨b, cap, rest, rfl, _⟩
  · exact ⟨_, _, _, rfl⟩
  · exact ⟨_, _, _, rfl⟩
/-- leaves in the midst of a Modify -/
def midL (del add : List Hash) (L : List (Option Hash)) (i : Nat) : List (Option Hash) := goneL del L ++ (add.take i).map some
theorem midL_len {del add : List Hash} {L : List (Option Hash)} {i : Nat} (hi : i ≤ add.length) : (midL del add L i).length = L.length + i := by
  simp [midL, goneL_len]; omega
theorem midL_next {del add : List Hash} {L : List (Option Hash)} {i : Nat} {h : Hash} (hi : add[i]? = some h) : midL del add L (i + 1) = midL del add L i ++ [some h] := by
  rw [midL, midL, grown_next hi, List.map_append]; exact (List.append_assoc _ _ _).symm
/-- the functions of forest, on -/
structure ForL (P : Program) extends ForK P where
  modify : Nat
  TUn : Nat
  TMH : Nat
  h_modify : Has P modify (b_Pforest_Forest_Modify is' going coming valsH nf.sorted deleted grown change TUn TMH)
def undoC (p t o n : Nat) (tv : Value) (gr cr : Nat) : List Value := [ptrV p, intV' t, intV' o, u64V n, tv, .map (some gr), .map (some cr)]
def undoZ : List Value := [.pointer none, intV' 0, intV' 0, u64V 0, .slice none 0 0, .map none, .map none]
section
variable {P : Program} {f : Nat} {w : World}
theorem ok_new {e : Env} {T : TypeId} {z : Array Value} : OpOK P (.new T z) e w fun v W => ∃ b, v = ptrV b ∧ Blk W b z.toList ∧ w.heap.size ≤ b ∧ Ext w W := by
  have h : OpOK P (.new T z) e w fun u W => u = ptrV w.heap.size ∧ W = w.alloc (.cells z T) := ok_val fun a hk => by simp [MOp.sem, newRow]
  refine h.mono ?_
  rintro v W ⟨rfl, rfl⟩
  exact ⟨_, rfl, alloc_blk w z.toList T, Nat.le_refl _, Upd.alloc _ _ _⟩
set_option maxHeartbeats 1600000 in
theorem modify_ok (A : ForL P) (hT : Tabs A.toShaF w) {p m : Nat} {s : Fo} (h : FAt w p m s) {dv av : Value} {del add : List Hash} (hD : SlC w dv 32 del.length (hs del)) (hA : SlC w av 32 add.length (hs add)) (hl : s.L.length + add.length < 2 ^ 40) (hd : del.length < 2 ^ 40) (ht : s.turns + 1 < 2 ^ 40) :
    Ret P A.modify [ptrV p, dv, av] w fun v w' => (∃ e, v = .tuple #[.agg undoZ.toArray, intV' e] ∧ Refused s.L del add e ∧ Ext w w') ∨
      (∃ u, v = .tuple #[u, intV' 0] ∧ Granted s.L del add ∧ FAt w' p m ⟨modL del add s.L, s.turns + 1, s.turns + 1⟩ ∧ UAt w' u p m s (s.turns + 1) del add ∧ Upd [p, m] w w') := by
  have hF := h
  have hlt := h.lt
  have hne := h.ne
  have hfor := h.foreign
  have htab := h.tabs hT
  obtain ⟨⟨tv, wl, h1, h2, h3, h4⟩, h5, h6, h7⟩ := h
  obtain ⟨ta, tl, tc, rfl⟩ := h2.own.val
  refine Ret.of_exec A.h_modify (Nat.le_of_ble_eq_true rfl) fun c hc => ?_
  dsimp only [b_Pforest_Forest_Modify, argEnv, ym, yo, yg, ys, yt, yd, ye]
  refine exec_new rfl ?_
  intro b6 w1 hb6 hs1 hu1 hB6
  refine xr 2 rfl ?_
  refine xca rfl rfl (is_ok A.toForJ (hF.ext hu1)) ?_
  rintro _ w2 ⟨rfl, hu2⟩
  refine xr 5 rfl ?_
  have hE2 : Ext w w2 := hu1.trans hu2
  have hB62 : Blk w2 b6 undoZ := hB6.upd hu2
  refine xca rfl rfl (going_ok A.toForJ (hF.ext hE2) (hD.upd hE2 (by simp)) hd) ?_
  rintro v3 w3 ⟨hu3, hcase⟩
  have hE3 := hE2.trans hu3
  have hB63 := hB62.upd hu3
  rcases hcase with ⟨rfl, hno⟩ | ⟨rfl, hall, hnd⟩ | ⟨gr, gl, rfl, hgr, hG, hGm, hgl, hall, hnd⟩
  · refine xr 6 rfl ?_
    refine xpu (pv_neqI (a := 5) (b := 0) (q := true) rfl rfl rfl) rfl ?_
    refine xr 1 rfl ?_
    refine xju (ok_mkL (l := []) (cs := undoZ) rfl rfl) rfl ?_
    refine xr 1 rfl ?_
    refine exec_store (b := b6) (o := 0) (v := .agg undoZ.toArray) rfl rfl hB63 rfl (by decide) rfl ?_
    intro W' hu' _ hB'
    refine xr 1 rfl ?_
    exact xre hc [.agg undoZ.toArray, _] ⟨⟨b6, 0, undoZ, rfl, Blk.memAll (show Blk W' b6 undoZ from hB'), rfl, rfl⟩, rfl, trivial⟩ (.inl ⟨5, rfl, .inl ⟨rfl, hno⟩, (hE3).trans hu' (fun b hb => .inr (by simp at hb; omega))⟩)
  · refine xr 6 rfl ?_
    refine xpu (pv_neqI (a := 24) (b := 0) (q := true) rfl rfl rfl) rfl ?_
    refine xr 1 rfl ?_
    refine xju (ok_mkL (l := []) (cs := undoZ) rfl rfl) rfl ?_
    refine xr 1 rfl ?_
    refine exec_store (b := b6) (o := 0) (v := .agg undoZ.toArray) rfl rfl hB63 rfl (by decide) rfl ?_
    intro W' hu' _ hB'
    refine xr 1 rfl ?_
    exact xre hc [.agg undoZ.toArray, _] ⟨⟨b6, 0, undoZ, rfl, Blk.memAll (show Blk W' b6 undoZ from hB'), rfl, rfl⟩, rfl, trivial⟩ (.inl ⟨24, rfl, .inr (.inl ⟨rfl, hall, hnd⟩), (hE3).trans hu' (fun b hb => .inr (by simp at hb; omega))⟩)
  refine xr 6 rfl ?_
  refine xpu (pv_neqI (a := 0) (b := 0) (q := false) rfl rfl rfl) rfl ?_
  refine xr 5 rfl ?_
  refine xca rfl rfl (coming_ok A.toForJ (hF.ext hE3) (hA.upd hE3 (by simp)) (by omega) hG) ?_
  rintro v4 w4 ⟨hu4, hcase⟩
  have hE4 := hE3.trans hu4
  have hB64 := hB63.upd hu4
  have hmay : mayCome s add gl ↔ (add.Nodup ∧ ∀ h ∈ add, some h ∈ s.L → h ∈ del) := by
    refine and_congr_right fun _ => forall_congr' fun x => forall_congr' fun _ => forall_congr' fun hx => ?_
    rw [Option.isSome_iff_exists]
    constructor
    · rintro ⟨i, hi⟩; exact ((hGm x i).1 hi).1
    · intro hxd
      obtain ⟨i, hi⟩ := List.getElem?_of_mem hx
      exact ⟨i, (hGm x i).2 ⟨hxd, hi⟩⟩
  rw [hmay] at hcase
  rcases hcase with ⟨rfl, hno⟩ | ⟨cr, cl, rfl, hcr, hCr, hCm, hgrant⟩
  · refine xr 6 rfl ?_
    refine xpu (pv_neqI (a := 6) (b := 0) (q := true) rfl rfl rfl) rfl ?_
    refine xr 1 rfl ?_
    refine xju (ok_mkL (l := []) (cs := undoZ) rfl rfl) rfl ?_
    refine xr 1 rfl ?_
    refine exec_store (b := b6) (o := 0) (v := .agg undoZ.toArray) rfl rfl hB64 rfl (by decide) rfl ?_
    intro W' hu' _ hB'
    refine xr 1 rfl ?_
    exact xre hc [.agg undoZ.toArray, _] ⟨⟨b6, 0, undoZ, rfl, Blk.memAll (show Blk W' b6 undoZ from hB'), rfl, rfl⟩, rfl, trivial⟩ (.inl ⟨6, rfl, .inr (.inr ⟨rfl, hall, hnd, hno⟩), (hE4).trans hu' (fun b hb => .inr (by simp at hb; omega))⟩)
  have hGr : Granted s.L del add := ⟨hall, hnd, hgrant.1, hgrant.2⟩
  refine xr 6 rfl ?_
  refine xpu (pv_neqI (a := 0) (b := 0) (q := false) rfl rfl rfl) rfl ?_
  have z3 := hE3.size
  have z12 := hu2.size
  have z23 := hu3.size
  have z2 := hE2.size
  have hB4 := h1.upd hE4
  refine xr 5 rfl ?_
  refine xen [(0, ptrV p), (2, av), (6, ptrV b6), (8, .map (some gr)), (10, .map (some cr)), (40, ptrV p), (42, .pointer (some ⟨p, 0 + 4, none⟩))] ⟨rfl, rfl, rfl, rfl, rfl, rfl, rfl, trivial⟩ ?_
  refine exec_load1 (b := p) (o := 0 + 4) (v := intV' s.turns) rfl rfl (hB4.cell rfl) ?_
  refine xpu (pv_addI (a := s.turns) (b := 1) rfl rfl (by omega)) rfl ?_
  refine xr 2 rfl ?_
  refine exec_store (b := p) (o := 0 + 4) (v := intV' (s.turns + 1)) rfl rfl hB4 rfl (by simp) rfl ?_
  intro w5 hu5 hs5 hB5
  have hB5' : Blk w5 p [u64V s.L.length, .slice ta tl tc, .map (some m), intV' s.turn, intV' (s.turns + 1)] := hB5
  clear hB5
  have hU5 : Upd [p] w w5 := (hE4.mono (m := [p]) (by simp)).trans hu5
  have z4 := hu4.size
  have hgm : gr ≠ p ∧ gr ≠ m ∧ cr ≠ p ∧ cr ≠ m := by omega
  refine xen [(0, ptrV p), (2, av), (6, ptrV b6), (8, .map (some gr)), (10, .map (some cr))] ⟨rfl, rfl, rfl, rfl, rfl, trivial⟩ ?_
  refine exec_dw [] rfl rfl rfl ?_
  repeat (first | refine dau rfl (fun _ => rfl) ?_ | refine dga rfl (fun _ => rfl) (fun _ => rfl) ?_ | refine dgs (fun _ => rfl) ?_)
  refine dw_keep (intV' (s.turns + 1)) (fun vs X hx _ => ok_load1 (b := p) (o := 0 + 4) rfl ((hB5'.upd hx).cell rfl)) ?_
  repeat (first | refine dau rfl (fun _ => rfl) ?_ | refine dga rfl (fun _ => rfl) (fun _ => rfl) ?_ | refine dgs (fun _ => rfl) ?_)
  refine dw_keep (intV' s.turn) (fun vs X hx _ => ok_load1 (b := p) (o := 0 + 3) rfl ((hB5'.upd hx).cell rfl)) ?_
  repeat (first | refine dau rfl (fun _ => rfl) ?_ | refine dga rfl (fun _ => rfl) (fun _ => rfl) ?_ | refine dgs (fun _ => rfl) ?_)
  refine dw_keep (u64V s.L.length) (fun vs X hx _ => ok_load1 (b := p) (o := 0 + 0) rfl ((hB5'.upd hx).cell rfl)) ?_
  repeat (first | refine dau rfl (fun _ => rfl) ?_ | refine dga rfl (fun _ => rfl) (fun _ => rfl) ?_ | refine dgs (fun _ => rfl) ?_)
  refine dw_keep (.slice ta tl tc) (fun vs X hx _ => ok_load1 (b := p) (o := 0 + 1) rfl ((hB5'.upd hx).cell rfl)) ?_
  repeat (first | refine dau rfl (fun _ => rfl) ?_ | refine dga rfl (fun _ => rfl) (fun _ => rfl) ?_ | refine dgs (fun _ => rfl) ?_)
  refine dw_keep (.agg (undoC p (s.turns + 1) s.turn s.L.length (.slice ta tl tc) gr cr).toArray) (fun vs X hx _ => ok_mkL (l := [(0, 1, ptrV p), (1, 1, intV' (s.turns + 1)), (2, 1, intV' s.turn), (3, 1, u64V s.L.length), (4, 1, .slice ta tl tc), (5, 1, .map (some gr)), (6, 1, .map (some cr))]) (cs := undoC p (s.turns + 1) s.turn s.L.length (.slice ta tl tc) gr cr) rfl rfl) ?_
  refine dw_rel [] (fun W _ v => ∃ b, v = ptrV b ∧ Blk W b undoZ ∧ w5.heap.size ≤ b) rfl ?_ ?_ ?_
  · rintro X X' xs v h1 h2 ⟨b, rfl, h3, h4⟩
    exact ⟨b, rfl, h3.upd h2, h4⟩
  · intro vs X hx _
    refine ok_new.mono ?_
    rintro v X' ⟨b, rfl, q1, q2, q3⟩
    have := hx.size
    exact ⟨q3, b, rfl, q1, by omega⟩
  refine dw_end fun vs w6 hu6 hf => ?_
  obtain ⟨⟨b11, hv11, hB11, hb11⟩, _⟩ := hf
  refine xen [(0, ptrV p), (2, av), (6, ptrV b6), (8, .map (some gr)), (10, .map (some cr)), (11, ptrV b11), (66, .agg (undoC p (s.turns + 1) s.turn s.L.length (.slice ta tl tc) gr cr).toArray)] ⟨rfl, rfl, rfl, rfl, rfl, by show some (vs 20) = _; rw [hv11], rfl, trivial⟩ ?_
  refine exec_store (b := b11) (o := 0) (v := .agg (undoC p (s.turns + 1) s.turn s.L.length (.slice ta tl tc) gr cr).toArray) rfl rfl hB11 rfl (by decide) rfl ?_
  intro w7 hu7 hs7 hB11n
  have hB11' : Blk w7 b11 (undoC p (s.turns + 1) s.turn s.L.length (.slice ta tl tc) gr cr) := hB11n
  clear hB11n
  have z5 := hU5.size
  have hU7 : Upd [p] w w7 := (hU5.trans hu6).trans hu7 (fun b hb => .inr (by simp at hb; omega))
  have hW57 : Ext w5 w7 := hu6.trans hu7 (fun b hb => .inr (by simp at hb; omega))
  have hB7 := hB5'.upd hW57
  have hU47 : Upd [p] w4 w7 := hu5.trans hW57
  have z47 := hU47.size
  have hG7 : MapAt w7 gr hV u64V gl := (hG.upd hu4).upd hU47 (by simp; omega)
  have hC7 : MapAt w7 cr hV u64V cl := hCr.upd hU47 (by simp; omega)
  have hB67 : Blk w7 b6 undoZ := hB64.upd hU47 (by simp; omega)
  refine xen [(0, ptrV p), (2, av), (6, ptrV b6), (8, .map (some gr)), (10, .map (some cr)), (11, ptrV b11)] ⟨rfl, rfl, rfl, rfl, rfl, rfl, trivial⟩ ?_
  refine exec_dw [] rfl rfl rfl ?_
  repeat (first | refine dau rfl (fun _ => rfl) ?_ | refine dga rfl (fun _ => rfl) (fun _ => rfl) ?_ | refine dgs (fun _ => rfl) ?_)
  refine dw_keep (.slice ta tl tc) (fun vs X hx _ => ok_load1 (b := p) (o := 0 + 1) rfl ((hB7.upd hx).cell rfl)) ?_
  repeat (first | refine dau rfl (fun _ => rfl) ?_ | refine dga rfl (fun _ => rfl) (fun _ => rfl) ?_ | refine dgs (fun _ => rfl) ?_)
  refine dw_rel [] (fun X _ v => ∃ bs, v = .func (.func A.valsH1) #[] #[ptrV bs] ∧ Blk X bs [.map (some gr)]) rfl ?_ ?_ ?_
  · rintro X X' xs v q1 q2 ⟨b, rfl, q3⟩
    exact ⟨b, rfl, q3.upd q2⟩
  · intro vs X hx _
    refine (ok_call rfl (valsH_ok A.toForK)).mono ?_
    rintro v X' ⟨rfl, q1, q2⟩
    exact ⟨q2, _, rfl, q1⟩
  refine dw_rel [] (fun X _ v => SlC X v 1 (sortN (gl.map Prod.snd)).length ((sortN (gl.map Prod.snd)).map u64V)) rfl (fun X X' xs u _ hu h => h.upd hu (by simp)) ?_ ?_
  · intro vs X hx hd'
    obtain ⟨⟨bs, hvs, hbs⟩, _⟩ := hd'
    have hret := sortedVals_ok A.toForK hbs (hG7.upd hx) (by omega)
    rw [← hvs] at hret
    refine (ok_call rfl hret).mono ?_
    rintro v X' ⟨q1, q2, q3⟩
    exact ⟨q2, q1.sl⟩
  refine dw_end fun vs2 w8 hu8 hf => ?_
  obtain ⟨hS8, _⟩ := hf
  generalize hv6 : vs2 6 = sl at hS8
  refine xen [(0, ptrV p), (2, av), (6, ptrV b6), (8, .map (some gr)), (10, .map (some cr)), (11, ptrV b11), (70, .slice ta tl tc), (73, sl)] ⟨rfl, rfl, rfl, rfl, rfl, rfl, rfl, by show some (vs2 6) = _; rw [hv6], trivial⟩ ?_
  have hU8 : Upd [p] w w8 := hU7.trans hu8
  have hW08 : Upd [p, m] w w8 := hU8.mono (fun b hb => by simp at hb; simp [hb])
  have hfp : Foreign w [p] := fun b hb => hfor b (by simp at hb; simp [hb])
  have hT8 : Tabs A.toShaF w8 := hT.upd hW08 htab.1 htab.2
  have h28 : TreesF w8 (.slice ta tl tc) (treesT parH (lv s.L) s.L.length) := h2.upd hU8 hfp
  have h63 : s.L.length < 2 ^ 63 := by omega
  have hlenT := treesT_len parH (L := lv s.L) h63
  have hgone : ∀ x, x ∈ sortN (gl.map Prod.snd) ↔ ∃ h, h ∈ del ∧ s.L[x]? = some (some h) := by
    intro x
    rw [(sortN_perm _).mem_iff, List.mem_map]
    constructor
    · rintro ⟨⟨h, i⟩, hm, rfl⟩
      exact ⟨h, (hGm h i).1 (mem_aget hG7.nodup hm)⟩
    · rintro ⟨h, hh⟩
      exact ⟨(h, x), aget_mem ((hGm h x).2 hh), rfl⟩
  have hdelT : (treesT parH (lv s.L) s.L.length).map (delT (sortN (gl.map Prod.snd))) = treesT parH (lv (goneL del s.L)) s.L.length := by
    rw [treesT, treesT, List.map_map]
    refine List.map_congr_left fun k _ => ?_
    simp only [Function.comp, delT, partOf']
    rw [lv_eq, lv_eq, gone_tree parH hgone]
  refine xca rfl rfl (deleted_ok A.toForH hT8 h28.own.sl (by omega) hS8 (sortN_sorted _) ?_ ?_ ?_) ?_
  · rw [(sortN_perm _).length_eq, List.length_map]; omega
  · intro t htm h0
    obtain ⟨k, rfl, _⟩ := treesT_mem parH h5 htm
    exact none_part parH (fun x hx => by obtain ⟨h, _, hh⟩ := (hgone x).1 hx; exact ⟨h, hh⟩) h0
  · intro t htm
    obtain ⟨k, rfl, q1, q2⟩ := treesT_mem parH h5 htm
    exact ⟨by show firstN _ k + 2 ^ k < _; omega, by show k < 63; omega⟩
  rintro v9 w9 ⟨hO9, hu9, hf9, hn9⟩
  rw [hdelT] at hO9
  refine xr 2 rfl ?_
  refine xen [(0, ptrV p), (75, av), (6, ptrV b6), (8, .map (some gr)), (10, .map (some cr)), (11, ptrV b11), (12, v9)] ⟨rfl, rfl, rfl, rfl, rfl, rfl, rfl, trivial⟩ ?_
  have z8 := hU8.size
  have z78 := hu8.size
  refine xpu (hA.lenS rfl) rfl ?_
  refine xr 2 rfl ?_
  refine xlo (S := Nat × Value) (fun st W => st.1 ≤ add.length ∧ Blk W p [u64V (s.L.length + st.1), .slice ta tl tc, .map (some m), intV' s.turn, intV' (s.turns + 1)] ∧ TreesOwn W st.2 (treesT parH (lv (midL del add s.L st.1)) (s.L.length + st.1)) ∧ Upd [p] w8 W ∧ (∀ b ∈ blkOf st.2, w8.heap.size ≤ b) ∧ (s.L.length + st.1 = 0 → st.2 = .slice none 0 0))
    (fun st => [(0, ptrV p), (75, av), (76, intV' add.length), (77, intV' st.1), (6, ptrV b6), (8, .map (some gr)), (10, .map (some cr)), (11, ptrV b11), (12, st.2)]) (fun st => add.length - st.1) (0, v9)
    ⟨Nat.zero_le _, (hB7.upd hu8).upd hu9, by simpa [midL] using hO9, hu9.mono (by simp), hf9, fun h0 => hn9 (h2.nil (by
      have h00 : s.L.length = 0 := h0
      rw [h00]; rfl))⟩ ⟨rfl, rfl, rfl, rfl, rfl, rfl, rfl, rfl, rfl, trivial⟩ ?_
  rintro ⟨i, v⟩ W ⟨i1, iB, iO, iU, iF, iN⟩
  simp only at i1 iB iO iF iN
  skip
  by_cases hi : i < add.length
  · refine xpu (pv_lssI (a := i) (b := add.length) (q := true) rfl rfl (by simpa using hi)) rfl ?_
    refine xr 3 rfl ?_
    obtain ⟨hh, hhi⟩ : ∃ x, add[i]? = some x := ⟨_, List.getElem?_eq_getElem hi⟩
    obtain ⟨bd, od, cd, hdv, _, hmd⟩ := hs_at hA hhi
    have hbdp : bd ≠ p := by
      intro he
      have := hmd 31 _ (List.getElem?_eq_getElem (by rw [hC_length]; omega))
      rw [he, h1.over (by simp)] at this; cases this
    refine xju (ok_iaddr (N := 32) (b := bd) (o := od) (len := add.length) (cap := cd) (by rw [← hdv]; rfl) rfl i rfl hi) rfl ?_
    have hpW : Upd [p] w W := hU8.trans iU
    refine exec_loadN (b := bd) (o := od + i * 32) (vs := hC hh) rfl rfl (hmd.upd hpW (by simpa using hbdp)) (hC_length _) ?_
    refine exec_new_store (v := hV hh) rfl rfl rfl (hV_size hh) rfl (by rw [hV_cells]; exact hC_cell _) ?_
    intro b14 W1 hb14 hs14 hw1 hB14
    rw [hV_cells] at hB14
    refine xen [(0, ptrV p), (75, av), (76, intV' add.length), (77, intV' i), (6, ptrV b6), (8, .map (some gr)), (10, .map (some cr)), (11, ptrV b11), (12, v), (14, ptrV b14)] ⟨rfl, rfl, rfl, rfl, rfl, rfl, rfl, rfl, rfl, rfl, trivial⟩ ?_
    refine exec_dwr rfl rfl rfl ?_
    repeat (first | refine wtm rfl rfl rfl ?_ | refine wgt rfl rfl rfl rfl ?_ | refine wgs rfl rfl ?_)
    refine ws_keep (hV hh) rfl (fun X hx => ok_loadN (b := b14) (o := 0) rfl (hB14.upd hx).memAll (hC_length _)) ?_
    repeat (first | refine wtm rfl rfl rfl ?_ | refine wgt rfl rfl rfl rfl ?_ | refine wgs rfl rfl ?_)
    refine ws_keep (u64V (s.L.length + i)) rfl (fun X hx => ok_load1 (b := p) (o := 0 + 0) rfl (((iB.upd hw1).upd hx).cell rfl)) ?_
    refine ws_fin fun W2 hw2 => ?_
    have hpW2 : Upd [p] w W2 := (hpW.trans hw1).trans hw2
    have hTW : Tabs A.toShaF W2 := hT.upd (hpW2.mono (m := [p, m]) (fun b hb => by simp at hb; simp [hb])) htab.1 htab.2
    have hml := midL_len (del := del) (L := s.L) i1
    have hn63 : s.L.length + i < 2 ^ 63 := by omega
    refine xca rfl rfl (grown_ok A.toForI hTW hh (s.L.length + i) ((iO.ext hw1).ext hw2) (Nat.lt_of_le_of_lt (treesT_len parH hn63) (by omega)) (by omega) ?_) ?_
    · intro t htm
      obtain ⟨k, rfl, q1, q2⟩ := treesT_mem parH (by omega) htm
      have : 0 < 2 ^ k := Nat.pow_pos (by omega)
      exact ⟨by show firstN _ k < _; omega, by show k < 62; omega⟩
    rintro v3 W3 ⟨hO3, hu3, hf3⟩
    have hgrow : (growT parH (treesT parH (lv (midL del add s.L i)) (s.L.length + i)).reverse (some (.leaf hh), s.L.length + i, 0)).reverse = treesT parH (lv (midL del add s.L (i + 1))) (s.L.length + (i + 1)) := by
      have := grow_one parH (L := midL del add s.L i) (h := hh) (by omega)
      rw [hml] at this
      rw [lv_eq, lv_eq, midL_next hhi, this, Nat.add_assoc]
    rw [hgrow] at hO3
    have zW := iU.size
    have zW1 := hw1.size
    have zW2 := hw2.size
    have hpv : p ∉ blkOf v := fun hm => by have := iF p hm; omega
    have iB3 : Blk W3 p [u64V (s.L.length + i), .slice ta tl tc, .map (some m), intV' s.turn, intV' (s.turns + 1)] := ((iB.upd hw1).upd hw2).upd hu3 hpv
    refine xr 4 rfl ?_
    refine exec_load1 (b := p) (o := 0 + 0) (v := u64V (s.L.length + i)) rfl rfl (iB3.cell rfl) ?_
    refine xpu (pv_addU (a := s.L.length + i) (b := 1) rfl rfl (by omega)) rfl ?_
    refine xr 2 rfl ?_
    refine exec_store (b := p) (o := 0 + 0) (v := u64V (s.L.length + i + 1)) rfl rfl iB3 rfl (by simp) rfl ?_
    intro W4 hu4' _ hB4'
    have hB4'' : Blk W4 p [u64V (s.L.length + (i + 1)), .slice ta tl tc, .map (some m), intV' s.turn, intV' (s.turns + 1)] := hB4'
    clear hB4'
    refine xr 2 rfl ?_
    refine xpu (pv_addI (a := i) (b := 1) rfl rfl (by omega)) rfl ?_
    refine xr 1 rfl ?_
    have hU83 : Upd [p] w8 W3 := ((iU.trans hw1).trans hw2).trans hu3 (fun b hb => .inr (iF b hb))
    refine xag (i + 1, v3) ⟨hi, hB4'', hO3.updB hu4' ?_ ?_, hU83.trans hu4', fun b hb => ?_, fun h0 => by have : s.L.length + (i + 1) = 0 := h0; omega⟩ (by show add.length - (i + 1) < add.length - i; omega) ⟨rfl, rfl, rfl, rfl, rfl, rfl, rfl, rfl, rfl, trivial⟩
    · exact NoNode.of iB3 (by simp)
    · intro b hb hm
      have : w8.heap.size ≤ b := by
        rcases hf3 b hb with h | h
        · exact iF b h
        · omega
      simp at hm; omega
    · rcases hf3 b hb with h | h
      · exact iF b h
      · omega
  · refine xpu (pv_lssI (a := i) (b := add.length) (q := false) rfl rfl (by simpa using hi)) rfl ?_
    have : i = add.length := by omega
    subst this
    refine xr 3 rfl ?_
    obtain ⟨na, nl, nc, rfl⟩ := iO.val
    have hmod : midL del add s.L add.length = modL del add s.L := by rw [midL, List.take_length, modL]
    rw [hmod] at iO
    have hpW : Upd [p] w W := hU8.trans iU
    have hW7 : Upd [p] w7 W := (hu8.mono (by simp)).trans iU
    have iB11 : Blk W b11 (undoC p (s.turns + 1) s.turn s.L.length (.slice ta tl tc) gr cr) := hB11'.upd hW7 (by simp; omega)
    have hb11p : b11 ≠ p := by omega
    refine exec_dws [p] 7 (fun X => Blk X p [u64V (s.L.length + add.length), .slice na nl nc, .map (some m), intV' s.turn, intV' (s.turns + 1)]) (fun X X' h hu => h.upd hu) rfl rfl rfl ?_
    repeat (first | refine wtm rfl rfl rfl ?_ | refine wgt rfl rfl rfl rfl ?_ | refine wgs rfl rfl ?_)
    refine ws_upd (intV' (s.turns + 1)) rfl (fun X hx => ok_load1 (b := b11) (o := 0 + 1) rfl ((iB11.upd hx (by simpa using hb11p)).cell rfl)) ?_
    repeat (first | refine wtm rfl rfl rfl ?_ | refine wgt rfl rfl rfl rfl ?_ | refine wgs rfl rfl ?_)
    refine ws_store (B := p) (o := 0 + 1) rfl rfl rfl iB rfl (by simp) rfl (by simp) (fun X h => h) ?_
    refine ws_end fun X hx hX => ?_
    have hX' := hX rfl
    clear hX
    refine xr 2 rfl ?_
    refine exec_store (b := p) (o := 0 + 3) (v := intV' (s.turns + 1)) rfl rfl hX' rfl (by simp) rfl ?_
    intro Y hy _ hY
    have hY' : Blk Y p [u64V (s.L.length + add.length), .slice na nl nc, .map (some m), intV' (s.turns + 1), intV' (s.turns + 1)] := hY
    clear hY
    refine xr 3 rfl ?_
    have hWY : Upd [p] W Y := hx.trans hy
    have h7Y : Upd [p] w7 Y := hW7.trans hWY
    have hwY : Upd [p] w Y := hpW.trans hWY
    refine xca rfl rfl (change_ok A.toForK hY' ((h3.upd hwY (by simp; omega))) (hG7.upd h7Y (by simp; omega)) (hC7.upd h7Y (by simp; omega)) (by omega) (by omega)) ?_
    rintro _ Z ⟨l2, hM2, hl2, huZ⟩
    skip
    refine exec_loadN (b := b11) (o := 0) (vs := undoC p (s.turns + 1) s.turn s.L.length (.slice ta tl tc) gr cr) rfl rfl (((iB11.upd hWY (by simpa using hb11p)).upd huZ (by simp; omega)).memAll) rfl ?_
    refine exec_store (b := b6) (o := 0) (v := .agg (undoC p (s.turns + 1) s.turn s.L.length (.slice ta tl tc) gr cr).toArray) rfl rfl ((hB67.upd h7Y (by simp; omega)).upd huZ (by simp; omega)) rfl (by decide) rfl ?_
    intro V huV _ hB6V
    have hB6V' : Blk V b6 (undoC p (s.turns + 1) s.turn s.L.length (.slice ta tl tc) gr cr) := hB6V
    clear hB6V
    refine xr 1 rfl ?_
    have hYV : Upd [m, b6] Y V := (huZ.mono (by simp)).trans huV
    have hwV : Upd [p, m] w V := ((hwY.mono (m := [p, m]) (by simp)).trans huZ).trans huV (fun b hb => .inr (by simp at hb; omega))
    have hnc : NoNode Y [m, b6] := by
      refine Foreign.noNode (Foreign.cons (Foreign.map (h3.upd hwY (by simp; omega))) (Foreign.cons (Foreign.blk (hB67.upd h7Y (by simp; omega)) (Strange.two (by simp) (by simp [intV']))) (Foreign.nil _)))
    have hpY : NoNode W [p] := NoNode.of iB (by simp)
    have hnew : treesT parH (lv (modL del add s.L)) (s.L.length + add.length) = [] → s.L.length + add.length = 0 := by
      intro he
      rcases Nat.eq_zero_or_pos (s.L.length + add.length) with h0 | h0
      · exact h0
      · obtain ⟨t, ht, _⟩ := find_tree parH (L := lv (modL del add s.L)) (n := s.L.length + add.length) (x := 0) (by omega) h0
        rw [he] at ht; simp at ht
    refine xre hc [.agg (undoC p (s.turns + 1) s.turn s.L.length (.slice ta tl tc) gr cr).toArray, _] ⟨⟨b6, 0, _, rfl, hB6V'.memAll, rfl, rfl⟩, rfl, trivial⟩ (.inr ⟨_, rfl, hGr, ⟨⟨.slice na nl nc, l2, ?_, ?_, ?_, ?_⟩, ?_, ?_⟩, ⟨⟨.slice ta tl tc, gr, cr, gl, cl, rfl, ?_, ?_, ?_, hGm, hCm, hgm⟩, hl, h7⟩, hwV⟩)
    · rw [modL_len]
      exact hY'.upd hYV (by simp; omega)
    · rw [modL_len]
      refine ⟨(iO.updB hWY hpY (fun b hb hm => by have := iF b hb; simp at hm; omega)).updB hYV hnc (fun b hb hm => by have := iF b hb; simp at hm; omega), fun he => iN (hnew he)⟩
    · exact hM2.upd huV (by simp; omega)
    · exact where_mod h4 hGm hCm hGr hl2
    · rw [modL_len]; exact hl
    · exact ⟨ht, ht⟩
    · exact h2.upd hwV hfor
    · exact (hG7.upd h7Y (by simp; omega)).upd hYV (by simp; omega)
    · exact (hC7.upd h7Y (by simp; omega)).upd hYV (by simp; omega)
theorem UAt.cells {u : Value} {p m : Nat} {s : Fo} {t : Nat} {del add : List Hash} (h : UAt w u p m s t del add) : u.cells.size = 7 ∧ u.cells.toList.all cellValue = true := by
  obtain ⟨⟨tv, gr, cr, gl, cl, rfl, h2, _⟩, _⟩ := h
  obtain ⟨a, l, c, rfl⟩ := h2.own.val
  exact ⟨rfl, rfl⟩
end
end Go.Sp


namespace Go.Sp
/-- the functions of forest, on -/
structure ForM (P : Program) extends ForL P where
  new' : Nat
  root' : Nat
  rows' : Nat
  index : Nat
  where1 : Nat
  TFo : Nat
  TRt : Nat
  TW1 : Nat
  h_new : Has P new' (b_forest_New TFo)
  h_root : Has P root' (b_Pforest_Forest_root nf.root TRt)
  h_rows : Has P rows' (b_Pforest_Forest_rows nf.rows)
  h_index : Has P index b_slices_IndexFunc_forest_tree_forest_tree
  h_where1 : Has P where1 (b_Pforest_Forest_Where_1 size TW1)
theorem optV_eq (f : Nat → Value) (o : Option Nat) : optV f o = .tuple #[f (o.getD 0), .bool o.isSome] := by cases o <;> rfl
section
variable {P : Program} {f : Nat} {w : World}
theorem new_ok (A : ForM P) : Ret P A.new' [] w fun v w' => ∃ p m, v = ptrV p ∧ w.heap.size ≤ p ∧ w.heap.size ≤ m ∧ FAt w' p m ⟨[], 0, 0⟩ ∧ Ext w w' := by
  refine Ret.of_exec A.h_new (Nat.le_of_ble_eq_true rfl) fun c hc => ?_
  dsimp only [b_forest_New, argEnv, ym, yo, yg, ys, yt, yd, ye]
  refine xr 1 rfl ?_
  refine exec_mkMap rfl ?_
  intro r w1 hr hs1 hu1 hM
  refine xju (ok_mkL (l := [(2, 1, .map (some r))]) (cs := [u64V 0, .slice none 0 0, .map (some r), intV' 0, intV' 0]) rfl rfl) rfl ?_
  refine exec_box rfl rfl ?_
  intro p w2 hp hs2 hu2 hB
  refine xr 1 rfl ?_
  refine xre hc [_] ⟨rfl, trivial⟩ ⟨p, r, rfl, by omega, by omega, ⟨⟨.slice none 0 0, [], hB, ⟨⟨[], ⟨rfl, fun i v t h => by simp at h⟩, .inl ⟨rfl, rfl, rfl⟩⟩, fun _ => rfl⟩, (MapAt.empty hM).upd hu2, ?_⟩, by simp, by simp⟩, hu1.trans hu2⟩
  intro h i
  simp [aget]
theorem rows'_ok (A : ForM P) {p m : Nat} {s : Fo} (h : FAt w p m s) : RetV P A.rows' [ptrV p] w (intV' (rowsN s.L.length)) := by
  have hl := h.len
  obtain ⟨⟨tv, wl, h1, _⟩, _⟩ := h
  refine Ret.of_exec A.h_rows (Nat.le_of_ble_eq_true rfl) fun c hc => ?_
  dsimp only [b_Pforest_Forest_rows, argEnv, ym, yo, yg, ys, yt, yd, ye]
  refine xr 4 rfl ?_
  refine exec_load1 (b := p) (o := 0 + 0) rfl rfl (h1.cell rfl) ?_
  refine xca rfl rfl (rows_ok A.nf.toPosF s.L.length (by omega)) ?_
  rintro _ w1 ⟨rfl, hu1⟩
  rw [if_pos (by omega)]
  refine xr 7 rfl ?_
  exact xre hc [_] ⟨rfl, trivial⟩ ⟨rfl, hu1⟩
theorem root'_ok (A : ForM P) {p m : Nat} {s : Fo} (h : FAt w p m s) (u : Value) (fst hi : Nat) (hh : hi < 2 ^ 60) : RetV P A.root' [ptrV p, .agg #[u, u64V fst, intV' hi]] w (u64V ((rootN s.L.length hi).getD 0)) := by
  have hl := h.len
  obtain ⟨⟨tv, wl, h1, _⟩, _⟩ := h
  refine Ret.of_exec A.h_root (Nat.le_of_ble_eq_true rfl) fun c hc => ?_
  dsimp only [b_Pforest_Forest_root, argEnv, ym, yo, yg, ys, yt, yd, ye]
  refine exec_box rfl rfl ?_
  intro b3 w1 hb3 hs1 hu1 hB3
  have hB3' : Blk w1 b3 [u, u64V fst, intV' hi] := by simpa [Value.cells] using hB3
  refine xr 1 rfl ?_
  refine exec_dwr rfl rfl rfl ?_
  repeat (first | refine wtm rfl rfl rfl ?_ | refine wgt rfl rfl rfl rfl ?_ | refine wgs rfl rfl ?_)
  refine ws_keep (u64V s.L.length) rfl (fun X hx => ok_load1 (b := p) (o := 0 + 0) rfl (((h1.upd hu1).upd hx).cell rfl)) ?_
  repeat (first | refine wtm rfl rfl rfl ?_ | refine wgt rfl rfl rfl rfl ?_ | refine wgs rfl rfl ?_)
  refine ws_keep (intV' hi) rfl (fun X hx => ok_load1 (b := b3) (o := 0 + 2) rfl ((hB3'.upd hx).cell rfl)) ?_
  refine ws_ext (.tuple #[u64V ((rootN s.L.length hi).getD 0), .bool (rootN s.L.length hi).isSome]) rfl (fun X hx => ok_call rfl (by rw [← optV_eq]; exact root_ok A.nf.toPosF s.L.length hi (by omega) (by omega))) ?_
  repeat (first | refine wtm rfl rfl rfl ?_ | refine wgt rfl rfl rfl rfl ?_ | refine wgs rfl rfl ?_)
  refine ws_fin fun w2 hw2 => ?_
  refine xr 3 rfl ?_
  exact xre hc [_] ⟨rfl, trivial⟩ ⟨rfl, hu1.trans hw2⟩
theorem where1_ok (A : ForM P) {bx x : Nat} (hx : x < 2 ^ 63) (hB : Blk w bx [u64V x]) (u : Value) (t : TT Hash) (ht : t.2.1 + 2 ^ t.2.2 < 2 ^ 63 ∧ t.2.2 < 63) : RetV P A.where1 [.agg #[u, u64V t.2.1, intV' t.2.2], ptrV bx] w (.bool (inT x t)) := by
  obtain ⟨t1, t2⟩ := ht
  refine Ret.of_exec A.h_where1 (Nat.le_of_ble_eq_true rfl) fun c hc => ?_
  dsimp only [b_Pforest_Forest_Where_1, argEnv, ym, yo, yg, ys, yt, yd, ye]
  refine exec_box rfl rfl ?_
  intro b2 w1 hb2 hs1 hu1 hB2
  have hB2' : Blk w1 b2 [u, u64V t.2.1, intV' t.2.2] := by simpa [Value.cells] using hB2
  refine xr 1 rfl ?_
  have hBx := hB.upd hu1
  have hp : 2 ^ t.2.2 < 2 ^ 63 := by omega
  by_cases hle : t.2.1 ≤ x
  · refine exec_dwr rfl rfl rfl ?_
    refine ws_keep (u64V x) rfl (fun X hx => ok_load1 (b := bx) (o := 0) rfl ((hBx.upd hx).cell rfl)) ?_
    repeat (first | refine wtm rfl rfl rfl ?_ | refine wgt rfl rfl rfl rfl ?_ | refine wgs rfl rfl ?_)
    refine ws_keep (u64V t.2.1) rfl (fun X hx => ok_load1 (b := b2) (o := 0 + 1) rfl ((hB2'.upd hx).cell rfl)) ?_
    refine ws_val rfl (pv_geqI (a := x) (b := t.2.1) (q := true) rfl rfl (by simpa using hle)) ?_
    repeat (first | refine wtm rfl rfl rfl ?_ | refine wgt rfl rfl rfl rfl ?_ | refine wgs rfl rfl ?_)
    refine ws_gkeep (u64V x) rfl rfl (fun X hx => ok_load1 (b := bx) (o := 0) rfl ((hBx.upd hx).cell rfl)) ?_
    repeat (first | refine wtm rfl rfl rfl ?_ | refine wgt rfl rfl rfl rfl ?_ | refine wgs rfl rfl ?_)
    refine ws_gkeep (u64V t.2.1) rfl rfl (fun X hx => ok_load1 (b := b2) (o := 0 + 1) rfl ((hB2'.upd hx).cell rfl)) ?_
    refine ws_gval rfl rfl (pv_subU (a := x) (b := t.2.1) rfl rfl hle (by omega)) ?_
    refine ws_gkeep (.agg #[u, u64V t.2.1, intV' t.2.2]) rfl rfl (fun X hx => ok_loadN (b := b2) (o := 0) (vs := [u, u64V t.2.1, intV' t.2.2]) rfl (hB2'.upd hx).memAll rfl) ?_
    refine ws_gext (u64V (2 ^ t.2.2)) rfl rfl (fun X hx => ok_call rfl (treeSize_ok A.toForH u t (by omega))) ?_
    refine ws_fin fun w2 hw2 => ?_
    refine xgr rfl ?_
    refine xpu (pv_lssI (a := x - t.2.1) (b := 2 ^ t.2.2) (q := inT x t) rfl rfl (by simp [inT, hle])) rfl ?_
    refine xr 2 rfl ?_
    exact xre hc [_] ⟨rfl, trivial⟩ ⟨rfl, hu1.trans hw2⟩
  · refine exec_dwr rfl rfl rfl ?_
    refine ws_keep (u64V x) rfl (fun X hx => ok_load1 (b := bx) (o := 0) rfl ((hBx.upd hx).cell rfl)) ?_
    repeat (first | refine wtm rfl rfl rfl ?_ | refine wgt rfl rfl rfl rfl ?_ | refine wgs rfl rfl ?_)
    refine ws_keep (u64V t.2.1) rfl (fun X hx => ok_load1 (b := b2) (o := 0 + 1) rfl ((hB2'.upd hx).cell rfl)) ?_
    refine ws_val rfl (pv_geqI (a := x) (b := t.2.1) (q := false) rfl rfl (by simpa using hle)) ?_
    repeat (first | refine wtm rfl rfl rfl ?_ | refine wgt rfl rfl rfl rfl ?_ | refine wgs rfl rfl ?_)
    refine ws_fin fun w2 hw2 => ?_
    refine xr 3 rfl ?_
    refine xre hc [_] ⟨rfl, trivial⟩ ⟨?_, hu1.trans hw2⟩
    simp [single, inT, hle]
/-- slices.IndexFunc of trees -/
theorem indexT_ok (A : ForM P) {sv : Value} {ts : List (TT Hash)} (h : TreesAt w sv ts) (hl : ts.length < 2 ^ 30) {g : Nat} {cs : List Value} {q : TT Hash → Bool} (hg : Enters P g)
    (hq : ∀ W u t, Ext w W → t ∈ ts → RetV P g (.agg #[u, u64V t.2.1, intV' t.2.2] :: cs) W (.bool (q t))) :
    Ret P A.index [sv, .func (.func g) #[] cs.toArray] w fun v w' => Ext w w' ∧ ((v = .int .i64 (-1) ∧ ∀ t ∈ ts, q t = false) ∨ ∃ i t, v = intV' i ∧ ts[i]? = some t ∧ ts.find? q = some t) := by
  obtain ⟨vs, hR, hS⟩ := h
  refine Ret.of_exec A.h_index (Nat.le_of_ble_eq_true rfl) fun c hc => ?_
  dsimp only [b_slices_IndexFunc_forest_tree_forest_tree, argEnv, ym, yo, yg, ys, yt, yd, ye]
  refine xtm rfl rfl rfl ?_
  refine xtm rfl rfl rfl ?_
  refine xpu (hS.lenS rfl) rfl ?_
  refine xr 2 rfl ?_
  refine xlo (S := Nat) (fun i W => i ≤ ts.length ∧ Ext w W ∧ (ts.take i).find? q = none)
    (fun i => [(0, sv), (1, .func (.func g) #[] cs.toArray), (7, intV' ts.length), (8, intV' i)]) (fun i => ts.length - i) 0
    ⟨Nat.zero_le _, Upd.refl _ _, rfl⟩ ⟨rfl, rfl, rfl, rfl, trivial⟩ ?_
  rintro i W ⟨i1, iU, iF⟩
  skip
  by_cases hi : i < ts.length
  · refine xpu (pv_lssI (a := i) (b := ts.length) (q := true) rfl rfl (by simpa using hi)) rfl ?_
    refine xr 8 rfl ?_
    obtain ⟨t, ht⟩ : ∃ t, ts[i]? = some t := ⟨_, List.getElem?_eq_getElem hi⟩
    obtain ⟨u, hu⟩ : ∃ u, vs[i]? = some u := ⟨_, List.getElem?_eq_getElem (by rw [hR.len]; omega)⟩
    obtain ⟨g0, g1, g2⟩ := cellsT_get vs ts i u t hu ht
    obtain ⟨b, o, cap, hv, hm, _⟩ := hS.at (by omega)
    refine xju (ok_iaddr (N := 3) (b := b) (o := o) (len := ts.length) (cap := cap) (by rw [← hv]; rfl) rfl i rfl hi) rfl ?_
    have hM3 : Mem W b (o + i * 3) [u, u64V t.2.1, intV' t.2.2] := (hm.upd iU (by simp)).sub (i * 3) (us := [u, u64V t.2.1, intV' t.2.2]) (fun k x hk => by
      match k, hk with
      | 0, hk => cases hk; exact g0
      | 1, hk => cases hk; exact g1
      | 2, hk => cases hk; exact g2)
    refine exec_loadN (b := b) (o := o + i * 3) (vs := [u, u64V t.2.1, intV' t.2.2]) rfl rfl hM3 rfl ?_
    refine exec_callv (f := g) (fs := #[]) (cs := cs.toArray) rfl rfl rfl hg (hq W u t iU (List.mem_of_getElem? ht)) ?_
    rintro _ W1 ⟨rfl, hw1⟩
    have htk : ts.take (i + 1) = ts.take i ++ [t] := by rw [List.take_add_one, ht]; rfl
    refine exec_cond rfl (fun hqt => ?_) (fun hqt => ?_)
    · refine xr 2 rfl ?_
      refine xre hc [_] ⟨rfl, trivial⟩ ⟨iU.trans hw1, .inr ⟨i, t, rfl, ht, ?_⟩⟩
      rw [← List.take_append_drop (i + 1) ts, htk, List.append_assoc, List.find?_append, iF]
      simp [hqt]
    · refine xr 3 rfl ?_
      refine xpu (pv_addI (a := i) (b := 1) rfl rfl (by omega)) rfl ?_
      refine xr 1 rfl ?_
      refine xag (i + 1) ⟨hi, iU.trans hw1, ?_⟩ (by show ts.length - (i + 1) < ts.length - i; omega) ⟨rfl, rfl, rfl, rfl, trivial⟩
      rw [htk, List.find?_append, iF]
      simp [hqt]
  · refine xpu (pv_lssI (a := i) (b := ts.length) (q := false) rfl rfl (by simpa using hi)) rfl ?_
    have : i = ts.length := by omega
    subst this
    refine xr 4 rfl ?_
    refine xre hc [_] ⟨rfl, trivial⟩ ⟨iU, .inl ⟨rfl, fun t ht => ?_⟩⟩
    rw [List.take_length, List.find?_eq_none] at iF
    simpa using iF t ht
end
end Go.Sp

namespace Go.Sp
def DR.goodQ (Rel : World → World → Prop) (w : World) (deps : List Nat) : DR → Prop
  | .val _ => True
  | .rel js R => js.all (fun j => deps.contains j) = true ∧ ∀ W W' xs v, Rel w W → Rel W W' → R W xs v → R W' xs v
def QWL (P : Program) (Rel : World → World → Prop) (ds : List DOp) (e : Env) (w : World) (Fin : List DR → Prop) : List DR → List DOp → Prop
  | done, [] => Fin done
  | done, (deps, g, _, m) :: r => ∃ x : DR, x.goodQ Rel w deps ∧
      (∀ (vs : Nat → Value) (W : World), Rel w W → depFacts done W vs deps → DStep P Rel g m (envD ds done vs deps ++ keepEnv ds done.length e) W fun W' v => x.get W' vs v) ∧
      QWL P Rel ds e w Fin (done ++ [x]) r
def FinQD (P : Program) (n : Nat) (c : Ctx) (D : List Deferred) (is : List Ins) (k : Kont) (Rel : World → World → Prop) (ds : List DOp) (e : Env) (w : World) (tl : List Ins) (done : List DR) : Prop :=
  ∀ vs W, Rel w W → factsD W vs 0 done → Exec P n c D (tl ++ is) k (outD done vs 0 ds ++ e) W
theorem QWL.out {P : Program} {Rel : World → World → Prop} {ds : List DOp} {e : Env} {w : World} {F : List DR → Prop} : ∀ (rest : List DOp) (done : List DR), QWL P Rel ds e w F done rest →
    ∃ rs : List DR, rs.length = rest.length ∧ F (done ++ rs) ∧ ∀ (i : Nat) deps g d m, rest[i]? = some (deps, g, d, m) → ∃ x, (done ++ rs)[done.length + i]? = some x ∧ x.goodQ Rel w deps ∧
      (∀ (vs : Nat → Value) (W : World), Rel w W → depFacts ((done ++ rs).take (done.length + i)) W vs deps →
        DStep P Rel g m (envD ds ((done ++ rs).take (done.length + i)) vs deps ++ keepEnv ds (done.length + i) e) W fun W' v => x.get W' vs v) := by
  intro rest
  induction rest with
  | nil => intro done h; exact ⟨[], rfl, by simp only [List.append_nil]; exact h, fun i deps g d m h => by simp at h⟩
  | cons y rest ih =>
    obtain ⟨deps0, g0, d0, m0⟩ := y
    intro done h
    obtain ⟨x, h1, h2, h3⟩ := h
    obtain ⟨rs, hl, hF, hr⟩ := ih _ h3
    refine ⟨x :: rs, by simp [hl], by simpa using hF, fun i deps g d m hi => ?_⟩
    cases i with
    | zero =>
      simp at hi
      obtain ⟨rfl, rfl, rfl, rfl⟩ := hi
      refine ⟨x, by simp, h1, ?_⟩
      have : (done ++ x :: rs).take (done.length + 0) = done := by simp
      rw [this]
      exact h2
    | succ i =>
      obtain ⟨x', g1, g2, g3⟩ := hr i deps g d m (by simpa using hi)
      have e1 : done ++ [x] ++ rs = done ++ x :: rs := by simp
      have e2 : (done ++ [x]).length + i = done.length + (i + 1) := by simp; omega
      rw [e1, e2] at g1 g3
      exact ⟨x', g1, g2, g3⟩
section
variable {P : Program} {n : Nat} {c : Ctx} {D : List Deferred} {is : List Ins} {k : Kont} {e : Env} {w : World}
theorem exec_qwL {fr : List DOp} {tl : List Ins} (Rel : World → World → Prop) (hE : ∀ a b, Ext a b → Rel a b) (tr : ∀ a b c, Rel a b → Rel b c → Rel a c) (hdst : (dsts fr).all (fun t => Nat.blt t n) = true) (hnd : nodupB (dsts fr) = true) (hwd : wellDeps 0 fr = true)
    (h : QWL P Rel fr e w (FinQD P n c D is k Rel fr e w tl) [] fr) : Exec P n c D (.draw fr tl :: is) k e w := by
  obtain ⟨rs, hl, hF, hs⟩ := h.out
  simp only [List.nil_append, List.length_nil, Nat.zero_add] at hF hs
  let Rs : Nat → World → (Nat → Value) → Prop := fun i W vs => ∀ x, rs[i]? = some x → x.holds W vs i
  have hget : ∀ i, i < fr.length → ∃ x deps g d m, rs[i]? = some x ∧ fr[i]? = some (deps, g, d, m) ∧ x.goodQ Rel w deps := by
    intro i hi
    have : fr[i]? = some fr[i] := List.getElem?_eq_getElem hi
    obtain ⟨x, h1, h2, _⟩ := hs i fr[i].1 fr[i].2.1 fr[i].2.2.1 fr[i].2.2.2 this
    exact ⟨x, _, _, _, _, h1, this, h2⟩
  have hw0 : Rel w { w with drawn := w.drawn + 1 } := hE _ _ (Upd.drew [] w _)
  refine exec_draw Rel Rs (fun a => hE _ _ (Upd.refl _ _)) tr ?_ ?_ hdst hnd ?_ ?_
  · intro i W W' vs hi h1 h2 hR x hx
    have h3 := hR x hx
    obtain ⟨x', deps, g, d, m, h4, h5, h6⟩ := hget i hi
    rw [hx] at h4; cases h4
    cases x with
    | val v => exact h3
    | rel js R => exact h6.2 W W' _ _ (tr _ _ _ hw0 h1) h2 h3
  · intro i c' g d m j W vs v hi hj hne hR x hx
    have h3 := hR x hx
    have hi' : i < fr.length := (List.getElem?_eq_some_iff.1 hi).1
    obtain ⟨x', deps, g', d', m', h4, h5, h6⟩ := hget i hi'
    rw [hi] at h5; cases h5
    rw [hx] at h4; cases h4
    cases x with
    | val u => show put vs j v i = u; simp only [put, if_neg (Ne.symm hne)]; exact h3
    | rel js R =>
      show R W (js.map (put vs j v)) (put vs j v i)
      have e1 : js.map (put vs j v) = js.map vs := by
        apply List.map_congr_left
        intro y hy
        have : y ∈ c' := by simpa using List.all_eq_true.1 h6.1 y hy
        simp only [put, if_neg (fun (h : y = j) => hj (h ▸ this))]
      rw [e1]
      simp only [put, if_neg (Ne.symm hne)]
      exact h3
  · suffices ∀ (r : List DOp) (i : Nat), (∀ j, r[j]? = fr[i + j]?) → DSteps P Rel fr Rs e { w with drawn := w.drawn + 1 } i r from this fr 0 (by simp)
    intro r
    induction r with
    | nil => intro i _; trivial
    | cons y r ih =>
      obtain ⟨deps, g, d, m⟩ := y
      intro i hr
      refine ⟨?_, ih (i + 1) fun j => by have := hr (j + 1); rw [show i + (j + 1) = i + 1 + j from by omega] at this; simpa using this⟩
      intro vs W hW hdeps
      have hi : fr[i]? = some (deps, g, d, m) := by have := hr 0; simpa using this.symm
      obtain ⟨x, h1, h2, h3⟩ := hs i deps g d m hi
      have hlt : ∀ j ∈ deps, j < i := by
        intro j hj
        simpa using wellDeps_get _ 0 hwd i _ _ _ _ hi j hj
      have hh : ∀ j ∈ deps, ∀ y, (rs.take i)[j]? = some y → y.holds W vs j := by
        intro j hj y hy
        rw [List.getElem?_take] at hy
        rw [if_pos (hlt j hj)] at hy
        exact hdeps j hj y hy
      have h4 := h3 vs W (tr _ _ _ hw0 hW) (depFacts_of deps hh)
      rw [envD_eq deps fun j hj => valD_eq (W := W) (hh j hj)] at h4
      have h5 : ∀ (W' : World) (v : Value), x.get W' vs v → Rs i W' (put vs i v) := by
        intro W' v hx y hy
        rw [h1] at hy; cases hy
        cases x with
        | val u => show put vs i v i = u; rw [show put vs i v i = v by simp [put]]; exact hx
        | rel js R =>
          show R W' (js.map (put vs i v)) (put vs i v i)
          have e1 : js.map (put vs i v) = js.map vs := by
            apply List.map_congr_left
            intro z hz
            have : z ∈ deps := by simpa using List.all_eq_true.1 h2.1 z hz
            have := hlt z this
            simp only [put, if_neg (show ¬ z = i from by omega)]
          rw [e1]
          rw [show put vs i v i = v by simp [put]]; exact hx
      unfold DStep at h4 ⊢
      split
      · exact h4.mono fun v W' h => ⟨h.1, h5 _ _ h.2⟩
      · exact h4
      · rcases h4 with ⟨ha, hb⟩ | ⟨ha, hb⟩
        · exact .inl ⟨ha, hb.mono fun v W' h => ⟨h.1, h5 _ _ h.2⟩⟩
        · exact .inr ⟨ha, h5 _ _ hb⟩
  · intro vs W hW hR
    have h1 : ∀ (j : Nat) (x : DR), rs[j]? = some x → x.holds W vs (0 + j) := by
      intro j x hx
      have : j < fr.length := by rw [← hl]; exact (List.getElem?_eq_some_iff.1 hx).1
      rw [Nat.zero_add]; exact hR j this x hx
    have h2 := hF vs W (tr _ _ _ hw0 hW) (factsD_of rs 0 h1)
    rw [outD_eq fr 0 fun j hj => valD_eq (W := W) (by intro x hx; exact h1 (0 + j) x hx |> fun h => by simpa using h)] at h2
    exact h2
end
def QW (P : Program) (Rel : World → World → Prop) (ds : List DOp) (e : Env) (w : World) (Fin : List (Nat × DR) → Prop) : Nat → List (Nat × DR) → List DOp → Prop
  | _, done, [] => Fin done
  | i, done, (deps, g, _, m) :: r => ∃ x : DR, x.goodQ Rel w deps ∧
      (∀ (vs : Nat → Value) (W : World), Rel w W → depFactsA done W vs deps → DStep P Rel g m (envA ds done vs deps ++ keepEnv ds i e) W fun W' v => x.get W' vs v) ∧
      QW P Rel ds e w Fin (i + 1) ((i, x) :: done) r
def FinQA (P : Program) (n : Nat) (c : Ctx) (D : List Deferred) (is : List Ins) (k : Kont) (Rel : World → World → Prop) (ds : List DOp) (e : Env) (w : World) (tl : List Ins) (done : List (Nat × DR)) : Prop :=
  ∀ vs W, Rel w W → factsA W vs done → Exec P n c D (tl ++ is) k (outA done vs 0 ds ++ e) W
theorem QW.toL {P : Program} {Rel : World → World → Prop} {ds : List DOp} {e : Env} {w : World} {F : List (Nat × DR) → Prop} : ∀ (rest : List DOp) (i : Nat) (done : List (Nat × DR)) (L : List DR), L.length = i → (∀ j, getA done j = L[j]?) → (∀ p ∈ done, L[p.1]? = some p.2) →
    QW P Rel ds e w F i done rest → QWL P Rel ds e w (fun L => ∃ done, (∀ j, getA done j = L[j]?) ∧ (∀ p ∈ done, L[p.1]? = some p.2) ∧ F done) L rest := by
  intro rest
  induction rest with
  | nil => intro i done L _ h1 h2 h; exact ⟨done, h1, h2, h⟩
  | cons y rest ih =>
    obtain ⟨deps, g, d, m⟩ := y
    intro i done L hl h1 h2 h
    obtain ⟨x, hg, hs, hr⟩ := h
    refine ⟨x, hg, fun vs W hW hd => ?_, ih (i + 1) ((i, x) :: done) (L ++ [x]) (by simp [hl]) ?_ ?_ hr⟩
    · have := hs vs W hW (depFactsA_of h1 deps hd)
      rw [envA_eq h1, ← hl] at this
      exact this
    · intro j
      simp only [getA]
      split
      · rename_i hb
        have := Nat.eq_of_beq_eq_true hb
        subst this
        rw [← hl]; simp
      · rename_i hb
        have hne : i ≠ j := fun h => by subst h; simp at hb
        rw [h1 j]
        rcases Nat.lt_or_ge j L.length with hj | hj
        · rw [List.getElem?_append_left hj]
        · rw [List.getElem?_eq_none hj, List.getElem?_eq_none (by simp; omega)]
    · intro p hp
      rcases List.mem_cons.1 hp with rfl | hp
      · rw [← hl]; simp
      · have h3 := h2 p hp
        have hj := (List.getElem?_eq_some_iff.1 h3).1
        rw [List.getElem?_append_left hj]; exact h3
section
variable {P : Program} {n : Nat} {c : Ctx} {D : List Deferred} {is : List Ins} {k : Kont} {e : Env} {w : World}
theorem exec_qw {fr : List DOp} {tl : List Ins} (Rel : World → World → Prop) (hE : ∀ a b, Ext a b → Rel a b) (tr : ∀ a b c, Rel a b → Rel b c → Rel a c) (hdst : (dsts fr).all (fun t => Nat.blt t n) = true) (hnd : nodupB (dsts fr) = true) (hwd : wellDeps 0 fr = true)
    (h : QW P Rel fr e w (FinQA P n c D is k Rel fr e w tl) 0 [] fr) : Exec P n c D (.draw fr tl :: is) k e w := by
  refine exec_qwL Rel hE tr hdst hnd hwd ?_
  have h2 := QW.toL fr 0 [] [] rfl (by simp [getA]) (by simp) h
  have mono : ∀ (rest : List DOp) (L : List DR) (F G : List DR → Prop), (∀ L, F L → G L) → QWL P Rel fr e w F L rest → QWL P Rel fr e w G L rest := by
    intro rest
    induction rest with
    | nil => intro L F G hFG h; exact hFG _ h
    | cons y rest ih =>
      obtain ⟨deps, g, d, m⟩ := y
      intro L F G hFG h
      obtain ⟨x, h1, h2, h3⟩ := h
      exact ⟨x, h1, h2, ih _ F G hFG h3⟩
  refine mono fr [] _ _ ?_ h2
  rintro L ⟨done, g1, g2, hF⟩ vs W hW hf
  have := hF vs W hW (factsA_of hf done g2)
  rw [outA_eq g1] at this
  exact this
variable {Rel : World → World → Prop} {ds : List DOp} {F : List (Nat × DR) → Prop} {done : List (Nat × DR)} {i : Nat} {deps : List Nat} {d : Option Nat} {m : MOp} {r : List DOp} {s : Nat} {b : Bool}
theorem qw_tame {v : Value} (hE : ∀ a b, Ext a b → Rel a b) (hp : tameOp m = true) (hv : ∀ vs, pureV (envA ds done vs deps ++ keepEnv ds i e) m = some v) (h : QW P Rel ds e w F (i + 1) ((i, .val v) :: done) r) : QW P Rel ds e w F i done ((deps, none, d, m) :: r) :=
  ⟨.val v, trivial, fun vs W _ _ => (ok_pure (hv vs)).mono fun u W' hu => ⟨hu.2 ▸ hE _ _ (Upd.refl _ _), hu.1⟩, h⟩
theorem qw_keep (v : Value) (hE : ∀ a b, Ext a b → Rel a b) (hv : ∀ vs W, Rel w W → depFactsA done W vs deps → OpOK P m (envA ds done vs deps ++ keepEnv ds i e) W (Just v W))
    (h : QW P Rel ds e w F (i + 1) ((i, .val v) :: done) r) : QW P Rel ds e w F i done ((deps, none, d, m) :: r) :=
  ⟨.val v, trivial, fun vs W h1 h2 => (hv vs W h1 h2).mono fun u W' hu => ⟨hu.2 ▸ hE _ _ (Upd.refl _ _), hu.1⟩, h⟩
theorem qw_rel (js : List Nat) (R : World → List Value → Value → Prop) (hj : js.all (fun j => deps.contains j) = true) (hm : ∀ W W' xs v, Rel w W → Rel W W' → R W xs v → R W' xs v)
    (hv : ∀ vs W, Rel w W → depFactsA done W vs deps → OpOK P m (envA ds done vs deps ++ keepEnv ds i e) W fun u W' => Rel W W' ∧ R W' (js.map vs) u)
    (h : QW P Rel ds e w F (i + 1) ((i, .rel js R) :: done) r) : QW P Rel ds e w F i done ((deps, none, d, m) :: r) :=
  ⟨.rel js R, ⟨hj, hm⟩, fun vs W h1 h2 => hv vs W h1 h2, h⟩
theorem qw_end {tl : List Ins} (h : ∀ vs W, Rel w W → factsA W vs done → Exec P n c D (tl ++ is) k (outA done vs 0 ds ++ e) W) : QW P Rel ds e w (FinQA P n c D is k Rel ds e w tl) i done [] := h
/-- a store, said as an operation -/
theorem ok_store {N B o : Nat} {x y : Operand} {v : Value} {cs : List Value} (hx : e.ev x = some (.pointer (some ⟨B, o, none⟩))) (hy : e.ev y = some v) (hB : Blk w B cs) (hl : v.cells.size = N) (hle : o + N ≤ cs.length) (hv : v.cells.toList.all cellValue = true) :
    OpOK P (.store N x y) e w fun _ W => Upd [B] w W ∧ W.heap.size = w.heap.size ∧ Blk W B (splice cs o v.cells.toList) := by
  intro a hk rd d next Q hn
  obtain ⟨w', hr, hu, hs, hb'⟩ := storeCells_run (P := P) (o := o) v.cells.toList 0 w cs hB (by simp [hl]; omega) hv
  have : ((MOp.store N x y).sem a.eval).run P w = .ok .skip w' := by
    simp [MOp.sem, Env.ok_ev hk hx, Env.ok_ev hk hy, Instr.sureAddr, hl, hr]
  rw [this]
  rw [Oper.uponIn_skip]
  exact hn undef w' ⟨hu, hs, hb'⟩
end
end Go.Sp

namespace Go.Sp
/-- worlds in which a new block of one cell may be written: X -/
structure NewCell (N : Nat) (X : Value) (a b : World) : Prop where
  os : b.os = a.os
  tape : b.tape = a.tape
  output : b.output = a.output
  size : a.heap.size ≤ b.heap.size
  block : ∀ i, i < a.heap.size → i < N → b.heap[i]? = a.heap[i]?
  drawn : a.drawn ≤ b.drawn
  cell : ∀ i x, N ≤ i → Blk a i [x] → ∃ y, Blk b i [y] ∧ (x = X → y = X)
theorem NewCell.ext {N : Nat} {X : Value} {a b : World} (h : Ext a b) : NewCell N X a b := ⟨h.os, h.tape, h.output, h.size, fun i hi _ => h.block i hi (by simp), h.drawn, fun i x _ hB => ⟨x, hB.upd h, id⟩⟩
theorem NewCell.trans {N : Nat} {X : Value} {a b c : World} (h : NewCell N X a b) (k : NewCell N X b c) : NewCell N X a c :=
  ⟨k.os.trans h.os, k.tape.trans h.tape, k.output.trans h.output, Nat.le_trans h.size k.size, fun i h1 h2 => (k.block i (Nat.lt_of_lt_of_le h1 h.size) h2).trans (h.block i h1 h2), Nat.le_trans h.drawn k.drawn, fun i x hi hB => by
    obtain ⟨y, h1, h2⟩ := h.cell i x hi hB
    obtain ⟨z, h3, h4⟩ := k.cell i y hi h1
    exact ⟨z, h3, fun hx => h4 (h2 hx)⟩⟩
theorem NewCell.toExt {X : Value} {w W : World} (h : NewCell w.heap.size X w W) : Ext w W := ⟨h.os, h.tape, h.output, h.size, fun i hi _ => h.block i hi hi, h.drawn⟩
theorem NewCell.store {N B : Nat} {X : Value} {a b : World} (hN : N ≤ B) (h : Upd [B] a b) (hB : Blk b B [X]) : NewCell N X a b :=
  ⟨h.os, h.tape, h.output, h.size, fun i h1 h2 => h.block i h1 (by simp; omega), h.drawn, fun i x hi hBx => by
    by_cases he : i = B
    · subst he; exact ⟨X, hB, fun _ => rfl⟩
    · exact ⟨x, hBx.upd h (by simpa using he), id⟩⟩
/-- the functions of forest, on -/
structure ForN (P : Program) extends ForM P where
  where' : Nat
  TWu : Nat
  h_where : Has P where' (b_Pforest_Forest_Where is' where1 index root' rows' nf.left TH TWu TNode)
theorem rowsN_40 {n : Nat} (h : n < 2 ^ 40) : rowsN n ≤ 40 := by
  unfold rowsN
  split
  · omega
  · exact bitLen_le (by omega) (by omega)
theorem pow41 {R : Nat} (h : R ≤ 40) : 2 ^ (R + 1) ≤ 2 ^ 41 := Nat.pow_le_pow_right (by omega) (by omega)
section
variable {P : Program} {f : Nat} {w : World}
set_option maxHeartbeats 800000 in
theorem where_ok (A : ForN P) {p m : Nat} {s : Fo} (h : FAt w p m s) (hh : Hash) : Ret P A.where' [ptrV p, hV hh] w fun v w' => Ext w w' ∧
    ((v = .tuple #[u64V 0, .bool false] ∧ some hh ∉ s.L) ∨ ∃ x, v = .tuple #[u64V (whereT (treesT parH (lv s.L) s.L.length) s.L.length x), .bool true] ∧ s.L[x]? = some (some hh)) := by
  have hF := h
  have hlen := h.len
  obtain ⟨⟨tv, wl, h1, h2, h3, h4⟩, _⟩ := h
  refine Ret.of_exec A.h_where (Nat.le_of_ble_eq_true rfl) fun c hc => ?_
  dsimp only [b_Pforest_Forest_Where, argEnv, ym, yo, yg, ys, yt, yd, ye]
  refine exec_box rfl rfl ?_
  intro b3 w1 hb3 hs1 hu1 hB3
  rw [hV_cells] at hB3
  refine xr 3 rfl ?_
  refine xca rfl rfl (is_ok A.toForJ (hF.ext hu1)) ?_
  rintro _ w2 ⟨rfl, hu2⟩
  refine xr 3 rfl ?_
  have hE2 : Ext w w2 := hu1.trans hu2
  refine xen [(0, ptrV p), (3, ptrV b3)] ⟨rfl, rfl, trivial⟩ ?_
  obtain ⟨o, ho⟩ : ∃ o, aget hh wl = o := ⟨_, rfl⟩
  have hE : ∀ a b, Ext a b → NewCell w2.heap.size (u64V (o.getD 0)) a b := fun a b h => NewCell.ext h
  refine exec_qw (NewCell w2.heap.size (u64V (o.getD 0))) hE (fun a b c h k => h.trans k) rfl rfl rfl ?_
  repeat refine qw_tame hE rfl (fun _ => rfl) ?_
  refine qw_keep (.map (some m)) hE (fun vs X hx _ => ok_load1 (b := p) (o := 0 + 2) rfl ((h1.upd (hE2.trans hx.toExt)).cell rfl)) ?_
  refine qw_keep (hV hh) hE (fun vs X hx _ => ok_loadN (b := b3) (o := 0) rfl (hB3.upd (hu2.trans hx.toExt)).memAll (hC_length _)) ?_
  refine qw_keep _ hE (fun vs X hx _ => ok_look A.h_TH rfl rfl (h3.upd (hE2.trans hx.toExt)) ho) ?_
  repeat refine qw_tame hE rfl (fun _ => rfl) ?_
  refine qw_rel [] (fun W _ v => ∃ b, v = ptrV b ∧ w2.heap.size ≤ b ∧ ∃ x, Blk W b [x]) rfl ?_ ?_ ?_
  · rintro W W' xs v _ hx ⟨b, rfl, h1, x, h2⟩
    obtain ⟨y, h3, _⟩ := hx.cell b x h1 h2
    exact ⟨b, rfl, h1, y, h3⟩
  · intro vs X hx _
    refine ok_new.mono ?_
    rintro v X' ⟨b, rfl, q1, q2, q3⟩
    have := hx.size
    exact ⟨NewCell.ext q3, b, rfl, by omega, _, q1⟩
  refine qw_rel [9] (fun W xs _ => ∃ b, xs = [ptrV b] ∧ w2.heap.size ≤ b ∧ Blk W b [u64V (o.getD 0)]) rfl ?_ ?_ ?_
  · rintro W W' xs v _ hx ⟨b, rfl, h1, h2⟩
    obtain ⟨y, h3, h4⟩ := hx.cell b _ h1 h2
    rw [h4 rfl] at h3
    exact ⟨b, rfl, h1, h3⟩
  · intro vs X hx hd
    obtain ⟨⟨b, hvs, hb, x, hBx⟩, _⟩ := hd
    refine (ok_store (B := b) (o := 0) (v := u64V (o.getD 0)) (by show some (vs 9) = _; rw [hvs]) rfl hBx rfl (by show 0 + 1 ≤ 1; omega) rfl).mono ?_
    rintro _ X' ⟨q1, q2, q3⟩
    have q3' : Blk X' b [u64V (o.getD 0)] := q3
    exact ⟨NewCell.store hb q1 q3', b, by simp [hvs], hb, q3'⟩
  refine qw_end fun vs w3 hw3 hf => ?_
  obtain ⟨⟨b6, hv6, hb6, hB6⟩, _⟩ := hf
  have hv6' : vs 9 = ptrV b6 := by simpa using hv6
  have hu3 : Ext w2 w3 := hw3.toExt
  have hE3 := hE2.trans hu3
  clear hw3
  refine xen [(0, ptrV p), (22, .bool o.isSome), (6, ptrV b6)] ⟨rfl, rfl, by show some (vs 9) = _; rw [hv6'], trivial⟩ ?_
  refine xr 3 rfl ?_
  refine exec_cond rfl (fun hq => ?_) (fun hq => ?_)
  · refine xr 2 rfl ?_
    refine xre hc [_, _] ⟨rfl, rfl, trivial⟩ ⟨hE3, .inl ⟨rfl, fun hm => ?_⟩⟩
    obtain ⟨i, hi⟩ := List.getElem?_of_mem hm
    rw [(h4 hh i).2 hi] at ho
    subst ho; cases hq
  simp only [Bool.not_eq_false'] at hq
  obtain ⟨x, rfl⟩ := Option.isSome_iff_exists.1 hq
  have hLx := (h4 hh x).1 ho
  have hxn : x < s.L.length := (List.getElem?_eq_some_iff.1 hLx).1
  have hB6x : Blk w3 b6 [u64V x] := hB6
  have hn63 : s.L.length < 2 ^ 63 := by omega
  have hlenT := treesT_len parH (L := lv s.L) hn63
  refine xr 4 rfl ?_
  refine exec_load1 (b := p) (o := 0 + 1) rfl rfl ((h1.upd hE3).cell rfl) ?_
  refine xr 1 rfl ?_
  have hbT : ∀ t ∈ treesT parH (lv s.L) s.L.length, t.2.1 + 2 ^ t.2.2 < 2 ^ 63 ∧ t.2.2 < 63 := by
    intro t htm
    obtain ⟨k, rfl, q1, q2⟩ := treesT_mem parH hlen htm
    exact ⟨by show firstN _ k + 2 ^ k < _; omega, by show k < 63; omega⟩
  refine xca rfl rfl (indexT_ok A.toForM (h2.ext hE3).own.sl (by omega) A.h_where1.enters (cs := [ptrV b6]) (q := inT x) (fun W u t hu ht => where1_ok A.toForM (by omega) (hB6x.upd hu) u t (hbT t ht))) ?_
  rintro v4 w4 ⟨hu4, hcase⟩
  obtain ⟨ft, hft, hftx⟩ := find_tree parH (L := lv s.L) hn63 hxn
  rcases hcase with ⟨_, hno⟩ | ⟨i, t, rfl, hti, hfind⟩
  · rw [hno ft hft] at hftx; cases hftx
  have htm := List.mem_of_getElem? hti
  have hin : inT x t = true := List.find?_some hfind
  obtain ⟨r, hr⟩ := in_tree parH htm hin (by rw [lv_eq, lvG_some.2 hLx]; rfl)
  have hil := (List.getElem?_eq_some_iff.1 hti).1
  obtain ⟨us, hR, hO⟩ := h2.own
  rcases hO with ⟨_, h0, _⟩ | ⟨bt, cap, rest, rfl, hBt, ho1, ho2, ho3⟩
  · omega
  obtain ⟨u, hu⟩ : ∃ u, us[i]? = some u := ⟨_, List.getElem?_eq_getElem (by rw [hR.len]; exact hil)⟩
  have hOu := hR.at' i u t hu hti
  obtain ⟨g0, g1, g2⟩ := cellsT_get us _ i u t hu hti
  have hM3 : Mem w bt (0 + i * 3) [u, u64V t.2.1, intV' t.2.2] := hBt.memPre.sub (i * 3) (us := [u, u64V t.2.1, intV' t.2.2]) (fun k x hk => by
    match k, hk with
    | 0, hk => cases hk; exact g0
    | 1, hk => cases hk; exact g1
    | 2, hk => cases hk; exact g2)
  have hE4 := hE3.trans hu4
  obtain ⟨tr, tf, th⟩ := t
  simp only at hr
  subst hr
  obtain ⟨hb1, hb2⟩ := hbT _ htm
  simp only at hb1 hb2 hOu hM3
  have hgoal : whereT (treesT parH (lv s.L) s.L.length) s.L.length x = whereN (rowsN s.L.length) r ((rootN s.L.length th).getD 0) x := by rw [whereT, hfind]
  have hR40 := rowsN_40 hlen
  have hp41 := pow41 hR40
  have hroot : (rootN s.L.length th).getD 0 < 2 ^ 41 := by
    cases hq : rootN s.L.length th with
    | none => show 0 < _; omega
    | some q => have := rootN_lt hq; show q < _; omega
  refine xr 1 rfl ?_
  refine xen [(0, ptrV p), (6, ptrV b6), (8, intV' i)] ⟨rfl, rfl, rfl, trivial⟩ ?_
  refine exec_dwr rfl rfl rfl ?_
  repeat (first | refine wtm rfl rfl rfl ?_ | refine wgt rfl rfl rfl rfl ?_ | refine wgs rfl rfl ?_)
  refine ws_keep (.slice (some ⟨bt, 0, none⟩) (treesT parH (lv s.L) s.L.length).length cap) rfl (fun X hx => ok_load1 (b := p) (o := 0 + 1) rfl ((h1.upd (hE4.trans hx)).cell rfl)) ?_
  repeat (first | refine wtm rfl rfl rfl ?_ | refine wgt rfl rfl rfl rfl ?_ | refine wgs rfl rfl ?_)
  refine ws_keep _ rfl (fun X hx => ok_iaddr (N := 3) (b := bt) (o := 0) rfl rfl i rfl hil) ?_
  refine ws_keep (.agg #[u, u64V tf, intV' th]) rfl (fun X hx => ok_loadN (b := bt) (o := 0 + i * 3) (vs := [u, u64V tf, intV' th]) rfl (hM3.upd (hE4.trans hx) (by simp)) rfl) ?_
  refine ws_ext (u64V ((rootN s.L.length th).getD 0)) rfl (fun X hx => ok_call rfl (root'_ok A.toForM (hF.ext (hE4.trans hx)) u tf th (by omega))) ?_
  repeat (first | refine wtm rfl rfl rfl ?_ | refine wgt rfl rfl rfl rfl ?_ | refine wgs rfl rfl ?_)
  refine ws_keep (.slice (some ⟨bt, 0, none⟩) (treesT parH (lv s.L) s.L.length).length cap) rfl (fun X hx => ok_load1 (b := p) (o := 0 + 1) rfl ((h1.upd (hE4.trans hx)).cell rfl)) ?_
  repeat (first | refine wtm rfl rfl rfl ?_ | refine wgt rfl rfl rfl rfl ?_ | refine wgs rfl rfl ?_)
  refine ws_keep _ rfl (fun X hx => ok_iaddr (N := 3) (b := bt) (o := 0) rfl rfl i rfl hil) ?_
  repeat (first | refine wtm rfl rfl rfl ?_ | refine wgt rfl rfl rfl rfl ?_ | refine wgs rfl rfl ?_)
  refine ws_keep u rfl (fun X hx => ok_load1 (b := bt) (o := 0 + i * 3 + 0) rfl ((hM3.upd (hE4.trans hx) (by simp)) 0 u rfl)) ?_
  repeat (first | refine wtm rfl rfl rfl ?_ | refine wgt rfl rfl rfl rfl ?_ | refine wgs rfl rfl ?_)
  refine ws_fin fun w5 hw5 => ?_
  refine xr 2 rfl ?_
  refine xen [(0, ptrV p), (6, ptrV b6), (9, u64V ((rootN s.L.length th).getD 0)), (10, u)] ⟨rfl, rfl, rfl, rfl, trivial⟩ ?_
  have hE5 := hE4.trans hw5
  have hB65 : Blk w5 b6 [u64V x] := (hB6x.upd hu4).upd hw5
  have hO5 : TrAt w5 u r := TrAt.ext (show TrAt w u r from hOu) hE5
  generalize hgp : (rootN s.L.length th).getD 0 = p0 at *
  refine xlo (S := Tr Hash × Value × Nat) (fun st W => TrAt W st.2.1 st.1 ∧ st.2.2 < 2 ^ 42 ∧ whereN (rowsN s.L.length) st.1 st.2.2 x = whereN (rowsN s.L.length) r p0 x ∧ Ext w W ∧ Ext w5 W)
    (fun st => [(0, ptrV p), (6, ptrV b6), (9, u64V st.2.2), (10, st.2.1)]) (fun st => st.1.high) (r, u, p0)
    ⟨hO5, by show p0 < 2 ^ 42; omega, rfl, hE5, Upd.refl _ _⟩ ⟨rfl, rfl, rfl, rfl, trivial⟩ ?_
  rintro ⟨tr, uv, pp⟩ W ⟨iT, iP, iN, iE, iE5⟩
  simp only at iT iP iN
  cases tr with
  | leaf h0 =>
    obtain ⟨b, rfl, hB⟩ := iT
    refine xr 3 rfl ?_
    refine exec_load1 (b := b) (o := 0 + 32) rfl rfl (node_cell0 hB).2.1 ?_
    refine xju (ok_ne_nil A.h_TNode rfl rfl) rfl ?_
    refine xr 6 rfl ?_
    refine xre hc [_, _] ⟨rfl, rfl, trivial⟩ ⟨iE, .inr ⟨x, ?_, hLx⟩⟩
    rw [hgoal, ← iN, whereN]; rfl
  | pair h0 l rr mid =>
    obtain ⟨b, vl, vr, rfl, hB, hm62, hl, hrr⟩ := iT
    have hl0 := hl
    obtain ⟨bl, _, _, _, rfl, _⟩ := TrAt.node hl0
    refine xr 3 rfl ?_
    refine exec_load1 (b := b) (o := 0 + 32) rfl rfl (node_cell0 hB).2.1 ?_
    refine xju (ok_ne_nil A.h_TNode rfl rfl) rfl ?_
    refine xr 5 rfl ?_
    refine xca rfl rfl (rows'_ok A.toForM (hF.ext iE)) ?_
    rintro _ W1 ⟨rfl, hw1⟩
    refine xca rfl rfl (left_ok A.nf.toPosF pp (rowsN s.L.length) (by omega) (by omega)) ?_
    rintro _ W2 ⟨rfl, hw2⟩
    rw [optV_eq]
    refine xr 4 rfl ?_
    have hq41 : (leftN pp (rowsN s.L.length)).getD 0 < 2 ^ 41 := Nat.lt_of_lt_of_le leftN_lt hp41
    have hWW2 : Ext W W2 := hw1.trans hw2
    refine xen [(0, ptrV p), (6, ptrV b6), (9, u64V ((leftN pp (rowsN s.L.length)).getD 0)), (10, ptrV b)] ⟨rfl, rfl, rfl, rfl, trivial⟩ ?_
    refine exec_dwr rfl rfl rfl ?_
    refine ws_keep (u64V x) rfl (fun X hx => ok_load1 (b := b6) (o := 0) rfl (((hB65.upd iE5).upd (hWW2.trans hx)).cell rfl)) ?_
    repeat (first | refine wtm rfl rfl rfl ?_ | refine wgt rfl rfl rfl rfl ?_ | refine wgs rfl rfl ?_)
    refine ws_keep (u64V mid) rfl (fun X hx => ok_load1 (b := b) (o := 0 + 34) rfl (node_cell0 (hB.upd (hWW2.trans hx))).2.2.2) ?_
    refine ws_fin fun W3 hw3 => ?_
    have hW3 := hWW2.trans hw3
    have key : whereN (rowsN s.L.length) (.pair h0 l rr mid) pp x = if x < mid then whereN (rowsN s.L.length) l ((leftN pp (rowsN s.L.length)).getD 0) x else whereN (rowsN s.L.length) rr ((leftN pp (rowsN s.L.length)).getD 0 + 1) x := by rw [whereN]
    by_cases hxm : x < mid
    · refine xpu (pv_lssI (a := x) (b := mid) (q := true) rfl rfl (by simpa using hxm)) rfl ?_
      refine xr 4 rfl ?_
      refine exec_load1 (b := b) (o := 0 + 32) rfl rfl (node_cell0 (hB.upd hW3)).2.1 ?_
      refine xr 4 rfl ?_
      refine xag (l, ptrV bl, (leftN pp (rowsN s.L.length)).getD 0) ⟨TrAt.ext hl hW3, by show (leftN pp (rowsN s.L.length)).getD 0 < 2 ^ 42; omega, ?_, iE.trans hW3, iE5.trans hW3⟩ (by show l.high < l.high + rr.high + 1; omega) ⟨rfl, rfl, rfl, rfl, trivial⟩
      rw [key, if_pos hxm] at iN
      exact iN
    · refine xpu (pv_lssI (a := x) (b := mid) (q := false) rfl rfl (by simpa using hxm)) rfl ?_
      refine xr 4 rfl ?_
      refine exec_load1 (b := b) (o := 0 + 33) rfl rfl (node_cell0 (hB.upd hW3)).2.2.1 ?_
      refine xr 2 rfl ?_
      refine xpu (pv_addU (a := (leftN pp (rowsN s.L.length)).getD 0) (b := 1) rfl rfl (by omega)) rfl ?_
      refine xr 4 rfl ?_
      refine xag (rr, vr, (leftN pp (rowsN s.L.length)).getD 0 + 1) ⟨TrAt.ext hrr hW3, by show (leftN pp (rowsN s.L.length)).getD 0 + 1 < 2 ^ 42; omega, ?_, iE.trans hW3, iE5.trans hW3⟩ (by show rr.high < l.high + rr.high + 1; omega) ⟨rfl, rfl, rfl, rfl, trivial⟩
      rw [key, if_neg hxm] at iN
      exact iN
end
end Go.Sp

namespace Go.Sp
def rootC : Option Hash → List Value
  | none => .bool false :: List.replicate 32 (.int .u8 0)
  | some h => .bool true :: hC h
theorem rootC_len (o : Option Hash) : (rootC o).length = 33 := by cases o <;> simp [rootC, hC_length]
theorem rootC_ok (o : Option Hash) : (rootC o).all cellValue = true := by
  cases o with
  | none => rfl
  | some h => simp [rootC, hC_cell]; rfl
def rootsC (l : List (Option Hash)) : List Value := l.flatMap rootC
theorem root_fill (h : Hash) : fillL (rleL [(1, .bool false), (32, .int .u8 0)]) [(0, 1, .bool true), (1, 32, hV h)] = some (rootC (some h)) := by
  have e0 : rleL [(1, Value.bool false), (32, .int .u8 0)] = [.bool false] ++ List.replicate 32 (.int .u8 0) := rfl
  have e1 : cellL (hV h) = hC h := by simp [hV, cellL]
  rw [e0, fillL_cons (size := 1) rfl (by simp)]
  rw [show splice ([.bool false] ++ List.replicate 32 (.int .u8 0)) 0 (cellL (.bool true)) = [.bool true] ++ List.replicate 32 (.int .u8 0) from splice_head rfl]
  rw [fillL_cons (by rw [e1, hC_length]) (by simp), e1]
  rw [show splice ([.bool true] ++ List.replicate 32 (.int .u8 0)) 1 (hC h) = [.bool true] ++ hC h from ?_]
  · rfl
  · rw [splice]
    simp [hC_length]
theorem root_fill1 (o : Option Hash) : fillL (rleL [(1, .bool false), (32, .int .u8 0)]) [(0, 33, .agg (rootC o).toArray)] = some (rootC o) := by
  have e1 : cellL (.agg (rootC o).toArray) = rootC o := by simp [cellL]
  have hl : (rleL [(1, Value.bool false), (32, .int .u8 0)]).length = 33 := rfl
  rw [fillL_cons (by rw [e1, rootC_len]) (by rw [hl]; omega), e1, splice_all (by rw [rootC_len, hl])]
  rfl
theorem OwnC.slice {w : World} {v : Value} {N len : Nat} {cs : List Value} (h : OwnC w v N len cs) : ∃ a l c, v = .slice a l c := by
  rcases h with ⟨rfl, _⟩ | ⟨b, cap, rest, rfl, _⟩
  · exact ⟨_, _, _, rfl⟩
  · exact ⟨_, _, _, rfl⟩
def rootsT (ts : List (TT Hash)) : List (Option Hash) := ts.map fun t => t.1.map Tr.hash
theorem rootsT_next {ts : List (TT Hash)} {i : Nat} {t : TT Hash} (h : ts[i]? = some t) : rootsT (ts.take (i + 1)) = rootsT (ts.take i) ++ [t.1.map Tr.hash] := by
  rw [List.take_add_one, h]; simp [rootsT]
/-- the functions of forest, on -/
structure ForO (P : Program) extends ForN P where
  stump : Nat
  TStu : Nat
  TSt1 : Nat
  TSt2 : Nat
  h_stump : Has P stump (b_Pforest_Forest_Stump is' TStu TSt1 TSt2 TNode)
section
variable {P : Program} {f : Nat} {w : World}
set_option maxHeartbeats 800000 in
theorem stump_ok (A : ForO P) {p m : Nat} {s : Fo} (h : FAt w p m s) : Ret P A.stump [ptrV p] w fun v w' => ∃ rv, v = .agg #[u64V s.L.length, rv] ∧ Ext w w' ∧
    OwnC w' rv 33 (rootsT (treesT parH (lv s.L) s.L.length)).length (rootsC (rootsT (treesT parH (lv s.L) s.L.length))) ∧ ∀ b ∈ blkOf rv, w.heap.size ≤ b := by
  have hF := h
  have hlen := h.len
  obtain ⟨⟨tv, wl, h1, h2, h3, h4⟩, _⟩ := h
  refine Ret.of_exec A.h_stump (Nat.le_of_ble_eq_true rfl) fun c hc => ?_
  dsimp only [b_Pforest_Forest_Stump, argEnv, ym, yo, yg, ys, yt, yd, ye]
  refine exec_new rfl ?_
  intro b2 w1 hb2 hs1 hu1 hB2
  refine xr 1 rfl ?_
  refine xca rfl rfl (is_ok A.toForJ (hF.ext hu1)) ?_
  rintro _ w2 ⟨rfl, hu2⟩
  refine xr 6 rfl ?_
  have hE2 : Ext w w2 := hu1.trans hu2
  have hB2' : Blk w2 b2 [u64V 0, .slice none 0 0] := hB2.upd hu2
  refine exec_load1 (b := p) (o := 0 + 0) rfl rfl ((h1.upd hE2).cell rfl) ?_
  refine xju (ok_mkL (l := [(0, 1, u64V s.L.length)]) (cs := [u64V s.L.length, .slice none 0 0]) rfl rfl) rfl ?_
  refine exec_new_store (v := .agg #[u64V s.L.length, .slice none 0 0]) rfl rfl rfl rfl rfl rfl ?_
  intro b3 w3 hb3 hs3 hu3 hB3
  have hB3' : Blk w3 b3 [u64V s.L.length, .slice none 0 0] := hB3
  have hE3 := hE2.trans hu3
  have z3 := hE3.size
  have z12 := hu2.size
  refine xr 3 rfl ?_
  refine exec_load1 (b := p) (o := 0 + 1) rfl rfl ((h1.upd hE3).cell rfl) ?_
  have hlenT := treesT_len parH (L := lv s.L) (n := s.L.length) (by omega)
  generalize hts : treesT parH (lv s.L) s.L.length = ts at *
  have h2' := h2.own
  obtain ⟨us, hR, hO⟩ := h2'
  refine xpu (hO.sl.lenS rfl) rfl ?_
  refine xr 2 rfl ?_
  refine xen [(0, ptrV p), (2, ptrV b2), (3, ptrV b3), (19, tv), (20, intV' ts.length), (21, intV' 0)] ⟨rfl, rfl, rfl, rfl, rfl, rfl, trivial⟩ ?_
  refine xlo (S := Nat × Value) (fun st W => st.1 ≤ ts.length ∧ Blk W b3 [u64V s.L.length, st.2] ∧ OwnC W st.2 33 st.1 (rootsC (rootsT (ts.take st.1))) ∧ Upd [b3] w3 W ∧ ∀ b ∈ blkOf st.2, w3.heap.size ≤ b)
    (fun st => [(0, ptrV p), (2, ptrV b2), (3, ptrV b3), (19, tv), (20, intV' ts.length), (21, intV' st.1)]) (fun st => ts.length - st.1) (0, .slice none 0 0)
    ⟨Nat.zero_le _, hB3', .inl ⟨rfl, rfl, rfl⟩, Upd.refl _ _, by simp [blkOf]⟩ ⟨rfl, rfl, rfl, rfl, rfl, rfl, trivial⟩ ?_
  rintro ⟨i, rv⟩ W ⟨i1, iB, iO, iU, iF⟩
  simp only at i1 iB iO iF
  have hwW : Ext w W := hE3.trans iU (fun b hb => .inr (by simp at hb; omega))
  skip
  by_cases hi : i < ts.length
  · refine xpu (pv_lssI (a := i) (b := ts.length) (q := true) rfl rfl (by simpa using hi)) rfl ?_
    refine xr 3 rfl ?_
    obtain ⟨t, hti⟩ : ∃ t, ts[i]? = some t := ⟨_, List.getElem?_eq_getElem hi⟩
    obtain ⟨u, hu⟩ : ∃ u, us[i]? = some u := ⟨_, List.getElem?_eq_getElem (by rw [hR.len]; omega)⟩
    obtain ⟨g0, g1, g2⟩ := cellsT_get us ts i u t hu hti
    obtain ⟨bt, ot, cap, hv, hmt, _⟩ := hO.sl.at (by omega)
    have hOu := hR.at' i u t hu hti
    obtain ⟨pu, rfl⟩ := otr_ptr hOu
    refine xju (ok_iaddr (N := 3) (b := bt) (o := ot) (len := ts.length) (cap := cap) (by rw [← hv]; rfl) rfl i rfl hi) rfl ?_
    have hM3 : Mem w bt (ot + i * 3) [.pointer pu, u64V t.2.1, intV' t.2.2] := hmt.sub (i * 3) (us := [.pointer pu, u64V t.2.1, intV' t.2.2]) (fun k x hk => by
      match k, hk with
      | 0, hk => cases hk; exact g0
      | 1, hk => cases hk; exact g1
      | 2, hk => cases hk; exact g2)
    refine exec_loadN (b := bt) (o := ot + i * 3) (vs := [.pointer pu, u64V t.2.1, intV' t.2.2]) rfl rfl (hM3.upd hwW (by simp)) rfl ?_
    refine exec_new_store (v := .agg #[.pointer pu, u64V t.2.1, intV' t.2.2]) rfl rfl rfl rfl rfl rfl ?_
    intro b5 W1 hb5 hs5 hw1 hB5
    have hB5' : Blk W1 b5 [.pointer pu, u64V t.2.1, intV' t.2.2] := hB5
    refine exec_new rfl ?_
    intro b6 W2 hb6 hs6 hw2 hB6
    have hB6' : Blk W2 b6 (rootC none) := hB6
    have hWW2 : Ext W W2 := hw1.trans hw2
    refine xr 1 rfl ?_
    refine exec_load1 (b := b5) (o := 0 + 0) (v := .pointer pu) rfl rfl ((hB5'.upd hw2).cell rfl) ?_
    refine xju (ok_ne_nil A.h_TNode rfl rfl) rfl ?_
    refine exec_cond_join (S := Unit) (fun _ X => Blk X b6 (rootC (t.1.map Tr.hash)) ∧ Ext W X) (fun _ => [(0, ptrV p), (2, ptrV b2), (3, ptrV b3), (6, ptrV b6), (19, tv), (20, intV' ts.length), (21, intV' i)]) rfl (fun hq => ?_) (fun hq => ?_) ?_
    · cases pu with
      | none => cases hq
      | some q =>
        cases hd : t.1 with
        | none => rw [hd] at hOu; cases hOu
        | some r =>
          rw [hd] at hOu
          obtain ⟨bn, _, _, _, he, hBn⟩ := TrAt.node hOu
          cases he
          refine xr 1 rfl ?_
          refine exec_load1 (b := b5) (o := 0 + 0) (v := ptrV bn) rfl rfl ((hB5'.upd hw2).cell rfl) ?_
          refine xr 2 rfl ?_
          refine exec_loadN (b := bn) (o := 0 + 0) (vs := hC r.hash) rfl rfl (node_cell0 (hBn.upd (hwW.trans hWW2))).1 (hC_length _) ?_
          refine xju (ok_mkL (l := [(0, 1, .bool true), (1, 32, hV r.hash)]) (cs := rootC (some r.hash)) rfl (root_fill _)) rfl ?_
          refine exec_store (b := b6) (o := 0) (v := .agg (rootC (some r.hash)).toArray) rfl rfl hB6' (by simp [Value.cells, rootC, hC_length]) (by simp [rootC]) (by have := rootC_ok (some r.hash); simpa [Value.cells] using this) ?_
          intro W3 hw3 _ hB63
          have zW2 := hWW2.size
          refine exec_meet () ⟨?_, hWW2.trans hw3 (fun b hb => .inr (by simp at hb; omega))⟩ ⟨rfl, rfl, rfl, rfl, rfl, rfl, rfl, trivial⟩
          rw [splice_all (by simp [Value.cells, rootC, hC_length])] at hB63
          exact hB63
    · refine exec_meet () ⟨?_, hWW2⟩ ⟨rfl, rfl, rfl, rfl, rfl, rfl, rfl, trivial⟩
      cases pu with
      | some q => cases hq
      | none =>
        cases hd : t.1 with
        | none => exact hB6'
        | some r =>
          rw [hd] at hOu
          obtain ⟨_, _, _, _, he, _⟩ := TrAt.node hOu
          cases he
    · rintro _ X ⟨hBX, hWX⟩
      refine xr 1 rfl ?_
      obtain ⟨ra, rl, rc, rfl⟩ := iO.slice
      have iBX := iB.upd hWX
      refine exec_load1 (b := b3) (o := 0 + 1) rfl rfl (iBX.cell rfl) ?_
      refine exec_loadN (b := b6) (o := 0) rfl rfl hBX.memAll (rootC_len _) ?_
      refine exec_litL (N := 33) (cs := rootC (t.1.map Tr.hash)) (l := [(0, 33, .agg (rootC (t.1.map Tr.hash)).toArray)]) rfl (root_fill1 _) (by rw [rootC_len]) rfl ?_
      intro bl X1 hbl hsl hx1 hOl
      have iOX := (iO.upd hWX (by simp)).upd hx1 (by simp)
      refine exec_ok (ok_append (N := 33) rfl rfl iOX hOl.sl rfl (by decide) (by omega) (rootC_ok _)) rfl ?_
      rintro v2 X2 ⟨hO2, hx2, hf2, _⟩
      obtain ⟨va, vl, vc, rfl⟩ := hO2.slice
      refine xr 1 rfl ?_
      have zX := hWX.size
      have zX1 := hx1.size
      have zU := iU.size
      have hb3n : b3 ∉ blkOf (.slice ra rl rc) := fun hm => by have := iF b3 hm; omega
      have iB2 := (iBX.upd hx1).upd hx2 hb3n
      refine exec_store (b := b3) (o := 0 + 1) (v := .slice va vl vc) rfl rfl iB2 rfl (by simp) rfl ?_
      intro X3 hx3 _ hB3n
      have hB3n' : Blk X3 b3 [u64V s.L.length, .slice va vl vc] := hB3n
      clear hB3n
      refine xr 2 rfl ?_
      refine xpu (pv_addI (a := i) (b := 1) rfl rfl (by omega)) rfl ?_
      refine xr 1 rfl ?_
      have hfr : ∀ b ∈ blkOf (.slice va vl vc), w3.heap.size ≤ b := fun b hb => by
        rcases hf2 b hb with h | h
        · exact iF b h
        · omega
      refine xag (i + 1, .slice va vl vc) ⟨hi, hB3n', ?_, ?_, hfr⟩ (by show ts.length - (i + 1) < ts.length - i; omega) ⟨rfl, rfl, rfl, rfl, rfl, rfl, trivial⟩
      · rw [rootsT_next hti, rootsC, List.flatMap_append]
        refine OwnC.upd ?_ hx3 (fun b hb hm => by have := hfr b hb; simp at hm; omega)
        simpa [rootsC] using hO2
      · exact (((iU.trans hWX).trans hx1).trans hx2 (fun b hb => .inr (iF b hb))).trans hx3
  · refine xpu (pv_lssI (a := i) (b := ts.length) (q := false) rfl rfl (by simpa using hi)) rfl ?_
    have : i = ts.length := by omega
    subst this
    rw [List.take_length] at iO
    obtain ⟨ra, rl, rc, rfl⟩ := iO.slice
    refine xr 3 rfl ?_
    refine exec_loadN (b := b3) (o := 0) (vs := [u64V s.L.length, .slice ra rl rc]) rfl rfl iB.memAll rfl ?_
    refine exec_store (b := b2) (o := 0) (v := .agg #[u64V s.L.length, .slice ra rl rc]) rfl rfl ((hB2'.upd hu3).upd iU (by simp; omega)) rfl (by simp) rfl ?_
    intro X hx _ hBX
    have hBX' : Blk X b2 [u64V s.L.length, .slice ra rl rc] := hBX
    refine xre hc [.agg #[u64V s.L.length, .slice ra rl rc]] ⟨⟨b2, 0, _, rfl, hBX'.memAll, rfl, rfl⟩, trivial⟩ ⟨_, rfl, hwW.trans hx (fun b hb => .inr (by simp at hb; omega)), ?_, fun b hb => by have := iF b hb; omega⟩
    have e1 : (rootsT ts).length = ts.length := by simp [rootsT]
    rw [e1]
    exact iO.upd hx (fun b hb hm => by have := iF b hb; simp at hm; omega)
end
end Go.Sp

namespace Go.Sp
section
variable {P : Program} {n : Nat} {c : Ctx} {D : List Deferred} {is : List Ins} {k : Kont} {e : Env} {w : World}
/-- a range whose variable lives in memory, over what comes in no known order -/
theorem exec_rangeGn {α S : Type} {f : Operand} {gf : FuncId} {lb : List Value} {ps : Array Nat} {d p : Nat} {T : TypeId} {z : Array Value} {N : Nat} {body : List Ins} (hf : e.ev f = some (.func (.func gf) #[] lb.toArray)) (hen : Enters P gf) (hrd : c.rd = none)
    (rds wrs : List Nat) (encs : α → List Value) (Part : List α → α → Prop) (Good : List α → Prop) (hseq : ∀ w1, Ext w w1 → SeqG P gf lb w1 rds wrs encs Part Good) (val : α → Value) (hval : ∀ x, (zipEnv ps.toList (encs x) e).get p = some (val x)) (hd' : Nat.blt d n = true) (hdp : p ≠ d)
    (hsz : ∀ x, (val x).cells.size = N) (hz : z.size = N) (hcv : ∀ x, (val x).cells.toList.all cellValue = true)
    (n0 : Nat) (ws : List Nat) (loc : S → List Nat) (J : List α → S → World → Prop) (Jx : Option Nat → S → World → Prop) (s0 : S)
    (hJ : ∀ i, Frames n0 loc (J i)) (hJx : ∀ cd, Frames n0 loc (Jx cd)) (h0 : J [] s0 w) (hn0 : n0 ≤ w.heap.size) (hl0 : ∀ b ∈ ws ++ loc s0, b < w.heap.size)
    (hwr : ∀ b ∈ wrs, b < w.heap.size ∧ n0 ≤ b ∧ b ∉ ws ∧ b ∉ loc s0) (hrds : ∀ b ∈ rds, b < w.heap.size ∧ b ∉ ws ∧ b ∉ loc s0)
    (hps : ∀ x, (encs x).length = ps.size) (hpn : ps.toList.all (fun p => Nat.blt p n) = true)
    (round : ∀ l c' pre s W x bx, RoundCtx l (fun W' => ∃ s', J (pre ++ [x]) s' W' ∧ Upd (ws ++ loc s) W W' ∧ (∀ b ∈ loc s', b ∈ loc s ∨ W.heap.size ≤ b) ∧ (∀ b ∈ loc s', b < W'.heap.size))
        (fun cd W' => ∃ s', Jx cd s' W' ∧ Upd (ws ++ loc s) W W' ∧ (∀ b ∈ loc s', b ∈ loc s ∨ W.heap.size ≤ b) ∧ (∀ b ∈ loc s', b < W'.heap.size)) c' →
      J pre s W → Part pre x → (∀ b ∈ ws ++ loc s, b < W.heap.size) → n0 ≤ bx → bx ∉ ws ++ loc s → Blk W bx (val x).cells.toList → Exec P n c' [] body .done ((d, .pointer (some ⟨bx, 0, none⟩)) :: zipEnv ps.toList (encs x) e) W)
    (done : ∀ D0 xs s W, w.heap.size ≤ D0 → Good xs → J xs s W → W.heap[D0]? = some (.deferred (some [])) → D0 ∉ loc s → Exec P n c (markOf D0 :: D) is k e W)
    (stop : ∀ cd D0 s W, w.heap.size ≤ D0 → Jx cd s W → W.heap[D0]? = some (.deferred (some [])) → D0 ∉ loc s → Exec P n c (markOf D0 :: D) (jumpIns cd ++ is) k e W) :
    Exec P n c D (.rangeF f ps [.op none (some d) (.new T z), .op none none (.store N (.tmp d) (.tmp p))] body :: is) k e w := by
  refine exec_rangeF_core hf hen hrd rds wrs encs Part Good hseq n0 ws loc J Jx s0 hJ hJx h0 hn0 hl0 hwr hrds hps (fun p hp => by simpa using List.all_eq_true.1 hpn p hp)
    (fun x e1 w1 w2 => ∃ b, e1 = (d, .pointer (some ⟨b, 0, none⟩)) :: zipEnv ps.toList (encs x) e ∧ b = w1.heap.size ∧ Blk w2 b (val x).cells.toList) (fun x => asg_of_exec fun c w => ?_) ?_ done stop
  · refine exec_new_store (v := val x) (hval x) hd' (by cases h : Nat.beq p d with | false => simp [h] | true => exact absurd (Nat.eq_of_beq_eq_true h) hdp) (hsz x) hz (hcv x) ?_
    intro b w' hb hs hu hB
    exact exec_mid (w0 := w) (Mid := fun e1 w1 w2 => ∃ b, e1 = (d, .pointer (some ⟨b, 0, none⟩)) :: zipEnv ps.toList (encs x) e ∧ b = w1.heap.size ∧ Blk w2 b (val x).cells.toList) hu ⟨b, rfl, hb, hB⟩ rfl
  · intro l c' pre s W x e1 W1 W2 hl hl2 hc hi hpx hlw hm hu1 hu2 hs2 hns
    obtain ⟨b, rfl, hb, hB⟩ := hm
    have hi1 := hJ pre s _ _ [] hi hu1 (by simp)
    have hi2 := hJ pre s _ _ [l] hi1 hu2 (by intro b hb; simp at hb; subst hb; exact ⟨by omega, hns⟩)
    have hs1 := hu1.size
    refine round l c' pre s W2 x b ⟨hc.rd, ?_, ?_, ?_⟩ hi2 hpx (fun b hb => by have := hlw b hb; omega) (by omega) (fun h => by have := hlw b h; omega) (hB.upd hu2 (by simp; omega))
    · rintro a W' ⟨s', h1, h2, h3, h4⟩; exact hc.norm a W' ⟨s', h1, h2, fun b hb => (h3 b hb).imp (fun h => h) (fun h => by omega), h4⟩
    · rintro a W' ⟨s', h1, h2, h3, h4⟩; exact hc.ret a W' ⟨s', h1, h2, fun b hb => (h3 b hb).imp (fun h => h) (fun h => by omega), h4⟩
    · rintro a W' id ⟨s', h1, h2, h3, h4⟩; exact hc.exit a W' id ⟨s', h1, h2, fun b hb => (h3 b hb).imp (fun h => h) (fun h => by omega), h4⟩
end
theorem hash_fill (q : Hash) : fillL (rleL [(32, .int .u8 0)]) [(0, 32, hV q)] = some (hC q) := by
  have e1 : cellL (hV q) = hC q := by simp [hV, cellL]
  have hl : (rleL [(32, Value.int .u8 0)]).length = 32 := rfl
  rw [fillL_cons (by rw [e1, hC_length]) (by rw [hl]; omega), e1, splice_all (by rw [hC_length, hl])]
  rfl
section
variable {P : Program} {f : Nat} {w : World}
/-- maps.Keys at map[Hash]uint64 -/
theorem keysH1_ok {TH : Nat} (h : Has P f (b_maps_Keys_map_api_Hashuint64_api_Hash_uint64_1 TH)) {bs r : Nat} {l : List (Hash × Nat)} (hB : Blk w bs [.map (some r)]) (hm : MapAt w r hV u64V l) :
    SeqG P f [ptrV' bs] w [bs, r] [] (fun q => [hV q]) (fun pre x => pre.length < (keys l).length) (fun xs => xs.Perm (keys l)) := by
  refine SeqG.of_ret fun S y n0 ws loc J Jx s0 hJ hJx h0 hn0 hl0 hwr hrd hrounds => ?_
  refine Ret.of_exec h (Nat.le_of_ble_eq_true rfl) fun c hc => ?_
  dsimp only [b_maps_Keys_map_api_Hashuint64_api_Hash_uint64_1, argEnv, ym, yo, yg, ys, yt, yd, ye]
  refine exec_load1 (b := bs) (o := 0) rfl rfl (hB.cell rfl) ?_
  refine exec_range rfl rfl hm ?_
  intro it w1 hit hs1 hu1 hI1
  have hnd := hm.nodup
  have hr0 := hrd r (by simp)
  refine xr 1 rfl ?_
  refine xlo (S := List Hash × List Hash × Option (Hash × Nat) × S) (fun s W => J s.1 s.2.2.2 W ∧ IterAt W it r hV u64V l s.2.1 s.2.2.1 ∧ (s.1 ++ s.2.1).Perm (keys l) ∧ r ∉ ws ++ loc s.2.2.2 ∧ it ∉ ws ++ loc s.2.2.2 ∧ n0 ≤ it ∧ (∀ b ∈ ws ++ loc s.2.2.2, b < W.heap.size))
    (fun s => [(0, .func (.yield y) #[] #[]), (5, ptrV' it)]) (fun s => s.2.1.length) ([], keys l, none, s0)
    ⟨hJ _ _ _ _ [] h0 hu1 (by simp), hI1, by simp, by simp [hr0], fun hx => ?_, by omega, fun b hb => ?_⟩ ⟨rfl, rfl, trivial⟩ ?_
  · have := hl0 _ hx; omega
  · have := hl0 _ hb; omega
  rintro ⟨pre, rem, last, s⟩ W ⟨hJi, hI, hp, hrn, hin, hni, hlw⟩
  simp only at hJi hI hp hrn hin hlw
  refine exec_next' rfl rfl hI (fun hrem => ?_) (fun a b w2 rem' ha hab hu2 hs2 hI2 hR => ?_)
  · refine xr 4 rfl ?_
    subst hrem
    exact exec_end hc [] trivial (.inl ⟨pre, s, by simpa using hp, hJi⟩)
  · refine xr 4 rfl ?_
    refine xju (ok_entry rfl hI2) rfl ?_
    refine xr 1 rfl ?_
    refine exec_new_store (v := hV a) rfl rfl rfl (hV_size a) rfl (by rw [hV_cells]; exact hC_cell _) ?_
    intro b3 w3 hb3 hs3 hu3' hB3
    rw [hV_cells] at hB3
    refine xr 1 rfl ?_
    refine exec_loadN (b := b3) (o := 0) (vs := hC a) rfl rfl hB3.memAll (hC_length _) ?_
    have hplen : pre.length < (keys l).length := by
      have := hp.length_eq
      have hpos : 0 < rem.length := List.length_pos_of_mem ha
      simp only [List.length_append] at this; omega
    have hJ2 := hJ pre s W w2 [it] hJi hu2 (fun b hb => by simp at hb; subst hb; exact ⟨hni, fun h => hin (List.mem_append_right _ h)⟩)
    have hJ3 := hJ pre s w2 w3 [] hJ2 hu3' (by simp)
    have hI3 := hI2.upd hu3' (by simp) (by simp)
    have hlw3 : ∀ b ∈ ws ++ loc s, b < w3.heap.size := fun b hb => by have := hlw b hb; omega
    refine exec_yield (l := y) (vs := [hV a]) rfl rfl rfl (hrounds pre s w3 a hJ3 hplen hlw3) ?_
    rintro go W1 ⟨s1, hgo, hu3, hfr, hlt⟩
    have z3 := hu3.size
    have hrn1 : r ∉ ws ++ loc s1 := by
      simp only [List.mem_append, not_or] at hrn ⊢
      refine ⟨hrn.1, fun hm' => ?_⟩
      rcases hfr _ hm' with h4 | h4
      · exact hrn.2 h4
      · have := hI3.map.lt; omega
    have hin1 : it ∉ ws ++ loc s1 := by
      simp only [List.mem_append, not_or] at hin ⊢
      refine ⟨hin.1, fun hm' => ?_⟩
      rcases hfr _ hm' with h4 | h4
      · exact hin.2 h4
      · have := hI3.lt; omega
    cases go with
    | false =>
      refine xr 2 rfl ?_
      exact xre hc [] trivial (.inr ⟨s1, hgo⟩)
    | true =>
      simp only [if_true] at hgo
      refine xr 5 rfl ?_
      refine xag (pre ++ [a], _, some (a, b), s1) ⟨hgo, hI3.upd hu3 hrn hin, hR.perm hp, hrn1, hin1, hni, fun b' hb' => ?_⟩ hR.lt ⟨rfl, rfl, trivial⟩
      rcases List.mem_append.1 hb' with h2 | h2
      · have := hlw b' (List.mem_append_left _ h2); omega
      · exact hlt b' h2
/-- slices.AppendSeq of hashes, onto nil -/
theorem appendSeqH_ok {T1 T2 gf : Nat} (h : Has P f (b_slices_AppendSeq_api_Hash_api_Hash T1 T2)) {lb : List Value} (hen : Enters P gf) {rds : List Nat} {Part : List Hash → Hash → Prop} {Good : List Hash → Prop}
    (hseq : ∀ w1, Ext w w1 → SeqG P gf lb w1 rds [] (fun q => [hV q]) Part Good) (hrds : ∀ b ∈ rds, b < w.heap.size) (hpart : ∀ pre x, Part pre x → pre.length < 2 ^ 40) :
    Ret P f [.slice none 0 0, .func (.func gf) #[] lb.toArray] w fun v w' => ∃ xs, Good xs ∧ OwnC w' v 32 xs.length (hs xs) ∧ Ext w w' ∧ ∀ b ∈ blkOf v, w.heap.size ≤ b := by
  refine Ret.of_exec h (Nat.le_of_ble_eq_true rfl) fun c hc => ?_
  dsimp only [b_slices_AppendSeq_api_Hash_api_Hash, argEnv, ym, yo, yg, ys, yt, yd, ye]
  refine exec_box rfl rfl ?_
  intro b2 w1 hb2 hs1 hu1 hB2
  refine xr 3 rfl ?_
  refine exec_rangeGn (S := Value) rfl hen hc.rd rds [] (fun q => [hV q]) Part Good (fun W hu => hseq W (hu1.trans hu)) hV (fun _ => rfl) rfl (by decide) (fun x => hV_size x) rfl (fun x => by rw [hV_cells]; exact hC_cell _)
    w.heap.size [] (fun v => b2 :: blkOf v)
    (fun pre v W => Blk W b2 [v] ∧ OwnC W v 32 pre.length (hs pre) ∧ Ext w W ∧ (∀ b ∈ blkOf v, w.heap.size ≤ b ∧ b ≠ b2))
    (fun _ _ _ => False) (.slice none 0 0) ?_ ?_ ?_ ?_ ?_ ?_ ?_ (fun _ => rfl) rfl ?_ ?_ ?_
  · intro pre v W W' l' ⟨h1, h2, h3, h4⟩ hu hb
    refine ⟨h1.upd hu ?_, h2.upd hu ?_, h3.trans hu (fun b hb' => .inr (hb b hb').1), h4⟩
    · intro hm; exact (hb _ hm).2 (by simp)
    · intro b hb1 hm; exact (hb _ hm).2 (by simp [hb1])
  · intro cd v W W' l' h; exact h.elim
  · exact ⟨hB2, .inl ⟨rfl, rfl, rfl⟩, hu1, by simp [blkOf]⟩
  · omega
  · intro b hb; simp [blkOf] at hb; omega
  · simp
  · intro b hb; have := hrds b hb; refine ⟨by omega, by simp, ?_⟩; simp [blkOf]; omega
  · rintro l c' pre v W q bx hc' ⟨h1, h2, h3, h4⟩ hpq hlw hnw hbxn hBx
    rw [hV_cells] at hBx
    have hlen := hpart pre q hpq
    refine xbk ?_
    refine exec_load1 (b := b2) (o := 0) rfl rfl (h1.cell rfl) ?_
    refine exec_loadN (b := bx) (o := 0) (vs := hC q) rfl rfl hBx.memAll (hC_length _) ?_
    refine exec_litL (N := 32) (cs := hC q) (l := [(0, 32, hV q)]) rfl (hash_fill q) (by rw [hC_length]) rfl ?_
    intro bl w7 hbl hs7 hu7 hO7
    refine exec_ok (ok_append (N := 32) rfl rfl (h2.upd hu7 (by simp)) hO7.sl rfl (by decide) (by omega) (hC_cell _)) rfl ?_
    rintro v2 w8 ⟨hO8, hu8, hf8, hl8⟩
    have n2 : b2 ∉ blkOf v := fun h => (h4 _ h).2 rfl
    have z7 := hu7.size
    have z8 := hu8.size
    have k2 := h1.lt
    have n2' : ∀ b ∈ blkOf v2, w.heap.size ≤ b ∧ b ≠ b2 := by
      intro b hb
      rcases hf8 b hb with h | h
      · exact h4 b h
      · exact ⟨by omega, by omega⟩
    have hcv : v2.cells.size = 1 ∧ v2.cells.toList.all cellValue = true ∧ splice [v] 0 v2.cells.toList = [v2] := by
      rcases hO8 with ⟨h, _⟩ | ⟨_, _, _, h, _⟩ <;> rw [h] <;> exact ⟨rfl, rfl, rfl⟩
    refine exec_store (b := b2) (o := 0) (v := v2) rfl rfl ((h1.upd hu7).upd hu8 n2) hcv.1 (by simp) hcv.2.1 ?_
    intro w9 hu9 hs9 hB9
    rw [hcv.2.2] at hB9
    have z9 := hu9.size
    refine xr 2 rfl ?_
    refine exec_round_end hc' ⟨v2, ⟨hB9, ?_, ?_, n2'⟩, ?_, ?_, ?_⟩
    · have := hO8.upd hu9 (fun b hb => by simp; exact (n2' b hb).2)
      rw [List.length_append, hs_append]
      simpa [hs] using this
    · exact ((h3.trans hu7).trans hu8 (fun b hb => .inr (h4 b hb).1)).trans hu9 (fun b hb => .inr (by simp at hb; omega))
    · exact ((hu7.mono (by simp)).trans hu8 (fun b hb => .inl (by simp [hb]))).trans hu9 (fun b hb => .inl (by simp at hb; simp [hb]))
    · intro b hb
      simp only [List.mem_cons] at hb ⊢
      rcases hb with h | h
      · exact .inl (.inl h)
      · rcases hf8 b h with h' | h'
        · exact .inl (.inr h')
        · exact .inr (by omega)
    · intro b hb
      simp only [List.mem_cons] at hb
      rcases hb with h | h
      · omega
      · have := hl8 b h; omega
  · rintro D0 xs v W hD hg ⟨h1, h2, h3, h4⟩ hsh hnl
    refine xr 2 rfl ?_
    refine exec_load1 (b := b2) (o := 0) rfl rfl (h1.cell rfl) ?_
    refine xr 1 rfl ?_
    refine exec_returnM hc [D0] rfl (by simp) (fun r hr => by simp at hr; subst hr; exact hsh) [v] fun W' hu' hs' => ?_
    refine ⟨⟨rfl, trivial⟩, xs, hg, h2.upd hu' (fun b hb hm => ?_), h3.trans hu' (fun b hb => .inr (by simp at hb; omega)), fun b hb => (h4 b hb).1⟩
    simp only [List.mem_singleton] at hm
    subst hm
    exact hnl (by simp [hb])
  · intro cd D0 v W _ h; exact h.elim
end
end Go.Sp

namespace Go.Sp
def cmpN (a b : Nat) : Int := if a < b then -1 else if b < a then 1 else 0
/-- what slices.SortFunc is to do at hashes -/
def SortHOK (P : Program) (f : FuncId) : Prop := ∀ (w : World) (v : Value) (l : List Hash) (g : FuncId) (cb : List Value) (p : Hash → Nat), OwnC w v 32 l.length (hs l) → l.length < 2 ^ 40 → Enters P g →
  (∀ W x y, Upd (blkOf v) w W → Ret P g (hV x :: hV y :: cb) W fun r w' => r = .int .i64 (cmpN (p x) (p y)) ∧ Ext W w') →
  Ret P f [v, .func (.func g) #[] cb.toArray] w fun _ w' => ∃ l', l'.Perm l ∧ l'.Pairwise (fun a b => p a ≤ p b) ∧ OwnC w' v 32 l.length (hs l') ∧ Upd (blkOf v) w w'
/-- the live leaves, in order -/
def liveL (L : List (Option Hash)) : List Hash := L.filterMap id
theorem live_sorted {L : List (Option Hash)} {q : Hash → Nat} (h : ∀ (i : Nat) x, L[i]? = some (some x) → q x = i) : (liveL L).Pairwise (fun a b => q a < q b) := by
  have key : ∀ (L : List (Option Hash)) (n : Nat), (∀ (i : Nat) x, L[i]? = some (some x) → q x = n + i) → (liveL L).Pairwise (fun a b => q a < q b) ∧ ∀ x ∈ liveL L, n ≤ q x := by
    intro L
    induction L with
    | nil => intro n _; exact ⟨.nil, fun x hx => by simp [liveL] at hx⟩
    | cons o L ih =>
      intro n hL
      obtain ⟨h1, h2⟩ := ih (n + 1) fun i x hx => by have := hL (i + 1) x (by simpa using hx); omega
      cases o with
      | none =>
        exact ⟨h1, fun x hx => by have := h2 x hx; omega⟩
      | some a =>
        have ha : q a = n := hL 0 a rfl
        refine ⟨List.pairwise_cons.2 ⟨fun b hb => by have := h2 b hb; omega, h1⟩, fun x hx => ?_⟩
        rcases List.mem_cons.1 hx with rfl | hx
        · omega
        · have := h2 x hx; omega
  exact (key L 0 fun i x hx => by rw [h i x hx]; omega).1
theorem perm_sorted {l l' : List Hash} {q : Hash → Nat} (hp : l'.Perm l) (h : l.Pairwise (fun a b => q a < q b)) (h' : l'.Pairwise (fun a b => q a ≤ q b)) : l' = l := by
  have hinj : ∀ a ∈ l, ∀ b ∈ l, q a = q b → a = b := by
    intro a ha b hb hab
    obtain ⟨i, hi, rfl⟩ := List.mem_iff_getElem.1 ha
    obtain ⟨j, hj, rfl⟩ := List.mem_iff_getElem.1 hb
    rcases Nat.lt_trichotomy i j with hij | hij | hij
    · have := List.pairwise_iff_getElem.1 h i j hi hj hij; omega
    · subst hij; rfl
    · have := List.pairwise_iff_getElem.1 h j i hj hi hij; omega
  refine List.Perm.eq_of_pairwise (le := fun a b => q a ≤ q b) (fun a b ha hb h1 h2 => ?_) h' (h.imp fun h => Nat.le_of_lt h) hp
  exact hinj a (hp.mem_iff.1 ha) b hb (by omega)
/-- the functions of forest, on -/
structure ForP (P : Program) extends ForO P where
  keysH1 : Nat
  keysH : Nat
  appH : Nat
  collH : Nat
  sortH : Nat
  sortedH : Nat
  isNaN : Nat
  cmpU : Nat
  leaves1 : Nat
  leaves : Nat
  TKm : Nat
  TSH : Nat
  TLv : Nat
  h_keysH1 : Has P keysH1 (b_maps_Keys_map_api_Hashuint64_api_Hash_uint64_1 TH)
  h_keysH : Has P keysH (b_maps_Keys_map_api_Hashuint64_api_Hash_uint64 keysH1 TKm)
  h_appH : Has P appH (b_slices_AppendSeq_api_Hash_api_Hash TSH TH)
  h_collH : Has P collH (b_slices_Collect_api_Hash appH)
  h_sortH : SortHOK P sortH
  h_sortedH : Has P sortedH (b_slices_SortedFunc_api_Hash collH sortH)
  h_isNaN : Has P isNaN b_cmp_isNaN_uint64
  h_cmpU : Has P cmpU (b_cmp_Compare_uint64 isNaN)
  h_leaves1 : Has P leaves1 (b_Pforest_Forest_Leaves_1 cmpU TH)
  h_leaves : Has P leaves (b_Pforest_Forest_Leaves is' keysH leaves1 sortedH TLv)
section
variable {P : Program} {f : Nat} {w : World}
theorem isNaNU_ok (A : ForP P) (a : Nat) : RetV P A.isNaN [u64V a] w (.bool false) := by
  refine Ret.of_exec A.h_isNaN (Nat.le_of_ble_eq_true rfl) fun c hc => ?_
  dsimp only [b_cmp_isNaN_uint64, argEnv, ym, yo, yg, ys, yt, yd, ye]
  refine xr 3 rfl ?_
  refine xpu (pv_neqI (a := a) (b := a) (q := false) rfl rfl (by simp)) rfl ?_
  refine xr 1 rfl ?_
  exact xre hc [_] ⟨rfl, trivial⟩ ⟨rfl, Upd.refl _ _⟩
theorem cmpU_ok (A : ForP P) (a b : Nat) : RetV P A.cmpU [u64V a, u64V b] w (.int .i64 (cmpN a b)) := by
  refine Ret.of_exec A.h_cmpU (Nat.le_of_ble_eq_true rfl) fun c hc => ?_
  dsimp only [b_cmp_Compare_uint64, argEnv, ym, yo, yg, ys, yt, yd, ye]
  refine xr 2 rfl ?_
  refine xca rfl rfl (isNaNU_ok A a) ?_
  rintro _ w1 ⟨rfl, hu1⟩
  refine xr 2 rfl ?_
  refine xca rfl rfl (isNaNU_ok A b) ?_
  rintro _ w2 ⟨rfl, hu2⟩
  refine xr 9 rfl ?_
  by_cases h1 : a < b
  · refine xpu (pv_lssI (a := a) (b := b) (q := true) rfl rfl (by simpa using h1)) rfl ?_
    refine xr 2 rfl ?_
    exact xre hc [_] ⟨rfl, trivial⟩ ⟨by rw [cmpN, if_pos h1]; rfl, hu1.trans hu2⟩
  · refine xpu (pv_lssI (a := a) (b := b) (q := false) rfl rfl (by simpa using h1)) rfl ?_
    refine xr 4 rfl ?_
    by_cases h2 : b < a
    · refine xpu (pv_gtrI (a := a) (b := b) (q := true) rfl rfl (by simpa using h2)) rfl ?_
      refine xr 2 rfl ?_
      exact xre hc [_] ⟨rfl, trivial⟩ ⟨by rw [cmpN, if_neg h1, if_pos h2]; rfl, hu1.trans hu2⟩
    · refine xpu (pv_gtrI (a := a) (b := b) (q := false) rfl rfl (by simpa using h2)) rfl ?_
      refine xr 3 rfl ?_
      exact xre hc [_] ⟨rfl, trivial⟩ ⟨by rw [cmpN, if_neg h1, if_neg h2]; rfl, hu1.trans hu2⟩
theorem ok_get {T r : Nat} {e : Env} {x y : Operand} {h : Hash} {wl : List (Hash × Nat)} (hT : TyBytes P T 32) (hx : e.ev x = some (.map (some r))) (hy : e.ev y = some (hV h)) (hm : MapAt w r hV u64V wl) :
    OpOK P (.lookup T (.int .u64 0) x y false) e w (Just (u64V ((aget h wl).getD 0)) w) := by
  have := ok_lookup (z := .int .u64 0) (ok := false) (keyOK_hash hT) hx hy hm
  cases ho : aget h wl with
  | none => rw [ho] at this; exact this
  | some i => rw [ho] at this; exact this
theorem leaves1_ok (A : ForP P) {b1 p m : Nat} {cs : List Value} {wl : List (Hash × Nat)} (hB1 : Blk w b1 [ptrV p]) (hB : Blk w p cs) (hc2 : cs[2]? = some (.map (some m))) (hM : MapAt w m hV u64V wl) (x y : Hash) :
    Ret P A.leaves1 [hV x, hV y, ptrV b1] w fun r w' => r = .int .i64 (cmpN ((aget x wl).getD 0) ((aget y wl).getD 0)) ∧ Ext w w' := by
  refine Ret.of_exec A.h_leaves1 (Nat.le_of_ble_eq_true rfl) fun c hc => ?_
  dsimp only [b_Pforest_Forest_Leaves_1, argEnv, ym, yo, yg, ys, yt, yd, ye]
  refine exec_box rfl rfl ?_
  intro b3 w1 hb3 hs1 hu1 hB3
  rw [hV_cells] at hB3
  refine exec_box rfl rfl ?_
  intro b4 w2 hb4 hs2 hu2 hB4
  rw [hV_cells] at hB4
  have hE := hu1.trans hu2
  refine xr 1 rfl ?_
  refine exec_dwr rfl rfl rfl ?_
  refine ws_keep (ptrV p) rfl (fun X hx => ok_load1 (b := b1) (o := 0) rfl ((hB1.upd (hE.trans hx)).cell rfl)) ?_
  repeat (first | refine wtm rfl rfl rfl ?_ | refine wgt rfl rfl rfl rfl ?_ | refine wgs rfl rfl ?_)
  refine ws_keep (.map (some m)) rfl (fun X hx => ok_load1 (b := p) (o := 0 + 2) rfl ((hB.upd (hE.trans hx)).cell hc2)) ?_
  refine ws_keep (hV x) rfl (fun X hx => ok_loadN (b := b3) (o := 0) rfl (hB3.upd (hu2.trans hx)).memAll (hC_length _)) ?_
  refine ws_keep _ rfl (fun X hx => ok_get A.h_TH rfl rfl (hM.upd (hE.trans hx))) ?_
  refine ws_keep (ptrV p) rfl (fun X hx => ok_load1 (b := b1) (o := 0) rfl ((hB1.upd (hE.trans hx)).cell rfl)) ?_
  repeat (first | refine wtm rfl rfl rfl ?_ | refine wgt rfl rfl rfl rfl ?_ | refine wgs rfl rfl ?_)
  refine ws_keep (.map (some m)) rfl (fun X hx => ok_load1 (b := p) (o := 0 + 2) rfl ((hB.upd (hE.trans hx)).cell hc2)) ?_
  refine ws_keep (hV y) rfl (fun X hx => ok_loadN (b := b4) (o := 0) rfl (hB4.upd hx).memAll (hC_length _)) ?_
  refine ws_keep _ rfl (fun X hx => ok_get A.h_TH rfl rfl (hM.upd (hE.trans hx))) ?_
  refine ws_fin fun w3 hw3 => ?_
  refine xca rfl rfl (cmpU_ok A _ _) ?_
  rintro _ w4 ⟨rfl, hu4⟩
  refine xr 1 rfl ?_
  exact xre hc [_] ⟨rfl, trivial⟩ ⟨rfl, (hE.trans hw3).trans hu4⟩
theorem keysH_ok (A : ForP P) {r : Nat} : Ret P A.keysH [.map (some r)] w fun v' w' => v' = .func (.func A.keysH1) #[] #[ptrV w.heap.size] ∧ Blk w' w.heap.size [.map (some r)] ∧ Ext w w' := by
  refine Ret.of_exec A.h_keysH (Nat.le_of_ble_eq_true rfl) fun c hc => ?_
  dsimp only [b_maps_Keys_map_api_Hashuint64_api_Hash_uint64, argEnv, ym, yo, yg, ys, yt, yd, ye]
  refine exec_box rfl rfl ?_
  intro b w2 hb hs hu hB
  subst hb
  refine xr 3 rfl ?_
  exact xre hc [_] ⟨rfl, trivial⟩ ⟨rfl, hB, hu⟩
theorem collectH_ok (A : ForP P) {gf : Nat} {lb : List Value} (hen : Enters P gf) {rds : List Nat} {Part : List Hash → Hash → Prop} {Good : List Hash → Prop}
    (hseq : ∀ w1, Ext w w1 → SeqG P gf lb w1 rds [] (fun q => [hV q]) Part Good) (hrds : ∀ b ∈ rds, b < w.heap.size) (hpart : ∀ pre x, Part pre x → pre.length < 2 ^ 40) :
    Ret P A.collH [.func (.func gf) #[] lb.toArray] w fun v w' => ∃ xs, Good xs ∧ OwnC w' v 32 xs.length (hs xs) ∧ Ext w w' ∧ ∀ b ∈ blkOf v, w.heap.size ≤ b := by
  refine Ret.of_exec A.h_collH (Nat.le_of_ble_eq_true rfl) fun c hc => ?_
  dsimp only [b_slices_Collect_api_Hash, argEnv, ym, yo, yg, ys, yt, yd, ye]
  refine xr 2 rfl ?_
  refine xca rfl rfl (appendSeqH_ok A.h_appH hen hseq hrds hpart) ?_
  rintro v w1 h
  refine xr 1 rfl ?_
  exact xre hc [_] ⟨rfl, trivial⟩ h
theorem keys_live {wl : List (Hash × Nat)} {L : List (Option Hash)} (hn : (keys wl).Nodup) (h : WhereOK wl L) : (keys wl).Perm (liveL L) ∧ (liveL L).Pairwise (fun a b => (aget a wl).getD 0 < (aget b wl).getD 0) := by
  have hs := live_sorted (L := L) (q := fun a => (aget a wl).getD 0) fun i x hx => by
    show (aget x wl).getD 0 = i
    rw [(h x i).2 hx]; rfl
  refine ⟨(List.perm_ext_iff_of_nodup hn (hs.imp fun {a b} hab he => by subst he; exact absurd hab (Nat.lt_irrefl _))).2 fun a => ?_, hs⟩
  rw [liveL, List.mem_filterMap]
  constructor
  · intro ha
    obtain ⟨i, hi⟩ := mem_keys_aget ha
    exact ⟨some a, List.mem_of_getElem? ((h a i).1 hi), rfl⟩
  · rintro ⟨o, ho, hoa⟩
    have : o = some a := hoa
    subst this
    obtain ⟨i, hi⟩ := List.getElem?_of_mem ho
    have := (h a i).2 hi
    by_cases hk : a ∈ keys wl
    · exact hk
    · rw [aget_none.2 hk] at this; cases this
theorem leaves_ok (A : ForP P) {p m : Nat} {s : Fo} (h : FAt w p m s) : Ret P A.leaves [ptrV p] w fun v w' => OwnC w' v 32 (liveL s.L).length (hs (liveL s.L)) ∧ Ext w w' ∧ ∀ b ∈ blkOf v, w.heap.size ≤ b := by
  have hF := h
  have hlen := h.len
  obtain ⟨⟨tv, wl, h1, h2, h3, h4⟩, _⟩ := h
  obtain ⟨hkp, hks⟩ := keys_live h3.nodup h4
  have hll : (liveL s.L).length ≤ s.L.length := List.length_filterMap_le _ _
  refine Ret.of_exec A.h_leaves (Nat.le_of_ble_eq_true rfl) fun c hc => ?_
  dsimp only [b_Pforest_Forest_Leaves, argEnv, ym, yo, yg, ys, yt, yd, ye]
  refine exec_box rfl rfl ?_
  intro b1 w1 hb1 hs1 hu1 hB1
  have hB1' : Blk w1 b1 [ptrV p] := hB1
  refine xr 1 rfl ?_
  refine exec_load1 (b := b1) (o := 0) rfl rfl (hB1'.cell rfl) ?_
  refine xca rfl rfl (is_ok A.toForJ (hF.ext hu1)) ?_
  rintro _ w2 ⟨rfl, hu2⟩
  refine xr 3 rfl ?_
  have hE2 : Ext w w2 := hu1.trans hu2
  refine exec_load1 (b := b1) (o := 0) rfl rfl ((hB1'.upd hu2).cell rfl) ?_
  refine xr 2 rfl ?_
  refine exec_load1 (b := p) (o := 0 + 2) rfl rfl ((h1.upd hE2).cell rfl) ?_
  refine xca rfl rfl (keysH_ok A) ?_
  rintro _ w3 ⟨rfl, hB3, hu3⟩
  have hE3 := hE2.trans hu3
  refine xr 1 rfl ?_
  have hsort : Ret P A.sortedH [.func (.func A.keysH1) #[] #[ptrV w2.heap.size], .func (.func A.leaves1) #[] #[ptrV b1]] w3 fun v w' => OwnC w' v 32 (liveL s.L).length (hs (liveL s.L)) ∧ Ext w3 w' ∧ ∀ b ∈ blkOf v, w3.heap.size ≤ b := by
    refine Ret.of_exec A.h_sortedH (Nat.le_of_ble_eq_true rfl) fun c hc => ?_
    dsimp only [b_slices_SortedFunc_api_Hash, argEnv, ym, yo, yg, ys, yt, yd, ye]
    refine xr 2 rfl ?_
    refine xca rfl rfl (collectH_ok A A.h_keysH1.enters (lb := [ptrV w2.heap.size]) (fun W hu => keysH1_ok A.h_keysH1 (hB3.upd hu) ((h3.upd hE3).upd hu)) ?_ ?_) ?_
    · intro b hb
      simp at hb
      rcases hb with rfl | rfl
      · exact hB3.lt
      · exact (h3.upd hE3).lt
    · intro pre x hx
      have : pre.length < (keys wl).length := hx
      have := hkp.length_eq
      omega
    rintro v w4 ⟨xs, hg, hO, hu4, hf4⟩
    refine xr 3 rfl ?_
    have hxl : xs.length = (liveL s.L).length := (hg.trans hkp).length_eq
    refine xca rfl rfl (A.h_sortH w4 v xs A.leaves1 [ptrV b1] (fun a => (aget a wl).getD 0) hO (by omega) A.h_leaves1.enters ?_) ?_
    · intro W x y hW
      have hnb : ∀ b, b < w3.heap.size → b ∉ blkOf v := fun b hb hm => by have := hf4 b hm; omega
      have z3 := hE3.size
      have z23 := hu3.size
      have z12 := hu2.size
      have k1 := h1.lt
      have k3 := h3.lt
      refine leaves1_ok A (((hB1'.upd hu2).upd hu3).upd hu4 |>.upd hW (hnb _ (by omega))) (((h1.upd hE3).upd hu4).upd hW (hnb _ (by omega))) rfl (((h3.upd hE3).upd hu4).upd hW (hnb _ (by omega))) x y
    rintro _ w5 ⟨l', hp', hs', hO', hu5⟩
    refine xr 2 rfl ?_
    have hfin : l' = liveL s.L := perm_sorted ((hp'.trans hg).trans hkp) hks hs'
    subst hfin
    rw [hxl] at hO'
    exact xre hc [_] ⟨rfl, trivial⟩ ⟨hO', hu4.trans hu5 (fun b hb => .inr (hf4 b hb)), hf4⟩
  refine xca rfl rfl hsort ?_
  rintro v w4 ⟨hO, hu4, hf4⟩
  refine xr 1 rfl ?_
  have z3 := hE3.size
  exact xre hc [_] ⟨rfl, trivial⟩ ⟨hO, hE3.trans hu4, fun b hb => by have := hf4 b hb; omega⟩
end
end Go.Sp

namespace Go.Sp
/-- the functions of forest, on -/
structure ForQ (P : Program) extends ForP P where
  undo : Nat
  TUo : Nat
  h_undo : Has P undo (b_Pforest_Forest_Undo is' change TUo TPF)
  h_TPE : ∃ j, P.info? TPE = some j ∧ j.size ≠ 0
end Go.Sp

namespace Go.Sp
/-- the functions of forest, on -/
structure ForR (P : Program) extends ForQ P where
  mclone : Nat
  cloneM : Nat
  copy : Nat
  TIf : Nat
  TCp : Nat
  h_mclone : ∃ fn, P.funcs[mclone]? = some fn ∧ (fn.name == "runtime.NumGoroutine") = false ∧ fn.body.isNone = true ∧ Extern.findNext fn = none ∧ Extern.find fn = some Extern.MapsClone.clone
  h_cloneM : Has P cloneM (b_maps_Clone_map_api_Hashuint64_api_Hash_uint64 mclone TMp TIf)
  h_copy : Has P copy (b_Pforest_Forest_Copy is' cloneT cloneM TCp)
end Go.Sp

namespace Go.Sp
theorem wayCut_last {n : Nat} : ∀ (l : List Nat) (row : Nat) (r : List Nat), wayCut n row l = some r → ∃ row' q, r.getLast? = some q ∧ rootN n row' = some q := by
  intro l
  induction l with
  | nil => intro row r h; cases h
  | cons q l ih =>
    intro row r h
    simp only [wayCut] at h
    split at h
    · cases h
      exact ⟨row, q, rfl, by assumption⟩
    · obtain ⟨r', hr', rfl⟩ := Option.map_eq_some_iff.1 h
      obtain ⟨row', q', h1, h2⟩ := ih _ _ hr'
      refine ⟨row', q', ?_, h2⟩
      rw [List.getLast?_cons, h1]; rfl
theorem rootN_row {n h q : Nat} (hq : rootN n h = some q) : n < 2 ^ 63 ∧ bitN n h = true ∧ rowN q (rowsN n) = some h := by
  unfold rootN at hq
  split at hq
  · rename_i hc
    obtain ⟨h1, h2, h3⟩ := hc
    cases hq
    refine ⟨h1, h3, row_posN (rowsN_le h1) h2 ?_⟩
    have hle := le_rows h1
    have hp : 0 < 2 ^ h := Nat.pow_pos (by omega)
    have e1 : n / 2 ^ h ≤ 2 ^ (rowsN n - h) := by
      have : 2 ^ rowsN n = 2 ^ (rowsN n - h) * 2 ^ h := by rw [← Nat.pow_add]; congr 1; omega
      rw [this] at hle
      exact Nat.div_le_of_le_mul (by rw [Nat.mul_comm]; exact hle)
    have e2 : n / 2 ^ h % 2 = 1 := by simpa [bitN] using h3
    rw [Nat.pow_succ, ← Nat.div_div_eq_div_mul]
    omega
  · cases hq
theorem treeN_bit {n p h : Nat} (ht : treeN n p = some h) : n < 2 ^ 63 ∧ bitN n h = true ∧ wayN n p ≠ [] := by
  unfold treeN at ht
  split at ht
  · cases ht
  · rename_i q hq
    have hne : wayN n p ≠ [] := by intro he; rw [he] at hq; cases hq
    unfold wayN at hq
    split at hq
    · split at hq
      · cases hq
      · rename_i row _
        cases hw : wayCut n row (chainN 64 (rowsN n) p) with
        | none => rw [hw] at hq; cases hq
        | some r =>
          rw [hw] at hq
          obtain ⟨row', q', h1, h2⟩ := wayCut_last _ _ _ hw
          have : q' = q := by
            have h3 : r.getLast? = some q := hq
            rw [h1] at h3; exact Option.some.inj h3
          subst this
          obtain ⟨g1, g2, g3⟩ := rootN_row h2
          rw [g3] at ht; cases ht
          exact ⟨g1, g2, hne⟩
    · cases hq
section
variable {H : Type}
def stepT (t : Option (Tr H)) (q : Nat) : Option (Tr H) := match t with
  | some (.pair _ l r _) => some (if q % 2 = 0 then l else r)
  | _ => none
def nodeN (par : H → H → H) (L : Nat → Option H) (n p : Nat) : Option (Tr H) := match treeN n p with
  | none => none
  | some h => (wayN n p).dropLast.reverse.foldl stepT (buildT par L h (firstN n h))
end
end Go.Sp

namespace Go.Sp
/-- the functions of forest, on -/
structure ForS (P : Program) extends ForR P where
  isLeft : Nat
  back1 : Nat
  back : Nat
  node1 : Nat
  node : Nat
  atF : Nat
  TBk : Nat
  TN1 : Nat
  TNi : Nat
  h_isLeft : Has P isLeft b_pos_IsLeft
  h_back1 : Has P back1 b_slices_Backward_uint64_uint64_1
  h_back : Has P back (b_slices_Backward_uint64_uint64 back1 TBk)
  h_node1 : Has P node1 (b_Pforest_Forest_node_1 TN1)
  h_node : Has P node (b_Pforest_Forest_node nf.tree node1 index nf.way back isLeft TNode TNi)
  h_at : Has P atF (b_Pforest_Forest_At is' node TH TNode)
section
variable {P : Program} {f : Nat} {w : World}
theorem back_ok (A : ForS P) {v : Value} (hv : ∃ a l c, v = .slice a l c) : Ret P A.back [v] w fun r w' => ∃ bs, r = .func (.func A.back1) #[] #[ptrV bs] ∧ Blk w' bs [v] ∧ bs = w.heap.size ∧ Ext w w' := by
  obtain ⟨a, l, cp, rfl⟩ := hv
  refine Ret.of_exec A.h_back (Nat.le_of_ble_eq_true rfl) fun c hc => ?_
  dsimp only [b_slices_Backward_uint64_uint64, argEnv, ym, yo, yg, ys, yt, yd, ye]
  refine exec_box rfl rfl ?_
  intro b w2 hb hs hu hB
  refine xr 3 rfl ?_
  exact xre hc [_] ⟨rfl, trivial⟩ ⟨b, rfl, hB, hb, hu⟩
end
end Go.Sp

namespace Go.Sp
def b_spinneylaw14_ForestMoves (f0 f1 f2 f3 f4 f5 f6 f7 : Nat) (T0 T1 T2 T3 : Nat) : Body := { n := 161,res := [.tmp 4],code := [yo 4 (.mov (.const (.bool false))),ym 28 0,yo 29 (.call f0 #[(yt 28)]),ym 27 29,
 yo 30 (.ext (yt 27) 0),yo 31 (.ext (yt 27) 1),yo 32 (.ext (yt 27) 2),ym 5 30,ym 6 31,ym 7 32,yo 8 (.mov (.const (.slice none 0 0))),yo 9 (.mov (.const (.slice none 0 0))),yo 10 (.mov (.const (.int .i64 0))),.block 0 [
 .loop [ym 33 10,ym 34 1,yo 35 (.lenS (yt 34)),yo 36 (.ibin .lss (yt 33) (yt 35)),ym 37 36,yg 37 true 38 (.mov (yt 10)),yg 37 true 39 (.ibin .lss (yt 38) (.const (.int .i64 10))),
 yo 40 (.pick (yt 37) (yt 39) (.const (.bool false))),.cond (yt 40) [] [.exit 0],.block 1 [ym 44 5,ym 45 1,ym 46 10,yo 47 (.iaddr 32 (yt 45) (yt 46)),yo 48 (.loadN 32 (yt 47)),yo 49 (.call f1 #[(yt 44),(yt 48)]),
 ym 43 49,yo 50 (.ext (yt 43) 0),yo 51 (.ext (yt 43) 1),ym 11 50,ym 12 51,ym 52 12,ym 53 52,yg 53 true 54 (.mov (yt 8)),yg 53 true 55 (.mov (yt 1)),yg 53 true 56 (.mov (yt 10)),yg 53 true 57 (.iaddr 32 (yt 55) (yt 56)),
 yg 53 true 58 (.loadN 32 (yt 57)),yg 53 true 59 (.call f2 #[(yt 54),(yt 58)]),yg 53 true 60 (.un .not (yt 59)),yo 61 (.pick (yt 53) (yt 60) (.const (.bool false))),.cond (yt 61) [ym 62 8,ym 63 1,ym 64 10,
 yo 65 (.iaddr 32 (yt 63) (yt 64)),yo 66 (.loadN 32 (yt 65)),yo 67 (.mkSlice T0 1 (rle [(32,.int .u8 0)]) [(0,32,(yt 66))]),yo 68 (.append T0 32 32 (rle [(32,.int .u8 0)]) (yt 62) (yt 67)),ym 8 68,ym 69 9,ym 70 11,
 yo 71 (.mkSlice T1 1 (rle [(1,.int .u64 0)]) [(0,1,(yt 70))]),yo 72 (.append T1 1 8 (rle [(1,.int .u64 0)]) (yt 69) (yt 71)),ym 9 72] []],ym 41 10,yo 42 (.ibin .add (yt 41) (.const (.int .i64 1))),ym 10 42]],ym 73 5,
 yo 74 (.call f3 #[(yt 73)]),yo 75 (.fld false 0 1 (yt 74)),ym 13 75,ym 76 5,yo 77 (.call f4 #[(yt 76)]),ym 14 77,yo 15 (.mov (.const (.slice none 0 0))),yo 16 (.mov (.const (.int .i64 0))),.block 2 [.loop [ym 78 16,
 ym 79 14,yo 80 (.lenS (yt 79)),yo 81 (.ibin .lss (yt 78) (yt 80)),.cond (yt 81) [] [.exit 2],.block 3 [ym 85 5,ym 86 14,ym 87 16,yo 88 (.iaddr 32 (yt 86) (yt 87)),yo 89 (.loadN 32 (yt 88)),
 yo 90 (.call f1 #[(yt 85),(yt 89)]),ym 84 90,yo 91 (.ext (yt 84) 0),yo 92 (.ext (yt 84) 1),ym 17 91,ym 18 92,ym 93 15,ym 94 17,yo 95 (.mkSlice T1 1 (rle [(1,.int .u64 0)]) [(0,1,(yt 94))]),
 yo 96 (.append T1 1 8 (rle [(1,.int .u64 0)]) (yt 93) (yt 95)),ym 15 96],ym 82 16,yo 83 (.ibin .add (yt 82) (.const (.int .i64 1))),ym 16 83]],ym 98 5,ym 99 8,
 yo 100 (.call f5 #[(yt 98),(yt 99),(.const (.slice none 0 0))]),ym 97 100,yo 101 (.ext (yt 97) 0),yo 102 (.ext (yt 97) 1),
 yo 19 (.new T2 (rle [(1,.pointer none),(2,.int .i64 0),(1,.int .u64 0),(1,.slice none 0 0),(2,.map none)])),ys 7 19 101,ym 20 102,ym 103 20,yo 104 (.ibin .neq (yt 103) (.const (.int .i64 0))),ym 105 104,
 yg 105 false 106 (.mov (yt 5)),yg 105 false 107 (.call f3 #[(yt 106)]),yg 105 false 108 (.fld false 0 1 (yt 107)),yg 105 false 109 (.mov (yt 13)),yg 105 false 110 (.ibin .neq (yt 108) (yt 109)),
 yo 111 (.pick (yt 105) (.const (.bool true)) (yt 110)),.cond (yt 111) [yo 4 (.mov (.const (.bool false))),.ret] [],yo 21 (.mov (.const (.int .i64 0))),.block 4 [.loop [ym 112 21,ym 113 14,yo 114 (.lenS (yt 113)),
 yo 115 (.ibin .lss (yt 112) (yt 114)),.cond (yt 115) [] [.exit 4],.block 5 [ym 119 5,ym 120 14,ym 121 21,yo 122 (.iaddr 32 (yt 120) (yt 121)),yo 123 (.loadN 32 (yt 122)),yo 124 (.call f1 #[(yt 119),(yt 123)]),
 ym 118 124,yo 125 (.ext (yt 118) 0),yo 126 (.ext (yt 118) 1),ym 22 125,ym 23 126,ym 128 13,ym 129 9,ym 130 15,ym 131 21,yo 132 (.iaddr 1 (yt 130) (yt 131)),yo 133 (.load1 (yt 132)),
 yo 134 (.call f6 #[(yt 128),(yt 129),(yt 133)]),ym 127 134,yo 135 (.ext (yt 127) 0),yo 136 (.ext (yt 127) 1),yo 137 (.ext (yt 127) 2),ym 24 135,ym 25 136,ym 26 137,ym 138 26,
 yo 139 (.ibin .neq (yt 138) (.const (.int .i64 0))),ym 140 139,yg 140 false 141 (.mov (yt 23)),yg 140 false 142 (.mov (yt 25)),yg 140 false 143 (.bin .neq T3 (yt 141) (yt 142)),
 yo 144 (.pick (yt 140) (.const (.bool true)) (yt 143)),ym 145 144,yg 145 false 146 (.mov (yt 23)),yg 145 false 147 (.mov (yt 8)),yg 145 false 148 (.mov (yt 14)),yg 145 false 149 (.mov (yt 21)),
 yg 145 false 150 (.iaddr 32 (yt 148) (yt 149)),yg 145 false 151 (.loadN 32 (yt 150)),yg 145 false 152 (.call f2 #[(yt 147),(yt 151)]),yg 145 false 153 (.bin .eql T3 (yt 146) (yt 152)),
 yo 154 (.pick (yt 145) (.const (.bool true)) (yt 153)),ym 155 154,yg 155 false 156 (.mov (yt 22)),yg 155 false 157 (.mov (yt 24)),yg 155 false 158 (.ibin .neq (yt 156) (yt 157)),
 yo 159 (.pick (yt 155) (.const (.bool true)) (yt 158)),.cond (yt 159) [yo 4 (.mov (.const (.bool false))),.ret] []],ym 116 21,yo 117 (.ibin .add (yt 116) (.const (.int .i64 1))),ym 21 117]],yo 160 (.call f7 #[]),
 ym 4 160,.ret] }
def b_spinneylaw14_told (f0 f1 f2 f3 : Nat) (T0 T1 T2 : Nat) : Body := { n := 88,res := [.tmp 2,.tmp 3,.tmp 4],code := [yo 2 (.mov (.const (.pointer none))),yo 3 (.mov (.const (.slice none 0 0))),
 yo 4 (.mov (.const (.slice none 0 0))),yo 15 (.call f0 #[]),ym 5 15,yo 6 (.mov (.const (.slice none 0 0))),yo 7 (.mov (.const (.slice none 0 0))),yo 8 (.mov (.const (.int .i64 0))),.block 0 [.loop [ym 16 8,ym 17 0,
 yo 18 (.lenS (yt 17)),yo 19 (.ibin .lss (yt 16) (yt 18)),ym 20 19,yg 20 true 21 (.mov (yt 8)),yg 20 true 22 (.ibin .lss (yt 21) (.const (.int .i64 12))),yo 23 (.pick (yt 20) (yt 22) (.const (.bool false))),
 .cond (yt 23) [] [.exit 0],.block 1 [.draw [yd [] 26 (.mov (yt 0)),yd [] 27 (.mov (yt 8)),yd [0,1] 28 (.iaddr 3 (yt 26) (yt 27)),yd [2,0,1] 29 (.faddr 1 (yt 28)),yd [3,2,0,1] 30 (.load1 (yt 29)),
 yd [4,3,2,0,1] 31 (.call f1 #[(yt 30)]),yd [] 32 (.mov (yt 0)),yd [] 33 (.mov (yt 8)),yd [6,7] 34 (.iaddr 3 (yt 32) (yt 33)),yd [8,6,7] 35 (.faddr 2 (yt 34)),yd [9,8,6,7] 36 (.load1 (yt 35))] [
 yo 37 (.call f1 #[(yt 36)]),ym 9 31,ym 10 37],ym 39 5,ym 40 9,ym 41 10,yo 42 (.call f2 #[(yt 39),(yt 40),(yt 41)]),ym 38 42,yo 43 (.ext (yt 38) 0),yo 44 (.ext (yt 38) 1),
 yo 11 (.new T0 (rle [(1,.pointer none),(2,.int .i64 0),(1,.int .u64 0),(1,.slice none 0 0),(2,.map none)])),ys 7 11 43,ym 12 44,ym 45 12,yo 46 (.ibin .neq (yt 45) (.const (.int .i64 0))),.cond (yt 46) [.exit 1] [],
 yo 13 (.mov (.const (.int .i64 0))),.block 2 [.loop [ym 47 13,ym 48 6,yo 49 (.lenS (yt 48)),yo 50 (.ibin .lss (yt 47) (yt 49)),.cond (yt 50) [] [.exit 2],.block 3 [ym 53 7,ym 54 13,ym 55 7,ym 56 13,
 yo 57 (.iaddr 1 (yt 55) (yt 56)),yo 58 (.load1 (yt 57)),ym 59 58,yg 59 true 60 (.mov (yt 9)),yg 59 true 61 (.mov (yt 6)),yg 59 true 62 (.mov (yt 13)),yg 59 true 63 (.iaddr 32 (yt 61) (yt 62)),
 yg 59 true 64 (.loadN 32 (yt 63)),yg 59 true 65 (.call f3 #[(yt 60),(yt 64)]),yg 59 true 66 (.un .not (yt 65)),yo 67 (.pick (yt 59) (yt 66) (.const (.bool false))),yo 68 (.iaddr 1 (yt 53) (yt 54)),ys 1 68 67],ym 51 13,
 yo 52 (.ibin .add (yt 51) (.const (.int .i64 1))),ym 13 52]],yo 14 (.mov (.const (.int .i64 0))),.block 4 [.loop [ym 69 14,ym 70 10,yo 71 (.lenS (yt 70)),yo 72 (.ibin .lss (yt 69) (yt 71)),.cond (yt 72) [] [.exit 4],
 .block 5 [ym 75 6,ym 76 10,ym 77 14,yo 78 (.iaddr 32 (yt 76) (yt 77)),yo 79 (.loadN 32 (yt 78)),yo 80 (.mkSlice T1 1 (rle [(32,.int .u8 0)]) [(0,32,(yt 79))]),
 yo 81 (.append T1 32 32 (rle [(32,.int .u8 0)]) (yt 75) (yt 80)),ym 6 81,ym 82 7,yo 83 (.mkSlice T2 1 (rle [(1,.bool false)]) [(0,1,(.const (.bool true)))]),
 yo 84 (.append T2 1 1 (rle [(1,.bool false)]) (yt 82) (yt 83)),ym 7 84],ym 73 14,yo 74 (.ibin .add (yt 73) (.const (.int .i64 1))),ym 14 74]]],ym 24 8,yo 25 (.ibin .add (yt 24) (.const (.int .i64 1))),ym 8 25]],ym 85 5,
 ym 86 6,ym 87 7,ym 2 85,ym 3 86,ym 4 87,.ret] }
def b_spinneylaw14_cut : Body := { n := 8,res := [.tmp 2],code := [yo 2 (.mov (.const (.slice none 0 0))),ym 3 0,ym 4 0,yo 5 (.lenS (yt 4)),yo 6 (.min2 (yt 5) (.const (.int .i64 10))),
 yo 7 (.slS 32 (yt 3) none (some (yt 6))),ym 2 7,.ret] }
def b_spinneylaw14_works (f0 f1 f2 f3 f4 : Nat) (T0 T1 T2 : Nat) : Body := { n := 68,res := [.tmp 0],code := [yo 0 (.mov (.const (.bool false))),yo 11 (.call f0 #[]),ym 1 11,
 yo 12 (.mk (rle [(32,.int .u8 0)]) [(0,1,(.const (.int .u8 1)))]),yo 13 (.mk (rle [(32,.int .u8 0)]) [(0,1,(.const (.int .u8 2)))]),yo 2 (.new T0 (rle [(32,.int .u8 0)])),yo 3 (.new T0 (rle [(32,.int .u8 0)])),
 ys 32 2 12,ys 32 3 13,ym 15 1,yo 16 (.loadN 32 (yt 2)),yo 17 (.loadN 32 (yt 3)),yo 18 (.mk (rle [(32,.int .u8 0)]) [(0,1,(.const (.int .u8 3)))]),
 yo 19 (.mkSlice T0 3 (rle [(96,.int .u8 0)]) [(0,32,(yt 16)),(32,32,(yt 17)),(64,32,(yt 18))]),yo 20 (.call f1 #[(yt 15),(.const (.slice none 0 0)),(yt 19)]),ym 14 20,yo 21 (.ext (yt 14) 0),yo 22 (.ext (yt 14) 1),
 yo 4 (.new T1 (rle [(1,.pointer none),(2,.int .i64 0),(1,.int .u64 0),(1,.slice none 0 0),(2,.map none)])),ys 7 4 21,ym 5 22,ym 23 1,yo 24 (.call f2 #[(yt 23)]),
 yo 6 (.new T2 (rle [(1,.int .u64 0),(1,.slice none 0 0)])),ys 2 6 24,ym 26 1,yo 27 (.loadN 32 (yt 2)),yo 28 (.mkSlice T0 1 (rle [(32,.int .u8 0)]) [(0,32,(yt 27))]),
 yo 29 (.call f1 #[(yt 26),(yt 28),(.const (.slice none 0 0))]),ym 25 29,yo 30 (.ext (yt 25) 0),yo 31 (.ext (yt 25) 1),
 yo 7 (.new T1 (rle [(1,.pointer none),(2,.int .i64 0),(1,.int .u64 0),(1,.slice none 0 0),(2,.map none)])),ys 7 7 30,ym 8 31,ym 33 1,yo 34 (.loadN 32 (yt 3)),yo 35 (.call f3 #[(yt 33),(yt 34)]),ym 32 35,
 yo 36 (.ext (yt 32) 0),yo 37 (.ext (yt 32) 1),ym 9 36,ym 10 37,.draw [yd [] 38 (.mov (yt 5)),yd [0] 39 (.ibin .eql (yt 38) (.const (.int .i64 0))),yd [1,0] 40 (.mov (yt 39)),ye [2,1,0] 40 true 41 (.mov (yt 8)),
 ye [3,2,1,0] 40 true 42 (.ibin .eql (yt 41) (.const (.int .i64 0))),yd [2,4,1,0,3] 43 (.pick (yt 40) (yt 42) (.const (.bool false))),yd [5,2,4,1,0,3] 44 (.mov (yt 43)),ye [6,5,2,4,1,0,3] 44 true 45 (.faddr 1 (yt 6)),
 ye [7,6,5,2,4,1,0,3] 44 true 46 (.load1 (yt 45)),ye [8,6,7,5,2,4,1,0,3] 44 true 47 (.lenS (yt 46)),ye [9,6,8,7,5,2,4,1,0,3] 44 true 48 (.ibin .eql (yt 47) (.const (.int .i64 2))),
 yd [6,10,5,2,4,1,0,3,9,8,7] 49 (.pick (yt 44) (yt 48) (.const (.bool false))),yd [11,6,10,5,2,4,1,0,3,9,8,7] 50 (.mov (yt 49)),ye [12,11,6,10,5,2,4,1,0,3,9,8,7] 50 true 51 (.faddr 1 (yt 6)),
 ye [13,12,11,6,10,5,2,4,1,0,3,9,8,7] 50 true 52 (.load1 (yt 51)),ye [14,12,13,11,6,10,5,2,4,1,0,3,9,8,7] 50 true 53 (.iaddr 33 (yt 52) (.const (.int .i64 0))),
 ye [15,12,14,13,11,6,10,5,2,4,1,0,3,9,8,7] 50 true 54 (.faddr 1 (yt 53)),ye [16,12,15,14,13,11,6,10,5,2,4,1,0,3,9,8,7] 50 true 55 (.loadN 32 (yt 54)),ye [12,11,6,10,5,2,4,1,0,3,9,8,7] 50 true 56 (.loadN 32 (yt 2)),
 ye [12,11,6,10,5,2,4,1,0,3,9,8,7] 50 true 57 (.loadN 32 (yt 3)),ye [18,19,12,11,6,10,5,2,4,1,0,3,9,8,7] 50 true 58 (.call f4 #[(yt 56),(yt 57)])] [yg 50 true 59 (.bin .eql T0 (yt 55) (yt 58)),
 yo 60 (.pick (yt 50) (yt 59) (.const (.bool false))),ym 61 60,yg 61 true 62 (.mov (yt 10)),yo 63 (.pick (yt 61) (yt 62) (.const (.bool false))),ym 64 63,yg 64 true 65 (.mov (yt 9)),
 yg 64 true 66 (.ibin .eql (yt 65) (.const (.int .u64 4))),yo 67 (.pick (yt 64) (yt 66) (.const (.bool false))),ym 0 67],.ret] }
def b_spinneylaw14_equal (f0 f1 f2 f3 f4 : Nat) (T0 T1 : Nat) : Body := { n := 109,res := [.tmp 4],code := [yo 4 (.mov (.const (.bool false))),ym 17 0,yo 18 (.call f0 #[(yt 17)]),ym 19 1,yo 20 (.call f0 #[(yt 19)]),
 ym 5 18,ym 6 20,ym 21 0,yo 22 (.call f1 #[(yt 21)]),ym 23 1,yo 24 (.call f1 #[(yt 23)]),yo 25 (.call f2 #[(yt 22),(yt 24)]),yo 26 (.un .not (yt 25)),ym 27 26,yg 27 false 28 (.mov (yt 5)),yg 27 false 29 (.lenS (yt 28)),
 yg 27 false 30 (.mov (yt 6)),yg 27 false 31 (.lenS (yt 30)),yg 27 false 32 (.ibin .neq (yt 29) (yt 31)),yo 33 (.pick (yt 27) (.const (.bool true)) (yt 32)),.cond (yt 33) [yo 4 (.mov (.const (.bool false))),.ret] [],
 yo 7 (.mov (.const (.int .i64 0))),.block 0 [.loop [ym 34 7,ym 35 5,yo 36 (.lenS (yt 35)),yo 37 (.ibin .lss (yt 34) (yt 36)),.cond (yt 37) [] [.exit 0],.block 1 [ym 41 0,ym 42 5,ym 43 7,
 yo 44 (.iaddr 32 (yt 42) (yt 43)),yo 45 (.loadN 32 (yt 44)),yo 46 (.call f3 #[(yt 41),(yt 45)]),ym 40 46,yo 47 (.ext (yt 40) 0),yo 48 (.ext (yt 40) 1),ym 8 47,ym 9 48,ym 50 1,ym 51 5,ym 52 7,
 yo 53 (.iaddr 32 (yt 51) (yt 52)),yo 54 (.loadN 32 (yt 53)),yo 55 (.call f3 #[(yt 50),(yt 54)]),ym 49 55,yo 56 (.ext (yt 49) 0),yo 57 (.ext (yt 49) 1),ym 10 56,ym 11 57,.draw [yd [] 58 (.mov (yt 5)),
 yd [] 59 (.mov (yt 7)),yd [0,1] 60 (.iaddr 32 (yt 58) (yt 59)),yd [2,0,1] 61 (.loadN 32 (yt 60)),yd [] 62 (.mov (yt 6)),yd [] 63 (.mov (yt 7)),yd [4,5] 64 (.iaddr 32 (yt 62) (yt 63)),yd [6,4,5] 65 (.loadN 32 (yt 64)),
 yd [3,7,2,0,1,6,4,5] 66 (.bin .neq T0 (yt 61) (yt 65)),yd [8,3,7,2,0,1,6,4,5] 67 (.mov (yt 66)),ye [9,8,3,7,2,0,1,6,4,5] 67 false 68 (.mov (yt 9)),ye [10,9,8,3,7,2,0,1,6,4,5] 67 false 69 (.un .not (yt 68)),
 yd [9,11,8,3,7,2,0,1,6,4,5,10] 70 (.pick (yt 67) (.const (.bool true)) (yt 69)),yd [12,9,11,8,3,7,2,0,1,6,4,5,10] 71 (.mov (yt 70)),ye [13,12,9,11,8,3,7,2,0,1,6,4,5,10] 71 false 72 (.mov (yt 11)),
 ye [14,13,12,9,11,8,3,7,2,0,1,6,4,5,10] 71 false 73 (.un .not (yt 72)),yd [13,15,12,9,11,8,3,7,2,0,1,6,4,5,10,14] 74 (.pick (yt 71) (.const (.bool true)) (yt 73)),
 yd [16,13,15,12,9,11,8,3,7,2,0,1,6,4,5,10,14] 75 (.mov (yt 74)),ye [17,16,13,15,12,9,11,8,3,7,2,0,1,6,4,5,10,14] 75 false 76 (.mov (yt 8)),ye [17,16,13,15,12,9,11,8,3,7,2,0,1,6,4,5,10,14] 75 false 77 (.mov (yt 10))] [
 yg 75 false 78 (.ibin .neq (yt 76) (yt 77)),yo 79 (.pick (yt 75) (.const (.bool true)) (yt 78))],.cond (yt 79) [yo 4 (.mov (.const (.bool false))),.ret] []],ym 38 7,yo 39 (.ibin .add (yt 38) (.const (.int .i64 1))),
 ym 7 39]],yo 12 (.mov (.const (.int .u64 0))),.block 2 [.loop [ym 80 12,ym 81 0,yo 82 (.call f1 #[(yt 81)]),yo 83 (.fld false 0 1 (yt 82)),yo 84 (.ibin .mul (.const (.int .u64 2)) (yt 83)),
 yo 85 (.ibin .add (yt 84) (.const (.int .u64 3))),yo 86 (.ibin .lss (yt 80) (yt 85)),.cond (yt 86) [] [.exit 2],.block 3 [ym 90 0,ym 91 12,yo 92 (.call f4 #[(yt 90),(yt 91)]),ym 89 92,yo 93 (.ext (yt 89) 0),
 yo 94 (.ext (yt 89) 1),yo 13 (.new T0 (rle [(32,.int .u8 0)])),ys 32 13 93,ym 14 94,ym 96 1,ym 97 12,yo 98 (.call f4 #[(yt 96),(yt 97)]),ym 95 98,yo 99 (.ext (yt 95) 0),yo 100 (.ext (yt 95) 1),
 yo 15 (.new T0 (rle [(32,.int .u8 0)])),ys 32 15 99,ym 16 100,yo 101 (.loadN 32 (yt 13)),yo 102 (.loadN 32 (yt 15)),yo 103 (.bin .neq T0 (yt 101) (yt 102)),ym 104 103,yg 104 false 105 (.mov (yt 14)),
 yg 104 false 106 (.mov (yt 16)),yg 104 false 107 (.bin .neq T1 (yt 105) (yt 106)),yo 108 (.pick (yt 104) (.const (.bool true)) (yt 107)),.cond (yt 108) [yo 4 (.mov (.const (.bool false))),.ret] []],ym 87 12,
 yo 88 (.ibin .add (yt 87) (.const (.int .u64 1))),ym 12 88]],yo 4 (.mov (.const (.bool true))),.ret] }
def b_spinneylaw14_has (T0 : Nat) : Body := { n := 18,res := [.tmp 4],code := [yo 3 (.box T0 (yt 1)),yo 4 (.mov (.const (.bool false))),yo 5 (.mov (.const (.int .i64 0))),.block 0 [.loop [ym 6 5,ym 7 0,
 yo 8 (.lenS (yt 7)),yo 9 (.ibin .lss (yt 6) (yt 8)),.cond (yt 9) [] [.exit 0],.block 1 [.draw [yd [] 12 (.mov (yt 0)),yd [] 13 (.mov (yt 5)),yd [0,1] 14 (.iaddr 32 (yt 12) (yt 13)),yd [2,0,1] 15 (.loadN 32 (yt 14)),
 yd [] 16 (.loadN 32 (yt 3))] [yo 17 (.bin .eql T0 (yt 15) (yt 16))],.cond (yt 17) [yo 4 (.mov (.const (.bool true))),.ret] []],ym 10 5,yo 11 (.ibin .add (yt 10) (.const (.int .i64 1))),ym 5 11]],
 yo 4 (.mov (.const (.bool false))),.ret] }
def b_spinneylaw14_same (T0 T1 : Nat) : Body := { n := 38,res := [.tmp 4],code := [yo 2 (.box T0 (yt 0)),yo 3 (.box T0 (yt 1)),yo 4 (.mov (.const (.bool false))),yo 6 (.faddr 0 (yt 2)),yo 7 (.load1 (yt 6)),
 yo 8 (.faddr 0 (yt 3)),yo 9 (.load1 (yt 8)),yo 10 (.ibin .neq (yt 7) (yt 9)),ym 11 10,yg 11 false 12 (.faddr 1 (yt 2)),yg 11 false 13 (.load1 (yt 12)),yg 11 false 14 (.lenS (yt 13)),yg 11 false 15 (.faddr 1 (yt 3)),
 yg 11 false 16 (.load1 (yt 15)),yg 11 false 17 (.lenS (yt 16)),yg 11 false 18 (.ibin .neq (yt 14) (yt 17)),yo 19 (.pick (yt 11) (.const (.bool true)) (yt 18)),.cond (yt 19) [yo 4 (.mov (.const (.bool false))),.ret] [],
 yo 5 (.mov (.const (.int .i64 0))),.block 0 [.loop [ym 20 5,yo 21 (.faddr 1 (yt 2)),yo 22 (.load1 (yt 21)),yo 23 (.lenS (yt 22)),yo 24 (.ibin .lss (yt 20) (yt 23)),.cond (yt 24) [] [.exit 0],.block 1 [.draw [
 yd [] 27 (.faddr 1 (yt 2)),yd [0] 28 (.load1 (yt 27)),yd [] 29 (.mov (yt 5)),yd [1,2,0] 30 (.iaddr 33 (yt 28) (yt 29)),yd [3,1,2,0] 31 (.loadN 33 (yt 30)),yd [] 32 (.faddr 1 (yt 3)),yd [5] 33 (.load1 (yt 32)),
 yd [] 34 (.mov (yt 5)),yd [6,7,5] 35 (.iaddr 33 (yt 33) (yt 34)),yd [8,6,7,5] 36 (.loadN 33 (yt 35))] [yo 37 (.bin .neq T1 (yt 31) (yt 36))],.cond (yt 37) [yo 4 (.mov (.const (.bool false))),.ret] []],ym 25 5,
 yo 26 (.ibin .add (yt 25) (.const (.int .i64 1))),ym 5 26]],yo 4 (.mov (.const (.bool true))),.ret] }
end Go.Sp


namespace Go.Sp
/-- T is api.Root -/
structure TyRoot (P : Program) (T TH : TypeId) : Prop where
  und : P.underlying T = some (.struct (P.fieldsOf T))
  held : P.stoodInHeld T = false
  guard : P.eqGuardType P.depth T = false
  fs : ∃ f1 f2, (P.fieldsOf T).toList = [f1, f2] ∧ f1.name ≠ "_" ∧ f2.name ≠ "_" ∧ P.underlying f1.type = some .bool ∧ f1.offset = 0 ∧ f2.type = TH ∧ f2.offset = 1
  size : ∃ i, P.info? TH = some i ∧ i.size = 32
section
variable {P : Program} {n : Nat} {c : Ctx} {D : List Deferred} {is : List Ins} {k : Kont} {e : Env} {w : World} {T TH : TypeId}
def zH : Hash := ⟨List.replicate 32 0, rfl⟩
end
theorem hs_take (l : List Hash) (k : Nat) : (hs l).take (k * 32) = hs (l.take k) := by
  induction l generalizing k with
  | nil => simp [hs]
  | cons h l ih =>
    cases k with
    | zero => simp [hs]
    | succ k =>
      simp only [hs, List.flatMap_cons, List.take_succ_cons] at ih ⊢
      rw [List.take_append, hC_length, show (k + 1) * 32 - 32 = k * 32 by omega, ih k, List.take_of_length_le (by rw [hC_length]; omega)]
def hasB (l : List Hash) (x : Hash) : Bool := l.any fun y => decide (y = x)
theorem hasB_iff {l : List Hash} {x : Hash} : hasB l x = true ↔ x ∈ l := by simp [hasB]
structure LawF (P : Program) extends ForP P where
  has : Nat
  cut : Nat
  same : Nat
  TSm : Nat
  TRo : Nat
  h_has : Has P has (b_spinneylaw14_has TH)
  h_cut : Has P cut b_spinneylaw14_cut
  h_same : Has P same (b_spinneylaw14_same TSm TRo)
  h_TRo : TyRoot P TRo TH
section
variable {P : Program} {f : Nat} {w : World}
def cutV (v : Value) (l : List Hash) : Value := subV v 32 0 (l.take 10).length
theorem cutV_sl {v : Value} {l : List Hash} (hS : SlC w v 32 l.length (hs l)) : SlC w (cutV v l) 32 (l.take 10).length (hs (l.take 10)) := by
  have hle : (l.take 10).length ≤ l.length := by rw [List.length_take]; omega
  have hr := subV_sl hS (Nat.zero_le _) hle
  rw [Nat.sub_zero, hs_take, Nat.zero_mul, List.drop_zero] at hr
  have : l.take (l.take 10).length = l.take 10 := by rw [List.length_take]; rcases Nat.le_total 10 l.length with h | h
                                                     · rw [Nat.min_eq_left h]
                                                     · rw [Nat.min_eq_right h, List.take_of_length_le (Nat.le_refl _), List.take_of_length_le h]
  rw [this] at hr
  exact hr
theorem cut_ok (A : LawF P) {v : Value} {l : List Hash} (hS : SlC w v 32 l.length (hs l)) : RetV P A.cut [v] w (cutV v l) := by
  refine Ret.of_exec A.h_cut (Nat.le_of_ble_eq_true rfl) fun c hc => ?_
  dsimp only [b_spinneylaw14_cut, argEnv, ym, yo, yg, ys, yt, yd, ye]
  refine xtm rfl rfl rfl ?_
  refine xtm rfl rfl rfl ?_
  refine xtm rfl rfl rfl ?_
  refine xpu (hS.lenS rfl) rfl ?_
  refine xju (ok_min2 (i := (l.length : Int)) (j := 10) rfl rfl) rfl ?_
  have hk : (if (10 : Int) < (l.length : Int) then 10 else (l.length : Int)) = (((l.take 10).length : Nat) : Int) := by
    rw [List.length_take]; split <;> omega
  rw [hk]
  have hle : (l.take 10).length ≤ l.length := by rw [List.length_take]; omega
  refine xju (ok_slSd (N := 32) (len := l.length) none (some (.tmp 6)) 0 (l.take 10).length rfl hS rfl ⟨.i64, rfl⟩ (Nat.zero_le _) hle) rfl ?_
  refine xr 1 rfl ?_
  exact xre hc [_] ⟨rfl, trivial⟩ ⟨rfl, Upd.refl _ _⟩
theorem has_ok (A : LawF P) {v : Value} {l : List Hash} (hS : SlC w v 32 l.length (hs l)) (hl : l.length < 2 ^ 40) (x : Hash) : RetV P A.has [v, hV x] w (.bool (hasB l x)) := by
  refine Ret.of_exec A.h_has (Nat.le_of_ble_eq_true rfl) fun c hc => ?_
  dsimp only [b_spinneylaw14_has, argEnv, ym, yo, yg, ys, yt, yd, ye]
  refine exec_box rfl rfl ?_
  intro b3 w1 hb3 hs1 hu1 hB3
  rw [hV_cells] at hB3
  refine xr 3 rfl ?_
  refine xlo (S := Nat) (fun i W => i ≤ l.length ∧ Ext w1 W ∧ hasB (l.take i) x = false) (fun i => [(0, v), (3, ptrV b3), (5, intV' i)]) (fun i => l.length - i) 0 ⟨Nat.zero_le _, Upd.refl _ _, rfl⟩ ⟨rfl, rfl, rfl, trivial⟩ ?_
  rintro i W ⟨i1, iU, iF⟩
  have hwW := hu1.trans iU
  refine xtm rfl rfl rfl ?_
  refine xtm rfl rfl rfl ?_
  refine xpu (hS.lenS rfl) rfl ?_
  by_cases hi : i < l.length
  · refine xpu (pv_lssI (a := i) (b := l.length) (q := true) rfl rfl (by simpa using hi)) rfl ?_
    refine xr 3 rfl ?_
    obtain ⟨y, hy⟩ : ∃ y, l[i]? = some y := ⟨_, List.getElem?_eq_getElem hi⟩
    have htk : l.take (i + 1) = l.take i ++ [y] := by rw [List.take_add_one, hy]; rfl
    obtain ⟨bd, od, cd, hdv, _, hmd⟩ := hs_at hS hy
    refine xen [(0, v), (3, ptrV b3), (5, intV' i)] ⟨rfl, rfl, rfl, trivial⟩ ?_
    refine exec_dwr rfl rfl rfl ?_
    repeat (first | refine wtm rfl rfl rfl ?_ | refine wgt rfl rfl rfl rfl ?_ | refine wgs rfl rfl ?_)
    refine ws_keep _ rfl (fun X hx => ok_iaddr (N := 32) (b := bd) (o := od) (len := l.length) (cap := cd) (by rw [← hdv]; rfl) rfl i rfl hi) ?_
    refine ws_keep (hV y) rfl (fun X hx => ok_loadN (b := bd) (o := od + i * 32) (vs := hC y) rfl (hmd.upd (hwW.trans hx) (by simp)) (hC_length _)) ?_
    refine ws_keep (hV x) rfl (fun X hx => ok_loadN (b := b3) (o := 0) (vs := hC x) rfl (hB3.upd (iU.trans hx)).memAll (hC_length _)) ?_
    refine ws_fin fun w2 hw2 => ?_
    refine xju (ok_eq_hash A.h_TH rfl rfl) rfl ?_
    refine exec_cond rfl (fun hq => ?_) (fun hq => ?_)
    · refine xr 1 rfl ?_
      refine xre hc [_] ⟨rfl, trivial⟩ ⟨?_, hwW.trans hw2⟩
      have hyx : y = x := by simpa using hq
      subst hyx
      have := hasB_iff.2 (List.mem_of_getElem? hy)
      rw [this]; rfl
    · refine xr 4 rfl ?_
      refine xpu (pv_addI (a := i) (b := 1) rfl rfl (by omega)) rfl ?_
      refine xr 1 rfl ?_
      refine xag (i + 1) ⟨hi, iU.trans hw2, ?_⟩ (by show l.length - (i + 1) < l.length - i; omega) ⟨rfl, rfl, rfl, trivial⟩
      have iF' : (l.take i).any (fun y => decide (y = x)) = false := iF
      rw [hasB, htk, List.any_append, iF']
      simpa using hq
  · refine xpu (pv_lssI (a := i) (b := l.length) (q := false) rfl rfl (by simpa using hi)) rfl ?_
    refine xr 4 rfl ?_
    refine xre hc [_] ⟨rfl, trivial⟩ ⟨?_, hwW⟩
    rw [List.take_of_length_le (by omega)] at iF
    rw [iF]; rfl
theorem rootsC_get : ∀ (l : List (Option Hash)) (i j : Nat) (o : Option Hash) (x : Value), l[i]? = some o → (rootC o)[j]? = some x → (rootsC l)[i * 33 + j]? = some x := by
  intro l
  induction l with
  | nil => intro i j o x hi; simp at hi
  | cons a l ih =>
    intro i j o x hi hj
    simp only [rootsC, List.flatMap_cons]
    have hjl : j < 33 := by have := (List.getElem?_eq_some_iff.1 hj).1; rw [rootC_len] at this; exact this
    cases i with
    | zero =>
      simp at hi; subst hi
      rw [Nat.zero_mul, Nat.zero_add, List.getElem?_append_left (by rw [rootC_len]; exact hjl)]; exact hj
    | succ i =>
      rw [List.getElem?_append_right (by rw [rootC_len]; omega), rootC_len, show (i + 1) * 33 + j - 33 = i * 33 + j by omega]
      exact ih i j o x (by simpa using hi) hj
theorem rootsC_at {v : Value} {l : List (Option Hash)} {i : Nat} {o : Option Hash} (hS : SlC w v 33 l.length (rootsC l)) (hi : l[i]? = some o) : ∃ b off cap, v = .slice (some ⟨b, off, none⟩) l.length cap ∧ i < l.length ∧ Mem w b (off + i * 33) (rootC o) := by
  have hlt := (List.getElem?_eq_some_iff.1 hi).1
  obtain ⟨b, off, cap, hv, hm, _⟩ := hS.at (by omega)
  exact ⟨b, off, cap, hv, hlt, hm.sub (i * 33) fun j x hj => rootsC_get l i j o x hi hj⟩
end
end Go.Sp

namespace Go.Sp
/-- the hash of one byte and zeros -/
def hK (b : UInt8) : Hash := ⟨b :: List.replicate 31 0, rfl⟩
theorem hK_fill (b : UInt8) : fillL (rleL [(32, .int .u8 0)]) [(0, 1, .int .u8 b.toNat)] = some (hC (hK b)) := by
  rw [fillL_cons (size := 1) rfl (by decide)]
  rfl
theorem hK_ne {a b : UInt8} (h : a ≠ b) : hK a ≠ hK b := fun he => h (by have := congrArg (fun x : Hash => x.1.head?) he; simpa [hK] using this)
def lw1 : List (Option Hash) := [some (hK 1), some (hK 2), some (hK 3)]
def lw2 : List (Option Hash) := [none, some (hK 2), some (hK 3)]
theorem trees3 : treesN 3 = [1, 0] := by decide
theorem roots_lw1 : rootsT (treesT parH (lv lw1) 3) = [some (parH (hK 1) (hK 2)), some (hK 3)] := by
  rw [treesT, trees3]
  generalize parH = par
  rfl
theorem where_lw2 : whereT (treesT parH (lv lw2) 3) 3 1 = 4 := by
  rw [treesT, trees3]
  generalize parH = par
  have hr : rootN 3 1 = some 4 := by decide
  have hf : firstN 3 1 = 0 := by decide
  simp only [List.map_cons, whereT, hf, buildT, lv, lw2, List.find?]
  simp [inT, joinT, hr, whereN]
theorem Granted.not_refused {L : List (Option Hash)} {del add : List Hash} {e : Nat} (h : Granted L del add) : ¬ Refused L del add e := by
  rintro (⟨_, x, h1, h2⟩ | ⟨_, _, h1⟩ | ⟨_, _, _, h1⟩)
  · exact h2 (h.live x h1)
  · exact h1 h.once
  · exact h1 ⟨h.new, h.free⟩
/-- the functions of the laws, on -/
structure LawG (P : Program) extends LawF P where
  works : Nat
  TWo : Nat
  TWs : Nat
  h_works : Has P works (b_spinneylaw14_works new' modify stump where' parent TH TWo TWs)
section
variable {P : Program} {f : Nat} {w : World}
theorem nilS (w : World) : SlC w (.slice none 0 0) 32 ([] : List Hash).length (hs []) := .inl ⟨.inl rfl, rfl, rfl⟩
theorem works_ok (A : LawG P) (hT : Tabs A.toShaF w) : RetV P A.works [] w (.bool true) := by
  refine Ret.of_exec A.h_works (Nat.le_of_ble_eq_true rfl) fun c hc => ?_
  dsimp only [b_spinneylaw14_works, argEnv, ym, yo, yg, ys, yt, yd, ye]
  refine xr 1 rfl ?_
  refine xca rfl rfl (new_ok A.toForM) ?_
  rintro _ w1 ⟨p, m, rfl, hp, hm, hF, hu1⟩
  refine xr 1 rfl ?_
  refine xju (ok_mkL (l := [(0, 1, .int .u8 1)]) (cs := hC (hK 1)) rfl (hK_fill 1)) rfl ?_
  refine xju (ok_mkL (l := [(0, 1, .int .u8 2)]) (cs := hC (hK 2)) rfl (hK_fill 2)) rfl ?_
  refine exec_new rfl ?_
  intro b2 w2 hb2 hs2 hu2 hB2
  refine exec_new rfl ?_
  intro b3 w3 hb3 hs3 hu3 hB3
  refine exec_store (b := b2) (o := 0) (v := hV (hK 1)) rfl rfl (hB2.upd hu3) (hV_size _) (by simp [rle]) (by rw [hV_cells]; exact hC_cell _) ?_
  intro w4 hu4 _ hB24
  refine exec_store (b := b3) (o := 0) (v := hV (hK 2)) rfl rfl (hB3.upd hu4 (by simp; omega)) (hV_size _) (by simp [rle]) (by rw [hV_cells]; exact hC_cell _) ?_
  intro w5 hu5 _ hB35
  rw [hV_cells, splice_all (by simp [hC_length, rle])] at hB24 hB35
  have hB25 := hB24.upd hu5 (by simp; omega)
  have z1 := hu1.size
  have k1 := hF.lt
  have hE15 : Ext w1 w5 := ((hu2.trans hu3).trans hu4 (fun b hb => .inr (by simp at hb; omega))).trans hu5 (fun b hb => .inr (by simp at hb; omega))
  refine xr 1 rfl ?_
  refine exec_loadN (b := b2) (o := 0) (vs := hC (hK 1)) rfl rfl hB25.memAll (hC_length _) ?_
  refine exec_loadN (b := b3) (o := 0) (vs := hC (hK 2)) rfl rfl hB35.memAll (hC_length _) ?_
  refine xju (ok_mkL (l := [(0, 1, .int .u8 3)]) (cs := hC (hK 3)) rfl (hK_fill 3)) rfl ?_
  refine exec_litL (N := 32) (cs := hs [hK 1, hK 2, hK 3]) (l := [(0, 32, hV (hK 1)), (32, 32, hV (hK 2)), (64, 32, hV (hK 3))]) rfl rfl rfl rfl ?_
  intro bl w6 hbl hs6 hu6 hOl
  have hE16 := hE15.trans hu6
  have hG : Granted [] [] [hK 1, hK 2, hK 3] := ⟨by simp, by simp, by simp [hK_ne (show (1 : UInt8) ≠ 2 by decide), hK_ne (show (1 : UInt8) ≠ 3 by decide), hK_ne (show (2 : UInt8) ≠ 3 by decide)], by simp⟩
  refine xca rfl rfl (modify_ok A.toForL (hT.upd (hu1.trans hE16)) (hF.ext hE16) (del := []) (add := [hK 1, hK 2, hK 3]) (nilS _) hOl.sl (by simp) (by simp) (by simp)) ?_
  rintro v w7 (⟨e, _, hR, _⟩ | ⟨u, rfl, _, hF7, hU7, hu7⟩)
  · exact absurd hR hG.not_refused
  have ht6 := (hF.ext hE16).tabs (hT.upd (hu1.trans hE16))
  have hT7 : Tabs A.toShaF w7 := (hT.upd (hu1.trans hE16)).upd hu7 ht6.1 ht6.2
  have hmod : modL [] [hK 1, hK 2, hK 3] [] = lw1 := rfl
  rw [hmod] at hF7
  have hB27 : Blk w7 b2 (hC (hK 1)) := (hB25.upd hu6).upd hu7 (by simp; omega)
  have hB37 : Blk w7 b3 (hC (hK 2)) := (hB35.upd hu6).upd hu7 (by simp; omega)
  have hw7 : Ext w w7 := (hu1.trans hE16).trans hu7 (fun b hb => .inr (by simp at hb; rcases hb with rfl | rfl <;> omega))
  refine xr 3 rfl ?_
  refine exec_new_store (v := u) rfl rfl rfl hU7.cells.1 rfl hU7.cells.2 ?_
  intro b4 w8 hb4 hs8 hu8 hB4
  refine xr 2 rfl ?_
  refine xen [(1, ptrV p), (2, ptrV b2), (3, ptrV b3), (5, intV' 0), (23, ptrV p)] ⟨rfl, rfl, rfl, rfl, rfl, trivial⟩ ?_
  refine xca rfl rfl (stump_ok A.toForO (hF7.ext hu8)) ?_
  rintro _ w9 ⟨rv, rfl, hu9, hO9, hf9⟩
  rw [show (Fo.L ⟨lw1, _, _⟩).length = 3 from rfl, roots_lw1] at hO9
  obtain ⟨br, off, rc, rfl, _, _⟩ := rootsC_at (l := [some (parH (hK 1) (hK 2)), some (hK 3)]) (i := 0) hO9.sl rfl
  refine exec_new_store (v := .agg #[u64V 3, .slice (some ⟨br, off, none⟩) 2 rc]) rfl rfl rfl rfl rfl rfl ?_
  intro b6 w10 hb6 hs10 hu10 hB6
  have hB6' : Blk w10 b6 [u64V 3, .slice (some ⟨br, off, none⟩) 2 rc] := hB6
  have hE710 : Ext w7 w10 := (hu8.trans hu9).trans hu10
  have hO10 := hO9.upd hu10 (by simp)
  refine xr 1 rfl ?_
  refine exec_loadN (b := b2) (o := 0) (vs := hC (hK 1)) rfl rfl (hB27.upd hE710).memAll (hC_length _) ?_
  refine exec_litL (N := 32) (cs := hs [hK 1]) (l := [(0, 32, hV (hK 1))]) rfl (by rw [hash_fill]; simp [hs]) rfl rfl ?_
  intro bm w11 hbm hs11 hu11 hOm
  have hE711 := hE710.trans hu11
  have hG2 : Granted lw1 [hK 1] [] := ⟨by simp [lw1], by simp, by simp, by simp⟩
  refine xca rfl rfl (modify_ok A.toForL (hT7.upd hE711) (hF7.ext hE711) (del := [hK 1]) (add := []) hOm.sl (nilS _) (by simp [lw1]) (by simp) (by simp)) ?_
  rintro v w12 (⟨e, _, hR, _⟩ | ⟨u2, rfl, _, hF12, hU12, hu12⟩)
  · exact absurd hR hG2.not_refused
  have hmod2 : modL [hK 1] [] lw1 = lw2 := by
    simp [modL, goneL, lw1, lw2, Option.filter, hK_ne (show (2 : UInt8) ≠ 1 by decide), hK_ne (show (3 : UInt8) ≠ 1 by decide)]
  have hF12' : FAt w12 p m ⟨lw2, 2, 2⟩ := by rw [← hmod2]; exact hF12
  have ht11 := (hF7.ext hE711).tabs (hT7.upd hE711)
  have hT12 : Tabs A.toShaF w12 := (hT7.upd hE711).upd hu12 ht11.1 ht11.2
  have z7 := hE16.size
  have z711 := hE711.size
  have z67 := hu7.size
  have hB312 : Blk w12 b3 (hC (hK 2)) := (hB37.upd hE711).upd hu12 (by simp; omega)
  have hB212 : Blk w12 b2 (hC (hK 1)) := (hB27.upd hE711).upd hu12 (by simp; omega)
  have hB612 : Blk w12 b6 [u64V 3, .slice (some ⟨br, off, none⟩) 2 rc] := (hB6'.upd hu11).upd hu12 (by simp; have := hu8.size; have := hu9.size; omega)
  have hO12 := (hO10.upd hu11 (by simp)).upd hu12 (by
    intro b hb hm
    have := hf9 b hb
    have := hu8.size
    simp at hm
    omega)
  have hw12 : Ext w w12 := (hw7.trans hE711).trans hu12 (fun b hb => .inr (by simp at hb; rcases hb with rfl | rfl <;> omega))
  refine xr 3 rfl ?_
  refine exec_new_store (v := u2) rfl rfl rfl hU12.cells.1 rfl hU12.cells.2 ?_
  intro b7 w13 hb7 hs13 hu13 hB7
  refine xr 2 rfl ?_
  refine exec_loadN (b := b3) (o := 0) (vs := hC (hK 2)) rfl rfl (hB312.upd hu13).memAll (hC_length _) ?_
  refine xca rfl rfl (where_ok A.toForN (hF12'.ext hu13) (hK 2)) ?_
  rintro v w14 ⟨hu14, hcase⟩
  rcases hcase with ⟨_, hno⟩ | ⟨x, rfl, hx⟩
  · exact absurd (by simp [lw2]) hno
  have hx1 : x = 1 := by
    have hx' : lw2[x]? = some (some (hK 2)) := hx
    match x, hx' with
    | 0, h => cases h
    | 1, _ => rfl
    | 2, h => exact absurd (Option.some.inj (Option.some.inj h)).symm (hK_ne (by decide))
    | x + 3, h => simp [lw2] at h
  subst hx1
  rw [show (Fo.L ⟨lw2, 2, 2⟩).length = 3 from rfl, where_lw2]
  have hE14 : Ext w12 w14 := hu13.trans hu14
  refine xr 5 rfl ?_
  refine xen [(2, ptrV b2), (3, ptrV b3), (5, intV' 0), (6, ptrV b6), (8, intV' 0), (9, u64V 4), (10, .bool true)] ⟨rfl, rfl, rfl, rfl, rfl, rfl, rfl, trivial⟩ ?_
  refine exec_dwr rfl rfl rfl ?_
  repeat (first | refine wtm rfl rfl rfl ?_ | refine wgt rfl rfl rfl rfl ?_ | refine wgs rfl rfl ?_)
  refine ws_val rfl (pv_eqlI (a := 0) (b := 0) (q := true) rfl rfl rfl) ?_
  repeat (first | refine wtm rfl rfl rfl ?_ | refine wgt rfl rfl rfl rfl ?_ | refine wgs rfl rfl ?_)
  refine ws_gval rfl rfl (pv_eqlI (a := 0) (b := 0) (q := true) rfl rfl rfl) ?_
  repeat (first | refine wtm rfl rfl rfl ?_ | refine wgt rfl rfl rfl rfl ?_ | refine wgs rfl rfl ?_)
  refine ws_gkeep (.slice (some ⟨br, off, none⟩) 2 rc) rfl rfl (fun X hx => ok_load1 (b := b6) (o := 0 + 1) rfl ((hB612.upd (hE14.trans hx)).cell rfl)) ?_
  refine ws_gval rfl rfl (hO12.sl.lenS rfl) ?_
  refine ws_gval rfl rfl (pv_eqlI (a := 2) (b := 2) (q := true) rfl rfl rfl) ?_
  repeat (first | refine wtm rfl rfl rfl ?_ | refine wgt rfl rfl rfl rfl ?_ | refine wgs rfl rfl ?_)
  refine ws_gkeep (.slice (some ⟨br, off, none⟩) 2 rc) rfl rfl (fun X hx => ok_load1 (b := b6) (o := 0 + 1) rfl ((hB612.upd (hE14.trans hx)).cell rfl)) ?_
  obtain ⟨br2, off2, cap2, hrv2, _, hmr⟩ := rootsC_at (l := [some (parH (hK 1) (hK 2)), some (hK 3)]) (i := 0) hO12.sl rfl
  cases hrv2
  refine ws_gkeep _ rfl rfl (fun X hx => ok_iaddr (N := 33) (b := br) (o := off) (len := 2) (cap := rc) rfl rfl 0 rfl (by omega)) ?_
  repeat (first | refine wtm rfl rfl rfl ?_ | refine wgt rfl rfl rfl rfl ?_ | refine wgs rfl rfl ?_)
  have hmh : Mem w12 br (off + 0 * 33 + 1) (hC (parH (hK 1) (hK 2))) := hmr.sub 1 fun j x hj => by
    show (Value.bool true :: hC (parH (hK 1) (hK 2)))[1 + j]? = some x
    rw [Nat.add_comm, List.getElem?_cons_succ]; exact hj
  refine ws_gkeep (hV (parH (hK 1) (hK 2))) rfl rfl (fun X hx => ok_loadN (b := br) (o := off + 0 * 33 + 1) rfl (hmh.upd (hE14.trans hx) (by simp)) (hC_length _)) ?_
  refine ws_gkeep (hV (hK 1)) rfl rfl (fun X hx => ok_loadN (b := b2) (o := 0) rfl (hB212.upd (hE14.trans hx)).memAll (hC_length _)) ?_
  refine ws_gkeep (hV (hK 2)) rfl rfl (fun X hx => ok_loadN (b := b3) (o := 0) rfl (hB312.upd (hE14.trans hx)).memAll (hC_length _)) ?_
  refine ws_gext (hV (parH (hK 1) (hK 2))) rfl rfl (fun X hx => ok_call rfl (parH_ok A.toLeafF (hT12.upd (hE14.trans hx)) (hK 1) (hK 2))) ?_
  refine ws_fin fun w15 hw15 => ?_
  refine xgr rfl ?_
  refine xju (ok_eq_hash A.h_TH rfl rfl) rfl ?_
  simp only [decide_true]
  refine xr 9 rfl ?_
  refine xpu (pv_eqlI (a := 4) (b := 4) (q := true) rfl rfl rfl) rfl ?_
  refine xr 2 rfl ?_
  exact xre hc [_] ⟨rfl, trivial⟩ ⟨rfl, (hw12.trans hE14).trans hw15⟩
end
end Go.Sp
