/- spinneylaw14.ForestKnown returns true for every input, and its arguments read afterwards as before: the card. No condition. This text: part 7 of 10. -/
import Derived.Test.YtgkfgclebdikgaaGreatDoorW6
set_option linter.unusedVariables false
set_option linter.unusedSimpArgs false
set_option linter.unusedSectionVars false
namespace Go.Sp
theorem lv_eq (L : List (Option Hash)) : lv L = lvG L := rfl
theorem Blk.over {w : World} {b i : Nat} {cs : List Value} (h : Blk w b cs) (hi : cs.length ≤ i) : w.cell? ⟨b, i, none⟩ = none := by
  obtain ⟨T, h⟩ := h
  simp [World.cell?, h, hi]
theorem map_nocell {w : World} {b i : Nat} {α β : Type} {enc : α → Value} {encV : β → Value} {l : List (α × β)} (h : MapAt w b enc encV l) : w.cell? ⟨b, i, none⟩ = none := by
  obtain ⟨es, clock, h, _⟩ := h
  simp [World.cell?, h]
theorem FAt.tabs {P : Program} {A : ShaF P} {w : World} {p m : Nat} {s : Fo} (h : FAt w p m s) (hT : Tabs A w) : A.gFirst ∉ [p, m] ∧ A.gConst ∉ [p, m] := by
  obtain ⟨⟨tv, wl, h1, h2, h3, h4⟩, _⟩ := h
  have f7 := hT.first 7 _ (show (firstW.map u64V)[7]? = some _ from rfl)
  have c7 := hT.const 7 _ (show (constW.map u64V)[7]? = some _ from rfl)
  simp only [List.mem_cons, List.not_mem_nil, or_false, not_or]
  refine ⟨⟨?_, ?_⟩, ?_, ?_⟩ <;> intro he
  · rw [he, h1.over (by simp)] at f7; cases f7
  · rw [he, map_nocell h3] at f7; cases f7
  · rw [he, h1.over (by simp)] at c7; cases c7
  · rw [he, map_nocell h3] at c7; cases c7
section
variable {P : Program} {n : Nat} {c : Ctx} {D : List Deferred} {is : List Ins} {k : Kont} {e : Env} {w : World}
variable {l : List Nat} {wr : Nat} {Wr : World → Prop} {ds : List DOp} {F : List (Nat × Value) → Prop} {done : List (Nat × Value)} {i : Nat} {deps : List Nat} {d : Option Nat} {m : MOp} {r : List DOp}
/-- an operation that reads what the writing one leaves alone -/
theorem ws_upd (v : Value) (hne : Nat.beq i wr = false) (hv : ∀ W, Upd l w W → OpOK P m (envV ds done deps ++ keepEnv ds i e) W (Just v W))
    (h : DWS P l wr Wr ds e w F (i + 1) ((i, v) :: done) r) : DWS P l wr Wr ds e w F i done ((deps, none, d, m) :: r) :=
  ⟨v, fun W h1 _ => (hv W h1).mono fun u W' hu => ⟨⟨hu.2 ▸ Upd.refl _ _, fun _ => hu.2 ▸ Upd.refl _ _⟩, hu.1, fun hi => by subst hi; simp at hne⟩, h⟩
end
/-- what a Modify is refused for -/
def Refused (L : List (Option Hash)) (del add : List Hash) (e : Nat) : Prop :=
  (e = 5 ∧ ∃ h ∈ del, some h ∉ L) ∨ (e = 24 ∧ (∀ h ∈ del, some h ∈ L) ∧ ¬ del.Nodup) ∨ (e = 6 ∧ (∀ h ∈ del, some h ∈ L) ∧ del.Nodup ∧ ¬ (add.Nodup ∧ ∀ h ∈ add, some h ∈ L → h ∈ del))
structure Granted (L : List (Option Hash)) (del add : List Hash) : Prop where
  live : ∀ h ∈ del, some h ∈ L
  once : del.Nodup
  new : add.Nodup
  free : ∀ h ∈ add, some h ∈ L → h ∈ del
def goneMap (gl : List (Hash × Nat)) (L : List (Option Hash)) (del : List Hash) : Prop := ∀ h i, aget h gl = some i ↔ h ∈ del ∧ L[i]? = some (some h)
def newMap (cl : List (Hash × Nat)) (n : Nat) (add : List Hash) : Prop := ∀ h i, aget h cl = some i ↔ ∃ k, add[k]? = some h ∧ i = n + k
/-- where what undoes a Modify lies -/
structure UAt (w : World) (u : Value) (p m : Nat) (s : Fo) (t : Nat) (del add : List Hash) : Prop where
  ex : ∃ tv gr cr gl cl, u = .agg #[ptrV p, intV' t, intV' s.turn, u64V s.L.length, tv, .map (some gr), .map (some cr)] ∧ TreesF w tv (treesT parH (lv s.L) s.L.length) ∧ MapAt w gr hV u64V gl ∧ MapAt w cr hV u64V cl ∧ goneMap gl s.L del ∧ newMap cl s.L.length add ∧ gr ≠ p ∧ gr ≠ m ∧ cr ≠ p ∧ cr ≠ m
  len : s.L.length + add.length < 2 ^ 40
  turn : s.turn < 2 ^ 40
theorem where_mod {wl gl cl l2 : List (Hash × Nat)} {L : List (Option Hash)} {del add : List Hash} (h : WhereOK wl L) (hg : goneMap gl L del) (hc : newMap cl L.length add) (ha : Granted L del add)
    (h2 : ∀ h, aget h l2 = (aget h cl).or (if (aget h gl).isSome then none else aget h wl)) : WhereOK l2 (modL del add L) := by
  intro x i
  have key : (modL del add L)[i]? = some (some x) ↔ (L[i]? = some (some x) ∧ x ∉ del) ∨ ∃ k, add[k]? = some x ∧ i = L.length + k := by
    rw [modL]
    rcases Nat.lt_or_ge i L.length with hi | hi
    · rw [List.getElem?_append_left (by rw [goneL_len]; exact hi), goneL_get]
      constructor
      · exact .inl
      · rintro (h | ⟨k, _, h⟩)
        · exact h
        · omega
    · rw [List.getElem?_append_right (by rw [goneL_len]; exact hi), goneL_len, List.getElem?_map]
      have hn : L[i]? = none := List.getElem?_eq_none hi
      constructor
      · intro h
        refine .inr ⟨i - L.length, ?_, by omega⟩
        cases ho : add[i - L.length]? with
        | none => rw [ho] at h; cases h
        | some y => rw [ho] at h; cases h; rfl
      · rintro (⟨h, _⟩ | ⟨k, h, rfl⟩)
        · rw [hn] at h; cases h
        · rw [Nat.add_sub_cancel_left, h]; rfl
  rw [key, h2]
  cases ho : aget x cl with
  | some j =>
    obtain ⟨k, hk, rfl⟩ := (hc x j).1 ho
    simp only [Option.some_or, Option.some.injEq]
    constructor
    · rintro rfl; exact .inr ⟨k, hk, rfl⟩
    · rintro (⟨h3, h4⟩ | ⟨k', h3, rfl⟩)
      · exact absurd (ha.free x (List.mem_of_getElem? hk) (List.mem_of_getElem? h3)) h4
      · have := (hc x (L.length + k')).2 ⟨k', h3, rfl⟩
        rw [ho] at this; exact Option.some.inj this
  | none =>
    have hno : ¬ ∃ k, add[k]? = some x ∧ i = L.length + k := fun h => by rw [(hc x i).2 h] at ho; cases ho
    simp only [Option.none_or, hno, or_false]
    cases hgo : aget x gl with
    | some j =>
      have := (hg x j).1 hgo
      simp [this.1]
    | none =>
      simp only [Option.isSome_none, Bool.false_eq_true, if_false]
      rw [h x i]
      constructor
      · intro h3
        refine ⟨h3, fun hd => ?_⟩
        rw [(hg x i).2 ⟨hd, h3⟩] at hgo; cases hgo
      · exact And.left
theorem TreesOwn.val {w : World} {tv : Value} {ts : List (TT Hash)} (h : TreesOwn w tv ts) : ∃ a l c, tv = .slice a l c := by
  obtain ⟨vs, _, h⟩ := h
  rcases h with ⟨rfl, _⟩ | ⟨b, cap, rest, rfl, _⟩
  · exact ⟨_, _, _, rfl⟩
  · exact ⟨_, _, _, rfl⟩
/-- leaves in the midst of a Modify -/
def midL (del add : List Hash) (L : List (Option Hash)) (i : Nat) : List (Option Hash) := goneL del L ++ (add.take i).map some
theorem midL_len {del add : List Hash} {L : List (Option Hash)} {i : Nat} (hi : i ≤ add.length) : (midL del add L i).length = L.length + i := by
  simp [midL, goneL_len]; omega
theorem midL_next {del add : List Hash} {L : List (Option Hash)} {i : Nat} {h : Hash} (hi : add[i]? = some h) : midL del add L (i + 1) = midL del add L i ++ [some h] := by
  rw [midL, midL, grown_next hi, List.map_append]; exact (List.append_assoc _ _ _).symm
/-- the functions of forest, on -/
structure ForL (P : Program) extends ForK P where
  modify : Nat
  TUn : Nat
  TMH : Nat
  h_modify : Has P modify (b_Pforest_Forest_Modify is' going coming valsH nf.sorted deleted grown change TUn TMH)
def undoC (p t o n : Nat) (tv : Value) (gr cr : Nat) : List Value := [ptrV p, intV' t, intV' o, u64V n, tv, .map (some gr), .map (some cr)]
def undoZ : List Value := [.pointer none, intV' 0, intV' 0, u64V 0, .slice none 0 0, .map none, .map none]
section
variable {P : Program} {f : Nat} {w : World}
theorem ok_new {e : Env} {T : TypeId} {z : Array Value} : OpOK P (.new T z) e w fun v W => ∃ b, v = ptrV b ∧ Blk W b z.toList ∧ w.heap.size ≤ b ∧ Ext w W := by
  have h : OpOK P (.new T z) e w fun u W => u = ptrV w.heap.size ∧ W = w.alloc (.cells z T) := ok_val fun a hk => by simp [MOp.sem, newRow]
  refine h.mono ?_
  rintro v W ⟨rfl, rfl⟩
  exact ⟨_, rfl, alloc_blk w z.toList T, Nat.le_refl _, Upd.alloc _ _ _⟩
set_option maxHeartbeats 1600000 in
theorem modify_ok (A : ForL P) (hT : Tabs A.toShaF w) {p m : Nat} {s : Fo} (h : FAt w p m s) {dv av : Value} {del add : List Hash} (hD : SlC w dv 32 del.length (hs del)) (hA : SlC w av 32 add.length (hs add)) (hl : s.L.length + add.length < 2 ^ 40) (hd : del.length < 2 ^ 40) (ht : s.turns + 1 < 2 ^ 40) :
    Ret P A.modify [ptrV p, dv, av] w fun v w' => (∃ e, v = .tuple #[.agg undoZ.toArray, intV' e] ∧ Refused s.L del add e ∧ Ext w w') ∨
      (∃ u, v = .tuple #[u, intV' 0] ∧ Granted s.L del add ∧ FAt w' p m ⟨modL del add s.L, s.turns + 1, s.turns + 1⟩ ∧ UAt w' u p m s (s.turns + 1) del add ∧ Upd [p, m] w w') := by
  have hF := h
  have hlt := h.lt
  have hne := h.ne
  have hfor := h.foreign
  have htab := h.tabs hT
  obtain ⟨⟨tv, wl, h1, h2, h3, h4⟩, h5, h6, h7⟩ := h
  obtain ⟨ta, tl, tc, rfl⟩ := h2.own.val
  refine Ret.of_exec A.h_modify (Nat.le_of_ble_eq_true rfl) fun c hc => ?_
  dsimp only [b_Pforest_Forest_Modify, argEnv, ym, yo, yg, ys, yt, yd, ye]
  refine exec_new rfl ?_
  intro b6 w1 hb6 hs1 hu1 hB6
  refine xr 2 rfl ?_
  refine xca rfl rfl (is_ok A.toForJ (hF.ext hu1)) ?_
  rintro _ w2 ⟨rfl, hu2⟩
  refine xr 5 rfl ?_
  have hE2 : Ext w w2 := hu1.trans hu2
  have hB62 : Blk w2 b6 undoZ := hB6.upd hu2
  refine xca rfl rfl (going_ok A.toForJ (hF.ext hE2) (hD.upd hE2 (by simp)) hd) ?_
  rintro v3 w3 ⟨hu3, hcase⟩
  have hE3 := hE2.trans hu3
  have hB63 := hB62.upd hu3
  rcases hcase with ⟨rfl, hno⟩ | ⟨rfl, hall, hnd⟩ | ⟨gr, gl, rfl, hgr, hG, hGm, hgl, hall, hnd⟩
  · refine xr 6 rfl ?_
    refine xpu (pv_neqI (a := 5) (b := 0) (q := true) rfl rfl rfl) rfl ?_
    refine xr 1 rfl ?_
    refine xju (ok_mkL (l := []) (cs := undoZ) rfl rfl) rfl ?_
    refine xr 1 rfl ?_
    refine exec_store (b := b6) (o := 0) (v := .agg undoZ.toArray) rfl rfl hB63 rfl (by decide) rfl ?_
    intro W' hu' _ hB'
    refine xr 1 rfl ?_
    exact xre hc [.agg undoZ.toArray, _] ⟨⟨b6, 0, undoZ, rfl, Blk.memAll (show Blk W' b6 undoZ from hB'), rfl, rfl⟩, rfl, trivial⟩ (.inl ⟨5, rfl, .inl ⟨rfl, hno⟩, (hE3).trans hu' (fun b hb => .inr (by simp at hb; omega))⟩)
  · refine xr 6 rfl ?_
    refine xpu (pv_neqI (a := 24) (b := 0) (q := true) rfl rfl rfl) rfl ?_
    refine xr 1 rfl ?_
    refine xju (ok_mkL (l := []) (cs := undoZ) rfl rfl) rfl ?_
    refine xr 1 rfl ?_
    refine exec_store (b := b6) (o := 0) (v := .agg undoZ.toArray) rfl rfl hB63 rfl (by decide) rfl ?_
    intro W' hu' _ hB'
    refine xr 1 rfl ?_
    exact xre hc [.agg undoZ.toArray, _] ⟨⟨b6, 0, undoZ, rfl, Blk.memAll (show Blk W' b6 undoZ from hB'), rfl, rfl⟩, rfl, trivial⟩ (.inl ⟨24, rfl, .inr (.inl ⟨rfl, hall, hnd⟩), (hE3).trans hu' (fun b hb => .inr (by simp at hb; omega))⟩)
  refine xr 6 rfl ?_
  refine xpu (pv_neqI (a := 0) (b := 0) (q := false) rfl rfl rfl) rfl ?_
  refine xr 5 rfl ?_
  refine xca rfl rfl (coming_ok A.toForJ (hF.ext hE3) (hA.upd hE3 (by simp)) (by omega) hG) ?_
  rintro v4 w4 ⟨hu4, hcase⟩
  have hE4 := hE3.trans hu4
  have hB64 := hB63.upd hu4
  have hmay : mayCome s add gl ↔ (add.Nodup ∧ ∀ h ∈ add, some h ∈ s.L → h ∈ del) := by
    refine and_congr_right fun _ => forall_congr' fun x => forall_congr' fun _ => forall_congr' fun hx => ?_
    rw [Option.isSome_iff_exists]
    constructor
    · rintro ⟨i, hi⟩; exact ((hGm x i).1 hi).1
    · intro hxd
      obtain ⟨i, hi⟩ := List.getElem?_of_mem hx
      exact ⟨i, (hGm x i).2 ⟨hxd, hi⟩⟩
  rw [hmay] at hcase
  rcases hcase with ⟨rfl, hno⟩ | ⟨cr, cl, rfl, hcr, hCr, hCm, hgrant⟩
  · refine xr 6 rfl ?_
    refine xpu (pv_neqI (a := 6) (b := 0) (q := true) rfl rfl rfl) rfl ?_
    refine xr 1 rfl ?_
    refine xju (ok_mkL (l := []) (cs := undoZ) rfl rfl) rfl ?_
    refine xr 1 rfl ?_
    refine exec_store (b := b6) (o := 0) (v := .agg undoZ.toArray) rfl rfl hB64 rfl (by decide) rfl ?_
    intro W' hu' _ hB'
    refine xr 1 rfl ?_
    exact xre hc [.agg undoZ.toArray, _] ⟨⟨b6, 0, undoZ, rfl, Blk.memAll (show Blk W' b6 undoZ from hB'), rfl, rfl⟩, rfl, trivial⟩ (.inl ⟨6, rfl, .inr (.inr ⟨rfl, hall, hnd, hno⟩), (hE4).trans hu' (fun b hb => .inr (by simp at hb; omega))⟩)
  have hGr : Granted s.L del add := ⟨hall, hnd, hgrant.1, hgrant.2⟩
  refine xr 6 rfl ?_
  refine xpu (pv_neqI (a := 0) (b := 0) (q := false) rfl rfl rfl) rfl ?_
  have z3 := hE3.size
  have z12 := hu2.size
  have z23 := hu3.size
  have z2 := hE2.size
  have hB4 := h1.upd hE4
  refine xr 5 rfl ?_
  refine xen [(0, ptrV p), (2, av), (6, ptrV b6), (8, .map (some gr)), (10, .map (some cr)), (40, ptrV p), (42, .pointer (some ⟨p, 0 + 4, none⟩))] ⟨rfl, rfl, rfl, rfl, rfl, rfl, rfl, trivial⟩ ?_
  refine exec_load1 (b := p) (o := 0 + 4) (v := intV' s.turns) rfl rfl (hB4.cell rfl) ?_
  refine xpu (pv_addI (a := s.turns) (b := 1) rfl rfl (by omega)) rfl ?_
  refine xr 2 rfl ?_
  refine exec_store (b := p) (o := 0 + 4) (v := intV' (s.turns + 1)) rfl rfl hB4 rfl (by simp) rfl ?_
  intro w5 hu5 hs5 hB5
  have hB5' : Blk w5 p [u64V s.L.length, .slice ta tl tc, .map (some m), intV' s.turn, intV' (s.turns + 1)] := hB5
  clear hB5
  have hU5 : Upd [p] w w5 := (hE4.mono (m := [p]) (by simp)).trans hu5
  have z4 := hu4.size
  have hgm : gr ≠ p ∧ gr ≠ m ∧ cr ≠ p ∧ cr ≠ m := by omega
  refine xen [(0, ptrV p), (2, av), (6, ptrV b6), (8, .map (some gr)), (10, .map (some cr))] ⟨rfl, rfl, rfl, rfl, rfl, trivial⟩ ?_
  refine exec_dw [] rfl rfl rfl ?_
  repeat (first | refine dau rfl (fun _ => rfl) ?_ | refine dga rfl (fun _ => rfl) (fun _ => rfl) ?_ | refine dgs (fun _ => rfl) ?_)
  refine dw_keep (intV' (s.turns + 1)) (fun vs X hx _ => ok_load1 (b := p) (o := 0 + 4) rfl ((hB5'.upd hx).cell rfl)) ?_
  repeat (first | refine dau rfl (fun _ => rfl) ?_ | refine dga rfl (fun _ => rfl) (fun _ => rfl) ?_ | refine dgs (fun _ => rfl) ?_)
  refine dw_keep (intV' s.turn) (fun vs X hx _ => ok_load1 (b := p) (o := 0 + 3) rfl ((hB5'.upd hx).cell rfl)) ?_
  repeat (first | refine dau rfl (fun _ => rfl) ?_ | refine dga rfl (fun _ => rfl) (fun _ => rfl) ?_ | refine dgs (fun _ => rfl) ?_)
  refine dw_keep (u64V s.L.length) (fun vs X hx _ => ok_load1 (b := p) (o := 0 + 0) rfl ((hB5'.upd hx).cell rfl)) ?_
  repeat (first | refine dau rfl (fun _ => rfl) ?_ | refine dga rfl (fun _ => rfl) (fun _ => rfl) ?_ | refine dgs (fun _ => rfl) ?_)
  refine dw_keep (.slice ta tl tc) (fun vs X hx _ => ok_load1 (b := p) (o := 0 + 1) rfl ((hB5'.upd hx).cell rfl)) ?_
  repeat (first | refine dau rfl (fun _ => rfl) ?_ | refine dga rfl (fun _ => rfl) (fun _ => rfl) ?_ | refine dgs (fun _ => rfl) ?_)
  refine dw_keep (.agg (undoC p (s.turns + 1) s.turn s.L.length (.slice ta tl tc) gr cr).toArray) (fun vs X hx _ => ok_mkL (l := [(0, 1, ptrV p), (1, 1, intV' (s.turns + 1)), (2, 1, intV' s.turn), (3, 1, u64V s.L.length), (4, 1, .slice ta tl tc), (5, 1, .map (some gr)), (6, 1, .map (some cr))]) (cs := undoC p (s.turns + 1) s.turn s.L.length (.slice ta tl tc) gr cr) rfl rfl) ?_
  refine dw_rel [] (fun W _ v => ∃ b, v = ptrV b ∧ Blk W b undoZ ∧ w5.heap.size ≤ b) rfl ?_ ?_ ?_
  · rintro X X' xs v h1 h2 ⟨b, rfl, h3, h4⟩
    exact ⟨b, rfl, h3.upd h2, h4⟩
  · intro vs X hx _
    refine ok_new.mono ?_
    rintro v X' ⟨b, rfl, q1, q2, q3⟩
    have := hx.size
    exact ⟨q3, b, rfl, q1, by omega⟩
  refine dw_end fun vs w6 hu6 hf => ?_
  obtain ⟨⟨b11, hv11, hB11, hb11⟩, _⟩ := hf
  refine xen [(0, ptrV p), (2, av), (6, ptrV b6), (8, .map (some gr)), (10, .map (some cr)), (11, ptrV b11), (66, .agg (undoC p (s.turns + 1) s.turn s.L.length (.slice ta tl tc) gr cr).toArray)] ⟨rfl, rfl, rfl, rfl, rfl, by show some (vs 20) = _; rw [hv11], rfl, trivial⟩ ?_
  refine exec_store (b := b11) (o := 0) (v := .agg (undoC p (s.turns + 1) s.turn s.L.length (.slice ta tl tc) gr cr).toArray) rfl rfl hB11 rfl (by decide) rfl ?_
  intro w7 hu7 hs7 hB11n
  have hB11' : Blk w7 b11 (undoC p (s.turns + 1) s.turn s.L.length (.slice ta tl tc) gr cr) := hB11n
  clear hB11n
  have z5 := hU5.size
  have hU7 : Upd [p] w w7 := (hU5.trans hu6).trans hu7 (fun b hb => .inr (by simp at hb; omega))
  have hW57 : Ext w5 w7 := hu6.trans hu7 (fun b hb => .inr (by simp at hb; omega))
  have hB7 := hB5'.upd hW57
  have hU47 : Upd [p] w4 w7 := hu5.trans hW57
  have z47 := hU47.size
  have hG7 : MapAt w7 gr hV u64V gl := (hG.upd hu4).upd hU47 (by simp; omega)
  have hC7 : MapAt w7 cr hV u64V cl := hCr.upd hU47 (by simp; omega)
  have hB67 : Blk w7 b6 undoZ := hB64.upd hU47 (by simp; omega)
  refine xen [(0, ptrV p), (2, av), (6, ptrV b6), (8, .map (some gr)), (10, .map (some cr)), (11, ptrV b11)] ⟨rfl, rfl, rfl, rfl, rfl, rfl, trivial⟩ ?_
  refine exec_dw [] rfl rfl rfl ?_
  repeat (first | refine dau rfl (fun _ => rfl) ?_ | refine dga rfl (fun _ => rfl) (fun _ => rfl) ?_ | refine dgs (fun _ => rfl) ?_)
  refine dw_keep (.slice ta tl tc) (fun vs X hx _ => ok_load1 (b := p) (o := 0 + 1) rfl ((hB7.upd hx).cell rfl)) ?_
  repeat (first | refine dau rfl (fun _ => rfl) ?_ | refine dga rfl (fun _ => rfl) (fun _ => rfl) ?_ | refine dgs (fun _ => rfl) ?_)
  refine dw_rel [] (fun X _ v => ∃ bs, v = .func (.func A.valsH1) #[] #[ptrV bs] ∧ Blk X bs [.map (some gr)]) rfl ?_ ?_ ?_
  · rintro X X' xs v q1 q2 ⟨b, rfl, q3⟩
    exact ⟨b, rfl, q3.upd q2⟩
  · intro vs X hx _
    refine (ok_call rfl (valsH_ok A.toForK)).mono ?_
    rintro v X' ⟨rfl, q1, q2⟩
    exact ⟨q2, _, rfl, q1⟩
  refine dw_rel [] (fun X _ v => SlC X v 1 (sortN (gl.map Prod.snd)).length ((sortN (gl.map Prod.snd)).map u64V)) rfl (fun X X' xs u _ hu h => h.upd hu (by simp)) ?_ ?_
  · intro vs X hx hd'
    obtain ⟨⟨bs, hvs, hbs⟩, _⟩ := hd'
    have hret := sortedVals_ok A.toForK hbs (hG7.upd hx) (by omega)
    rw [← hvs] at hret
    refine (ok_call rfl hret).mono ?_
    rintro v X' ⟨q1, q2, q3⟩
    exact ⟨q2, q1.sl⟩
  refine dw_end fun vs2 w8 hu8 hf => ?_
  obtain ⟨hS8, _⟩ := hf
  generalize hv6 : vs2 6 = sl at hS8
  refine xen [(0, ptrV p), (2, av), (6, ptrV b6), (8, .map (some gr)), (10, .map (some cr)), (11, ptrV b11), (70, .slice ta tl tc), (73, sl)] ⟨rfl, rfl, rfl, rfl, rfl, rfl, rfl, by show some (vs2 6) = _; rw [hv6], trivial⟩ ?_
  have hU8 : Upd [p] w w8 := hU7.trans hu8
  have hW08 : Upd [p, m] w w8 := hU8.mono (fun b hb => by simp at hb; simp [hb])
  have hfp : Foreign w [p] := fun b hb => hfor b (by simp at hb; simp [hb])
  have hT8 : Tabs A.toShaF w8 := hT.upd hW08 htab.1 htab.2
  have h28 : TreesF w8 (.slice ta tl tc) (treesT parH (lv s.L) s.L.length) := h2.upd hU8 hfp
  have h63 : s.L.length < 2 ^ 63 := by omega
  have hlenT := treesT_len parH (L := lv s.L) h63
  have hgone : ∀ x, x ∈ sortN (gl.map Prod.snd) ↔ ∃ h, h ∈ del ∧ s.L[x]? = some (some h) := by
    intro x
    rw [(sortN_perm _).mem_iff, List.mem_map]
    constructor
    · rintro ⟨⟨h, i⟩, hm, rfl⟩
      exact ⟨h, (hGm h i).1 (mem_aget hG7.nodup hm)⟩
    · rintro ⟨h, hh⟩
      exact ⟨(h, x), aget_mem ((hGm h x).2 hh), rfl⟩
  have hdelT : (treesT parH (lv s.L) s.L.length).map (delT (sortN (gl.map Prod.snd))) = treesT parH (lv (goneL del s.L)) s.L.length := by
    rw [treesT, treesT, List.map_map]
    refine List.map_congr_left fun k _ => ?_
    simp only [Function.comp, delT, partOf']
    rw [lv_eq, lv_eq, gone_tree parH hgone]
  refine xca rfl rfl (deleted_ok A.toForH hT8 h28.own.sl (by omega) hS8 (sortN_sorted _) ?_ ?_ ?_) ?_
  · rw [(sortN_perm _).length_eq, List.length_map]; omega
  · intro t htm h0
    obtain ⟨k, rfl, _⟩ := treesT_mem parH h5 htm
    exact none_part parH (fun x hx => by obtain ⟨h, _, hh⟩ := (hgone x).1 hx; exact ⟨h, hh⟩) h0
  · intro t htm
    obtain ⟨k, rfl, q1, q2⟩ := treesT_mem parH h5 htm
    exact ⟨by show firstN _ k + 2 ^ k < _; omega, by show k < 63; omega⟩
  rintro v9 w9 ⟨hO9, hu9, hf9, hn9⟩
  rw [hdelT] at hO9
  refine xr 2 rfl ?_
  refine xen [(0, ptrV p), (75, av), (6, ptrV b6), (8, .map (some gr)), (10, .map (some cr)), (11, ptrV b11), (12, v9)] ⟨rfl, rfl, rfl, rfl, rfl, rfl, rfl, trivial⟩ ?_
  have z8 := hU8.size
  have z78 := hu8.size
  refine xpu (hA.lenS rfl) rfl ?_
  refine xr 2 rfl ?_
  refine xlo (S := Nat × Value) (fun st W => st.1 ≤ add.length ∧ Blk W p [u64V (s.L.length + st.1), .slice ta tl tc, .map (some m), intV' s.turn, intV' (s.turns + 1)] ∧ TreesOwn W st.2 (treesT parH (lv (midL del add s.L st.1)) (s.L.length + st.1)) ∧ Upd [p] w8 W ∧ (∀ b ∈ blkOf st.2, w8.heap.size ≤ b) ∧ (s.L.length + st.1 = 0 → st.2 = .slice none 0 0))
    (fun st => [(0, ptrV p), (75, av), (76, intV' add.length), (77, intV' st.1), (6, ptrV b6), (8, .map (some gr)), (10, .map (some cr)), (11, ptrV b11), (12, st.2)]) (fun st => add.length - st.1) (0, v9)
    ⟨Nat.zero_le _, (hB7.upd hu8).upd hu9, by simpa [midL] using hO9, hu9.mono (by simp), hf9, fun h0 => hn9 (h2.nil (by
      have h00 : s.L.length = 0 := h0
      rw [h00]; rfl))⟩ ⟨rfl, rfl, rfl, rfl, rfl, rfl, rfl, rfl, rfl, trivial⟩ ?_
  rintro ⟨i, v⟩ W ⟨i1, iB, iO, iU, iF, iN⟩
  simp only at i1 iB iO iF iN
  skip
  by_cases hi : i < add.length
  · refine xpu (pv_lssI (a := i) (b := add.length) (q := true) rfl rfl (by simpa using hi)) rfl ?_
    refine xr 3 rfl ?_
    obtain ⟨hh, hhi⟩ : ∃ x, add[i]? = some x := ⟨_, List.getElem?_eq_getElem hi⟩
    obtain ⟨bd, od, cd, hdv, _, hmd⟩ := hs_at hA hhi
    have hbdp : bd ≠ p := by
      intro he
      have := hmd 31 _ (List.getElem?_eq_getElem (by rw [hC_length]; omega))
      rw [he, h1.over (by simp)] at this; cases this
    refine xju (ok_iaddr (N := 32) (b := bd) (o := od) (len := add.length) (cap := cd) (by rw [← hdv]; rfl) rfl i rfl hi) rfl ?_
    have hpW : Upd [p] w W := hU8.trans iU
    refine exec_loadN (b := bd) (o := od + i * 32) (vs := hC hh) rfl rfl (hmd.upd hpW (by simpa using hbdp)) (hC_length _) ?_
    refine exec_new_store (v := hV hh) rfl rfl rfl (hV_size hh) rfl (by rw [hV_cells]; exact hC_cell _) ?_
    intro b14 W1 hb14 hs14 hw1 hB14
    rw [hV_cells] at hB14
    refine xen [(0, ptrV p), (75, av), (76, intV' add.length), (77, intV' i), (6, ptrV b6), (8, .map (some gr)), (10, .map (some cr)), (11, ptrV b11), (12, v), (14, ptrV b14)] ⟨rfl, rfl, rfl, rfl, rfl, rfl, rfl, rfl, rfl, rfl, trivial⟩ ?_
    refine exec_dwr rfl rfl rfl ?_
    repeat (first | refine wtm rfl rfl rfl ?_ | refine wgt rfl rfl rfl rfl ?_ | refine wgs rfl rfl ?_)
    refine ws_keep (hV hh) rfl (fun X hx => ok_loadN (b := b14) (o := 0) rfl (hB14.upd hx).memAll (hC_length _)) ?_
    repeat (first | refine wtm rfl rfl rfl ?_ | refine wgt rfl rfl rfl rfl ?_ | refine wgs rfl rfl ?_)
    refine ws_keep (u64V (s.L.length + i)) rfl (fun X hx => ok_load1 (b := p) (o := 0 + 0) rfl (((iB.upd hw1).upd hx).cell rfl)) ?_
    refine ws_fin fun W2 hw2 => ?_
    have hpW2 : Upd [p] w W2 := (hpW.trans hw1).trans hw2
    have hTW : Tabs A.toShaF W2 := hT.upd (hpW2.mono (m := [p, m]) (fun b hb => by simp at hb; simp [hb])) htab.1 htab.2
    have hml := midL_len (del := del) (L := s.L) i1
    have hn63 : s.L.length + i < 2 ^ 63 := by omega
    refine xca rfl rfl (grown_ok A.toForI hTW hh (s.L.length + i) ((iO.ext hw1).ext hw2) (Nat.lt_of_le_of_lt (treesT_len parH hn63) (by omega)) (by omega) ?_) ?_
    · intro t htm
      obtain ⟨k, rfl, q1, q2⟩ := treesT_mem parH (by omega) htm
      have : 0 < 2 ^ k := Nat.pow_pos (by omega)
      exact ⟨by show firstN _ k < _; omega, by show k < 62; omega⟩
    rintro v3 W3 ⟨hO3, hu3, hf3⟩
    have hgrow : (growT parH (treesT parH (lv (midL del add s.L i)) (s.L.length + i)).reverse (some (.leaf hh), s.L.length + i, 0)).reverse = treesT parH (lv (midL del add s.L (i + 1))) (s.L.length + (i + 1)) := by
      have := grow_one parH (L := midL del add s.L i) (h := hh) (by omega)
      rw [hml] at this
      rw [lv_eq, lv_eq, midL_next hhi, this, Nat.add_assoc]
    rw [hgrow] at hO3
    have zW := iU.size
    have zW1 := hw1.size
    have zW2 := hw2.size
    have hpv : p ∉ blkOf v := fun hm => by have := iF p hm; omega
    have iB3 : Blk W3 p [u64V (s.L.length + i), .slice ta tl tc, .map (some m), intV' s.turn, intV' (s.turns + 1)] := ((iB.upd hw1).upd hw2).upd hu3 hpv
    refine xr 4 rfl ?_
    refine exec_load1 (b := p) (o := 0 + 0) (v := u64V (s.L.length + i)) rfl rfl (iB3.cell rfl) ?_
    refine xpu (pv_addU (a := s.L.length + i) (b := 1) rfl rfl (by omega)) rfl ?_
    refine xr 2 rfl ?_
    refine exec_store (b := p) (o := 0 + 0) (v := u64V (s.L.length + i + 1)) rfl rfl iB3 rfl (by simp) rfl ?_
    intro W4 hu4' _ hB4'
    have hB4'' : Blk W4 p [u64V (s.L.length + (i + 1)), .slice ta tl tc, .map (some m), intV' s.turn, intV' (s.turns + 1)] := hB4'
    clear hB4'
    refine xr 2 rfl ?_
    refine xpu (pv_addI (a := i) (b := 1) rfl rfl (by omega)) rfl ?_
    refine xr 1 rfl ?_
    have hU83 : Upd [p] w8 W3 := ((iU.trans hw1).trans hw2).trans hu3 (fun b hb => .inr (iF b hb))
    refine xag (i + 1, v3) ⟨hi, hB4'', hO3.updB hu4' ?_ ?_, hU83.trans hu4', fun b hb => ?_, fun h0 => by have : s.L.length + (i + 1) = 0 := h0; omega⟩ (by show add.length - (i + 1) < add.length - i; omega) ⟨rfl, rfl, rfl, rfl, rfl, rfl, rfl, rfl, rfl, trivial⟩
    · exact NoNode.of iB3 (by simp)
    · intro b hb hm
      have : w8.heap.size ≤ b := by
        rcases hf3 b hb with h | h
        · exact iF b h
        · omega
      simp at hm; omega
    · rcases hf3 b hb with h | h
      · exact iF b h
      · omega
  · refine xpu (pv_lssI (a := i) (b := add.length) (q := false) rfl rfl (by simpa using hi)) rfl ?_
    have : i = add.length := by omega
    subst this
    refine xr 3 rfl ?_
    obtain ⟨na, nl, nc, rfl⟩ := iO.val
    have hmod : midL del add s.L add.length = modL del add s.L := by rw [midL, List.take_length, modL]
    rw [hmod] at iO
    have hpW : Upd [p] w W := hU8.trans iU
    have hW7 : Upd [p] w7 W := (hu8.mono (by simp)).trans iU
    have iB11 : Blk W b11 (undoC p (s.turns + 1) s.turn s.L.length (.slice ta tl tc) gr cr) := hB11'.upd hW7 (by simp; omega)
    have hb11p : b11 ≠ p := by omega
    refine exec_dws [p] 7 (fun X => Blk X p [u64V (s.L.length + add.length), .slice na nl nc, .map (some m), intV' s.turn, intV' (s.turns + 1)]) (fun X X' h hu => h.upd hu) rfl rfl rfl ?_
    repeat (first | refine wtm rfl rfl rfl ?_ | refine wgt rfl rfl rfl rfl ?_ | refine wgs rfl rfl ?_)
    refine ws_upd (intV' (s.turns + 1)) rfl (fun X hx => ok_load1 (b := b11) (o := 0 + 1) rfl ((iB11.upd hx (by simpa using hb11p)).cell rfl)) ?_
    repeat (first | refine wtm rfl rfl rfl ?_ | refine wgt rfl rfl rfl rfl ?_ | refine wgs rfl rfl ?_)
    refine ws_store (B := p) (o := 0 + 1) rfl rfl rfl iB rfl (by simp) rfl (by simp) (fun X h => h) ?_
    refine ws_end fun X hx hX => ?_
    have hX' := hX rfl
    clear hX
    refine xr 2 rfl ?_
    refine exec_store (b := p) (o := 0 + 3) (v := intV' (s.turns + 1)) rfl rfl hX' rfl (by simp) rfl ?_
    intro Y hy _ hY
    have hY' : Blk Y p [u64V (s.L.length + add.length), .slice na nl nc, .map (some m), intV' (s.turns + 1), intV' (s.turns + 1)] := hY
    clear hY
    refine xr 3 rfl ?_
    have hWY : Upd [p] W Y := hx.trans hy
    have h7Y : Upd [p] w7 Y := hW7.trans hWY
    have hwY : Upd [p] w Y := hpW.trans hWY
    refine xca rfl rfl (change_ok A.toForK hY' ((h3.upd hwY (by simp; omega))) (hG7.upd h7Y (by simp; omega)) (hC7.upd h7Y (by simp; omega)) (by omega) (by omega)) ?_
    rintro _ Z ⟨l2, hM2, hl2, huZ⟩
    skip
    refine exec_loadN (b := b11) (o := 0) (vs := undoC p (s.turns + 1) s.turn s.L.length (.slice ta tl tc) gr cr) rfl rfl (((iB11.upd hWY (by simpa using hb11p)).upd huZ (by simp; omega)).memAll) rfl ?_
    refine exec_store (b := b6) (o := 0) (v := .agg (undoC p (s.turns + 1) s.turn s.L.length (.slice ta tl tc) gr cr).toArray) rfl rfl ((hB67.upd h7Y (by simp; omega)).upd huZ (by simp; omega)) rfl (by decide) rfl ?_
    intro V huV _ hB6V
    have hB6V' : Blk V b6 (undoC p (s.turns + 1) s.turn s.L.length (.slice ta tl tc) gr cr) := hB6V
    clear hB6V
    refine xr 1 rfl ?_
    have hYV : Upd [m, b6] Y V := (huZ.mono (by simp)).trans huV
    have hwV : Upd [p, m] w V := ((hwY.mono (m := [p, m]) (by simp)).trans huZ).trans huV (fun b hb => .inr (by simp at hb; omega))
    have hnc : NoNode Y [m, b6] := by
      refine Foreign.noNode (Foreign.cons (Foreign.map (h3.upd hwY (by simp; omega))) (Foreign.cons (Foreign.blk (hB67.upd h7Y (by simp; omega)) (Strange.two (by simp) (by simp [intV']))) (Foreign.nil _)))
    have hpY : NoNode W [p] := NoNode.of iB (by simp)
    have hnew : treesT parH (lv (modL del add s.L)) (s.L.length + add.length) = [] → s.L.length + add.length = 0 := by
      intro he
      rcases Nat.eq_zero_or_pos (s.L.length + add.length) with h0 | h0
      · exact h0
      · obtain ⟨t, ht, _⟩ := find_tree parH (L := lv (modL del add s.L)) (n := s.L.length + add.length) (x := 0) (by omega) h0
        rw [he] at ht; simp at ht
    refine xre hc [.agg (undoC p (s.turns + 1) s.turn s.L.length (.slice ta tl tc) gr cr).toArray, _] ⟨⟨b6, 0, _, rfl, hB6V'.memAll, rfl, rfl⟩, rfl, trivial⟩ (.inr ⟨_, rfl, hGr, ⟨⟨.slice na nl nc, l2, ?_, ?_, ?_, ?_⟩, ?_, ?_⟩, ⟨⟨.slice ta tl tc, gr, cr, gl, cl, rfl, ?_, ?_, ?_, hGm, hCm, hgm⟩, hl, h7⟩, hwV⟩)
    · rw [modL_len]
      exact hY'.upd hYV (by simp; omega)
    · rw [modL_len]
      refine ⟨(iO.updB hWY hpY (fun b hb hm => by have := iF b hb; simp at hm; omega)).updB hYV hnc (fun b hb hm => by have := iF b hb; simp at hm; omega), fun he => iN (hnew he)⟩
    · exact hM2.upd huV (by simp; omega)
    · exact where_mod h4 hGm hCm hGr hl2
    · rw [modL_len]; exact hl
    · exact ⟨ht, ht⟩
    · exact h2.upd hwV hfor
    · exact (hG7.upd h7Y (by simp; omega)).upd hYV (by simp; omega)
    · exact (hC7.upd h7Y (by simp; omega)).upd hYV (by simp; omega)
theorem UAt.cells {u : Value} {p m : Nat} {s : Fo} {t : Nat} {del add : List Hash} (h : UAt w u p m s t del add) : u.cells.size = 7 ∧ u.cells.toList.all cellValue = true := by
  obtain ⟨⟨tv, gr, cr, gl, cl, rfl, h2, _⟩, _⟩ := h
  obtain ⟨a, l, c, rfl⟩ := h2.own.val
  exact ⟨rfl, rfl⟩
theorem UAt.upd {l : List Nat} {w' : World} {u : Value} {p m : Nat} {s : Fo} {t : Nat} {del add : List Hash} (h : UAt w u p m s t del add) (hu : Upd l w w') (hl : Foreign w l) (hm : ∀ b ∈ l, b = p ∨ b = m ∨ w.heap.size ≤ b) : UAt w' u p m s t del add := by
  obtain ⟨⟨tv, gr, cr, gl, cl, rfl, h2, h3, h4, h5, h6, g1, g2, g3, g4⟩, h7, h8⟩ := h
  have k3 := h3.lt
  have k4 := h4.lt
  refine ⟨⟨tv, gr, cr, gl, cl, rfl, h2.upd hu hl, h3.upd hu fun hb => ?_, h4.upd hu fun hb => ?_, h5, h6, g1, g2, g3, g4⟩, h7, h8⟩
  · rcases hm _ hb with h | h | h
    · exact g1 h
    · exact g2 h
    · omega
  · rcases hm _ hb with h | h | h
    · exact g3 h
    · exact g4 h
    · omega
end
end Go.Sp

namespace Go.Sp
def DWR (P : Program) (Rel : World → World → Prop) (Fs : Nat → World → Prop) (ds : List DOp) (e : Env) (w : World) (Fin : List (Nat × Value) → Prop) : Nat → List (Nat × Value) → List DOp → Prop
  | _, done, [] => Fin done
  | i, done, (deps, g, _, m) :: r => ∃ v, (∀ W, Rel w W → (∀ j ∈ deps, Fs j W) → DStep P Rel g m (envV ds done deps ++ keepEnv ds i e) W fun W' u => u = v ∧ Fs i W') ∧ DWR P Rel Fs ds e w Fin (i + 1) ((i, v) :: done) r
def FinR (P : Program) (n : Nat) (c : Ctx) (D : List Deferred) (is : List Ins) (k : Kont) (Rel : World → World → Prop) (Fs : Nat → World → Prop) (ds : List DOp) (e : Env) (w : World) (tl : List Ins) (done : List (Nat × Value)) : Prop :=
  ∀ W, Rel w W → (∀ j, j < ds.length → Fs j W) → Exec P n c D (tl ++ is) k (outV done 0 ds ++ e) W
theorem DWR.out {P : Program} {Rel : World → World → Prop} {Fs : Nat → World → Prop} {ds : List DOp} {e : Env} {w : World} {F : List (Nat × Value) → Prop} : ∀ (rest : List DOp) (i : Nat) (done : List (Nat × Value)), wellDeps i rest = true →
    DWR P Rel Fs ds e w F i done rest → ∃ done', F done' ∧ (∀ j, j < i → getV done' j = getV done j) ∧ ∀ (k : Nat) deps g d m, rest[k]? = some (deps, g, d, m) →
      ∀ W, Rel w W → (∀ j ∈ deps, Fs j W) → DStep P Rel g m (envV ds done' deps ++ keepEnv ds (i + k) e) W fun W' u => u = getV done' (i + k) ∧ Fs (i + k) W' := by
  intro rest
  induction rest with
  | nil => intro i done _ h; exact ⟨done, h, fun _ _ => rfl, fun k deps g d m h => by simp at h⟩
  | cons p rest ih =>
    obtain ⟨deps0, g0, d0, m0⟩ := p
    intro i done hw h
    simp only [wellDeps, Bool.and_eq_true] at hw
    obtain ⟨v, h1, h2⟩ := h
    obtain ⟨done', hF, hlow, hr⟩ := ih (i + 1) _ hw.2 h2
    have hlow' : ∀ j, j < i → getV done' j = getV done j := by
      intro j hj
      rw [hlow j (by omega)]
      simp only [getV]
      split
      · rename_i hb; have := Nat.eq_of_beq_eq_true hb; omega
      · rfl
    refine ⟨done', hF, hlow', fun k deps g d m hk W hW hb => ?_⟩
    cases k with
    | zero =>
      simp at hk
      obtain ⟨rfl, rfl, rfl, rfl⟩ := hk
      have hv : getV done' (i + 0) = v := by
        rw [Nat.add_zero, hlow i (by omega)]
        simp [getV]
      rw [hv]
      have he : envV ds done' deps0 = envV ds done deps0 := by
        rw [envV_eq (vs := getV done) deps0 (fun j hj => hlow' j (by have := List.all_eq_true.1 hw.1 j hj; simpa using this)), envV_eq (vs := getV done) deps0 (fun _ _ => rfl)]
      rw [he]
      exact h1 W hW hb
    | succ k =>
      have := hr k deps g d m (by simpa using hk) W hW hb
      rw [show i + 1 + k = i + (k + 1) from by omega] at this
      exact this
section
variable {P : Program} {n : Nat} {c : Ctx} {D : List Deferred} {is : List Ins} {k : Kont} {e : Env} {w : World}
theorem exec_dr {fr : List DOp} {tl : List Ins} (Rel : World → World → Prop) (Fs : Nat → World → Prop) (hE : ∀ a b, Ext a b → Rel a b) (htr : ∀ a b c, Rel a b → Rel b c → Rel a c) (hmo : ∀ i a b, Rel a b → Fs i a → Fs i b)
    (hdst : (dsts fr).all (fun t => Nat.blt t n) = true) (hnd : nodupB (dsts fr) = true) (hwd : wellDeps 0 fr = true)
    (h : DWR P Rel Fs fr e w (FinR P n c D is k Rel Fs fr e w tl) 0 [] fr) : Exec P n c D (.draw fr tl :: is) k e w := by
  obtain ⟨done, hF, _, hs⟩ := DWR.out fr 0 [] hwd h
  have hw0 : Rel w { w with drawn := w.drawn + 1 } := hE _ _ (Upd.drew [] w _)
  refine exec_draw Rel (fun i W vs => vs i = getV done i ∧ Fs i W) (fun a => hE _ _ (Upd.refl _ _)) htr ?_ ?_ hdst hnd ?_ ?_
  · intro i W W' vs _ _ hr ⟨h1, h2⟩; exact ⟨h1, hmo _ _ _ hr h2⟩
  · intro i c' g d m j W vs v _ _ hne ⟨h1, h2⟩
    exact ⟨by simp only [put, if_neg (Ne.symm hne)]; exact h1, h2⟩
  · suffices ∀ (r : List DOp) (i : Nat), (∀ j, r[j]? = fr[i + j]?) → DSteps P Rel fr (fun i W vs => vs i = getV done i ∧ Fs i W) e { w with drawn := w.drawn + 1 } i r from this fr 0 (by simp)
    intro r
    induction r with
    | nil => intro i _; trivial
    | cons y r ih =>
      obtain ⟨deps, g, d, m⟩ := y
      intro i hr
      refine ⟨?_, ih (i + 1) fun j => by have := hr (j + 1); rw [show i + (j + 1) = i + 1 + j from by omega] at this; simpa using this⟩
      intro vs W hW hdeps
      have hi : fr[i]? = some (deps, g, d, m) := by have := hr 0; simpa using this.symm
      have h4 := hs i deps g d m hi W (htr _ _ _ hw0 hW) (fun j hj => (hdeps j hj).2)
      rw [Nat.zero_add, envV_eq (vs := vs) deps (fun j hj => (hdeps j hj).1.symm)] at h4
      unfold DStep at h4 ⊢
      have h5 : ∀ W' u, (u = getV done i ∧ Fs i W') → put vs i u i = getV done i ∧ Fs i W' := fun W' u h => ⟨by simp [put, h.1], h.2⟩
      split
      · exact h4.mono fun v W' h => ⟨h.1, h5 _ _ h.2⟩
      · exact h4
      · rcases h4 with ⟨ha, hb⟩ | ⟨ha, hb⟩
        · exact .inl ⟨ha, hb.mono fun v W' h => ⟨h.1, h5 _ _ h.2⟩⟩
        · exact .inr ⟨ha, h5 _ _ hb⟩
  · intro vs W hW hR
    have h1 : outV done 0 fr = outEnv vs 0 fr := outV_eq fr 0 fun j hj => by rw [Nat.zero_add]; exact ((hR j hj).1).symm
    rw [← h1]
    exact hF W (htr _ _ _ hw0 hW) fun j hj => (hR j hj).2
variable {Rel : World → World → Prop} {Fs : Nat → World → Prop} {ds : List DOp} {F : List (Nat × Value) → Prop} {done : List (Nat × Value)} {i : Nat} {deps : List Nat} {d : Option Nat} {m : MOp} {r : List DOp} {s : Nat} {b : Bool}
theorem wr_tame {v : Value} (hE : ∀ a b, Ext a b → Rel a b) (hp : tameOp m = true) (hf : ∀ W, Fs i W) (hv : pureV (envV ds done deps ++ keepEnv ds i e) m = some v) (h : DWR P Rel Fs ds e w F (i + 1) ((i, v) :: done) r) : DWR P Rel Fs ds e w F i done ((deps, none, d, m) :: r) :=
  ⟨v, fun W _ _ => (ok_pure hv).mono fun u W' hu => ⟨hu.2 ▸ hE _ _ (Upd.refl _ _), hu.1, hf _⟩, h⟩
theorem wr_ok (v : Value) (hE : ∀ a b, Ext a b → Rel a b) (hf : ∀ W, Fs i W) (hv : ∀ W, Rel w W → OpOK P m (envV ds done deps ++ keepEnv ds i e) W (Just v W)) (h : DWR P Rel Fs ds e w F (i + 1) ((i, v) :: done) r) : DWR P Rel Fs ds e w F i done ((deps, none, d, m) :: r) :=
  ⟨v, fun W h1 _ => (hv W h1).mono fun u W' hu => ⟨hu.2 ▸ hE _ _ (Upd.refl _ _), hu.1, hf _⟩, h⟩
theorem wr_store {N : Nat} {x y : Operand} (B o : Nat) (v : Value) (hx : (envV ds done deps ++ keepEnv ds i e).ev x = some (.pointer (some ⟨B, o, none⟩))) (hy : (envV ds done deps ++ keepEnv ds i e).ev y = some v)
    (hl : v.cells.size = N) (hv : v.cells.toList.all cellValue = true)
    (hB : ∀ W, Rel w W → ∃ cs, Blk W B cs ∧ o + N ≤ cs.length ∧ ∀ W', Upd [B] W W' → Blk W' B (splice cs o v.cells.toList) → Rel W W' ∧ Fs i W')
    (h : DWR P Rel Fs ds e w F (i + 1) ((i, undef) :: done) r) : DWR P Rel Fs ds e w F i done ((deps, none, none, .store N x y) :: r) := by
  refine ⟨undef, fun W h1 _ => ?_, h⟩
  obtain ⟨cs, hBW, hle, hnext⟩ := hB W h1
  intro a hk rd d next Q hn
  obtain ⟨w', hr, hu, hs, hb'⟩ := storeCells_run (P := P) (o := o) v.cells.toList 0 W cs hBW (by simp [hl]; omega) hv
  have : ((MOp.store N x y).sem a.eval).run P W = .ok .skip w' := by
    simp [MOp.sem, Env.ok_ev hk hx, Env.ok_ev hk hy, Instr.sureAddr, hl, hr]
  rw [this]
  rw [Oper.uponIn_skip]
  obtain ⟨q1, q2⟩ := hnext w' hu hb'
  exact hn undef w' ⟨q1, rfl, q2⟩
theorem wr_end {tl : List Ins} (h : ∀ W, Rel w W → (∀ j, j < ds.length → Fs j W) → Exec P n c D (tl ++ is) k (outV done 0 ds ++ e) W) : DWR P Rel Fs ds e w (FinR P n c D is k Rel Fs ds e w tl) i done [] := h
end
end Go.Sp

namespace Go.Sp
/-- the functions of forest, on -/
structure ForM (P : Program) extends ForL P where
  new' : Nat
  root' : Nat
  rows' : Nat
  index : Nat
  where1 : Nat
  TFo : Nat
  TRt : Nat
  TW1 : Nat
  h_new : Has P new' (b_forest_New TFo)
  h_root : Has P root' (b_Pforest_Forest_root nf.root TRt)
  h_rows : Has P rows' (b_Pforest_Forest_rows nf.rows)
  h_index : Has P index b_slices_IndexFunc_forest_tree_forest_tree
  h_where1 : Has P where1 (b_Pforest_Forest_Where_1 size TW1)
theorem optV_eq (f : Nat → Value) (o : Option Nat) : optV f o = .tuple #[f (o.getD 0), .bool o.isSome] := by cases o <;> rfl
section
variable {P : Program} {f : Nat} {w : World}
theorem new_ok (A : ForM P) : Ret P A.new' [] w fun v w' => ∃ p m, v = ptrV p ∧ w.heap.size ≤ p ∧ w.heap.size ≤ m ∧ FAt w' p m ⟨[], 0, 0⟩ ∧ Ext w w' := by
  refine Ret.of_exec A.h_new (Nat.le_of_ble_eq_true rfl) fun c hc => ?_
  dsimp only [b_forest_New, argEnv, ym, yo, yg, ys, yt, yd, ye]
  refine xr 1 rfl ?_
  refine exec_mkMap rfl ?_
  intro r w1 hr hs1 hu1 hM
  refine xju (ok_mkL (l := [(2, 1, .map (some r))]) (cs := [u64V 0, .slice none 0 0, .map (some r), intV' 0, intV' 0]) rfl rfl) rfl ?_
  refine exec_box rfl rfl ?_
  intro p w2 hp hs2 hu2 hB
  refine xr 1 rfl ?_
  refine xre hc [_] ⟨rfl, trivial⟩ ⟨p, r, rfl, by omega, by omega, ⟨⟨.slice none 0 0, [], hB, ⟨⟨[], ⟨rfl, fun i v t h => by simp at h⟩, .inl ⟨rfl, rfl, rfl⟩⟩, fun _ => rfl⟩, (MapAt.empty hM).upd hu2, ?_⟩, by simp, by simp⟩, hu1.trans hu2⟩
  intro h i
  simp [aget]
theorem rows'_ok (A : ForM P) {p m : Nat} {s : Fo} (h : FAt w p m s) : RetV P A.rows' [ptrV p] w (intV' (rowsN s.L.length)) := by
  have hl := h.len
  obtain ⟨⟨tv, wl, h1, _⟩, _⟩ := h
  refine Ret.of_exec A.h_rows (Nat.le_of_ble_eq_true rfl) fun c hc => ?_
  dsimp only [b_Pforest_Forest_rows, argEnv, ym, yo, yg, ys, yt, yd, ye]
  refine xr 4 rfl ?_
  refine exec_load1 (b := p) (o := 0 + 0) rfl rfl (h1.cell rfl) ?_
  refine xca rfl rfl (rows_ok A.nf.toPosF s.L.length (by omega)) ?_
  rintro _ w1 ⟨rfl, hu1⟩
  rw [if_pos (by omega)]
  refine xr 7 rfl ?_
  exact xre hc [_] ⟨rfl, trivial⟩ ⟨rfl, hu1⟩
theorem root'_ok (A : ForM P) {p m : Nat} {s : Fo} (h : FAt w p m s) (u : Value) (fst hi : Nat) (hh : hi < 2 ^ 60) : RetV P A.root' [ptrV p, .agg #[u, u64V fst, intV' hi]] w (u64V ((rootN s.L.length hi).getD 0)) := by
  have hl := h.len
  obtain ⟨⟨tv, wl, h1, _⟩, _⟩ := h
  refine Ret.of_exec A.h_root (Nat.le_of_ble_eq_true rfl) fun c hc => ?_
  dsimp only [b_Pforest_Forest_root, argEnv, ym, yo, yg, ys, yt, yd, ye]
  refine exec_box rfl rfl ?_
  intro b3 w1 hb3 hs1 hu1 hB3
  have hB3' : Blk w1 b3 [u, u64V fst, intV' hi] := by simpa [Value.cells] using hB3
  refine xr 1 rfl ?_
  refine exec_dwr rfl rfl rfl ?_
  repeat (first | refine wtm rfl rfl rfl ?_ | refine wgt rfl rfl rfl rfl ?_ | refine wgs rfl rfl ?_)
  refine ws_keep (u64V s.L.length) rfl (fun X hx => ok_load1 (b := p) (o := 0 + 0) rfl (((h1.upd hu1).upd hx).cell rfl)) ?_
  repeat (first | refine wtm rfl rfl rfl ?_ | refine wgt rfl rfl rfl rfl ?_ | refine wgs rfl rfl ?_)
  refine ws_keep (intV' hi) rfl (fun X hx => ok_load1 (b := b3) (o := 0 + 2) rfl ((hB3'.upd hx).cell rfl)) ?_
  refine ws_ext (.tuple #[u64V ((rootN s.L.length hi).getD 0), .bool (rootN s.L.length hi).isSome]) rfl (fun X hx => ok_call rfl (by rw [← optV_eq]; exact root_ok A.nf.toPosF s.L.length hi (by omega) (by omega))) ?_
  repeat (first | refine wtm rfl rfl rfl ?_ | refine wgt rfl rfl rfl rfl ?_ | refine wgs rfl rfl ?_)
  refine ws_fin fun w2 hw2 => ?_
  refine xr 3 rfl ?_
  exact xre hc [_] ⟨rfl, trivial⟩ ⟨rfl, hu1.trans hw2⟩
theorem where1_ok (A : ForM P) {bx x : Nat} (hx : x < 2 ^ 63) (hB : Blk w bx [u64V x]) (u : Value) (t : TT Hash) (ht : t.2.1 + 2 ^ t.2.2 < 2 ^ 63 ∧ t.2.2 < 63) : RetV P A.where1 [.agg #[u, u64V t.2.1, intV' t.2.2], ptrV bx] w (.bool (inT x t)) := by
  obtain ⟨t1, t2⟩ := ht
  refine Ret.of_exec A.h_where1 (Nat.le_of_ble_eq_true rfl) fun c hc => ?_
  dsimp only [b_Pforest_Forest_Where_1, argEnv, ym, yo, yg, ys, yt, yd, ye]
  refine exec_box rfl rfl ?_
  intro b2 w1 hb2 hs1 hu1 hB2
  have hB2' : Blk w1 b2 [u, u64V t.2.1, intV' t.2.2] := by simpa [Value.cells] using hB2
  refine xr 1 rfl ?_
  have hBx := hB.upd hu1
  have hp : 2 ^ t.2.2 < 2 ^ 63 := by omega
  by_cases hle : t.2.1 ≤ x
  · refine exec_dwr rfl rfl rfl ?_
    refine ws_keep (u64V x) rfl (fun X hx => ok_load1 (b := bx) (o := 0) rfl ((hBx.upd hx).cell rfl)) ?_
    repeat (first | refine wtm rfl rfl rfl ?_ | refine wgt rfl rfl rfl rfl ?_ | refine wgs rfl rfl ?_)
    refine ws_keep (u64V t.2.1) rfl (fun X hx => ok_load1 (b := b2) (o := 0 + 1) rfl ((hB2'.upd hx).cell rfl)) ?_
    refine ws_val rfl (pv_geqI (a := x) (b := t.2.1) (q := true) rfl rfl (by simpa using hle)) ?_
    repeat (first | refine wtm rfl rfl rfl ?_ | refine wgt rfl rfl rfl rfl ?_ | refine wgs rfl rfl ?_)
    refine ws_gkeep (u64V x) rfl rfl (fun X hx => ok_load1 (b := bx) (o := 0) rfl ((hBx.upd hx).cell rfl)) ?_
    repeat (first | refine wtm rfl rfl rfl ?_ | refine wgt rfl rfl rfl rfl ?_ | refine wgs rfl rfl ?_)
    refine ws_gkeep (u64V t.2.1) rfl rfl (fun X hx => ok_load1 (b := b2) (o := 0 + 1) rfl ((hB2'.upd hx).cell rfl)) ?_
    refine ws_gval rfl rfl (pv_subU (a := x) (b := t.2.1) rfl rfl hle (by omega)) ?_
    refine ws_gkeep (.agg #[u, u64V t.2.1, intV' t.2.2]) rfl rfl (fun X hx => ok_loadN (b := b2) (o := 0) (vs := [u, u64V t.2.1, intV' t.2.2]) rfl (hB2'.upd hx).memAll rfl) ?_
    refine ws_gext (u64V (2 ^ t.2.2)) rfl rfl (fun X hx => ok_call rfl (treeSize_ok A.toForH u t (by omega))) ?_
    refine ws_fin fun w2 hw2 => ?_
    refine xgr rfl ?_
    refine xpu (pv_lssI (a := x - t.2.1) (b := 2 ^ t.2.2) (q := inT x t) rfl rfl (by simp [inT, hle])) rfl ?_
    refine xr 2 rfl ?_
    exact xre hc [_] ⟨rfl, trivial⟩ ⟨rfl, hu1.trans hw2⟩
  · refine exec_dwr rfl rfl rfl ?_
    refine ws_keep (u64V x) rfl (fun X hx => ok_load1 (b := bx) (o := 0) rfl ((hBx.upd hx).cell rfl)) ?_
    repeat (first | refine wtm rfl rfl rfl ?_ | refine wgt rfl rfl rfl rfl ?_ | refine wgs rfl rfl ?_)
    refine ws_keep (u64V t.2.1) rfl (fun X hx => ok_load1 (b := b2) (o := 0 + 1) rfl ((hB2'.upd hx).cell rfl)) ?_
    refine ws_val rfl (pv_geqI (a := x) (b := t.2.1) (q := false) rfl rfl (by simpa using hle)) ?_
    repeat (first | refine wtm rfl rfl rfl ?_ | refine wgt rfl rfl rfl rfl ?_ | refine wgs rfl rfl ?_)
    refine ws_fin fun w2 hw2 => ?_
    refine xr 3 rfl ?_
    refine xre hc [_] ⟨rfl, trivial⟩ ⟨?_, hu1.trans hw2⟩
    simp [single, inT, hle]
/-- slices.IndexFunc of trees -/
theorem indexT_ok (A : ForM P) {sv : Value} {ts : List (TT Hash)} (h : TreesAt w sv ts) (hl : ts.length < 2 ^ 30) {g : Nat} {cs : List Value} {q : TT Hash → Bool} (hg : Enters P g)
    (hq : ∀ W u t, Ext w W → t ∈ ts → RetV P g (.agg #[u, u64V t.2.1, intV' t.2.2] :: cs) W (.bool (q t))) :
    Ret P A.index [sv, .func (.func g) #[] cs.toArray] w fun v w' => Ext w w' ∧ ((v = .int .i64 (-1) ∧ ∀ t ∈ ts, q t = false) ∨ ∃ i t, v = intV' i ∧ ts[i]? = some t ∧ ts.find? q = some t) := by
  obtain ⟨vs, hR, hS⟩ := h
  refine Ret.of_exec A.h_index (Nat.le_of_ble_eq_true rfl) fun c hc => ?_
  dsimp only [b_slices_IndexFunc_forest_tree_forest_tree, argEnv, ym, yo, yg, ys, yt, yd, ye]
  refine xtm rfl rfl rfl ?_
  refine xtm rfl rfl rfl ?_
  refine xpu (hS.lenS rfl) rfl ?_
  refine xr 2 rfl ?_
  refine xlo (S := Nat) (fun i W => i ≤ ts.length ∧ Ext w W ∧ (ts.take i).find? q = none)
    (fun i => [(0, sv), (1, .func (.func g) #[] cs.toArray), (7, intV' ts.length), (8, intV' i)]) (fun i => ts.length - i) 0
    ⟨Nat.zero_le _, Upd.refl _ _, rfl⟩ ⟨rfl, rfl, rfl, rfl, trivial⟩ ?_
  rintro i W ⟨i1, iU, iF⟩
  skip
  by_cases hi : i < ts.length
  · refine xpu (pv_lssI (a := i) (b := ts.length) (q := true) rfl rfl (by simpa using hi)) rfl ?_
    refine xr 8 rfl ?_
    obtain ⟨t, ht⟩ : ∃ t, ts[i]? = some t := ⟨_, List.getElem?_eq_getElem hi⟩
    obtain ⟨u, hu⟩ : ∃ u, vs[i]? = some u := ⟨_, List.getElem?_eq_getElem (by rw [hR.len]; omega)⟩
    obtain ⟨g0, g1, g2⟩ := cellsT_get vs ts i u t hu ht
    obtain ⟨b, o, cap, hv, hm, _⟩ := hS.at (by omega)
    refine xju (ok_iaddr (N := 3) (b := b) (o := o) (len := ts.length) (cap := cap) (by rw [← hv]; rfl) rfl i rfl hi) rfl ?_
    have hM3 : Mem W b (o + i * 3) [u, u64V t.2.1, intV' t.2.2] := (hm.upd iU (by simp)).sub (i * 3) (us := [u, u64V t.2.1, intV' t.2.2]) (fun k x hk => by
      match k, hk with
      | 0, hk => cases hk; exact g0
      | 1, hk => cases hk; exact g1
      | 2, hk => cases hk; exact g2)
    refine exec_loadN (b := b) (o := o + i * 3) (vs := [u, u64V t.2.1, intV' t.2.2]) rfl rfl hM3 rfl ?_
    refine exec_callv (f := g) (fs := #[]) (cs := cs.toArray) rfl rfl rfl hg (hq W u t iU (List.mem_of_getElem? ht)) ?_
    rintro _ W1 ⟨rfl, hw1⟩
    have htk : ts.take (i + 1) = ts.take i ++ [t] := by rw [List.take_add_one, ht]; rfl
    refine exec_cond rfl (fun hqt => ?_) (fun hqt => ?_)
    · refine xr 2 rfl ?_
      refine xre hc [_] ⟨rfl, trivial⟩ ⟨iU.trans hw1, .inr ⟨i, t, rfl, ht, ?_⟩⟩
      rw [← List.take_append_drop (i + 1) ts, htk, List.append_assoc, List.find?_append, iF]
      simp [hqt]
    · refine xr 3 rfl ?_
      refine xpu (pv_addI (a := i) (b := 1) rfl rfl (by omega)) rfl ?_
      refine xr 1 rfl ?_
      refine xag (i + 1) ⟨hi, iU.trans hw1, ?_⟩ (by show ts.length - (i + 1) < ts.length - i; omega) ⟨rfl, rfl, rfl, rfl, trivial⟩
      rw [htk, List.find?_append, iF]
      simp [hqt]
  · refine xpu (pv_lssI (a := i) (b := ts.length) (q := false) rfl rfl (by simpa using hi)) rfl ?_
    have : i = ts.length := by omega
    subst this
    refine xr 4 rfl ?_
    refine xre hc [_] ⟨rfl, trivial⟩ ⟨iU, .inl ⟨rfl, fun t ht => ?_⟩⟩
    rw [List.take_length, List.find?_eq_none] at iF
    simpa using iF t ht
end
end Go.Sp

namespace Go.Sp
def DR.goodQ (Rel : World → World → Prop) (w : World) (deps : List Nat) : DR → Prop
  | .val _ => True
  | .rel js R => js.all (fun j => deps.contains j) = true ∧ ∀ W W' xs v, Rel w W → Rel W W' → R W xs v → R W' xs v
def QWL (P : Program) (Rel : World → World → Prop) (ds : List DOp) (e : Env) (w : World) (Fin : List DR → Prop) : List DR → List DOp → Prop
  | done, [] => Fin done
  | done, (deps, g, _, m) :: r => ∃ x : DR, x.goodQ Rel w deps ∧
      (∀ (vs : Nat → Value) (W : World), Rel w W → depFacts done W vs deps → DStep P Rel g m (envD ds done vs deps ++ keepEnv ds done.length e) W fun W' v => x.get W' vs v) ∧
      QWL P Rel ds e w Fin (done ++ [x]) r
def FinQD (P : Program) (n : Nat) (c : Ctx) (D : List Deferred) (is : List Ins) (k : Kont) (Rel : World → World → Prop) (ds : List DOp) (e : Env) (w : World) (tl : List Ins) (done : List DR) : Prop :=
  ∀ vs W, Rel w W → factsD W vs 0 done → Exec P n c D (tl ++ is) k (outD done vs 0 ds ++ e) W
theorem QWL.out {P : Program} {Rel : World → World → Prop} {ds : List DOp} {e : Env} {w : World} {F : List DR → Prop} : ∀ (rest : List DOp) (done : List DR), QWL P Rel ds e w F done rest →
    ∃ rs : List DR, rs.length = rest.length ∧ F (done ++ rs) ∧ ∀ (i : Nat) deps g d m, rest[i]? = some (deps, g, d, m) → ∃ x, (done ++ rs)[done.length + i]? = some x ∧ x.goodQ Rel w deps ∧
      (∀ (vs : Nat → Value) (W : World), Rel w W → depFacts ((done ++ rs).take (done.length + i)) W vs deps →
        DStep P Rel g m (envD ds ((done ++ rs).take (done.length + i)) vs deps ++ keepEnv ds (done.length + i) e) W fun W' v => x.get W' vs v) := by
  intro rest
  induction rest with
  | nil => intro done h; exact ⟨[], rfl, by simp only [List.append_nil]; exact h, fun i deps g d m h => by simp at h⟩
  | cons y rest ih =>
    obtain ⟨deps0, g0, d0, m0⟩ := y
    intro done h
    obtain ⟨x, h1, h2, h3⟩ := h
    obtain ⟨rs, hl, hF, hr⟩ := ih _ h3
    refine ⟨x :: rs, by simp [hl], by simpa using hF, fun i deps g d m hi => ?_⟩
    cases i with
    | zero =>
      simp at hi
      obtain ⟨rfl, rfl, rfl, rfl⟩ := hi
      refine ⟨x, by simp, h1, ?_⟩
      have : (done ++ x :: rs).take (done.length + 0) = done := by simp
      rw [this]
      exact h2
    | succ i =>
      obtain ⟨x', g1, g2, g3⟩ := hr i deps g d m (by simpa using hi)
      have e1 : done ++ [x] ++ rs = done ++ x :: rs := by simp
      have e2 : (done ++ [x]).length + i = done.length + (i + 1) := by simp; omega
      rw [e1, e2] at g1 g3
      exact ⟨x', g1, g2, g3⟩
section
variable {P : Program} {n : Nat} {c : Ctx} {D : List Deferred} {is : List Ins} {k : Kont} {e : Env} {w : World}
theorem exec_qwL {fr : List DOp} {tl : List Ins} (Rel : World → World → Prop) (hE : ∀ a b, Ext a b → Rel a b) (tr : ∀ a b c, Rel a b → Rel b c → Rel a c) (hdst : (dsts fr).all (fun t => Nat.blt t n) = true) (hnd : nodupB (dsts fr) = true) (hwd : wellDeps 0 fr = true)
    (h : QWL P Rel fr e w (FinQD P n c D is k Rel fr e w tl) [] fr) : Exec P n c D (.draw fr tl :: is) k e w := by
  obtain ⟨rs, hl, hF, hs⟩ := h.out
  simp only [List.nil_append, List.length_nil, Nat.zero_add] at hF hs
  let Rs : Nat → World → (Nat → Value) → Prop := fun i W vs => ∀ x, rs[i]? = some x → x.holds W vs i
  have hget : ∀ i, i < fr.length → ∃ x deps g d m, rs[i]? = some x ∧ fr[i]? = some (deps, g, d, m) ∧ x.goodQ Rel w deps := by
    intro i hi
    have : fr[i]? = some fr[i] := List.getElem?_eq_getElem hi
    obtain ⟨x, h1, h2, _⟩ := hs i fr[i].1 fr[i].2.1 fr[i].2.2.1 fr[i].2.2.2 this
    exact ⟨x, _, _, _, _, h1, this, h2⟩
  have hw0 : Rel w { w with drawn := w.drawn + 1 } := hE _ _ (Upd.drew [] w _)
  refine exec_draw Rel Rs (fun a => hE _ _ (Upd.refl _ _)) tr ?_ ?_ hdst hnd ?_ ?_
  · intro i W W' vs hi h1 h2 hR x hx
    have h3 := hR x hx
    obtain ⟨x', deps, g, d, m, h4, h5, h6⟩ := hget i hi
    rw [hx] at h4; cases h4
    cases x with
    | val v => exact h3
    | rel js R => exact h6.2 W W' _ _ (tr _ _ _ hw0 h1) h2 h3
  · intro i c' g d m j W vs v hi hj hne hR x hx
    have h3 := hR x hx
    have hi' : i < fr.length := (List.getElem?_eq_some_iff.1 hi).1
    obtain ⟨x', deps, g', d', m', h4, h5, h6⟩ := hget i hi'
    rw [hi] at h5; cases h5
    rw [hx] at h4; cases h4
    cases x with
    | val u => show put vs j v i = u; simp only [put, if_neg (Ne.symm hne)]; exact h3
    | rel js R =>
      show R W (js.map (put vs j v)) (put vs j v i)
      have e1 : js.map (put vs j v) = js.map vs := by
        apply List.map_congr_left
        intro y hy
        have : y ∈ c' := by simpa using List.all_eq_true.1 h6.1 y hy
        simp only [put, if_neg (fun (h : y = j) => hj (h ▸ this))]
      rw [e1]
      simp only [put, if_neg (Ne.symm hne)]
      exact h3
  · suffices ∀ (r : List DOp) (i : Nat), (∀ j, r[j]? = fr[i + j]?) → DSteps P Rel fr Rs e { w with drawn := w.drawn + 1 } i r from this fr 0 (by simp)
    intro r
    induction r with
    | nil => intro i _; trivial
    | cons y r ih =>
      obtain ⟨deps, g, d, m⟩ := y
      intro i hr
      refine ⟨?_, ih (i + 1) fun j => by have := hr (j + 1); rw [show i + (j + 1) = i + 1 + j from by omega] at this; simpa using this⟩
      intro vs W hW hdeps
      have hi : fr[i]? = some (deps, g, d, m) := by have := hr 0; simpa using this.symm
      obtain ⟨x, h1, h2, h3⟩ := hs i deps g d m hi
      have hlt : ∀ j ∈ deps, j < i := by
        intro j hj
        simpa using wellDeps_get _ 0 hwd i _ _ _ _ hi j hj
      have hh : ∀ j ∈ deps, ∀ y, (rs.take i)[j]? = some y → y.holds W vs j := by
        intro j hj y hy
        rw [List.getElem?_take] at hy
        rw [if_pos (hlt j hj)] at hy
        exact hdeps j hj y hy
      have h4 := h3 vs W (tr _ _ _ hw0 hW) (depFacts_of deps hh)
      rw [envD_eq deps fun j hj => valD_eq (W := W) (hh j hj)] at h4
      have h5 : ∀ (W' : World) (v : Value), x.get W' vs v → Rs i W' (put vs i v) := by
        intro W' v hx y hy
        rw [h1] at hy; cases hy
        cases x with
        | val u => show put vs i v i = u; rw [show put vs i v i = v by simp [put]]; exact hx
        | rel js R =>
          show R W' (js.map (put vs i v)) (put vs i v i)
          have e1 : js.map (put vs i v) = js.map vs := by
            apply List.map_congr_left
            intro z hz
            have : z ∈ deps := by simpa using List.all_eq_true.1 h2.1 z hz
            have := hlt z this
            simp only [put, if_neg (show ¬ z = i from by omega)]
          rw [e1]
          rw [show put vs i v i = v by simp [put]]; exact hx
      unfold DStep at h4 ⊢
      split
      · exact h4.mono fun v W' h => ⟨h.1, h5 _ _ h.2⟩
      · exact h4
      · rcases h4 with ⟨ha, hb⟩ | ⟨ha, hb⟩
        · exact .inl ⟨ha, hb.mono fun v W' h => ⟨h.1, h5 _ _ h.2⟩⟩
        · exact .inr ⟨ha, h5 _ _ hb⟩
  · intro vs W hW hR
    have h1 : ∀ (j : Nat) (x : DR), rs[j]? = some x → x.holds W vs (0 + j) := by
      intro j x hx
      have : j < fr.length := by rw [← hl]; exact (List.getElem?_eq_some_iff.1 hx).1
      rw [Nat.zero_add]; exact hR j this x hx
    have h2 := hF vs W (tr _ _ _ hw0 hW) (factsD_of rs 0 h1)
    rw [outD_eq fr 0 fun j hj => valD_eq (W := W) (by intro x hx; exact h1 (0 + j) x hx |> fun h => by simpa using h)] at h2
    exact h2
end
def QW (P : Program) (Rel : World → World → Prop) (ds : List DOp) (e : Env) (w : World) (Fin : List (Nat × DR) → Prop) : Nat → List (Nat × DR) → List DOp → Prop
  | _, done, [] => Fin done
  | i, done, (deps, g, _, m) :: r => ∃ x : DR, x.goodQ Rel w deps ∧
      (∀ (vs : Nat → Value) (W : World), Rel w W → depFactsA done W vs deps → DStep P Rel g m (envA ds done vs deps ++ keepEnv ds i e) W fun W' v => x.get W' vs v) ∧
      QW P Rel ds e w Fin (i + 1) ((i, x) :: done) r
def FinQA (P : Program) (n : Nat) (c : Ctx) (D : List Deferred) (is : List Ins) (k : Kont) (Rel : World → World → Prop) (ds : List DOp) (e : Env) (w : World) (tl : List Ins) (done : List (Nat × DR)) : Prop :=
  ∀ vs W, Rel w W → factsA W vs done → Exec P n c D (tl ++ is) k (outA done vs 0 ds ++ e) W
theorem QW.toL {P : Program} {Rel : World → World → Prop} {ds : List DOp} {e : Env} {w : World} {F : List (Nat × DR) → Prop} : ∀ (rest : List DOp) (i : Nat) (done : List (Nat × DR)) (L : List DR), L.length = i → (∀ j, getA done j = L[j]?) → (∀ p ∈ done, L[p.1]? = some p.2) →
    QW P Rel ds e w F i done rest → QWL P Rel ds e w (fun L => ∃ done, (∀ j, getA done j = L[j]?) ∧ (∀ p ∈ done, L[p.1]? = some p.2) ∧ F done) L rest := by
  intro rest
  induction rest with
  | nil => intro i done L _ h1 h2 h; exact ⟨done, h1, h2, h⟩
  | cons y rest ih =>
    obtain ⟨deps, g, d, m⟩ := y
    intro i done L hl h1 h2 h
    obtain ⟨x, hg, hs, hr⟩ := h
    refine ⟨x, hg, fun vs W hW hd => ?_, ih (i + 1) ((i, x) :: done) (L ++ [x]) (by simp [hl]) ?_ ?_ hr⟩
    · have := hs vs W hW (depFactsA_of h1 deps hd)
      rw [envA_eq h1, ← hl] at this
      exact this
    · intro j
      simp only [getA]
      split
      · rename_i hb
        have := Nat.eq_of_beq_eq_true hb
        subst this
        rw [← hl]; simp
      · rename_i hb
        have hne : i ≠ j := fun h => by subst h; simp at hb
        rw [h1 j]
        rcases Nat.lt_or_ge j L.length with hj | hj
        · rw [List.getElem?_append_left hj]
        · rw [List.getElem?_eq_none hj, List.getElem?_eq_none (by simp; omega)]
    · intro p hp
      rcases List.mem_cons.1 hp with rfl | hp
      · rw [← hl]; simp
      · have h3 := h2 p hp
        have hj := (List.getElem?_eq_some_iff.1 h3).1
        rw [List.getElem?_append_left hj]; exact h3
section
variable {P : Program} {n : Nat} {c : Ctx} {D : List Deferred} {is : List Ins} {k : Kont} {e : Env} {w : World}
theorem exec_qw {fr : List DOp} {tl : List Ins} (Rel : World → World → Prop) (hE : ∀ a b, Ext a b → Rel a b) (tr : ∀ a b c, Rel a b → Rel b c → Rel a c) (hdst : (dsts fr).all (fun t => Nat.blt t n) = true) (hnd : nodupB (dsts fr) = true) (hwd : wellDeps 0 fr = true)
    (h : QW P Rel fr e w (FinQA P n c D is k Rel fr e w tl) 0 [] fr) : Exec P n c D (.draw fr tl :: is) k e w := by
  refine exec_qwL Rel hE tr hdst hnd hwd ?_
  have h2 := QW.toL fr 0 [] [] rfl (by simp [getA]) (by simp) h
  have mono : ∀ (rest : List DOp) (L : List DR) (F G : List DR → Prop), (∀ L, F L → G L) → QWL P Rel fr e w F L rest → QWL P Rel fr e w G L rest := by
    intro rest
    induction rest with
    | nil => intro L F G hFG h; exact hFG _ h
    | cons y rest ih =>
      obtain ⟨deps, g, d, m⟩ := y
      intro L F G hFG h
      obtain ⟨x, h1, h2, h3⟩ := h
      exact ⟨x, h1, h2, ih _ F G hFG h3⟩
  refine mono fr [] _ _ ?_ h2
  rintro L ⟨done, g1, g2, hF⟩ vs W hW hf
  have := hF vs W hW (factsA_of hf done g2)
  rw [outA_eq g1] at this
  exact this
variable {Rel : World → World → Prop} {ds : List DOp} {F : List (Nat × DR) → Prop} {done : List (Nat × DR)} {i : Nat} {deps : List Nat} {d : Option Nat} {m : MOp} {r : List DOp} {s : Nat} {b : Bool}
theorem qw_tame {v : Value} (hE : ∀ a b, Ext a b → Rel a b) (hp : tameOp m = true) (hv : ∀ vs, pureV (envA ds done vs deps ++ keepEnv ds i e) m = some v) (h : QW P Rel ds e w F (i + 1) ((i, .val v) :: done) r) : QW P Rel ds e w F i done ((deps, none, d, m) :: r) :=
  ⟨.val v, trivial, fun vs W _ _ => (ok_pure (hv vs)).mono fun u W' hu => ⟨hu.2 ▸ hE _ _ (Upd.refl _ _), hu.1⟩, h⟩
theorem qw_keep (v : Value) (hE : ∀ a b, Ext a b → Rel a b) (hv : ∀ vs W, Rel w W → depFactsA done W vs deps → OpOK P m (envA ds done vs deps ++ keepEnv ds i e) W (Just v W))
    (h : QW P Rel ds e w F (i + 1) ((i, .val v) :: done) r) : QW P Rel ds e w F i done ((deps, none, d, m) :: r) :=
  ⟨.val v, trivial, fun vs W h1 h2 => (hv vs W h1 h2).mono fun u W' hu => ⟨hu.2 ▸ hE _ _ (Upd.refl _ _), hu.1⟩, h⟩
theorem qw_rel (js : List Nat) (R : World → List Value → Value → Prop) (hj : js.all (fun j => deps.contains j) = true) (hm : ∀ W W' xs v, Rel w W → Rel W W' → R W xs v → R W' xs v)
    (hv : ∀ vs W, Rel w W → depFactsA done W vs deps → OpOK P m (envA ds done vs deps ++ keepEnv ds i e) W fun u W' => Rel W W' ∧ R W' (js.map vs) u)
    (h : QW P Rel ds e w F (i + 1) ((i, .rel js R) :: done) r) : QW P Rel ds e w F i done ((deps, none, d, m) :: r) :=
  ⟨.rel js R, ⟨hj, hm⟩, fun vs W h1 h2 => hv vs W h1 h2, h⟩
theorem qw_end {tl : List Ins} (h : ∀ vs W, Rel w W → factsA W vs done → Exec P n c D (tl ++ is) k (outA done vs 0 ds ++ e) W) : QW P Rel ds e w (FinQA P n c D is k Rel ds e w tl) i done [] := h
/-- a store, said as an operation -/
theorem ok_store {N B o : Nat} {x y : Operand} {v : Value} {cs : List Value} (hx : e.ev x = some (.pointer (some ⟨B, o, none⟩))) (hy : e.ev y = some v) (hB : Blk w B cs) (hl : v.cells.size = N) (hle : o + N ≤ cs.length) (hv : v.cells.toList.all cellValue = true) :
    OpOK P (.store N x y) e w fun _ W => Upd [B] w W ∧ W.heap.size = w.heap.size ∧ Blk W B (splice cs o v.cells.toList) := by
  intro a hk rd d next Q hn
  obtain ⟨w', hr, hu, hs, hb'⟩ := storeCells_run (P := P) (o := o) v.cells.toList 0 w cs hB (by simp [hl]; omega) hv
  have : ((MOp.store N x y).sem a.eval).run P w = .ok .skip w' := by
    simp [MOp.sem, Env.ok_ev hk hx, Env.ok_ev hk hy, Instr.sureAddr, hl, hr]
  rw [this]
  rw [Oper.uponIn_skip]
  exact hn undef w' ⟨hu, hs, hb'⟩
end
end Go.Sp

namespace Go.Sp
/-- worlds in which a new block of one cell may be written: X -/
structure NewCell (N : Nat) (X : Value) (a b : World) : Prop where
  os : b.os = a.os
  tape : b.tape = a.tape
  output : b.output = a.output
  size : a.heap.size ≤ b.heap.size
  block : ∀ i, i < a.heap.size → i < N → b.heap[i]? = a.heap[i]?
  drawn : a.drawn ≤ b.drawn
  cell : ∀ i x, N ≤ i → Blk a i [x] → ∃ y, Blk b i [y] ∧ (x = X → y = X)
theorem NewCell.ext {N : Nat} {X : Value} {a b : World} (h : Ext a b) : NewCell N X a b := ⟨h.os, h.tape, h.output, h.size, fun i hi _ => h.block i hi (by simp), h.drawn, fun i x _ hB => ⟨x, hB.upd h, id⟩⟩
theorem NewCell.trans {N : Nat} {X : Value} {a b c : World} (h : NewCell N X a b) (k : NewCell N X b c) : NewCell N X a c :=
  ⟨k.os.trans h.os, k.tape.trans h.tape, k.output.trans h.output, Nat.le_trans h.size k.size, fun i h1 h2 => (k.block i (Nat.lt_of_lt_of_le h1 h.size) h2).trans (h.block i h1 h2), Nat.le_trans h.drawn k.drawn, fun i x hi hB => by
    obtain ⟨y, h1, h2⟩ := h.cell i x hi hB
    obtain ⟨z, h3, h4⟩ := k.cell i y hi h1
    exact ⟨z, h3, fun hx => h4 (h2 hx)⟩⟩
theorem NewCell.toExt {X : Value} {w W : World} (h : NewCell w.heap.size X w W) : Ext w W := ⟨h.os, h.tape, h.output, h.size, fun i hi _ => h.block i hi hi, h.drawn⟩
theorem NewCell.store {N B : Nat} {X : Value} {a b : World} (hN : N ≤ B) (h : Upd [B] a b) (hB : Blk b B [X]) : NewCell N X a b :=
  ⟨h.os, h.tape, h.output, h.size, fun i h1 h2 => h.block i h1 (by simp; omega), h.drawn, fun i x hi hBx => by
    by_cases he : i = B
    · subst he; exact ⟨X, hB, fun _ => rfl⟩
    · exact ⟨x, hBx.upd h (by simpa using he), id⟩⟩
/-- the functions of forest, on -/
structure ForN (P : Program) extends ForM P where
  where' : Nat
  TWu : Nat
  h_where : Has P where' (b_Pforest_Forest_Where is' where1 index root' rows' nf.left TH TWu TNode)
theorem rowsN_40 {n : Nat} (h : n < 2 ^ 40) : rowsN n ≤ 40 := by
  unfold rowsN
  split
  · omega
  · exact bitLen_le (by omega) (by omega)
theorem pow41 {R : Nat} (h : R ≤ 40) : 2 ^ (R + 1) ≤ 2 ^ 41 := Nat.pow_le_pow_right (by omega) (by omega)
section
variable {P : Program} {f : Nat} {w : World}
set_option maxHeartbeats 800000 in
theorem where_ok (A : ForN P) {p m : Nat} {s : Fo} (h : FAt w p m s) (hh : Hash) : Ret P A.where' [ptrV p, hV hh] w fun v w' => Ext w w' ∧
    ((v = .tuple #[u64V 0, .bool false] ∧ some hh ∉ s.L) ∨ ∃ x, v = .tuple #[u64V (whereT (treesT parH (lv s.L) s.L.length) s.L.length x), .bool true] ∧ s.L[x]? = some (some hh)) := by
  have hF := h
  have hlen := h.len
  obtain ⟨⟨tv, wl, h1, h2, h3, h4⟩, _⟩ := h
  refine Ret.of_exec A.h_where (Nat.le_of_ble_eq_true rfl) fun c hc => ?_
  dsimp only [b_Pforest_Forest_Where, argEnv, ym, yo, yg, ys, yt, yd, ye]
  refine exec_box rfl rfl ?_
  intro b3 w1 hb3 hs1 hu1 hB3
  rw [hV_cells] at hB3
  refine xr 3 rfl ?_
  refine xca rfl rfl (is_ok A.toForJ (hF.ext hu1)) ?_
  rintro _ w2 ⟨rfl, hu2⟩
  refine xr 3 rfl ?_
  have hE2 : Ext w w2 := hu1.trans hu2
  refine xen [(0, ptrV p), (3, ptrV b3)] ⟨rfl, rfl, trivial⟩ ?_
  obtain ⟨o, ho⟩ : ∃ o, aget hh wl = o := ⟨_, rfl⟩
  have hE : ∀ a b, Ext a b → NewCell w2.heap.size (u64V (o.getD 0)) a b := fun a b h => NewCell.ext h
  refine exec_qw (NewCell w2.heap.size (u64V (o.getD 0))) hE (fun a b c h k => h.trans k) rfl rfl rfl ?_
  repeat refine qw_tame hE rfl (fun _ => rfl) ?_
  refine qw_keep (.map (some m)) hE (fun vs X hx _ => ok_load1 (b := p) (o := 0 + 2) rfl ((h1.upd (hE2.trans hx.toExt)).cell rfl)) ?_
  refine qw_keep (hV hh) hE (fun vs X hx _ => ok_loadN (b := b3) (o := 0) rfl (hB3.upd (hu2.trans hx.toExt)).memAll (hC_length _)) ?_
  refine qw_keep _ hE (fun vs X hx _ => ok_look A.h_TH rfl rfl (h3.upd (hE2.trans hx.toExt)) ho) ?_
  repeat refine qw_tame hE rfl (fun _ => rfl) ?_
  refine qw_rel [] (fun W _ v => ∃ b, v = ptrV b ∧ w2.heap.size ≤ b ∧ ∃ x, Blk W b [x]) rfl ?_ ?_ ?_
  · rintro W W' xs v _ hx ⟨b, rfl, h1, x, h2⟩
    obtain ⟨y, h3, _⟩ := hx.cell b x h1 h2
    exact ⟨b, rfl, h1, y, h3⟩
  · intro vs X hx _
    refine ok_new.mono ?_
    rintro v X' ⟨b, rfl, q1, q2, q3⟩
    have := hx.size
    exact ⟨NewCell.ext q3, b, rfl, by omega, _, q1⟩
  refine qw_rel [9] (fun W xs _ => ∃ b, xs = [ptrV b] ∧ w2.heap.size ≤ b ∧ Blk W b [u64V (o.getD 0)]) rfl ?_ ?_ ?_
  · rintro W W' xs v _ hx ⟨b, rfl, h1, h2⟩
    obtain ⟨y, h3, h4⟩ := hx.cell b _ h1 h2
    rw [h4 rfl] at h3
    exact ⟨b, rfl, h1, h3⟩
  · intro vs X hx hd
    obtain ⟨⟨b, hvs, hb, x, hBx⟩, _⟩ := hd
    refine (ok_store (B := b) (o := 0) (v := u64V (o.getD 0)) (by show some (vs 9) = _; rw [hvs]) rfl hBx rfl (by show 0 + 1 ≤ 1; omega) rfl).mono ?_
    rintro _ X' ⟨q1, q2, q3⟩
    have q3' : Blk X' b [u64V (o.getD 0)] := q3
    exact ⟨NewCell.store hb q1 q3', b, by simp [hvs], hb, q3'⟩
  refine qw_end fun vs w3 hw3 hf => ?_
  obtain ⟨⟨b6, hv6, hb6, hB6⟩, _⟩ := hf
  have hv6' : vs 9 = ptrV b6 := by simpa using hv6
  have hu3 : Ext w2 w3 := hw3.toExt
  have hE3 := hE2.trans hu3
  clear hw3
  refine xen [(0, ptrV p), (22, .bool o.isSome), (6, ptrV b6)] ⟨rfl, rfl, by show some (vs 9) = _; rw [hv6'], trivial⟩ ?_
  refine xr 3 rfl ?_
  refine exec_cond rfl (fun hq => ?_) (fun hq => ?_)
  · refine xr 2 rfl ?_
    refine xre hc [_, _] ⟨rfl, rfl, trivial⟩ ⟨hE3, .inl ⟨rfl, fun hm => ?_⟩⟩
    obtain ⟨i, hi⟩ := List.getElem?_of_mem hm
    rw [(h4 hh i).2 hi] at ho
    subst ho; cases hq
  simp only [Bool.not_eq_false'] at hq
  obtain ⟨x, rfl⟩ := Option.isSome_iff_exists.1 hq
  have hLx := (h4 hh x).1 ho
  have hxn : x < s.L.length := (List.getElem?_eq_some_iff.1 hLx).1
  have hB6x : Blk w3 b6 [u64V x] := hB6
  have hn63 : s.L.length < 2 ^ 63 := by omega
  have hlenT := treesT_len parH (L := lv s.L) hn63
  refine xr 4 rfl ?_
  refine exec_load1 (b := p) (o := 0 + 1) rfl rfl ((h1.upd hE3).cell rfl) ?_
  refine xr 1 rfl ?_
  have hbT : ∀ t ∈ treesT parH (lv s.L) s.L.length, t.2.1 + 2 ^ t.2.2 < 2 ^ 63 ∧ t.2.2 < 63 := by
    intro t htm
    obtain ⟨k, rfl, q1, q2⟩ := treesT_mem parH hlen htm
    exact ⟨by show firstN _ k + 2 ^ k < _; omega, by show k < 63; omega⟩
  refine xca rfl rfl (indexT_ok A.toForM (h2.ext hE3).own.sl (by omega) A.h_where1.enters (cs := [ptrV b6]) (q := inT x) (fun W u t hu ht => where1_ok A.toForM (by omega) (hB6x.upd hu) u t (hbT t ht))) ?_
  rintro v4 w4 ⟨hu4, hcase⟩
  obtain ⟨ft, hft, hftx⟩ := find_tree parH (L := lv s.L) hn63 hxn
  rcases hcase with ⟨_, hno⟩ | ⟨i, t, rfl, hti, hfind⟩
  · rw [hno ft hft] at hftx; cases hftx
  have htm := List.mem_of_getElem? hti
  have hin : inT x t = true := List.find?_some hfind
  obtain ⟨r, hr⟩ := in_tree parH htm hin (by rw [lv_eq, lvG_some.2 hLx]; rfl)
  have hil := (List.getElem?_eq_some_iff.1 hti).1
  obtain ⟨us, hR, hO⟩ := h2.own
  rcases hO with ⟨_, h0, _⟩ | ⟨bt, cap, rest, rfl, hBt, ho1, ho2, ho3⟩
  · omega
  obtain ⟨u, hu⟩ : ∃ u, us[i]? = some u := ⟨_, List.getElem?_eq_getElem (by rw [hR.len]; exact hil)⟩
  have hOu := hR.at' i u t hu hti
  obtain ⟨g0, g1, g2⟩ := cellsT_get us _ i u t hu hti
  have hM3 : Mem w bt (0 + i * 3) [u, u64V t.2.1, intV' t.2.2] := hBt.memPre.sub (i * 3) (us := [u, u64V t.2.1, intV' t.2.2]) (fun k x hk => by
    match k, hk with
    | 0, hk => cases hk; exact g0
    | 1, hk => cases hk; exact g1
    | 2, hk => cases hk; exact g2)
  have hE4 := hE3.trans hu4
  obtain ⟨tr, tf, th⟩ := t
  simp only at hr
  subst hr
  obtain ⟨hb1, hb2⟩ := hbT _ htm
  simp only at hb1 hb2 hOu hM3
  have hgoal : whereT (treesT parH (lv s.L) s.L.length) s.L.length x = whereN (rowsN s.L.length) r ((rootN s.L.length th).getD 0) x := by rw [whereT, hfind]
  have hR40 := rowsN_40 hlen
  have hp41 := pow41 hR40
  have hroot : (rootN s.L.length th).getD 0 < 2 ^ 41 := by
    cases hq : rootN s.L.length th with
    | none => show 0 < _; omega
    | some q => have := rootN_lt hq; show q < _; omega
  refine xr 1 rfl ?_
  refine xen [(0, ptrV p), (6, ptrV b6), (8, intV' i)] ⟨rfl, rfl, rfl, trivial⟩ ?_
  refine exec_dwr rfl rfl rfl ?_
  repeat (first | refine wtm rfl rfl rfl ?_ | refine wgt rfl rfl rfl rfl ?_ | refine wgs rfl rfl ?_)
  refine ws_keep (.slice (some ⟨bt, 0, none⟩) (treesT parH (lv s.L) s.L.length).length cap) rfl (fun X hx => ok_load1 (b := p) (o := 0 + 1) rfl ((h1.upd (hE4.trans hx)).cell rfl)) ?_
  repeat (first | refine wtm rfl rfl rfl ?_ | refine wgt rfl rfl rfl rfl ?_ | refine wgs rfl rfl ?_)
  refine ws_keep _ rfl (fun X hx => ok_iaddr (N := 3) (b := bt) (o := 0) rfl rfl i rfl hil) ?_
  refine ws_keep (.agg #[u, u64V tf, intV' th]) rfl (fun X hx => ok_loadN (b := bt) (o := 0 + i * 3) (vs := [u, u64V tf, intV' th]) rfl (hM3.upd (hE4.trans hx) (by simp)) rfl) ?_
  refine ws_ext (u64V ((rootN s.L.length th).getD 0)) rfl (fun X hx => ok_call rfl (root'_ok A.toForM (hF.ext (hE4.trans hx)) u tf th (by omega))) ?_
  repeat (first | refine wtm rfl rfl rfl ?_ | refine wgt rfl rfl rfl rfl ?_ | refine wgs rfl rfl ?_)
  refine ws_keep (.slice (some ⟨bt, 0, none⟩) (treesT parH (lv s.L) s.L.length).length cap) rfl (fun X hx => ok_load1 (b := p) (o := 0 + 1) rfl ((h1.upd (hE4.trans hx)).cell rfl)) ?_
  repeat (first | refine wtm rfl rfl rfl ?_ | refine wgt rfl rfl rfl rfl ?_ | refine wgs rfl rfl ?_)
  refine ws_keep _ rfl (fun X hx => ok_iaddr (N := 3) (b := bt) (o := 0) rfl rfl i rfl hil) ?_
  repeat (first | refine wtm rfl rfl rfl ?_ | refine wgt rfl rfl rfl rfl ?_ | refine wgs rfl rfl ?_)
  refine ws_keep u rfl (fun X hx => ok_load1 (b := bt) (o := 0 + i * 3 + 0) rfl ((hM3.upd (hE4.trans hx) (by simp)) 0 u rfl)) ?_
  repeat (first | refine wtm rfl rfl rfl ?_ | refine wgt rfl rfl rfl rfl ?_ | refine wgs rfl rfl ?_)
  refine ws_fin fun w5 hw5 => ?_
  refine xr 2 rfl ?_
  refine xen [(0, ptrV p), (6, ptrV b6), (9, u64V ((rootN s.L.length th).getD 0)), (10, u)] ⟨rfl, rfl, rfl, rfl, trivial⟩ ?_
  have hE5 := hE4.trans hw5
  have hB65 : Blk w5 b6 [u64V x] := (hB6x.upd hu4).upd hw5
  have hO5 : TrAt w5 u r := TrAt.ext (show TrAt w u r from hOu) hE5
  generalize hgp : (rootN s.L.length th).getD 0 = p0 at *
  refine xlo (S := Tr Hash × Value × Nat) (fun st W => TrAt W st.2.1 st.1 ∧ st.2.2 < 2 ^ 42 ∧ whereN (rowsN s.L.length) st.1 st.2.2 x = whereN (rowsN s.L.length) r p0 x ∧ Ext w W ∧ Ext w5 W)
    (fun st => [(0, ptrV p), (6, ptrV b6), (9, u64V st.2.2), (10, st.2.1)]) (fun st => st.1.high) (r, u, p0)
    ⟨hO5, by show p0 < 2 ^ 42; omega, rfl, hE5, Upd.refl _ _⟩ ⟨rfl, rfl, rfl, rfl, trivial⟩ ?_
  rintro ⟨tr, uv, pp⟩ W ⟨iT, iP, iN, iE, iE5⟩
  simp only at iT iP iN
  cases tr with
  | leaf h0 =>
    obtain ⟨b, rfl, hB⟩ := iT
    refine xr 3 rfl ?_
    refine exec_load1 (b := b) (o := 0 + 32) rfl rfl (node_cell0 hB).2.1 ?_
    refine xju (ok_ne_nil A.h_TNode rfl rfl) rfl ?_
    refine xr 6 rfl ?_
    refine xre hc [_, _] ⟨rfl, rfl, trivial⟩ ⟨iE, .inr ⟨x, ?_, hLx⟩⟩
    rw [hgoal, ← iN, whereN]; rfl
  | pair h0 l rr mid =>
    obtain ⟨b, vl, vr, rfl, hB, hm62, hl, hrr⟩ := iT
    have hl0 := hl
    obtain ⟨bl, _, _, _, rfl, _⟩ := TrAt.node hl0
    refine xr 3 rfl ?_
    refine exec_load1 (b := b) (o := 0 + 32) rfl rfl (node_cell0 hB).2.1 ?_
    refine xju (ok_ne_nil A.h_TNode rfl rfl) rfl ?_
    refine xr 5 rfl ?_
    refine xca rfl rfl (rows'_ok A.toForM (hF.ext iE)) ?_
    rintro _ W1 ⟨rfl, hw1⟩
    refine xca rfl rfl (left_ok A.nf.toPosF pp (rowsN s.L.length) (by omega) (by omega)) ?_
    rintro _ W2 ⟨rfl, hw2⟩
    rw [optV_eq]
    refine xr 4 rfl ?_
    have hq41 : (leftN pp (rowsN s.L.length)).getD 0 < 2 ^ 41 := Nat.lt_of_lt_of_le leftN_lt hp41
    have hWW2 : Ext W W2 := hw1.trans hw2
    refine xen [(0, ptrV p), (6, ptrV b6), (9, u64V ((leftN pp (rowsN s.L.length)).getD 0)), (10, ptrV b)] ⟨rfl, rfl, rfl, rfl, trivial⟩ ?_
    refine exec_dwr rfl rfl rfl ?_
    refine ws_keep (u64V x) rfl (fun X hx => ok_load1 (b := b6) (o := 0) rfl (((hB65.upd iE5).upd (hWW2.trans hx)).cell rfl)) ?_
    repeat (first | refine wtm rfl rfl rfl ?_ | refine wgt rfl rfl rfl rfl ?_ | refine wgs rfl rfl ?_)
    refine ws_keep (u64V mid) rfl (fun X hx => ok_load1 (b := b) (o := 0 + 34) rfl (node_cell0 (hB.upd (hWW2.trans hx))).2.2.2) ?_
    refine ws_fin fun W3 hw3 => ?_
    have hW3 := hWW2.trans hw3
    have key : whereN (rowsN s.L.length) (.pair h0 l rr mid) pp x = if x < mid then whereN (rowsN s.L.length) l ((leftN pp (rowsN s.L.length)).getD 0) x else whereN (rowsN s.L.length) rr ((leftN pp (rowsN s.L.length)).getD 0 + 1) x := by rw [whereN]
    by_cases hxm : x < mid
    · refine xpu (pv_lssI (a := x) (b := mid) (q := true) rfl rfl (by simpa using hxm)) rfl ?_
      refine xr 4 rfl ?_
      refine exec_load1 (b := b) (o := 0 + 32) rfl rfl (node_cell0 (hB.upd hW3)).2.1 ?_
      refine xr 4 rfl ?_
      refine xag (l, ptrV bl, (leftN pp (rowsN s.L.length)).getD 0) ⟨TrAt.ext hl hW3, by show (leftN pp (rowsN s.L.length)).getD 0 < 2 ^ 42; omega, ?_, iE.trans hW3, iE5.trans hW3⟩ (by show l.high < l.high + rr.high + 1; omega) ⟨rfl, rfl, rfl, rfl, trivial⟩
      rw [key, if_pos hxm] at iN
      exact iN
    · refine xpu (pv_lssI (a := x) (b := mid) (q := false) rfl rfl (by simpa using hxm)) rfl ?_
      refine xr 4 rfl ?_
      refine exec_load1 (b := b) (o := 0 + 33) rfl rfl (node_cell0 (hB.upd hW3)).2.2.1 ?_
      refine xr 2 rfl ?_
      refine xpu (pv_addU (a := (leftN pp (rowsN s.L.length)).getD 0) (b := 1) rfl rfl (by omega)) rfl ?_
      refine xr 4 rfl ?_
      refine xag (rr, vr, (leftN pp (rowsN s.L.length)).getD 0 + 1) ⟨TrAt.ext hrr hW3, by show (leftN pp (rowsN s.L.length)).getD 0 + 1 < 2 ^ 42; omega, ?_, iE.trans hW3, iE5.trans hW3⟩ (by show rr.high < l.high + rr.high + 1; omega) ⟨rfl, rfl, rfl, rfl, trivial⟩
      rw [key, if_neg hxm] at iN
      exact iN
end
end Go.Sp

namespace Go.Sp
def rootC : Option Hash → List Value
  | none => .bool false :: List.replicate 32 (.int .u8 0)
  | some h => .bool true :: hC h
theorem rootC_len (o : Option Hash) : (rootC o).length = 33 := by cases o <;> simp [rootC, hC_length]
theorem rootC_ok (o : Option Hash) : (rootC o).all cellValue = true := by
  cases o with
  | none => rfl
  | some h => simp [rootC, hC_cell]; rfl
def rootsC (l : List (Option Hash)) : List Value := l.flatMap rootC
theorem root_fill (h : Hash) : fillL (rleL [(1, .bool false), (32, .int .u8 0)]) [(0, 1, .bool true), (1, 32, hV h)] = some (rootC (some h)) := by
  have e0 : rleL [(1, Value.bool false), (32, .int .u8 0)] = [.bool false] ++ List.replicate 32 (.int .u8 0) := rfl
  have e1 : cellL (hV h) = hC h := by simp [hV, cellL]
  rw [e0, fillL_cons (size := 1) rfl (by simp)]
  rw [show splice ([.bool false] ++ List.replicate 32 (.int .u8 0)) 0 (cellL (.bool true)) = [.bool true] ++ List.replicate 32 (.int .u8 0) from splice_head rfl]
  rw [fillL_cons (by rw [e1, hC_length]) (by simp), e1]
  rw [show splice ([.bool true] ++ List.replicate 32 (.int .u8 0)) 1 (hC h) = [.bool true] ++ hC h from ?_]
  · rfl
  · rw [splice]
    simp [hC_length]
theorem root_fill1 (o : Option Hash) : fillL (rleL [(1, .bool false), (32, .int .u8 0)]) [(0, 33, .agg (rootC o).toArray)] = some (rootC o) := by
  have e1 : cellL (.agg (rootC o).toArray) = rootC o := by simp [cellL]
  have hl : (rleL [(1, Value.bool false), (32, .int .u8 0)]).length = 33 := rfl
  rw [fillL_cons (by rw [e1, rootC_len]) (by rw [hl]; omega), e1, splice_all (by rw [rootC_len, hl])]
  rfl
theorem OwnC.slice {w : World} {v : Value} {N len : Nat} {cs : List Value} (h : OwnC w v N len cs) : ∃ a l c, v = .slice a l c := by
  rcases h with ⟨rfl, _⟩ | ⟨b, cap, rest, rfl, _⟩
  · exact ⟨_, _, _, rfl⟩
  · exact ⟨_, _, _, rfl⟩
def rootsT (ts : List (TT Hash)) : List (Option Hash) := ts.map fun t => t.1.map Tr.hash
theorem rootsT_next {ts : List (TT Hash)} {i : Nat} {t : TT Hash} (h : ts[i]? = some t) : rootsT (ts.take (i + 1)) = rootsT (ts.take i) ++ [t.1.map Tr.hash] := by
  rw [List.take_add_one, h]; simp [rootsT]
/-- the functions of forest, on -/
structure ForO (P : Program) extends ForN P where
  stump : Nat
  TStu : Nat
  TSt1 : Nat
  TSt2 : Nat
  h_stump : Has P stump (b_Pforest_Forest_Stump is' TStu TSt1 TSt2 TNode)
section
variable {P : Program} {f : Nat} {w : World}
set_option maxHeartbeats 800000 in
theorem stump_ok (A : ForO P) {p m : Nat} {s : Fo} (h : FAt w p m s) : Ret P A.stump [ptrV p] w fun v w' => ∃ rv, v = .agg #[u64V s.L.length, rv] ∧ Ext w w' ∧
    OwnC w' rv 33 (rootsT (treesT parH (lv s.L) s.L.length)).length (rootsC (rootsT (treesT parH (lv s.L) s.L.length))) ∧ ∀ b ∈ blkOf rv, w.heap.size ≤ b := by
  have hF := h
  have hlen := h.len
  obtain ⟨⟨tv, wl, h1, h2, h3, h4⟩, _⟩ := h
  refine Ret.of_exec A.h_stump (Nat.le_of_ble_eq_true rfl) fun c hc => ?_
  dsimp only [b_Pforest_Forest_Stump, argEnv, ym, yo, yg, ys, yt, yd, ye]
  refine exec_new rfl ?_
  intro b2 w1 hb2 hs1 hu1 hB2
  refine xr 1 rfl ?_
  refine xca rfl rfl (is_ok A.toForJ (hF.ext hu1)) ?_
  rintro _ w2 ⟨rfl, hu2⟩
  refine xr 6 rfl ?_
  have hE2 : Ext w w2 := hu1.trans hu2
  have hB2' : Blk w2 b2 [u64V 0, .slice none 0 0] := hB2.upd hu2
  refine exec_load1 (b := p) (o := 0 + 0) rfl rfl ((h1.upd hE2).cell rfl) ?_
  refine xju (ok_mkL (l := [(0, 1, u64V s.L.length)]) (cs := [u64V s.L.length, .slice none 0 0]) rfl rfl) rfl ?_
  refine exec_new_store (v := .agg #[u64V s.L.length, .slice none 0 0]) rfl rfl rfl rfl rfl rfl ?_
  intro b3 w3 hb3 hs3 hu3 hB3
  have hB3' : Blk w3 b3 [u64V s.L.length, .slice none 0 0] := hB3
  have hE3 := hE2.trans hu3
  have z3 := hE3.size
  have z12 := hu2.size
  refine xr 3 rfl ?_
  refine exec_load1 (b := p) (o := 0 + 1) rfl rfl ((h1.upd hE3).cell rfl) ?_
  have hlenT := treesT_len parH (L := lv s.L) (n := s.L.length) (by omega)
  generalize hts : treesT parH (lv s.L) s.L.length = ts at *
  have h2' := h2.own
  obtain ⟨us, hR, hO⟩ := h2'
  refine xpu (hO.sl.lenS rfl) rfl ?_
  refine xr 2 rfl ?_
  refine xen [(0, ptrV p), (2, ptrV b2), (3, ptrV b3), (19, tv), (20, intV' ts.length), (21, intV' 0)] ⟨rfl, rfl, rfl, rfl, rfl, rfl, trivial⟩ ?_
  refine xlo (S := Nat × Value) (fun st W => st.1 ≤ ts.length ∧ Blk W b3 [u64V s.L.length, st.2] ∧ OwnC W st.2 33 st.1 (rootsC (rootsT (ts.take st.1))) ∧ Upd [b3] w3 W ∧ ∀ b ∈ blkOf st.2, w3.heap.size ≤ b)
    (fun st => [(0, ptrV p), (2, ptrV b2), (3, ptrV b3), (19, tv), (20, intV' ts.length), (21, intV' st.1)]) (fun st => ts.length - st.1) (0, .slice none 0 0)
    ⟨Nat.zero_le _, hB3', .inl ⟨rfl, rfl, rfl⟩, Upd.refl _ _, by simp [blkOf]⟩ ⟨rfl, rfl, rfl, rfl, rfl, rfl, trivial⟩ ?_
  rintro ⟨i, rv⟩ W ⟨i1, iB, iO, iU, iF⟩
  simp only at i1 iB iO iF
  have hwW : Ext w W := hE3.trans iU (fun b hb => .inr (by simp at hb; omega))
  skip
  by_cases hi : i < ts.length
  · refine xpu (pv_lssI (a := i) (b := ts.length) (q := true) rfl rfl (by simpa using hi)) rfl ?_
    refine xr 3 rfl ?_
    obtain ⟨t, hti⟩ : ∃ t, ts[i]? = some t := ⟨_, List.getElem?_eq_getElem hi⟩
    obtain ⟨u, hu⟩ : ∃ u, us[i]? = some u := ⟨_, List.getElem?_eq_getElem (by rw [hR.len]; omega)⟩
    obtain ⟨g0, g1, g2⟩ := cellsT_get us ts i u t hu hti
    obtain ⟨bt, ot, cap, hv, hmt, _⟩ := hO.sl.at (by omega)
    have hOu := hR.at' i u t hu hti
    obtain ⟨pu, rfl⟩ := otr_ptr hOu
    refine xju (ok_iaddr (N := 3) (b := bt) (o := ot) (len := ts.length) (cap := cap) (by rw [← hv]; rfl) rfl i rfl hi) rfl ?_
    have hM3 : Mem w bt (ot + i * 3) [.pointer pu, u64V t.2.1, intV' t.2.2] := hmt.sub (i * 3) (us := [.pointer pu, u64V t.2.1, intV' t.2.2]) (fun k x hk => by
      match k, hk with
      | 0, hk => cases hk; exact g0
      | 1, hk => cases hk; exact g1
      | 2, hk => cases hk; exact g2)
    refine exec_loadN (b := bt) (o := ot + i * 3) (vs := [.pointer pu, u64V t.2.1, intV' t.2.2]) rfl rfl (hM3.upd hwW (by simp)) rfl ?_
    refine exec_new_store (v := .agg #[.pointer pu, u64V t.2.1, intV' t.2.2]) rfl rfl rfl rfl rfl rfl ?_
    intro b5 W1 hb5 hs5 hw1 hB5
    have hB5' : Blk W1 b5 [.pointer pu, u64V t.2.1, intV' t.2.2] := hB5
    refine exec_new rfl ?_
    intro b6 W2 hb6 hs6 hw2 hB6
    have hB6' : Blk W2 b6 (rootC none) := hB6
    have hWW2 : Ext W W2 := hw1.trans hw2
    refine xr 1 rfl ?_
    refine exec_load1 (b := b5) (o := 0 + 0) (v := .pointer pu) rfl rfl ((hB5'.upd hw2).cell rfl) ?_
    refine xju (ok_ne_nil A.h_TNode rfl rfl) rfl ?_
    refine exec_cond_join (S := Unit) (fun _ X => Blk X b6 (rootC (t.1.map Tr.hash)) ∧ Ext W X) (fun _ => [(0, ptrV p), (2, ptrV b2), (3, ptrV b3), (6, ptrV b6), (19, tv), (20, intV' ts.length), (21, intV' i)]) rfl (fun hq => ?_) (fun hq => ?_) ?_
    · cases pu with
      | none => cases hq
      | some q =>
        cases hd : t.1 with
        | none => rw [hd] at hOu; cases hOu
        | some r =>
          rw [hd] at hOu
          obtain ⟨bn, _, _, _, he, hBn⟩ := TrAt.node hOu
          cases he
          refine xr 1 rfl ?_
          refine exec_load1 (b := b5) (o := 0 + 0) (v := ptrV bn) rfl rfl ((hB5'.upd hw2).cell rfl) ?_
          refine xr 2 rfl ?_
          refine exec_loadN (b := bn) (o := 0 + 0) (vs := hC r.hash) rfl rfl (node_cell0 (hBn.upd (hwW.trans hWW2))).1 (hC_length _) ?_
          refine xju (ok_mkL (l := [(0, 1, .bool true), (1, 32, hV r.hash)]) (cs := rootC (some r.hash)) rfl (root_fill _)) rfl ?_
          refine exec_store (b := b6) (o := 0) (v := .agg (rootC (some r.hash)).toArray) rfl rfl hB6' (by simp [Value.cells, rootC, hC_length]) (by simp [rootC]) (by have := rootC_ok (some r.hash); simpa [Value.cells] using this) ?_
          intro W3 hw3 _ hB63
          have zW2 := hWW2.size
          refine exec_meet () ⟨?_, hWW2.trans hw3 (fun b hb => .inr (by simp at hb; omega))⟩ ⟨rfl, rfl, rfl, rfl, rfl, rfl, rfl, trivial⟩
          rw [splice_all (by simp [Value.cells, rootC, hC_length])] at hB63
          exact hB63
    · refine exec_meet () ⟨?_, hWW2⟩ ⟨rfl, rfl, rfl, rfl, rfl, rfl, rfl, trivial⟩
      cases pu with
      | some q => cases hq
      | none =>
        cases hd : t.1 with
        | none => exact hB6'
        | some r =>
          rw [hd] at hOu
          obtain ⟨_, _, _, _, he, _⟩ := TrAt.node hOu
          cases he
    · rintro _ X ⟨hBX, hWX⟩
      refine xr 1 rfl ?_
      obtain ⟨ra, rl, rc, rfl⟩ := iO.slice
      have iBX := iB.upd hWX
      refine exec_load1 (b := b3) (o := 0 + 1) rfl rfl (iBX.cell rfl) ?_
      refine exec_loadN (b := b6) (o := 0) rfl rfl hBX.memAll (rootC_len _) ?_
      refine exec_litL (N := 33) (cs := rootC (t.1.map Tr.hash)) (l := [(0, 33, .agg (rootC (t.1.map Tr.hash)).toArray)]) rfl (root_fill1 _) (by rw [rootC_len]) rfl ?_
      intro bl X1 hbl hsl hx1 hOl
      have iOX := (iO.upd hWX (by simp)).upd hx1 (by simp)
      refine exec_ok (ok_append (N := 33) rfl rfl iOX hOl.sl rfl (by decide) (by omega) (rootC_ok _)) rfl ?_
      rintro v2 X2 ⟨hO2, hx2, hf2, _⟩
      obtain ⟨va, vl, vc, rfl⟩ := hO2.slice
      refine xr 1 rfl ?_
      have zX := hWX.size
      have zX1 := hx1.size
      have zU := iU.size
      have hb3n : b3 ∉ blkOf (.slice ra rl rc) := fun hm => by have := iF b3 hm; omega
      have iB2 := (iBX.upd hx1).upd hx2 hb3n
      refine exec_store (b := b3) (o := 0 + 1) (v := .slice va vl vc) rfl rfl iB2 rfl (by simp) rfl ?_
      intro X3 hx3 _ hB3n
      have hB3n' : Blk X3 b3 [u64V s.L.length, .slice va vl vc] := hB3n
      clear hB3n
      refine xr 2 rfl ?_
      refine xpu (pv_addI (a := i) (b := 1) rfl rfl (by omega)) rfl ?_
      refine xr 1 rfl ?_
      have hfr : ∀ b ∈ blkOf (.slice va vl vc), w3.heap.size ≤ b := fun b hb => by
        rcases hf2 b hb with h | h
        · exact iF b h
        · omega
      refine xag (i + 1, .slice va vl vc) ⟨hi, hB3n', ?_, ?_, hfr⟩ (by show ts.length - (i + 1) < ts.length - i; omega) ⟨rfl, rfl, rfl, rfl, rfl, rfl, trivial⟩
      · rw [rootsT_next hti, rootsC, List.flatMap_append]
        refine OwnC.upd ?_ hx3 (fun b hb hm => by have := hfr b hb; simp at hm; omega)
        simpa [rootsC] using hO2
      · exact (((iU.trans hWX).trans hx1).trans hx2 (fun b hb => .inr (iF b hb))).trans hx3
  · refine xpu (pv_lssI (a := i) (b := ts.length) (q := false) rfl rfl (by simpa using hi)) rfl ?_
    have : i = ts.length := by omega
    subst this
    rw [List.take_length] at iO
    obtain ⟨ra, rl, rc, rfl⟩ := iO.slice
    refine xr 3 rfl ?_
    refine exec_loadN (b := b3) (o := 0) (vs := [u64V s.L.length, .slice ra rl rc]) rfl rfl iB.memAll rfl ?_
    refine exec_store (b := b2) (o := 0) (v := .agg #[u64V s.L.length, .slice ra rl rc]) rfl rfl ((hB2'.upd hu3).upd iU (by simp; omega)) rfl (by simp) rfl ?_
    intro X hx _ hBX
    have hBX' : Blk X b2 [u64V s.L.length, .slice ra rl rc] := hBX
    refine xre hc [.agg #[u64V s.L.length, .slice ra rl rc]] ⟨⟨b2, 0, _, rfl, hBX'.memAll, rfl, rfl⟩, trivial⟩ ⟨_, rfl, hwW.trans hx (fun b hb => .inr (by simp at hb; omega)), ?_, fun b hb => by have := iF b hb; omega⟩
    have e1 : (rootsT ts).length = ts.length := by simp [rootsT]
    rw [e1]
    exact iO.upd hx (fun b hb hm => by have := iF b hb; simp at hm; omega)
end
end Go.Sp

namespace Go.Sp
theorem hash_fill (q : Hash) : fillL (rleL [(32, .int .u8 0)]) [(0, 32, hV q)] = some (hC q) := by
  have e1 : cellL (hV q) = hC q := by simp [hV, cellL]
  have hl : (rleL [(32, Value.int .u8 0)]).length = 32 := rfl
  rw [fillL_cons (by rw [e1, hC_length]) (by rw [hl]; omega), e1, splice_all (by rw [hC_length, hl])]
  rfl
end Go.Sp

namespace Go.Sp
def cmpN (a b : Nat) : Int := if a < b then -1 else if b < a then 1 else 0
/-- what slices.SortFunc is to do at hashes -/
def SortHOK (P : Program) (f : FuncId) : Prop := ∀ (w : World) (v : Value) (l : List Hash) (g : FuncId) (cb : List Value) (p : Hash → Nat), OwnC w v 32 l.length (hs l) → l.length < 2 ^ 40 → Enters P g →
  (∀ W x y, Upd (blkOf v) w W → Ret P g (hV x :: hV y :: cb) W fun r w' => r = .int .i64 (cmpN (p x) (p y)) ∧ Ext W w') →
  Ret P f [v, .func (.func g) #[] cb.toArray] w fun _ w' => ∃ l', l'.Perm l ∧ l'.Pairwise (fun a b => p a ≤ p b) ∧ OwnC w' v 32 l.length (hs l') ∧ Upd (blkOf v) w w'
/-- the functions of forest, on -/
structure ForP (P : Program) extends ForO P where
  keysH1 : Nat
  keysH : Nat
  appH : Nat
  collH : Nat
  sortH : Nat
  sortedH : Nat
  isNaN : Nat
  cmpU : Nat
  leaves1 : Nat
  leaves : Nat
  TKm : Nat
  TSH : Nat
  TLv : Nat
  h_keysH1 : Has P keysH1 (b_maps_Keys_map_api_Hashuint64_api_Hash_uint64_1 TH)
  h_keysH : Has P keysH (b_maps_Keys_map_api_Hashuint64_api_Hash_uint64 keysH1 TKm)
  h_appH : Has P appH (b_slices_AppendSeq_api_Hash_api_Hash TSH TH)
  h_collH : Has P collH (b_slices_Collect_api_Hash appH)
  h_sortH : SortHOK P sortH
  h_sortedH : Has P sortedH (b_slices_SortedFunc_api_Hash collH sortH)
  h_isNaN : Has P isNaN b_cmp_isNaN_uint64
  h_cmpU : Has P cmpU (b_cmp_Compare_uint64 isNaN)
  h_leaves1 : Has P leaves1 (b_Pforest_Forest_Leaves_1 cmpU TH)
  h_leaves : Has P leaves (b_Pforest_Forest_Leaves is' keysH leaves1 sortedH TLv)
end Go.Sp

namespace Go.Sp
/-- worlds in which a forest's number and trees are written anew -/
structure TwoSet (p : Nat) (N T c2 c3 c4 : Value) (a b : World) : Prop where
  upd : Upd [p] a b
  keep : ∀ x y, Blk a p [x, y, c2, c3, c4] → ∃ x' y', Blk b p [x', y', c2, c3, c4] ∧ (x = N → x' = N) ∧ (y = T → y' = T)
theorem TwoSet.ext {p : Nat} {N T c2 c3 c4 : Value} {a b : World} (h : Ext a b) : TwoSet p N T c2 c3 c4 a b := ⟨h.mono (by simp), fun x y hB => ⟨x, y, hB.upd h, id, id⟩⟩
theorem TwoSet.trans {p : Nat} {N T c2 c3 c4 : Value} {a b c : World} (h : TwoSet p N T c2 c3 c4 a b) (k : TwoSet p N T c2 c3 c4 b c) : TwoSet p N T c2 c3 c4 a c :=
  ⟨h.upd.trans k.upd, fun x y hB => by
    obtain ⟨x', y', h1, h2, h3⟩ := h.keep x y hB
    obtain ⟨x2, y2, k1, k2, k3⟩ := k.keep x' y' h1
    exact ⟨x2, y2, k1, fun e => k2 (h2 e), fun e => k3 (h3 e)⟩⟩
theorem where_undo {wl gl cl l2 : List (Hash × Nat)} {L : List (Option Hash)} {del add : List Hash} (h : WhereOK wl (modL del add L)) (hg : goneMap gl L del) (hc : newMap cl L.length add) (ha : Granted L del add)
    (h2 : ∀ h, aget h l2 = (aget h gl).or (if (aget h cl).isSome then none else aget h wl)) : WhereOK l2 L := by
  intro x i
  have key : (modL del add L)[i]? = some (some x) ↔ (L[i]? = some (some x) ∧ x ∉ del) ∨ ∃ k, add[k]? = some x ∧ i = L.length + k := by
    rw [modL]
    rcases Nat.lt_or_ge i L.length with hi | hi
    · rw [List.getElem?_append_left (by rw [goneL_len]; exact hi), goneL_get]
      constructor
      · exact .inl
      · rintro (h | ⟨k, _, h⟩)
        · exact h
        · omega
    · rw [List.getElem?_append_right (by rw [goneL_len]; exact hi), goneL_len, List.getElem?_map]
      have hn : L[i]? = none := List.getElem?_eq_none hi
      constructor
      · intro h
        refine .inr ⟨i - L.length, ?_, by omega⟩
        cases ho : add[i - L.length]? with
        | none => rw [ho] at h; cases h
        | some y => rw [ho] at h; cases h; rfl
      · rintro (⟨h, _⟩ | ⟨k, h, rfl⟩)
        · rw [hn] at h; cases h
        · rw [Nat.add_sub_cancel_left, h]; rfl
  rw [h2]
  cases hgo : aget x gl with
  | some j =>
    have hj := (hg x j).1 hgo
    simp only [Option.some_or, Option.some.injEq]
    constructor
    · rintro rfl; exact hj.2
    · intro hi
      have := (hg x i).2 ⟨hj.1, hi⟩
      rw [hgo] at this; exact Option.some.inj this
  | none =>
    simp only [Option.none_or]
    have hnd : ∀ i, L[i]? = some (some x) → x ∉ del := fun i hi hd => by rw [(hg x i).2 ⟨hd, hi⟩] at hgo; cases hgo
    cases hco : aget x cl with
    | some j =>
      obtain ⟨k, hk, _⟩ := (hc x j).1 hco
      simp only [Option.isSome_some, if_true]
      constructor
      · intro h; cases h
      · intro hi
        exact absurd (ha.free x (List.mem_of_getElem? hk) (List.mem_of_getElem? hi)) (hnd i hi)
    | none =>
      have hno : ¬ ∃ k, add[k]? = some x ∧ i = L.length + k := fun h => by rw [(hc x i).2 h] at hco; cases hco
      simp only [Option.isSome_none, Bool.false_eq_true, if_false]
      rw [h x i, key]
      constructor
      · rintro (⟨h1, _⟩ | h1)
        · exact h1
        · exact absurd h1 hno
      · intro hi; exact .inl ⟨hi, hnd i hi⟩
/-- the functions of forest, on -/
structure ForQ (P : Program) extends ForP P where
  undo : Nat
  TUo : Nat
  h_undo : Has P undo (b_Pforest_Forest_Undo is' change TUo TPF)
  h_TPE : ∃ j, P.info? TPE = some j ∧ j.size ≠ 0
section
variable {P : Program} {f : Nat} {w : World}
theorem undo_no (A : ForQ P) {p m q m' : Nat} {s s0 : Fo} {t : Nat} {u : Value} {del add : List Hash} {cs : List Value} (h : FAt w p m s) (hU : UAt w u q m' s0 t del add) (hq : Blk w q cs) (hn : q ≠ p ∨ t ≠ s.turn) :
    RetV P A.undo [ptrV p, u] w (intV' 2) := by
  have hF := h
  obtain ⟨⟨tv, wl, h1, h2, h3, h4⟩, h5, h6⟩ := h
  obtain ⟨⟨tu, gr, cr, gl, cl, rfl, u2, u3, u4, u5, u6, g1, g2, g3, g4⟩, u7, u8⟩ := hU
  obtain ⟨ta, tl, tc, rfl⟩ := u2.own.val
  refine Ret.of_exec A.h_undo (Nat.le_of_ble_eq_true rfl) fun c hc => ?_
  dsimp only [b_Pforest_Forest_Undo, argEnv, ym, yo, yg, ys, yt, yd, ye]
  refine exec_box rfl rfl ?_
  intro b3 w1 hb3 hs1 hu1 hB3
  have hB3' : Blk w1 b3 (undoC q t s0.turn s0.L.length (.slice ta tl tc) gr cr) := hB3
  clear hB3
  refine xr 3 rfl ?_
  refine xca rfl rfl (is_ok A.toForJ (hF.ext hu1)) ?_
  rintro _ w2 ⟨rfl, hu2⟩
  refine xr 3 rfl ?_
  have hE2 : Ext w w2 := hu1.trans hu2
  have hB3 := hB3'.upd hu2
  obtain ⟨j, hj, hsz⟩ := A.h_TPE
  refine xen [(0, ptrV p), (3, ptrV b3)] ⟨rfl, rfl, trivial⟩ ?_
  obtain ⟨Tp, hhp⟩ := h1.upd hE2
  have hcmp : ∀ X, Ext w2 X → ∀ (e : Env) (x y : Operand), e.ev x = some (ptrV q) → e.ev y = some (ptrV p) → OpOK P (.bin .neq A.TPF x y) e X (Just (.bool (!decide (q = p))) X) := by
    intro X hx e x y hex hey
    obtain ⟨Tq, hhq⟩ := hq.upd (hE2.trans hx)
    obtain ⟨Tp, hhp⟩ := h1.upd (hE2.trans hx)
    have := ok_ne_ptr A.h_TPF hj hsz (a := ⟨q, 0, none⟩) (b := ⟨p, 0, none⟩) hex hey hhq hhp
    simpa using this
  by_cases hqp : q = p
  · have ht : t ≠ s.turn := by rcases hn with h | h; · exact absurd hqp h
                               · exact h
    simp only [hqp, decide_true, Bool.not_true] at hcmp
    refine exec_dwr rfl rfl rfl ?_
    repeat (first | refine wtm rfl rfl rfl ?_ | refine wgt rfl rfl rfl rfl ?_ | refine wgs rfl rfl ?_)
    refine ws_keep (ptrV p) rfl (fun X hx => by rw [← hqp]; exact ok_load1 (b := b3) (o := 0 + 0) rfl ((hB3.upd hx).cell rfl)) ?_
    repeat (first | refine wtm rfl rfl rfl ?_ | refine wgt rfl rfl rfl rfl ?_ | refine wgs rfl rfl ?_)
    refine ws_keep (.bool false) rfl (fun X hx => hcmp X hx _ _ _ rfl rfl) ?_
    repeat (first | refine wtm rfl rfl rfl ?_ | refine wgt rfl rfl rfl rfl ?_ | refine wgs rfl rfl ?_)
    refine ws_gkeep (intV' t) rfl rfl (fun X hx => ok_load1 (b := b3) (o := 0 + 1) rfl ((hB3.upd hx).cell rfl)) ?_
    repeat (first | refine wtm rfl rfl rfl ?_ | refine wgt rfl rfl rfl rfl ?_ | refine wgs rfl rfl ?_)
    refine ws_gkeep (intV' s.turn) rfl rfl (fun X hx => ok_load1 (b := p) (o := 0 + 3) rfl ((h1.upd (hE2.trans hx)).cell rfl)) ?_
    refine ws_fin fun w3 hw3 => ?_
    refine xgr rfl ?_
    refine xpu (pv_neqI (a := t) (b := s.turn) (q := true) rfl rfl (by simpa using ht)) rfl ?_
    refine xr 4 rfl ?_
    exact xre hc [_] ⟨rfl, trivial⟩ ⟨rfl, hE2.trans hw3⟩
  · simp only [hqp, decide_false, Bool.not_false] at hcmp
    refine exec_dwr rfl rfl rfl ?_
    repeat (first | refine wtm rfl rfl rfl ?_ | refine wgt rfl rfl rfl rfl ?_ | refine wgs rfl rfl ?_)
    refine ws_keep (ptrV q) rfl (fun X hx => ok_load1 (b := b3) (o := 0 + 0) rfl ((hB3.upd hx).cell rfl)) ?_
    repeat (first | refine wtm rfl rfl rfl ?_ | refine wgt rfl rfl rfl rfl ?_ | refine wgs rfl rfl ?_)
    refine ws_keep (.bool true) rfl (fun X hx => hcmp X hx _ _ _ rfl rfl) ?_
    repeat (first | refine wtm rfl rfl rfl ?_ | refine wgt rfl rfl rfl rfl ?_ | refine wgs rfl rfl ?_)
    refine ws_fin fun w3 hw3 => ?_
    refine xr 5 rfl ?_
    exact xre hc [_] ⟨rfl, trivial⟩ ⟨rfl, hE2.trans hw3⟩
set_option maxHeartbeats 800000 in
theorem undo_ok (A : ForQ P) {p m : Nat} {s s0 : Fo} {u : Value} {del add : List Hash} (h : FAt w p m s) (hU : UAt w u p m s0 s.turn del add) (hL : s.L = modL del add s0.L) (hGr : Granted s0.L del add) :
    Ret P A.undo [ptrV p, u] w fun v w' => v = intV' 0 ∧ FAt w' p m ⟨s0.L, s0.turn, s.turns⟩ ∧ Upd [p, m] w w' := by
  have hF := h
  have hne := h.ne
  have hfor := h.foreign
  obtain ⟨⟨tv, wl, h1, h2, h3, h4⟩, h5, h6⟩ := h
  obtain ⟨⟨tu, gr, cr, gl, cl, rfl, u2, u3, u4, u5, u6, g1, g2, g3, g4⟩, u7, u8⟩ := hU
  obtain ⟨ta, tl, tc, rfl⟩ := u2.own.val
  refine Ret.of_exec A.h_undo (Nat.le_of_ble_eq_true rfl) fun c hc => ?_
  dsimp only [b_Pforest_Forest_Undo, argEnv, ym, yo, yg, ys, yt, yd, ye]
  refine exec_box rfl rfl ?_
  intro b3 w1 hb3 hs1 hu1 hB3
  have hB3' : Blk w1 b3 (undoC p s.turn s0.turn s0.L.length (.slice ta tl tc) gr cr) := hB3
  clear hB3
  refine xr 3 rfl ?_
  refine xca rfl rfl (is_ok A.toForJ (hF.ext hu1)) ?_
  rintro _ w2 ⟨rfl, hu2⟩
  refine xr 3 rfl ?_
  have hE2 : Ext w w2 := hu1.trans hu2
  have hB3 := hB3'.upd hu2
  have k1 := h1.lt
  have k3 := h3.lt
  have z12 := hu2.size
  obtain ⟨j, hj, hsz⟩ := A.h_TPE
  refine xen [(0, ptrV p), (3, ptrV b3)] ⟨rfl, rfl, trivial⟩ ?_
  have hcmp : ∀ X, Ext w2 X → ∀ (e : Env) (x y : Operand), e.ev x = some (ptrV p) → e.ev y = some (ptrV p) → OpOK P (.bin .neq A.TPF x y) e X (Just (.bool false) X) := by
    intro X hx e x y hex hey
    obtain ⟨Tp, hhp⟩ := h1.upd (hE2.trans hx)
    have := ok_ne_ptr A.h_TPF hj hsz (a := ⟨p, 0, none⟩) (b := ⟨p, 0, none⟩) hex hey hhp hhp
    simpa using this
  refine exec_dwr rfl rfl rfl ?_
  repeat (first | refine wtm rfl rfl rfl ?_ | refine wgt rfl rfl rfl rfl ?_ | refine wgs rfl rfl ?_)
  refine ws_keep (ptrV p) rfl (fun X hx => ok_load1 (b := b3) (o := 0 + 0) rfl ((hB3.upd hx).cell rfl)) ?_
  repeat (first | refine wtm rfl rfl rfl ?_ | refine wgt rfl rfl rfl rfl ?_ | refine wgs rfl rfl ?_)
  refine ws_keep (.bool false) rfl (fun X hx => hcmp X hx _ _ _ rfl rfl) ?_
  repeat (first | refine wtm rfl rfl rfl ?_ | refine wgt rfl rfl rfl rfl ?_ | refine wgs rfl rfl ?_)
  refine ws_gkeep (intV' s.turn) rfl rfl (fun X hx => ok_load1 (b := b3) (o := 0 + 1) rfl ((hB3.upd hx).cell rfl)) ?_
  repeat (first | refine wtm rfl rfl rfl ?_ | refine wgt rfl rfl rfl rfl ?_ | refine wgs rfl rfl ?_)
  refine ws_gkeep (intV' s.turn) rfl rfl (fun X hx => ok_load1 (b := p) (o := 0 + 3) rfl ((h1.upd (hE2.trans hx)).cell rfl)) ?_
  refine ws_fin fun w3 hw3 => ?_
  refine xgr rfl ?_
  refine xpu (pv_neqI (a := s.turn) (b := s.turn) (q := false) rfl rfl (by simp)) rfl ?_
  refine xr 7 rfl ?_
  have hE3 : Ext w w3 := hE2.trans hw3
  have hB33 := hB3.upd hw3
  have h13 := h1.upd hE3
  have hbp : b3 ≠ p := by omega
  refine xen [(0, ptrV p), (3, ptrV b3)] ⟨rfl, rfl, trivial⟩ ?_
  have hE : ∀ a b, Ext a b → TwoSet p (u64V s0.L.length) (.slice ta tl tc) (.map (some m)) (intV' s.turn) (intV' s.turns) a b := fun a b h => TwoSet.ext h
  have hld : ∀ X, TwoSet p (u64V s0.L.length) (.slice ta tl tc) (.map (some m)) (intV' s.turn) (intV' s.turns) w3 X → Blk X b3 (undoC p s.turn s0.turn s0.L.length (.slice ta tl tc) gr cr) := fun X hx => hB33.upd hx.upd (by simpa using hbp)
  refine exec_dr (TwoSet p (u64V s0.L.length) (.slice ta tl tc) (.map (some m)) (intV' s.turn) (intV' s.turns))
    (fun i W => match i with
      | 11 => ∃ y, Blk W p [u64V s0.L.length, y, .map (some m), intV' s.turn, intV' s.turns]
      | 14 => ∃ x, Blk W p [x, .slice ta tl tc, .map (some m), intV' s.turn, intV' s.turns]
      | _ => True) hE (fun a b c h k => h.trans k) ?_ rfl rfl rfl ?_
  · intro i a b hr hf
    match i, hf with
    | 11, hf =>
      obtain ⟨y, hy⟩ := hf
      obtain ⟨x', y', q1, q2, _⟩ := hr.keep _ _ hy
      rw [q2 rfl] at q1
      exact ⟨y', q1⟩
    | 14, hf =>
      obtain ⟨x, hx⟩ := hf
      obtain ⟨x', y', q1, _, q2⟩ := hr.keep _ _ hx
      rw [q2 rfl] at q1
      exact ⟨x', q1⟩
    | 0, _ | 1, _ | 2, _ | 3, _ | 4, _ | 5, _ | 6, _ | 7, _ | 8, _ | 9, _ | 10, _ | 12, _ | 13, _ => trivial
    | n + 15, _ => trivial
  repeat refine wr_tame hE rfl (fun _ => trivial) rfl ?_
  refine wr_ok (u64V s0.L.length) hE (fun _ => trivial) (fun X hx => ok_load1 (b := b3) (o := 0 + 3) rfl ((hld X hx).cell rfl)) ?_
  repeat refine wr_tame hE rfl (fun _ => trivial) rfl ?_
  refine wr_ok (.slice ta tl tc) hE (fun _ => trivial) (fun X hx => ok_load1 (b := b3) (o := 0 + 4) rfl ((hld X hx).cell rfl)) ?_
  repeat refine wr_tame hE rfl (fun _ => trivial) rfl ?_
  refine wr_ok (intV' s0.turn) hE (fun _ => trivial) (fun X hx => ok_load1 (b := b3) (o := 0 + 2) rfl ((hld X hx).cell rfl)) ?_
  repeat refine wr_tame hE rfl (fun _ => trivial) rfl ?_
  refine wr_store p (0 + 0) (u64V s0.L.length) rfl rfl rfl rfl (fun X hx => ?_) ?_
  · obtain ⟨x', y', q1, _, _⟩ := hx.keep _ _ h13
    refine ⟨_, q1, by simp, fun X' hX' hB' => ⟨⟨hX', fun x y hxy => ?_⟩, y', hB'⟩⟩
    have := blk_inj hxy q1
    simp only [List.cons.injEq, and_true] at this
    obtain ⟨rfl, rfl⟩ := this
    exact ⟨_, _, hB', fun _ => rfl, id⟩
  repeat refine wr_tame hE rfl (fun _ => trivial) rfl ?_
  refine wr_store p (0 + 1) (.slice ta tl tc) rfl rfl rfl rfl (fun X hx => ?_) ?_
  · obtain ⟨x', y', q1, _, _⟩ := hx.keep _ _ h13
    refine ⟨_, q1, by simp, fun X' hX' hB' => ⟨⟨hX', fun x y hxy => ?_⟩, x', hB'⟩⟩
    have := blk_inj hxy q1
    simp only [List.cons.injEq, and_true] at this
    obtain ⟨rfl, rfl⟩ := this
    exact ⟨_, _, hB', id, fun _ => rfl⟩
  refine wr_end fun X hx hf => ?_
  obtain ⟨y, hy⟩ : ∃ y, Blk X p [u64V s0.L.length, y, .map (some m), intV' s.turn, intV' s.turns] := hf 11 (by decide)
  obtain ⟨x, hx2⟩ : ∃ x, Blk X p [x, .slice ta tl tc, .map (some m), intV' s.turn, intV' s.turns] := hf 14 (by decide)
  have hxy := blk_inj hy hx2
  simp only [List.cons.injEq, and_true, true_and] at hxy
  obtain ⟨rfl, rfl⟩ := hxy
  clear hx2
  have hB3X := hld X hx
  have hwX : Upd [p] w X := (hE3.mono (m := [p]) (by simp)).trans hx.upd
  refine xr 2 rfl ?_
  refine exec_store (b := p) (o := 0 + 3) (v := intV' s0.turn) rfl rfl hy rfl (by simp) rfl ?_
  intro Y hY _ hBY
  have hBY' : Blk Y p [u64V s0.L.length, .slice ta tl tc, .map (some m), intV' s0.turn, intV' s.turns] := hBY
  clear hBY
  have hwY : Upd [p] w Y := hwX.trans hY
  have hB3Y := hB3X.upd hY (by simpa using hbp)
  refine xr 2 rfl ?_
  refine exec_load1 (b := b3) (o := 0 + 6) rfl rfl (hB3Y.cell rfl) ?_
  refine xr 1 rfl ?_
  refine exec_load1 (b := b3) (o := 0 + 5) rfl rfl (hB3Y.cell rfl) ?_
  refine xca rfl rfl (change_ok A.toForK hBY' (h3.upd hwY (by simp; omega)) (u4.upd hwY (by simp; exact g3)) (u3.upd hwY (by simp; exact g1)) (fun e => g4 e.symm) (fun e => g2 e.symm)) ?_
  rintro _ Z ⟨l2, hM2, hl2, huZ⟩
  refine xr 1 rfl ?_
  have hwZ : Upd [p, m] w Z := (hwY.mono (m := [p, m]) (by simp)).trans huZ
  refine xre hc [_] ⟨rfl, trivial⟩ ⟨rfl, ⟨⟨.slice ta tl tc, l2, hBY'.upd huZ (by simp; exact hne), u2.upd hwZ hfor, hM2, ?_⟩, by show s0.L.length < _; omega, ⟨h6.1, u8⟩⟩, hwZ⟩
  rw [hL] at h4
  exact where_undo h4 u5 u6 hGr hl2
end
end Go.Sp

namespace Go.Sp
/-- the functions of forest, on -/
structure ForR (P : Program) extends ForQ P where
  mclone : Nat
  cloneM : Nat
  copy : Nat
  TIf : Nat
  TCp : Nat
  h_mclone : ∃ fn, P.funcs[mclone]? = some fn ∧ (fn.name == "runtime.NumGoroutine") = false ∧ fn.body.isNone = true ∧ Extern.findNext fn = none ∧ Extern.find fn = some Extern.MapsClone.clone
  h_cloneM : Has P cloneM (b_maps_Clone_map_api_Hashuint64_api_Hash_uint64 mclone TMp TIf)
  h_copy : Has P copy (b_Pforest_Forest_Copy is' cloneT cloneM TCp)
end Go.Sp

namespace Go.Sp
theorem wayCut_last {n : Nat} : ∀ (l : List Nat) (row : Nat) (r : List Nat), wayCut n row l = some r → ∃ row' q, r.getLast? = some q ∧ rootN n row' = some q := by
  intro l
  induction l with
  | nil => intro row r h; cases h
  | cons q l ih =>
    intro row r h
    simp only [wayCut] at h
    split at h
    · cases h
      exact ⟨row, q, rfl, by assumption⟩
    · obtain ⟨r', hr', rfl⟩ := Option.map_eq_some_iff.1 h
      obtain ⟨row', q', h1, h2⟩ := ih _ _ hr'
      refine ⟨row', q', ?_, h2⟩
      rw [List.getLast?_cons, h1]; rfl
theorem rootN_row {n h q : Nat} (hq : rootN n h = some q) : n < 2 ^ 63 ∧ bitN n h = true ∧ rowN q (rowsN n) = some h := by
  unfold rootN at hq
  split at hq
  · rename_i hc
    obtain ⟨h1, h2, h3⟩ := hc
    cases hq
    refine ⟨h1, h3, row_posN (rowsN_le h1) h2 ?_⟩
    have hle := le_rows h1
    have hp : 0 < 2 ^ h := Nat.pow_pos (by omega)
    have e1 : n / 2 ^ h ≤ 2 ^ (rowsN n - h) := by
      have : 2 ^ rowsN n = 2 ^ (rowsN n - h) * 2 ^ h := by rw [← Nat.pow_add]; congr 1; omega
      rw [this] at hle
      exact Nat.div_le_of_le_mul (by rw [Nat.mul_comm]; exact hle)
    have e2 : n / 2 ^ h % 2 = 1 := by simpa [bitN] using h3
    rw [Nat.pow_succ, ← Nat.div_div_eq_div_mul]
    omega
  · cases hq
theorem treeN_bit {n p h : Nat} (ht : treeN n p = some h) : n < 2 ^ 63 ∧ bitN n h = true ∧ wayN n p ≠ [] := by
  unfold treeN at ht
  split at ht
  · cases ht
  · rename_i q hq
    have hne : wayN n p ≠ [] := by intro he; rw [he] at hq; cases hq
    unfold wayN at hq
    split at hq
    · split at hq
      · cases hq
      · rename_i row _
        cases hw : wayCut n row (chainN 64 (rowsN n) p) with
        | none => rw [hw] at hq; cases hq
        | some r =>
          rw [hw] at hq
          obtain ⟨row', q', h1, h2⟩ := wayCut_last _ _ _ hw
          have : q' = q := by
            have h3 : r.getLast? = some q := hq
            rw [h1] at h3; exact Option.some.inj h3
          subst this
          obtain ⟨g1, g2, g3⟩ := rootN_row h2
          rw [g3] at ht; cases ht
          exact ⟨g1, g2, hne⟩
    · cases hq
section
variable {H : Type}
def stepT (t : Option (Tr H)) (q : Nat) : Option (Tr H) := match t with
  | some (.pair _ l r _) => some (if q % 2 = 0 then l else r)
  | _ => none
theorem step_none (l : List Nat) : l.foldl stepT (none : Option (Tr H)) = none := by
  induction l with
  | nil => rfl
  | cons q l ih => exact ih
def nodeN (par : H → H → H) (L : Nat → Option H) (n p : Nat) : Option (Tr H) := match treeN n p with
  | none => none
  | some h => (wayN n p).dropLast.reverse.foldl stepT (buildT par L h (firstN n h))
theorem find_high (par : H → H → H) {L : Nat → Option H} {n h : Nat} (hn : n < 2 ^ 63) (hb : bitN n h = true) (h63 : h < 63) : (treesT par L n).find? (fun t => decide (t.2.2 = h)) = some (buildT par L h (firstN n h), firstN n h, h) := by
  have hm : h ∈ treesN n := (treesN_mem hn).2 ⟨h63, hb⟩
  rw [treesT]
  clear hn hb h63
  generalize treesN n = ks at hm ⊢
  induction ks with
  | nil => simp at hm
  | cons k ks ih =>
    simp only [List.map_cons, List.find?_cons]
    by_cases hk : k = h
    · subst hk; simp
    · simp only [hk, decide_false]
      refine ih ?_
      rcases List.mem_cons.1 hm with h1 | h1
      · exact absurd h1.symm hk
      · exact h1
end
end Go.Sp

namespace Go.Sp
/-- the functions of forest, on -/
structure ForS (P : Program) extends ForR P where
  isLeft : Nat
  back1 : Nat
  back : Nat
  node1 : Nat
  node : Nat
  atF : Nat
  TBk : Nat
  TN1 : Nat
  TNi : Nat
  h_isLeft : Has P isLeft b_pos_IsLeft
  h_back1 : Has P back1 b_slices_Backward_uint64_uint64_1
  h_back : Has P back (b_slices_Backward_uint64_uint64 back1 TBk)
  h_node1 : Has P node1 (b_Pforest_Forest_node_1 TN1)
  h_node : Has P node (b_Pforest_Forest_node nf.tree node1 index nf.way back isLeft TNode TNi)
  h_at : Has P atF (b_Pforest_Forest_At is' node TH TNode)
section
variable {P : Program} {f : Nat} {w : World}
theorem node1_ok (A : ForS P) {bx h : Nat} (hB : Blk w bx [intV' h]) (u : Value) (t : TT Hash) : RetV P A.node1 [.agg #[u, u64V t.2.1, intV' t.2.2], ptrV bx] w (.bool (decide (t.2.2 = h))) := by
  refine Ret.of_exec A.h_node1 (Nat.le_of_ble_eq_true rfl) fun c hc => ?_
  dsimp only [b_Pforest_Forest_node_1, argEnv, ym, yo, yg, ys, yt, yd, ye]
  refine exec_box rfl rfl ?_
  intro b2 w1 hb2 hs1 hu1 hB2
  have hB2' : Blk w1 b2 [u, u64V t.2.1, intV' t.2.2] := by simpa [Value.cells] using hB2
  refine xr 2 rfl ?_
  refine exec_load1 (b := b2) (o := 0 + 2) rfl rfl (hB2'.cell rfl) ?_
  refine exec_load1 (b := bx) (o := 0) rfl rfl ((hB.upd hu1).cell rfl) ?_
  refine xpu (pv_eqlI (a := t.2.2) (b := h) (q := decide (t.2.2 = h)) rfl rfl rfl) rfl ?_
  refine xr 1 rfl ?_
  exact xre hc [_] ⟨rfl, trivial⟩ ⟨rfl, hu1⟩
theorem back_ok (A : ForS P) {v : Value} (hv : ∃ a l c, v = .slice a l c) : Ret P A.back [v] w fun r w' => ∃ bs, r = .func (.func A.back1) #[] #[ptrV bs] ∧ Blk w' bs [v] ∧ bs = w.heap.size ∧ Ext w w' := by
  obtain ⟨a, l, cp, rfl⟩ := hv
  refine Ret.of_exec A.h_back (Nat.le_of_ble_eq_true rfl) fun c hc => ?_
  dsimp only [b_slices_Backward_uint64_uint64, argEnv, ym, yo, yg, ys, yt, yd, ye]
  refine exec_box rfl rfl ?_
  intro b w2 hb hs hu hB
  refine xr 3 rfl ?_
  exact xre hc [_] ⟨rfl, trivial⟩ ⟨b, rfl, hB, hb, hu⟩
set_option maxHeartbeats 1600000 in
theorem node_ok (A : ForS P) {p m : Nat} {s : Fo} (h : FAt w p m s) (x : Nat) (hx : x < 2 ^ 64) : Ret P A.node [ptrV p, u64V x] w fun v w' => OTr w' v (nodeN parH (lv s.L) s.L.length x) ∧ Ext w w' := by
  have hF := h
  have hlen := h.len
  obtain ⟨⟨tv, wl, h1, h2, h3, h4⟩, _⟩ := h
  refine Ret.of_exec A.h_node (Nat.le_of_ble_eq_true rfl) fun c hc => ?_
  dsimp only [b_Pforest_Forest_node, argEnv, ym, yo, yg, ys, yt, yd, ye]
  refine exec_new rfl ?_
  intro b4 w1 hb4 hs1 hu1 hB4
  have hB4' : Blk w1 b4 [.pointer none] := hB4
  clear hB4
  refine xr 3 rfl ?_
  refine exec_load1 (b := p) (o := 0 + 0) rfl rfl ((h1.upd hu1).cell rfl) ?_
  refine xr 1 rfl ?_
  refine xca rfl rfl (tree_ok A.nf.toWayF s.L.length x (by omega) hx) ?_
  rintro _ w2 ⟨rfl, hu2⟩
  rw [optV_eq]
  have hE2 := hu1.trans hu2
  refine xr 3 rfl ?_
  refine exec_new_store (v := intV' ((treeN s.L.length x).getD 0)) rfl rfl rfl rfl rfl rfl ?_
  intro b5 w3 hb5 hs3 hu3 hB5
  have hB5' : Blk w3 b5 [intV' ((treeN s.L.length x).getD 0)] := hB5
  clear hB5
  have hE3 := hE2.trans hu3
  have hB43 := (hB4'.upd hu2).upd hu3
  have z2 := hu2.size
  have z1 := hu1.size
  refine xr 3 rfl ?_
  refine xen [(0, ptrV p), (1, u64V x), (4, ptrV b4), (5, ptrV b5), (22, .bool (!(treeN s.L.length x).isSome))] ⟨rfl, rfl, rfl, rfl, rfl, trivial⟩ ?_
  cases ht : treeN s.L.length x with
  | none =>
    refine exec_cond rfl (fun _ => ?_) (fun hq => by cases hq)
    refine exec_store (b := b4) (o := 0) (v := .pointer none) rfl rfl hB43 rfl (by simp) rfl ?_
    intro w4 hu4 _ hB44
    have hB44' : Blk w4 b4 [.pointer none] := hB44
    refine xre hc [_] ⟨⟨b4, 0, rfl, hB44'.cell rfl⟩, trivial⟩ ⟨?_, hE3.trans hu4 (fun b hb => .inr (by simp at hb; omega))⟩
    rw [nodeN, ht]; rfl
  | some hg =>
    rw [ht] at hB5'
    have hB5h : Blk w3 b5 [intV' hg] := hB5'
    obtain ⟨hn63, hbit, hway⟩ := treeN_bit ht
    have hg63 : hg < 63 := by
      have hle := bitN_le hbit
      have : 0 < 2 ^ hg := Nat.pow_pos (by omega)
      exact pow_lt_imp (by omega)
    refine exec_cond rfl (fun hq => by cases hq) (fun _ => ?_)
    refine xr 4 rfl ?_
    refine exec_load1 (b := p) (o := 0 + 1) rfl rfl ((h1.upd hE3).cell rfl) ?_
    refine xr 1 rfl ?_
    have hlenT := treesT_len parH (L := lv s.L) hn63
    refine xca rfl rfl (indexT_ok A.toForM (h2.ext hE3).own.sl (by omega) A.h_node1.enters (cs := [ptrV b5]) (q := fun t => decide (t.2.2 = hg)) (fun W u t hu _ => node1_ok A (hB5h.upd hu) u t)) ?_
    rintro v4 w4 ⟨hu4, hcase⟩
    have hfh := find_high parH (L := lv s.L) hn63 hbit hg63
    rcases hcase with ⟨_, hno⟩ | ⟨i, t, rfl, hti, hfind⟩
    · have := hno _ (List.mem_of_find?_eq_some hfh)
      simp at this
    rw [hfh] at hfind
    cases hfind
    have hE4 := hE3.trans hu4
    have hil := (List.getElem?_eq_some_iff.1 hti).1
    obtain ⟨us, hR, hO⟩ := h2.own
    obtain ⟨u, hu⟩ : ∃ u, us[i]? = some u := ⟨_, List.getElem?_eq_getElem (by rw [hR.len]; exact hil)⟩
    have hOu := hR.at' i u _ hu hti
    obtain ⟨pu, rfl⟩ := otr_ptr hOu
    obtain ⟨g0, g1, g2⟩ := cellsT_get us _ i _ _ hu hti
    obtain ⟨bt, ot, cap, rfl, hmt, _⟩ := hO.sl.at (by omega)
    have hM1 : Mem w bt (ot + i * 3) [.pointer pu] := hmt.sub (i * 3) (us := [.pointer pu]) (fun k y hk => by
      match k, hk with
      | 0, hk => cases hk; exact g0)
    refine xr 4 rfl ?_
    refine exec_load1 (b := p) (o := 0 + 1) rfl rfl ((h1.upd hE4).cell rfl) ?_
    refine xr 1 rfl ?_
    refine xju (ok_iaddr (N := 3) (b := bt) (o := ot) rfl rfl i rfl hil) rfl ?_
    refine xr 1 rfl ?_
    refine exec_load1 (b := bt) (o := ot + i * 3 + 0) (v := .pointer pu) rfl rfl ((hM1.upd hE4 (by simp)) 0 _ rfl) ?_
    refine exec_new_store (v := .pointer pu) rfl rfl rfl rfl rfl rfl ?_
    intro b8 w5 hb8 hs5 hu5 hB8
    have hB8' : Blk w5 b8 [.pointer pu] := hB8
    clear hB8
    have hE5 := hE4.trans hu5
    refine xr 3 rfl ?_
    refine exec_load1 (b := p) (o := 0 + 0) rfl rfl ((h1.upd hE5).cell rfl) ?_
    refine xr 1 rfl ?_
    refine xca rfl rfl (way_ok A.nf.toWayF s.L.length x (by omega) hx) ?_
    rintro wv w6 ⟨hO6, hu6, hf6⟩
    have hE6 := hE5.trans hu6
    refine xtm rfl rfl rfl ?_
    refine xtm rfl rfl rfl ?_
    refine xtm rfl rfl rfl ?_
    refine xpu (hO6.sl.lenS rfl) rfl ?_
    have hw0 : 0 < (wayN s.L.length x).length := List.length_pos_iff.2 hway
    have hw65 := wayN_length s.L.length x
    refine xpu (pv_subI (a := (wayN s.L.length x).length) (b := 1) rfl rfl (by omega) (by omega)) rfl ?_
    refine xju (ok_slSd (N := 1) (len := (wayN s.L.length x).length) none (some (.tmp 46)) 0 ((wayN s.L.length x).length - 1) rfl hO6.sl rfl ⟨.i64, rfl⟩ (Nat.zero_le _) (by omega)) rfl ?_
    have hsub := subV_sl hO6.sl (Nat.zero_le ((wayN s.L.length x).length - 1)) (show (wayN s.L.length x).length - 1 ≤ (wayN s.L.length x).length by omega)
    have hcs : (((wayN s.L.length x).map u64V).take (((wayN s.L.length x).length - 1) * 1)).drop (0 * 1) = (wayN s.L.length x).dropLast.map u64V := by
      simp only [Nat.mul_one, Nat.zero_mul, List.drop_zero]
      rw [← List.map_take, List.dropLast_eq_take]
    rw [hcs, Nat.sub_zero] at hsub
    have hdl : (wayN s.L.length x).dropLast.length = (wayN s.L.length x).length - 1 := List.length_dropLast
    rw [← hdl] at hsub ⊢
    generalize hsv : subV wv 1 0 (wayN s.L.length x).dropLast.length = sv at hsub
    have hbl : ∀ b ∈ blkOf sv, w5.heap.size ≤ b ∧ b < w6.heap.size := by
      intro b hb
      have hbw : b ∈ blkOf wv := by
        rw [← hsv] at hb
        rcases hO6 with ⟨rfl, _⟩ | ⟨b', cap', rest', rfl, _⟩
        · simp [subV, blkOf] at hb
        · simp only [subV, blkOf] at hb ⊢
          split at hb <;> simpa using hb
      exact ⟨hf6 b hbw, hO6.lt b hbw⟩
    refine xca rfl rfl (back_ok A (by rcases hsub with ⟨rfl | ⟨_, _, _, _, rfl⟩, _⟩ | ⟨_, _, _, rfl, _⟩ <;> exact ⟨_, _, _, rfl⟩)) ?_
    rintro _ w7 ⟨bs, rfl, hBs, hbs, hu7⟩
    have hE7 := hE6.trans hu7
    have hB47 := ((((hB43.upd hu4).upd hu5).upd hu6).upd hu7)
    have hB87 := (hB8'.upd hu6).upd hu7
    have hO7 : OTr w7 (.pointer pu) (buildT parH (lv s.L) hg (firstN s.L.length hg)) := hOu.ext hE7
    have z5 := hE5.size
    have z67 := hu7.size
    have z56 := hu6.size
    have k4 := hB43.lt
    have z34 := hu4.size
    have z45 := hu5.size
    have hb48 : b4 ≠ b8 := by omega
    refine xen [(0, ptrV p), (4, ptrV b4), (8, ptrV b8), (48, .func (.func A.back1) #[] #[ptrV bs])] ⟨rfl, rfl, rfl, rfl, trivial⟩ ?_
    refine xbk ?_
    have hxl : ((wayN s.L.length x).dropLast.zipIdx.map (fun p : Nat × Nat => (p.2, p.1))).reverse.map Prod.snd = (wayN s.L.length x).dropLast.reverse := by
      rw [List.map_reverse, List.map_map]
      congr 1
      apply List.ext_getElem?
      intro k
      simp only [List.getElem?_map, List.getElem?_zipIdx, Option.map_map]
      cases (wayN s.L.length x).dropLast[k]? <;> rfl
    generalize hxs : ((wayN s.L.length x).dropLast.zipIdx.map (fun p : Nat × Nat => (p.2, p.1))).reverse = xs at hxl
    have hx64 : ∀ (i : Nat) (q : Nat × Nat), xs[i]? = some q → q.2 < 2 ^ 64 := by
      intro i q hq
      have : q.2 ∈ (wayN s.L.length x).dropLast.reverse := by rw [← hxl]; exact List.mem_map.2 ⟨q, List.mem_of_getElem? hq, rfl⟩
      rw [List.mem_reverse] at this
      exact wayN_lt hx _ (List.dropLast_subset _ this)
    refine exec_rangeF (S := Value) (e := [(0, ptrV p), (4, ptrV b4), (8, ptrV b8), (48, .func (.func A.back1) #[] #[ptrV bs])]) rfl A.h_back1.enters hc.rd (bs :: blkOf sv) [] (fun q : Nat × Nat => [intV' q.1, u64V q.2]) xs
      (fun W hu => by rw [← hxs]; exact backward1_ok A.h_back1 (hBs.upd hu) ((hsub.upd hu7 (by simp)).upd hu (by simp)) (by rw [hdl]; omega) (fun b hb => by have := (hbl b hb).2; have := hu.size; omega))
      (fun q => u64V q.2) (fun _ => rfl) rfl
      w7.heap.size [b4, b8] (fun _ => [])
      (fun k u W => k ≤ xs.length ∧ Upd [b4, b8] w7 W ∧ Blk W b4 [.pointer none] ∧ Blk W b8 [u] ∧ OTr w7 u (((xs.take k).map Prod.snd).foldl stepT (buildT parH (lv s.L) hg (firstN s.L.length hg))))
      (fun cd _ W => cd = none ∧ Upd [b4, b8] w7 W ∧ Blk W b4 [.pointer none] ∧ (xs.map Prod.snd).foldl stepT (buildT parH (lv s.L) hg (firstN s.L.length hg)) = none) (.pointer pu) ?_ ?_ ?_ ?_ ?_ ?_ ?_ (fun _ => rfl) rfl ?_ ?_ ?_
    · rintro k u W W' l' ⟨q1, q2, q3, q4, q5⟩ hu hb
      have n4 : b4 ∉ l' := fun hm => by have := (hb _ hm).1; omega
      have n8 : b8 ∉ l' := fun hm => by have := (hb _ hm).1; omega
      exact ⟨q1, q2.trans hu (fun b hb' => .inr (hb b hb').1), q3.upd hu n4, q4.upd hu n8, q5⟩
    · rintro cd u W W' l' ⟨q1, q2, q3, q4⟩ hu hb
      have n4 : b4 ∉ l' := fun hm => by have := (hb _ hm).1; omega
      exact ⟨q1, q2.trans hu (fun b hb' => .inr (hb b hb').1), q3.upd hu n4, q4⟩
    · exact ⟨Nat.zero_le _, Upd.refl _ _, hB47, hB87, hO7⟩
    · exact Nat.le_refl _
    · intro b hb; simp at hb; omega
    · simp
    · intro b hb
      rcases List.mem_cons.1 hb with rfl | hb
      · exact ⟨hBs.lt, by simp; omega, by simp⟩
      · have := hbl b hb; exact ⟨by omega, by simp; omega, by simp⟩
    · rintro l c' k u W q hc' ⟨q1, q2, q3, q4, q5⟩ hq hlw hnw
      have htk : xs.take (k + 1) = xs.take k ++ [q] := by rw [List.take_add_one, hq]; rfl
      have hkl := (List.getElem?_eq_some_iff.1 hq).1
      have hq64 := hx64 k q hq
      have hno : NoNode w7 [b4, b8] := fun b hb cs hcs => by
        simp only [List.mem_cons, List.not_mem_nil, or_false] at hb
        rcases hb with rfl | rfl
        · rw [blk_inj hcs hB47]; rintro ⟨h, _⟩; simp at h
        · rw [blk_inj hcs hB87]; rintro ⟨h, _⟩; simp at h
      have q5W := q5.upd q2 hno
      have hfold : (xs.map Prod.snd).foldl stepT (buildT parH (lv s.L) hg (firstN s.L.length hg)) = ((xs.drop (k + 1)).map Prod.snd).foldl stepT (stepT (((xs.take k).map Prod.snd).foldl stepT (buildT parH (lv s.L) hg (firstN s.L.length hg))) q.2) := by
        conv => lhs; rw [← List.take_append_drop (k + 1) xs, htk]
        simp only [List.map_append, List.foldl_append, List.map_cons, List.map_nil, List.foldl_cons, List.foldl_nil]
      have hnext : ((xs.take (k + 1)).map Prod.snd).foldl stepT (buildT parH (lv s.L) hg (firstN s.L.length hg)) = stepT (((xs.take k).map Prod.snd).foldl stepT (buildT parH (lv s.L) hg (firstN s.L.length hg))) q.2 := by
        rw [htk]; simp only [List.map_append, List.foldl_append, List.map_cons, List.map_nil, List.foldl_cons, List.foldl_nil]
      have k4' := q3.lt
      have k8' := q4.lt
      refine xbk ?_
      obtain ⟨pz, rfl⟩ := otr_ptr q5
      refine exec_load1 (b := b8) (o := 0) rfl rfl (q4.cell rfl) ?_
      have dead : stepT (((xs.take k).map Prod.snd).foldl stepT (buildT parH (lv s.L) hg (firstN s.L.length hg))) q.2 = none → ∀ (e : Env) (is : List Ins) (K : Kont) (X : World), e.get 4 = some (ptrV b4) → Ext W X → K.unwind 0 = none ∨ True → Exec P 71 c' [] (.op none none (.store 1 (.tmp 4) (.const (.pointer none))) :: .ret :: is) K e X := by
        intro hz e is K X h4e hX _
        refine exec_store (b := b4) (o := 0) (v := .pointer none) h4e rfl (q3.upd hX) rfl (by simp) rfl ?_
        intro Y hY _ hBY
        have hWY : Upd [b4, b8] W Y := (hX.mono (m := [b4, b8]) (by simp)).trans hY (by simp)
        refine exec_round_ret hc' ⟨.pointer none, ⟨rfl, q2.trans hWY (by simp), hBY, ?_⟩, by simpa using hWY, by simp, by simp⟩
        rw [hfold, hz, step_none]
      generalize hgt : ((xs.take k).map Prod.snd).foldl stepT (buildT parH (lv s.L) hg (firstN s.L.length hg)) = tz at *
      cases tz with
      | none =>
        have : pz = none := by have : Value.pointer pz = .pointer none := q5; cases this; rfl
        subst this
        refine xju (ok_eq_nil A.h_TNode rfl rfl) rfl ?_
        refine xr 8 rfl ?_
        exact dead rfl _ _ _ _ rfl (Upd.refl _ _) (.inr trivial)
      | some tr =>
        cases tr with
        | leaf hh =>
          obtain ⟨bn, he, hBn⟩ := q5W
          cases he
          refine xju (ok_eq_nil A.h_TNode rfl rfl) rfl ?_
          refine xr 2 rfl ?_
          refine exec_load1 (b := b8) (o := 0) rfl rfl (q4.cell rfl) ?_
          refine xr 5 rfl ?_
          refine exec_load1 (b := bn) (o := 0 + 32) rfl rfl (node_cell0 hBn).2.1 ?_
          refine xgr rfl ?_
          refine xju (ok_eq_nil A.h_TNode rfl rfl) rfl ?_
          refine xr 2 rfl ?_
          exact dead rfl _ _ _ _ rfl (Upd.refl _ _) (.inr trivial)
        | pair hh l r mid =>
          have q5' := q5
          obtain ⟨bn, vl, vr, he, hBn0, hm62, hl0, hr0⟩ := q5'
          obtain ⟨bn', vl', vr', he', hBn, _, hl, hr⟩ := q5W
          cases he
          cases he'
          have := blk_inj (hBn0.upd q2 (fun hm => hno _ hm _ hBn0 ⟨by simp [hC_length], hC_head _ _⟩)) hBn
          have hvv : vl = vl' ∧ vr = vr' := by
            have := List.append_cancel_left this
            simpa using this
          obtain ⟨rfl, rfl⟩ := hvv
          obtain ⟨bl, _, _, _, rfl, _⟩ := TrAt.node hl0
          obtain ⟨br, _, _, _, rfl, _⟩ := TrAt.node hr0
          refine xju (ok_eq_nil A.h_TNode rfl rfl) rfl ?_
          refine xr 2 rfl ?_
          refine exec_load1 (b := b8) (o := 0) rfl rfl (q4.cell rfl) ?_
          refine xr 5 rfl ?_
          refine exec_load1 (b := bn) (o := 0 + 32) rfl rfl (node_cell0 hBn).2.1 ?_
          refine xgr rfl ?_
          refine xju (ok_eq_nil A.h_TNode rfl rfl) rfl ?_
          refine xr 4 rfl ?_
          refine xca rfl rfl (isLeft_ok A.h_isLeft q.2 hq64) ?_
          rintro _ W2 ⟨rfl, hW2⟩
          have q42 := q4.upd hW2
          have hBn2 := hBn.upd hW2
          have k82 := hW2.size
          have fin : ∀ (vz : Value) (tz : Tr Hash) (Y : World), Upd [b8] W2 Y → Blk Y b8 [vz] → TrAt w7 vz tz → stepT (some (Tr.pair hh l r mid)) q.2 = some tz → ∀ e, Exec P 71 c' [] [] .done e Y := by
            intro vz tz Y hY hBY hvz hstep e
            have hWY : Upd [b4, b8] W Y := (hW2.mono (m := [b4, b8]) (by simp)).trans hY (by simp)
            refine exec_round_end hc' ⟨vz, ⟨hkl, q2.trans hWY (by simp), (q3.upd hW2).upd hY (by simpa using hb48), hBY, ?_⟩, by simpa using hWY, by simp, by simp⟩
            rw [hnext, hstep]; exact hvz
          by_cases hev : q.2 % 2 = 0
          · simp only [hev, decide_true]
            refine xr 1 rfl ?_
            refine exec_load1 (b := b8) (o := 0) rfl rfl (q42.cell rfl) ?_
            refine xr 2 rfl ?_
            refine exec_load1 (b := bn) (o := 0 + 32) rfl rfl (node_cell0 hBn2).2.1 ?_
            refine exec_store (b := b8) (o := 0) (v := ptrV bl) rfl rfl q42 rfl (by simp) rfl ?_
            intro Y hY _ hBY
            refine xr 3 rfl ?_
            exact fin (ptrV bl) l Y hY hBY hl0 (by simp [stepT, hev]) _
          · simp only [hev, decide_false]
            refine xr 1 rfl ?_
            refine exec_load1 (b := b8) (o := 0) rfl rfl (q42.cell rfl) ?_
            refine xr 2 rfl ?_
            refine exec_load1 (b := bn) (o := 0 + 33) rfl rfl (node_cell0 hBn2).2.2.1 ?_
            refine exec_store (b := b8) (o := 0) (v := ptrV br) rfl rfl q42 rfl (by simp) rfl ?_
            intro Y hY _ hBY
            refine xr 3 rfl ?_
            exact fin (ptrV br) r Y hY hBY hr0 (by simp [stepT, hev]) _
    · rintro D0 u W hD ⟨q1, q2, q3, q4, q5⟩ hsh hnl
      rw [List.take_length, hxl] at q5
      refine xr 2 rfl ?_
      refine exec_load1 (b := b8) (o := 0) rfl rfl (q4.cell rfl) ?_
      obtain ⟨pz, rfl⟩ := otr_ptr q5
      refine exec_store (b := b4) (o := 0) (v := .pointer pz) rfl rfl q3 rfl (by simp) rfl ?_
      intro Y hY _ hBY
      have hBY' : Blk Y b4 [.pointer pz] := hBY
      have hD4 : D0 ≠ b4 := by omega
      have hsh' : Y.heap[D0]? = some (.deferred (some [])) := (hY.block D0 (Array.getElem?_eq_some_iff.1 hsh).1 (by simp; omega)).trans hsh
      refine exec_returnM hc [D0] rfl (by simp) (fun r hr => by simp at hr; subst hr; exact hsh') [.pointer pz] fun W' hu' hs' => ?_
      have h7W : Upd [b4, b8] w7 W' := (q2.trans hY).trans hu' (fun b hb => .inr (by simp at hb; omega))
      refine ⟨⟨⟨b4, 0, rfl, (hBY'.upd hu' (by simp; omega)).cell rfl⟩, trivial⟩, ?_, hE7.trans h7W (fun b hb => .inr (by simp at hb; omega))⟩
      rw [nodeN, ht]
      exact q5.upd h7W (fun b hb cs hcs => by
        simp only [List.mem_cons, List.not_mem_nil, or_false] at hb
        rcases hb with rfl | rfl
        · rw [blk_inj hcs hB47]; rintro ⟨h, _⟩; simp at h
        · rw [blk_inj hcs hB87]; rintro ⟨h, _⟩; simp at h)
    · rintro cd D0 u W hD ⟨rfl, q2, q3, q4⟩ hsh hnl
      have hD4 : D0 ≠ b4 := by omega
      refine exec_returnM hc [D0] rfl (by simp) (fun r hr => by simp at hr; subst hr; exact hsh) [.pointer none] fun W' hu' hs' => ?_
      have h7W : Upd [b4, b8] w7 W' := q2.trans hu' (fun b hb => .inr (by simp at hb; omega))
      refine ⟨⟨⟨b4, 0, rfl, (q3.upd hu' (by simp; omega)).cell rfl⟩, trivial⟩, ?_, hE7.trans h7W (fun b hb => .inr (by simp at hb; omega))⟩
      rw [nodeN, ht]
      rw [hxl] at q4
      show OTr W' _ (List.foldl stepT _ _)
      rw [q4]; rfl
def hZ : Hash := ⟨List.replicate 32 0, rfl⟩
theorem at_ok (A : ForS P) {p m : Nat} {s : Fo} (h : FAt w p m s) (x : Nat) (hx : x < 2 ^ 64) :
    RetV P A.atF [ptrV p, u64V x] w (.tuple #[hV (((nodeN parH (lv s.L) s.L.length x).map Tr.hash).getD hZ), .bool (nodeN parH (lv s.L) s.L.length x).isSome]) := by
  refine Ret.of_exec A.h_at (Nat.le_of_ble_eq_true rfl) fun c hc => ?_
  dsimp only [b_Pforest_Forest_At, argEnv, ym, yo, yg, ys, yt, yd, ye]
  refine exec_new rfl ?_
  intro b4 w1 hb4 hs1 hu1 hB4
  have hB4' : Blk w1 b4 (hC hZ) := hB4
  clear hB4
  refine xr 2 rfl ?_
  refine xca rfl rfl (is_ok A.toForJ (h.ext hu1)) ?_
  rintro _ w2 ⟨rfl, hu2⟩
  refine xr 5 rfl ?_
  have hE2 := hu1.trans hu2
  refine xca rfl rfl (node_ok A (h.ext hE2) x hx) ?_
  rintro v w3 ⟨hO, hu3⟩
  have hE3 := hE2.trans hu3
  have hB43 := (hB4'.upd hu2).upd hu3
  have z1 := hE3.size
  generalize hnn : nodeN parH (lv s.L) s.L.length x = o at *
  refine xr 2 rfl ?_
  cases o with
  | none =>
    have : v = .pointer none := hO
    subst this
    refine xju (ok_eq_nil A.h_TNode rfl rfl) rfl ?_
    refine xr 1 rfl ?_
    refine xju (ok_mkL (l := []) (cs := hC hZ) rfl rfl) rfl ?_
    refine exec_store (b := b4) (o := 0) (v := hV hZ) rfl rfl hB43 (hV_size _) (by rw [hC_length]; omega) (by rw [hV_cells]; exact hC_cell _) ?_
    intro w4 hu4 _ hB44
    rw [hV_cells, splice_all (by simp [hC_length])] at hB44
    refine xr 1 rfl ?_
    exact xre hc [hV hZ, _] ⟨⟨b4, 0, hC hZ, rfl, hB44.memAll, hC_length _, rfl⟩, rfl, trivial⟩ ⟨rfl, hE3.trans hu4 (fun b hb => .inr (by simp at hb; omega))⟩
  | some t =>
    obtain ⟨bn, _, _, _, rfl, hBn⟩ := TrAt.node hO
    refine xju (ok_eq_nil A.h_TNode rfl rfl) rfl ?_
    refine xr 5 rfl ?_
    refine exec_loadN (b := bn) (o := 0 + 0) (vs := hC t.hash) rfl rfl (node_cell0 hBn).1 (hC_length _) ?_
    refine exec_store (b := b4) (o := 0) (v := hV t.hash) rfl rfl hB43 (hV_size _) (by rw [hC_length]; omega) (by rw [hV_cells]; exact hC_cell _) ?_
    intro w4 hu4 _ hB44
    rw [hV_cells, splice_all (by simp [hC_length])] at hB44
    refine xr 1 rfl ?_
    exact xre hc [hV t.hash, _] ⟨⟨b4, 0, hC t.hash, rfl, hB44.memAll, hC_length _, rfl⟩, rfl, trivial⟩ ⟨rfl, hE3.trans hu4 (fun b hb => .inr (by simp at hb; omega))⟩
end
end Go.Sp
