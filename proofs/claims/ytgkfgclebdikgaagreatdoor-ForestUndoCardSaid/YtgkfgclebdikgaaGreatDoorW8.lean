/- spinneylaw14.ForestUndo returns true for every input, and its arguments read afterwards as before: the card. No condition. This text: part 8 of 9. -/
import Derived.Test.YtgkfgclebdikgaaGreatDoorW7
set_option linter.unusedVariables false
set_option linter.unusedSimpArgs false
set_option linter.unusedSectionVars false
namespace Go.Sp
/-- one's own slice; what lies behind its length is of the kind Zr -/
def OwnR (Zr : Value → Prop) (w : World) (v : Value) (N len : Nat) (cs : List Value) : Prop :=
  (v = .slice none 0 0 ∧ len = 0 ∧ cs = []) ∨ ∃ b cap rest, v = .slice (some ⟨b, 0, none⟩) len cap ∧ Blk w b (cs ++ rest) ∧ cs.length = len * N ∧ (cs ++ rest).length = cap * N ∧ len ≤ cap ∧ ∀ x ∈ rest, Zr x
theorem OwnR.own {Zr : Value → Prop} {w : World} {v : Value} {N len : Nat} {cs : List Value} (h : OwnR Zr w v N len cs) : OwnC w v N len cs := by
  rcases h with h | ⟨b, cap, rest, h1, h2, h3, h4, h5, _⟩
  · exact .inl h
  · exact .inr ⟨b, cap, rest, h1, h2, h3, h4, h5⟩
theorem OwnR.upd {Zr : Value → Prop} {l : List Nat} {w w' : World} {v : Value} {N len : Nat} {cs : List Value} (h : OwnR Zr w v N len cs) (hu : Upd l w w') (hb : ∀ b ∈ blkOf v, b ∉ l) : OwnR Zr w' v N len cs := by
  rcases h with h | ⟨b, cap, rest, rfl, h2, h3, h4, h5, h6⟩
  · exact .inl h
  · exact .inr ⟨b, cap, rest, rfl, h2.upd hu (hb b (by simp [blkOf])), h3, h4, h5, h6⟩
theorem mem_zeroCells {z : Array Value} {m : Nat} {x : Value} (h : x ∈ Builtin.zeroCells z m) : x ∈ z := by
  simp only [Builtin.zeroCells] at h
  simp at h
  obtain ⟨i, h1, h2⟩ := h
  have hz : 0 < z.size := by
    rcases Nat.eq_zero_or_pos z.size with h0 | h0
    · rw [h0] at h1; omega
    · exact h0
  have hlt := Nat.mod_lt i hz
  rw [getElem!_pos z (i % z.size) hlt] at h2
  rw [← h2]
  exact Array.getElem_mem hlt
section
variable {P : Program} {n : Nat} {c : Ctx} {D : List Deferred} {is : List Ins} {k : Kont} {e : Env} {w : World}
/-- append: onto a slice of one's own whose spare cells are known -/
theorem ok_appendR {Zr : Value → Prop} {T : TypeId} {N bytes : Nat} {z : Array Value} {s x : Operand} {sv xv : Value} {l1 l2 : Nat} {cs1 cs2 : List Value} (hs : e.ev s = some sv) (hx : e.ev x = some xv)
    (h1 : OwnR Zr w sv N l1 cs1) (h2 : SlC w xv N l2 cs2) (hz : z.size = N) (hzr : ∀ x ∈ z, Zr x) (hb0 : 0 < bytes) (hb : (2 * (l1 + l2) + 192) * bytes ≤ 2 ^ 48) (hcv : cs2.all cellValue = true) :
    OpOK P (.append T N bytes z s x) e w fun v W => OwnR Zr W v N (l1 + l2) (cs1 ++ cs2) ∧ Upd (blkOf sv) w W ∧ (∀ b ∈ blkOf v, b ∈ blkOf sv ∨ w.heap.size ≤ b) ∧ (∀ b ∈ blkOf v, b < W.heap.size) := by
  intro a hk rd d next Q hn
  simp only [MOp.sem, Env.ok_ev hk hs, Env.ok_ev hk hx, Sem.run_bind]
  suffices ∃ v W, (appendTo T N bytes z sv xv).run P w = .ok v W ∧ OwnR Zr W v N (l1 + l2) (cs1 ++ cs2) ∧ Upd (blkOf sv) w W ∧ (∀ b ∈ blkOf v, b ∈ blkOf sv ∨ w.heap.size ≤ b) by
    obtain ⟨v, W, hr, h3, h4, h5⟩ := this
    simp only [hr, Result.andThen_ok, Sem.run_pure]
    exact hn v W ⟨h3, h4, h5, h3.own.lt⟩
  have hc2 := h2.len
  have hc1 := h1.own.len
  have fit : ∀ (base : Option Addr) (cap : Nat), sv = .slice base l1 cap → l1 + l2 ≤ cap → (∀ a, base = some a → a.spot = none) → ∃ v W, (appendTo T N bytes z sv xv).run P w = .ok v W ∧ OwnR Zr W v N (l1 + l2) (cs1 ++ cs2) ∧ Upd (blkOf sv) w W ∧ (∀ b ∈ blkOf v, b ∈ blkOf sv ∨ w.heap.size ≤ b) := by
    intro base cap hsv hle hsp
    subst hsv
    rcases h1 with ⟨h, h', h''⟩ | ⟨b, cap', rest, hv, hB, hl, hl2, hcap, hrr⟩
    · cases h
      have : l2 = 0 := by omega
      subst this
      refine ⟨.slice none 0 0, w, ?_, .inl ⟨by simp, by simp, ?_⟩, Upd.refl _ _, by simp [blkOf]⟩
      · simp [appendTo, lenOf_run h2, firstCells_run (m := 0) h2 (by omega)]
      · have : cs2 = [] := List.length_eq_zero_iff.1 (by rw [hc2]; simp)
        simp [h'', this]
    · cases hv
      have hN : (l1 + l2) * N ≤ cap * N := Nat.mul_le_mul_right _ hle
      have hN' : (l1 + l2) * N = l1 * N + l2 * N := Nat.add_mul _ _ _
      obtain ⟨W, hr, hu, hsz, hB'⟩ := storeCells_run (P := P) (o := l1 * N) cs2 0 w (cs1 ++ rest) hB (by rw [hl2, hc2]; omega) hcv
      have e1 : splice (cs1 ++ rest) (l1 * N + 0) cs2 = cs1 ++ cs2 ++ rest.drop (l2 * N) := by
        have t1 : (cs1 ++ rest).take (l1 * N) = cs1 := by rw [← hc1]; simp
        have t2 : (cs1 ++ rest).drop (l1 * N + l2 * N) = rest.drop (l2 * N) := by rw [← hc1]; rw [List.drop_append]; simp
        simp only [splice, Nat.add_zero, hc2, t1, t2]
      rw [e1] at hB'
      have ht : cs2.take (l2 * N) = cs2 := List.take_of_length_le (by omega)
      refine ⟨.slice (some ⟨b, 0, none⟩) (l1 + l2) cap, W, ?_, .inr ⟨b, cap, rest.drop (l2 * N), rfl, hB', by simp [hc1, hc2, hN'], ?_, hle, fun x hx => hrr x (List.mem_of_mem_drop hx)⟩, hu, by simp [blkOf]⟩
      · simp only [appendTo, Sem.run_bind, lenOf_run h2, Result.andThen_ok, hle, if_true, Sem.run_pure, firstCells_run h2 (Nat.le_refl _), ht, add_mk, Nat.zero_add, hr]
      · simp only [List.length_append, List.length_drop] at hl2 ⊢
        omega
  have grow : ∀ (base : Option Addr) (cap : Nat), sv = .slice base l1 cap → ¬ l1 + l2 ≤ cap → ∃ v W, (appendTo T N bytes z sv xv).run P w = .ok v W ∧ OwnR Zr W v N (l1 + l2) (cs1 ++ cs2) ∧ Upd (blkOf sv) w W ∧ (∀ b ∈ blkOf v, b ∈ blkOf sv ∨ w.heap.size ≤ b) := by
    intro base cap hsv hle
    have hcapn := nextslicecap_le (need := l1 + l2) (cap := cap) (by omega)
    have hbb : ¬ Builtin.nextslicecap (l1 + l2) cap * bytes > 2 ^ 48 := by
      have := Nat.mul_le_mul_right bytes hcapn
      omega
    have hb1 : ¬ bytes = 0 := by omega
    obtain ⟨nc, hnc⟩ : ∃ nc, Question.cut (.appendCap (l1 + l2) cap T) (w.tape w.drawn (.appendCap (l1 + l2) cap T)) = nc := ⟨_, rfl⟩
    have hge : l1 + l2 ≤ nc := by rw [← hnc]; simp [Question.cut]
    have hf1 := firstCells_run (P := P) (m := l1) h1.own.sl (Nat.le_refl _)
    have hf2 := firstCells_run (P := P) (m := l2) h2 (Nat.le_refl _)
    have t1 : cs1.take (l1 * N) = cs1 := List.take_of_length_le (by omega)
    have t2 : cs2.take (l2 * N) = cs2 := List.take_of_length_le (by omega)
    have hd1 : SlC w.drew sv N l1 cs1 := h1.own.sl.upd (Upd.drew [] w _) (by simp)
    have hd2 : SlC w.drew xv N l2 cs2 := h2.upd (Upd.drew [] w _) (by simp)
    have hf1 := firstCells_run (P := P) (m := l1) hd1 (Nat.le_refl _)
    have hf2 := firstCells_run (P := P) (m := l2) hd2 (Nat.le_refl _)
    rw [t1] at hf1
    rw [t2] at hf2
    subst hsv
    obtain ⟨ZL, hZ⟩ : ∃ l : List Value, Builtin.zeroCells z (nc - (l1 + l2)) = l.toArray := ⟨_, Array.toArray_toList.symm⟩
    have hZl : ZL.length = (nc - (l1 + l2)) * N := by
      have : (Builtin.zeroCells z (nc - (l1 + l2))).size = ZL.length := by rw [hZ]; simp
      rw [← this]; simp [Builtin.zeroCells, hz]
    have hrun : (appendTo T N bytes z (.slice base l1 cap) xv).run P w = .ok (.slice (some ⟨w.heap.size, 0, none⟩) (l1 + l2) nc) (w.drew.alloc (.cells (cs1 ++ cs2 ++ ZL).toArray T)) := by
      simp only [appendTo, Sem.run_bind, lenOf_run h2, Result.andThen_ok, hle, if_false, Sem.run_pure, hb1, and_false, hbb, Sem.run_ite]
      simp [hnc, Question.forced, hf1, hf2, newRow, hZ]
    refine ⟨_, _, hrun, .inr ⟨w.heap.size, nc, ZL, rfl, ?_, by simp [hc1, hc2, Nat.add_mul], ?_, hge, ?_⟩, ?_, by simp [blkOf]⟩
    · exact alloc_blk w.drew (cs1 ++ cs2 ++ ZL) T
    · have e3 : nc * N = (l1 + l2) * N + (nc - (l1 + l2)) * N := by rw [← Nat.add_mul]; congr 1; omega
      simp [hc1, hc2, hZl, e3, Nat.add_mul]; omega
    · intro x hx
      refine hzr x (mem_zeroCells (m := nc - (l1 + l2)) ?_)
      rw [hZ]; simpa using hx
    · exact ((Upd.drew [] w _).trans (Upd.alloc [] _ _)).mono (by simp)
  rcases h1 with ⟨h, h', h''⟩ | ⟨b, cap', rest, hv, hB, hl, hl2, hcap, hrr⟩
  · by_cases hle : l1 + l2 ≤ 0
    · exact fit none 0 (by rw [h, h']) hle (by simp)
    · exact grow none 0 (by rw [h, h']) hle
  · by_cases hle : l1 + l2 ≤ cap'
    · exact fit _ cap' hv hle (by simp)
    · exact grow _ cap' hv hle
end
end Go.Sp

namespace Go.Sp
/-- a block that begins with a pointer and goes on with no place -/
def PtrBlk (w : World) (b : Nat) : Prop := ∃ a cs, Blk w b (.pointer a :: cs) ∧ ∀ n, cs[0]? ≠ some (.int .u64 n)
theorem PtrBlk.strange {w : World} {b : Nat} (h : PtrBlk w b) : ∀ cs, Blk w b cs → Strange cs := by
  obtain ⟨a, cs, hB, hn⟩ := h
  refine Foreign.blk hB ⟨?_, ?_⟩
  · rintro ⟨_, n, h⟩
    simp at h
  · rintro ⟨_, n, h⟩
    exact hn n (by simpa using h)
theorem PtrBlk.foreign {w : World} {l : List Nat} (h : ∀ b ∈ l, PtrBlk w b) : Foreign w l := fun b hb => (h b hb).strange
theorem PtrBlk.map {w : World} {b r : Nat} {α β : Type} {enc : α → Value} {encV : β → Value} {l : List (α × β)} (h : PtrBlk w b) (hm : MapAt w r enc encV l) : r ≠ b := by
  rintro rfl
  obtain ⟨a, cs, ⟨T, h2⟩, _⟩ := h
  obtain ⟨es, clock, h1, _⟩ := hm
  rw [h1] at h2; cases h2
theorem FAt.updQ {l : List Nat} {w w' : World} {p m : Nat} {s : Fo} (h : FAt w p m s) (hu : Upd l w w') (hl : ∀ b ∈ l, PtrBlk w b) : FAt w' p m s := by
  have h0 := h
  obtain ⟨⟨tv, wl, h1, h2, h3, h4⟩, h5, h6⟩ := h
  obtain ⟨ta, tl, tc, rfl⟩ := h2.own.val
  refine h0.upd hu (PtrBlk.foreign hl) (fun hb => ?_) (fun hb => (hl _ hb).map h3 rfl)
  obtain ⟨a, cs, hB, _⟩ := hl _ hb
  have := blk_inj h1 hB
  simp at this
theorem UAt.updQ {l : List Nat} {w w' : World} {u : Value} {p m : Nat} {s : Fo} {t : Nat} {del add : List Hash} (h : UAt w u p m s t del add) (hu : Upd l w w') (hl : ∀ b ∈ l, PtrBlk w b) : UAt w' u p m s t del add := by
  obtain ⟨⟨tv, gr, cr, gl, cl, rfl, h2, h3, h4, h5, h6, g1, g2, g3, g4⟩, h7, h8⟩ := h
  exact ⟨⟨tv, gr, cr, gl, cl, rfl, h2.upd hu (PtrBlk.foreign hl), h3.upd hu (fun hb => (hl _ hb).map h3 rfl), h4.upd hu (fun hb => (hl _ hb).map h4 rfl), h5, h6, g1, g2, g3, g4⟩, h7, h8⟩
/-- the slice of what undoes -/
theorem undo_ptr {w : World} {v : Value} {k : Nat} {cs : List Value} (hO : OwnC w v 7 k cs) (h0 : k = 0 → v = .slice none 0 0) (hc : 0 < k → ∃ a t rest, cs = .pointer a :: intV' t :: rest) : ∀ b ∈ blkOf v, PtrBlk w b := by
  intro b hb
  rcases Nat.eq_zero_or_pos k with hk | hk
  · rw [h0 hk] at hb; simp [blkOf] at hb
  · obtain ⟨a, t, r, rfl⟩ := hc hk
    rcases hO with ⟨_, rfl, _⟩ | ⟨b', cap, rest, rfl, hB, _⟩
    · omega
    · have : b = b' := by simpa [blkOf] using hb
      subst this
      exact ⟨a, intV' t :: (r ++ rest), by simpa using hB, fun n h => by simp at h⟩
/-- the slice of the copies -/
theorem was_ptr {w : World} {v : Value} {k : Nat} {qs : List Nat} (hO : OwnR (fun x => x = .pointer none) w v 1 k (qs.map ptrV)) (h0 : k = 0 → v = .slice none 0 0) : ∀ b ∈ blkOf v, PtrBlk w b := by
  intro b hb
  rcases hO with ⟨rfl, _⟩ | ⟨b', cap, rest, rfl, hB, hl, hl2, hcap, hr⟩
  · simp [blkOf] at hb
  · have : b = b' := by simpa [blkOf] using hb
    subst this
    cases qs with
    | nil =>
      have : k = 0 := by simp at hl; omega
      have := h0 this
      cases this
    | cons q qs =>
      refine ⟨_, qs.map ptrV ++ rest, hB, fun n h => ?_⟩
      have hm := List.mem_of_getElem? h
      rcases List.mem_append.1 hm with hm | hm
      · obtain ⟨x, _, hx⟩ := List.mem_map.1 hm
        cases hx
      · have := hr _ hm
        cases this
end Go.Sp


namespace Go.Sp
/-- a block that holds what undoes -/
def Ptr7 (w : World) (b : Nat) : Prop := ∃ a t cs, Blk w b (.pointer a :: intV' t :: cs) ∧ cs.length = 5
theorem Ptr7.ptr {w : World} {b : Nat} (h : Ptr7 w b) : PtrBlk w b := by
  obtain ⟨a, t, cs, h, _⟩ := h
  exact ⟨a, intV' t :: cs, h, fun n h => by simp at h⟩
theorem ptr7Z {w : World} {b : Nat} (h : Blk w b undoZ) : Ptr7 w b := ⟨_, 0, _, h, rfl⟩
/-- besides S only blocks from N on are written, that were bare, and these keep their shape -/
def PW (S : List Nat) (N : Nat) (a b : World) : Prop := ∃ l, Upd (S ++ l) a b ∧ ∀ x ∈ l, N ≤ x ∧ x ∉ S ∧ Blk a x undoZ ∧ Ptr7 b x
theorem PW.ext {S : List Nat} {N : Nat} {a b : World} (h : Ext a b) : PW S N a b := ⟨[], h.mono (by simp), by simp⟩
end Go.Sp

namespace Go.Sp
/-- steps, where they lie -/
def ActsAt (w : World) (v : Value) (l : List (List Hash × List Hash)) : Prop := ∃ cs, SlC w v 3 l.length cs ∧ ∀ (i : Nat) (a : List Hash × List Hash), l[i]? = some a → ∃ x dv av, cs[i * 3]? = some x ∧ cs[i * 3 + 1]? = some dv ∧ cs[i * 3 + 2]? = some av ∧
  SlC w dv 32 a.1.length (hs a.1) ∧ SlC w av 32 a.2.length (hs a.2)
/-- the functions of the laws, on -/
structure LawH (P : Program) extends LawG P where
  told : Nat
  TT1 : Nat
  TT2 : Nat
  h_told : Has P told (b_spinneylaw14_told new' cut modify has TT1 TH TT2)
section
variable {P : Program} {f : Nat} {w : World}
theorem ActsAt.at' {v : Value} {l : List (List Hash × List Hash)} {i : Nat} {a : List Hash × List Hash} (h : ActsAt w v l) (hi : l[i]? = some a) : ∃ b o cap x dv av, v = .slice (some ⟨b, o, none⟩) l.length cap ∧ i < l.length ∧ Mem w b (o + i * 3) [x, dv, av] ∧
    SlC w dv 32 a.1.length (hs a.1) ∧ SlC w av 32 a.2.length (hs a.2) := by
  obtain ⟨cs, hS, hall⟩ := h
  have hlt := (List.getElem?_eq_some_iff.1 hi).1
  obtain ⟨x, dv, av, g0, g1, g2, h1, h2⟩ := hall i a hi
  obtain ⟨b, o, cap, hv, hm, _⟩ := hS.at (by omega)
  refine ⟨b, o, cap, x, dv, av, hv, hlt, hm.sub (i * 3) (us := [x, dv, av]) (fun k y hk => ?_), h1, h2⟩
  match k, hk with
  | 0, hk => cases hk; exact g0
  | 1, hk => cases hk; exact g1
  | 2, hk => cases hk; exact g2
end
end Go.Sp

namespace Go.Sp
/-- the functions of the laws, on -/
structure LawV (P : Program) extends LawH P, LawU P where
  lundo : Nat
  TLu : Nat
  TLp : Nat
  h_lundo : Has P lundo (b_spinneylaw14_ForestUndo new' copy cut modify equal undo stump works TLu TLp)
/-- what Modify answers -/
def ModOK (p m : Nat) (s : Fo) (del add : List Hash) (W : World) (v : Value) : Prop :=
  (∃ e, v = .tuple #[.agg undoZ.toArray, intV' e] ∧ Refused s.L del add e ∧ FAt W p m s) ∨
  (∃ u, v = .tuple #[u, intV' 0] ∧ Granted s.L del add ∧ FAt W p m ⟨modL del add s.L, s.turns + 1, s.turns + 1⟩ ∧ UAt W u p m s (s.turns + 1) del add)
theorem ModOK.pw {p m N : Nat} {s : Fo} {del add : List Hash} {W W' : World} {v : Value} (h : ModOK p m s del add W v) (hp : PW [] N W W') : ModOK p m s del add W' v := by
  obtain ⟨l, h1, h2⟩ := hp
  have hl : ∀ b ∈ [] ++ l, PtrBlk W b := fun b hb => (ptr7Z (h2 b (by simpa using hb)).2.2.1).ptr
  rcases h with ⟨e, q1, q2, q3⟩ | ⟨u, q1, q2, q3, q4⟩
  · exact .inl ⟨e, q1, q2, q3.updQ h1 hl⟩
  · exact .inr ⟨u, q1, q2, q3.updQ h1 hl, q4.updQ h1 hl⟩
end Go.Sp

namespace Go.Sp
def setS (S : Nat → Bool) (j : Nat) : Nat → Bool := fun x => if x = j then true else S x
def DStepsJ (P : Program) (J : (Nat → Bool) → World → (Nat → Value) → Prop) (ds : List DOp) (e : Env) : Nat → List DOp → Prop
  | _, [] => True
  | i, (deps, g, _, m) :: r => (∀ (S : Nat → Bool) (W : World) (vs : Nat → Value), J S W vs → S i = false → (∀ j ∈ deps, S j = true) → (∀ y c g d m, ds[y]? = some (c, g, d, m) → i ∈ c → S y = false) →
      DStep P (fun _ _ => True) g m (dEnv ds vs deps ++ keepEnv ds i e) W fun W' v => J (setS S i) W' (put vs i v)) ∧ DStepsJ P J ds e (i + 1) r
theorem DStepsJ.get {P : Program} {J : (Nat → Bool) → World → (Nat → Value) → Prop} {ds : List DOp} {e : Env} : ∀ (l : List DOp) (i : Nat), DStepsJ P J ds e i l →
    ∀ (j : Nat) deps g d m, l[j]? = some (deps, g, d, m) → ∀ (S : Nat → Bool) (W : World) (vs : Nat → Value), J S W vs → S (i + j) = false → (∀ j ∈ deps, S j = true) → (∀ y c g d m, ds[y]? = some (c, g, d, m) → i + j ∈ c → S y = false) →
      DStep P (fun _ _ => True) g m (dEnv ds vs deps ++ keepEnv ds (i + j) e) W fun W' v => J (setS S (i + j)) W' (put vs (i + j) v) := by
  intro l
  induction l with
  | nil => intro i _ j deps g d m h; simp at h
  | cons x l ih =>
    obtain ⟨deps0, g0, d0, m0⟩ := x
    intro i h j deps g d m hj
    cases j with
    | zero =>
      simp at hj
      obtain ⟨rfl, rfl, rfl, rfl⟩ := hj
      exact h.1
    | succ j =>
      have := ih (i + 1) h.2 j deps g d m (by simpa using hj)
      rw [show i + (j + 1) = i + 1 + j from by omega]
      exact this
section
variable {P : Program} {rd : Option Nat} {ops : Array Oper} {is : List Ins} {Q : Exit → Act → World → Prop}
structure InvJ (P : Program) (ops : Array Oper) (n s : Nat) (D : List Deferred) (J : (Nat → Bool) → World → (Nat → Value) → Prop) (e : Env) (vs : Nat → Value) (listed : Array Bool) (a : Act) (W : World) : Prop where
  size : listed.size = ops.size
  low : ∀ j, j < ops.size → listed.getD j true = true → j < s
  closed : ∀ j c g d m, (allD P ops)[j]? = some (c, g, d, m) → listed.getD j true = true → ∀ x ∈ c, listed.getD x true = true
  inv : J (fun j => listed.getD j true) W vs
  vals : ∀ j c g d m, (allD P ops)[j]? = some (c, g, d, m) → listed.getD j true = true → ∀ t, d = some t → a.tmps[t]? = some (vs j)
  keep : ∀ t v, e.get t = some v → (∀ j c g m, (allD P ops)[j]? = some (c, g, some t, m) → j < s → listed.getD j true = false) → a.tmps[t]? = some v
  tm : a.tmps.size = n
  df : a.defers = D
theorem phase1J {n s : Nat} {c : Ctx} {D : List Deferred} {k : Kont} {J : (Nat → Bool) → World → (Nat → Value) → Prop} {e : Env}
    (hdef : ops.any isDefer = false) (hwell : wellDeps 0 (allD P ops) = true) (hb : behindAll s ((allD P ops).drop s) = true) (hs : s ≤ ops.size)
    (hdst : ∀ t ∈ dsts ((allD P ops).take s), t < n) (hnd : nodupB (dsts ((allD P ops).take s)) = true)
    (hst : DStepsJ P J ((allD P ops).take s) e 0 ((allD P ops).take s))
    (next : ∀ S vs W, J S W vs → (∀ i, i < s → S i = true) → Exec P n c D (tailIns ((allD P ops).drop s) ++ is) k (outEnv vs 0 ((allD P ops).take s) ++ e) W) :
    ∀ (fuel : Nat) (listed : Array Bool) (vs : Nat → Value) (a : Act) (W : World), left listed ≤ fuel → InvJ P ops n s D J e vs listed a W →
      wpAnyIn (FW c.rd) 0 P .any ops (Exit.then (denL P c.rd is (k.sem P c)) (k.sem P c)) fuel listed a W := by
  have hget : ∀ j, j < s → (allD P ops)[j]? = ((allD P ops).take s)[j]? := fun j hj => by rw [List.getElem?_take]; simp [hj]
  intro fuel
  induction fuel with
  | zero =>
    intro listed vs a W hf hI
    have hall : ∀ j, j < ops.size → listed.getD j true = true := by
      intro j hj
      cases h : listed.getD j true with
      | true => rfl
      | false => have := left_pos h; omega
    have hsn : s = ops.size := by
      rcases Nat.lt_or_ge s ops.size with h | h
      · have := hI.low s h (hall s h); omega
      · omega
    have he : Env.ok (outEnv vs 0 ((allD P ops).take s) ++ e) a.tmps := by
      intro t v hg
      rw [append_get] at hg
      cases ho : (outEnv vs 0 ((allD P ops).take s)).get t with
      | some u =>
        rw [ho] at hg; simp at hg; subst hg
        obtain ⟨j, c', g, m, h1, h2⟩ := outEnv_get _ _ _ _ ho
        have hj : j < s := by
          have := (List.getElem?_eq_some_iff.1 h1).1
          simp at this; omega
        rw [← hget j hj] at h1
        have := (hI.vals j _ _ _ _ h1 (hall j (by omega))) t rfl
        rw [this, h2]; simp
      | none =>
        rw [ho] at hg; simp at hg
        refine hI.keep t v hg fun j c' g m hj hlt => ?_
        rw [hget j hlt] at hj
        exact absurd rfl (outEnv_none _ _ _ ho j _ _ _ _ hj)
    have hx := (next _ vs W hI.inv (fun i hi => hall i (by omega))).run a hI.tm he hI.df
    exact phase2 hdef hwell s hb (ops.size - s) s 0 listed a W (by omega) (Nat.le_refl _) (by omega)
      (fun j hj => ⟨fun _ => by omega, fun _ => hall j hj⟩) hI.size hx
  | succ fuel ih =>
    intro listed vs a W hf hI
    by_cases hfree : ∃ j, j < s ∧ listed.getD j true = false
    · -- some free operation is still to run
      obtain ⟨j0, hj0, hl0⟩ := hfree
      obtain ⟨j1, hj1, hp1, hmin⟩ := minOf (p := fun j => !listed.getD j true) (j := j0) (by simp [hl0])
      simp only [Bool.not_eq_true', Bool.not_eq_false'] at hp1 hmin
      have hr1 : j1 ∈ Region.ready .any ops listed := by
        obtain ⟨c', g, d, m, hC⟩ := allD_some (P := P) (ops := ops) (fun _ _ => trivial) j1 (by omega)
        obtain ⟨o, ho, _, _, _, hdir, _⟩ := allD_get hC
        refine ready_mem.2 ⟨o, ho, hp1, fun x hx hbn => ?_⟩
        have hlt : x.on < j1 := by simpa using wellDeps_get _ 0 hwell j1 _ _ _ _ hC x.on (hdir x hx hbn)
        rw [getD_true (by rw [hI.size]; omega)]
        exact hmin _ hlt
      refine ⟨fun hr => by rw [hr] at hr1; simp at hr1, fun j hj => ?_⟩
      obtain ⟨o, ho, hlj, haft⟩ := ready_mem.1 hj
      have hjn : j < ops.size := (Array.getElem?_eq_some_iff.1 ho).1
      obtain ⟨cj, g, d, m, hC⟩ := allD_some (P := P) (ops := ops) (fun _ _ => trivial) j hjn
      obtain ⟨o', ho', rfl, rfl, rfl, hdir, hclo⟩ := allD_get hC
      rw [ho] at ho'; cases ho'
      have hcl : ∀ x ∈ cj, listed.getD x true = true := by
        intro x hx
        obtain ⟨ev, he, hbn, hx⟩ := hclo x hx
        have hlt : ev.on < j := by simpa using wellDeps_get _ 0 hwell j _ _ _ _ hC ev.on (hdir ev he hbn)
        have hon : listed.getD ev.on true = true := by
          rw [← getD_true (by rw [hI.size]; omega) false]; exact haft ev he hbn
        rcases hx with rfl | ⟨c2, g2, d2, m2, hC2, hx⟩
        · exact hon
        · exact hI.closed _ _ _ _ _ hC2 hon x hx
      have hjs : j < s := by
        rcases Nat.lt_or_ge j s with h | h
        · exact h
        · exfalso
          have hin : j0 ∈ cj := behindAll_get _ s hb (j - s) cj _ _ _ (by rw [List.getElem?_drop]; rw [show s + (j - s) = j from by omega]; exact hC) j0 (by omega)
          have := hcl j0 hin
          rw [hl0] at this; cases this
      have hCt : ((allD P ops).take s)[j]? = some (cj, convG ops o, o.dst, convO P o) := by rw [← hget j hjs]; exact hC
      have hstep := hst.get _ 0 j _ _ _ _ hCt (fun x => listed.getD x true) W vs hI.inv (by rw [Nat.zero_add]; exact hlj) hcl (by
        intro y c' g' d' m' hCy hin
        rw [Nat.zero_add] at hin
        have hys : y < s := by
          have := (List.getElem?_eq_some_iff.1 hCy).1
          simp at this; omega
        rw [← hget y hys] at hCy
        show listed.getD y true = false
        cases hly : listed.getD y true with
        | false => rfl
        | true =>
          have := hI.closed y _ _ _ _ hCy hly j hin
          rw [hlj] at this; cases this)
      simp only [Nat.zero_add] at hstep
      have henv : Env.ok (dEnv ((allD P ops).take s) vs cj ++ keepEnv ((allD P ops).take s) j e) a.tmps := by
        intro t v hg
        rw [append_get] at hg
        cases hd : (dEnv ((allD P ops).take s) vs cj).get t with
        | some u =>
          rw [hd] at hg; simp at hg; subst hg
          obtain ⟨x, hx, rfl, c', g', m', hC'⟩ := dEnv_get _ _ _ hd
          have hxs : x < s := by
            have := (List.getElem?_eq_some_iff.1 hC').1
            simp at this; omega
          rw [← hget x hxs] at hC'
          exact (hI.vals x _ _ _ _ hC' (hcl x hx)) t rfl
        | none =>
          rw [hd] at hg; simp at hg
          obtain ⟨hsty, u, hu, _⟩ := keepEnv_get e t v hg
          rw [keepEnv_eq e t hsty] at hg
          refine hI.keep t v hg fun x c' g' m' hC' hxs => ?_
          cases hlx : listed.getD x true with
          | false => rfl
          | true =>
            rw [hget x hxs] at hC'
            have := stays_get _ hsty x _ _ _ hC'
            rw [← hget x hxs] at hC'
            have := hI.closed x _ _ _ _ hC' hlx j this
            rw [hlj] at this; cases this
      -- behind the operation
      have hnext : ∀ v W', J (setS (fun x => listed.getD x true) j) W' (put vs j v) → wpAnyIn (FW c.rd) 0 P .any ops (Exit.then (denL P c.rd is (k.sem P c)) (k.sem P c)) fuel (listed.setIfInBounds j true) (a.put o.dst v) W' := by
        rintro v W' hR
        refine ih _ (put vs j v) _ _ (by have := left_set hlj; omega) ?_
        refine ⟨by simp [hI.size], ?_, ?_, ?_, ?_, ?_, ?_, ?_⟩
        · intro x hx hl
          rw [getD_set (by rw [hI.size]; exact hx)] at hl
          split at hl
          · omega
          · exact hI.low x hx hl
        · intro x c' g' d' m' hC' hl y hy
          have hxn : x < ops.size := by
            have := (List.getElem?_eq_some_iff.1 hC').1
            rwa [allD_length] at this
          have hyx : y < x := by simpa using wellDeps_get _ 0 hwell x _ _ _ _ hC' y hy
          rw [getD_set (by rw [hI.size]; omega)] at hl ⊢
          split
          · rfl
          · split at hl
            · rename_i hxj; subst hxj
              rw [hC] at hC'; cases hC'
              exact hcl y hy
            · exact hI.closed x _ _ _ _ hC' hl y hy
        · have : (fun x => (listed.setIfInBounds j true).getD x true) = setS (fun x => listed.getD x true) j := by
            funext x
            by_cases hxn : x < ops.size
            · rw [getD_set (by rw [hI.size]; exact hxn)]
              simp only [setS]
            · simp only [setS]
              rw [Array.getD_eq_getD_getElem?, Array.getElem?_eq_none (by simp [hI.size]; omega), Array.getD_eq_getD_getElem?, Array.getElem?_eq_none (by simp [hI.size]; omega)]
              split <;> rfl
          rw [this]
          exact hR
        · intro x c' g' d' m' hC' hl
          have hxn : x < ops.size := by
            have := (List.getElem?_eq_some_iff.1 hC').1
            rwa [allD_length] at this
          rw [getD_set (by rw [hI.size]; omega)] at hl
          by_cases hxj : x = j
          · subst hxj
            rw [hC] at hC'; cases hC'
            intro t ht
            have htn : t < n := hdst t (mem_dsts _ x t _ _ _ (by rw [ht] at hCt; exact hCt))
            rw [ht]
            simp [Act.put, hI.tm, htn, put]
          · rw [if_neg hxj] at hl
            have h2 := hI.vals x _ _ _ _ hC' hl
            have hxs := hI.low x hxn hl
            intro t ht
            have h3 : a.tmps[t]? = some (put vs j v x) := by rw [h2 t ht]; simp [put, hxj]
            subst ht
            cases hod : o.dst with
            | none => simpa [Act.put] using h3
            | some t' =>
              have hne : t' ≠ t := by
                intro h; subst h
                rw [hod] at hCt
                rw [hget x hxs] at hC'
                exact hxj (dsts_uniq _ hnd _ _ _ _ _ _ _ _ _ hC' hCt)
              simp only [Act.put]
              rw [Array.getElem?_setIfInBounds_ne hne]
              exact h3
        · intro t v' hg hno
          have hno' : ∀ x c' g' m', (allD P ops)[x]? = some (c', g', some t, m') → x < s → listed.getD x true = false := by
            intro x c' g' m' hC' hxs
            have := hno x c' g' m' hC' hxs
            rw [getD_set (by rw [hI.size]; omega)] at this
            split at this
            · cases this
            · exact this
          have h3 := hI.keep t v' hg hno'
          cases hod : o.dst with
          | none => simpa [Act.put] using h3
          | some t' =>
            have hne : t' ≠ t := by
              intro h; subst h
              rw [hod] at hC
              have := hno j _ _ _ hC hjs
              rw [getD_set (by rw [hI.size]; omega)] at this
              simp at this
            simp only [Act.put]
            rw [Array.getElem?_setIfInBounds_ne hne]
            exact h3
        · cases hod : o.dst <;> simp [Act.put, hI.tm]
        · cases hod : o.dst <;> simp [Act.put, hI.df]
      refine wpOp_of_step ho (notDefer hdef ho) ?_
      unfold stepOp
      unfold DStep at hstep
      split at hstep
      · rename_i hg
        rw [hg]
        simp only [gOK, if_true]
        exact hstep a henv _ _ _ _ fun v W' h => hnext v W' h.2
      · exact hstep.elim
      · rename_i x b hg
        rw [hg]
        rcases hstep with ⟨hb', hok⟩ | ⟨hb', hok⟩
        · simp only [gOK, Option.bind_some, henv x _ hb', BEq.rfl, if_true]
          exact hok a henv _ _ _ _ fun v W' h => hnext v W' h.2
        · have hgk : gOK (some (some x, b)) a.tmps = false := by
            rcases hb' with hb' | hb'
            · simp only [gOK, Option.bind_some, henv x _ hb']
              cases b <;> rfl
            · simp only [gOK, Option.bind_some, henv x _ hb']
              rfl
          simp only [hgk, Bool.false_eq_true, if_false]
          exact hnext undef W hok
    · -- the tail
      have hall : ∀ j, j < s → listed.getD j true = true := by
        intro j hj
        cases h : listed.getD j true with
        | true => rfl
        | false => exact absurd ⟨j, hj, h⟩ hfree
      have hiff : ∀ j, j < ops.size → (listed.getD j true = true ↔ j < s) := fun j hj => ⟨hI.low j hj, hall j⟩
      have hleft := left_eq hI.size hiff
      have he : Env.ok (outEnv vs 0 ((allD P ops).take s) ++ e) a.tmps := by
        intro t v hg
        rw [append_get] at hg
        cases ho : (outEnv vs 0 ((allD P ops).take s)).get t with
        | some u =>
          rw [ho] at hg; simp at hg; subst hg
          obtain ⟨j, c', g, m, h1, h2⟩ := outEnv_get _ _ _ _ ho
          have hj : j < s := by
            have := (List.getElem?_eq_some_iff.1 h1).1
            simp at this; omega
          rw [← hget j hj] at h1
          have := (hI.vals j _ _ _ _ h1 (hall j hj)) t rfl
          rw [this, h2]; simp
        | none =>
          rw [ho] at hg; simp at hg
          refine hI.keep t v hg fun j c' g m hj hlt => ?_
          rw [hget j hlt] at hj
          exact absurd rfl (outEnv_none _ _ _ ho j _ _ _ _ hj)
      have hx := (next _ vs W hI.inv (fun i hi => hall i hi)).run a hI.tm he hI.df
      exact phase2 hdef hwell s hb (ops.size - s) s (fuel + 1) listed a W (by omega) (Nat.le_refl _) (by omega) hiff hI.size hx
end
section
variable {P : Program} {n : Nat} {c : Ctx} {D : List Deferred} {is : List Ins} {k : Kont} {e : Env} {w : World}
theorem exec_drawJ {fr : List DOp} {tl : List Ins} (J : (Nat → Bool) → World → (Nat → Value) → Prop)
    (h0 : ∀ S, (∀ i, i < fr.length → S i = false) → J S { w with drawn := w.drawn + 1 } fun _ => undef)
    (hdst : (dsts fr).all (fun t => Nat.blt t n) = true) (hnd : nodupB (dsts fr) = true)
    (hst : DStepsJ P J fr e 0 fr)
    (next : ∀ S vs W, J S W vs → (∀ i, i < fr.length → S i = true) → Exec P n c D (tl ++ is) k (outEnv vs 0 fr ++ e) W) :
    Exec P n c D (.draw fr tl :: is) k e w := .intro fun a hn hk hd => by
  simp only [denL, denI]
  intro ops hfr htl hdef hwell
  obtain ⟨hb, hs⟩ := splitAtD_spec (allD P ops) ops.size (by rw [List.drop_eq_nil_of_le (by rw [allD_length]; exact Nat.le_refl _)]; rfl)
  have hlen : fr.length = splitAtD (allD P ops) ops.size := by rw [← hfr, List.length_take, allD_length]; omega
  subst hfr
  subst htl
  refine phase1J (J := J) hdef hwell hb hs (fun t ht => by simpa using List.all_eq_true.1 hdst t ht) hnd hst
    (fun S vs W h1 h2 => next S vs W h1 (by rw [hlen]; exact h2)) ops.size _ (fun _ => undef) a _ ?_ ?_
  · unfold left; simp
  · refine ⟨by simp, ?_, ?_, h0 _ (fun i hi => ?_), ?_, ?_, hn, hd⟩
    · intro j hj h; simp [Array.getD_eq_getD_getElem?, hj] at h
    · intro j c' g d m hC h
      have : j < ops.size := by
        have := (List.getElem?_eq_some_iff.1 hC).1
        rwa [allD_length] at this
      simp [Array.getD_eq_getD_getElem?, this] at h
    · have : i < ops.size := by rw [hlen] at hi; omega
      simp [Array.getD_eq_getD_getElem?, this]
    · intro j c' g d m hC h
      have : j < ops.size := by
        have := (List.getElem?_eq_some_iff.1 hC).1
        rwa [allD_length] at this
      simp [Array.getD_eq_getD_getElem?, this] at h
    · intro t v hg _; exact hk t v hg
end
end Go.Sp

namespace Go.Sp
/-- what holds in the region while the operations of S have run -/
structure RegJ (w : World) (p m : Nat) (s : Fo) (del add : List Hash) (known : List (Nat × Value)) (S : Nat → Bool) (W : World) (vs : Nat → Value) : Prop where
  kn : ∀ j x, (j, x) ∈ known → S j = true → vs j = x
  up : Upd [p, m] w W
  bef : S 13 = false → Ext w W
  mod : S 13 = true → ModOK p m s del add W (vs 13)
  r14 : S 14 = true → S 13 = true ∧ vs 14 = vs 13
  r15 : S 15 = true → S 13 = true ∧ ∃ u e, vs 13 = .tuple #[u, intV' e] ∧ vs 15 = u
  r16 : S 16 = true → S 13 = true ∧ ∃ u e, vs 13 = .tuple #[u, intV' e] ∧ vs 16 = intV' e
  r17 : S 17 = true → ∃ b, vs 17 = ptrV b ∧ w.heap.size ≤ b ∧ (S 18 = false → Blk W b undoZ) ∧ (S 18 = true → S 15 = true ∧ Blk W b (vs 15).cells.toList)
theorem setS_ne {S : Nat → Bool} {j x : Nat} (h : x ≠ j) : setS S j x = S x := by simp [setS, h]
theorem setS_self {S : Nat → Bool} {j : Nat} : setS S j j = true := by simp [setS]
theorem put_ne {vs : Nat → Value} {j x : Nat} {v : Value} (h : x ≠ j) : put vs j v x = vs x := by simp [put, h]
theorem put_self {vs : Nat → Value} {j : Nat} {v : Value} : put vs j v j = v := by simp [put]
theorem ModOK.ext {p m : Nat} {s : Fo} {del add : List Hash} {W W' : World} {v : Value} (h : ModOK p m s del add W v) (hu : Ext W W') : ModOK p m s del add W' v := h.pw (N := 0) (PW.ext hu)
section
variable {w : World} {p m : Nat} {s : Fo} {del add : List Hash} {known : List (Nat × Value)} {S : Nat → Bool} {W W' : World} {vs : Nat → Value}
/-- an operation whose value is known -/
theorem RegJ.base {j : Nat} {x : Value} (h : RegJ w p m s del add known S W vs) (hj : j < 13) (hx : ∀ y, (j, y) ∈ known → y = x) (hu : Ext W W') : RegJ w p m s del add known (setS S j) W' (put vs j x) where
  kn := fun j' x' hm hs => by
    by_cases he : j' = j
    · subst he; rw [put_self]; exact (hx _ hm).symm
    · rw [put_ne he]; rw [setS_ne he] at hs; exact h.kn _ _ hm hs
  up := h.up.trans hu (by simp)
  bef := fun hs => by rw [setS_ne (by omega)] at hs; exact (h.bef hs).trans hu
  mod := fun hs => by rw [setS_ne (by omega)] at hs; rw [put_ne (by omega)]; exact (h.mod hs).ext hu
  r14 := fun hs => by rw [setS_ne (by omega)] at hs; rw [setS_ne (by omega), put_ne (by omega), put_ne (by omega)]; exact h.r14 hs
  r15 := fun hs => by rw [setS_ne (by omega)] at hs; rw [setS_ne (by omega), put_ne (by omega), put_ne (by omega)]; exact h.r15 hs
  r16 := fun hs => by rw [setS_ne (by omega)] at hs; rw [setS_ne (by omega), put_ne (by omega), put_ne (by omega)]; exact h.r16 hs
  r17 := fun hs => by
    rw [setS_ne (by omega)] at hs
    rw [put_ne (by omega), put_ne (by omega), setS_ne (by omega), setS_ne (by omega)]
    obtain ⟨b, h1, h2, h3, h4⟩ := h.r17 hs
    exact ⟨b, h1, h2, fun q => (h3 q).upd hu (by simp), fun q => ⟨(h4 q).1, (h4 q).2.upd hu (by simp)⟩⟩
/-- Modify -/
theorem RegJ.modify {x : Value} (h : RegJ w p m s del add known S W vs) (hk : ∀ y, (13, y) ∉ known) (hp : p < w.heap.size) (hm : m < w.heap.size) (h14 : S 14 = false) (h15 : S 15 = false) (h16 : S 16 = false) (h18 : S 18 = false) (hu : Upd [p, m] W W') (hM : ModOK p m s del add W' x) :
    RegJ w p m s del add known (setS S 13) W' (put vs 13 x) where
  kn := fun j' x' hq hs => by
    by_cases he : j' = 13
    · subst he; exact absurd hq (hk _)
    · rw [put_ne he]; rw [setS_ne he] at hs; exact h.kn _ _ hq hs
  up := h.up.trans hu (fun b hb => .inl hb)
  bef := fun hs => by rw [setS_self] at hs; cases hs
  mod := fun _ => by rw [put_self]; exact hM
  r14 := fun hs => by rw [setS_ne (by omega), h14] at hs; cases hs
  r15 := fun hs => by rw [setS_ne (by omega), h15] at hs; cases hs
  r16 := fun hs => by rw [setS_ne (by omega), h16] at hs; cases hs
  r17 := fun hs => by
    rw [setS_ne (by omega)] at hs
    rw [put_ne (by omega), put_ne (by omega), setS_ne (by omega), setS_ne (by omega)]
    obtain ⟨b, h1, h2, h3, h4⟩ := h.r17 hs
    have hb : b ∉ [p, m] := by simp; omega
    exact ⟨b, h1, h2, fun q => (h3 q).upd hu hb, fun q => by rw [h18] at q; cases q⟩
/-- the operations behind Modify that only pass on what it answers -/
theorem RegJ.late {j : Nat} {x : Value} (h : RegJ w p m s del add known S W vs) (hk : ∀ i y, (i, y) ∈ known → i < 13) (hj : j = 14 ∨ j = 15 ∨ j = 16) (h13 : S 13 = true) (h18 : j = 15 → S 18 = false) (hu : Ext W W')
    (h14 : j = 14 → x = vs 13) (h15 : j = 15 → ∃ u e, vs 13 = .tuple #[u, intV' e] ∧ x = u) (h16 : j = 16 → ∃ u e, vs 13 = .tuple #[u, intV' e] ∧ x = intV' e) :
    RegJ w p m s del add known (setS S j) W' (put vs j x) where
  kn := fun j' x' hq hs => by
    have := hk _ _ hq
    rw [put_ne (by omega)]; rw [setS_ne (by omega)] at hs; exact h.kn _ _ hq hs
  up := h.up.trans hu (by simp)
  bef := fun hs => by rw [setS_ne (by omega), h13] at hs; cases hs
  mod := fun _ => by rw [put_ne (by omega)]; exact (h.mod h13).ext hu
  r14 := fun hs => by
    rw [setS_ne (by omega), put_ne (x := 13) (by omega)]
    refine ⟨h13, ?_⟩
    by_cases he : j = 14
    · subst he; rw [put_self]; exact h14 rfl
    · rw [setS_ne (by omega)] at hs; rw [put_ne (by omega)]; exact (h.r14 hs).2
  r15 := fun hs => by
    rw [setS_ne (by omega), put_ne (x := 13) (by omega)]
    refine ⟨h13, ?_⟩
    by_cases he : j = 15
    · subst he; rw [put_self]; exact h15 rfl
    · rw [setS_ne (by omega)] at hs; rw [put_ne (by omega)]; exact (h.r15 hs).2
  r16 := fun hs => by
    rw [setS_ne (by omega), put_ne (x := 13) (by omega)]
    refine ⟨h13, ?_⟩
    by_cases he : j = 16
    · subst he; rw [put_self]; exact h16 rfl
    · rw [setS_ne (by omega)] at hs; rw [put_ne (by omega)]; exact (h.r16 hs).2
  r17 := fun hs => by
    rw [setS_ne (by omega)] at hs
    rw [put_ne (by omega), setS_ne (by omega)]
    obtain ⟨b, q1, q2, q3, q4⟩ := h.r17 hs
    refine ⟨b, q1, q2, fun q => (q3 q).upd hu (by simp), fun q => ?_⟩
    have hne : j ≠ 15 := fun he => by rw [h18 he] at q; cases q
    rw [setS_ne (by omega), put_ne (by omega)]
    exact ⟨(q4 q).1, (q4 q).2.upd hu (by simp)⟩
/-- the new block -/
theorem RegJ.newb {b : Nat} (h : RegJ w p m s del add known S W vs) (hk : ∀ i y, (i, y) ∈ known → i < 13) (h18 : S 18 = false) (hu : Ext W W') (hb : w.heap.size ≤ b) (hB : Blk W' b undoZ) :
    RegJ w p m s del add known (setS S 17) W' (put vs 17 (ptrV b)) where
  kn := fun j' x' hq hs => by
    have := hk _ _ hq
    rw [put_ne (by omega)]; rw [setS_ne (by omega)] at hs; exact h.kn _ _ hq hs
  up := h.up.trans hu (by simp)
  bef := fun hs => by rw [setS_ne (by omega)] at hs; exact (h.bef hs).trans hu
  mod := fun hs => by rw [setS_ne (by omega)] at hs; rw [put_ne (by omega)]; exact (h.mod hs).ext hu
  r14 := fun hs => by rw [setS_ne (by omega)] at hs; rw [setS_ne (by omega), put_ne (by omega), put_ne (by omega)]; exact h.r14 hs
  r15 := fun hs => by rw [setS_ne (by omega)] at hs; rw [setS_ne (by omega), put_ne (by omega), put_ne (by omega)]; exact h.r15 hs
  r16 := fun hs => by rw [setS_ne (by omega)] at hs; rw [setS_ne (by omega), put_ne (by omega), put_ne (by omega)]; exact h.r16 hs
  r17 := fun _ => by
    refine ⟨b, put_self, hb, fun _ => hB, fun q => ?_⟩
    rw [setS_ne (by omega), h18] at q; cases q
/-- the new block is filled -/
theorem RegJ.fill {b : Nat} {x : Value} (h : RegJ w p m s del add known S W vs) (hk : ∀ i y, (i, y) ∈ known → i < 13) (h15 : S 15 = true) (h17 : S 17 = true) (hb : vs 17 = ptrV b) (hu : Upd [b] W W') (hB0 : Blk W b undoZ) (hB : Blk W' b (vs 15).cells.toList) (h7 : Ptr7 W' b) :
    RegJ w p m s del add known (setS S 18) W' (put vs 18 x) where
  kn := fun j' x' hq hs => by
    have := hk _ _ hq
    rw [put_ne (by omega)]; rw [setS_ne (by omega)] at hs; exact h.kn _ _ hq hs
  up := h.up.trans hu (fun y hy => by
    obtain ⟨b', q1, q2, _⟩ := h.r17 h17
    rw [hb] at q1
    cases q1
    have : y = b := by simpa using hy
    subst this
    exact .inr q2)
  bef := fun hs => by rw [setS_ne (by omega), (h.r15 h15).1] at hs; cases hs
  mod := fun hs => by
    rw [setS_ne (by omega)] at hs; rw [put_ne (by omega)]
    exact (h.mod hs).pw (N := 0) ⟨[b], by simpa using hu, fun y hy => by
      have : y = b := by simpa using hy
      subst this
      exact ⟨Nat.zero_le _, by simp, hB0, h7⟩⟩
  r14 := fun hs => by rw [setS_ne (by omega)] at hs; rw [setS_ne (by omega), put_ne (by omega), put_ne (by omega)]; exact h.r14 hs
  r15 := fun hs => by rw [setS_ne (by omega)] at hs; rw [setS_ne (by omega), put_ne (by omega), put_ne (by omega)]; exact h.r15 hs
  r16 := fun hs => by rw [setS_ne (by omega)] at hs; rw [setS_ne (by omega), put_ne (by omega), put_ne (by omega)]; exact h.r16 hs
  r17 := fun hs => by
    rw [setS_ne (by omega)] at hs
    rw [put_ne (by omega), put_ne (by omega), setS_ne (x := 15) (by omega), setS_self]
    obtain ⟨b', q1, q2, _, _⟩ := h.r17 hs
    rw [hb] at q1
    cases q1
    exact ⟨b, hb, q2, (fun q => by cases q), fun _ => ⟨h15, hB⟩⟩
/-- an operation whose value is known, as a step of the region -/
theorem RegJ.ok {P : Program} {j : Nat} {x : Value} {mo : MOp} {en : Env} (h : RegJ w p m s del add known S W vs) (hj : j < 13) (hx : ∀ y, (j, y) ∈ known → y = x) (ho : OpOK P mo en W fun v W' => v = x ∧ Ext W W') :
    DStep P (fun _ _ => True) none mo en W fun W' v => RegJ w p m s del add known (setS S j) W' (put vs j v) :=
  OpOK.mono ho fun v W' hv => ⟨trivial, by rw [hv.1]; exact h.base hj hx hv.2⟩
theorem RegJ.pure {P : Program} {j : Nat} {x : Value} {mo : MOp} {en : Env} (h : RegJ w p m s del add known S W vs) (hj : j < 13) (hx : ∀ y, (j, y) ∈ known → y = x) (ho : pureV en mo = some x) :
    DStep P (fun _ _ => True) none mo en W fun W' v => RegJ w p m s del add known (setS S j) W' (put vs j v) :=
  h.ok hj hx ((ok_pure ho).mono fun v W' hv => ⟨hv.1, by rw [hv.2]; exact Upd.refl _ _⟩)
end
end Go.Sp

namespace Go.Sp
section
variable {P : Program} {n : Nat} {c : Ctx} {D : List Deferred} {is : List Ins} {k : Kont} {e : Env} {w : World}
variable {l : List Nat} {wr : Nat} {Wr : World → Prop} {ds : List DOp} {F : List (Nat × Value) → Prop} {done : List (Nat × Value)} {i : Nat} {deps : List Nat} {d : Option Nat} {m : MOp} {r : List DOp} {s : Nat} {b : Bool}
/-- an operation that may lay new blocks, ahead of the one that writes -/
theorem ws_okE (v : Value) (hne : Nat.beq i wr = false) (hb : befB ds wr i = true) (hv : ∀ W, Ext w W → OpOK P m (envV ds done deps ++ keepEnv ds i e) W (fun u W' => u = v ∧ Ext W W'))
    (h : DWS P l wr Wr ds e w F (i + 1) ((i, v) :: done) r) : DWS P l wr Wr ds e w F i done ((deps, none, d, m) :: r) :=
  ⟨v, fun W _ h2 => (hv W (h2 hb)).mono fun u W' hu => ⟨⟨hu.2.mono (by simp), fun _ => hu.2⟩, hu.1, fun hi => by subst hi; simp at hne⟩, h⟩
/-- the one that writes, guarded -/
theorem ws_gwr (v : Value) (hwr : Nat.beq i wr = true) (hg : (envV ds done deps ++ keepEnv ds i e).get s = some (.bool b)) (hv : ∀ W, Ext w W → OpOK P m (envV ds done deps ++ keepEnv ds i e) W (fun u W' => u = v ∧ Upd l W W' ∧ Wr W'))
    (h : DWS P l wr Wr ds e w F (i + 1) ((i, v) :: done) r) : DWS P l wr Wr ds e w F i done ((deps, some (some s, b), d, m) :: r) := by
  have hi := Nat.eq_of_beq_eq_true hwr
  exact ⟨v, fun W _ h2 => .inl ⟨hg, (hv W (h2 (by simp [befB, hwr]))).mono fun u W' hu => ⟨⟨hu.2.1, fun h => absurd hi h⟩, hu.1, fun _ => hu.2.2⟩⟩, h⟩
/-- an operation that reads what the writing one leaves alone, guarded -/
theorem ws_gupd (v : Value) (hne : Nat.beq i wr = false) (hg : (envV ds done deps ++ keepEnv ds i e).get s = some (.bool b)) (hv : ∀ W, Upd l w W → OpOK P m (envV ds done deps ++ keepEnv ds i e) W (Just v W))
    (h : DWS P l wr Wr ds e w F (i + 1) ((i, v) :: done) r) : DWS P l wr Wr ds e w F i done ((deps, some (some s, b), d, m) :: r) :=
  ⟨v, fun W h1 _ => .inl ⟨hg, (hv W h1).mono fun u W' hu => ⟨⟨hu.2 ▸ Upd.refl _ _, fun _ => hu.2 ▸ Upd.refl _ _⟩, hu.1, fun hi => by subst hi; simp at hne⟩⟩, h⟩
end
/-- a step that was granted: what undoes it, the copy ahead of it, the leaves ahead of it -/
structure URec where
  u : Value
  q : Nat
  mq : Nat
  L : List (Option Hash)
  del : List Hash
  add : List Hash
def latU (rs : List URec) (L : List (Option Hash)) (j : Nat) : List (Option Hash) := ((rs[j]?).map URec.L).getD L
theorem latU_some {rs : List URec} {L : List (Option Hash)} {j : Nat} {r : URec} (h : rs[j]? = some r) : latU rs L j = r.L := by simp [latU, h]
theorem latU_end (rs : List URec) (L : List (Option Hash)) : latU rs L rs.length = L := by simp [latU]
theorem latU_push {rs : List URec} {L L' : List (Option Hash)} {r : URec} (hr : r.L = L) {j : Nat} (hj : j ≤ rs.length) : latU (rs ++ [r]) L' j = latU rs L j := by
  rcases Nat.lt_or_ge j rs.length with h | h
  · simp only [latU, List.getElem?_append_left h]
    rw [List.getElem?_eq_getElem h]; rfl
  · have : j = rs.length := by omega
    subst this
    simp [latU, hr]
/-- one of them, where it lies; the forest that is undone is p, m -/
structure URecAt (W : World) (p m j : Nat) (r : URec) (L' : List (Option Hash)) : Prop where
  u : UAt W r.u p m ⟨r.L, j, j⟩ (j + 1) r.del r.add
  f : FAt W r.q r.mq ⟨r.L, j, j⟩
  g : Granted r.L r.del r.add
  L : L' = modL r.del r.add r.L
  qp : r.q ≠ p ∧ r.q ≠ m ∧ r.mq ≠ p ∧ r.mq ≠ m
def undoCs (rs : List URec) : List Value := rs.flatMap fun r => r.u.cells.toList
/-- all that lies there -/
structure UndoAt (W : World) (n0 p m : Nat) (rs : List URec) (L : List (Option Hash)) (uv wv : Value) : Prop where
  recs : ∀ j r, rs[j]? = some r → URecAt W p m j r (latU rs L (j + 1))
  u7 : ∀ r ∈ rs, ∃ a t cs, r.u.cells.toList = .pointer a :: intV' t :: cs ∧ cs.length = 5
  ou : OwnC W uv 7 rs.length (undoCs rs)
  ow : OwnR (fun x => x = .pointer none) W wv 1 rs.length ((rs.map URec.q).map ptrV)
  nu : rs.length = 0 → uv = .slice none 0 0
  nw : rs.length = 0 → wv = .slice none 0 0
  bu : ∀ b ∈ blkOf uv, n0 ≤ b
  bw : ∀ b ∈ blkOf wv, n0 ≤ b
  dj : ∀ b ∈ blkOf uv, b ∉ blkOf wv
theorem UndoAt.ptrU {W : World} {n0 p m : Nat} {rs : List URec} {L : List (Option Hash)} {uv wv : Value} (h : UndoAt W n0 p m rs L uv wv) : ∀ b ∈ blkOf uv, PtrBlk W b :=
  undo_ptr h.ou h.nu fun h0 => by
    cases rs with
    | nil => simp at h0
    | cons r rs =>
      obtain ⟨a, t, cs, h1, _⟩ := h.u7 r (by simp)
      exact ⟨a, t, cs ++ undoCs rs, by simp [undoCs, h1]⟩
theorem UndoAt.ptrW {W : World} {n0 p m : Nat} {rs : List URec} {L : List (Option Hash)} {uv wv : Value} (h : UndoAt W n0 p m rs L uv wv) : ∀ b ∈ blkOf wv, PtrBlk W b := was_ptr h.ow h.nw
theorem FAt.noPtr {w : World} {p m : Nat} {s : Fo} (h : FAt w p m s) {b : Nat} (hb : PtrBlk w b) : b ≠ p ∧ b ≠ m := by
  obtain ⟨⟨tv, wl, h1, h2, h3, h4⟩, _⟩ := h
  refine ⟨fun he => ?_, fun he => hb.map h3 he.symm⟩
  subst he
  obtain ⟨a, cs, hB, _⟩ := hb
  have := blk_inj h1 hB
  simp [u64V] at this
/-- the forest p turns -/
theorem UndoAt.turn {W W' : World} {n0 p m : Nat} {rs : List URec} {L : List (Option Hash)} {uv wv : Value} {s : Fo} (h : UndoAt W n0 p m rs L uv wv) (hf : FAt W p m s) (hu : Upd [p, m] W W') : UndoAt W' n0 p m rs L uv wv where
  recs := fun j r hr => by
    obtain ⟨a, b, c, d, e⟩ := h.recs j r hr
    exact ⟨a.upd hu hf.foreign (by simp), b.upd hu hf.foreign (by simp; omega) (by simp; omega), c, d, e⟩
  u7 := h.u7
  ou := h.ou.upd hu fun b hb => by have := hf.noPtr (h.ptrU b hb); simp; exact this
  ow := h.ow.upd hu fun b hb => by have := hf.noPtr (h.ptrW b hb); simp; exact this
  nu := h.nu
  nw := h.nw
  bu := h.bu
  bw := h.bw
  dj := h.dj
theorem URecAt.ext {W W' : World} {p m j : Nat} {r : URec} {L' : List (Option Hash)} (h : URecAt W p m j r L') (hu : Ext W W') : URecAt W' p m j r L' :=
  ⟨h.u.upd hu (Foreign.nil _) (by simp), h.f.ext hu, h.g, h.L, h.qp⟩
theorem URecAt.updQ {W W' : World} {l : List Nat} {p m j : Nat} {r : URec} {L' : List (Option Hash)} (h : URecAt W p m j r L') (hu : Upd l W W') (hl : ∀ b ∈ l, PtrBlk W b) : URecAt W' p m j r L' :=
  ⟨h.u.updQ hu hl, h.f.updQ hu hl, h.g, h.L, h.qp⟩
theorem UndoAt.ext {W W' : World} {n0 p m : Nat} {rs : List URec} {L : List (Option Hash)} {uv wv : Value} (h : UndoAt W n0 p m rs L uv wv) (hu : Ext W W') : UndoAt W' n0 p m rs L uv wv where
  recs := fun j r hr => (h.recs j r hr).ext hu
  u7 := h.u7
  ou := h.ou.upd hu (by simp)
  ow := h.ow.upd hu (by simp)
  nu := h.nu
  nw := h.nw
  bu := h.bu
  bw := h.bw
  dj := h.dj
theorem undoCs_get {rs : List URec} (h7 : ∀ r ∈ rs, r.u.cells.toList.length = 7) : ∀ {j : Nat} {r : URec}, rs[j]? = some r → ∀ (i : Nat) v, r.u.cells.toList[i]? = some v → (undoCs rs)[j * 7 + i]? = some v := by
  induction rs with
  | nil => intro j r h; simp at h
  | cons x rs ih =>
    intro j r h i v hv
    have hx := h7 x (by simp)
    have hi : i < 7 := by
      have := (List.getElem?_eq_some_iff.1 hv).1
      have h' := h7 r (List.mem_of_getElem? h)
      omega
    simp only [undoCs, List.flatMap_cons]
    cases j with
    | zero =>
      simp at h; subst h
      rw [Nat.zero_mul, Nat.zero_add, List.getElem?_append_left (by omega)]; exact hv
    | succ j =>
      rw [List.getElem?_append_right (by omega), hx, show (j + 1) * 7 + i - 7 = j * 7 + i by omega]
      exact ih (fun r hr => h7 r (by simp [hr])) (by simpa using h) i v hv
theorem UndoAt.at' {W : World} {n0 p m : Nat} {rs : List URec} {L : List (Option Hash)} {uv wv : Value} (h : UndoAt W n0 p m rs L uv wv) {j : Nat} {r : URec} (hr : rs[j]? = some r) :
    ∃ (b cap b' cap' : Nat) (cs : List Value), uv = .slice (some ⟨b, 0, none⟩) rs.length cap ∧ wv = .slice (some ⟨b', 0, none⟩) rs.length cap' ∧ r.u = .agg cs.toArray ∧ cs.length = 7 ∧ Mem W b (0 + j * 7) cs ∧ W.cell? ⟨b', 0 + j * 1, none⟩ = some (ptrV r.q) := by
  have hlt := (List.getElem?_eq_some_iff.1 hr).1
  obtain ⟨hu, _⟩ := h.recs j r hr
  have h7 : ∀ r ∈ rs, r.u.cells.toList.length = 7 := fun r hr => by
    obtain ⟨a, t, cs, h1, h2⟩ := h.u7 r hr
    rw [h1]; simp [h2]
  have hagg : ∃ cs : List Value, r.u = .agg cs.toArray ∧ cs.length = 7 := by
    obtain ⟨⟨tv, gr, cr, gl, cl, hh, _⟩, _⟩ := hu
    exact ⟨_, hh, rfl⟩
  obtain ⟨cs, hcs, hcl⟩ := hagg
  rcases h.ou with ⟨_, h0, _⟩ | ⟨b, cap, rest, rfl, hB, _, _, _⟩
  · omega
  rcases h.ow with ⟨_, h0, _⟩ | ⟨b', cap', rest', rfl, hB', _, _, _⟩
  · omega
  refine ⟨b, cap, b', cap', cs, rfl, rfl, hcs, hcl, ?_, ?_⟩
  · intro i v hv
    refine hB.cell ?_
    have hg := undoCs_get h7 hr i v (by rw [hcs]; show cs.toArray.toList[i]? = _; simpa using hv)
    rw [Nat.zero_add, List.getElem?_append_left (List.getElem?_eq_some_iff.1 hg).1]
    exact hg
  · refine hB'.cell ?_
    have : ((rs.map URec.q).map ptrV)[j]? = some (ptrV r.q) := by simp [hr]
    rw [Nat.zero_add, Nat.mul_one, List.getElem?_append_left (List.getElem?_eq_some_iff.1 this).1]
    exact this
end Go.Sp

namespace Go.Sp
section
variable {P : Program} {w : World}
theorem ModOK.cases {p m : Nat} {s : Fo} {del add : List Hash} {W : World} {v : Value} (h : ModOK p m s del add W v) : ∃ u e, v = .tuple #[u, intV' e] ∧ u.cells.size = 7 ∧ u.cells.toList.all cellValue = true ∧ (∃ a t cs, u.cells.toList = .pointer a :: intV' t :: cs ∧ cs.length = 5) := by
  rcases h with ⟨e, rfl, _⟩ | ⟨u, rfl, _, _, hU⟩
  · exact ⟨_, e, rfl, rfl, rfl, _, 0, _, rfl, rfl⟩
  · refine ⟨u, 0, rfl, hU.cells.1, hU.cells.2, ?_⟩
    obtain ⟨⟨tv, gr, cr, gl, cl, rfl, _⟩, _⟩ := hU
    exact ⟨_, _, _, rfl, rfl⟩
theorem pv_faddr {e : Env} {off b o : Nat} {x : Operand} (hx : e.ev x = some (.pointer (some ⟨b, o, none⟩))) : pureV e (.faddr off x) = some (.pointer (some ⟨b, o + off, none⟩)) := by simp [pureV, hx]
theorem pv_ext {e : Env} {i : Nat} {x : Operand} {vs : Array Value} {v : Value} (hx : e.ev x = some (.tuple vs)) (hv : vs[i]? = some v) : pureV e (.ext x i) = some v := by simp [pureV, hx, hv]
theorem evs1 {e : Env} {x : Operand} {v : Value} (hx : e.ev x = some v) : e.evs [x] = some [v] := by simp [Env.evs, hx]
theorem evs3 {e : Env} {x y z : Operand} {u v t : Value} (hx : e.ev x = some u) (hy : e.ev y = some v) (hz : e.ev z = some t) : e.evs [x, y, z] = some [u, v, t] := by simp [Env.evs, hx, hy, hz]
theorem OpOK.just {m : MOp} {e : Env} {v : Value} {w : World} (h : OpOK P m e w (Just v w)) : OpOK P m e w fun u W => u = v ∧ Ext w W := h.mono fun u W hu => ⟨hu.1, hu.2 ▸ Upd.refl _ _⟩
set_option maxHeartbeats 3200000 in
theorem lundo_ok (A : LawV P) (hT : Tabs A.toShaF w) {v : Value} {l : List (List Hash × List Hash)} (hl : ActsAt w v l) : RetV P A.lundo [v] w (.bool true) := by
  refine Ret.of_exec A.h_lundo (Nat.le_of_ble_eq_true rfl) fun c hc => ?_
  dsimp only [b_spinneylaw14_ForestUndo, argEnv, ym, yo, yg, ys, yt, yd, ye]
  refine xr 1 rfl ?_
  refine xca rfl rfl (new_ok A.toForM) ?_
  rintro _ w1 ⟨p, m, rfl, hp, hm, hF, hu1⟩
  refine xr 5 rfl ?_
  have hlenS : ∃ cs, SlC w v 3 l.length cs := let ⟨cs, h, _⟩ := hl; ⟨cs, h⟩
  obtain ⟨lcs, hLS⟩ := hlenS
  refine exec_inner_join (S := List URec × List (Option Hash) × Value × Value) (fun st W => UndoAt W w.heap.size p m st.1 st.2.1 st.2.2.1 st.2.2.2 ∧ FAt W p m ⟨st.2.1, st.1.length, st.1.length⟩ ∧ st.1.length ≤ 12 ∧ latU st.1 st.2.1 0 = [] ∧ Ext w W)
    (fun st => [(3, ptrV p), (4, st.2.2.1), (5, st.2.2.2)]) ?_ ?_
  · refine xlo (S := Nat × List URec × List (Option Hash) × Value × Value) (fun st W => st.1 ≤ 12 ∧ UndoAt W w.heap.size p m st.2.1 st.2.2.1 st.2.2.2.1 st.2.2.2.2 ∧ FAt W p m ⟨st.2.2.1, st.2.1.length, st.2.1.length⟩ ∧ st.2.1.length ≤ st.1 ∧ st.2.2.1.length ≤ 10 * st.1 ∧ latU st.2.1 st.2.2.1 0 = [] ∧ Ext w W)
      (fun st => [(0, v), (3, ptrV p), (4, st.2.2.2.1), (5, st.2.2.2.2), (6, intV' st.1)]) (fun st => 12 - st.1) (0, [], [], .slice none 0 0, .slice none 0 0)
      ⟨by show 0 ≤ 12; omega, ⟨by simp, by simp, .inl ⟨rfl, rfl, rfl⟩, .inl ⟨rfl, rfl, rfl⟩, fun _ => rfl, fun _ => rfl, by simp [blkOf], by simp [blkOf], by simp [blkOf]⟩, hF, Nat.le_refl _, Nat.le_refl _, rfl, hu1⟩ ⟨rfl, rfl, rfl, rfl, rfl, trivial⟩ ?_
    rintro ⟨i, rs, L, uv, wv⟩ W ⟨i1, hUn, hFp, hk, hL, h00, hwW⟩
    simp only at i1 hUn hFp hk hL h00
    refine xtm rfl rfl rfl ?_
    refine xtm rfl rfl rfl ?_
    refine xpu (hLS.lenS rfl) rfl ?_
    by_cases hil : i < l.length
    case neg =>
      refine xpu (pv_lssI (a := i) (b := l.length) (q := false) rfl rfl (by simpa using hil)) rfl ?_
      refine xr 6 rfl ?_
      refine exec_meet (rs, L, uv, wv) ⟨hUn, hFp, by show rs.length ≤ 12; omega, h00, hwW⟩ ⟨rfl, rfl, rfl, trivial⟩
    refine xpu (pv_lssI (a := i) (b := l.length) (q := true) rfl rfl (by simpa using hil)) rfl ?_
    refine xr 4 rfl ?_
    by_cases hi12 : i < 12
    case neg =>
      refine xpu (pv_lssI (a := i) (b := 12) (q := false) rfl rfl (by simpa using hi12)) rfl ?_
      refine xr 3 rfl ?_
      refine exec_meet (rs, L, uv, wv) ⟨hUn, hFp, by show rs.length ≤ 12; omega, h00, hwW⟩ ⟨rfl, rfl, rfl, trivial⟩
    refine xpu (pv_lssI (a := i) (b := 12) (q := true) rfl rfl (by simpa using hi12)) rfl ?_
    refine xr 5 rfl ?_
    refine xca rfl rfl (copy_ok A.toForR hFp) ?_
    rintro _ w2 ⟨q, mq, rfl, hq, hmq, hFq, hu2⟩
    have hE2 : Ext w w2 := hwW.trans hu2
    have hUn2 := hUn.ext hu2
    have hFp2 := hFp.ext hu2
    have htab := hFp2.tabs (hT.upd hE2)
    have zW := hwW.size
    have kp := hFp.lt
    refine xr 1 rfl ?_
    obtain ⟨⟨del, add⟩, hai⟩ : ∃ a, l[i]? = some a := ⟨_, List.getElem?_eq_getElem hil⟩
    obtain ⟨bl, ol, cl, x, dv, ad, hv, _, hml, hSd, hSa⟩ := hl.at' hai
    simp only at hSd hSa
    refine xen [(0, v), (3, ptrV p), (4, uv), (5, wv), (6, intV' i), (7, ptrV q)] ⟨rfl, rfl, rfl, rfl, rfl, rfl, trivial⟩ ?_
    have hd10 : (del.take 10).length ≤ 10 := by rw [List.length_take]; omega
    have ha10 : (add.take 10).length ≤ 10 := by rw [List.length_take]; omega
    refine exec_drawJ (RegJ w2 p m ⟨L, rs.length, rs.length⟩ (del.take 10) (add.take 10) [(0, ptrV p), (1, v), (2, intV' i), (3, .pointer (some ⟨bl, ol + i * 3, none⟩)), (4, .pointer (some ⟨bl, ol + i * 3 + 1, none⟩)), (5, dv), (6, cutV dv del), (7, v), (8, intV' i), (9, .pointer (some ⟨bl, ol + i * 3, none⟩)), (10, .pointer (some ⟨bl, ol + i * 3 + 2, none⟩)), (11, ad), (12, cutV ad add)]) ?_ rfl rfl ?_ ?_
    · intro S hS
      have hS' : ∀ i, i < 19 → S i = false := hS
      refine ⟨fun j x hm hs => ?_, (Upd.drew [] w2 _).mono (by simp), fun _ => Upd.drew [] w2 _, (fun h => by rw [hS' 13 (by omega)] at h; cases h), (fun h => by rw [hS' 14 (by omega)] at h; cases h), (fun h => by rw [hS' 15 (by omega)] at h; cases h), (fun h => by rw [hS' 16 (by omega)] at h; cases h), (fun h => by rw [hS' 17 (by omega)] at h; cases h)⟩
      rw [hS' j (by simp at hm; omega)] at hs; cases hs
    · have hk13 : ∀ i' y, (i', y) ∈ [(0, ptrV p), (1, v), (2, intV' i), (3, .pointer (some ⟨bl, ol + i * 3, none⟩)), (4, .pointer (some ⟨bl, ol + i * 3 + 1, none⟩)), (5, dv), (6, cutV dv del), (7, v), (8, intV' i), (9, .pointer (some ⟨bl, ol + i * 3, none⟩)), (10, .pointer (some ⟨bl, ol + i * 3 + 2, none⟩)), (11, ad), (12, cutV ad add)] → i' < 13 := by
        intro i' y h; simp at h; omega
      refine ⟨fun S X vs hJ hS hd hx => hJ.pure (by omega) (by simp) rfl, fun S X vs hJ hS hd hx => hJ.pure (by omega) (by simp) rfl, fun S X vs hJ hS hd hx => hJ.pure (by omega) (by simp) rfl,
        fun S X vs hJ hS hd hx => hJ.ok (x := .pointer (some ⟨bl, ol + i * 3, none⟩)) (by omega) (by simp) ?_, fun S X vs hJ hS hd hx => hJ.pure (x := .pointer (some ⟨bl, ol + i * 3 + 1, none⟩)) (by omega) (by simp) ?_, fun S X vs hJ hS hd hx => hJ.ok (x := dv) (by omega) (by simp) ?_, fun S X vs hJ hS hd hx => hJ.ok (x := cutV dv del) (by omega) (by simp) ?_,
        fun S X vs hJ hS hd hx => hJ.pure (by omega) (by simp) rfl, fun S X vs hJ hS hd hx => hJ.pure (by omega) (by simp) rfl,
        fun S X vs hJ hS hd hx => hJ.ok (x := .pointer (some ⟨bl, ol + i * 3, none⟩)) (by omega) (by simp) ?_, fun S X vs hJ hS hd hx => hJ.pure (x := .pointer (some ⟨bl, ol + i * 3 + 2, none⟩)) (by omega) (by simp) ?_, fun S X vs hJ hS hd hx => hJ.ok (x := ad) (by omega) (by simp) ?_, fun S X vs hJ hS hd hx => hJ.ok (x := cutV ad add) (by omega) (by simp) ?_,
        fun S X vs hJ hS hd hx => ?_, fun S X vs hJ hS hd hx => ?_, fun S X vs hJ hS hd hx => ?_, fun S X vs hJ hS hd hx => ?_, fun S X vs hJ hS hd hx => ?_, fun S X vs hJ hS hd hx => ?_, trivial⟩
      · have q1 := hJ.kn 1 v (by simp) (hd 1 (by simp))
        have q2 := hJ.kn 2 (intV' i) (by simp) (hd 2 (by simp))
        exact (ok_iaddr (N := 3) (b := bl) (o := ol) (len := l.length) (cap := cl) (by show some (vs 1) = _; rw [q1, hv]) (by show some (vs 2) = _; rw [q2]) i rfl hil).just
      · have q := hJ.kn 3 (.pointer (some ⟨bl, ol + i * 3, none⟩)) (by simp) (hd 3 (by simp))
        exact pv_faddr (by show some (vs 3) = _; rw [q])
      · have q := hJ.kn 4 (.pointer (some ⟨bl, ol + i * 3 + 1, none⟩)) (by simp) (hd 4 (by simp))
        have hX := hJ.bef (hx 13 _ _ _ _ rfl (by simp))
        exact (ok_load1 (b := bl) (o := ol + i * 3 + 1) (by show some (vs 4) = _; rw [q]) ((hml.upd (hE2.trans hX) (by simp)) 1 dv rfl)).just
      · have q := hJ.kn 5 dv (by simp) (hd 5 (by simp))
        have hX := hJ.bef (hx 13 _ _ _ _ rfl (by simp))
        exact ok_call (vs := [dv]) (evs1 (by show some (vs 5) = _; rw [q])) (cut_ok A.toLawF (hSd.upd (hE2.trans hX) (by simp)))
      · have q1 := hJ.kn 7 v (by simp) (hd 7 (by simp))
        have q2 := hJ.kn 8 (intV' i) (by simp) (hd 8 (by simp))
        exact (ok_iaddr (N := 3) (b := bl) (o := ol) (len := l.length) (cap := cl) (by show some (vs 7) = _; rw [q1, hv]) (by show some (vs 8) = _; rw [q2]) i rfl hil).just
      · have q := hJ.kn 9 (.pointer (some ⟨bl, ol + i * 3, none⟩)) (by simp) (hd 9 (by simp))
        exact pv_faddr (by show some (vs 9) = _; rw [q])
      · have q := hJ.kn 10 (.pointer (some ⟨bl, ol + i * 3 + 2, none⟩)) (by simp) (hd 10 (by simp))
        have hX := hJ.bef (hx 13 _ _ _ _ rfl (by simp))
        exact (ok_load1 (b := bl) (o := ol + i * 3 + 2) (by show some (vs 10) = _; rw [q]) ((hml.upd (hE2.trans hX) (by simp)) 2 ad rfl)).just
      · have q := hJ.kn 11 ad (by simp) (hd 11 (by simp))
        have hX := hJ.bef (hx 13 _ _ _ _ rfl (by simp))
        exact ok_call (vs := [ad]) (evs1 (by show some (vs 11) = _; rw [q])) (cut_ok A.toLawF (hSa.upd (hE2.trans hX) (by simp)))
      · have q0 := hJ.kn 0 (ptrV p) (by simp) (hd 0 (by simp))
        have q6 := hJ.kn 6 (cutV dv del) (by simp) (hd 6 (by simp))
        have q12 := hJ.kn 12 (cutV ad add) (by simp) (hd 12 (by simp))
        have hX := hJ.bef hS
        have hSdX := cutV_sl (hSd.upd (hE2.trans hX) (by simp))
        have hSaX := cutV_sl (hSa.upd (hE2.trans hX) (by simp))
        have z2 := hu2.size
        refine OpOK.mono (ok_call (vs := [ptrV p, cutV dv del, cutV ad add]) ?_ (modify_ok A.toForL (hT.upd (hE2.trans hX)) (hFp2.ext hX) hSdX hSaX (by show L.length + _ < _; omega) (by omega) (by show rs.length + 1 < _; omega))) (fun u W' h => ⟨trivial, ?_⟩)
        · exact evs3 (by show some (vs 0) = _; rw [q0]) (by show some (vs 6) = _; rw [q6]) (by show some (vs 12) = _; rw [q12])
        · have hM : Upd [p, m] X W' ∧ ModOK p m ⟨L, rs.length, rs.length⟩ (del.take 10) (add.take 10) W' u := by
            rcases h with ⟨e, h1, h2, h3⟩ | ⟨u', h1, h2, h3, h4, h5⟩
            · exact ⟨h3.mono (by simp), .inl ⟨e, h1, h2, (hFp2.ext hX).ext h3⟩⟩
            · exact ⟨h5, .inr ⟨u', h1, h2, h3, h4⟩⟩
          exact hJ.modify (fun y hy => by have := hk13 _ _ hy; omega) (by omega) (by omega) (hx 14 _ _ _ _ rfl (by simp)) (hx 15 _ _ _ _ rfl (by simp)) (hx 16 _ _ _ _ rfl (by simp)) (hx 18 _ _ _ _ rfl (by simp)) hM.1 hM.2
      · have h13 := hd 13 (by simp)
        refine OpOK.mono (ok_pure (v := vs 13) rfl) (fun u W' h => ⟨trivial, ?_⟩)
        rw [h.1, h.2]
        exact hJ.late hk13 (.inl rfl) h13 (fun h => by omega) (Upd.refl _ _) (fun _ => rfl) (fun h => by omega) (fun h => by omega)
      · have h13 := hd 13 (by simp)
        obtain ⟨u, e, h1, h2⟩ := (hJ.mod h13).cases
        have h14 := (hJ.r14 (hd 14 (by simp))).2.trans h1
        refine OpOK.mono (ok_pure (v := u) (pv_ext (by show some (vs 14) = _; rw [h14]) rfl)) (fun u' W' h => ⟨trivial, ?_⟩)
        rw [h.1, h.2]
        exact hJ.late hk13 (.inr (.inl rfl)) h13 (fun _ => hx 18 _ _ _ _ rfl (by simp)) (Upd.refl _ _) (fun h => by omega) (fun _ => ⟨u, e, h1, rfl⟩) (fun h => by omega)
      · have h13 := hd 13 (by simp)
        obtain ⟨u, e, h1, h2⟩ := (hJ.mod h13).cases
        have h14 := (hJ.r14 (hd 14 (by simp))).2.trans h1
        refine OpOK.mono (ok_pure (v := intV' e) (pv_ext (by show some (vs 14) = _; rw [h14]) rfl)) (fun u' W' h => ⟨trivial, ?_⟩)
        rw [h.1, h.2]
        exact hJ.late hk13 (.inr (.inr rfl)) h13 (fun h => by omega) (Upd.refl _ _) (fun h => by omega) (fun h => by omega) (fun _ => ⟨u, e, h1, rfl⟩)
      · refine OpOK.mono ok_new (fun u W' h => ⟨trivial, ?_⟩)
        obtain ⟨b, rfl, hB, hb, hu⟩ := h
        exact hJ.newb hk13 (hx 18 _ _ _ _ rfl (by simp)) hu (by have := hJ.up.size; omega) hB
      · have h15 := hd 15 (by simp)
        have h17 := hd 17 (by simp)
        obtain ⟨h13, u, e, h1, h2⟩ := hJ.r15 h15
        obtain ⟨b, hb, hb2, hB0, _⟩ := hJ.r17 h17
        obtain ⟨u', e', g1, g2, g3, g4⟩ := (hJ.mod h13).cases
        have hB0 := hB0 hS
        have hu' : u = u' := by have := h1.symm.trans g1; simp at this; exact this.1
        subst hu'
        refine OpOK.mono (ok_store (B := b) (o := 0) (v := u) (cs := undoZ) (by show some (vs 17) = _; rw [hb]) (by show some (vs 15) = _; rw [h2]) hB0 g2 (by decide) g3) (fun u' W' h => ⟨trivial, ?_⟩)
        obtain ⟨k1, k2, k3⟩ := h
        have e1 : splice undoZ 0 u.cells.toList = u.cells.toList := by
          have : u.cells.toList.length = 7 := by simpa using g2
          simp [splice, this, undoZ]
        rw [e1] at k3
        obtain ⟨a, t, cs, g4, g5⟩ := g4
        exact hJ.fill hk13 h15 h17 hb k1 hB0 (by rw [h2]; exact k3) ⟨a, t, cs, by rw [← g4]; exact k3, g5⟩
    · intro S vs X hJ hall
      obtain ⟨b8, q17, hb8, _, hB8⟩ := hJ.r17 (hall 17 (Nat.le_of_ble_eq_true rfl))
      have hB8 := (hB8 (hall 18 (Nat.le_of_ble_eq_true rfl))).2
      obtain ⟨_, u, e0, q13, q15⟩ := hJ.r15 (hall 15 (Nat.le_of_ble_eq_true rfl))
      obtain ⟨_, u', e1, q13', q16⟩ := hJ.r16 (hall 16 (Nat.le_of_ble_eq_true rfl))
      have hee : e1 = e0 := by
        have := q13'.symm.trans q13
        simp only [Value.tuple.injEq, Array.mk.injEq, List.cons.injEq, and_true] at this
        have h2 := this.2
        simp only [intV', Value.int.injEq, true_and] at h2
        omega
      subst hee
      have hM := hJ.mod (hall 13 (Nat.le_of_ble_eq_true rfl))
      rw [q13] at hM
      rw [q15] at hB8
      have hUX := hJ.up
      clear hJ hall
      refine xen [(0, v), (3, ptrV p), (4, uv), (5, wv), (6, intV' i), (7, ptrV q), (8, ptrV b8), (41, intV' e1)] ⟨rfl, rfl, rfl, rfl, rfl, rfl, by show some (vs 17) = _; rw [q17], by show some (vs 16) = _; rw [q16], trivial⟩ ?_
      clear q13 q13' q15 q16 q17
      have hUnX := hUn2.turn hFp2 hUX
      have z2 := hu2.size
      have hFqX : FAt X q mq ⟨L, rs.length, rs.length⟩ := hFq.upd hUX hFp2.foreign (by simp; omega) (by simp; omega)
      have hwX : Ext w X := hE2.trans hUX (fun b hb => .inr (by simp at hb; rcases hb with rfl | rfl <;> omega))
      refine xr 2 rfl ?_
      rcases hM with ⟨e2, hu, hR, hFp4⟩ | ⟨u2, hu, hGr, hFp4, hU4⟩
      · have he0 : e1 ≠ 0 := by
          simp [intV'] at hu
          rcases hR with ⟨rfl, _⟩ | ⟨rfl, _⟩ | ⟨rfl, _⟩ <;> omega
        refine xpu (pv_neqI (a := e1) (b := 0) (q := true) rfl rfl (by simpa using he0)) rfl ?_
        refine xr 3 rfl ?_
        refine xca rfl rfl (equal_ok A.toLawU hFp4 hFqX rfl) ?_
        rintro _ Y ⟨rfl, hY⟩
        refine xr 6 rfl ?_
        refine xpu (pv_addI (a := i) (b := 1) rfl rfl (by omega)) rfl ?_
        refine xr 1 rfl ?_
        exact xag (i + 1, rs, L, uv, wv) ⟨hi12, hUnX.ext hY, hFp4.ext hY, Nat.le_succ_of_le hk, by show L.length ≤ 10 * (i + 1); omega, h00, hwX.trans hY⟩ (by show 12 - (i + 1) < 12 - i; omega) ⟨rfl, rfl, rfl, rfl, rfl, trivial⟩
      · have hu2' : u = u2 ∧ e1 = 0 := by
          simp [intV'] at hu; exact hu
        obtain ⟨rfl, rfl⟩ := hu2'
        have hU4' := hU4
        have hmlen : (modL (del.take 10) (add.take 10) L).length ≤ 10 * (i + 1) := by
          rw [modL_len]; omega
        obtain ⟨⟨tv, gr, cr, gl, ccl, rfl, _⟩, _⟩ := hU4'
        have hce := hU4.cells.2
        generalize hLn : modL (del.take 10) (add.take 10) L = Ln at *
        refine xpu (pv_neqI (a := 0) (b := 0) (q := false) rfl rfl rfl) rfl ?_
        refine xr 3 rfl ?_
        refine exec_loadN (b := b8) (o := 0) (vs := [ptrV p, intV' (rs.length + 1), intV' rs.length, u64V L.length, tv, .map (some gr), .map (some cr)]) rfl rfl (Blk.memAll hB8) rfl ?_
        refine exec_litL (N := 7) (cs := [ptrV p, intV' (rs.length + 1), intV' rs.length, u64V L.length, tv, .map (some gr), .map (some cr)]) (l := [(0, 7, .agg #[ptrV p, intV' (rs.length + 1), intV' rs.length, u64V L.length, tv, .map (some gr), .map (some cr)])]) rfl rfl rfl rfl ?_
        intro bq Y1 hbq hsq hY1 hOq
        have hUn1 := hUnX.ext hY1
        have kl : ∀ b ∈ blkOf wv, b < W.heap.size := hUn.ow.own.lt
        have kl' : ∀ b ∈ blkOf uv, b < W.heap.size := hUn.ou.lt
        have zX := hUX.size
        have zY1 := hY1.size
        refine exec_ok (ok_append (N := 7) rfl rfl hUn1.ou hOq.sl rfl (by decide) (by omega) hce) rfl ?_
        rintro uv2 Y2 ⟨hO2, hY2, hf2, hl2⟩
        have zY2 := hY2.size
        have hW2 : OwnR (fun x => x = .pointer none) Y2 wv 1 rs.length ((rs.map URec.q).map ptrV) := hUn1.ow.upd hY2 fun b hb hb' => hUn1.dj b hb' hb
        refine xr 3 rfl ?_
        refine exec_litL (N := 1) (cs := [ptrV q]) (l := [(0, 1, ptrV q)]) rfl rfl rfl rfl ?_
        intro br Y3 hbr hsr hY3 hOr
        have zY3 := hY3.size
        have hW3 := hW2.upd hY3 (by simp)
        refine exec_ok (ok_appendR (N := 1) rfl rfl hW3 hOr.sl rfl (by simp [rle]) (by decide) (by omega) rfl) rfl ?_
        rintro wv2 Y4 ⟨hO4, hY4, hf4, hl4⟩
        refine xr 4 rfl ?_
        refine xpu (pv_addI (a := i) (b := 1) rfl rfl (by omega)) rfl ?_
        refine xr 1 rfl ?_
        have hpU := hUn1.ptrU
        have hpW := was_ptr hW3 hUn.nw
        have hFp' : FAt Y4 p m ⟨Ln, rs.length + 1, rs.length + 1⟩ := (((hFp4.ext hY1).updQ hY2 hpU).ext hY3).updQ hY4 hpW
        have hrec : ∀ j r, rs[j]? = some r → URecAt Y4 p m j r (latU rs L (j + 1)) := fun j r hr => (((hUn1.recs j r hr).updQ hY2 hpU).ext hY3).updQ hY4 hpW
        have hnew0 : URecAt X p m rs.length ⟨.agg #[ptrV p, intV' (rs.length + 1), intV' rs.length, u64V L.length, tv, .map (some gr), .map (some cr)], q, mq, L, del.take 10, add.take 10⟩ Ln := ⟨hU4, hFqX, hGr, hLn.symm, by show q ≠ p ∧ q ≠ m ∧ mq ≠ p ∧ mq ≠ m; omega⟩
        have hnew := (((hnew0.ext hY1).updQ hY2 hpU).ext hY3).updQ hY4 hpW
        refine xag (i + 1, rs ++ [⟨.agg #[ptrV p, intV' (rs.length + 1), intV' rs.length, u64V L.length, tv, .map (some gr), .map (some cr)], q, mq, L, del.take 10, add.take 10⟩], Ln, uv2, wv2) ⟨hi12, ⟨?_, ?_, ?_, ?_, ?_, ?_, ?_, ?_, ?_⟩, ?_, ?_, hmlen, ?_, ?_⟩ (by show 12 - (i + 1) < 12 - i; omega) ⟨rfl, rfl, rfl, rfl, rfl, trivial⟩
        · intro j r hr
          rcases Nat.lt_or_ge j rs.length with hj | hj
          · rw [List.getElem?_append_left hj] at hr
            rw [latU_push rfl (by omega)]
            exact hrec j r hr
          · have hj2 : j = rs.length := by
              have := (List.getElem?_eq_some_iff.1 hr).1
              simp at this; omega
            subst hj2
            simp at hr
            subst hr
            have : latU (rs ++ [(⟨.agg #[ptrV p, intV' (rs.length + 1), intV' rs.length, u64V L.length, tv, .map (some gr), .map (some cr)], q, mq, L, del.take 10, add.take 10⟩ : URec)]) Ln (rs.length + 1) = Ln := by
              have := latU_end (rs ++ [(⟨.agg #[ptrV p, intV' (rs.length + 1), intV' rs.length, u64V L.length, tv, .map (some gr), .map (some cr)], q, mq, L, del.take 10, add.take 10⟩ : URec)]) Ln
              simpa using this
            rw [this]
            exact hnew
        · intro r hr
          rcases List.mem_append.1 hr with hr | hr
          · exact hUn.u7 r hr
          · simp at hr; subst hr
            exact ⟨_, _, _, rfl, rfl⟩
        · have h5 := (hO2.upd hY3 (by simp)).upd hY4 (fun b hb hb' => by
            have h1 := hl2 b hb
            rcases hf2 b hb with g | g
            · exact hUn1.dj b g hb'
            · have := kl b hb'; omega)
          have e1 : undoCs (rs ++ [(⟨.agg #[ptrV p, intV' (rs.length + 1), intV' rs.length, u64V L.length, tv, .map (some gr), .map (some cr)], q, mq, L, del.take 10, add.take 10⟩ : URec)]) = undoCs rs ++ [ptrV p, intV' (rs.length + 1), intV' rs.length, u64V L.length, tv, .map (some gr), .map (some cr)] := by
            rw [undoCs, undoCs, List.flatMap_append]; rfl
          show OwnC Y4 uv2 7 (rs ++ [_]).length (undoCs (rs ++ [_]))
          rw [e1, List.length_append]
          exact h5
        · show OwnR _ Y4 wv2 1 (rs ++ [_]).length _
          rw [List.length_append, List.map_append, List.map_append]
          exact hO4
        · intro h; simp at h
        · intro h; simp at h
        · intro b hb
          rcases hf2 b hb with g | g
          · exact hUn1.bu b g
          · have := hwX.size; omega
        · intro b hb
          rcases hf4 b hb with g | g
          · exact hUn1.bw b g
          · have := hwX.size; omega
        · intro b hb hb'
          have h1 := hl2 b hb
          rcases hf4 b hb' with g | g
          · rcases hf2 b hb with g' | g'
            · exact hUn1.dj b g' g
            · have := kl b g; omega
          · omega
        · show FAt Y4 p m ⟨Ln, (rs ++ [_]).length, (rs ++ [_]).length⟩
          rw [List.length_append]
          exact hFp'
        · show (rs ++ [_]).length ≤ i + 1
          rw [List.length_append]; show rs.length + 1 ≤ i + 1; omega
        · show latU (rs ++ [_]) Ln 0 = []
          rw [latU_push rfl (by omega)]; exact h00
        · have hB1 := hUn.bu
          have hB2 := hUn.bw
          exact (((hwX.trans hY1).trans hY2 (fun b hb => .inr (hB1 b hb))).trans hY3).trans hY4 (fun b hb => .inr (hB2 b hb))
  rintro ⟨rs, L, uv, wv⟩ W ⟨hUn, hFp, hk, h00, hwW⟩
  simp only at hUn hFp hk h00
  refine xtm rfl rfl rfl ?_
  refine xpu (hUn.ou.sl.lenS rfl) rfl ?_
  refine xpu (pv_subZ (a := (rs.length : Int)) (b := 1) rfl rfl (by omega) (by omega)) rfl ?_
  refine xr 2 rfl ?_
  refine xlo (S := Nat) (fun ct X => ct ≤ rs.length ∧ UndoAt X w.heap.size p m rs L uv wv ∧ FAt X p m ⟨latU rs L ct, ct, rs.length⟩ ∧ Ext w X)
    (fun ct => [(3, ptrV p), (4, uv), (5, wv), (10, .int .i64 ((ct : Int) - 1))]) (fun ct => ct) rs.length ⟨Nat.le_refl _, hUn, by rw [latU_end]; exact hFp, hwW⟩ ⟨rfl, rfl, rfl, rfl, trivial⟩ ?_
  rintro ct X ⟨c1, cU, cF, cE⟩
  refine xtm rfl rfl rfl ?_
  cases ct with
  | zero =>
    refine xpu (v := .bool false) rfl rfl ?_
    refine xr 4 rfl ?_
    refine xca rfl rfl (stump_ok A.toForO cF) ?_
    rintro _ X1 ⟨rv, rfl, hx1, _⟩
    rw [h00]
    refine xr 1 rfl ?_
    refine xpu (v := .bool true) rfl rfl ?_
    refine xr 2 rfl ?_
    refine xca rfl rfl (works_ok A.toLawG (hT.upd (cE.trans hx1))) ?_
    rintro _ X2 ⟨rfl, hx2⟩
    refine xr 2 rfl ?_
    exact xre hc [_] ⟨rfl, trivial⟩ ⟨rfl, (cE.trans hx1).trans hx2⟩
  | succ ct =>
    have hcast : (((ct + 1 : Nat) : Int) - 1) = (ct : Int) := by omega
    rw [hcast]
    refine xpu (pv_geqI (a := ct) (b := 0) (q := true) rfl rfl (by simp)) rfl ?_
    refine xr 5 rfl ?_
    obtain ⟨r, hr⟩ : ∃ r, rs[ct]? = some r := ⟨_, List.getElem?_eq_getElem (by omega)⟩
    refine xlo (S := Nat) (fun k Y => k ≤ ct ∧ Ext X Y) (fun k => [(3, ptrV p), (4, uv), (5, wv), (10, intV' ct), (11, intV' k)]) (fun k => ct - k) 0 ⟨Nat.zero_le _, Upd.refl _ _⟩ ⟨rfl, rfl, rfl, rfl, rfl, trivial⟩ ?_
    rintro k Y ⟨k1, kE⟩
    have kU := cU.ext kE
    have kF := cF.ext kE
    refine xr 2 rfl ?_
    by_cases hkc : k < ct
    · refine xpu (pv_lssI (a := k) (b := ct) (q := true) rfl rfl (by simpa using hkc)) rfl ?_
      refine xr 6 rfl ?_
      obtain ⟨r', hr'⟩ : ∃ r, rs[k]? = some r := ⟨_, List.getElem?_eq_getElem (by omega)⟩
      obtain ⟨b, cap, b', cap', cs, hub, _, hcs, hcl, hmu, _⟩ := kU.at' hr'
      refine xju (ok_iaddr (N := 7) (b := b) (o := 0) (len := rs.length) (cap := cap) (by rw [← hub]; rfl) rfl k rfl (by omega)) rfl ?_
      refine exec_loadN (b := b) (o := 0 + k * 7) (vs := cs) rfl rfl hmu hcl ?_
      have hU := (kU.recs k r' hr').u
      rw [hcs] at hU
      obtain ⟨⟨tv, wl, hB, _⟩, _⟩ := id kF
      refine xca rfl rfl (undo_no A.toForQ kF hU hB (.inr (by show k + 1 ≠ ct + 1; omega))) ?_
      rintro _ Y1 ⟨rfl, hy1⟩
      refine xpu (v := .bool false) rfl rfl ?_
      refine xr 5 rfl ?_
      refine xpu (pv_addI (a := k) (b := 1) rfl rfl (by omega)) rfl ?_
      refine xr 1 rfl ?_
      exact xag (k + 1) ⟨hkc, kE.trans hy1⟩ (by show ct - (k + 1) < ct - k; omega) ⟨rfl, rfl, rfl, rfl, rfl, trivial⟩
    · refine xpu (pv_lssI (a := k) (b := ct) (q := false) rfl rfl (by simpa using hkc)) rfl ?_
      refine xr 3 rfl ?_
      have hrec := kU.recs ct r hr
      have hL' := hrec.L
      obtain ⟨b, cap, b', cap', cs, hub, hwb, hcs, hcl, hmu, hmw⟩ := kU.at' hr
      have hU := hrec.u
      rw [hcs] at hU
      obtain ⟨⟨tvp, wlp, hBp, _⟩, _⟩ := id kF
      have hpW := kU.ptrW
      have hnb' : b' ∉ [p, m] := by
        have := kF.noPtr (hpW b' (by rw [hwb]; simp [blkOf]))
        simp; exact this
      refine xen [(3, ptrV p), (4, uv), (5, wv), (10, intV' ct)] ⟨rfl, rfl, rfl, rfl, trivial⟩ ?_
      refine exec_dws [p, m] 16 (fun Z => FAt Z p m ⟨r.L, ct, rs.length⟩) (fun Z Z' h hu => h.ext hu) rfl rfl rfl ?_
      repeat (first | refine wtm rfl rfl rfl ?_ | refine wgt rfl rfl rfl rfl ?_ | refine wgs rfl rfl ?_)
      refine ws_any _ rfl (fun Z => ok_iaddr (N := 1) (b := b') (o := 0) (len := rs.length) (cap := cap') (by rw [← hwb]; rfl) rfl ct rfl (by omega)) ?_
      refine ws_ok (ptrV r.q) rfl rfl (fun Z hu => ok_load1 (b := b') (o := 0 + ct * 1) rfl (by
        have : Mem Y b' (0 + ct * 1) [ptrV r.q] := fun i v hv => by
          match i, hv with
          | 0, hv => cases hv; exact hmw
        exact (this.upd hu) 0 _ rfl)) ?_
      repeat (first | refine wtm rfl rfl rfl ?_ | refine wgt rfl rfl rfl rfl ?_ | refine wgs rfl rfl ?_)
      refine ws_any _ rfl (fun Z => ok_iaddr (N := 7) (b := b) (o := 0) (len := rs.length) (cap := cap) (by rw [← hub]; rfl) rfl ct rfl (by omega)) ?_
      refine ws_ok (.agg cs.toArray) rfl rfl (fun Z hu => ok_loadN (b := b) (o := 0 + ct * 7) rfl (hmu.upd hu) hcl) ?_
      refine ws_okE (intV' 2) rfl rfl (fun Z hu => ok_call rfl (undo_no A.toForQ (hrec.f.ext hu) (hU.upd hu (Foreign.nil _) (by simp)) (hBp.upd hu) (.inl (Ne.symm hrec.qp.1)))) ?_
      refine ws_val rfl (pv_neqI (a := 2) (b := 2) (q := false) rfl rfl (by simp)) ?_
      repeat (first | refine wtm rfl rfl rfl ?_ | refine wgt rfl rfl rfl rfl ?_ | refine wgs rfl rfl ?_)
      refine ws_gany _ rfl rfl (fun Z => ok_iaddr (N := 7) (b := b) (o := 0) (len := rs.length) (cap := cap) (by rw [← hub]; rfl) rfl ct rfl (by omega)) ?_
      refine ws_gok (.agg cs.toArray) rfl rfl rfl (fun Z hu => ok_loadN (b := b) (o := 0 + ct * 7) rfl (hmu.upd hu) hcl) ?_
      refine ws_gwr (intV' 0) rfl rfl (fun Z hu => (ok_call rfl (undo_ok A.toForQ (kF.ext hu) (hU.upd hu (Foreign.nil _) (by simp)) hL' hrec.g)).mono fun v Z' h => ⟨h.1, h.2.2, h.2.1⟩) ?_
      refine ws_gval rfl rfl (pv_neqI (a := 0) (b := 0) (q := false) rfl rfl (by simp)) ?_
      repeat (first | refine wtm rfl rfl rfl ?_ | refine wgt rfl rfl rfl rfl ?_ | refine wgs rfl rfl ?_)
      refine ws_gany _ rfl rfl (fun Z => ok_iaddr (N := 1) (b := b') (o := 0) (len := rs.length) (cap := cap') (by rw [← hwb]; rfl) rfl ct rfl (by omega)) ?_
      refine ws_gupd (ptrV r.q) rfl rfl (fun Z hu => ok_load1 (b := b') (o := 0 + ct * 1) rfl (by
        have : Mem Y b' (0 + ct * 1) [ptrV r.q] := fun i v hv => by
          match i, hv with
          | 0, hv => cases hv; exact hmw
        exact (this.upd hu hnb') 0 _ rfl)) ?_
      refine ws_end fun Z hu hW => ?_
      have zF := hW rfl
      have zU := kU.turn kF hu
      have zq := (zU.recs ct r hr).f
      refine xr 1 rfl ?_
      refine xca rfl rfl (equal_ok A.toLawU zF zq rfl) ?_
      rintro _ Z1 ⟨rfl, hz1⟩
      refine xr 8 rfl ?_
      refine xpu (pv_subZ (a := (ct : Int)) (b := 1) rfl rfl (by omega) (by omega)) rfl ?_
      refine xr 1 rfl ?_
      have kp := hp
      refine xag ct ⟨by omega, zU.ext hz1, ?_, ((cE.trans kE).trans hu (fun b hb => .inr (by simp at hb; rcases hb with rfl | rfl <;> omega))).trans hz1⟩ (by show ct < ct + 1; omega) ⟨rfl, rfl, rfl, rfl, trivial⟩
      rw [latU_some hr]
      exact zF.ext hz1
end
end Go.Sp

namespace Go.Sp
open Go.Sort (order2 median medianAdjacent choosePivot Hint)
def hintN : Hint → Nat
  | .unknown => 0
  | .increasing => 1
  | .decreasing => 2
section
variable {P : Program} {f : Nat} {w : World} (A : SortF P)
theorem order2_ok (h : Has P f (b_slices_order2Ordered_uint64 A.less)) {b n cap x y s bs : Nat} {d : Array Nat} {rest : List Value} (hB : Blk w b (row d rest)) (hS : Blk w bs [intV' s]) (hd : d.size = n) (hx : x < n) (hy : y < n) (hn : n < 2 ^ 40) (hs : s < 2 ^ 40) :
    Ret P f [slV b n cap, intV' x, intV' y, ptrV bs] w fun v w' => v = .tuple #[intV' (order2 ltN d x y s).1, intV' (order2 ltN d x y s).2.1] ∧ Blk w' bs [intV' (order2 ltN d x y s).2.2] ∧ Upd [bs] w w' := by
  refine Ret.of_exec h (Nat.le_of_ble_eq_true rfl) fun c hc => ?_
  dsimp only [b_slices_order2Ordered_uint64, argEnv, ym, yo, yg, ys, yt, yd, ye]
  refine xr 2 rfl ?_
  refine exec_dw [] rfl rfl rfl ?_
  repeat (first | refine dau rfl (fun _ => rfl) ?_ | refine dga rfl (fun _ => rfl) (fun _ => rfl) ?_ | refine dgs (fun _ => rfl) ?_)
  refine dw_keep _ (fun vs W' hu _ => ok_iaddr (b := b) (o := 0) (len := n) (cap := cap) rfl rfl (y) rfl (by omega)) ?_
  refine dw_keep (u64V d[y]!) (fun vs W' hu _ => ok_load1 (b := b) (o := 0 + (y) * 1) rfl ((hB.upd hu).cell (row_get (by omega)))) ?_
  repeat (first | refine dau rfl (fun _ => rfl) ?_ | refine dga rfl (fun _ => rfl) (fun _ => rfl) ?_ | refine dgs (fun _ => rfl) ?_)
  refine dw_keep _ (fun vs W' hu _ => ok_iaddr (b := b) (o := 0) (len := n) (cap := cap) rfl rfl (x) rfl (by omega)) ?_
  refine dw_keep (u64V d[x]!) (fun vs W' hu _ => ok_load1 (b := b) (o := 0 + (x) * 1) rfl ((hB.upd hu).cell (row_get (by omega)))) ?_
  refine dw_end fun vs W1 hu1 _ => ?_
  refine xca rfl rfl (less_ok A.h_nan A.h_less d[y]! d[x]!) ?_
  rintro v W2 ⟨rfl, hu2⟩
  have hu := hu1.trans hu2
  refine exec_cond rfl (fun hc1 => ?_) (fun hc1 => ?_)
  · refine xr 2 rfl ?_
    refine exec_load1 (b := bs) (o := 0) (v := intV' s) rfl rfl ((hS.upd hu).cell rfl) ?_
    refine xpu (pv_addI (a := s) (b := 1) rfl rfl (by omega)) rfl ?_
    refine xr 1 rfl ?_
    refine exec_store (b := bs) (o := 0) (v := intV' (s + 1)) rfl rfl (hS.upd hu) rfl (by simp) rfl ?_
    intro W3 hu3 _ hS3
    refine xr 4 rfl ?_
    refine xre hc [_, _] ⟨rfl, rfl, trivial⟩ ?_
    rw [order2, if_pos hc1]
    exact ⟨rfl, hS3, (hu.mono (by simp)).trans hu3 (by simp)⟩
  · refine xr 5 rfl ?_
    refine xre hc [_, _] ⟨rfl, rfl, trivial⟩ ?_
    rw [order2, if_neg (by rw [hc1]; simp)]
    exact ⟨rfl, hS.upd hu, hu.mono (by simp)⟩
theorem order2_lt {d : Array Nat} {n x y s : Nat} (hx : x < n) (hy : y < n) : (order2 ltN d x y s).1 < n ∧ (order2 ltN d x y s).2.1 < n ∧ (order2 ltN d x y s).2.2 ≤ s + 1 := by
  unfold order2
  split <;> exact ⟨by assumption, by assumption, by simp⟩
theorem median_ok {g : Nat} (h2 : Has P g (b_slices_order2Ordered_uint64 A.less)) (h : Has P f (b_slices_medianOrdered_uint64 g)) {b n cap x y z s bs : Nat} {d : Array Nat} {rest : List Value} (hB : Blk w b (row d rest)) (hS : Blk w bs [intV' s]) (hd : d.size = n) (hx : x < n) (hy : y < n) (hz : z < n) (hn : n < 2 ^ 40) (hs : s < 2 ^ 30) (hne : b ≠ bs) :
    Ret P f [slV b n cap, intV' x, intV' y, intV' z, ptrV bs] w fun v w' => v = intV' (median ltN d x y z s).1 ∧ Blk w' bs [intV' (median ltN d x y z s).2] ∧ Upd [bs] w w' := by
  refine Ret.of_exec h (Nat.le_of_ble_eq_true rfl) fun c hc => ?_
  dsimp only [b_slices_medianOrdered_uint64, argEnv, ym, yo, yg, ys, yt, yd, ye]
  refine xr 5 rfl ?_
  refine xca rfl rfl (order2_ok A h2 hB hS hd hx hy hn (by omega)) ?_
  rintro v W1 ⟨rfl, hS1, hu1⟩
  obtain ⟨l1, l2, l3⟩ := order2_lt (d := d) (s := s) hx hy
  have hB1 := hB.upd hu1 (by simp; exact hne)
  refine xr 9 rfl ?_
  refine xca rfl rfl (order2_ok A h2 hB1 hS1 hd l2 hz hn (by omega)) ?_
  rintro v W2 ⟨rfl, hS2, hu2⟩
  obtain ⟨m1, m2, m3⟩ := order2_lt (d := d) (s := (order2 ltN d x y s).2.2) l2 hz
  have hB2 := hB1.upd hu2 (by simp; exact hne)
  refine xr 9 rfl ?_
  refine xca rfl rfl (order2_ok A h2 hB2 hS2 hd l1 m1 hn (by omega)) ?_
  rintro v W3 ⟨rfl, hS3, hu3⟩
  refine xr 7 rfl ?_
  refine xre hc [_] ⟨rfl, trivial⟩ ⟨rfl, hS3, (hu1.trans hu2 (by simp)).trans hu3 (by simp)⟩
theorem median_lt {d : Array Nat} {n x y z s : Nat} (hx : x < n) (hy : y < n) (hz : z < n) : (median ltN d x y z s).1 < n ∧ (median ltN d x y z s).2 ≤ s + 3 := by
  obtain ⟨l1, l2, l3⟩ := order2_lt (d := d) (s := s) hx hy
  obtain ⟨m1, m2, m3⟩ := order2_lt (d := d) (s := (order2 ltN d x y s).2.2) l2 hz
  obtain ⟨k1, k2, k3⟩ := order2_lt (d := d) (s := (order2 ltN d (order2 ltN d x y s).2.1 z (order2 ltN d x y s).2.2).2.2) l1 m1
  unfold median
  exact ⟨k2, by simp only; omega⟩
theorem medianAdj_ok {g g2 : Nat} (h2 : Has P g (b_slices_order2Ordered_uint64 A.less)) (h3 : Has P g2 (b_slices_medianOrdered_uint64 g)) (h : Has P f (b_slices_medianAdjacentOrdered_uint64 g2)) {b n cap x s bs : Nat} {d : Array Nat} {rest : List Value} (hB : Blk w b (row d rest)) (hS : Blk w bs [intV' s]) (hd : d.size = n) (hx0 : 0 < x) (hx : x + 1 < n) (hn : n < 2 ^ 40) (hs : s < 2 ^ 30) (hne : b ≠ bs) :
    Ret P f [slV b n cap, intV' x, ptrV bs] w fun v w' => v = intV' (medianAdjacent ltN d x s).1 ∧ Blk w' bs [intV' (medianAdjacent ltN d x s).2] ∧ Upd [bs] w w' := by
  refine Ret.of_exec h (Nat.le_of_ble_eq_true rfl) fun c hc => ?_
  dsimp only [b_slices_medianAdjacentOrdered_uint64, argEnv, ym, yo, yg, ys, yt, yd, ye]
  refine xr 3 rfl ?_
  refine xpu (pv_subI (a := x) (b := 1) rfl rfl (by omega) (by omega)) rfl ?_
  refine xr 2 rfl ?_
  refine xpu (pv_addI (a := x) (b := 1) rfl rfl (by omega)) rfl ?_
  refine xr 1 rfl ?_
  refine xca rfl rfl (median_ok A h2 h3 hB hS hd (by omega) (by omega) (by omega) hn hs hne) ?_
  rintro v W1 ⟨rfl, hS1, hu1⟩
  refine xr 1 rfl ?_
  exact xre hc [_] ⟨rfl, trivial⟩ ⟨rfl, hS1, hu1⟩
theorem choosePivot_ok {g g2 g3 T : Nat} (h2 : Has P g (b_slices_order2Ordered_uint64 A.less)) (h3 : Has P g2 (b_slices_medianOrdered_uint64 g)) (h4 : Has P g3 (b_slices_medianAdjacentOrdered_uint64 g2)) (h : Has P f (b_slices_choosePivotOrdered_uint64 g3 g2 T))
    {b n cap x y : Nat} {d : Array Nat} {rest : List Value} (hB : Blk w b (row d rest)) (hd : d.size = n) (hxy : x + 12 < y) (hy : y ≤ n) (hn : n < 2 ^ 40) :
    Ret P f [slV b n cap, intV' x, intV' y] w fun v w' => v = .tuple #[intV' (choosePivot ltN d x y).1, intV' (hintN (choosePivot ltN d x y).2)] ∧ Ext w w' := by
  refine Ret.of_exec h (Nat.le_of_ble_eq_true rfl) fun c hc => ?_
  dsimp only [b_slices_choosePivotOrdered_uint64, argEnv, ym, yo, yg, ys, yt, yd, ye]
  refine xr 4 rfl ?_
  refine xpu (pv_subI (a := y) (b := x) rfl rfl (by omega) (by omega)) rfl ?_
  refine xr 1 rfl ?_
  refine exec_new rfl ?_
  intro bs W1 hbs hs1 hu1 hS1
  have hS : Blk W1 bs [intV' 0] := hS1
  have hlt := hB.lt
  have hne : b ≠ bs := by omega
  have hB1 := hB.upd hu1
  refine xr 2 rfl ?_
  refine xju (ok_quoI (a := y - x) (b := 4) rfl rfl (by omega) (by omega)) rfl ?_
  refine xpu (pv_mulI (a := (y - x) / 4) (b := 1) rfl rfl (by omega)) rfl ?_
  refine xpu (pv_addI (a := x) (b := (y - x) / 4 * 1) rfl rfl (by omega)) rfl ?_
  refine xr 3 rfl ?_
  refine xju (ok_quoI (a := y - x) (b := 4) rfl rfl (by omega) (by omega)) rfl ?_
  refine xpu (pv_mulI (a := (y - x) / 4) (b := 2) rfl rfl (by omega)) rfl ?_
  refine xpu (pv_addI (a := x) (b := (y - x) / 4 * 2) rfl rfl (by omega)) rfl ?_
  refine xr 3 rfl ?_
  refine xju (ok_quoI (a := y - x) (b := 4) rfl rfl (by omega) (by omega)) rfl ?_
  refine xpu (pv_mulI (a := (y - x) / 4) (b := 3) rfl rfl (by omega)) rfl ?_
  refine xpu (pv_addI (a := x) (b := (y - x) / 4 * 3) rfl rfl (by omega)) rfl ?_
  refine xr 2 rfl ?_
  refine xpu (pv_geqI (a := y - x) (b := 8) (q := true) rfl rfl (by simp; omega)) rfl ?_
  refine xr 2 rfl ?_
  refine xpu (pv_geqI (a := y - x) (b := 50) (q := decide (50 ≤ y - x)) rfl rfl rfl) rfl ?_
  refine exec_cond_join (S := Nat × Nat × Nat × Nat) (fun s W => Ext w W ∧ Blk W b (row d rest) ∧ Blk W bs [intV' s.2.2.2] ∧ s.2.2.2 < 20 ∧ s.1 < n ∧ s.2.1 < n ∧ s.2.2.1 < n ∧ (choosePivot ltN d x y = ((median ltN d s.1 s.2.1 s.2.2.1 s.2.2.2).1, if (median ltN d s.1 s.2.1 s.2.2.1 s.2.2.2).2 = 0 then .increasing else if (median ltN d s.1 s.2.1 s.2.2.1 s.2.2.2).2 = 12 then .decreasing else .unknown)))
    (fun s => [(0, slV b n cap), (10, intV' s.1), (11, intV' s.2.1), (12, intV' s.2.2.1), (9, ptrV bs)]) rfl (fun c50 => ?_) (fun c50 => ?_) ?_
  · simp only [decide_eq_true_eq] at c50
    refine xr 2 rfl ?_
    refine xca rfl rfl (medianAdj_ok A h2 h3 h4 hB1 hS hd (by omega) (by omega) hn (by omega) hne) ?_
    rintro v W2 ⟨rfl, hS2, hu2⟩
    have hB2 := hB1.upd hu2 (by simp; exact hne)
    obtain ⟨i1, i2⟩ := median_lt (d := d) (n := n) (x := x + (y - x) / 4 * 1 - 1) (y := x + (y - x) / 4 * 1) (z := x + (y - x) / 4 * 1 + 1) (s := 0) (by omega) (by omega) (by omega)
    refine xr 3 rfl ?_
    refine xca rfl rfl (medianAdj_ok A h2 h3 h4 hB2 hS2 hd (by omega) (by omega) hn (by show (median _ _ _ _ _ _).2 < _; omega) hne) ?_
    rintro v W3 ⟨rfl, hS3, hu3⟩
    have hB3 := hB2.upd hu3 (by simp; exact hne)
    obtain ⟨j1, j2⟩ := median_lt (d := d) (n := n) (x := x + (y - x) / 4 * 2 - 1) (y := x + (y - x) / 4 * 2) (z := x + (y - x) / 4 * 2 + 1) (s := (medianAdjacent ltN d (x + (y - x) / 4 * 1) 0).2) (by omega) (by omega) (by omega)
    have i2' : (medianAdjacent ltN d (x + (y - x) / 4 * 1) 0).2 ≤ 3 := by simpa [medianAdjacent] using i2
    refine xr 3 rfl ?_
    refine xca rfl rfl (medianAdj_ok A h2 h3 h4 hB3 hS3 hd (by omega) (by omega) hn (by show (median _ _ _ _ _ _).2 < _; omega) hne) ?_
    rintro v W4 ⟨rfl, hS4, hu4⟩
    have hB4 := hB3.upd hu4 (by simp; exact hne)
    have j2' : (medianAdjacent ltN d (x + (y - x) / 4 * 2) (medianAdjacent ltN d (x + (y - x) / 4 * 1) 0).2).2 ≤ 6 := by
      have : (medianAdjacent ltN d (x + (y - x) / 4 * 2) (medianAdjacent ltN d (x + (y - x) / 4 * 1) 0).2).2 ≤ (medianAdjacent ltN d (x + (y - x) / 4 * 1) 0).2 + 3 := j2
      omega
    obtain ⟨k1, k2⟩ := median_lt (d := d) (n := n) (x := x + (y - x) / 4 * 3 - 1) (y := x + (y - x) / 4 * 3) (z := x + (y - x) / 4 * 3 + 1) (s := (medianAdjacent ltN d (x + (y - x) / 4 * 2) (medianAdjacent ltN d (x + (y - x) / 4 * 1) 0).2).2) (by omega) (by omega) (by omega)
    refine xr 1 rfl ?_
    have hE : Ext w W4 := ((hu1.trans hu2 (fun b hb => .inr (by simp at hb; omega))).trans hu3 (fun b hb => .inr (by simp at hb; omega))).trans hu4 (fun b hb => .inr (by simp at hb; omega))
    refine exec_meet (_, _, _, _) ⟨hE, hB4, hS4, (by show (median _ _ _ _ _ _).2 < _; omega), i1, j1, k1, ?_⟩ ⟨rfl, rfl, rfl, rfl, rfl, trivial⟩
    rw [choosePivot, if_pos (show y - x ≥ 8 by omega), if_pos (show y - x ≥ 50 by omega)]
    rfl
  · simp only [decide_eq_false_iff_not] at c50
    refine exec_meet (_, _, _, _) ⟨hu1, hB1, hS, (by show 0 < 20; omega), (by show x + (y - x) / 4 * 1 < n; omega), (by show x + (y - x) / 4 * 2 < n; omega), (by show x + (y - x) / 4 * 3 < n; omega), ?_⟩ ⟨rfl, rfl, rfl, rfl, rfl, trivial⟩
    rw [choosePivot, if_pos (show y - x ≥ 8 by omega), if_neg (show ¬ y - x ≥ 50 by omega)]
  · rintro ⟨i, j, k, s⟩ W ⟨q1, q2, q3, q4, q5, q6, q7, q8⟩
    simp only at q2 q3 q4 q5 q6 q7 q8
    refine xr 4 rfl ?_
    refine xca rfl rfl (median_ok A h2 h3 q2 q3 hd q5 q6 q7 hn (by omega) hne) ?_
    rintro v W2 ⟨rfl, hS2, hu2⟩
    have hu : Ext w W2 := q1.trans hu2 (fun b hb => .inr (by simp at hb; omega))
    refine xr 2 rfl ?_
    refine exec_load1 (b := bs) (o := 0) rfl rfl (hS2.cell rfl) ?_
    refine xbk ?_
    have hm := (median_lt (d := d) (s := s) q5 q6 q7).2
    by_cases c0 : (median ltN d i j k s).2 = 0
    · refine xpu (pv_eqlI (a := (median ltN d i j k s).2) (b := 0) (q := true) rfl rfl (by simpa using c0)) rfl ?_
      refine xr 5 rfl ?_
      refine xre hc [_, _] ⟨rfl, rfl, trivial⟩ ?_
      rw [q8, if_pos c0]
      exact ⟨rfl, hu⟩
    · refine xpu (pv_eqlI (a := (median ltN d i j k s).2) (b := 0) (q := false) rfl rfl (by simpa using c0)) rfl ?_
      refine xr 2 rfl ?_
      by_cases c1 : (median ltN d i j k s).2 = 12
      · refine xpu (pv_eqlI (a := (median ltN d i j k s).2) (b := 12) (q := true) rfl rfl (by simpa using c1)) rfl ?_
        refine xr 5 rfl ?_
        refine xre hc [_, _] ⟨rfl, rfl, trivial⟩ ?_
        rw [q8, if_neg c0, if_pos c1]
        exact ⟨rfl, hu⟩
      · refine xpu (pv_eqlI (a := (median ltN d i j k s).2) (b := 12) (q := false) rfl rfl (by simpa using c1)) rfl ?_
        refine xr 5 rfl ?_
        refine xre hc [_, _] ⟨rfl, rfl, trivial⟩ ?_
        rw [q8, if_neg c0, if_neg c1]
        exact ⟨rfl, hu⟩
end
end Go.Sp

namespace Go.Sp
open Go.Sort (swp siftDown heapBuild heapPop heapSort reverseLoop reverseRange)
theorem siftDown_if (lt : Nat → Nat → Bool) (hi first root : Nat) (d : Array Nat) : siftDown lt hi first root d =
    if _h : 2 * root + 1 ≥ hi then d else
    if 2 * root + 1 + 1 < hi && lt d[first + (2 * root + 1)]! d[first + (2 * root + 1) + 1]! then
      if !lt d[first + root]! d[first + (2 * root + 2)]! then d else
        if _h2 : 2 * root + 2 < hi then siftDown lt hi first (2 * root + 2) (swp d (first + root) (first + (2 * root + 2))) else d
    else
      if !lt d[first + root]! d[first + (2 * root + 1)]! then d else siftDown lt hi first (2 * root + 1) (swp d (first + root) (first + (2 * root + 1))) := by rw [siftDown]
theorem reverseLoop_if (i j : Nat) (d : Array Nat) : reverseLoop i j d = if i < j then reverseLoop (i + 1) (j - 1) (swp d i j) else d := by rw [reverseLoop]
section
variable {P : Program} {f : Nat} {w : World} (A : SortF P)
theorem sift_ok (h : Has P f (b_slices_siftDownOrdered_uint64 A.less)) {b n cap lo hi first : Nat} {d : Array Nat} {rest : List Value} (hB : Blk w b (row d rest)) (hd : d.size = n) (hf : first + hi ≤ n) (hlo : lo ≤ n) (hn : n < 2 ^ 40) :
    Ret P f [slV b n cap, intV' lo, intV' hi, intV' first] w fun _ w' => Blk w' b (row (siftDown ltN hi first lo d) rest) ∧ Upd [b] w w' := by
  refine Ret.of_exec h (Nat.le_of_ble_eq_true rfl) fun c hc => ?_
  dsimp only [b_slices_siftDownOrdered_uint64, argEnv, ym, yo, yg, ys, yt, yd, ye]
  refine xr 3 rfl ?_
  refine xlo (S := Nat × Array Nat) (fun s W => s.1 ≤ n ∧ s.2.size = n ∧ siftDown ltN hi first s.1 s.2 = siftDown ltN hi first lo d ∧ Blk W b (row s.2 rest) ∧ Upd [b] w W)
    (fun s => [(0, slV b n cap), (2, intV' hi), (3, intV' first), (8, intV' s.1)]) (fun s => n + 1 - s.1) (lo, d) ⟨hlo, hd, rfl, hB, Upd.refl _ _⟩ ⟨rfl, rfl, rfl, rfl, trivial⟩ ?_
  rintro ⟨root, dk⟩ W ⟨h1, h3, h4, h5, h6⟩
  simp only at h1 h3 h4 h5
  refine xr 2 rfl ?_
  refine xpu (pv_mulI (a := 2) (b := root) rfl rfl (by omega)) rfl ?_
  refine xpu (pv_addI (a := 2 * root) (b := 1) rfl rfl (by omega)) rfl ?_
  refine xr 3 rfl ?_
  by_cases hch : hi ≤ 2 * root + 1
  · refine xpu (pv_geqI (a := 2 * root + 1) (b := hi) (q := true) rfl rfl (by simpa using hch)) rfl ?_
    refine xr 3 rfl ?_
    refine exec_end hc [] trivial ?_
    rw [← h4, siftDown_if, dif_pos hch]
    exact ⟨h5, h6⟩
  · refine xpu (pv_geqI (a := 2 * root + 1) (b := hi) (q := false) rfl rfl (by simpa using hch)) rfl ?_
    refine xr 2 rfl ?_
    by_cases hc2' : 2 * root + 1 + 1 < hi
    · refine exec_dw [] rfl rfl rfl ?_
      refine dau rfl (fun _ => rfl) ?_
      refine dw_val (fun _ => pv_addI (a := 2 * root + 1) (b := 1) rfl rfl (by omega)) ?_
      refine dau rfl (fun _ => rfl) ?_
      refine dw_val (fun _ => pv_lssI (a := 2 * root + 1 + 1) (b := hi) (q := true) rfl rfl (by simpa using hc2')) ?_
      repeat (first | refine dau rfl (fun _ => rfl) ?_ | refine dga rfl (fun _ => rfl) (fun _ => rfl) ?_ | refine dgs (fun _ => rfl) ?_)
      refine dw_gval (fun _ => rfl) (fun _ => pv_addI (a := first) (b := 2 * root + 1) rfl rfl (by omega)) ?_
      refine dw_gok _ (fun _ => rfl) (fun vs W' hu _ => (ok_iaddr (b := b) (o := 0) (len := n) (cap := cap) rfl rfl (first + (2 * root + 1)) rfl (by omega)).keep _) ?_
      refine dw_gok (u64V dk[first + (2 * root + 1)]!) (fun _ => rfl) (fun vs W' hu _ => (ok_load1 (b := b) (o := 0 + (first + (2 * root + 1)) * 1) rfl ((h5.upd hu).cell (row_get (by omega)))).keep _) ?_
      repeat (first | refine dau rfl (fun _ => rfl) ?_ | refine dga rfl (fun _ => rfl) (fun _ => rfl) ?_ | refine dgs (fun _ => rfl) ?_)
      refine dw_gval (fun _ => rfl) (fun _ => pv_addI (a := first) (b := 2 * root + 1) rfl rfl (by omega)) ?_
      refine dw_gval (fun _ => rfl) (fun _ => pv_addI (a := first + (2 * root + 1)) (b := 1) rfl rfl (by omega)) ?_
      refine dw_gok _ (fun _ => rfl) (fun vs W' hu _ => (ok_iaddr (b := b) (o := 0) (len := n) (cap := cap) rfl rfl (first + (2 * root + 1) + 1) rfl (by omega)).keep _) ?_
      refine dw_gok (u64V dk[first + (2 * root + 1) + 1]!) (fun _ => rfl) (fun vs W' hu _ => (ok_load1 (b := b) (o := 0 + (first + (2 * root + 1) + 1) * 1) rfl ((h5.upd hu).cell (row_get (by omega)))).keep _) ?_
      refine dw_end fun vs W1 hu1 _ => ?_
      refine xr 1 rfl ?_
      refine xca rfl rfl (less_ok A.h_nan A.h_less dk[first + (2 * root + 1)]! dk[first + (2 * root + 1) + 1]!) ?_
      rintro v W2 ⟨rfl, hu2⟩
      have hu12 := hu1.trans hu2
      have hB2 := h5.upd hu12
      have hE := h6.trans hu12 (by simp)
      refine xr 1 rfl ?_
      refine exec_cond rfl (fun hc1 => ?_) (fun hc1 => ?_)
      · refine xr 1 rfl ?_
        refine xpu (pv_addI (a := 2 * root + 1) (b := 1) rfl rfl (by omega)) rfl ?_
        refine xr 2 rfl ?_
        have hc1' : (decide (2 * root + 1 + 1 < hi) && ltN dk[first + (2 * root + 1)]! dk[first + (2 * root + 1) + 1]!) = true := by rw [hc1]; simpa using hc2'
        refine exec_dw [] rfl rfl rfl ?_
        repeat (first | refine dau rfl (fun _ => rfl) ?_ | refine dga rfl (fun _ => rfl) (fun _ => rfl) ?_ | refine dgs (fun _ => rfl) ?_)
        refine dw_val (fun _ => pv_addI (a := first) (b := root) rfl rfl (by omega)) ?_
        refine dw_keep _ (fun vs W' hu _ => ok_iaddr (b := b) (o := 0) (len := n) (cap := cap) rfl rfl (first + root) rfl (by omega)) ?_
        refine dw_keep (u64V dk[first + root]!) (fun vs W' hu _ => ok_load1 (b := b) (o := 0 + (first + root) * 1) rfl ((hB2.upd hu).cell (row_get (by omega)))) ?_
        repeat (first | refine dau rfl (fun _ => rfl) ?_ | refine dga rfl (fun _ => rfl) (fun _ => rfl) ?_ | refine dgs (fun _ => rfl) ?_)
        refine dw_val (fun _ => pv_addI (a := first) (b := 2 * root + 1 + 1) rfl rfl (by omega)) ?_
        refine dw_keep _ (fun vs W' hu _ => ok_iaddr (b := b) (o := 0) (len := n) (cap := cap) rfl rfl (first + (2 * root + 1 + 1)) rfl (by omega)) ?_
        refine dw_keep (u64V dk[first + (2 * root + 1 + 1)]!) (fun vs W' hu _ => ok_load1 (b := b) (o := 0 + (first + (2 * root + 1 + 1)) * 1) rfl ((hB2.upd hu).cell (row_get (by omega)))) ?_
        refine dw_end fun vs W_1 hu_1 _ => ?_
        refine xca rfl rfl (less_ok A.h_nan A.h_less dk[first + root]! dk[first + (2 * root + 1 + 1)]!) ?_
        rintro v W_2 ⟨rfl, hu_2⟩
        have hu_12 := hu_1.trans hu_2
        have hB_2 := hB2.upd hu_12
        refine xau rfl rfl rfl ?_
        refine exec_cond rfl (fun hc2 => ?_) (fun hc2 => ?_)
        · skip
          refine xre hc [] trivial ?_
          have e1 : siftDown ltN hi first root dk = dk := by
            rw [siftDown_if, dif_neg (by omega)]
            rw [if_pos hc1']
            rw [if_pos hc2]
          rw [← h4, e1]
          exact ⟨hB_2, (hE.trans hu_12 (by simp))⟩
        · simp only [Bool.not_eq_false'] at hc2
          refine xr 1 rfl ?_
          refine exec_dws [b] 21 (fun W => Blk W b (splice (row dk rest) (0 + (first + root) * 1) (Value.cells (u64V dk[first + (2 * root + 1 + 1)]!)).toList)) (fun W W' h hu => h.upd hu) rfl rfl rfl ?_
          repeat (first | refine ws_auto rfl rfl rfl ?_ | refine ws_gauto rfl rfl rfl rfl ?_ | refine wgs rfl rfl ?_)
          refine ws_val rfl (pv_addI (a := first) (b := root) rfl rfl (by omega)) ?_
          repeat (first | refine ws_auto rfl rfl rfl ?_ | refine ws_gauto rfl rfl rfl rfl ?_ | refine wgs rfl rfl ?_)
          refine ws_val rfl (pv_addI (a := first) (b := 2 * root + 1 + 1) rfl rfl (by omega)) ?_
          repeat (first | refine ws_auto rfl rfl rfl ?_ | refine ws_gauto rfl rfl rfl rfl ?_ | refine wgs rfl rfl ?_)
          refine ws_val rfl (pv_addI (a := first) (b := 2 * root + 1 + 1) rfl rfl (by omega)) ?_
          refine ws_any _ rfl (fun W => ok_iaddr (b := b) (o := 0) (len := n) (cap := cap) rfl rfl (first + (2 * root + 1 + 1)) rfl (by omega)) ?_
          refine ws_ok (u64V dk[first + (2 * root + 1 + 1)]!) rfl rfl (fun W hu => ok_load1 (b := b) (o := 0 + (first + (2 * root + 1 + 1)) * 1) rfl ((hB_2.upd hu).cell (row_get (by omega)))) ?_
          repeat (first | refine ws_auto rfl rfl rfl ?_ | refine ws_gauto rfl rfl rfl rfl ?_ | refine wgs rfl rfl ?_)
          refine ws_val rfl (pv_addI (a := first) (b := root) rfl rfl (by omega)) ?_
          refine ws_any _ rfl (fun W => ok_iaddr (b := b) (o := 0) (len := n) (cap := cap) rfl rfl (first + root) rfl (by omega)) ?_
          refine ws_ok (u64V dk[first + root]!) rfl rfl (fun W hu => ok_load1 (b := b) (o := 0 + (first + root) * 1) rfl ((hB_2.upd hu).cell (row_get (by omega)))) ?_
          refine ws_any _ rfl (fun W => ok_iaddr (b := b) (o := 0) (len := n) (cap := cap) rfl rfl (first + root) rfl (by omega)) ?_
          refine ws_store rfl rfl rfl hB_2 rfl (by rw [row_length]; omega) rfl (by simp) (fun W h => h) ?_
          refine ws_end fun W_a hu_a hW_a => ?_
          refine xju (ok_iaddr (b := b) (o := 0) (len := n) (cap := cap) rfl rfl (first + (2 * root + 1 + 1)) rfl (by omega)) rfl ?_
          refine exec_store (b := b) (o := 0 + (first + (2 * root + 1 + 1)) * 1) (v := u64V dk[first + root]!) rfl rfl (hW_a rfl) rfl (by rw [row_set (by omega), row_length]; simp; omega) rfl ?_
          intro W_3 hu_b _ hB_3
          rw [row_swp (by omega) (by omega)] at hB_3
          have hu_3 := hu_a.trans hu_b (by simp)
          refine xr 4 rfl ?_
          refine xag (2 * root + 1 + 1, swp dk (first + root) (first + (2 * root + 1 + 1))) ⟨by show 2 * root + 1 + 1 ≤ n; omega, by rw [swp_size]; exact h3, ?_, hB_3, (hE.trans hu_12 (by simp)).trans hu_3 (by simp)⟩ (by show n + 1 - (2 * root + 1 + 1) < n + 1 - root; omega) ⟨rfl, rfl, rfl, rfl, trivial⟩
          rw [← h4]
          show siftDown ltN hi first (2 * root + 1 + 1) _ = siftDown ltN hi first root dk
          rw [siftDown_if ltN hi first root dk, dif_neg (by omega)]
          rw [if_pos hc1']
          rw [if_neg (by rw [hc2]; simp)]
          rw [dif_pos (show 2 * root + 2 < hi by omega)]
      · refine xr 1 rfl ?_
        have hc1' : ¬ (decide (2 * root + 1 + 1 < hi) && ltN dk[first + (2 * root + 1)]! dk[first + (2 * root + 1) + 1]!) = true := by rw [hc1]; simp
        refine exec_dw [] rfl rfl rfl ?_
        repeat (first | refine dau rfl (fun _ => rfl) ?_ | refine dga rfl (fun _ => rfl) (fun _ => rfl) ?_ | refine dgs (fun _ => rfl) ?_)
        refine dw_val (fun _ => pv_addI (a := first) (b := root) rfl rfl (by omega)) ?_
        refine dw_keep _ (fun vs W' hu _ => ok_iaddr (b := b) (o := 0) (len := n) (cap := cap) rfl rfl (first + root) rfl (by omega)) ?_
        refine dw_keep (u64V dk[first + root]!) (fun vs W' hu _ => ok_load1 (b := b) (o := 0 + (first + root) * 1) rfl ((hB2.upd hu).cell (row_get (by omega)))) ?_
        repeat (first | refine dau rfl (fun _ => rfl) ?_ | refine dga rfl (fun _ => rfl) (fun _ => rfl) ?_ | refine dgs (fun _ => rfl) ?_)
        refine dw_val (fun _ => pv_addI (a := first) (b := 2 * root + 1) rfl rfl (by omega)) ?_
        refine dw_keep _ (fun vs W' hu _ => ok_iaddr (b := b) (o := 0) (len := n) (cap := cap) rfl rfl (first + (2 * root + 1)) rfl (by omega)) ?_
        refine dw_keep (u64V dk[first + (2 * root + 1)]!) (fun vs W' hu _ => ok_load1 (b := b) (o := 0 + (first + (2 * root + 1)) * 1) rfl ((hB2.upd hu).cell (row_get (by omega)))) ?_
        refine dw_end fun vs W_1 hu_1 _ => ?_
        refine xca rfl rfl (less_ok A.h_nan A.h_less dk[first + root]! dk[first + (2 * root + 1)]!) ?_
        rintro v W_2 ⟨rfl, hu_2⟩
        have hu_12 := hu_1.trans hu_2
        have hB_2 := hB2.upd hu_12
        refine xau rfl rfl rfl ?_
        refine exec_cond rfl (fun hc2 => ?_) (fun hc2 => ?_)
        · skip
          refine xre hc [] trivial ?_
          have e1 : siftDown ltN hi first root dk = dk := by
            rw [siftDown_if, dif_neg (by omega)]
            rw [if_neg hc1']
            rw [if_pos hc2]
          rw [← h4, e1]
          exact ⟨hB_2, (hE.trans hu_12 (by simp))⟩
        · simp only [Bool.not_eq_false'] at hc2
          refine xr 1 rfl ?_
          refine exec_dws [b] 21 (fun W => Blk W b (splice (row dk rest) (0 + (first + root) * 1) (Value.cells (u64V dk[first + (2 * root + 1)]!)).toList)) (fun W W' h hu => h.upd hu) rfl rfl rfl ?_
          repeat (first | refine ws_auto rfl rfl rfl ?_ | refine ws_gauto rfl rfl rfl rfl ?_ | refine wgs rfl rfl ?_)
          refine ws_val rfl (pv_addI (a := first) (b := root) rfl rfl (by omega)) ?_
          repeat (first | refine ws_auto rfl rfl rfl ?_ | refine ws_gauto rfl rfl rfl rfl ?_ | refine wgs rfl rfl ?_)
          refine ws_val rfl (pv_addI (a := first) (b := 2 * root + 1) rfl rfl (by omega)) ?_
          repeat (first | refine ws_auto rfl rfl rfl ?_ | refine ws_gauto rfl rfl rfl rfl ?_ | refine wgs rfl rfl ?_)
          refine ws_val rfl (pv_addI (a := first) (b := 2 * root + 1) rfl rfl (by omega)) ?_
          refine ws_any _ rfl (fun W => ok_iaddr (b := b) (o := 0) (len := n) (cap := cap) rfl rfl (first + (2 * root + 1)) rfl (by omega)) ?_
          refine ws_ok (u64V dk[first + (2 * root + 1)]!) rfl rfl (fun W hu => ok_load1 (b := b) (o := 0 + (first + (2 * root + 1)) * 1) rfl ((hB_2.upd hu).cell (row_get (by omega)))) ?_
          repeat (first | refine ws_auto rfl rfl rfl ?_ | refine ws_gauto rfl rfl rfl rfl ?_ | refine wgs rfl rfl ?_)
          refine ws_val rfl (pv_addI (a := first) (b := root) rfl rfl (by omega)) ?_
          refine ws_any _ rfl (fun W => ok_iaddr (b := b) (o := 0) (len := n) (cap := cap) rfl rfl (first + root) rfl (by omega)) ?_
          refine ws_ok (u64V dk[first + root]!) rfl rfl (fun W hu => ok_load1 (b := b) (o := 0 + (first + root) * 1) rfl ((hB_2.upd hu).cell (row_get (by omega)))) ?_
          refine ws_any _ rfl (fun W => ok_iaddr (b := b) (o := 0) (len := n) (cap := cap) rfl rfl (first + root) rfl (by omega)) ?_
          refine ws_store rfl rfl rfl hB_2 rfl (by rw [row_length]; omega) rfl (by simp) (fun W h => h) ?_
          refine ws_end fun W_a hu_a hW_a => ?_
          refine xju (ok_iaddr (b := b) (o := 0) (len := n) (cap := cap) rfl rfl (first + (2 * root + 1)) rfl (by omega)) rfl ?_
          refine exec_store (b := b) (o := 0 + (first + (2 * root + 1)) * 1) (v := u64V dk[first + root]!) rfl rfl (hW_a rfl) rfl (by rw [row_set (by omega), row_length]; simp; omega) rfl ?_
          intro W_3 hu_b _ hB_3
          rw [row_swp (by omega) (by omega)] at hB_3
          have hu_3 := hu_a.trans hu_b (by simp)
          refine xr 4 rfl ?_
          refine xag (2 * root + 1, swp dk (first + root) (first + (2 * root + 1))) ⟨by show 2 * root + 1 ≤ n; omega, by rw [swp_size]; exact h3, ?_, hB_3, (hE.trans hu_12 (by simp)).trans hu_3 (by simp)⟩ (by show n + 1 - (2 * root + 1) < n + 1 - root; omega) ⟨rfl, rfl, rfl, rfl, trivial⟩
          rw [← h4]
          show siftDown ltN hi first (2 * root + 1) _ = siftDown ltN hi first root dk
          rw [siftDown_if ltN hi first root dk, dif_neg (by omega)]
          rw [if_neg hc1']
          rw [if_neg (by rw [hc2]; simp)]
          skip
    · refine exec_dw [] rfl rfl rfl ?_
      refine dau rfl (fun _ => rfl) ?_
      refine dw_val (fun _ => pv_addI (a := 2 * root + 1) (b := 1) rfl rfl (by omega)) ?_
      refine dau rfl (fun _ => rfl) ?_
      refine dw_val (fun _ => pv_lssI (a := 2 * root + 1 + 1) (b := hi) (q := false) rfl rfl (by simpa using hc2')) ?_
      repeat (first | refine dau rfl (fun _ => rfl) ?_ | refine dga rfl (fun _ => rfl) (fun _ => rfl) ?_ | refine dgs (fun _ => rfl) ?_)
      refine dw_end fun vs W1 hu1 _ => ?_
      refine xr 4 rfl ?_
      have hB2 := h5.upd hu1
      have hE := h6.trans hu1 (by simp)
      have hc1' : ¬ (decide (2 * root + 1 + 1 < hi) && ltN dk[first + (2 * root + 1)]! dk[first + (2 * root + 1) + 1]!) = true := by simp [hc2']
      refine exec_dw [] rfl rfl rfl ?_
      repeat (first | refine dau rfl (fun _ => rfl) ?_ | refine dga rfl (fun _ => rfl) (fun _ => rfl) ?_ | refine dgs (fun _ => rfl) ?_)
      refine dw_val (fun _ => pv_addI (a := first) (b := root) rfl rfl (by omega)) ?_
      refine dw_keep _ (fun vs W' hu _ => ok_iaddr (b := b) (o := 0) (len := n) (cap := cap) rfl rfl (first + root) rfl (by omega)) ?_
      refine dw_keep (u64V dk[first + root]!) (fun vs W' hu _ => ok_load1 (b := b) (o := 0 + (first + root) * 1) rfl ((hB2.upd hu).cell (row_get (by omega)))) ?_
      repeat (first | refine dau rfl (fun _ => rfl) ?_ | refine dga rfl (fun _ => rfl) (fun _ => rfl) ?_ | refine dgs (fun _ => rfl) ?_)
      refine dw_val (fun _ => pv_addI (a := first) (b := 2 * root + 1) rfl rfl (by omega)) ?_
      refine dw_keep _ (fun vs W' hu _ => ok_iaddr (b := b) (o := 0) (len := n) (cap := cap) rfl rfl (first + (2 * root + 1)) rfl (by omega)) ?_
      refine dw_keep (u64V dk[first + (2 * root + 1)]!) (fun vs W' hu _ => ok_load1 (b := b) (o := 0 + (first + (2 * root + 1)) * 1) rfl ((hB2.upd hu).cell (row_get (by omega)))) ?_
      refine dw_end fun vs W_1 hu_1 _ => ?_
      refine xca rfl rfl (less_ok A.h_nan A.h_less dk[first + root]! dk[first + (2 * root + 1)]!) ?_
      rintro v W_2 ⟨rfl, hu_2⟩
      have hu_12 := hu_1.trans hu_2
      have hB_2 := hB2.upd hu_12
      refine xau rfl rfl rfl ?_
      refine exec_cond rfl (fun hc2 => ?_) (fun hc2 => ?_)
      · skip
        refine xre hc [] trivial ?_
        have e1 : siftDown ltN hi first root dk = dk := by
          rw [siftDown_if, dif_neg (by omega)]
          rw [if_neg hc1']
          rw [if_pos hc2]
        rw [← h4, e1]
        exact ⟨hB_2, (hE.trans hu_12 (by simp))⟩
      · simp only [Bool.not_eq_false'] at hc2
        refine xr 1 rfl ?_
        refine exec_dws [b] 21 (fun W => Blk W b (splice (row dk rest) (0 + (first + root) * 1) (Value.cells (u64V dk[first + (2 * root + 1)]!)).toList)) (fun W W' h hu => h.upd hu) rfl rfl rfl ?_
        repeat (first | refine ws_auto rfl rfl rfl ?_ | refine ws_gauto rfl rfl rfl rfl ?_ | refine wgs rfl rfl ?_)
        refine ws_val rfl (pv_addI (a := first) (b := root) rfl rfl (by omega)) ?_
        repeat (first | refine ws_auto rfl rfl rfl ?_ | refine ws_gauto rfl rfl rfl rfl ?_ | refine wgs rfl rfl ?_)
        refine ws_val rfl (pv_addI (a := first) (b := 2 * root + 1) rfl rfl (by omega)) ?_
        repeat (first | refine ws_auto rfl rfl rfl ?_ | refine ws_gauto rfl rfl rfl rfl ?_ | refine wgs rfl rfl ?_)
        refine ws_val rfl (pv_addI (a := first) (b := 2 * root + 1) rfl rfl (by omega)) ?_
        refine ws_any _ rfl (fun W => ok_iaddr (b := b) (o := 0) (len := n) (cap := cap) rfl rfl (first + (2 * root + 1)) rfl (by omega)) ?_
        refine ws_ok (u64V dk[first + (2 * root + 1)]!) rfl rfl (fun W hu => ok_load1 (b := b) (o := 0 + (first + (2 * root + 1)) * 1) rfl ((hB_2.upd hu).cell (row_get (by omega)))) ?_
        repeat (first | refine ws_auto rfl rfl rfl ?_ | refine ws_gauto rfl rfl rfl rfl ?_ | refine wgs rfl rfl ?_)
        refine ws_val rfl (pv_addI (a := first) (b := root) rfl rfl (by omega)) ?_
        refine ws_any _ rfl (fun W => ok_iaddr (b := b) (o := 0) (len := n) (cap := cap) rfl rfl (first + root) rfl (by omega)) ?_
        refine ws_ok (u64V dk[first + root]!) rfl rfl (fun W hu => ok_load1 (b := b) (o := 0 + (first + root) * 1) rfl ((hB_2.upd hu).cell (row_get (by omega)))) ?_
        refine ws_any _ rfl (fun W => ok_iaddr (b := b) (o := 0) (len := n) (cap := cap) rfl rfl (first + root) rfl (by omega)) ?_
        refine ws_store rfl rfl rfl hB_2 rfl (by rw [row_length]; omega) rfl (by simp) (fun W h => h) ?_
        refine ws_end fun W_a hu_a hW_a => ?_
        refine xju (ok_iaddr (b := b) (o := 0) (len := n) (cap := cap) rfl rfl (first + (2 * root + 1)) rfl (by omega)) rfl ?_
        refine exec_store (b := b) (o := 0 + (first + (2 * root + 1)) * 1) (v := u64V dk[first + root]!) rfl rfl (hW_a rfl) rfl (by rw [row_set (by omega), row_length]; simp; omega) rfl ?_
        intro W_3 hu_b _ hB_3
        rw [row_swp (by omega) (by omega)] at hB_3
        have hu_3 := hu_a.trans hu_b (by simp)
        refine xr 4 rfl ?_
        refine xag (2 * root + 1, swp dk (first + root) (first + (2 * root + 1))) ⟨by show 2 * root + 1 ≤ n; omega, by rw [swp_size]; exact h3, ?_, hB_3, (hE.trans hu_12 (by simp)).trans hu_3 (by simp)⟩ (by show n + 1 - (2 * root + 1) < n + 1 - root; omega) ⟨rfl, rfl, rfl, rfl, trivial⟩
        rw [← h4]
        show siftDown ltN hi first (2 * root + 1) _ = siftDown ltN hi first root dk
        rw [siftDown_if ltN hi first root dk, dif_neg (by omega)]
        rw [if_neg hc1']
        rw [if_neg (by rw [hc2]; simp)]
        skip
theorem siftDown_size (hi first : Nat) : ∀ (m root : Nat) (d : Array Nat), hi - root ≤ m → (siftDown ltN hi first root d).size = d.size := by
  intro m
  induction m with
  | zero => intro root d h; rw [siftDown_if, dif_pos (by omega)]
  | succ m ih =>
    intro root d h
    rw [siftDown_if]
    split
    · rfl
    · split
      · split
        · rfl
        · split
          · rw [ih _ _ (by omega), swp_size]
          · rfl
      · split
        · rfl
        · rw [ih _ _ (by omega), swp_size]
theorem heap_ok {g : Nat} (h1 : Has P g (b_slices_siftDownOrdered_uint64 A.less)) (h : Has P f (b_slices_heapSortOrdered_uint64 g)) {b n cap x y : Nat} {d : Array Nat} {rest : List Value} (hB : Blk w b (row d rest)) (hd : d.size = n) (hxy : x < y) (hy : y ≤ n) (hn : n < 2 ^ 40) :
    Ret P f [slV b n cap, intV' x, intV' y] w fun _ w' => Blk w' b (row (heapSort ltN d x y) rest) ∧ Upd [b] w w' := by
  have hss : ∀ (hi first root : Nat) (d : Array Nat), (siftDown ltN hi first root d).size = d.size := fun hi first root d => siftDown_size hi first _ root d (Nat.le_refl _)
  refine Ret.of_exec h (Nat.le_of_ble_eq_true rfl) fun c hc => ?_
  dsimp only [b_slices_heapSortOrdered_uint64, argEnv, ym, yo, yg, ys, yt, yd, ye]
  refine xr 5 rfl ?_
  refine xpu (pv_subI (a := y) (b := x) rfl rfl (by omega) (by omega)) rfl ?_
  refine xr 2 rfl ?_
  refine xpu (pv_subI (a := y - x) (b := 1) rfl rfl (by omega) (by omega)) rfl ?_
  refine xju (ok_quoI (a := y - x - 1) (b := 2) rfl rfl (by omega) (by omega)) rfl ?_
  refine xr 2 rfl ?_
  refine xlo (S := Nat × Array Nat) (fun s W => s.1 ≤ (y - x - 1) / 2 + 1 ∧ s.2.size = n ∧ heapBuild ltN (y - x) x s.1 s.2 = heapBuild ltN (y - x) x ((y - x - 1) / 2 + 1) d ∧ Blk W b (row s.2 rest) ∧ Upd [b] w W)
    (fun s => [(0, slV b n cap), (6, intV' x), (7, intV' 0), (8, intV' (y - x)), (9, .int .i64 ((s.1 : Int) - 1))]) (fun s => s.1) ((y - x - 1) / 2 + 1, d) ⟨Nat.le_refl _, hd, rfl, hB, Upd.refl _ _⟩ ⟨rfl, rfl, rfl, rfl, by simp [Env.get], trivial⟩ ?_
  rintro ⟨k, dk⟩ W ⟨g1, g3, g4, g5, g6⟩
  simp only at g1 g3 g4 g5
  refine xr 1 rfl ?_
  cases k with
  | succ k =>
    rw [show (((k + 1 : Nat) : Int) - 1) = (k : Int) by omega]
    refine xpu (pv_geqI (a := k) (b := 0) (q := true) rfl rfl (by simp)) rfl ?_
    refine xr 7 rfl ?_
    refine xca rfl rfl (sift_ok A h1 g5 g3 (by omega) (by omega) hn) ?_
    rintro v W1 ⟨hB1, hu1⟩
    refine xr 3 rfl ?_
    refine xpu (pv_subZ (a := (k : Int)) (b := 1) rfl rfl (by omega) (by omega)) rfl ?_
    refine xr 1 rfl ?_
    refine xag (k, siftDown ltN (y - x) x k dk) ⟨by show k ≤ _; omega, by rw [hss]; exact g3, ?_, hB1, g6.trans hu1 (by simp)⟩ (by show k < k + 1; omega) ⟨rfl, rfl, rfl, rfl, rfl, trivial⟩
    rw [← g4]; rfl
  | zero =>
    refine xau rfl rfl rfl ?_
    refine exec_cond rfl (fun hq => ?_) (fun hq => ?_)
    · simp at hq
    refine xr 3 rfl ?_
    refine xpu (pv_subI (a := y - x) (b := 1) rfl rfl (by omega) (by omega)) rfl ?_
    refine xr 2 rfl ?_
    have hdk : dk = heapBuild ltN (y - x) x ((y - x - 1) / 2 + 1) d := by rw [← g4]; rfl
    refine xlo (S := Nat × Array Nat) (fun s W => s.1 ≤ y - x ∧ s.2.size = n ∧ heapPop ltN x s.1 s.2 = heapSort ltN d x y ∧ Blk W b (row s.2 rest) ∧ Upd [b] w W)
      (fun s => [(0, slV b n cap), (6, intV' x), (7, intV' 0), (8, intV' (y - x)), (10, .int .i64 ((s.1 : Int) - 1))]) (fun s => s.1) (y - x, dk) ⟨Nat.le_refl _, g3, by rw [heapSort, ← hdk], g5, g6⟩ ⟨rfl, rfl, rfl, rfl, by simp [Env.get]; omega, trivial⟩ ?_
    rintro ⟨k, dj⟩ W1 ⟨k1, k3, k4, k5, k6⟩
    simp only at k1 k3 k4 k5
    refine xr 1 rfl ?_
    cases k with
    | succ k =>
      rw [show (((k + 1 : Nat) : Int) - 1) = (k : Int) by omega]
      refine xpu (pv_geqI (a := k) (b := 0) (q := true) rfl rfl (by simp)) rfl ?_
      refine xr 3 rfl ?_
      refine exec_dws [b] 17 (fun W => Blk W b (splice (row dj rest) (0 + (x) * 1) (Value.cells (u64V dj[x + k]!)).toList)) (fun W W' h hu => h.upd hu) rfl rfl rfl ?_
      repeat (first | refine ws_auto rfl rfl rfl ?_ | refine ws_gauto rfl rfl rfl rfl ?_ | refine wgs rfl rfl ?_)
      refine ws_val rfl (pv_addI (a := x) (b := k) rfl rfl (by omega)) ?_
      repeat (first | refine ws_auto rfl rfl rfl ?_ | refine ws_gauto rfl rfl rfl rfl ?_ | refine wgs rfl rfl ?_)
      refine ws_val rfl (pv_addI (a := x) (b := k) rfl rfl (by omega)) ?_
      refine ws_any _ rfl (fun W => ok_iaddr (b := b) (o := 0) (len := n) (cap := cap) rfl rfl (x + k) rfl (by omega)) ?_
      refine ws_ok (u64V dj[x + k]!) rfl rfl (fun W hu => ok_load1 (b := b) (o := 0 + (x + k) * 1) rfl ((k5.upd hu).cell (row_get (by omega)))) ?_
      repeat (first | refine ws_auto rfl rfl rfl ?_ | refine ws_gauto rfl rfl rfl rfl ?_ | refine wgs rfl rfl ?_)
      refine ws_any _ rfl (fun W => ok_iaddr (b := b) (o := 0) (len := n) (cap := cap) rfl rfl (x) rfl (by omega)) ?_
      refine ws_ok (u64V dj[x]!) rfl rfl (fun W hu => ok_load1 (b := b) (o := 0 + (x) * 1) rfl ((k5.upd hu).cell (row_get (by omega)))) ?_
      refine ws_any _ rfl (fun W => ok_iaddr (b := b) (o := 0) (len := n) (cap := cap) rfl rfl (x) rfl (by omega)) ?_
      refine ws_store rfl rfl rfl k5 rfl (by rw [row_length]; omega) rfl (by simp) (fun W h => h) ?_
      refine ws_end fun W_a hu_a hW_a => ?_
      refine xju (ok_iaddr (b := b) (o := 0) (len := n) (cap := cap) rfl rfl (x + k) rfl (by omega)) rfl ?_
      refine exec_store (b := b) (o := 0 + (x + k) * 1) (v := u64V dj[x]!) rfl rfl (hW_a rfl) rfl (by rw [row_set (by omega), row_length]; simp; omega) rfl ?_
      intro W2 hu_b _ hB2
      rw [row_swp (by omega) (by omega)] at hB2
      have hu2 := hu_a.trans hu_b (by simp)
      refine xr 4 rfl ?_
      refine xca rfl rfl (sift_ok A h1 hB2 (by rw [swp_size]; exact k3) (by omega) (by omega) hn) ?_
      rintro v W3 ⟨hB3, hu3⟩
      refine xr 3 rfl ?_
      refine xpu (pv_subZ (a := (k : Int)) (b := 1) rfl rfl (by omega) (by omega)) rfl ?_
      refine xr 1 rfl ?_
      refine xag (k, siftDown ltN k x 0 (swp dj x (x + k))) ⟨by show k ≤ _; omega, by rw [hss, swp_size]; exact k3, ?_, hB3, (k6.trans hu2 (by simp)).trans hu3 (by simp)⟩ (by show k < k + 1; omega) ⟨rfl, rfl, rfl, rfl, rfl, trivial⟩
      rw [← k4]; rfl
    | zero =>
      refine xau rfl rfl rfl ?_
      refine exec_cond rfl (fun hq => ?_) (fun hq => ?_)
      · simp at hq
      refine xr 2 rfl ?_
      refine exec_end hc [] trivial ?_
      rw [← k4]
      exact ⟨k5, k6⟩
theorem reverse_ok (h : Has P f b_slices_reverseRangeOrdered_uint64) {b n cap x y : Nat} {d : Array Nat} {rest : List Value} (hB : Blk w b (row d rest)) (hd : d.size = n) (hxy : x < y) (hy : y ≤ n) (hn : n < 2 ^ 40) :
    Ret P f [slV b n cap, intV' x, intV' y] w fun _ w' => Blk w' b (row (reverseRange d x y) rest) ∧ Upd [b] w w' := by
  refine Ret.of_exec h (Nat.le_of_ble_eq_true rfl) fun c hc => ?_
  dsimp only [b_slices_reverseRangeOrdered_uint64, argEnv, ym, yo, yg, ys, yt, yd, ye]
  refine xr 3 rfl ?_
  refine xpu (pv_subI (a := y) (b := 1) rfl rfl (by omega) (by omega)) rfl ?_
  refine xr 2 rfl ?_
  refine xlo (S := Nat × Nat × Array Nat) (fun s W => s.2.1 < y ∧ s.1 ≤ n ∧ s.2.2.size = n ∧ reverseLoop s.1 s.2.1 s.2.2 = reverseRange d x y ∧ Blk W b (row s.2.2 rest) ∧ Upd [b] w W)
    (fun s => [(0, slV b n cap), (6, intV' s.1), (7, intV' s.2.1)]) (fun s => s.2.1 - s.1) (x, y - 1, d) ⟨by show y - 1 < y; omega, by show x ≤ n; omega, hd, rfl, hB, Upd.refl _ _⟩ ⟨rfl, rfl, rfl, trivial⟩ ?_
  rintro ⟨i, j, dk⟩ W ⟨g1, g2, g3, g4, g5, g6⟩
  simp only at g1 g2 g3 g4 g5
  refine xr 2 rfl ?_
  by_cases hij : i < j
  · refine xpu (pv_lssI (a := i) (b := j) (q := true) rfl rfl (by simpa using hij)) rfl ?_
    refine xr 3 rfl ?_
    refine exec_dws [b] 13 (fun W => Blk W b (splice (row dk rest) (0 + i * 1) (Value.cells (u64V dk[j]!)).toList)) (fun W W' h hu => h.upd hu) rfl rfl rfl ?_
    repeat (first | refine ws_auto rfl rfl rfl ?_ | refine ws_gauto rfl rfl rfl rfl ?_ | refine wgs rfl rfl ?_)
    refine ws_any _ rfl (fun W => ok_iaddr (b := b) (o := 0) (len := n) (cap := cap) rfl rfl (j) rfl (by omega)) ?_
    refine ws_ok (u64V dk[j]!) rfl rfl (fun W hu => ok_load1 (b := b) (o := 0 + (j) * 1) rfl ((g5.upd hu).cell (row_get (by omega)))) ?_
    repeat (first | refine ws_auto rfl rfl rfl ?_ | refine ws_gauto rfl rfl rfl rfl ?_ | refine wgs rfl rfl ?_)
    refine ws_any _ rfl (fun W => ok_iaddr (b := b) (o := 0) (len := n) (cap := cap) rfl rfl (i) rfl (by omega)) ?_
    refine ws_ok (u64V dk[i]!) rfl rfl (fun W hu => ok_load1 (b := b) (o := 0 + (i) * 1) rfl ((g5.upd hu).cell (row_get (by omega)))) ?_
    refine ws_any _ rfl (fun W => ok_iaddr (b := b) (o := 0) (len := n) (cap := cap) rfl rfl (i) rfl (by omega)) ?_
    refine ws_store rfl rfl rfl g5 rfl (by rw [row_length]; omega) rfl (by simp) (fun W h => h) ?_
    refine ws_end fun W_a hu_a hW_a => ?_
    refine xju (ok_iaddr (b := b) (o := 0) (len := n) (cap := cap) rfl rfl (j) rfl (by omega)) rfl ?_
    refine exec_store (b := b) (o := 0 + (j) * 1) (v := u64V dk[i]!) rfl rfl (hW_a rfl) rfl (by rw [row_set (by omega), row_length]; simp; omega) rfl ?_
    intro W1 hu_b _ hB1
    rw [row_swp (by omega) (by omega)] at hB1
    have hu1 := hu_a.trans hu_b (by simp)
    refine xr 1 rfl ?_
    refine xpu (pv_addI (a := i) (b := 1) rfl rfl (by omega)) rfl ?_
    refine xr 2 rfl ?_
    refine xpu (pv_subI (a := j) (b := 1) rfl rfl (by omega) (by omega)) rfl ?_
    refine xr 3 rfl ?_
    refine xag (i + 1, j - 1, swp dk i j) ⟨by show j - 1 < y; omega, by show i + 1 ≤ n; omega, by rw [swp_size]; exact g3, ?_, hB1, g6.trans hu1 (by simp)⟩ (by show j - 1 - (i + 1) < j - i; omega) ⟨rfl, rfl, rfl, trivial⟩
    rw [← g4]
    show _ = reverseLoop i j dk
    rw [reverseLoop_if i j dk, if_pos hij]
  · refine xpu (pv_lssI (a := i) (b := j) (q := false) rfl rfl (by simpa using hij)) rfl ?_
    refine xr 3 rfl ?_
    refine exec_end hc [] trivial ?_
    rw [← g4, reverseLoop_if, if_neg hij]
    exact ⟨g5, g6⟩
end
end Go.Sp

namespace Go.Sp
open Go.Sort (swp breakStep breakPatterns bitsLen xorNext xorNextN xorNext_toNat)
theorem bitsLen_eq {n : Nat} (h : n < 2 ^ 64) : bitsLen n = bitLen n := by
  refine (bitLen_eq h ⟨Go.Sort.lt_two_pow_bitsLen n, ?_⟩).symm
  rcases Nat.eq_zero_or_pos n with h0 | h0
  · left; subst h0; rfl
  · right
    have := Go.Sort.two_pow_bitsLen_le h0
    have hb : bitsLen n ≠ 0 := by
      intro hz
      have := Go.Sort.lt_two_pow_bitsLen n
      rw [hz] at this; simp at this; omega
    have e : (2 : Nat) ^ bitsLen n = 2 * 2 ^ (bitsLen n - 1) := by rw [← Nat.pow_succ']; congr 1; omega
    omega
def breakRuns (x len md : Nat) : Nat → Nat → UInt64 × Array Nat → UInt64 × Array Nat
  | 0, _, st => st
  | k + 1, idx, st => breakRuns x len md k (idx + 1) (breakStep x len md st idx)
section
variable {P : Program} {f : Nat} {w : World} (A : SortF P)
theorem len_ok {l32 : Nat} (h : Has P f (b_math_bits_Len l32 A.len64)) (x : Nat) (hx : x < 2 ^ 64) : RetV P f [u64V x] w (intV' (bitLen x)) := by
  refine Ret.of_exec h (Nat.le_of_ble_eq_true rfl) fun c hc => ?_
  dsimp only [b_math_bits_Len, argEnv, ym, yo, yg, ys, yt, yd, ye]
  refine xr 4 rfl ?_
  refine xca rfl rfl (len64_ok A.h_len64 x hx) ?_
  rintro v w1 ⟨rfl, hu1⟩
  refine xr 1 rfl ?_
  exact xre hc [_] ⟨rfl, trivial⟩ ⟨rfl, hu1⟩
theorem pow2_ok {l32 g : Nat} (h0 : Has P g (b_math_bits_Len l32 A.len64)) (h : Has P f (b_slices_nextPowerOfTwo g)) (x : Nat) (hx : x < 2 ^ 40) : RetV P f [intV' x] w (u64V (2 ^ bitLen x)) := by
  refine Ret.of_exec h (Nat.le_of_ble_eq_true rfl) fun c hc => ?_
  dsimp only [b_slices_nextPowerOfTwo, argEnv, ym, yo, yg, ys, yt, yd, ye]
  refine xr 2 rfl ?_
  refine xpu (pv_toU (a := x) rfl (by omega)) rfl ?_
  refine xca rfl rfl (len_ok A h0 x (by omega)) ?_
  rintro v w1 ⟨rfl, hu1⟩
  refine xju (ok_shlU (a := 1) (j := bitLen x) rfl rfl) rfl ?_
  have hb : bitLen x ≤ 40 := bitLen_le (by omega) (by omega)
  have : 2 ^ bitLen x ≤ 2 ^ 40 := Nat.pow_le_pow_right (by omega) hb
  rw [Nat.one_mul, Nat.mod_eq_of_lt (by omega)]
  refine xr 1 rfl ?_
  exact xre hc [_] ⟨rfl, trivial⟩ ⟨rfl, hu1⟩
theorem xor_ok (h : Has P f b_Pslices_xorshift_Next) {bs x : Nat} (hB : Blk w bs [u64V x]) (hx : x < 18446744073709551616) :
    Ret P f [ptrV bs] w fun v w' => v = u64V (xorNextN x) ∧ Blk w' bs [u64V (xorNextN x)] ∧ Upd [bs] w w' := by
  have p : (18446744073709551616 : Nat) = 2 ^ 64 := by decide
  have l1 : x * 8192 % 18446744073709551616 < 18446744073709551616 := Nat.mod_lt _ (by omega)
  refine Ret.of_exec h (Nat.le_of_ble_eq_true rfl) fun c hc => ?_
  dsimp only [b_Pslices_xorshift_Next, argEnv, ym, yo, yg, ys, yt, yd, ye]
  refine xr 1 rfl ?_
  refine exec_dw [] rfl rfl rfl ?_
  repeat (first | refine dau rfl (fun _ => rfl) ?_ | refine dga rfl (fun _ => rfl) (fun _ => rfl) ?_ | refine dgs (fun _ => rfl) ?_)
  refine dw_keep (u64V x) (fun vs W' hu _ => ok_load1 (b := bs) (o := 0) rfl ((hB.upd hu).cell rfl)) ?_
  repeat (first | refine dau rfl (fun _ => rfl) ?_ | refine dga rfl (fun _ => rfl) (fun _ => rfl) ?_ | refine dgs (fun _ => rfl) ?_)
  refine dw_keep (u64V x) (fun vs W' hu _ => ok_load1 (b := bs) (o := 0) rfl ((hB.upd hu).cell rfl)) ?_
  refine dw_keep _ (fun vs W' hu _ => ok_shlU (a := x) (j := 13) rfl rfl) ?_
  refine dw_end fun vs W1 hu1 _ => ?_
  refine xpu (pv_xorU (a := x) (b := x * 2 ^ 13 % 18446744073709551616) rfl rfl hx l1) rfl ?_
  refine xr 1 rfl ?_
  generalize hy : x ^^^ x * 2 ^ 13 % 18446744073709551616 = y
  have ly : y < 18446744073709551616 := by rw [← hy, p]; exact Nat.xor_lt_two_pow (by omega) (by omega)
  refine exec_store (b := bs) (o := 0) (v := u64V y) rfl rfl (hB.upd hu1) rfl (by simp) rfl ?_
  intro W2 hu2 _ hB2
  have hB2' : Blk W2 bs [u64V y] := hB2
  refine exec_dw [] rfl rfl rfl ?_
  repeat (first | refine dau rfl (fun _ => rfl) ?_ | refine dga rfl (fun _ => rfl) (fun _ => rfl) ?_ | refine dgs (fun _ => rfl) ?_)
  refine dw_keep (u64V y) (fun vs W' hu _ => ok_load1 (b := bs) (o := 0) rfl ((hB2'.upd hu).cell rfl)) ?_
  repeat (first | refine dau rfl (fun _ => rfl) ?_ | refine dga rfl (fun _ => rfl) (fun _ => rfl) ?_ | refine dgs (fun _ => rfl) ?_)
  refine dw_keep (u64V y) (fun vs W' hu _ => ok_load1 (b := bs) (o := 0) rfl ((hB2'.upd hu).cell rfl)) ?_
  refine dw_keep _ (fun vs W' hu _ => ok_shrU (a := y) (j := 7) rfl rfl ly) ?_
  refine dw_end fun vs W3 hu3 _ => ?_
  refine xpu (pv_xorU (a := y) (b := y / 2 ^ 7) rfl rfl ly (Nat.lt_of_le_of_lt (Nat.div_le_self _ _) ly)) rfl ?_
  refine xr 1 rfl ?_
  generalize hz : y ^^^ y / 2 ^ 7 = z
  have lz : z < 18446744073709551616 := by
    have := Nat.lt_of_le_of_lt (Nat.div_le_self y (2 ^ 7)) ly
    rw [← hz, p]; exact Nat.xor_lt_two_pow (by omega) (by omega)
  refine exec_store (b := bs) (o := 0) (v := u64V z) rfl rfl (hB2'.upd hu3) rfl (by simp) rfl ?_
  intro W4 hu4 _ hB4
  have hB4' : Blk W4 bs [u64V z] := hB4
  have l2 : z * 2 ^ 17 % 18446744073709551616 < 18446744073709551616 := Nat.mod_lt _ (by omega)
  refine exec_dw [] rfl rfl rfl ?_
  repeat (first | refine dau rfl (fun _ => rfl) ?_ | refine dga rfl (fun _ => rfl) (fun _ => rfl) ?_ | refine dgs (fun _ => rfl) ?_)
  refine dw_keep (u64V z) (fun vs W' hu _ => ok_load1 (b := bs) (o := 0) rfl ((hB4'.upd hu).cell rfl)) ?_
  repeat (first | refine dau rfl (fun _ => rfl) ?_ | refine dga rfl (fun _ => rfl) (fun _ => rfl) ?_ | refine dgs (fun _ => rfl) ?_)
  refine dw_keep (u64V z) (fun vs W' hu _ => ok_load1 (b := bs) (o := 0) rfl ((hB4'.upd hu).cell rfl)) ?_
  refine dw_keep _ (fun vs W' hu _ => ok_shlU (a := z) (j := 17) rfl rfl) ?_
  refine dw_end fun vs W5 hu5 _ => ?_
  refine xpu (pv_xorU (a := z) (b := z * 2 ^ 17 % 18446744073709551616) rfl rfl lz l2) rfl ?_
  refine xr 1 rfl ?_
  have hr : z ^^^ z * 2 ^ 17 % 18446744073709551616 = xorNextN x := by rw [← hz, ← hy]; rfl
  rw [hr]
  refine exec_store (b := bs) (o := 0) (v := u64V (xorNextN x)) rfl rfl (hB4'.upd hu5) rfl (by simp) rfl ?_
  intro W6 hu6 _ hB6
  have hB6' : Blk W6 bs [u64V (xorNextN x)] := hB6
  refine xr 2 rfl ?_
  refine exec_load1 (b := bs) (o := 0) rfl rfl (hB6'.cell rfl) ?_
  refine xr 1 rfl ?_
  refine xre hc [_] ⟨rfl, trivial⟩ ⟨rfl, hB6', ?_⟩
  have t1 : Upd [bs] w W2 := (hu1.mono (m := [bs]) (by simp)).trans hu2 (by simp)
  have t2 : Upd [bs] W2 W4 := (hu3.mono (m := [bs]) (by simp)).trans hu4 (by simp)
  have t3 : Upd [bs] W4 W6 := (hu5.mono (m := [bs]) (by simp)).trans hu6 (by simp)
  exact (t1.trans t2 (by simp)).trans t3 (by simp)
theorem break_ok {l32 g1 g2 g3 T : Nat} (h0 : Has P g1 (b_math_bits_Len l32 A.len64)) (h1 : Has P g2 (b_slices_nextPowerOfTwo g1)) (h2 : Has P g3 b_Pslices_xorshift_Next) (h : Has P f (b_slices_breakPatternsOrdered_uint64 g2 g3 T))
    {b n cap x y : Nat} {d : Array Nat} {rest : List Value} (hB : Blk w b (row d rest)) (hd : d.size = n) (hxy : x + 12 < y) (hy : y ≤ n) (hn : n < 2 ^ 40) :
    Ret P f [slV b n cap, intV' x, intV' y] w fun _ w' => Blk w' b (row (breakPatterns d x y) rest) ∧ Upd [b] w w' := by
  have hlt := hB.lt
  have hlen : bitsLen (y - x) = bitLen (y - x) := bitsLen_eq (by omega)
  have hp2 := Go.Sort.two_pow_bitsLen_le (n := y - x) (by omega)
  have hp1 := Go.Sort.lt_two_pow_bitsLen (y - x)
  have hresult : breakPatterns d x y = (breakRuns x (y - x) (2 ^ bitLen (y - x)) 3 (x + (y - x) / 4 * 2 - 1) (UInt64.ofNat (y - x), d)).2 := by
    unfold breakPatterns
    simp only []
    rw [if_pos (show y - x ≥ 8 by omega), Nat.one_shiftLeft, hlen]
    rfl
  rw [hlen] at hp2 hp1
  generalize hmd : 2 ^ bitLen (y - x) = md at *
  refine Ret.of_exec h (Nat.le_of_ble_eq_true rfl) fun c hc => ?_
  dsimp only [b_slices_breakPatternsOrdered_uint64, argEnv, ym, yo, yg, ys, yt, yd, ye]
  refine xr 2 rfl ?_
  refine xpu (pv_subI (a := y) (b := x) rfl rfl (by omega) (by omega)) rfl ?_
  refine xr 2 rfl ?_
  refine xpu (pv_geqI (a := y - x) (b := 8) (q := true) rfl rfl (by simp; omega)) rfl ?_
  refine xr 2 rfl ?_
  refine xpu (pv_toU (a := y - x) rfl (by omega)) rfl ?_
  refine exec_new_store (v := u64V (y - x)) rfl rfl rfl rfl rfl rfl ?_
  intro bs W1 hbs hs1 hu1 hS1
  have hS : Blk W1 bs [u64V (y - x)] := hS1
  have hne : b ≠ bs := by omega
  have hB1 := hB.upd hu1
  refine xr 1 rfl ?_
  refine xca rfl rfl (pow2_ok A h0 h1 (y - x) (by omega)) ?_
  rintro v W2 ⟨rfl, hu2⟩
  rw [hmd]
  refine xr 3 rfl ?_
  refine xju (ok_quoI (a := y - x) (b := 4) rfl rfl (by omega) (by omega)) rfl ?_
  refine xpu (pv_mulI (a := (y - x) / 4) (b := 2) rfl rfl (by omega)) rfl ?_
  refine xpu (pv_addI (a := x) (b := (y - x) / 4 * 2) rfl rfl (by omega)) rfl ?_
  refine xpu (pv_subI (a := x + (y - x) / 4 * 2) (b := 1) rfl rfl (by omega) (by omega)) rfl ?_
  refine xr 2 rfl ?_
  refine xlo (S := Nat × UInt64 × Array Nat) (fun s W => s.1 ≤ 3 ∧ s.2.2.size = n ∧ (breakRuns x (y - x) md (3 - s.1) (x + (y - x) / 4 * 2 - 1 + s.1) s.2).2 = breakPatterns d x y ∧ Blk W b (row s.2.2 rest) ∧ Blk W bs [u64V s.2.1.toNat] ∧ Upd [b] w W)
    (fun s => [(0, slV b n cap), (1, intV' x), (2, intV' y), (6, intV' (y - x)), (7, ptrV bs), (8, u64V md), (9, intV' (x + (y - x) / 4 * 2 - 1 + s.1))]) (fun s => 3 - s.1) (0, UInt64.ofNat (y - x), d)
    ⟨by show 0 ≤ 3; omega, hd, hresult.symm, hB1.upd hu2, ?_, (hu1.mono (m := [b]) (by simp)).trans (hu2.mono (m := [b]) (by simp)) (by simp)⟩ ⟨rfl, rfl, rfl, rfl, rfl, rfl, rfl, trivial⟩ ?_
  · have e1 : (UInt64.ofNat (y - x)).toNat = y - x := by rw [UInt64.toNat_ofNat']; exact Nat.mod_eq_of_lt (by omega)
    show Blk W2 bs [u64V (UInt64.ofNat (y - x)).toNat]
    rw [e1]; exact hS.upd hu2
  rintro ⟨t, r, dk⟩ W ⟨t1, t2, t3, t4, t5, t6⟩
  simp only at t1 t2 t3 t4 t5
  refine xr 3 rfl ?_
  refine xju (ok_quoI (a := y - x) (b := 4) rfl rfl (by omega) (by omega)) rfl ?_
  refine xpu (pv_mulI (a := (y - x) / 4) (b := 2) rfl rfl (by omega)) rfl ?_
  refine xpu (pv_addI (a := x) (b := (y - x) / 4 * 2) rfl rfl (by omega)) rfl ?_
  refine xpu (pv_addI (a := x + (y - x) / 4 * 2) (b := 1) rfl rfl (by omega)) rfl ?_
  by_cases ht : t < 3
  · refine xpu (pv_leqI (a := x + (y - x) / 4 * 2 - 1 + t) (b := x + (y - x) / 4 * 2 + 1) (q := true) rfl rfl (by simp; omega)) rfl ?_
    refine xr 3 rfl ?_
    refine exec_inner_join (S := Nat) (fun o W4 => breakStep x (y - x) md (r, dk) (x + (y - x) / 4 * 2 - 1 + t) = (xorNext r, swp dk (x + (y - x) / 4 * 2 - 1 + t) (x + o)) ∧ Blk W4 b (row (swp dk (x + (y - x) / 4 * 2 - 1 + t) (x + o)) rest) ∧ Blk W4 bs [u64V (xorNext r).toNat] ∧ Upd [b] w W4)
      (fun _ => [(0, slV b n cap), (1, intV' x), (2, intV' y), (6, intV' (y - x)), (7, ptrV bs), (8, u64V md), (9, intV' (x + (y - x) / 4 * 2 - 1 + t))]) ?_ ?_
    rotate_left
    · rintro o W4 ⟨q1, q2, q3, q4⟩
      refine xr 1 rfl ?_
      refine xpu (pv_addI (a := x + (y - x) / 4 * 2 - 1 + t) (b := 1) rfl rfl (by omega)) rfl ?_
      refine xr 1 rfl ?_
      refine xag (t + 1, xorNext r, swp dk (x + (y - x) / 4 * 2 - 1 + t) (x + o)) ⟨ht, by rw [swp_size]; exact t2, ?_, q2, q3, q4⟩ (by show 3 - (t + 1) < 3 - t; omega) ⟨rfl, rfl, rfl, rfl, rfl, rfl, rfl, trivial⟩
      rw [← t3, show 3 - t = (3 - (t + 1)) + 1 by omega]
      show _ = (breakRuns x (y - x) md (3 - (t + 1)) (x + (y - x) / 4 * 2 - 1 + t + 1) (breakStep x (y - x) md (r, dk) (x + (y - x) / 4 * 2 - 1 + t))).2
      rw [q1]
      rfl
    refine xca rfl rfl (xor_ok h2 t5 r.toNat_lt) ?_
    rintro v W3 ⟨rfl, hS3, hu3⟩
    rw [← xorNext_toNat] at hS3
    rw [← xorNext_toNat]
    have hB3 := t4.upd hu3 (by simp; exact hne)
    have hr := (xorNext r).toNat_lt
    have hands : (xorNext r).toNat &&& (md - 1) ≤ md - 1 := Nat.and_le_right
    refine xr 1 rfl ?_
    refine xpu (pv_subU (a := md) (b := 1) rfl rfl (by omega) (by omega)) rfl ?_
    refine xpu (pv_andU (a := (xorNext r).toNat) (b := md - 1) rfl rfl hr (by omega)) rfl ?_
    refine xpu (pv_toI (a := (xorNext r).toNat &&& (md - 1)) rfl (by omega)) rfl ?_
    refine xr 3 rfl ?_
    have hstep : ∀ o, o = (if (xorNext r).toNat &&& (md - 1) ≥ y - x then ((xorNext r).toNat &&& (md - 1)) - (y - x) else (xorNext r).toNat &&& (md - 1)) → breakStep x (y - x) md (r, dk) (x + (y - x) / 4 * 2 - 1 + t) = (xorNext r, swp dk (x + (y - x) / 4 * 2 - 1 + t) (x + o)) := by
      rintro o rfl; rfl
    by_cases hge : y - x ≤ (xorNext r).toNat &&& (md - 1)
    · refine xpu (pv_geqI (a := (xorNext r).toNat &&& (md - 1)) (b := y - x) (q := true) rfl rfl (by simpa using hge)) rfl ?_
      refine xr 3 rfl ?_
      refine xpu (pv_subI (a := (xorNext r).toNat &&& (md - 1)) (b := y - x) rfl rfl hge (by omega)) rfl ?_
      refine xr 2 rfl ?_
      have e1 := hstep (((xorNext r).toNat &&& (md - 1)) - (y - x)) (by rw [if_pos hge])
      generalize ho : ((xorNext r).toNat &&& (md - 1)) - (y - x) = o at e1
      have ho2 : o < y - x := by omega
      refine exec_dws [b] 17 (fun W => Blk W b (splice (row dk rest) (0 + (x + (y - x) / 4 * 2 - 1 + t) * 1) (Value.cells (u64V dk[x + o]!)).toList)) (fun W W' h hu => h.upd hu) rfl rfl rfl ?_
      repeat (first | refine ws_auto rfl rfl rfl ?_ | refine ws_gauto rfl rfl rfl rfl ?_ | refine wgs rfl rfl ?_)
      refine ws_val rfl (pv_addI (a := x) (b := o) rfl rfl (by omega)) ?_
      repeat (first | refine ws_auto rfl rfl rfl ?_ | refine ws_gauto rfl rfl rfl rfl ?_ | refine wgs rfl rfl ?_)
      refine ws_val rfl (pv_addI (a := x) (b := o) rfl rfl (by omega)) ?_
      refine ws_any _ rfl (fun W => ok_iaddr (b := b) (o := 0) (len := n) (cap := cap) rfl rfl (x + o) rfl (by omega)) ?_
      refine ws_ok (u64V dk[x + o]!) rfl rfl (fun W hu => ok_load1 (b := b) (o := 0 + (x + o) * 1) rfl ((hB3.upd hu).cell (row_get (by omega)))) ?_
      repeat (first | refine ws_auto rfl rfl rfl ?_ | refine ws_gauto rfl rfl rfl rfl ?_ | refine wgs rfl rfl ?_)
      refine ws_any _ rfl (fun W => ok_iaddr (b := b) (o := 0) (len := n) (cap := cap) rfl rfl (x + (y - x) / 4 * 2 - 1 + t) rfl (by omega)) ?_
      refine ws_ok (u64V dk[x + (y - x) / 4 * 2 - 1 + t]!) rfl rfl (fun W hu => ok_load1 (b := b) (o := 0 + (x + (y - x) / 4 * 2 - 1 + t) * 1) rfl ((hB3.upd hu).cell (row_get (by omega)))) ?_
      refine ws_any _ rfl (fun W => ok_iaddr (b := b) (o := 0) (len := n) (cap := cap) rfl rfl (x + (y - x) / 4 * 2 - 1 + t) rfl (by omega)) ?_
      refine ws_store rfl rfl rfl hB3 rfl (by rw [row_length]; omega) rfl (by simp) (fun W h => h) ?_
      refine ws_end fun W_a hu_a hW_a => ?_
      refine xju (ok_iaddr (b := b) (o := 0) (len := n) (cap := cap) rfl rfl (x + o) rfl (by omega)) rfl ?_
      refine exec_store (b := b) (o := 0 + (x + o) * 1) (v := u64V dk[x + (y - x) / 4 * 2 - 1 + t]!) rfl rfl (hW_a rfl) rfl (by rw [row_set (by omega), row_length]; simp; omega) rfl ?_
      intro W4 hu_b _ hB4
      rw [row_swp (by omega) (by omega)] at hB4
      have hu4 := hu_a.trans hu_b (by simp)
      refine xr 1 rfl ?_
      exact exec_meet o ⟨e1, hB4, hS3.upd hu4 (by simp; omega), (t6.trans hu3 (fun z hz => .inr (by simp at hz; omega))).trans hu4 (by simp)⟩ ⟨rfl, rfl, rfl, rfl, rfl, rfl, rfl, trivial⟩
    · refine xpu (pv_geqI (a := (xorNext r).toNat &&& (md - 1)) (b := y - x) (q := false) rfl rfl (by simpa using hge)) rfl ?_
      refine xr 2 rfl ?_
      have e1 := hstep ((xorNext r).toNat &&& (md - 1)) (by rw [if_neg hge])
      generalize ho : (xorNext r).toNat &&& (md - 1) = o at e1 hge
      have ho2 : o < y - x := by omega
      refine exec_dws [b] 17 (fun W => Blk W b (splice (row dk rest) (0 + (x + (y - x) / 4 * 2 - 1 + t) * 1) (Value.cells (u64V dk[x + o]!)).toList)) (fun W W' h hu => h.upd hu) rfl rfl rfl ?_
      repeat (first | refine ws_auto rfl rfl rfl ?_ | refine ws_gauto rfl rfl rfl rfl ?_ | refine wgs rfl rfl ?_)
      refine ws_val rfl (pv_addI (a := x) (b := o) rfl rfl (by omega)) ?_
      repeat (first | refine ws_auto rfl rfl rfl ?_ | refine ws_gauto rfl rfl rfl rfl ?_ | refine wgs rfl rfl ?_)
      refine ws_val rfl (pv_addI (a := x) (b := o) rfl rfl (by omega)) ?_
      refine ws_any _ rfl (fun W => ok_iaddr (b := b) (o := 0) (len := n) (cap := cap) rfl rfl (x + o) rfl (by omega)) ?_
      refine ws_ok (u64V dk[x + o]!) rfl rfl (fun W hu => ok_load1 (b := b) (o := 0 + (x + o) * 1) rfl ((hB3.upd hu).cell (row_get (by omega)))) ?_
      repeat (first | refine ws_auto rfl rfl rfl ?_ | refine ws_gauto rfl rfl rfl rfl ?_ | refine wgs rfl rfl ?_)
      refine ws_any _ rfl (fun W => ok_iaddr (b := b) (o := 0) (len := n) (cap := cap) rfl rfl (x + (y - x) / 4 * 2 - 1 + t) rfl (by omega)) ?_
      refine ws_ok (u64V dk[x + (y - x) / 4 * 2 - 1 + t]!) rfl rfl (fun W hu => ok_load1 (b := b) (o := 0 + (x + (y - x) / 4 * 2 - 1 + t) * 1) rfl ((hB3.upd hu).cell (row_get (by omega)))) ?_
      refine ws_any _ rfl (fun W => ok_iaddr (b := b) (o := 0) (len := n) (cap := cap) rfl rfl (x + (y - x) / 4 * 2 - 1 + t) rfl (by omega)) ?_
      refine ws_store rfl rfl rfl hB3 rfl (by rw [row_length]; omega) rfl (by simp) (fun W h => h) ?_
      refine ws_end fun W_a hu_a hW_a => ?_
      refine xju (ok_iaddr (b := b) (o := 0) (len := n) (cap := cap) rfl rfl (x + o) rfl (by omega)) rfl ?_
      refine exec_store (b := b) (o := 0 + (x + o) * 1) (v := u64V dk[x + (y - x) / 4 * 2 - 1 + t]!) rfl rfl (hW_a rfl) rfl (by rw [row_set (by omega), row_length]; simp; omega) rfl ?_
      intro W4 hu_b _ hB4
      rw [row_swp (by omega) (by omega)] at hB4
      have hu4 := hu_a.trans hu_b (by simp)
      refine xr 1 rfl ?_
      exact exec_meet o ⟨e1, hB4, hS3.upd hu4 (by simp; omega), (t6.trans hu3 (fun z hz => .inr (by simp at hz; omega))).trans hu4 (by simp)⟩ ⟨rfl, rfl, rfl, rfl, rfl, rfl, rfl, trivial⟩
  · refine xpu (pv_leqI (a := x + (y - x) / 4 * 2 - 1 + t) (b := x + (y - x) / 4 * 2 + 1) (q := false) rfl rfl (by simp; omega)) rfl ?_
    refine xr 4 rfl ?_
    refine exec_end hc [] trivial ?_
    have : t = 3 := by omega
    subst this
    rw [← t3]
    exact ⟨t4, t6⟩
end
end Go.Sp
