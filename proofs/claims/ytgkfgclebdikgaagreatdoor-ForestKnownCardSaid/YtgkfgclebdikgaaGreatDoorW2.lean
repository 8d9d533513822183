/- spinneylaw14.ForestKnown returns true for every input, and its arguments read afterwards as before: the card. No condition. This text: part 2 of 10. -/
import Derived.Test.YtgkfgclebdikgaaGreatDoorW1
set_option linter.unusedVariables false
set_option linter.unusedSimpArgs false
set_option linter.unusedSectionVars false
namespace Go.Sp
theorem ready_mem {ops : Array Oper} {listed : Array Bool} {i : Nat} : i ∈ Region.ready .any ops listed ↔
    ∃ o, ops[i]? = some o ∧ listed.getD i true = false ∧ ∀ e ∈ o.after, Region.binds .any e = true → listed.getD e.on false = true := by
  unfold Region.ready
  rw [List.mem_filter]
  constructor
  · rintro ⟨h1, h2⟩
    have hlt : i < ops.size := by simpa using h1
    have ho : ops[i]? = some ops[i] := Array.getElem?_eq_getElem hlt
    simp only [ho, Option.map_some, Option.getD_some, Bool.and_eq_true, Bool.not_eq_true'] at h2
    refine ⟨_, ho, h2.1, fun e he hb => ?_⟩
    have := (Array.all_eq_true_iff_forall_mem.1 h2.2) e he
    simpa [hb] using this
  · rintro ⟨o, ho, h1, h2⟩
    have hlt := (Array.getElem?_eq_some_iff.1 ho).1
    refine ⟨by simpa using hlt, ?_⟩
    simp only [ho, Option.map_some, Option.getD_some, h1, Bool.not_false, Bool.true_and]
    rw [Array.all_eq_true_iff_forall_mem]
    intro e he
    cases hb : Region.binds .any e with
    | false => rfl
    | true => simpa using h2 e he hb
theorem step_then {P : Program} {rd : Option Nat} {g : Option (Option Nat × Bool)} {d : Option Nat} {m : MOp} {next N : Act → World → Prop} {Q : Exit → Act → World → Prop} {a : Act} {w : World}
    (h : stepOp P rd g d m next Q a w) : stepOp P rd g d m next (Exit.then N Q) a w := by
  unfold stepOp at h ⊢
  split
  · rename_i hg; rw [if_pos hg] at h; rw [upon_then]; exact h
  · rename_i hg; rw [if_neg hg] at h; exact h
theorem wpOp_of_step {P : Program} {rd : Option Nat} {ops : Array Oper} {o : Oper} {i : Nat} {K : Act → World → Prop} {Q : Exit → Act → World → Prop} {a : Act} {w : World}
    (ho : ops[i]? = some o) (hd : isDefer o = false) (h : stepOp P rd (convG ops o) o.dst (convO P o) K Q a w) : wpOpIn (FW rd) 0 P ops Q i K a w := by
  have := stepOp_op hd h
  unfold wpOpIn
  simp only [ho]
  exact this
theorem notDefer {ops : Array Oper} (h : ops.any isDefer = false) {i : Nat} {o : Oper} (ho : ops[i]? = some o) : isDefer o = false := by
  cases hd : isDefer o with
  | false => rfl
  | true =>
    have : ops.any isDefer = true := by
      rw [Array.any_eq_true]
      obtain ⟨hlt, he⟩ := Array.getElem?_eq_some_iff.1 ho
      exact ⟨i, hlt, by rw [he]; exact hd⟩
    rw [h] at this; cases this
section
variable {P : Program} {rd : Option Nat} {ops : Array Oper} {is : List Ins} {Q : Exit → Act → World → Prop}
theorem allD_some (h : ∀ i : Nat, i < ops.size → True) (i : Nat) (hi : i < ops.size) : ∃ c g d m, (allD P ops)[i]? = some (c, g, d, m) := by
  have : i < (allD P ops).length := by rw [allD_length]; exact hi
  exact ⟨_, _, _, _, List.getElem?_eq_getElem this⟩
theorem phase2 (hdef : ops.any isDefer = false) (hwell : wellDeps 0 (allD P ops) = true) (s : Nat) (hb : behindAll s ((allD P ops).drop s) = true) :
    ∀ (r i fuel : Nat) (listed : Array Bool) (a : Act) (w : World), i + r = ops.size → s ≤ i → r ≤ fuel → (∀ j, j < ops.size → (listed.getD j true = true ↔ j < i)) → listed.size = ops.size →
      denL P rd (tailIns ((allD P ops).drop i) ++ is) Q a w →
      wpAnyIn (FW rd) 0 P .any ops (Exit.then (denL P rd is Q) Q) fuel listed a w := by
  intro r
  induction r with
  | zero =>
    intro i fuel listed a w hir hs hf hl hsz h
    have hready : Region.ready .any ops listed = [] := by
      rw [List.eq_nil_iff_forall_not_mem]
      intro j hj
      obtain ⟨o, ho, h1, _⟩ := ready_mem.1 hj
      have hlt := (Array.getElem?_eq_some_iff.1 ho).1
      rw [(hl j hlt).2 (by omega)] at h1
      cases h1
    have hdrop : (allD P ops).drop i = [] := List.drop_eq_nil_of_le (by rw [allD_length]; omega)
    rw [hdrop] at h
    simp only [tailIns, List.nil_append] at h
    cases fuel with
    | zero => exact ⟨hready, h⟩
    | succ fuel => exact ⟨fun _ => h, fun j hj => by rw [hready] at hj; simp at hj⟩
  | succ r ih =>
    intro i fuel listed a w hir hs hf hl hsz h
    have hi : i < ops.size := by omega
    obtain ⟨c, g, d, m, hC⟩ := allD_some (P := P) (ops := ops) (fun _ _ => trivial) i hi
    obtain ⟨o, ho, rfl, rfl, rfl, hdir, hclo⟩ := allD_get hC
    have hmem : i ∈ Region.ready .any ops listed := by
      refine ready_mem.2 ⟨o, ho, ?_, fun e he hbn => ?_⟩
      · cases hv : listed.getD i true with
        | false => rfl
        | true => have := (hl i hi).1 hv; omega
      · have hlt : e.on < i := by simpa using wellDeps_get _ 0 hwell i _ _ _ _ hC e.on (hdir e he hbn)
        have := (hl e.on (by omega)).2 hlt
        rw [Array.getD_eq_getD_getElem?] at this ⊢
        rw [Array.getElem?_eq_getElem (by omega)] at this ⊢
        exact this
    obtain ⟨f, rfl⟩ : ∃ f, fuel = f + 1 := ⟨fuel - 1, by omega⟩
    refine ⟨fun hr => by rw [hr] at hmem; simp at hmem, fun j hj => ?_⟩
    have hji : j = i := by
      obtain ⟨o', ho', h1, h2⟩ := ready_mem.1 hj
      have hlt := (Array.getElem?_eq_some_iff.1 ho').1
      have hge : i ≤ j := by
        rcases Nat.lt_or_ge j i with hlt' | hge
        · rw [(hl j hlt).2 hlt'] at h1; cases h1
        · exact hge
      rcases Nat.eq_or_lt_of_le hge with he | hgt
      · exact he.symm
      · exfalso
        obtain ⟨c', g', d', m', hC'⟩ := allD_some (P := P) (ops := ops) (fun _ _ => trivial) j hlt
        obtain ⟨o'', ho'', _, _, _, _, hclo'⟩ := allD_get hC'
        rw [ho'] at ho''; cases ho''
        have hib : i ∈ c' := behindAll_get _ s hb (j - s) c' g' d' m' (by rw [List.getElem?_drop]; rw [show s + (j - s) = j from by omega]; exact hC') i (by omega)
        obtain ⟨e, he, hbn, hx⟩ := hclo' i hib
        have hlis := h2 e he hbn
        have hon : e.on < i := by
          have hsz' : e.on < listed.size := by
            rw [Array.getD_eq_getD_getElem?] at hlis
            rcases Nat.lt_or_ge e.on listed.size with h | h
            · exact h
            · rw [Array.getElem?_eq_none h] at hlis; cases hlis
          refine (hl e.on (by omega)).1 ?_
          rw [Array.getD_eq_getD_getElem?] at hlis ⊢
          rw [Array.getElem?_eq_getElem hsz'] at hlis ⊢
          exact hlis
        rcases hx with hx | ⟨c2, g2, d2, m2, hC2, hx⟩
        · omega
        · have := wellDeps_get _ 0 hwell e.on _ _ _ _ hC2 i hx
          omega
    subst hji
    have hdr : (allD P ops).drop j = (c, convG ops o, o.dst, convO P o) :: (allD P ops).drop (j + 1) := by
      have hlen : j < (allD P ops).length := by rw [allD_length]; exact hi
      rw [List.drop_eq_getElem_cons hlen]
      congr 1
      exact Option.some.inj ((List.getElem?_eq_getElem hlen).symm.trans hC)
    rw [hdr] at h
    simp only [tailIns, List.cons_append, denL, denI] at h
    refine wpOp_of_step ho (notDefer hdef ho) (step_then ?_)
    refine stepMono ?_ (fun _ _ _ h => h) h
    intro a' w' h'
    refine ih (j + 1) f _ a' w' (by omega) (by omega) (by omega) ?_ (by simp [hsz]) h'
    intro x hx
    rw [Array.getD_eq_getD_getElem?]
    rcases Nat.lt_trichotomy x j with h | h | h
    · rw [Array.getElem?_setIfInBounds_ne (by omega)]
      have := (hl x hx).2 h
      rw [Array.getD_eq_getD_getElem?] at this
      rw [this]; simp; omega
    · subst h
      simp [hsz, hx]
    · rw [Array.getElem?_setIfInBounds_ne (by omega)]
      have : ¬ (listed.getD x true = true) := fun hv => by have := (hl x hx).1 hv; omega
      rw [Array.getD_eq_getD_getElem?] at this
      constructor
      · intro hv; exact absurd hv this
      · intro hv; omega
def left (l : Array Bool) : Nat := l.toList.count false
theorem left_set {l : Array Bool} {j : Nat} (h : l.getD j true = false) : left (l.setIfInBounds j true) + 1 = left l := by
  have hj : j < l.size := by
    rcases Nat.lt_or_ge j l.size with h' | h'
    · exact h'
    · rw [Array.getD_eq_getD_getElem?, Array.getElem?_eq_none h'] at h; cases h
  have hv : l.toList[j]'(by simpa using hj) = false := by
    rw [Array.getD_eq_getD_getElem?, Array.getElem?_eq_getElem hj] at h
    simpa using h
  unfold left
  rw [Array.toList_setIfInBounds, List.count_set (by simpa using hj)]
  have : 0 < l.toList.count false := List.count_pos_iff.2 (by rw [← hv]; exact List.getElem_mem _)
  simp only [hv]
  simp only [BEq.rfl, if_true]
  have : ((true == false) = true) = False := by simp
  simp only [this, if_false]
  omega
theorem left_pos {l : Array Bool} {j : Nat} (h : l.getD j true = false) : 0 < left l := by
  have := left_set h; omega
theorem getD_true {l : Array Bool} {j : Nat} (hj : j < l.size) (d : Bool) : l.getD j d = l.getD j true := by
  simp [Array.getD_eq_getD_getElem?, Array.getElem?_eq_getElem hj]
theorem getD_set {l : Array Bool} {j x : Nat} (hx : x < l.size) : (l.setIfInBounds j true).getD x true = (if x = j then true else l.getD x true) := by
  rw [Array.getD_eq_getD_getElem?]
  split
  · rename_i h; subst h; simp [hx]
  · rename_i h; rw [Array.getElem?_setIfInBounds_ne (by omega)]; simp [hx]
theorem left_eq {l : Array Bool} {N s : Nat} (hN : l.size = N) (h : ∀ j, j < N → (l.getD j true = true ↔ j < s)) : left l = N - s := by
  have : l.toList = List.replicate (min s N) true ++ List.replicate (N - s) false := by
    apply List.ext_getElem
    · simp [hN]; omega
    · intro i h1 h2
      have hi : i < N := by simpa [hN] using h1
      have := h i hi
      rw [Array.getD_eq_getD_getElem?, Array.getElem?_eq_getElem (by omega)] at this
      simp only [Option.getD_some] at this
      rw [List.getElem_append]
      simp only [Array.getElem_toList, List.length_replicate, List.getElem_replicate]
      split
      · exact this.2 (by omega)
      · cases hv : l[i]'(by omega) with
        | false => rfl
        | true => have := this.1 hv; omega
  unfold left
  rw [this]
  simp [List.count_replicate]
theorem minOf {p : Nat → Bool} {j : Nat} (h : p j = true) : ∃ m, m ≤ j ∧ p m = true ∧ ∀ x, x < m → p x = false := by
  induction j using Nat.strongRecOn with
  | _ j ih =>
    by_cases hx : ∃ x, x < j ∧ p x = true
    · obtain ⟨x, hlt, hp⟩ := hx
      obtain ⟨m, h1, h2, h3⟩ := ih x hlt hp
      exact ⟨m, by omega, h2, h3⟩
    · refine ⟨j, Nat.le_refl _, h, fun x hlt => ?_⟩
      cases hp : p x with
      | false => rfl
      | true => exact absurd ⟨x, hlt, hp⟩ hx
structure Inv (P : Program) (ops : Array Oper) (n s : Nat) (D : List Deferred) (Rel : World → World → Prop) (Rs : Nat → World → (Nat → Value) → Prop) (e : Env) (w : World) (vs : Nat → Value) (listed : Array Bool) (a : Act) (W : World) : Prop where
  size : listed.size = ops.size
  low : ∀ j, j < ops.size → listed.getD j true = true → j < s
  closed : ∀ j c g d m, (allD P ops)[j]? = some (c, g, d, m) → listed.getD j true = true → ∀ x ∈ c, listed.getD x true = true
  rel : Rel w W
  vals : ∀ j c g d m, (allD P ops)[j]? = some (c, g, d, m) → listed.getD j true = true → Rs j W vs ∧ ∀ t, d = some t → a.tmps[t]? = some (vs j)
  keep : ∀ t v, e.get t = some v → (∀ j c g m, (allD P ops)[j]? = some (c, g, some t, m) → j < s → listed.getD j true = false) → a.tmps[t]? = some v
  tm : a.tmps.size = n
  df : a.defers = D
theorem phase1 {n s : Nat} {c : Ctx} {D : List Deferred} {k : Kont} {Rel : World → World → Prop} {Rs : Nat → World → (Nat → Value) → Prop} {e : Env} {w : World}
    (hdef : ops.any isDefer = false) (hwell : wellDeps 0 (allD P ops) = true) (hb : behindAll s ((allD P ops).drop s) = true) (hs : s ≤ ops.size)
    (hrfl : ∀ a, Rel a a) (htr : ∀ a b c, Rel a b → Rel b c → Rel a c) (hmo : ∀ i W W' vs, i < s → Rel w W → Rel W W' → Rs i W vs → Rs i W' vs)
    (hloc : ∀ i c g d m j W vs v, ((allD P ops).take s)[i]? = some (c, g, d, m) → j ∉ c → j ≠ i → Rs i W vs → Rs i W (put vs j v))
    (hdst : ∀ t ∈ dsts ((allD P ops).take s), t < n) (hnd : nodupB (dsts ((allD P ops).take s)) = true)
    (hst : DSteps P Rel ((allD P ops).take s) Rs e w 0 ((allD P ops).take s))
    (next : ∀ vs W, Rel w W → (∀ i, i < s → Rs i W vs) → Exec P n c D (tailIns ((allD P ops).drop s) ++ is) k (outEnv vs 0 ((allD P ops).take s) ++ e) W) :
    ∀ (fuel : Nat) (listed : Array Bool) (vs : Nat → Value) (a : Act) (W : World), left listed ≤ fuel → Inv P ops n s D Rel Rs e w vs listed a W →
      wpAnyIn (FW c.rd) 0 P .any ops (Exit.then (denL P c.rd is (k.sem P c)) (k.sem P c)) fuel listed a W := by
  have hget : ∀ j, j < s → (allD P ops)[j]? = ((allD P ops).take s)[j]? := fun j hj => by rw [List.getElem?_take]; simp [hj]
  intro fuel
  induction fuel with
  | zero =>
    intro listed vs a W hf hI
    have hall : ∀ j, j < ops.size → listed.getD j true = true := by
      intro j hj
      cases h : listed.getD j true with
      | true => rfl
      | false => have := left_pos h; omega
    have hsn : s = ops.size := by
      rcases Nat.lt_or_ge s ops.size with h | h
      · have := hI.low s h (hall s h); omega
      · omega
    have he : Env.ok (outEnv vs 0 ((allD P ops).take s) ++ e) a.tmps := by
      intro t v hg
      rw [append_get] at hg
      cases ho : (outEnv vs 0 ((allD P ops).take s)).get t with
      | some u =>
        rw [ho] at hg; simp at hg; subst hg
        obtain ⟨j, c', g, m, h1, h2⟩ := outEnv_get _ _ _ _ ho
        have hj : j < s := by
          have := (List.getElem?_eq_some_iff.1 h1).1
          simp at this; omega
        rw [← hget j hj] at h1
        have := (hI.vals j _ _ _ _ h1 (hall j (by omega))).2 t rfl
        rw [this, h2]; simp
      | none =>
        rw [ho] at hg; simp at hg
        refine hI.keep t v hg fun j c' g m hj hlt => ?_
        rw [hget j hlt] at hj
        exact absurd rfl (outEnv_none _ _ _ ho j _ _ _ _ hj)
    have hx := (next vs W hI.rel (fun i hi => by
      obtain ⟨c', g, d, m, hC⟩ := allD_some (P := P) (ops := ops) (fun _ _ => trivial) i (by omega)
      exact (hI.vals i _ _ _ _ hC (hall i (by omega))).1)).run a hI.tm he hI.df
    exact phase2 hdef hwell s hb (ops.size - s) s 0 listed a W (by omega) (Nat.le_refl _) (by omega)
      (fun j hj => ⟨fun _ => by omega, fun _ => hall j hj⟩) hI.size hx
  | succ fuel ih =>
    intro listed vs a W hf hI
    by_cases hfree : ∃ j, j < s ∧ listed.getD j true = false
    · -- some free operation is still to run
      obtain ⟨j0, hj0, hl0⟩ := hfree
      obtain ⟨j1, hj1, hp1, hmin⟩ := minOf (p := fun j => !listed.getD j true) (j := j0) (by simp [hl0])
      simp only [Bool.not_eq_true', Bool.not_eq_false'] at hp1 hmin
      have hr1 : j1 ∈ Region.ready .any ops listed := by
        obtain ⟨c', g, d, m, hC⟩ := allD_some (P := P) (ops := ops) (fun _ _ => trivial) j1 (by omega)
        obtain ⟨o, ho, _, _, _, hdir, _⟩ := allD_get hC
        refine ready_mem.2 ⟨o, ho, hp1, fun x hx hbn => ?_⟩
        have hlt : x.on < j1 := by simpa using wellDeps_get _ 0 hwell j1 _ _ _ _ hC x.on (hdir x hx hbn)
        rw [getD_true (by rw [hI.size]; omega)]
        exact hmin _ hlt
      refine ⟨fun hr => by rw [hr] at hr1; simp at hr1, fun j hj => ?_⟩
      obtain ⟨o, ho, hlj, haft⟩ := ready_mem.1 hj
      have hjn : j < ops.size := (Array.getElem?_eq_some_iff.1 ho).1
      obtain ⟨cj, g, d, m, hC⟩ := allD_some (P := P) (ops := ops) (fun _ _ => trivial) j hjn
      obtain ⟨o', ho', rfl, rfl, rfl, hdir, hclo⟩ := allD_get hC
      rw [ho] at ho'; cases ho'
      have hcl : ∀ x ∈ cj, listed.getD x true = true := by
        intro x hx
        obtain ⟨ev, he, hbn, hx⟩ := hclo x hx
        have hlt : ev.on < j := by simpa using wellDeps_get _ 0 hwell j _ _ _ _ hC ev.on (hdir ev he hbn)
        have hon : listed.getD ev.on true = true := by
          rw [← getD_true (by rw [hI.size]; omega) false]; exact haft ev he hbn
        rcases hx with rfl | ⟨c2, g2, d2, m2, hC2, hx⟩
        · exact hon
        · exact hI.closed _ _ _ _ _ hC2 hon x hx
      have hjs : j < s := by
        rcases Nat.lt_or_ge j s with h | h
        · exact h
        · exfalso
          have hin : j0 ∈ cj := behindAll_get _ s hb (j - s) cj _ _ _ (by rw [List.getElem?_drop]; rw [show s + (j - s) = j from by omega]; exact hC) j0 (by omega)
          have := hcl j0 hin
          rw [hl0] at this; cases this
      have hCt : ((allD P ops).take s)[j]? = some (cj, convG ops o, o.dst, convO P o) := by rw [← hget j hjs]; exact hC
      have hstep := hst.get _ 0 j _ _ _ _ hCt vs W hI.rel (fun x hx => by
        have hxj : x < j := by simpa using wellDeps_get _ 0 hwell j _ _ _ _ hC x hx
        obtain ⟨c', g', d', m', hC'⟩ := allD_some (P := P) (ops := ops) (fun _ _ => trivial) x (by omega)
        exact (hI.vals x _ _ _ _ hC' (hcl x hx)).1)
      simp only [Nat.zero_add] at hstep
      have henv : Env.ok (dEnv ((allD P ops).take s) vs cj ++ keepEnv ((allD P ops).take s) j e) a.tmps := by
        intro t v hg
        rw [append_get] at hg
        cases hd : (dEnv ((allD P ops).take s) vs cj).get t with
        | some u =>
          rw [hd] at hg; simp at hg; subst hg
          obtain ⟨x, hx, rfl, c', g', m', hC'⟩ := dEnv_get _ _ _ hd
          have hxs : x < s := by
            have := (List.getElem?_eq_some_iff.1 hC').1
            simp at this; omega
          rw [← hget x hxs] at hC'
          exact (hI.vals x _ _ _ _ hC' (hcl x hx)).2 t rfl
        | none =>
          rw [hd] at hg; simp at hg
          obtain ⟨hsty, u, hu, _⟩ := keepEnv_get e t v hg
          rw [keepEnv_eq e t hsty] at hg
          refine hI.keep t v hg fun x c' g' m' hC' hxs => ?_
          cases hlx : listed.getD x true with
          | false => rfl
          | true =>
            rw [hget x hxs] at hC'
            have := stays_get _ hsty x _ _ _ hC'
            rw [← hget x hxs] at hC'
            have := hI.closed x _ _ _ _ hC' hlx j this
            rw [hlj] at this; cases this
      -- behind the operation
      have hnext : ∀ v W', Rel W W' → Rs j W' (put vs j v) → wpAnyIn (FW c.rd) 0 P .any ops (Exit.then (denL P c.rd is (k.sem P c)) (k.sem P c)) fuel (listed.setIfInBounds j true) (a.put o.dst v) W' := by
        intro v W' hrel hR
        refine ih _ (put vs j v) _ _ (by have := left_set hlj; omega) ?_
        refine ⟨by simp [hI.size], ?_, ?_, htr _ _ _ hI.rel hrel, ?_, ?_, ?_, ?_⟩
        · intro x hx hl
          rw [getD_set (by rw [hI.size]; exact hx)] at hl
          split at hl
          · omega
          · exact hI.low x hx hl
        · intro x c' g' d' m' hC' hl y hy
          have hxn : x < ops.size := by
            have := (List.getElem?_eq_some_iff.1 hC').1
            rwa [allD_length] at this
          have hyx : y < x := by simpa using wellDeps_get _ 0 hwell x _ _ _ _ hC' y hy
          rw [getD_set (by rw [hI.size]; omega)] at hl ⊢
          split
          · rfl
          · split at hl
            · rename_i hxj; subst hxj
              rw [hC] at hC'; cases hC'
              exact hcl y hy
            · exact hI.closed x _ _ _ _ hC' hl y hy
        · intro x c' g' d' m' hC' hl
          have hxn : x < ops.size := by
            have := (List.getElem?_eq_some_iff.1 hC').1
            rwa [allD_length] at this
          rw [getD_set (by rw [hI.size]; omega)] at hl
          by_cases hxj : x = j
          · subst hxj
            rw [hC] at hC'; cases hC'
            refine ⟨hR, fun t ht => ?_⟩
            have htn : t < n := hdst t (mem_dsts _ x t _ _ _ (by rw [ht] at hCt; exact hCt))
            rw [ht]
            simp [Act.put, hI.tm, htn, put]
          · rw [if_neg hxj] at hl
            obtain ⟨h1, h2⟩ := hI.vals x _ _ _ _ hC' hl
            have hxs := hI.low x hxn hl
            have hjc : j ∉ c' := fun hin => by
              have := hI.closed x _ _ _ _ hC' hl j hin
              rw [hlj] at this; cases this
            refine ⟨hloc x _ _ _ _ j _ _ v (by rw [← hget x hxs]; exact hC') hjc (fun h => hxj h.symm) (hmo x W W' _ hxs hI.rel hrel h1), fun t ht => ?_⟩
            have h3 : a.tmps[t]? = some (put vs j v x) := by rw [h2 t ht]; simp [put, hxj]
            subst ht
            cases hod : o.dst with
            | none => simpa [Act.put] using h3
            | some t' =>
              have hne : t' ≠ t := by
                intro h; subst h
                rw [hod] at hCt
                rw [hget x hxs] at hC'
                exact hxj (dsts_uniq _ hnd _ _ _ _ _ _ _ _ _ hC' hCt)
              simp only [Act.put]
              rw [Array.getElem?_setIfInBounds_ne hne]
              exact h3
        · intro t v' hg hno
          have hno' : ∀ x c' g' m', (allD P ops)[x]? = some (c', g', some t, m') → x < s → listed.getD x true = false := by
            intro x c' g' m' hC' hxs
            have := hno x c' g' m' hC' hxs
            rw [getD_set (by rw [hI.size]; omega)] at this
            split at this
            · cases this
            · exact this
          have h3 := hI.keep t v' hg hno'
          cases hod : o.dst with
          | none => simpa [Act.put] using h3
          | some t' =>
            have hne : t' ≠ t := by
              intro h; subst h
              rw [hod] at hC
              have := hno j _ _ _ hC hjs
              rw [getD_set (by rw [hI.size]; omega)] at this
              simp at this
            simp only [Act.put]
            rw [Array.getElem?_setIfInBounds_ne hne]
            exact h3
        · cases hod : o.dst <;> simp [Act.put, hI.tm]
        · cases hod : o.dst <;> simp [Act.put, hI.df]
      refine wpOp_of_step ho (notDefer hdef ho) ?_
      unfold stepOp
      unfold DStep at hstep
      split at hstep
      · rename_i hg
        rw [hg]
        simp only [gOK, if_true]
        exact hstep a henv _ _ _ _ fun v W' h => hnext v W' h.1 h.2
      · exact hstep.elim
      · rename_i x b hg
        rw [hg]
        rcases hstep with ⟨hb', hok⟩ | ⟨hb', hok⟩
        · simp only [gOK, Option.bind_some, henv x _ hb', BEq.rfl, if_true]
          exact hok a henv _ _ _ _ fun v W' h => hnext v W' h.1 h.2
        · have hgk : gOK (some (some x, b)) a.tmps = false := by
            rcases hb' with hb' | hb'
            · simp only [gOK, Option.bind_some, henv x _ hb']
              cases b <;> rfl
            · simp only [gOK, Option.bind_some, henv x _ hb']
              rfl
          simp only [hgk, Bool.false_eq_true, if_false]
          refine hnext undef W ?_ hok
          exact hrfl W
    · -- the tail
      have hall : ∀ j, j < s → listed.getD j true = true := by
        intro j hj
        cases h : listed.getD j true with
        | true => rfl
        | false => exact absurd ⟨j, hj, h⟩ hfree
      have hiff : ∀ j, j < ops.size → (listed.getD j true = true ↔ j < s) := fun j hj => ⟨hI.low j hj, hall j⟩
      have hleft := left_eq hI.size hiff
      have he : Env.ok (outEnv vs 0 ((allD P ops).take s) ++ e) a.tmps := by
        intro t v hg
        rw [append_get] at hg
        cases ho : (outEnv vs 0 ((allD P ops).take s)).get t with
        | some u =>
          rw [ho] at hg; simp at hg; subst hg
          obtain ⟨j, c', g, m, h1, h2⟩ := outEnv_get _ _ _ _ ho
          have hj : j < s := by
            have := (List.getElem?_eq_some_iff.1 h1).1
            simp at this; omega
          rw [← hget j hj] at h1
          have := (hI.vals j _ _ _ _ h1 (hall j hj)).2 t rfl
          rw [this, h2]; simp
        | none =>
          rw [ho] at hg; simp at hg
          refine hI.keep t v hg fun j c' g m hj hlt => ?_
          rw [hget j hlt] at hj
          exact absurd rfl (outEnv_none _ _ _ ho j _ _ _ _ hj)
      have hx := (next vs W hI.rel (fun i hi => by
        obtain ⟨c', g, d, m, hC⟩ := allD_some (P := P) (ops := ops) (fun _ _ => trivial) i (by omega)
        exact (hI.vals i _ _ _ _ hC (hall i hi)).1)).run a hI.tm he hI.df
      exact phase2 hdef hwell s hb (ops.size - s) s (fuel + 1) listed a W (by omega) (Nat.le_refl _) (by omega) hiff hI.size hx
end
section
variable {P : Program} {n : Nat} {c : Ctx} {D : List Deferred} {is : List Ins} {k : Kont} {e : Env} {w : World}
theorem exec_draw {fr : List DOp} {tl : List Ins} (Rel : World → World → Prop) (Rs : Nat → World → (Nat → Value) → Prop)
    (hrfl : ∀ a, Rel a a) (htr : ∀ a b c, Rel a b → Rel b c → Rel a c) (hmo : ∀ i W W' vs, i < fr.length → Rel { w with drawn := w.drawn + 1 } W → Rel W W' → Rs i W vs → Rs i W' vs)
    (hloc : ∀ i c g d m j W vs v, fr[i]? = some (c, g, d, m) → j ∉ c → j ≠ i → Rs i W vs → Rs i W (put vs j v))
    (hdst : (dsts fr).all (fun t => Nat.blt t n) = true) (hnd : nodupB (dsts fr) = true)
    (hst : DSteps P Rel fr Rs e { w with drawn := w.drawn + 1 } 0 fr)
    (next : ∀ vs W, Rel { w with drawn := w.drawn + 1 } W → (∀ i, i < fr.length → Rs i W vs) → Exec P n c D (tl ++ is) k (outEnv vs 0 fr ++ e) W) :
    Exec P n c D (.draw fr tl :: is) k e w := .intro fun a hn hk hd => by
  simp only [denL, denI]
  intro ops hfr htl hdef hwell
  obtain ⟨hb, hs⟩ := splitAtD_spec (allD P ops) ops.size (by rw [List.drop_eq_nil_of_le (by rw [allD_length]; exact Nat.le_refl _)]; rfl)
  have hlen : fr.length = splitAtD (allD P ops) ops.size := by rw [← hfr, List.length_take, allD_length]; omega
  subst hfr
  subst htl
  rw [hlen] at hmo
  refine phase1 hdef hwell hb hs hrfl htr hmo hloc (fun t ht => by simpa using List.all_eq_true.1 hdst t ht) hnd hst
    (fun vs W h1 h2 => next vs W h1 (by rw [hlen]; exact h2)) ops.size _ (fun _ => undef) a _ ?_ ?_
  · unfold left; simp
  · refine ⟨by simp, ?_, ?_, hrfl _, ?_, ?_, hn, hd⟩
    · intro j hj h; simp [Array.getD_eq_getD_getElem?, hj] at h
    · intro j c' g d m hC h
      have : j < ops.size := by
        have := (List.getElem?_eq_some_iff.1 hC).1
        rwa [allD_length] at this
      simp [Array.getD_eq_getD_getElem?, this] at h
    · intro j c' g d m hC h
      have : j < ops.size := by
        have := (List.getElem?_eq_some_iff.1 hC).1
        rwa [allD_length] at this
      simp [Array.getD_eq_getD_getElem?, this] at h
    · intro t v hg _; exact hk t v hg
end
end Go.Sp

namespace Go.Sp
/-- what is known of an operation's value: the value itself, or how it stands to earlier ones -/
inductive DR where
  | val (v : Value)
  | rel (js : List Nat) (R : World → List Value → Value → Prop)
def DR.holds (W : World) (vs : Nat → Value) (i : Nat) : DR → Prop
  | .val v => vs i = v
  | .rel js R => R W (js.map vs) (vs i)
def valD (done : List DR) (vs : Nat → Value) (j : Nat) : Value := match done[j]? with
  | some (.val v) => v
  | _ => vs j
def envD (ds : List DOp) (done : List DR) (vs : Nat → Value) : List Nat → Env
  | [] => []
  | j :: deps => match ds[j]? with
    | some (_, _, some d, _) => (d, valD done vs j) :: envD ds done vs deps
    | _ => envD ds done vs deps
def outD (done : List DR) (vs : Nat → Value) : Nat → List DOp → Env
  | _, [] => []
  | i, (_, _, d, _) :: r => match d with
    | some d => (d, valD done vs i) :: outD done vs (i + 1) r
    | none => outD done vs (i + 1) r
def factsD (W : World) (vs : Nat → Value) : Nat → List DR → Prop
  | _, [] => True
  | i, .val _ :: r => factsD W vs (i + 1) r
  | i, .rel js R :: r => R W (js.map vs) (vs i) ∧ factsD W vs (i + 1) r
def depFacts (done : List DR) (W : World) (vs : Nat → Value) : List Nat → Prop
  | [] => True
  | j :: r => match done[j]? with
    | some (.rel js R) => R W (js.map vs) (vs j) ∧ depFacts done W vs r
    | _ => depFacts done W vs r
def DR.good (l : List Nat) (w : World) (deps : List Nat) : DR → Prop
  | .val _ => True
  | .rel js R => js.all (fun j => deps.contains j) = true ∧ ∀ W W' xs v, Upd l w W → Upd l W W' → R W xs v → R W' xs v
def DR.get (W : World) (vs : Nat → Value) (v : Value) : DR → Prop
  | .val u => v = u
  | .rel js R => R W (js.map vs) v
def DWL (P : Program) (l : List Nat) (ds : List DOp) (e : Env) (w : World) (Fin : List DR → Prop) : List DR → List DOp → Prop
  | done, [] => Fin done
  | done, (deps, g, _, m) :: r => ∃ x : DR, x.good l w deps ∧
      (∀ (vs : Nat → Value) (W : World), Upd l w W → depFacts done W vs deps → DStep P (Upd l) g m (envD ds done vs deps ++ keepEnv ds done.length e) W fun W' v => x.get W' vs v) ∧
      DWL P l ds e w Fin (done ++ [x]) r
def FinD (P : Program) (n : Nat) (c : Ctx) (D : List Deferred) (is : List Ins) (k : Kont) (l : List Nat) (ds : List DOp) (e : Env) (w : World) (tl : List Ins) (done : List DR) : Prop :=
  ∀ vs W, Upd l w W → factsD W vs 0 done → Exec P n c D (tl ++ is) k (outD done vs 0 ds ++ e) W
theorem DWL.out {P : Program} {l : List Nat} {ds : List DOp} {e : Env} {w : World} {F : List DR → Prop} : ∀ (rest : List DOp) (done : List DR), DWL P l ds e w F done rest →
    ∃ rs : List DR, rs.length = rest.length ∧ F (done ++ rs) ∧ ∀ (i : Nat) deps g d m, rest[i]? = some (deps, g, d, m) → ∃ x, (done ++ rs)[done.length + i]? = some x ∧ x.good l w deps ∧
      (∀ (vs : Nat → Value) (W : World), Upd l w W → depFacts ((done ++ rs).take (done.length + i)) W vs deps →
        DStep P (Upd l) g m (envD ds ((done ++ rs).take (done.length + i)) vs deps ++ keepEnv ds (done.length + i) e) W fun W' v => x.get W' vs v) := by
  intro rest
  induction rest with
  | nil => intro done h; exact ⟨[], rfl, by simp only [List.append_nil]; exact h, fun i deps g d m h => by simp at h⟩
  | cons y rest ih =>
    obtain ⟨deps0, g0, d0, m0⟩ := y
    intro done h
    obtain ⟨x, h1, h2, h3⟩ := h
    obtain ⟨rs, hl, hF, hr⟩ := ih _ h3
    refine ⟨x :: rs, by simp [hl], by simpa using hF, fun i deps g d m hi => ?_⟩
    cases i with
    | zero =>
      simp at hi
      obtain ⟨rfl, rfl, rfl, rfl⟩ := hi
      refine ⟨x, by simp, h1, ?_⟩
      have : (done ++ x :: rs).take (done.length + 0) = done := by simp
      rw [this]
      exact h2
    | succ i =>
      obtain ⟨x', g1, g2, g3⟩ := hr i deps g d m (by simpa using hi)
      have e1 : done ++ [x] ++ rs = done ++ x :: rs := by simp
      have e2 : (done ++ [x]).length + i = done.length + (i + 1) := by simp; omega
      rw [e1, e2] at g1 g3
      exact ⟨x', g1, g2, g3⟩
theorem depFacts_of {done : List DR} {W : World} {vs : Nat → Value} : ∀ deps : List Nat, (∀ j ∈ deps, ∀ x, done[j]? = some x → x.holds W vs j) → depFacts done W vs deps := by
  intro deps
  induction deps with
  | nil => intro _; trivial
  | cons j deps ih =>
    intro h
    simp only [depFacts]
    have := ih fun j' hj' => h j' (List.mem_cons_of_mem _ hj')
    split
    · rename_i js R hx; exact ⟨h j List.mem_cons_self _ hx, this⟩
    · exact this
theorem factsD_of {W : World} {vs : Nat → Value} : ∀ (done : List DR) (i : Nat), (∀ (j : Nat) (x : DR), done[j]? = some x → x.holds W vs (i + j)) → factsD W vs i done := by
  intro done
  induction done with
  | nil => intro i _; trivial
  | cons x done ih =>
    intro i h
    have h2 := ih (i + 1) fun j y hy => by have := h (j + 1) y (by simpa using hy); rw [show i + (j + 1) = i + 1 + j from by omega] at this; exact this
    cases x with
    | val v => exact h2
    | rel js R => exact ⟨h 0 _ rfl, h2⟩
theorem envD_eq {ds : List DOp} {done : List DR} {vs : Nat → Value} : ∀ deps : List Nat, (∀ j ∈ deps, valD done vs j = vs j) → envD ds done vs deps = dEnv ds vs deps := by
  intro deps
  induction deps with
  | nil => intro _; rfl
  | cons j deps ih =>
    intro h
    have h1 := h j List.mem_cons_self
    have h2 := ih fun j' hj' => h j' (List.mem_cons_of_mem _ hj')
    simp only [envD, dEnv, h1, h2]
    rfl
theorem outD_eq {done : List DR} {vs : Nat → Value} : ∀ (l : List DOp) (i : Nat), (∀ j, j < l.length → valD done vs (i + j) = vs (i + j)) → outD done vs i l = outEnv vs i l := by
  intro l
  induction l with
  | nil => intro i _; rfl
  | cons p l ih =>
    obtain ⟨deps, g, d, m⟩ := p
    intro i h
    have h1 := h 0 (by simp)
    have h2 := ih (i + 1) fun j hj => by have := h (j + 1) (by simpa using hj); rw [show i + (j + 1) = i + 1 + j from by omega] at this; exact this
    simp only [outD, outEnv]
    simp only [Nat.add_zero] at h1
    cases d <;> simp [h1, h2]
theorem valD_eq {done : List DR} {vs : Nat → Value} {W : World} {j : Nat} (h : ∀ x : DR, done[j]? = some x → x.holds W vs j) : valD done vs j = vs j := by
  unfold valD
  split
  · rename_i v hx; exact (h _ hx).symm
  · rfl
section
variable {P : Program} {n : Nat} {c : Ctx} {D : List Deferred} {is : List Ins} {k : Kont} {e : Env} {w : World}
theorem exec_dwL {fr : List DOp} {tl : List Ins} (l : List Nat) (hdst : (dsts fr).all (fun t => Nat.blt t n) = true) (hnd : nodupB (dsts fr) = true) (hwd : wellDeps 0 fr = true)
    (h : DWL P l fr e w (FinD P n c D is k l fr e w tl) [] fr) : Exec P n c D (.draw fr tl :: is) k e w := by
  obtain ⟨rs, hl, hF, hs⟩ := h.out
  simp only [List.nil_append, List.length_nil, Nat.zero_add] at hF hs
  let Rs : Nat → World → (Nat → Value) → Prop := fun i W vs => ∀ x, rs[i]? = some x → x.holds W vs i
  have hget : ∀ i, i < fr.length → ∃ x deps g d m, rs[i]? = some x ∧ fr[i]? = some (deps, g, d, m) ∧ x.good l w deps := by
    intro i hi
    have : fr[i]? = some fr[i] := List.getElem?_eq_getElem hi
    obtain ⟨x, h1, h2, _⟩ := hs i fr[i].1 fr[i].2.1 fr[i].2.2.1 fr[i].2.2.2 this
    exact ⟨x, _, _, _, _, h1, this, h2⟩
  have hw0 : Upd l w { w with drawn := w.drawn + 1 } := Upd.drew l w _
  have tr : ∀ a b c : World, Upd l a b → Upd l b c → Upd l a c := fun a b c h1 h2 => h1.trans h2 (fun b hb => .inl hb)
  refine exec_draw (Upd l) Rs (Upd.refl l) tr ?_ ?_ hdst hnd ?_ ?_
  · intro i W W' vs hi h1 h2 hR x hx
    have h3 := hR x hx
    obtain ⟨x', deps, g, d, m, h4, h5, h6⟩ := hget i hi
    rw [hx] at h4; cases h4
    cases x with
    | val v => exact h3
    | rel js R => exact h6.2 W W' _ _ (tr _ _ _ hw0 h1) h2 h3
  · intro i c' g d m j W vs v hi hj hne hR x hx
    have h3 := hR x hx
    have hi' : i < fr.length := (List.getElem?_eq_some_iff.1 hi).1
    obtain ⟨x', deps, g', d', m', h4, h5, h6⟩ := hget i hi'
    rw [hi] at h5; cases h5
    rw [hx] at h4; cases h4
    cases x with
    | val u => show put vs j v i = u; simp only [put, if_neg (Ne.symm hne)]; exact h3
    | rel js R =>
      show R W (js.map (put vs j v)) (put vs j v i)
      have e1 : js.map (put vs j v) = js.map vs := by
        apply List.map_congr_left
        intro y hy
        have : y ∈ c' := by simpa using List.all_eq_true.1 h6.1 y hy
        simp only [put, if_neg (fun (h : y = j) => hj (h ▸ this))]
      rw [e1]
      simp only [put, if_neg (Ne.symm hne)]
      exact h3
  · suffices ∀ (r : List DOp) (i : Nat), (∀ j, r[j]? = fr[i + j]?) → DSteps P (Upd l) fr Rs e { w with drawn := w.drawn + 1 } i r from this fr 0 (by simp)
    intro r
    induction r with
    | nil => intro i _; trivial
    | cons y r ih =>
      obtain ⟨deps, g, d, m⟩ := y
      intro i hr
      refine ⟨?_, ih (i + 1) fun j => by have := hr (j + 1); rw [show i + (j + 1) = i + 1 + j from by omega] at this; simpa using this⟩
      intro vs W hW hdeps
      have hi : fr[i]? = some (deps, g, d, m) := by have := hr 0; simpa using this.symm
      obtain ⟨x, h1, h2, h3⟩ := hs i deps g d m hi
      have hlt : ∀ j ∈ deps, j < i := by
        intro j hj
        simpa using wellDeps_get _ 0 hwd i _ _ _ _ hi j hj
      have hh : ∀ j ∈ deps, ∀ y, (rs.take i)[j]? = some y → y.holds W vs j := by
        intro j hj y hy
        rw [List.getElem?_take] at hy
        rw [if_pos (hlt j hj)] at hy
        exact hdeps j hj y hy
      have h4 := h3 vs W (tr _ _ _ hw0 hW) (depFacts_of deps hh)
      rw [envD_eq deps fun j hj => valD_eq (W := W) (hh j hj)] at h4
      have h5 : ∀ (W' : World) (v : Value), x.get W' vs v → Rs i W' (put vs i v) := by
        intro W' v hx y hy
        rw [h1] at hy; cases hy
        cases x with
        | val u => show put vs i v i = u; rw [show put vs i v i = v by simp [put]]; exact hx
        | rel js R =>
          show R W' (js.map (put vs i v)) (put vs i v i)
          have e1 : js.map (put vs i v) = js.map vs := by
            apply List.map_congr_left
            intro z hz
            have : z ∈ deps := by simpa using List.all_eq_true.1 h2.1 z hz
            have := hlt z this
            simp only [put, if_neg (show ¬ z = i from by omega)]
          rw [e1]
          rw [show put vs i v i = v by simp [put]]; exact hx
      unfold DStep at h4 ⊢
      split
      · exact h4.mono fun v W' h => ⟨h.1, h5 _ _ h.2⟩
      · exact h4
      · rcases h4 with ⟨ha, hb⟩ | ⟨ha, hb⟩
        · exact .inl ⟨ha, hb.mono fun v W' h => ⟨h.1, h5 _ _ h.2⟩⟩
        · exact .inr ⟨ha, h5 _ _ hb⟩
  · intro vs W hW hR
    have h1 : ∀ (j : Nat) (x : DR), rs[j]? = some x → x.holds W vs (0 + j) := by
      intro j x hx
      have : j < fr.length := by rw [← hl]; exact (List.getElem?_eq_some_iff.1 hx).1
      rw [Nat.zero_add]; exact hR j this x hx
    have h2 := hF vs W (tr _ _ _ hw0 hW) (factsD_of rs 0 h1)
    rw [outD_eq fr 0 fun j hj => valD_eq (W := W) (by intro x hx; exact h1 (0 + j) x hx |> fun h => by simpa using h)] at h2
    exact h2
/-! the same, where what is known lies the last first, under its number -/
def getA : List (Nat × DR) → Nat → Option DR
  | [], _ => none
  | (i, x) :: r, j => match Nat.beq i j with
    | true => some x
    | false => getA r j
def valA (done : List (Nat × DR)) (vs : Nat → Value) (j : Nat) : Value := match getA done j with
  | some (.val v) => v
  | _ => vs j
def envA (ds : List DOp) (done : List (Nat × DR)) (vs : Nat → Value) : List Nat → Env
  | [] => []
  | j :: deps => match ds[j]? with
    | some (_, _, some d, _) => (d, valA done vs j) :: envA ds done vs deps
    | _ => envA ds done vs deps
def outA (done : List (Nat × DR)) (vs : Nat → Value) : Nat → List DOp → Env
  | _, [] => []
  | i, (_, _, d, _) :: r => match d with
    | some d => (d, valA done vs i) :: outA done vs (i + 1) r
    | none => outA done vs (i + 1) r
def factsA (W : World) (vs : Nat → Value) : List (Nat × DR) → Prop
  | [] => True
  | (_, .val _) :: r => factsA W vs r
  | (i, .rel js R) :: r => R W (js.map vs) (vs i) ∧ factsA W vs r
def depFactsA (done : List (Nat × DR)) (W : World) (vs : Nat → Value) : List Nat → Prop
  | [] => True
  | j :: r => match getA done j with
    | some (.rel js R) => R W (js.map vs) (vs j) ∧ depFactsA done W vs r
    | _ => depFactsA done W vs r
def DW (P : Program) (l : List Nat) (ds : List DOp) (e : Env) (w : World) (Fin : List (Nat × DR) → Prop) : Nat → List (Nat × DR) → List DOp → Prop
  | _, done, [] => Fin done
  | i, done, (deps, g, _, m) :: r => ∃ x : DR, x.good l w deps ∧
      (∀ (vs : Nat → Value) (W : World), Upd l w W → depFactsA done W vs deps → DStep P (Upd l) g m (envA ds done vs deps ++ keepEnv ds i e) W fun W' v => x.get W' vs v) ∧
      DW P l ds e w Fin (i + 1) ((i, x) :: done) r
def FinA (P : Program) (n : Nat) (c : Ctx) (D : List Deferred) (is : List Ins) (k : Kont) (l : List Nat) (ds : List DOp) (e : Env) (w : World) (tl : List Ins) (done : List (Nat × DR)) : Prop :=
  ∀ vs W, Upd l w W → factsA W vs done → Exec P n c D (tl ++ is) k (outA done vs 0 ds ++ e) W
section
variable {done : List (Nat × DR)} {L : List DR}
theorem valA_eq (h : ∀ j, getA done j = L[j]?) (vs : Nat → Value) (j : Nat) : valA done vs j = valD L vs j := by simp only [valA, valD, h]
theorem envA_eq (h : ∀ j, getA done j = L[j]?) {ds : List DOp} {vs : Nat → Value} : ∀ deps : List Nat, envA ds done vs deps = envD ds L vs deps := by
  intro deps
  induction deps with
  | nil => rfl
  | cons j deps ih => simp only [envA, envD, ih, valA_eq h]
theorem outA_eq (h : ∀ j, getA done j = L[j]?) {vs : Nat → Value} : ∀ (r : List DOp) (i : Nat), outA done vs i r = outD L vs i r := by
  intro r
  induction r with
  | nil => intro i; rfl
  | cons p r ih =>
    obtain ⟨deps, g, d, m⟩ := p
    intro i
    simp only [outA, outD, ih, valA_eq h]
theorem depFactsA_of (h : ∀ j, getA done j = L[j]?) {W : World} {vs : Nat → Value} : ∀ deps : List Nat, depFacts L W vs deps → depFactsA done W vs deps := by
  intro deps
  induction deps with
  | nil => intro _; trivial
  | cons j deps ih =>
    intro hd
    simp only [depFacts] at hd
    simp only [depFactsA, h]
    cases hx : L[j]? with
    | none => rw [hx] at hd; exact ih hd
    | some x =>
      rw [hx] at hd
      cases x with
      | val v => exact ih hd
      | rel js R => exact ⟨hd.1, ih hd.2⟩
theorem factsD_get {W : World} {vs : Nat → Value} : ∀ (L : List DR) (i : Nat), factsD W vs i L → ∀ (j : Nat) js R, L[j]? = some (.rel js R) → R W (js.map vs) (vs (i + j)) := by
  intro L
  induction L with
  | nil => intro i _ j js R h; simp at h
  | cons x L ih =>
    intro i hf j js R hj
    cases j with
    | zero =>
      simp at hj; subst hj
      exact hf.1
    | succ j =>
      have hf2 : factsD W vs (i + 1) L := by
        cases x with
        | val v => exact hf
        | rel js R => exact hf.2
      have := ih (i + 1) hf2 j js R (by simpa using hj)
      rw [show i + (j + 1) = i + 1 + j from by omega]; exact this
theorem factsA_of {W : World} {vs : Nat → Value} {L : List DR} (hf : factsD W vs 0 L) : ∀ done : List (Nat × DR), (∀ p ∈ done, L[p.1]? = some p.2) → factsA W vs done := by
  intro done
  induction done with
  | nil => intro _; trivial
  | cons p done ih =>
    obtain ⟨i, x⟩ := p
    intro h
    have h2 := ih fun p hp => h p (List.mem_cons_of_mem _ hp)
    cases x with
    | val v => exact h2
    | rel js R =>
      have := factsD_get L 0 hf i js R (h _ List.mem_cons_self)
      rw [Nat.zero_add] at this
      exact ⟨this, h2⟩
end
theorem DW.toL {P : Program} {l : List Nat} {ds : List DOp} {e : Env} {w : World} {F : List (Nat × DR) → Prop} : ∀ (rest : List DOp) (i : Nat) (done : List (Nat × DR)) (L : List DR), L.length = i → (∀ j, getA done j = L[j]?) → (∀ p ∈ done, L[p.1]? = some p.2) →
    DW P l ds e w F i done rest → DWL P l ds e w (fun L => ∃ done, (∀ j, getA done j = L[j]?) ∧ (∀ p ∈ done, L[p.1]? = some p.2) ∧ F done) L rest := by
  intro rest
  induction rest with
  | nil => intro i done L _ h1 h2 h; exact ⟨done, h1, h2, h⟩
  | cons y rest ih =>
    obtain ⟨deps, g, d, m⟩ := y
    intro i done L hl h1 h2 h
    obtain ⟨x, hg, hs, hr⟩ := h
    refine ⟨x, hg, fun vs W hW hd => ?_, ih (i + 1) ((i, x) :: done) (L ++ [x]) (by simp [hl]) ?_ ?_ hr⟩
    · have := hs vs W hW (depFactsA_of h1 deps hd)
      rw [envA_eq h1, ← hl] at this
      exact this
    · intro j
      simp only [getA]
      split
      · rename_i hb
        have := Nat.eq_of_beq_eq_true hb
        subst this
        rw [← hl]; simp
      · rename_i hb
        have hne : i ≠ j := fun h => by subst h; simp at hb
        rw [h1 j]
        rcases Nat.lt_or_ge j L.length with hj | hj
        · rw [List.getElem?_append_left hj]
        · rw [List.getElem?_eq_none hj, List.getElem?_eq_none (by simp; omega)]
    · intro p hp
      rcases List.mem_cons.1 hp with rfl | hp
      · rw [← hl]; simp
      · have h3 := h2 p hp
        have hj := (List.getElem?_eq_some_iff.1 h3).1
        rw [List.getElem?_append_left hj]; exact h3
theorem exec_dw {fr : List DOp} {tl : List Ins} (l : List Nat) (hdst : (dsts fr).all (fun t => Nat.blt t n) = true) (hnd : nodupB (dsts fr) = true) (hwd : wellDeps 0 fr = true)
    (h : DW P l fr e w (FinA P n c D is k l fr e w tl) 0 [] fr) : Exec P n c D (.draw fr tl :: is) k e w := by
  refine exec_dwL l hdst hnd hwd ?_
  have h2 := DW.toL fr 0 [] [] rfl (by simp [getA]) (by simp) h
  have mono : ∀ (rest : List DOp) (L : List DR) (F G : List DR → Prop), (∀ L, F L → G L) → DWL P l fr e w F L rest → DWL P l fr e w G L rest := by
    intro rest
    induction rest with
    | nil => intro L F G hFG h; exact hFG _ h
    | cons y rest ih =>
      obtain ⟨deps, g, d, m⟩ := y
      intro L F G hFG h
      obtain ⟨x, h1, h2, h3⟩ := h
      exact ⟨x, h1, h2, ih _ F G hFG h3⟩
  refine mono fr [] _ _ ?_ h2
  rintro L ⟨done, g1, g2, hF⟩ vs W hW hf
  have := hF vs W hW (factsA_of hf done g2)
  rw [outA_eq g1] at this
  exact this
variable {l : List Nat} {ds : List DOp} {F : List (Nat × DR) → Prop} {done : List (Nat × DR)} {i : Nat} {deps : List Nat} {d : Option Nat} {m : MOp} {r : List DOp} {s : Nat} {b : Bool}
theorem dw_val {v : Value} (hv : ∀ vs, pureV (envA ds done vs deps ++ keepEnv ds i e) m = some v) (h : DW P l ds e w F (i + 1) ((i, .val v) :: done) r) : DW P l ds e w F i done ((deps, none, d, m) :: r) :=
  ⟨.val v, trivial, fun vs W _ _ => (ok_pure (hv vs)).mono fun u W' hu => ⟨hu.2 ▸ Upd.refl _ _, hu.1⟩, h⟩
theorem dw_gval {v : Value} (hg : ∀ vs, (envA ds done vs deps ++ keepEnv ds i e).get s = some (.bool b)) (hv : ∀ vs, pureV (envA ds done vs deps ++ keepEnv ds i e) m = some v)
    (h : DW P l ds e w F (i + 1) ((i, .val v) :: done) r) : DW P l ds e w F i done ((deps, some (some s, b), d, m) :: r) :=
  ⟨.val v, trivial, fun vs W _ _ => .inl ⟨hg vs, (ok_pure (hv vs)).mono fun u W' hu => ⟨hu.2 ▸ Upd.refl _ _, hu.1⟩⟩, h⟩
theorem dgs (hg : ∀ vs, (envA ds done vs deps ++ keepEnv ds i e).get s = some (.bool !b))
    (h : DW P l ds e w F (i + 1) ((i, .val undef) :: done) r) : DW P l ds e w F i done ((deps, some (some s, b), d, m) :: r) :=
  ⟨.val undef, trivial, fun vs W _ _ => .inr ⟨.inl (hg vs), rfl⟩, h⟩
theorem dw_ok (v : Value) (hv : ∀ vs W, Upd l w W → depFactsA done W vs deps → OpOK P m (envA ds done vs deps ++ keepEnv ds i e) W fun u W' => Upd l W W' ∧ u = v)
    (h : DW P l ds e w F (i + 1) ((i, .val v) :: done) r) : DW P l ds e w F i done ((deps, none, d, m) :: r) :=
  ⟨.val v, trivial, fun vs W h1 h2 => hv vs W h1 h2, h⟩
theorem dw_gok (v : Value) (hg : ∀ vs, (envA ds done vs deps ++ keepEnv ds i e).get s = some (.bool b))
    (hv : ∀ vs W, Upd l w W → depFactsA done W vs deps → OpOK P m (envA ds done vs deps ++ keepEnv ds i e) W fun u W' => Upd l W W' ∧ u = v)
    (h : DW P l ds e w F (i + 1) ((i, .val v) :: done) r) : DW P l ds e w F i done ((deps, some (some s, b), d, m) :: r) :=
  ⟨.val v, trivial, fun vs W h1 h2 => .inl ⟨hg vs, hv vs W h1 h2⟩, h⟩
theorem dw_rel (js : List Nat) (R : World → List Value → Value → Prop) (hj : js.all (fun j => deps.contains j) = true) (hm : ∀ W W' xs v, Upd l w W → Upd l W W' → R W xs v → R W' xs v)
    (hv : ∀ vs W, Upd l w W → depFactsA done W vs deps → OpOK P m (envA ds done vs deps ++ keepEnv ds i e) W fun u W' => Upd l W W' ∧ R W' (js.map vs) u)
    (h : DW P l ds e w F (i + 1) ((i, .rel js R) :: done) r) : DW P l ds e w F i done ((deps, none, d, m) :: r) :=
  ⟨.rel js R, ⟨hj, hm⟩, fun vs W h1 h2 => hv vs W h1 h2, h⟩
/-- a value that is reckoned of one earlier value -/
theorem dw_of {j : Nat} (f : Value → Value) (hj : deps.contains j = true) (hv : ∀ vs W, Upd l w W → depFactsA done W vs deps → pureV (envA ds done vs deps ++ keepEnv ds i e) m = some (f (vs j)))
    (h : DW P l ds e w F (i + 1) ((i, .rel [j] fun _ xs v => ∃ x, xs = [x] ∧ v = f x) :: done) r) : DW P l ds e w F i done ((deps, none, d, m) :: r) :=
  ⟨.rel [j] fun _ xs v => ∃ x, xs = [x] ∧ v = f x, ⟨by simpa using hj, fun _ _ _ _ _ _ h => h⟩, fun vs W h1 h2 => (ok_pure (hv vs W h1 h2)).mono fun u W' hu => ⟨hu.2 ▸ Upd.refl _ _, (show ∃ x, [j].map vs = [x] ∧ u = f x from ⟨vs j, rfl, hu.1⟩)⟩, h⟩
theorem dw_end {tl : List Ins} (h : ∀ vs W, Upd l w W → factsA W vs done → Exec P n c D (tl ++ is) k (outA done vs 0 ds ++ e) W) : DW P l ds e w (FinA P n c D is k l ds e w tl) i done [] := h
end
end Go.Sp

namespace Go.Sp
/-- a call of yield comes back with a Bool, and R holds -/
def Yields (P : Program) (l : Nat) (args : List Value) (w : World) (R : Bool → World → Prop) : Prop :=
  YieldAt (FW none) 0 P l args.toArray w fun e w' => ∃ b, e = .returned (.bool b) ∧ R b w'
/-- J hangs on the blocks below n0 and on its own ones alone -/
def Frames {S : Type} (n0 : Nat) (loc : S → List Nat) (J : S → World → Prop) : Prop :=
  ∀ s w w' l, J s w → Upd l w w' → (∀ b ∈ l, n0 ≤ b ∧ b ∉ loc s) → J s w'
/-- one round: from J i to J (i+1), or to Jx -/
def Rounds {α S : Type} (P : Program) (l : Nat) (ws : List Nat) (encs : α → List Value) (xs : List α) (loc : S → List Nat) (J : Nat → S → World → Prop) (Jx : S → World → Prop) : Prop :=
  ∀ i s w x, J i s w → xs[i]? = some x → (∀ b ∈ ws ++ loc s, b < w.heap.size) →
    Yields P l (encs x) w fun go w' => ∃ s', (if go then J (i + 1) s' w' else Jx s' w') ∧ Upd (ws ++ loc s) w w' ∧ (∀ b ∈ loc s', b ∈ loc s ∨ w.heap.size ≤ b) ∧ (∀ b ∈ loc s', b < w'.heap.size)
/-- function f with the captured lb yields xs, one by one; it reads rds and writes wrs, and blocks of its own -/
def SeqOK {α : Type} (P : Program) (f : FuncId) (lb : List Value) (w : World) (rds wrs : List Nat) (encs : α → List Value) (xs : List α) : Prop :=
  ∀ (S : Type) (l n0 : Nat) (ws : List Nat) (loc : S → List Nat) (J : Nat → S → World → Prop) (Jx : S → World → Prop) (s0 : S),
    (∀ i, Frames n0 loc (J i)) → Frames n0 loc Jx → J 0 s0 w → n0 ≤ w.heap.size → (∀ b ∈ ws ++ loc s0, b < w.heap.size) →
    (∀ b ∈ wrs, b < w.heap.size ∧ n0 ≤ b ∧ b ∉ ws ∧ b ∉ loc s0) → (∀ b ∈ rds, b < w.heap.size ∧ b ∉ ws ∧ b ∉ loc s0) → Rounds P l ws encs xs loc J Jx →
    CallsIn (FW none) 0 P f (.func (.yield l) #[] #[] :: lb).toArray w fun e w' => (∃ v, e = .returned v) ∧ ((∃ s, J xs.length s w') ∨ ∃ s, Jx s w')
/-- one round, of whatever may come next -/
def RoundsG {α S : Type} (P : Program) (l : Nat) (ws : List Nat) (encs : α → List Value) (Part : List α → α → Prop) (loc : S → List Nat) (J : List α → S → World → Prop) (Jx : S → World → Prop) : Prop :=
  ∀ pre s w x, J pre s w → Part pre x → (∀ b ∈ ws ++ loc s, b < w.heap.size) →
    Yields P l (encs x) w fun go w' => ∃ s', (if go then J (pre ++ [x]) s' w' else Jx s' w') ∧ Upd (ws ++ loc s) w w' ∧ (∀ b ∈ loc s', b ∈ loc s ∨ w.heap.size ≤ b) ∧ (∀ b ∈ loc s', b < w'.heap.size)
/-- the same, where what comes next is not known ahead: Part tells what may, Good what may have come at the end -/
def SeqG {α : Type} (P : Program) (f : FuncId) (lb : List Value) (w : World) (rds wrs : List Nat) (encs : α → List Value) (Part : List α → α → Prop) (Good : List α → Prop) : Prop :=
  ∀ (S : Type) (l n0 : Nat) (ws : List Nat) (loc : S → List Nat) (J : List α → S → World → Prop) (Jx : S → World → Prop) (s0 : S),
    (∀ i, Frames n0 loc (J i)) → Frames n0 loc Jx → J [] s0 w → n0 ≤ w.heap.size → (∀ b ∈ ws ++ loc s0, b < w.heap.size) →
    (∀ b ∈ wrs, b < w.heap.size ∧ n0 ≤ b ∧ b ∉ ws ∧ b ∉ loc s0) → (∀ b ∈ rds, b < w.heap.size ∧ b ∉ ws ∧ b ∉ loc s0) → RoundsG P l ws encs Part loc J Jx →
    CallsIn (FW none) 0 P f (.func (.yield l) #[] #[] :: lb).toArray w fun e w' => (∃ v, e = .returned v) ∧ ((∃ xs s, Good xs ∧ J xs s w') ∨ ∃ s, Jx s w')
theorem SeqOK.toG {α : Type} {P : Program} {f : FuncId} {lb : List Value} {w : World} {rds wrs : List Nat} {encs : α → List Value} {xs : List α} (h : SeqOK P f lb w rds wrs encs xs) :
    SeqG P f lb w rds wrs encs (fun pre x => pre ++ [x] <+: xs) (fun l => l = xs) := by
  intro S l n0 ws loc J Jx s0 h1 h2 h3 h4 h5 h6 h7 h8
  have := h S l n0 ws loc (fun i s W => J (xs.take i) s W) Jx s0 (fun i => h1 _) h2 (by simpa using h3) h4 h5 h6 h7 ?_
  · refine CallsIn.mono this ?_
    rintro e w' ⟨hv, ⟨s, hs⟩ | hx⟩
    · exact ⟨hv, .inl ⟨xs, s, rfl, by simpa using hs⟩⟩
    · exact ⟨hv, .inr hx⟩
  · intro i s W x hJ hx hl
    have ht : xs.take (i + 1) = xs.take i ++ [x] := by rw [List.take_add_one, hx]; rfl
    have := h8 (xs.take i) s W x hJ (by show xs.take i ++ [x] <+: xs; rw [← ht]; exact List.take_prefix _ _) hl
    simpa only [ht] using this
section
variable {P : Program} {n : Nat} {c : Ctx} {D : List Deferred} {is : List Ins} {k : Kont} {e : Env} {w : World}
/-- an iterator calls yield -/
theorem exec_yield {x : Operand} {args : Array Operand} {d l : Nat} {vs : List Value} {R : Bool → World → Prop} (hx : e.ev x = some (.func (.yield l) #[] #[])) (hv : e.evs args.toList = some vs)
    (hd' : Nat.blt d n = true) (hy : Yields P l vs w R) (next : ∀ b w', R b w' → Exec P n c D is k ((d, .bool b) :: e) w') : Exec P n c D (.op none (some d) (.callv x args) :: is) k e w := .intro fun a hn hk hd => by
  have e1 : args.map a.eval = vs.toArray := by rw [← Env.ok_evs hk hv, ← Array.toList_map]
  obtain ⟨fn, tm, asg, bd, hy1, hy2⟩ := hy
  simp only [denL, denI, stepOp, gOK, if_true, MOp.sem, e1, Env.ok_ev hk hx, Deferred.ofValue, Sem.run_bind, Sem.run_pure, Result.andThen_ok, invoke]
  simp only [Array.append_empty, Array.empty_append, hy1, Oper.uponIn]
  refine ⟨fun h => by simp [FW, Fence.wide] at h, ?_⟩
  refine RoundIn.mono (F := FW none) (by exact hy2) ?_
  rintro e' w' ⟨b, rfl, hR⟩
  refine (next b w' hR).run (a.put (some d) (.bool b)) ?_ ?_ hd
  · simp [Act.put, hn]
  · exact Env.ok_set hk (by rw [hn]; simpa using hd')
end
/-- how a round may be left -/
structure RoundCtx (l : Nat) (N : World → Prop) (X : Option Nat → World → Prop) (c : Ctx) : Prop where
  rd : c.rd = some l
  norm : ∀ a w, N w → c.Q .normal a w
  ret : ∀ a w, X none w → c.Q .ret a w
  exit : ∀ a w id, X (some id) w → c.Q (.exit id) a w
section
variable {P : Program} {n : Nat} {c : Ctx} {D : List Deferred} {is : List Ins} {k : Kont} {e : Env} {w : World} {l : Nat} {N : World → Prop} {X : Option Nat → World → Prop}
theorem exec_round_end (hc : RoundCtx l N X c) (h : N w) : Exec P n c D [] .done e w := .intro fun a _ _ _ => by
  simp only [denL, Kont.sem]; exact hc.norm a w h
theorem exec_round_ret (hc : RoundCtx l N X c) (h : X none w) : Exec P n c D (.ret :: is) k e w := exec_ret fun a _ _ _ => hc.ret a w h
theorem exit_out {id : Nat} {a : Act} : ∀ k : Kont, k.unwind id = none → c.Q (.exit id) a w → k.sem P c (.exit id) a w := by
  intro k
  induction k with
  | done => intro _ h; exact h
  | seq is k ih => exact ih
  | blk id' k ih =>
    intro h hs
    simp only [Kont.unwind] at h
    simp only [Kont.sem, Exit.inBlock]
    split at h
    · cases h
    · rename_i hb
      have : id ≠ id' := fun h => by subst h; simp at hb
      rw [if_neg this]; exact ih h hs
  | stop R k ih => exact ih
theorem exec_round_exit {id : Nat} (hc : RoundCtx l N X c) (hk : k.unwind id = none) (h : X (some id) w) : Exec P n c D (.exit id :: is) k e w := .intro fun a _ _ _ => by
  simp only [denL, denI]; exact exit_out k hk (hc.exit a w id h)
end
def jumpOf : Option Nat → Code
  | none => .ret
  | some id => .exit id
def jumpIns : Option Nat → List Ins
  | none => [.ret]
  | some id => [.exit id]
def zipEnv : List Nat → List Value → Env → Env
  | p :: ps, v :: vs, e => zipEnv ps vs ((p, v) :: e)
  | _, _, e => e
theorem zip_ok {n : Nat} : ∀ (ps : List Nat) (vs : List Value) (e : Env) (tm : Array Value), e.ok tm → tm.size = n → (∀ p ∈ ps, p < n) →
    (zipEnv ps vs e).ok ((ps.zip vs).foldl (fun t (p, v) => t.setIfInBounds p v) tm) ∧ ((ps.zip vs).foldl (fun (t : Array Value) (p, v) => t.setIfInBounds p v) tm).size = n := by
  intro ps
  induction ps with
  | nil => intro vs e tm h hn _; cases vs <;> exact ⟨by simpa [zipEnv] using h, by simpa using hn⟩
  | cons p ps ih =>
    intro vs e tm h hn hp
    cases vs with
    | nil => exact ⟨by simpa [zipEnv] using h, by simpa using hn⟩
    | cons v vs =>
      simp only [zipEnv, List.zip_cons_cons, List.foldl_cons]
      exact ih vs _ _ (Env.ok_set h (by rw [hn]; exact hp p List.mem_cons_self)) (by simp [hn]) fun q hq => hp q (List.mem_cons_of_mem _ hq)
/-- what the assignments ahead of a round do -/
def AsgOK (P : Program) (n : Nat) (asg : List Ins) (pe : Env) (Mid : Env → World → World → Prop) : Prop :=
  ∀ (w : World) (l : Nat) (a : Act), a.tmps.size = n → pe.ok a.tmps → a.defers = [] →
    denL P (some l) asg (Exit.then (fun a1 w1 => ∃ e1, a1.tmps.size = n ∧ e1.ok a1.tmps ∧ a1.defers = [] ∧ Ext w w1 ∧ Mid e1 w w1) (fun _ _ _ => False)) a w
section
variable {P : Program} {n : Nat} {c : Ctx} {D : List Deferred} {is : List Ins} {k : Kont} {e : Env} {w : World}
theorem exec_rangeF_core {α S : Type} {f : Operand} {gf : FuncId} {lb : List Value} {ps : Array Nat} {asg body : List Ins} (hf : e.ev f = some (.func (.func gf) #[] lb.toArray)) (hen : Enters P gf) (hrd : c.rd = none)
    (rds wrs : List Nat) (encs : α → List Value) (Part : List α → α → Prop) (Good : List α → Prop) (hseq : ∀ w1, Ext w w1 → SeqG P gf lb w1 rds wrs encs Part Good)
    (n0 : Nat) (ws : List Nat) (loc : S → List Nat) (J : List α → S → World → Prop) (Jx : Option Nat → S → World → Prop) (s0 : S)
    (hJ : ∀ i, Frames n0 loc (J i)) (hJx : ∀ cd, Frames n0 loc (Jx cd)) (h0 : J [] s0 w) (hn0 : n0 ≤ w.heap.size) (hl0 : ∀ b ∈ ws ++ loc s0, b < w.heap.size)
    (hwr : ∀ b ∈ wrs, b < w.heap.size ∧ n0 ≤ b ∧ b ∉ ws ∧ b ∉ loc s0) (hrds : ∀ b ∈ rds, b < w.heap.size ∧ b ∉ ws ∧ b ∉ loc s0)
    (hps : ∀ x, (encs x).length = ps.size) (hpn : ∀ p ∈ ps.toList, p < n) (Mid : α → Env → World → World → Prop) (hasg : ∀ x, AsgOK P n asg (zipEnv ps.toList (encs x) e) (Mid x))
    (round : ∀ l c' i s W x e1 W1 W2, w.heap.size ≤ l → l < W.heap.size → RoundCtx l (fun W' => ∃ s', J (i ++ [x]) s' W' ∧ Upd (ws ++ loc s) W2 W' ∧ (∀ b ∈ loc s', b ∈ loc s ∨ W.heap.size ≤ b) ∧ (∀ b ∈ loc s', b < W'.heap.size))
        (fun cd W' => ∃ s', Jx cd s' W' ∧ Upd (ws ++ loc s) W2 W' ∧ (∀ b ∈ loc s', b ∈ loc s ∨ W.heap.size ≤ b) ∧ (∀ b ∈ loc s', b < W'.heap.size)) c' →
      J i s W → Part i x → (∀ b ∈ ws ++ loc s, b < W.heap.size) → Mid x e1 W W1 → Ext W W1 → Upd [l] W1 W2 → W2.heap.size = W1.heap.size → l ∉ loc s → Exec P n c' [] body .done e1 W2)
    (done : ∀ D0 xs s W, w.heap.size ≤ D0 → Good xs → J xs s W → W.heap[D0]? = some (.deferred (some [])) → D0 ∉ loc s → Exec P n c (markOf D0 :: D) is k e W)
    (stop : ∀ cd D0 s W, w.heap.size ≤ D0 → Jx cd s W → W.heap[D0]? = some (.deferred (some [])) → D0 ∉ loc s → Exec P n c (markOf D0 :: D) (jumpIns cd ++ is) k e W) :
    Exec P n c D (.rangeF f ps asg body :: is) k e w := .intro fun a hn hk hd => by
  simp only [denL, denI]
  intro xa xb hxa hxb
  subst hxa hxb
  rw [hrd]
  refine wpIn_rangeFunc ?_
  intro fn hfn
  have hro : (FW none).round = none := rfl
  rw [hro]
  obtain ⟨rec, hrec⟩ : ∃ rec : LoopState → Option Code → Loop, rec = fun st pe => { state := st, pending := pe, fn, tmps := a.tmps, params := ps, assign := xa, body := xb, defers := w.heap.size } := ⟨_, rfl⟩
  obtain ⟨W1, hW1⟩ : ∃ W1, (w.alloc (.deferred (some []))).alloc (.loop (rec .ready none)) = W1 := ⟨_, rfl⟩
  have hU1 : Ext w W1 := by rw [← hW1]; exact (Upd.alloc [] w _).trans (Upd.alloc [] _ _)
  have hs1 : W1.heap.size = w.heap.size + 2 := by rw [← hW1]; simp
  have hL1 : W1.heap[w.heap.size + 1]? = some (.loop (rec .ready none)) := by
    rw [← hW1]; have := World.alloc_heap_new (w.alloc (.deferred (some []))) (.loop (rec .ready none)); rwa [World.size_alloc] at this
  have hK1 : W1.heap[w.heap.size]? = some (.deferred (some [])) := by
    rw [← hW1]; exact (RowKit.Below.heap_alloc _ _ _ (by simp)).trans (World.alloc_heap_new w _)
  refine ⟨w.heap.size + 1, [{ target := .collected w.heap.size, args := #[] }], W1, { target := .fn (.func gf) lb.toArray, args := #[.func (.yield (w.heap.size + 1)) #[] #[]] }, W1, gf,
    #[.func (.yield (w.heap.size + 1)) #[] #[]] ++ lb.toArray, W1, ?_, ?_, ?_, ?_, fun h => by simp [FW, Fence.wide] at h, ?_⟩
  · rw [← hW1, hrec]; exact run_enterLoop_outer _ _ _ _ _
  · have := Env.ok_ev hk hf
    simp only [resolve, this]
    simp [go_sem]
  · intro f' hf'; trivial
  · simp [invoke, hen.run]
  · have hD : (.func (.yield (w.heap.size + 1)) #[] #[] :: lb).toArray = #[.func (.yield (w.heap.size + 1)) #[] #[]] ++ lb.toArray := by simp
    have ht := zip_ok (n := n)
    let loc' : S → List Nat := fun s => w.heap.size :: (w.heap.size + 1) :: loc s
    have hseq1 := hseq W1 hU1 S (w.heap.size + 1) n0 ws loc'
      (fun i s W => J i s W ∧ w.heap.size + 1 ∉ loc s ∧ w.heap.size ∉ loc s ∧ W.heap[w.heap.size + 1]? = some (.loop (rec .ready none)) ∧ W.heap[w.heap.size]? = some (.deferred (some [])))
      (fun s W => ∃ cd, Jx cd s W ∧ (w.heap.size + 1 ∉ loc s ∧ w.heap.size ∉ loc s) ∧ W.heap[w.heap.size + 1]? = some (.loop (rec .done (some (jumpOf cd)))) ∧ W.heap[w.heap.size]? = some (.deferred (some []))) s0
      ?_ ?_ ?_ (by omega) ?_ ?_ ?_ ?_
    rw [hD] at hseq1
    refine CallsIn.mono hseq1 ?_
    · -- behind the iterator
      rintro e' W2 ⟨⟨v, rfl⟩, (⟨xs, s, hgd, hi, hl, hl', hL, hK⟩ | ⟨s, cd, hi, ⟨hl, hl'⟩, hL, hK⟩)⟩
      · have he := run_endLoop (P := P) hL (by rw [hrec]; simp)
        refine ⟨none, _, by rw [he, hrec], ?_⟩
        have hi2 := hJ _ s _ _ [w.heap.size + 1] hi (putObj_upd W2 (w.heap.size + 1) (.loop { (rec .ready none) with state := .exhausted })) (by intro b hb; simp at hb; subst hb; exact ⟨by omega, hl⟩)
        have := (done w.heap.size xs s _ (Nat.le_refl _) hgd hi2 ((World.putObj_heap_other (by omega)).trans hK) hl').run { a with defers := [{ target := .collected w.heap.size, args := #[] }] ++ a.defers } hn hk (by rw [← hd]; rfl)
        rw [hrec, hrd] at this
        exact this
      · have he := run_endLoop (P := P) hL (by rw [hrec]; simp)
        refine ⟨some (jumpOf cd), _, by rw [he, hrec], ?_⟩
        have hi2 := hJx cd s _ _ [w.heap.size + 1] hi (putObj_upd W2 (w.heap.size + 1) (.loop { (rec .done (some (jumpOf cd))) with state := .exhausted })) (by intro b hb; simp at hb; subst hb; exact ⟨by omega, hl⟩)
        have hst := (stop cd w.heap.size s _ (Nat.le_refl _) hi2 ((World.putObj_heap_other (by omega)).trans hK) hl').run { a with defers := [{ target := .collected w.heap.size, args := #[] }] ++ a.defers } hn hk (by rw [← hd]; rfl)
        cases cd with
        | none =>
          simp only [jumpIns, List.cons_append, List.nil_append, denL, denI] at hst
          rw [hrec] at hst
          exact wpIn_ret hst
        | some id =>
          simp only [jumpIns, List.cons_append, List.nil_append, denL, denI] at hst
          rw [hrec] at hst
          exact wpIn_exit hst
    · rintro i s A B l ⟨h1, h2, h3, h4, h5⟩ hu hb
      have hb' : ∀ b ∈ l, n0 ≤ b ∧ b ∉ loc s := fun b hb1 => ⟨(hb b hb1).1, fun hm => (hb b hb1).2 (by simp [loc', hm])⟩
      refine ⟨hJ i s A B l h1 hu hb', h2, h3, ?_, ?_⟩
      · rw [hu.block _ (Array.getElem?_eq_some_iff.1 h4).1 (fun hm => (hb _ hm).2 (by simp [loc']))]; exact h4
      · rw [hu.block _ (Array.getElem?_eq_some_iff.1 h5).1 (fun hm => (hb _ hm).2 (by simp [loc']))]; exact h5
    · rintro s A B l ⟨cd, h1, h2, h4, h5⟩ hu hb
      have hb' : ∀ b ∈ l, n0 ≤ b ∧ b ∉ loc s := fun b hb1 => ⟨(hb b hb1).1, fun hm => (hb b hb1).2 (by simp [loc', hm])⟩
      refine ⟨cd, hJx cd s A B l h1 hu hb', h2, ?_, ?_⟩
      · rw [hu.block _ (Array.getElem?_eq_some_iff.1 h4).1 (fun hm => (hb _ hm).2 (by simp [loc']))]; exact h4
      · rw [hu.block _ (Array.getElem?_eq_some_iff.1 h5).1 (fun hm => (hb _ hm).2 (by simp [loc']))]; exact h5
    · have hlt : ∀ b ∈ loc s0, b < w.heap.size := fun b hb => hl0 b (by simp [hb])
      exact ⟨hJ [] s0 w W1 [] h0 hU1 (by simp), fun h => by have := hlt _ h; omega, fun h => by have := hlt _ h; omega, hL1, hK1⟩
    · intro b hb
      simp only [loc', List.mem_append, List.mem_cons] at hb
      rcases hb with hb | rfl | rfl | hb
      · have := hl0 b (by simp [hb]); omega
      · omega
      · omega
      · have := hl0 b (by simp [hb]); omega
    · intro b hb
      have := hwr b hb
      refine ⟨by omega, this.2.1, this.2.2.1, fun h => ?_⟩
      simp only [loc', List.mem_cons] at h
      rcases h with rfl | rfl | h
      · omega
      · omega
      · exact this.2.2.2 h
    · intro b hb
      have := hrds b hb
      refine ⟨by omega, this.2.1, fun h => ?_⟩
      simp only [loc', List.mem_cons] at h
      rcases h with rfl | rfl | h
      · omega
      · omega
      · exact this.2.2 h
    · -- one round
      rintro i s W x ⟨hi, hl, hl', hL, hK⟩ hx hlw
      have hlt : w.heap.size + 1 < W.heap.size := (Array.getElem?_eq_some_iff.1 hL).1
      have hy := run_yield (P := P) (args := (encs x).toArray) hL (by rw [hrec]; simpa using hps x)
      rw [hrec] at hy
      refine ⟨fn, _, xa, xb, hy, ?_⟩
      have hlw' : ∀ b ∈ ws ++ loc s, b < W.heap.size := fun b hb => hlw b (by
        simp only [List.mem_append, loc', List.mem_cons] at hb ⊢
        rcases hb with hb | hb
        · exact .inl hb
        · exact .inr (.inr (.inr hb)))
      have hzip : (ps.zip (encs x).toArray).foldl (fun (t : Array Value) (p, v) => t.setIfInBounds p v) a.tmps = (ps.toList.zip (encs x)).foldl (fun (t : Array Value) (p, v) => t.setIfInBounds p v) a.tmps := by
        rw [← Array.foldl_toList]
        simp
      obtain ⟨hz1, hz2⟩ := ht ps.toList (encs x) e a.tmps hk hn hpn
      have hA := hasg x W (w.heap.size + 1) ⟨(ps.toList.zip (encs x)).foldl (fun (t : Array Value) (p, v) => t.setIfInBounds p v) a.tmps, []⟩ hz2 hz1 rfl
      refine roundIn_of_wpIn trivial ?_
      have hA2 := code_ok xa _ _ _ hA
      refine wpIn_mono (by rw [hzip]; exact hA2) ?_
      intro ex a1 w1 hq
      cases ex with
      | normal =>
        obtain ⟨e1, hn1, hk1, hd1, hu1, hmid⟩ := hq
        have hL2 : w1.heap[w.heap.size + 1]? = some (.loop (rec .ready none)) := (hu1.block _ hlt (by simp)).trans hL
        have hK2 : w1.heap[w.heap.size]? = some (.deferred (some [])) := (hu1.block _ (by omega) (by simp)).trans hK
        have hlt1 : w.heap.size + 1 < w1.heap.size := (Array.getElem?_eq_some_iff.1 hL2).1
        refine ⟨_, run_beginRound hL2 (by rw [hrec]), ?_⟩
        obtain ⟨w2, hw2⟩ : ∃ w2, w1.putObj (w.heap.size + 1) (.loop { rec .ready none with state := .busy }) = w2 := ⟨_, rfl⟩
        rw [hw2]
        have hu2 : Upd [w.heap.size + 1] w1 w2 := by rw [← hw2]; exact putObj_upd _ _ _
        have hs2 : w2.heap.size = w1.heap.size := by rw [← hw2]; simp
        have hL3 : w2.heap[w.heap.size + 1]? = some (.loop { rec .ready none with state := .busy }) := by rw [← hw2]; exact World.putObj_heap_same hlt1
        have hK3 : w2.heap[w.heap.size]? = some (.deferred (some [])) := by rw [← hw2]; exact (World.putObj_heap_other (by omega)).trans hK2
        have hU : Upd (ws ++ loc' s) W w2 := ((hu1.mono (m := ws ++ loc' s) (by simp)).trans hu2 (fun b hb => .inl (by simp at hb; subst hb; simp [loc'])))
        have fin : ∀ (jump : Option Code) (W3 : World), Upd (ws ++ loc s) w2 W3 → ∃ W4, (Instr.endRound (w.heap.size + 1) jump).run P W3 = .ok (.bool jump.isNone) W4 ∧ Upd [w.heap.size + 1] W3 W4 ∧ W4.heap.size = W3.heap.size ∧
            W4.heap[w.heap.size + 1]? = some (.loop (rec (if jump.isNone then .ready else .done) jump)) ∧ W4.heap[w.heap.size]? = some (.deferred (some [])) := by
          intro jump W3 hu3
          have hnot : w.heap.size + 1 ∉ ws ++ loc s := by
            simp only [List.mem_append, not_or]
            exact ⟨fun h => by have := hl0 _ (List.mem_append_left _ h); omega, hl⟩
          have hnot' : w.heap.size ∉ ws ++ loc s := by
            simp only [List.mem_append, not_or]
            exact ⟨fun h => by have := hl0 _ (List.mem_append_left _ h); omega, hl'⟩
          have hL4 := (hu3.block _ (by omega) hnot).trans hL3
          have hK4 := (hu3.block _ (by omega) hnot').trans hK3
          have hr := run_endRound (P := P) jump hL4
          rw [hrec] at hr ⊢
          exact ⟨_, hr, putObj_upd _ _ _, by simp, World.putObj_heap_same (Array.getElem?_eq_some_iff.1 hL4).1, (World.putObj_heap_other (by omega)).trans hK4⟩
        have tot : ∀ (W3 W4 : World), Upd (ws ++ loc s) w2 W3 → Upd [w.heap.size + 1] W3 W4 → Upd (ws ++ loc' s) W W4 := by
          intro W3 W4 h3 h4
          have h5 : Upd (ws ++ loc' s) W W3 := hU.trans h3 (fun b hb => .inl (by
            simp only [List.mem_append, loc', List.mem_cons] at hb ⊢
            rcases hb with hb | hb
            · exact .inl hb
            · exact .inr (.inr (.inr hb))))
          exact h5.trans h4 (fun b hb => .inl (by simp at hb; subst hb; simp [loc']))
        have fresh : ∀ (s' : S) (W3 W4 : World), W4.heap.size = W3.heap.size → W.heap.size ≤ W3.heap.size → (∀ b ∈ loc s', b ∈ loc s ∨ W.heap.size ≤ b) → (∀ b ∈ loc s', b < W3.heap.size) →
            w.heap.size + 1 ∉ loc s' ∧ w.heap.size ∉ loc s' ∧ (∀ b ∈ loc' s', b ∈ loc' s ∨ W.heap.size ≤ b) ∧ (∀ b ∈ loc' s', b < W4.heap.size) := by
          intro s' W3 W4 hsz hsz2 h1 h2
          refine ⟨fun h => ?_, fun h => ?_, fun b hb => ?_, fun b hb => ?_⟩
          · rcases h1 _ h with h | h
            · exact hl h
            · omega
          · rcases h1 _ h with h | h
            · exact hl' h
            · omega
          · simp only [loc', List.mem_cons] at hb ⊢
            rcases hb with rfl | rfl | hb
            · exact .inl (.inl rfl)
            · exact .inl (.inr (.inl rfl))
            · rcases h1 _ hb with h | h
              · exact .inl (.inr (.inr h))
              · exact .inr h
          · simp only [loc', List.mem_cons] at hb
            rcases hb with rfl | rfl | hb
            · omega
            · omega
            · have := h2 b hb; omega
        have hWsz : ∀ W3, Upd (ws ++ loc s) w2 W3 → W.heap.size ≤ W3.heap.size := fun W3 h3 => Nat.le_trans hu1.size (by rw [← hs2]; exact h3.size)
        have hbody := (round (w.heap.size + 1) ⟨some (w.heap.size + 1), roundPost P (w.heap.size + 1) fun e' w' => ∃ b, e' = .returned (.bool b) ∧ ∃ s',
            (if b then (J (i ++ [x]) s' w' ∧ w.heap.size + 1 ∉ loc s' ∧ w.heap.size ∉ loc s' ∧ w'.heap[w.heap.size + 1]? = some (.loop (rec .ready none)) ∧ w'.heap[w.heap.size]? = some (.deferred (some [])))
              else ∃ cd, Jx cd s' w' ∧ (w.heap.size + 1 ∉ loc s' ∧ w.heap.size ∉ loc s') ∧ w'.heap[w.heap.size + 1]? = some (.loop (rec .done (some (jumpOf cd)))) ∧ w'.heap[w.heap.size]? = some (.deferred (some []))) ∧
            Upd (ws ++ loc' s) W w' ∧ (∀ b ∈ loc' s', b ∈ loc' s ∨ W.heap.size ≤ b) ∧ (∀ b ∈ loc' s', b < w'.heap.size)⟩ i s W x e1 w1 w2 (by omega) (by omega) ?_ hi hx hlw' hmid hu1 hu2 hs2 hl).run a1 hn1 hk1 hd1
        · exact code_ok xb _ _ _ hbody
        · refine ⟨rfl, ?_, ?_, ?_⟩
          · rintro a3 W3 ⟨s', h1, h2, h3, h4⟩
            obtain ⟨W4, hr, hu4, hs4, hL4, hK4⟩ := fin none W3 h2
            obtain ⟨f1, f2, f3, f4⟩ := fresh s' W3 W4 hs4 (hWsz _ h2) h3 h4
            refine ⟨_, W4, hr, true, rfl, s', ?_, tot _ _ h2 hu4, f3, f4⟩
            simp only [if_true]
            exact ⟨hJ _ s' W3 W4 _ h1 hu4 (by intro b hb; simp at hb; subst hb; exact ⟨by omega, f1⟩), f1, f2, hL4, hK4⟩
          · rintro a3 W3 ⟨s', h1, h2, h3, h4⟩
            obtain ⟨W4, hr, hu4, hs4, hL4, hK4⟩ := fin (some .ret) W3 h2
            obtain ⟨f1, f2, f3, f4⟩ := fresh s' W3 W4 hs4 (hWsz _ h2) h3 h4
            refine ⟨_, W4, hr, false, rfl, s', ?_, tot _ _ h2 hu4, f3, f4⟩
            simp only [Bool.false_eq_true, if_false]
            exact ⟨none, hJx _ s' W3 W4 _ h1 hu4 (by intro b hb; simp at hb; subst hb; exact ⟨by omega, f1⟩), ⟨f1, f2⟩, hL4, hK4⟩
          · rintro a3 W3 id ⟨s', h1, h2, h3, h4⟩
            obtain ⟨W4, hr, hu4, hs4, hL4, hK4⟩ := fin (some (.exit id)) W3 h2
            obtain ⟨f1, f2, f3, f4⟩ := fresh s' W3 W4 hs4 (hWsz _ h2) h3 h4
            refine ⟨_, W4, hr, false, rfl, s', ?_, tot _ _ h2 hu4, f3, f4⟩
            simp only [Bool.false_eq_true, if_false]
            exact ⟨some id, hJx _ s' W3 W4 _ h1 hu4 (by intro b hb; simp at hb; subst hb; exact ⟨by omega, f1⟩), ⟨f1, f2⟩, hL4, hK4⟩
      | _ => exact hq.elim
theorem asg_of_exec {asg : List Ins} {pe : Env} {Mid : Env → World → World → Prop}
    (h : ∀ (c : Ctx) (w : World), Exec P n c [] asg (.stop (fun a1 w1 => ∃ e1, a1.tmps.size = n ∧ e1.ok a1.tmps ∧ a1.defers = [] ∧ Ext w w1 ∧ Mid e1 w w1) .done) pe w) : AsgOK P n asg pe Mid :=
  fun w l a hn hk hd => (h ⟨some l, fun _ _ _ => False⟩ w).run a hn hk hd
theorem exec_mid {Mid : Env → World → World → Prop} {w0 : World} {e1 : Env} (hu : Ext w0 w) (hm : Mid e1 w0 w) (hs : e1 = e) :
    Exec P n c [] [] (.stop (fun a1 w1 => ∃ e1, a1.tmps.size = n ∧ e1.ok a1.tmps ∧ a1.defers = [] ∧ Ext w0 w1 ∧ Mid e1 w0 w1) k) e w :=
  exec_stop fun a hn hk hd => ⟨e1, hn, hs ▸ hk, hd, hu, hm⟩
/-- a range whose variables live in slots -/
theorem exec_rangeF {α S : Type} {f : Operand} {gf : FuncId} {lb : List Value} {ps : Array Nat} {d p : Nat} {body : List Ins} (hf : e.ev f = some (.func (.func gf) #[] lb.toArray)) (hen : Enters P gf) (hrd : c.rd = none)
    (rds wrs : List Nat) (encs : α → List Value) (xs : List α) (hseq : ∀ w1, Ext w w1 → SeqOK P gf lb w1 rds wrs encs xs) (val : α → Value) (hval : ∀ x, (zipEnv ps.toList (encs x) e).get p = some (val x)) (hd' : Nat.blt d n = true)
    (n0 : Nat) (ws : List Nat) (loc : S → List Nat) (J : Nat → S → World → Prop) (Jx : Option Nat → S → World → Prop) (s0 : S)
    (hJ : ∀ i, Frames n0 loc (J i)) (hJx : ∀ cd, Frames n0 loc (Jx cd)) (h0 : J 0 s0 w) (hn0 : n0 ≤ w.heap.size) (hl0 : ∀ b ∈ ws ++ loc s0, b < w.heap.size)
    (hwr : ∀ b ∈ wrs, b < w.heap.size ∧ n0 ≤ b ∧ b ∉ ws ∧ b ∉ loc s0) (hrds : ∀ b ∈ rds, b < w.heap.size ∧ b ∉ ws ∧ b ∉ loc s0)
    (hps : ∀ x, (encs x).length = ps.size) (hpn : ps.toList.all (fun p => Nat.blt p n) = true)
    (round : ∀ l c' i s W x, RoundCtx l (fun W' => ∃ s', J (i + 1) s' W' ∧ Upd (ws ++ loc s) W W' ∧ (∀ b ∈ loc s', b ∈ loc s ∨ W.heap.size ≤ b) ∧ (∀ b ∈ loc s', b < W'.heap.size))
        (fun cd W' => ∃ s', Jx cd s' W' ∧ Upd (ws ++ loc s) W W' ∧ (∀ b ∈ loc s', b ∈ loc s ∨ W.heap.size ≤ b) ∧ (∀ b ∈ loc s', b < W'.heap.size)) c' →
      J i s W → xs[i]? = some x → (∀ b ∈ ws ++ loc s, b < W.heap.size) → n0 ≤ W.heap.size → Exec P n c' [] body .done ((d, val x) :: zipEnv ps.toList (encs x) e) W)
    (done : ∀ D0 s W, w.heap.size ≤ D0 → J xs.length s W → W.heap[D0]? = some (.deferred (some [])) → D0 ∉ loc s → Exec P n c (markOf D0 :: D) is k e W)
    (stop : ∀ cd D0 s W, w.heap.size ≤ D0 → Jx cd s W → W.heap[D0]? = some (.deferred (some [])) → D0 ∉ loc s → Exec P n c (markOf D0 :: D) (jumpIns cd ++ is) k e W) :
    Exec P n c D (.rangeF f ps [.op none (some d) (.mov (.tmp p))] body :: is) k e w := by
  refine exec_rangeF_core hf hen hrd rds wrs encs (fun pre x => pre ++ [x] <+: xs) (fun l => l = xs) (fun w1 h => (hseq w1 h).toG) n0 ws loc (fun pre s W => ∃ i, pre = xs.take i ∧ i ≤ xs.length ∧ J i s W) Jx s0
    (fun pre s W W' l' h hu hb => let ⟨i, h1, h2, h3⟩ := h; ⟨i, h1, h2, hJ i s W W' l' h3 hu hb⟩) hJx ⟨0, by simp, Nat.zero_le _, h0⟩ hn0 hl0 hwr hrds hps (fun p hp => by simpa using List.all_eq_true.1 hpn p hp)
    (fun x e1 w1 w2 => e1 = (d, val x) :: zipEnv ps.toList (encs x) e ∧ w2 = w1) (fun x => asg_of_exec fun c w => ?_) ?_ (fun D0 l s W h1 hl h2 h3 h4 => ?_) stop
  · exact xpu (hval x) hd' (exec_mid (Mid := fun e1 w1 w2 => e1 = (d, val x) :: zipEnv ps.toList (encs x) e ∧ w2 = w1) (Upd.refl _ _) ⟨rfl, rfl⟩ rfl)
  · intro l c' pre s W x e1 W1 W2 hl hl2 hc hpi hpx hlw hm hu1 hu2 hs2 hns
    obtain ⟨i, hpre, hile, hi⟩ := hpi
    have hx : xs[i]? = some x ∧ i < xs.length := by
      have h1 := hpx.length_le
      have hlen : pre.length = i := by rw [hpre]; simp; omega
      have hlt : i < xs.length := by rw [List.length_append] at h1; simp at h1; omega
      refine ⟨?_, hlt⟩
      have h2 := hpx.getElem (i := i) (by simp [hlen])
      rw [List.getElem?_eq_getElem hlt, ← h2]
      simp [hlen]
    have hnext : ∀ s' W', J (i + 1) s' W' → ∃ j, pre ++ [x] = xs.take j ∧ j ≤ xs.length ∧ J j s' W' := fun s' W' h =>
      ⟨i + 1, by rw [hpre, List.take_add_one, hx.1]; rfl, hx.2, h⟩
    replace hx := hx.1
    obtain ⟨rfl, rfl⟩ := hm
    have hi2 := hJ i s _ _ [l] hi hu2 (by intro b hb; simp at hb; subst hb; exact ⟨by omega, hns⟩)
    refine round l c' i s W2 x ⟨hc.rd, ?_, ?_, ?_⟩ hi2 hx (by rw [hs2]; exact hlw) (by omega)
    · rintro a W' ⟨s', h1, h2, h3, h4⟩; exact hc.norm a W' ⟨s', hnext s' W' h1, h2, by rw [← hs2]; exact h3, h4⟩
    · rintro a W' ⟨s', h1, h2, h3, h4⟩; exact hc.ret a W' ⟨s', h1, h2, by rw [← hs2]; exact h3, h4⟩
    · rintro a W' id ⟨s', h1, h2, h3, h4⟩; exact hc.exit a W' id ⟨s', h1, h2, by rw [← hs2]; exact h3, h4⟩
  · obtain ⟨i, h5, h6, h7⟩ := h2
    subst hl
    have : i = l.length := by have := congrArg List.length h5; simp at this; omega
    subst this
    exact done D0 s W h1 h7 h3 h4
/-- a range whose variables live in slots, over what comes in no known order -/
theorem exec_rangeG {α S : Type} {f : Operand} {gf : FuncId} {lb : List Value} {ps : Array Nat} {d p : Nat} {body : List Ins} (hf : e.ev f = some (.func (.func gf) #[] lb.toArray)) (hen : Enters P gf) (hrd : c.rd = none)
    (rds wrs : List Nat) (encs : α → List Value) (Part : List α → α → Prop) (Good : List α → Prop) (hseq : ∀ w1, Ext w w1 → SeqG P gf lb w1 rds wrs encs Part Good) (val : α → Value) (hval : ∀ x, (zipEnv ps.toList (encs x) e).get p = some (val x)) (hd' : Nat.blt d n = true)
    (n0 : Nat) (ws : List Nat) (loc : S → List Nat) (J : List α → S → World → Prop) (Jx : Option Nat → S → World → Prop) (s0 : S)
    (hJ : ∀ i, Frames n0 loc (J i)) (hJx : ∀ cd, Frames n0 loc (Jx cd)) (h0 : J [] s0 w) (hn0 : n0 ≤ w.heap.size) (hl0 : ∀ b ∈ ws ++ loc s0, b < w.heap.size)
    (hwr : ∀ b ∈ wrs, b < w.heap.size ∧ n0 ≤ b ∧ b ∉ ws ∧ b ∉ loc s0) (hrds : ∀ b ∈ rds, b < w.heap.size ∧ b ∉ ws ∧ b ∉ loc s0)
    (hps : ∀ x, (encs x).length = ps.size) (hpn : ps.toList.all (fun p => Nat.blt p n) = true)
    (round : ∀ l c' pre s W x, RoundCtx l (fun W' => ∃ s', J (pre ++ [x]) s' W' ∧ Upd (ws ++ loc s) W W' ∧ (∀ b ∈ loc s', b ∈ loc s ∨ W.heap.size ≤ b) ∧ (∀ b ∈ loc s', b < W'.heap.size))
        (fun cd W' => ∃ s', Jx cd s' W' ∧ Upd (ws ++ loc s) W W' ∧ (∀ b ∈ loc s', b ∈ loc s ∨ W.heap.size ≤ b) ∧ (∀ b ∈ loc s', b < W'.heap.size)) c' →
      J pre s W → Part pre x → (∀ b ∈ ws ++ loc s, b < W.heap.size) → n0 ≤ W.heap.size → Exec P n c' [] body .done ((d, val x) :: zipEnv ps.toList (encs x) e) W)
    (done : ∀ D0 xs s W, w.heap.size ≤ D0 → Good xs → J xs s W → W.heap[D0]? = some (.deferred (some [])) → D0 ∉ loc s → Exec P n c (markOf D0 :: D) is k e W)
    (stop : ∀ cd D0 s W, w.heap.size ≤ D0 → Jx cd s W → W.heap[D0]? = some (.deferred (some [])) → D0 ∉ loc s → Exec P n c (markOf D0 :: D) (jumpIns cd ++ is) k e W) :
    Exec P n c D (.rangeF f ps [.op none (some d) (.mov (.tmp p))] body :: is) k e w := by
  refine exec_rangeF_core hf hen hrd rds wrs encs Part Good hseq n0 ws loc J Jx s0 hJ hJx h0 hn0 hl0 hwr hrds hps (fun p hp => by simpa using List.all_eq_true.1 hpn p hp)
    (fun x e1 w1 w2 => e1 = (d, val x) :: zipEnv ps.toList (encs x) e ∧ w2 = w1) (fun x => asg_of_exec fun c w => ?_) ?_ done stop
  · exact xpu (hval x) hd' (exec_mid (Mid := fun e1 w1 w2 => e1 = (d, val x) :: zipEnv ps.toList (encs x) e ∧ w2 = w1) (Upd.refl _ _) ⟨rfl, rfl⟩ rfl)
  · intro l c' pre s W x e1 W1 W2 hl hl2 hc hi hx hlw hm hu1 hu2 hs2 hns
    obtain ⟨rfl, rfl⟩ := hm
    have hi2 := hJ pre s _ _ [l] hi hu2 (by intro b hb; simp at hb; subst hb; exact ⟨by omega, hns⟩)
    refine round l c' pre s W2 x ⟨hc.rd, ?_, ?_, ?_⟩ hi2 hx (by rw [hs2]; exact hlw) (by omega)
    · rintro a W' ⟨s', h1, h2, h3, h4⟩; exact hc.norm a W' ⟨s', h1, h2, by rw [← hs2]; exact h3, h4⟩
    · rintro a W' ⟨s', h1, h2, h3, h4⟩; exact hc.ret a W' ⟨s', h1, h2, by rw [← hs2]; exact h3, h4⟩
    · rintro a W' id ⟨s', h1, h2, h3, h4⟩; exact hc.exit a W' id ⟨s', h1, h2, by rw [← hs2]; exact h3, h4⟩
end
theorem SeqG.of_ret {α : Type} {P : Program} {f : FuncId} {lb : List Value} {w : World} {rds wrs : List Nat} {encs : α → List Value} {Part : List α → α → Prop} {Good : List α → Prop}
    (h : ∀ (S : Type) (l n0 : Nat) (ws : List Nat) (loc : S → List Nat) (J : List α → S → World → Prop) (Jx : S → World → Prop) (s0 : S),
      (∀ i, Frames n0 loc (J i)) → Frames n0 loc Jx → J [] s0 w → n0 ≤ w.heap.size → (∀ b ∈ ws ++ loc s0, b < w.heap.size) →
      (∀ b ∈ wrs, b < w.heap.size ∧ n0 ≤ b ∧ b ∉ ws ∧ b ∉ loc s0) → (∀ b ∈ rds, b < w.heap.size ∧ b ∉ ws ∧ b ∉ loc s0) → RoundsG P l ws encs Part loc J Jx →
      Ret P f (.func (.yield l) #[] #[] :: lb) w fun _ w' => (∃ xs s, Good xs ∧ J xs s w') ∨ ∃ s, Jx s w') : SeqG P f lb w rds wrs encs Part Good :=
  fun S l n0 ws loc J Jx s0 h1 h2 h3 h4 h5 h6 h7 h8 => callsIn_FW (Calls.mono (h S l n0 ws loc J Jx s0 h1 h2 h3 h4 h5 h6 h7 h8) fun _ _ ⟨v, he, hR⟩ => ⟨⟨v, he⟩, hR⟩)
/-- an iterator's word out of a walk of it -/
theorem SeqOK.of_ret {α : Type} {P : Program} {f : FuncId} {lb : List Value} {w : World} {rds wrs : List Nat} {encs : α → List Value} {xs : List α}
    (h : ∀ (S : Type) (l n0 : Nat) (ws : List Nat) (loc : S → List Nat) (J : Nat → S → World → Prop) (Jx : S → World → Prop) (s0 : S),
      (∀ i, Frames n0 loc (J i)) → Frames n0 loc Jx → J 0 s0 w → n0 ≤ w.heap.size → (∀ b ∈ ws ++ loc s0, b < w.heap.size) →
      (∀ b ∈ wrs, b < w.heap.size ∧ n0 ≤ b ∧ b ∉ ws ∧ b ∉ loc s0) → (∀ b ∈ rds, b < w.heap.size ∧ b ∉ ws ∧ b ∉ loc s0) → Rounds P l ws encs xs loc J Jx →
      Ret P f (.func (.yield l) #[] #[] :: lb) w fun _ w' => (∃ s, J xs.length s w') ∨ ∃ s, Jx s w') : SeqOK P f lb w rds wrs encs xs :=
  fun S l n0 ws loc J Jx s0 h1 h2 h3 h4 h5 h6 h7 h8 => callsIn_FW (Calls.mono (h S l n0 ws loc J Jx s0 h1 h2 h3 h4 h5 h6 h7 h8) fun _ _ ⟨v, he, hR⟩ => ⟨⟨v, he⟩, hR⟩)
end Go.Sp

namespace Go.Sp
/-- a slice value: nil (or one without elements, wherever it points), or len elements of N cells each lie at its place -/
def SlC (w : World) (v : Value) (N len : Nat) (cs : List Value) : Prop :=
  ((v = .slice none 0 0 ∨ ∃ b o s cap, v = .slice (some ⟨b, o, some s⟩) 0 cap) ∧ len = 0 ∧ cs = []) ∨ ∃ b o cap, v = .slice (some ⟨b, o, none⟩) len cap ∧ Mem w b o cs ∧ cs.length = len * N ∧ len ≤ cap
/-- a slice value that begins with its block, which is its own to write -/
def OwnC (w : World) (v : Value) (N len : Nat) (cs : List Value) : Prop :=
  (v = .slice none 0 0 ∧ len = 0 ∧ cs = []) ∨ ∃ b cap rest, v = .slice (some ⟨b, 0, none⟩) len cap ∧ Blk w b (cs ++ rest) ∧ cs.length = len * N ∧ (cs ++ rest).length = cap * N ∧ len ≤ cap
def blkOf : Value → List Nat
  | .slice (some a) _ _ => [a.block]
  | _ => []
theorem OwnC.sl {w : World} {v : Value} {N len : Nat} {cs : List Value} (h : OwnC w v N len cs) : SlC w v N len cs := by
  rcases h with h | ⟨b, cap, rest, hv, hb, hl, hl2, hc⟩
  · exact .inl ⟨.inl h.1, h.2⟩
  · exact .inr ⟨b, 0, cap, hv, hb.mem 0 (fun i u hi => by rw [Nat.zero_add]; rw [List.getElem?_append_left ((List.getElem?_eq_some_iff.1 hi).1)]; exact hi), hl, hc⟩
theorem OwnC.upd {w w' : World} {v : Value} {N len : Nat} {cs : List Value} {l : List Nat} (h : OwnC w v N len cs) (hu : Upd l w w') (hl : ∀ b ∈ blkOf v, b ∉ l) : OwnC w' v N len cs := by
  rcases h with h | ⟨b, cap, rest, hv, hb, h1, h2, h3⟩
  · exact .inl h
  · exact .inr ⟨b, cap, rest, hv, hb.upd hu (hl b (by subst hv; simp [blkOf])), h1, h2, h3⟩
theorem SlC.upd {w w' : World} {v : Value} {N len : Nat} {cs : List Value} {l : List Nat} (h : SlC w v N len cs) (hu : Upd l w w') (hl : ∀ b ∈ blkOf v, b ∉ l) : SlC w' v N len cs := by
  rcases h with h | ⟨b, o, cap, hv, hb, h1, h2⟩
  · exact .inl h
  · exact .inr ⟨b, o, cap, hv, hb.upd hu (hl b (by subst hv; simp [blkOf])), h1, h2⟩
theorem SlC.len {w : World} {v : Value} {N len : Nat} {cs : List Value} (h : SlC w v N len cs) : cs.length = len * N := by
  rcases h with ⟨_, rfl, rfl⟩ | ⟨b, o, cap, hv, hb, h1, h2⟩
  · simp
  · exact h1
theorem OwnC.lt {w : World} {v : Value} {N len : Nat} {cs : List Value} (h : OwnC w v N len cs) : ∀ b ∈ blkOf v, b < w.heap.size := by
  rcases h with ⟨rfl, _⟩ | ⟨b, cap, rest, rfl, hb, _⟩
  · simp [blkOf]
  · simpa [blkOf] using hb.lt
theorem OwnC.len {w : World} {v : Value} {N len : Nat} {cs : List Value} (h : OwnC w v N len cs) : cs.length = len * N := h.sl.len
/-- fewer elements -/
theorem OwnC.take {w : World} {v : Value} {N len : Nat} {cs : List Value} {b o cap : Nat} (h : OwnC w (.slice (some ⟨b, o, none⟩) len cap) N len cs) (m : Nat) (hm : m ≤ len) :
    OwnC w (.slice (some ⟨b, o, none⟩) m cap) N m (cs.take (m * N)) := by
  rcases h with ⟨h, _⟩ | ⟨b', cap', rest, hv, hb, h1, h2, h3⟩
  · cases h
  · cases hv
    have hle : m * N ≤ len * N := Nat.mul_le_mul_right _ hm
    refine .inr ⟨b, cap, cs.drop (m * N) ++ rest, rfl, ?_, ?_, ?_, by omega⟩
    · rw [← List.append_assoc, List.take_append_drop]; exact hb
    · rw [List.length_take, h1]; omega
    · rw [← List.append_assoc, List.take_append_drop]; exact h2
section
variable {P : Program} {n : Nat} {c : Ctx} {D : List Deferred} {is : List Ins} {k : Kont} {e : Env} {w : World}
abbrev Just (v : Value) (w : World) : Value → World → Prop := fun u W => u = v ∧ W = w
theorem xju {d : Nat} {m : MOp} {v : Value} (h : OpOK P m e w (Just v w)) (hd' : Nat.blt d n = true) (hx : Exec P n c D is k ((d, v) :: e) w) : Exec P n c D (.op none (some d) m :: is) k e w :=
  exec_ok h hd' fun u W hu => by obtain ⟨rfl, rfl⟩ := hu; exact hx
theorem OpOK.keep {m : MOp} {v : Value} (l : List Nat) (h : OpOK P m e w (Just v w)) : OpOK P m e w fun u W' => Upd l w W' ∧ u = v := h.mono fun u W hu => ⟨hu.2 ▸ Upd.refl _ _, hu.1⟩
theorem ok_load1 {b o : Nat} {x : Operand} {v : Value} (hx : e.ev x = some (.pointer (some ⟨b, o, none⟩))) (hc : w.cell? ⟨b, o, none⟩ = some v) : OpOK P (.load1 x) e w (Just v w) :=
  ok_val fun a hk => by simp [MOp.sem, Env.ok_ev hk hx, Instr.sureAddr, hc]
theorem ok_loadN {b o N : Nat} {x : Operand} {vs : List Value} (hx : e.ev x = some (.pointer (some ⟨b, o, none⟩))) (hc : Mem w b o vs) (hl : vs.length = N) : OpOK P (.loadN N x) e w (Just (.agg vs.toArray) w) :=
  ok_val fun a hk => by
    subst hl
    have := loadCells_run (P := P) vs 0 #[] (by simpa using hc)
    simp [MOp.sem, Env.ok_ev hk hx, Instr.sureAddr, loadCells, this]
theorem ok_iaddr {N b o len cap : Nat} {x y : Operand} {K : IntKind} {i : Int} (hx : e.ev x = some (.slice (some ⟨b, o, none⟩) len cap)) (hy : e.ev y = some (.int K i))
    (j : Nat) (hj : i = (j : Int)) (hlt : j < len) : OpOK P (.iaddr N x y) e w (Just (.pointer (some ⟨b, o + j * N, none⟩)) w) :=
  ok_val fun a hk => by subst hj; simp [MOp.sem, Env.ok_ev hk hx, Env.ok_ev hk hy, asIntOf, add_mk, hlt]
theorem ok_iaddrA {N L b o : Nat} {x y : Operand} {K : IntKind} {i : Int} (hx : e.ev x = some (.pointer (some ⟨b, o, none⟩))) (hy : e.ev y = some (.int K i))
    (j : Nat) (hj : i = (j : Int)) (hlt : j < L) : OpOK P (.iaddrA L N x y) e w (Just (.pointer (some ⟨b, o + j * N, none⟩)) w) :=
  ok_val fun a hk => by subst hj; simp [MOp.sem, Env.ok_ev hk hx, Env.ok_ev hk hy, asIntOf, Instr.sureAddr, add_mk, hlt]
theorem ok_idx1 {L : Nat} {x y : Operand} {K : IntKind} {i : Int} {cs : Array Value} {v : Value} (hx : e.ev x = some (.agg cs)) (hy : e.ev y = some (.int K i))
    (j : Nat) (hj : i = (j : Int)) (hlt : j < L) (hv : cs[j]? = some v) : OpOK P (.idx L 1 false x y) e w (Just v w) :=
  ok_val fun a hk => by subst hj; simp [MOp.sem, Env.ok_ev hk hx, Env.ok_ev hk hy, asIntOf, hlt, hv]
theorem ok_sidx {x y : Operand} {K : IntKind} {i : Int} {s : ByteArray} {b : UInt8} (hx : e.ev x = some (.string s)) (hy : e.ev y = some (.int K i))
    (j : Nat) (hj : i = (j : Int)) (hb : s[j]? = some b) : OpOK P (.sidx x y) e w (Just (.int .u8 b.toNat) w) :=
  ok_val fun a hk => by subst hj; simp [MOp.sem, Env.ok_ev hk hx, Env.ok_ev hk hy, asIntOf, hb]
theorem ok_quo {x y : Operand} {K : IntKind} {i j : Int} (hx : e.ev x = some (.int K i)) (hy : e.ev y = some (.int K j)) (h0 : j ≠ 0) : OpOK P (.ibin .quo x y) e w (Just (.int K (K.wrap (i.tdiv j))) w) :=
  ok_val fun a hk => by simp [MOp.sem, Env.ok_ev hk hx, Env.ok_ev hk hy, binOp, Op.intDiv, h0]
theorem ok_rem {x y : Operand} {K : IntKind} {i j : Int} (hx : e.ev x = some (.int K i)) (hy : e.ev y = some (.int K j)) (h0 : j ≠ 0) : OpOK P (.ibin .rem x y) e w (Just (.int K (i.tmod j)) w) :=
  ok_val fun a hk => by simp [MOp.sem, Env.ok_ev hk hx, Env.ok_ev hk hy, binOp, Op.intDiv, h0]
theorem ok_shl {x y : Operand} {K K' : IntKind} {i j : Int} (hx : e.ev x = some (.int K i)) (hy : e.ev y = some (.int K' j)) (h0 : 0 ≤ j) : OpOK P (.ibin .shl x y) e w (Just (.int K (K.wrap (i * 2 ^ (min j.toNat K.bits)))) w) :=
  ok_val fun a hk => by simp [MOp.sem, Env.ok_ev hk hx, Env.ok_ev hk hy, binOp, Op.shift, show ¬ j < 0 from by omega]
theorem ok_shr {x y : Operand} {K K' : IntKind} {i j : Int} (hx : e.ev x = some (.int K i)) (hy : e.ev y = some (.int K' j)) (h0 : 0 ≤ j) : OpOK P (.ibin .shr x y) e w (Just (.int K (i.fdiv (2 ^ (min j.toNat K.bits)))) w) :=
  ok_val fun a hk => by simp [MOp.sem, Env.ok_ev hk hx, Env.ok_ev hk hy, binOp, Op.shift, show ¬ j < 0 from by omega]
theorem ok_capS {x : Operand} {a : Option Addr} {len cap : Nat} (hx : e.ev x = some (.slice a len cap)) : OpOK P (.capS x) e w (Just (.int .i64 cap) w) :=
  ok_val fun a hk => by simp [MOp.sem, Env.ok_ev hk hx, goInt]
theorem ok_min2 {x y : Operand} {K K' : IntKind} {i j : Int} (hx : e.ev x = some (.int K i)) (hy : e.ev y = some (.int K' j)) : OpOK P (.min2 x y) e w (Just (.int K (if j < i then j else i)) w) :=
  ok_val fun a hk => by simp [MOp.sem, Env.ok_ev hk hx, Env.ok_ev hk hy]
theorem sliceBound_run {e : Env} {a : Act} (hk : e.ok a.tmps) {x : Operand} {K : IntKind} {j y : Nat} (hx : e.ev x = some (.int K (j : Int))) (hle : j ≤ y) (code : BoundsCode) :
    (Instr.sliceBound (a.eval x) y code).run P w = .ok j w := by
  simp [Instr.sliceBound, Env.ok_ev hk hx, asIntOf, hle]
/-- a part of a slice, from l to h -/
theorem ok_slS {N b o len cap : Nat} {x : Operand} {lo hi : Option Operand} (l h : Nat) (hx : e.ev x = some (.slice (some ⟨b, o, none⟩) len cap))
    (hlo : match lo with | none => l = 0 | some y => ∃ K, e.ev y = some (.int K (l : Int))) (hhi : match hi with | none => h = len | some y => ∃ K, e.ev y = some (.int K (h : Int)))
    (h1 : l ≤ h) (h2 : h ≤ cap) : OpOK P (.slS N x lo hi) e w (Just (.slice (some (if cap = l then ⟨b, o, none⟩ else ⟨b, o + l * N, none⟩)) (h - l) (cap - l)) w) :=
  ok_val fun a hk => by
    have e1 : (Instr.sliceBounds true len cap (lo.map a.eval) (hi.map a.eval) none).run P w = .ok (l, h, cap) w := by
      unfold Instr.sliceBounds
      cases hi with
      | none =>
        simp only at hhi; subst hhi
        cases lo with
        | none => simp only at hlo; subst hlo; simp
        | some y => obtain ⟨K, hy⟩ := hlo; simp [sliceBound_run hk hy h1]
      | some y' =>
        obtain ⟨K', hy'⟩ := hhi
        cases lo with
        | none => simp only at hlo; subst hlo; simp [sliceBound_run hk hy' h2]
        | some y => obtain ⟨K, hy⟩ := hlo; simp [sliceBound_run hk hy' h2, sliceBound_run hk hy h1]
    simp only [MOp.sem, Env.ok_ev hk hx, Sem.run_bind, e1, Result.andThen_ok, Sem.run_pure, Option.map_some, add_mk]
    split <;> rfl
theorem ok_slS_nil {N : Nat} {x : Operand} {lo hi : Option Operand} (hx : e.ev x = some (.slice none 0 0))
    (hlo : match lo with | none => True | some y => ∃ K, e.ev y = some (.int K 0)) (hhi : match hi with | none => True | some y => ∃ K, e.ev y = some (.int K 0)) :
    OpOK P (.slS N x lo hi) e w (Just (.slice none 0 0) w) :=
  ok_val fun a hk => by
    have e1 : (Instr.sliceBounds true 0 0 (lo.map a.eval) (hi.map a.eval) none).run P w = .ok (0, 0, 0) w := by
      unfold Instr.sliceBounds
      cases hi with
      | none =>
        cases lo with
        | none => simp
        | some y => obtain ⟨K, hy⟩ := hlo; simp [sliceBound_run (j := 0) (y := 0) hk hy]
      | some y' =>
        obtain ⟨K', hy'⟩ := hhi
        cases lo with
        | none => simp [sliceBound_run (j := 0) (y := 0) hk hy']
        | some y => obtain ⟨K, hy⟩ := hlo; simp [sliceBound_run (j := 0) (y := 0) hk hy', sliceBound_run (j := 0) (y := 0) hk hy]
    simp only [MOp.sem, Env.ok_ev hk hx, Sem.run_bind, e1, Result.andThen_ok, Sem.run_pure]
    simp
theorem ok_slS_odd {N b o s cap : Nat} {x : Operand} {lo hi : Option Operand} (hx : e.ev x = some (.slice (some ⟨b, o, some s⟩) 0 cap))
    (hlo : match lo with | none => True | some y => ∃ K, e.ev y = some (.int K 0)) (hhi : match hi with | none => True | some y => ∃ K, e.ev y = some (.int K 0)) :
    OpOK P (.slS N x lo hi) e w (Just (.slice (some ⟨b, o, some s⟩) 0 cap) w) :=
  ok_val fun a hk => by
    have e1 : (Instr.sliceBounds true 0 cap (lo.map a.eval) (hi.map a.eval) none).run P w = .ok (0, 0, cap) w := by
      unfold Instr.sliceBounds
      cases hi with
      | none =>
        cases lo with
        | none => simp
        | some y => obtain ⟨K, hy⟩ := hlo; simp [sliceBound_run (j := 0) (y := 0) hk hy]
      | some y' =>
        obtain ⟨K', hy'⟩ := hhi
        cases lo with
        | none => simp [sliceBound_run (j := 0) (y := cap) hk hy' (Nat.zero_le _)]
        | some y => obtain ⟨K, hy⟩ := hlo; simp [sliceBound_run (j := 0) (y := cap) hk hy' (Nat.zero_le _), sliceBound_run (j := 0) (y := 0) hk hy]
    simp only [MOp.sem, Env.ok_ev hk hx, Sem.run_bind, e1, Result.andThen_ok, Sem.run_pure, Option.map_some, Nat.zero_mul, Nat.sub_zero]
    simp [Addr.add]
theorem Mem.at {w : World} {b o : Nat} {cs : List Value} (h : Mem w b o cs) (l h' : Nat) : Mem w b (o + l) ((cs.take h').drop l) := h.sub l fun i v hi => by
  rw [List.getElem?_drop] at hi
  have := (List.getElem?_eq_some_iff.1 hi).1
  rw [List.getElem?_take] at hi
  split at hi
  · exact hi
  · cases hi
/-- a part of a slice that one only reads -/
theorem ok_slSc {N len : Nat} {x : Operand} {v : Value} {cs : List Value} {lo hi : Option Operand} (l h : Nat) (hx : e.ev x = some v) (hs : SlC w v N len cs)
    (hlo : match lo with | none => l = 0 | some y => ∃ K, e.ev y = some (.int K (l : Int))) (hhi : match hi with | none => h = len | some y => ∃ K, e.ev y = some (.int K (h : Int)))
    (h1 : l ≤ h) (h2 : h ≤ len) : OpOK P (.slS N x lo hi) e w fun u W => W = w ∧ SlC w u N (h - l) ((cs.take (h * N)).drop (l * N)) ∧ blkOf u = blkOf v := by
  rcases hs with ⟨rfl | ⟨b, o, s, cap, rfl⟩, rfl, rfl⟩ | ⟨b, o, cap, rfl, hm, hl, hc⟩
  · have hh : h = 0 := by omega
    subst hh
    have hl0 : l = 0 := by omega
    subst hl0
    refine (ok_slS_nil hx (by cases lo <;> simp_all) (by cases hi <;> simp_all)).mono ?_
    rintro u W ⟨rfl, rfl⟩
    exact ⟨rfl, .inl (by simp), rfl⟩
  · have hh : h = 0 := by omega
    subst hh
    have hl0 : l = 0 := by omega
    subst hl0
    refine (ok_slS_odd hx (by cases lo <;> simp_all) (by cases hi <;> simp_all)).mono ?_
    rintro u W ⟨rfl, rfl⟩
    exact ⟨rfl, .inl ⟨.inr ⟨_, _, _, _, rfl⟩, rfl, by simp⟩, rfl⟩
  · refine (ok_slS l h hx hlo hhi h1 (by omega)).mono ?_
    rintro u W ⟨rfl, rfl⟩
    have hN : h * N ≤ len * N := Nat.mul_le_mul_right _ h2
    have hN2 : l * N ≤ h * N := Nat.mul_le_mul_right _ h1
    refine ⟨rfl, .inr ?_, by split <;> rfl⟩
    split
    · rename_i hcl
      have e1 : (cs.take (h * N)).drop (l * N) = [] := List.drop_eq_nil_of_le (by
        have : h = l := by omega
        subst this
        simp; omega)
      rw [e1]
      exact ⟨b, o, _, rfl, fun i v hi => by simp at hi, by rw [show h - l = 0 by omega]; simp, by omega⟩
    · refine ⟨b, o + l * N, _, rfl, hm.at _ _, ?_, by omega⟩
      simp only [List.length_drop, List.length_take, hl]
      rw [Nat.min_eq_left hN, Nat.sub_mul]
/-- the whole of an array, or a part of it -/
theorem ok_slA {L N b o : Nat} {x : Operand} {lo hi : Option Operand} (l h : Nat) (hx : e.ev x = some (.pointer (some ⟨b, o, none⟩)))
    (hlo : match lo with | none => l = 0 | some y => ∃ K, e.ev y = some (.int K (l : Int))) (hhi : match hi with | none => h = L | some y => ∃ K, e.ev y = some (.int K (h : Int)))
    (h1 : l ≤ h) (h2 : h ≤ L) : OpOK P (.slA L N x lo hi) e w (Just (.slice (some (if L = l then ⟨b, o, none⟩ else ⟨b, o + l * N, none⟩)) (h - l) (L - l)) w) :=
  ok_val fun a hk => by
    have e1 : (Instr.sliceBounds false L L (lo.map a.eval) (hi.map a.eval) none).run P w = .ok (l, h, L) w := by
      unfold Instr.sliceBounds
      cases hi with
      | none =>
        simp only at hhi; subst hhi
        cases lo with
        | none => simp only at hlo; subst hlo; simp
        | some y => obtain ⟨K, hy⟩ := hlo; simp [sliceBound_run hk hy h1]
      | some y' =>
        obtain ⟨K', hy'⟩ := hhi
        cases lo with
        | none => simp only at hlo; subst hlo; simp [sliceBound_run hk hy' h2]
        | some y => obtain ⟨K, hy⟩ := hlo; simp [sliceBound_run hk hy' h2, sliceBound_run hk hy h1]
    simp only [MOp.sem, Env.ok_ev hk hx, Instr.sureAddr, Sem.run_bind, Sem.run_pure, e1, Result.andThen_ok, add_mk]
/-! ### aggregates -/
def partsV (e : Env) : List (Nat × Nat × Operand) → Option (List (Nat × Nat × Value))
  | [] => some []
  | (o, s, x) :: r => match e.ev x with
    | some v => match partsV e r with
      | some l => some ((o, s, v) :: l)
      | none => none
    | none => none
theorem partsV_ok {e : Env} {a : Act} (hk : e.ok a.tmps) : ∀ {ps : List (Nat × Nat × Operand)} {l}, partsV e ps = some l → ps.map (fun p => (p.1, p.2.1, a.eval p.2.2)) = l := by
  intro ps
  induction ps with
  | nil => intro l h; simp [partsV] at h; subst h; rfl
  | cons p ps ih =>
    obtain ⟨o, s, x⟩ := p
    intro l h
    simp only [partsV] at h
    cases hx : e.ev x with
    | none => simp [hx] at h
    | some v =>
      cases hr : partsV e ps with
      | none => simp [hx, hr] at h
      | some l' =>
        simp [hx, hr] at h
        subst h
        simp [Env.ok_ev hk hx, ih hr]
theorem ok_mk {z cells : Array Value} {ps : List (Nat × Nat × Operand)} {l : List (Nat × Nat × Value)} (hp : partsV e ps = some l) (hf : fillP z l = some cells) : OpOK P (.mk z ps) e w (Just (.agg cells) w) :=
  ok_val fun a hk => by
    have := partsV_ok hk hp
    simp only [MOp.sem, this, hf, Sem.run_pure]
theorem ok_mkSlice {T : TypeId} {N : Nat} {z cells : Array Value} {ps : List (Nat × Nat × Operand)} {l : List (Nat × Nat × Value)} (hp : partsV e ps = some l) (hf : fillP z l = some cells) :
    OpOK P (.mkSlice T N z ps) e w fun v W => v = .slice (some ⟨w.heap.size, 0, none⟩) N N ∧ W = w.alloc (.cells cells T) :=
  ok_val fun a hk => by
    have := partsV_ok hk hp
    simp only [MOp.sem, this, hf, Sem.run_pure]
    simp [newRow]
theorem foldl_set (cs : List Value) : ∀ (vs : List Value) (j o : Nat) (acc : Array Value), acc.toList = cs → (∀ i, j ≤ i → True) →
    ((vs.zipIdx j).foldl (fun (cs : Array Value) (p : Value × Nat) => cs.setIfInBounds (o + p.2) p.1) acc).toList = (vs.zipIdx j).foldl (fun (cs : List Value) (p : Value × Nat) => cs.set (o + p.2) p.1) cs := by
  intro vs
  induction vs generalizing cs with
  | nil => intro j o acc h _; simpa using h
  | cons v vs ih =>
    intro j o acc h _
    simp only [List.zipIdx_cons, List.foldl_cons]
    exact ih _ (j + 1) o _ (by simp [h]) (fun _ _ => trivial)
theorem foldl_splice : ∀ (vs : List Value) (j o : Nat) (cs : List Value), o + j + vs.length ≤ cs.length →
    (vs.zipIdx j).foldl (fun (cs : List Value) (p : Value × Nat) => cs.set (o + p.2) p.1) cs = splice cs (o + j) vs := by
  intro vs
  induction vs with
  | nil => intro j o cs _; simp [splice]
  | cons v vs ih =>
    intro j o cs h
    simp only [List.length_cons] at h
    simp only [List.zipIdx_cons, List.foldl_cons]
    rw [ih (j + 1) o _ (by simp; omega)]
    rw [show o + (j + 1) = o + j + 1 from by omega]
    exact splice_cons _ _ _ _ (by omega)
/-- parts laid in, as lists -/
theorem fillP_cons {cells : Array Value} {off size : Nat} {v : Value} {rest : List (Nat × Nat × Value)} (hs : v.cells.size = size) (hle : off + size ≤ cells.size) :
    fillP cells ((off, size, v) :: rest) = fillP (splice cells.toList off v.cells.toList).toArray rest := by
  have h1 : ¬ (v.cells.size ≠ size ∨ off + v.cells.size > cells.size) := by
    intro h
    rcases h with h | h
    · exact h hs
    · omega
  simp only [fillP, Bool.or_eq_true, decide_eq_true_eq, h1, if_false]
  congr 1
  rw [← Array.foldl_toList]
  apply Array.toList_inj.1
  have h2 := foldl_set cells.toList v.cells.toList 0 off cells rfl (fun _ _ => trivial)
  have h3 := foldl_splice v.cells.toList 0 off cells.toList (by simp [hs]; omega)
  simp only [Nat.add_zero] at h3
  rw [h3] at h2
  rw [Array.toList_zipIdx]
  exact h2
end
end Go.Sp

namespace Go.Sp
section
variable {P : Program} {n : Nat} {c : Ctx} {D : List Deferred} {is : List Ins} {k : Kont} {e : Env} {w : World}
theorem growBy_le (m : Nat) : ∀ (r x : Nat), x < 2 * m + 192 → Builtin.growBy m r x ≤ 2 * m + 192 := by
  intro r
  induction r with
  | zero => intro x h; simp only [Builtin.growBy]; omega
  | succ r ih =>
    intro x h
    simp only [Builtin.growBy]
    split
    · omega
    · exact ih _ (by omega)
theorem nextslicecap_le {need cap : Nat} (h : cap < need) : Builtin.nextslicecap need cap ≤ 2 * need + 192 := by
  unfold Builtin.nextslicecap
  split
  · omega
  · split
    · omega
    · exact growBy_le _ _ _ (by omega)
theorem firstCells_run {v : Value} {N len m : Nat} {cs : List Value} (h : SlC w v N len cs) (hm : m ≤ len) : (Builtin.firstCells N m v).run P w = .ok ((cs.take (m * N)).toArray) w := by
  rcases h with ⟨rfl | ⟨b, o, s, cap, rfl⟩, rfl, rfl⟩ | ⟨b, o, cap, rfl, hm', hl, hc⟩
  · simp [Builtin.firstCells]
  · have : m = 0 := by omega
    subst this
    simp [Builtin.firstCells, loadCells, loadCellsFrom]
  · have hle : m * N ≤ len * N := Nat.mul_le_mul_right _ hm
    have h2 : Mem w b (o + 0) (cs.take (m * N)) := by
      have := hm'.at 0 (m * N)
      simpa using this
    have := loadCells_run (P := P) (cs.take (m * N)) 0 #[] h2
    rw [List.length_take, hl, Nat.min_eq_left hle] at this
    simp only [Builtin.firstCells, loadCells, this]
    simp
theorem lenOf_run {v : Value} {N len : Nat} {cs : List Value} (h : SlC w v N len cs) : (Builtin.lenOf v).run P w = .ok len w := by
  rcases h with ⟨rfl | ⟨b, o, s, cap, rfl⟩, rfl, rfl⟩ | ⟨b, o, cap, rfl, hm', hl, hc⟩ <;> simp [Builtin.lenOf]
/-- append: onto a slice of one's own -/
theorem ok_append {T : TypeId} {N bytes : Nat} {z : Array Value} {s x : Operand} {sv xv : Value} {l1 l2 : Nat} {cs1 cs2 : List Value} (hs : e.ev s = some sv) (hx : e.ev x = some xv)
    (h1 : OwnC w sv N l1 cs1) (h2 : SlC w xv N l2 cs2) (hz : z.size = N) (hb0 : 0 < bytes) (hb : (2 * (l1 + l2) + 192) * bytes ≤ 2 ^ 48) (hcv : cs2.all cellValue = true) :
    OpOK P (.append T N bytes z s x) e w fun v W => OwnC W v N (l1 + l2) (cs1 ++ cs2) ∧ Upd (blkOf sv) w W ∧ (∀ b ∈ blkOf v, b ∈ blkOf sv ∨ w.heap.size ≤ b) ∧ (∀ b ∈ blkOf v, b < W.heap.size) := by
  intro a hk rd d next Q hn
  simp only [MOp.sem, Env.ok_ev hk hs, Env.ok_ev hk hx, Sem.run_bind]
  suffices ∃ v W, (appendTo T N bytes z sv xv).run P w = .ok v W ∧ OwnC W v N (l1 + l2) (cs1 ++ cs2) ∧ Upd (blkOf sv) w W ∧ (∀ b ∈ blkOf v, b ∈ blkOf sv ∨ w.heap.size ≤ b) by
    obtain ⟨v, W, hr, h3, h4, h5⟩ := this
    simp only [hr, Result.andThen_ok, Sem.run_pure]
    exact hn v W ⟨h3, h4, h5, h3.lt⟩
  have hc2 := h2.len
  have hc1 := h1.len
  have fit : ∀ (base : Option Addr) (cap : Nat), sv = .slice base l1 cap → l1 + l2 ≤ cap → (∀ a, base = some a → a.spot = none) → ∃ v W, (appendTo T N bytes z sv xv).run P w = .ok v W ∧ OwnC W v N (l1 + l2) (cs1 ++ cs2) ∧ Upd (blkOf sv) w W ∧ (∀ b ∈ blkOf v, b ∈ blkOf sv ∨ w.heap.size ≤ b) := by
    intro base cap hsv hle hsp
    subst hsv
    rcases h1 with ⟨h, h', h''⟩ | ⟨b, cap', rest, hv, hB, hl, hl2, hcap⟩
    · cases h
      have : l2 = 0 := by omega
      subst this
      refine ⟨.slice none 0 0, w, ?_, .inl ⟨by simp, by simp, ?_⟩, Upd.refl _ _, by simp [blkOf]⟩
      · simp [appendTo, lenOf_run h2, firstCells_run (m := 0) h2 (by omega)]
      · have : cs2 = [] := List.length_eq_zero_iff.1 (by rw [hc2]; simp)
        simp [h'', this]
    · cases hv
      have hN : (l1 + l2) * N ≤ cap * N := Nat.mul_le_mul_right _ hle
      have hN' : (l1 + l2) * N = l1 * N + l2 * N := Nat.add_mul _ _ _
      obtain ⟨W, hr, hu, hsz, hB'⟩ := storeCells_run (P := P) (o := l1 * N) cs2 0 w (cs1 ++ rest) hB (by rw [hl2, hc2]; omega) hcv
      have e1 : splice (cs1 ++ rest) (l1 * N + 0) cs2 = cs1 ++ cs2 ++ rest.drop (l2 * N) := by
        have t1 : (cs1 ++ rest).take (l1 * N) = cs1 := by rw [← hc1]; simp
        have t2 : (cs1 ++ rest).drop (l1 * N + l2 * N) = rest.drop (l2 * N) := by rw [← hc1]; rw [List.drop_append]; simp
        simp only [splice, Nat.add_zero, hc2, t1, t2]
      rw [e1] at hB'
      have ht : cs2.take (l2 * N) = cs2 := List.take_of_length_le (by omega)
      refine ⟨.slice (some ⟨b, 0, none⟩) (l1 + l2) cap, W, ?_, .inr ⟨b, cap, rest.drop (l2 * N), rfl, hB', by simp [hc1, hc2, hN'], ?_, hle⟩, hu, by simp [blkOf]⟩
      · simp only [appendTo, Sem.run_bind, lenOf_run h2, Result.andThen_ok, hle, if_true, Sem.run_pure, firstCells_run h2 (Nat.le_refl _), ht, add_mk, Nat.zero_add, hr]
      · simp only [List.length_append, List.length_drop] at hl2 ⊢
        omega
  have grow : ∀ (base : Option Addr) (cap : Nat), sv = .slice base l1 cap → ¬ l1 + l2 ≤ cap → ∃ v W, (appendTo T N bytes z sv xv).run P w = .ok v W ∧ OwnC W v N (l1 + l2) (cs1 ++ cs2) ∧ Upd (blkOf sv) w W ∧ (∀ b ∈ blkOf v, b ∈ blkOf sv ∨ w.heap.size ≤ b) := by
    intro base cap hsv hle
    have hcapn := nextslicecap_le (need := l1 + l2) (cap := cap) (by omega)
    have hbb : ¬ Builtin.nextslicecap (l1 + l2) cap * bytes > 2 ^ 48 := by
      have := Nat.mul_le_mul_right bytes hcapn
      omega
    have hb1 : ¬ bytes = 0 := by omega
    obtain ⟨nc, hnc⟩ : ∃ nc, Question.cut (.appendCap (l1 + l2) cap T) (w.tape w.drawn (.appendCap (l1 + l2) cap T)) = nc := ⟨_, rfl⟩
    have hge : l1 + l2 ≤ nc := by rw [← hnc]; simp [Question.cut]
    have hf1 := firstCells_run (P := P) (m := l1) h1.sl (Nat.le_refl _)
    have hf2 := firstCells_run (P := P) (m := l2) h2 (Nat.le_refl _)
    have t1 : cs1.take (l1 * N) = cs1 := List.take_of_length_le (by omega)
    have t2 : cs2.take (l2 * N) = cs2 := List.take_of_length_le (by omega)
    have hd1 : SlC w.drew sv N l1 cs1 := h1.sl.upd (Upd.drew [] w _) (by simp)
    have hd2 : SlC w.drew xv N l2 cs2 := h2.upd (Upd.drew [] w _) (by simp)
    have hf1 := firstCells_run (P := P) (m := l1) hd1 (Nat.le_refl _)
    have hf2 := firstCells_run (P := P) (m := l2) hd2 (Nat.le_refl _)
    rw [t1] at hf1
    rw [t2] at hf2
    subst hsv
    obtain ⟨ZL, hZ⟩ : ∃ l : List Value, Builtin.zeroCells z (nc - (l1 + l2)) = l.toArray := ⟨_, Array.toArray_toList.symm⟩
    have hZl : ZL.length = (nc - (l1 + l2)) * N := by
      have : (Builtin.zeroCells z (nc - (l1 + l2))).size = ZL.length := by rw [hZ]; simp
      rw [← this]; simp [Builtin.zeroCells, hz]
    have hrun : (appendTo T N bytes z (.slice base l1 cap) xv).run P w = .ok (.slice (some ⟨w.heap.size, 0, none⟩) (l1 + l2) nc) (w.drew.alloc (.cells (cs1 ++ cs2 ++ ZL).toArray T)) := by
      simp only [appendTo, Sem.run_bind, lenOf_run h2, Result.andThen_ok, hle, if_false, Sem.run_pure, hb1, and_false, hbb, Sem.run_ite]
      simp [hnc, Question.forced, hf1, hf2, newRow, hZ]
    refine ⟨_, _, hrun, .inr ⟨w.heap.size, nc, ZL, rfl, ?_, by simp [hc1, hc2, Nat.add_mul], ?_, hge⟩, ?_, by simp [blkOf]⟩
    · exact alloc_blk w.drew (cs1 ++ cs2 ++ ZL) T
    · have e3 : nc * N = (l1 + l2) * N + (nc - (l1 + l2)) * N := by rw [← Nat.add_mul]; congr 1; omega
      simp [hc1, hc2, hZl, e3, Nat.add_mul]; omega
    · exact ((Upd.drew [] w _).trans (Upd.alloc [] _ _)).mono (by simp)
  rcases h1 with ⟨h, h', h''⟩ | ⟨b, cap', rest, hv, hB, hl, hl2, hcap⟩
  · by_cases hle : l1 + l2 ≤ 0
    · exact fit none 0 (by rw [h, h']) hle (by simp)
    · exact grow none 0 (by rw [h, h']) hle
  · by_cases hle : l1 + l2 ≤ cap'
    · exact fit _ cap' hv hle (by simp)
    · exact grow _ cap' hv hle
/-- copy(d, s): d's block is written, from where d begins -/
theorem ok_copy {N : Nat} {s x : Operand} {b o dl dcap l2 : Nat} {xv : Value} {cs cs2 : List Value} (hs : e.ev s = some (.slice (some ⟨b, o, none⟩) dl dcap)) (hx : e.ev x = some xv)
    (hB : Blk w b cs) (hle : o + dl * N ≤ cs.length) (h2 : SlC w xv N l2 cs2) (hcv : cs2.all cellValue = true) :
    OpOK P (.copy N s x) e w fun v W => v = .int .i64 ((min l2 dl : Nat) : Int) ∧ Upd [b] w W ∧ W.heap.size = w.heap.size ∧ Blk W b (splice cs o (cs2.take (min l2 dl * N))) := by
  intro a hk rd d next Q hn
  have hm : min l2 dl ≤ l2 := Nat.min_le_left _ _
  have hm2 : min l2 dl ≤ dl := Nat.min_le_right _ _
  have hN : min l2 dl * N ≤ l2 * N := Nat.mul_le_mul_right _ hm
  have hN2 : min l2 dl * N ≤ dl * N := Nat.mul_le_mul_right _ hm2
  have hc2 := h2.len
  have hcv2 : (cs2.take (min l2 dl * N)).all cellValue = true := by
    rw [List.all_eq_true] at hcv ⊢
    exact fun v hv => hcv v (List.mem_of_mem_take hv)
  obtain ⟨W, hr, hu, hsz, hB'⟩ := storeCells_run (P := P) (o := o) (cs2.take (min l2 dl * N)) 0 w cs hB (by rw [List.length_take]; omega) hcv2
  have hf := firstCells_run (P := P) (m := min l2 dl) h2 hm
  simp only [MOp.sem, Env.ok_ev hk hs, Env.ok_ev hk hx, Sem.run_bind, lenOf_run h2, Result.andThen_ok, show Nat.min l2 dl = min l2 dl from rfl, hf, hr, Sem.run_pure, goInt]
  exact hn _ W ⟨rfl, hu, hsz, hB'⟩
end
end Go.Sp

namespace Go.Sp
set_option linter.unusedSectionVars false
section
variable {α β : Type} [DecidableEq α]
def aget (a : α) : List (α × β) → Option β
  | [] => none
  | p :: l => if p.1 = a then some p.2 else aget a l
def aset (a : α) (b : β) : List (α × β) → List (α × β)
  | [] => [(a, b)]
  | p :: l => if p.1 = a then (a, b) :: l else p :: aset a b l
def adel (a : α) : List (α × β) → List (α × β)
  | [] => []
  | p :: l => if p.1 = a then l else p :: adel a l
def aidx (a : α) : List (α × β) → Option Nat
  | [] => none
  | p :: l => if p.1 = a then some 0 else (aidx a l).map (· + 1)
def keys (l : List (α × β)) : List α := l.map Prod.fst
theorem aget_none {a : α} {l : List (α × β)} : aget a l = none ↔ a ∉ keys l := by
  induction l with
  | nil => simp [aget, keys]
  | cons p l ih =>
    simp only [aget, keys, List.map_cons, List.mem_cons, not_or]
    split
    · rename_i h; simp [h]
    · rename_i h; rw [ih]; simp [keys, Ne.symm h]
theorem aget_mem {a : α} {b : β} {l : List (α × β)} (h : aget a l = some b) : (a, b) ∈ l := by
  induction l with
  | nil => simp [aget] at h
  | cons p l ih =>
    simp only [aget] at h
    split at h
    · rename_i hp; cases h; rw [← hp]; exact List.mem_cons_self
    · exact List.mem_cons_of_mem _ (ih h)
theorem mem_aget {a : α} {b : β} {l : List (α × β)} (hn : (keys l).Nodup) (h : (a, b) ∈ l) : aget a l = some b := by
  induction l with
  | nil => simp at h
  | cons p l ih =>
    simp only [keys, List.map_cons, List.nodup_cons] at hn
    simp only [aget]
    rcases List.mem_cons.1 h with h | h
    · rw [← h]; simp
    · rw [if_neg (fun e => hn.1 (by rw [e]; exact List.mem_map.2 ⟨_, h, rfl⟩))]
      exact ih hn.2 h
theorem aget_set {a c : α} {b : β} {l : List (α × β)} : aget c (aset a b l) = if c = a then some b else aget c l := by
  induction l with
  | nil => simp only [aset, aget]; by_cases h : c = a <;> simp [h, Ne.symm, eq_comm (a := a)]
  | cons p l ih =>
    simp only [aset]
    split
    · rename_i h
      simp only [aget]
      split
      · rename_i h2; rw [if_pos h2.symm]
      · rename_i h2; rw [if_neg (fun e => h2 e.symm), if_neg (by rw [h]; exact h2)]
    · rename_i h
      simp only [aget, ih]
      split
      · rename_i h2; rw [if_neg (by rw [← h2]; exact h)]
      · rfl
theorem keys_set {a : α} {b : β} {l : List (α × β)} (x : α) : x ∈ keys (aset a b l) ↔ x = a ∨ x ∈ keys l := by
  have h1 := aget_none (a := x) (l := aset a b l)
  have h2 := aget_none (a := x) (l := l)
  rw [aget_set] at h1
  by_cases hx : x = a
  · simp only [hx, if_true] at h1 ⊢
    simp at h1
    simpa using h1
  · rw [if_neg hx] at h1
    have := h1.symm.trans h2
    simp only [hx, false_or]
    exact Decidable.not_iff_not.1 this
theorem nodup_set {a : α} {b : β} {l : List (α × β)} (hn : (keys l).Nodup) : (keys (aset a b l)).Nodup := by
  induction l with
  | nil => simp [aset, keys]
  | cons p l ih =>
    have hn' := hn
    simp only [keys, List.map_cons, List.nodup_cons] at hn
    simp only [aset]
    split
    · rename_i h; simp only [keys, List.map_cons, List.nodup_cons]; rw [← h]; exact hn
    · rename_i h
      simp only [keys, List.map_cons, List.nodup_cons]
      refine ⟨fun hm => ?_, ih hn.2⟩
      rcases (keys_set (l := l) p.1).1 hm with h' | h'
      · exact h h'
      · exact hn.1 h'
theorem keys_del_sub {a x : α} {l : List (α × β)} (h : x ∈ keys (adel a l)) : x ∈ keys l := by
  induction l with
  | nil => exact h
  | cons p l ih =>
    simp only [adel] at h
    split at h
    · exact List.mem_cons_of_mem _ h
    · simp only [keys, List.map_cons, List.mem_cons] at h ⊢
      exact h.imp id ih
theorem nodup_del {a : α} {l : List (α × β)} (hn : (keys l).Nodup) : (keys (adel a l)).Nodup := by
  induction l with
  | nil => exact hn
  | cons p l ih =>
    simp only [keys, List.map_cons, List.nodup_cons] at hn
    simp only [adel]
    split
    · exact hn.2
    · simp only [keys, List.map_cons, List.nodup_cons]
      exact ⟨fun h => hn.1 (keys_del_sub h), ih hn.2⟩
theorem aget_del {a c : α} {l : List (α × β)} (hn : (keys l).Nodup) : aget c (adel a l) = if c = a then none else aget c l := by
  induction l with
  | nil => simp [adel, aget]
  | cons p l ih =>
    simp only [keys, List.map_cons, List.nodup_cons] at hn
    simp only [adel]
    split
    · rename_i h
      by_cases hc : c = a
      · rw [if_pos hc, aget_none, hc, ← h]; exact hn.1
      · rw [if_neg hc]; simp only [aget]; rw [if_neg (by rw [h]; exact fun e => hc e.symm)]
    · rename_i h
      simp only [aget, ih hn.2]
      split
      · rename_i h2; rw [if_neg (by rw [← h2]; exact h)]
      · rfl
theorem aidx_none {a : α} {l : List (α × β)} : aidx a l = none ↔ a ∉ keys l := by
  induction l with
  | nil => simp [aidx, keys]
  | cons p l ih =>
    simp only [aidx, keys, List.map_cons, List.mem_cons, not_or]
    split
    · rename_i h; simp [h]
    · rename_i h; simp only [Option.map_eq_none_iff, ih]; simp [keys, Ne.symm h]
theorem aidx_get {a : α} {l : List (α × β)} {i : Nat} (h : aidx a l = some i) : ∃ b, l[i]? = some (a, b) ∧ aget a l = some b := by
  induction l generalizing i with
  | nil => simp [aidx] at h
  | cons p l ih =>
    simp only [aidx] at h
    split at h
    · rename_i hp
      cases h
      refine ⟨p.2, by rw [← hp]; rfl, by simp [aget, hp]⟩
    · rename_i hp
      simp only [Option.map_eq_some_iff] at h
      obtain ⟨j, hj, rfl⟩ := h
      obtain ⟨b, h1, h2⟩ := ih hj
      exact ⟨b, by simpa using h1, by simp [aget, hp, h2]⟩
theorem aset_some {a : α} {b : β} {l : List (α × β)} {i : Nat} (h : aidx a l = some i) : aset a b l = l.set i (a, b) := by
  induction l generalizing i with
  | nil => simp [aidx] at h
  | cons p l ih =>
    simp only [aidx] at h
    simp only [aset]
    split at h
    · rename_i hp; cases h; simp [hp]
    · rename_i hp
      simp only [Option.map_eq_some_iff] at h
      obtain ⟨j, hj, rfl⟩ := h
      simp [hp, ih hj]
theorem aset_new {a : α} {b : β} {l : List (α × β)} (h : aidx a l = none) : aset a b l = l ++ [(a, b)] := by
  induction l with
  | nil => rfl
  | cons p l ih =>
    simp only [aidx] at h
    split at h
    · cases h
    · rename_i hp
      simp only [Option.map_eq_none_iff] at h
      simp [aset, hp, ih h]
theorem adel_some {a : α} {l : List (α × β)} {i : Nat} (h : aidx a l = some i) : adel a l = l.eraseIdx i := by
  induction l generalizing i with
  | nil => simp [aidx] at h
  | cons p l ih =>
    simp only [aidx] at h
    simp only [adel]
    split at h
    · rename_i hp; cases h; simp [hp]
    · rename_i hp
      simp only [Option.map_eq_some_iff] at h
      obtain ⟨j, hj, rfl⟩ := h
      simp [hp, ih hj]
theorem adel_none {a : α} {l : List (α × β)} (h : aidx a l = none) : adel a l = l := by
  induction l with
  | nil => rfl
  | cons p l ih =>
    simp only [aidx] at h
    split at h
    · cases h
    · rename_i hp
      simp only [Option.map_eq_none_iff] at h
      simp [adel, hp, ih h]
end
/-- keys of type K: they can be told apart -/
structure KeyOK {α : Type} [DecidableEq α] (P : Program) (K : TypeId) (enc : α → Value) : Prop where
  check : ∀ em a w, (Instr.checkKey em 10000 K (enc a)).run P w = .ok () w
  stays : ∀ a w, (Instr.keyThatStays (enc a) (enc a)).run P w = .ok (enc a) w
  find : ∀ {β : Type} (a : α) (es : List MapEntry) (l : List (α × β)) w, es.map (·.key) = l.map (fun p => enc p.1) →
    (Instr.findKey K (enc a) es).run P w = .ok ((aidx a l).bind fun i => (es[i]?).map fun e => (i, e.val)) w
/-- the map r holds just these -/
def MapAt {α β : Type} (w : World) (r : Nat) (enc : α → Value) (encV : β → Value) (l : List (α × β)) : Prop :=
  ∃ es clock, w.heap[r]? = some (.map es clock) ∧ es.toList.map (fun e => (e.key, e.val)) = l.map (fun p => (enc p.1, encV p.2)) ∧ (keys l).Nodup ∧ es.toList.Pairwise (fun a b => a.born < b.born) ∧ ∀ e ∈ es.toList, e.born < clock
section
variable {α β : Type} {enc : α → Value} {encV : β → Value} {r : Nat} {w w' : World} {l : List (α × β)}
theorem MapAt.lt (h : MapAt w r enc encV l) : r < w.heap.size := by
  obtain ⟨es, clock, h, _⟩ := h
  exact (Array.getElem?_eq_some_iff.1 h).1
theorem MapAt.upd {ls : List Nat} (h : MapAt w r enc encV l) (hu : Upd ls w w') (hl : r ∉ ls := by simp) : MapAt w' r enc encV l := by
  have hb := h.lt
  obtain ⟨es, clock, h, h2⟩ := h
  exact ⟨es, clock, (hu.block r hb hl).trans h, h2⟩
theorem MapAt.nodup (h : MapAt w r enc encV l) : (keys l).Nodup := by
  obtain ⟨es, clock, h, h1, h2, _⟩ := h
  exact h2
theorem MapAt.empty (h : w.heap[r]? = some (.map #[] 0)) : MapAt w r enc encV ([] : List (α × β)) := ⟨#[], 0, h, by simp, by simp [keys], by simp, by simp⟩
end
section
variable {P : Program} {n : Nat} {c : Ctx} {D : List Deferred} {is : List Ins} {k : Kont} {e : Env} {w : World} {α β : Type} [DecidableEq α] {enc : α → Value} {encV : β → Value} {r : Nat} {l : List (α × β)} {K : TypeId}
theorem map_keys {es : Array MapEntry} (h : es.toList.map (fun e => (e.key, e.val)) = l.map (fun p => (enc p.1, encV p.2))) : es.toList.map (·.key) = l.map (fun p => enc p.1) := by
  have := congrArg (List.map Prod.fst) h
  simpa [List.map_map, Function.comp_def] using this
theorem map_at {es : Array MapEntry} (h : es.toList.map (fun e => (e.key, e.val)) = l.map (fun p => (enc p.1, encV p.2))) {i : Nat} {a : α} {b : β} (hi : l[i]? = some (a, b)) :
    ∃ x, es.toList[i]? = some x ∧ x.key = enc a ∧ x.val = encV b := by
  have h1 : (es.toList.map (fun e => (e.key, e.val)))[i]? = some (enc a, encV b) := by rw [h]; simp [hi]
  rw [List.getElem?_map] at h1
  cases hx : es.toList[i]? with
  | none => simp [hx] at h1
  | some x => simp [hx] at h1; exact ⟨x, rfl, h1.1, h1.2⟩
/-- looking up -/
theorem ok_lookup {x y : Operand} {a : α} {z : Value} {ok : Bool} (hk : KeyOK P K enc) (hx : e.ev x = some (.map (some r))) (hy : e.ev y = some (enc a)) (hm : MapAt w r enc encV l) :
    OpOK P (.lookup K z x y ok) e w (Just (if ok then .tuple #[((aget a l).map encV).getD z, .bool (aget a l).isSome] else ((aget a l).map encV).getD z) w) :=
  ok_val fun ac hke => by
    obtain ⟨es, clock, h1, h2, h3, h4, h5⟩ := hm
    have hf := hk.find a es.toList l w (map_keys h2)
    have hg : (getObj r).run P w = .ok (.map es clock) w := by simp [getObj, Sem.run, h1]
    simp only [MOp.sem, Env.ok_ev hke hx, Env.ok_ev hke hy, Sem.run_bind, hg, Result.andThen_ok, Sem.run_pure, hk.check, hf]
    cases hi : aidx a l with
    | none => simp [aget_none.2 (aidx_none.1 hi)]
    | some i =>
      obtain ⟨b, h6, h7⟩ := aidx_get hi
      obtain ⟨x', h8, h9, h10⟩ := map_at h2 h6
      rw [Array.getElem?_toList] at h8
      simp [h8, h7, h10]
theorem setObj_run {P : Program} {w : World} {r : Nat} {es : Array MapEntry} {clock : Nat} (h : w.heap[r]? = some (.map es clock)) (o : Obj) : (setObj r o).run P w = .ok () (w.putObj r o) := by
  simp [setObj, Sem.run, h, World.putObj]
theorem map_put {es es' : Array MapEntry} {clock clock' : Nat} {l' : List (α × β)} (h : w.heap[r]? = some (.map es clock)) (h2 : es'.toList.map (fun e => (e.key, e.val)) = l'.map (fun p => (enc p.1, encV p.2)))
    (h3 : (keys l').Nodup) (h4 : es'.toList.Pairwise (fun a b => a.born < b.born)) (h5 : ∀ e ∈ es'.toList, e.born < clock') : MapAt (w.putObj r (.map es' clock')) r enc encV l' :=
  ⟨es', clock', World.putObj_heap_same (Array.getElem?_eq_some_iff.1 h).1, h2, h3, h4, h5⟩
/-- laying in -/
theorem mapUpdate_run {a : α} {b : β} (hk : KeyOK P K enc) (hm : MapAt w r enc encV l) : ∃ w', (mapUpdate' K (.map (some r)) (enc a) (encV b)).run P w = .ok () w' ∧ Upd [r] w w' ∧ w'.heap.size = w.heap.size ∧ MapAt w' r enc encV (aset a b l) := by
  obtain ⟨es, clock, h1, h2, h3, h4, h5⟩ := hm
  have hf := hk.find a es.toList l w (map_keys h2)
  have hg : (getObj r).run P w = .ok (.map es clock) w := by simp [getObj, Sem.run, h1]
  cases hi : aidx a l with
  | none =>
    rw [hi] at hf
    simp only [Option.bind_none] at hf
    refine ⟨w.putObj r (.map (es.push { key := enc a, val := encV b, born := clock }) (clock + 1)), ?_, putObj_upd _ _ _, by simp, map_put h1 ?_ (nodup_set h3) ?_ ?_⟩
    · simp only [mapUpdate', Sem.run_bind, hg, Result.andThen_ok, hk.check, hf, setObj_run h1]
    · rw [aset_new hi]; simp [h2]
    · simp only [Array.toList_push, List.pairwise_append]
      exact ⟨h4, by simp, fun x hx y hy => by simp at hy; subst hy; exact h5 x hx⟩
    · intro x hx
      simp only [Array.toList_push, List.mem_append, List.mem_singleton] at hx
      rcases hx with hx | rfl
      · have := h5 x hx; omega
      · simp
  | some i =>
    obtain ⟨b0, h6, h7⟩ := aidx_get hi
    obtain ⟨x, h8, h9, h10⟩ := map_at h2 h6
    rw [hi] at hf
    simp only [Option.bind_some, h8, Option.map_some] at hf
    have h8' := h8
    rw [Array.getElem?_toList] at h8'
    obtain ⟨hlt, hx⟩ := Array.getElem?_eq_some_iff.1 h8'
    have hmod : (es.modify i fun e => { e with key := enc a, val := encV b }).toList = es.toList.set i { x with key := enc a, val := encV b } := by
      apply List.ext_getElem?
      intro j
      rw [Array.getElem?_toList, Array.getElem?_modify, List.getElem?_set, Array.getElem?_toList]
      by_cases hj : i = j
      · subst hj; simp [hlt, hx]
      · simp [hj]
    refine ⟨w.putObj r (.map (es.modify i fun e => { e with key := enc a, val := encV b }) clock), ?_, putObj_upd _ _ _, by simp, map_put h1 ?_ (nodup_set h3) ?_ ?_⟩
    · simp only [mapUpdate', Sem.run_bind, hg, Result.andThen_ok, hk.check, hf, h8', Option.map_some, Option.getD_some, h9, hk.stays, setObj_run h1]
    · rw [aset_some hi, hmod, List.map_set, h2, List.map_set]
    · rw [hmod]
      have e1 : (es.toList.set i { x with key := enc a, val := encV b }).map (·.born) = es.toList.map (·.born) := by
        rw [List.map_set]
        apply List.ext_getElem?
        intro j
        rw [List.getElem?_set]
        split
        · rename_i hj; subst hj
          simp [h8', hlt, hx]
        · rfl
      have h4' : (es.toList.map (·.born)).Pairwise (· < ·) := List.pairwise_map.2 h4
      rw [← e1] at h4'
      exact List.pairwise_map.1 h4'
    · intro y hy
      rw [hmod] at hy
      rcases List.mem_or_eq_of_mem_set hy with hy | rfl
      · exact h5 y hy
      · exact h5 x (List.mem_of_getElem? h8)
theorem exec_mapUpd {x y z : Operand} {a : α} {b : β} (hk : KeyOK P K enc) (hx : e.ev x = some (.map (some r))) (hy : e.ev y = some (enc a)) (hz : e.ev z = some (encV b)) (hm : MapAt w r enc encV l)
    (next : ∀ w', Upd [r] w w' → w'.heap.size = w.heap.size → MapAt w' r enc encV (aset a b l) → Exec P n c D is k e w') : Exec P n c D (.op none none (.mapUpd K x y z) :: is) k e w := by
  obtain ⟨w', hr, hu, hs, hm'⟩ := mapUpdate_run (P := P) (a := a) (b := b) hk hm
  refine exec_skip (w' := w') (fun ac hke => ?_) (next w' hu hs hm')
  simp only [MOp.sem, Env.ok_ev hke hx, Env.ok_ev hke hy, Env.ok_ev hke hz, Sem.run_bind, hr, Result.andThen_ok, Sem.run_pure]
/-- deleting -/
theorem delete_run {x y : Operand} {a : α} (hk : KeyOK P K enc) (hx : e.ev x = some (.map (some r))) (hy : e.ev y = some (enc a)) (hm : MapAt w r enc encV l) :
    ∃ w', (∀ ac : Act, e.ok ac.tmps → ((MOp.delete K x y).sem ac.eval).run P w = .ok (.value (.tuple #[])) w') ∧ Upd [r] w w' ∧ w'.heap.size = w.heap.size ∧ MapAt w' r enc encV (adel a l) := by
  obtain ⟨es, clock, h1, h2, h3, h4, h5⟩ := hm
  have hf := hk.find a es.toList l w (map_keys h2)
  have hg : (getObj r).run P w = .ok (.map es clock) w := by simp [getObj, Sem.run, h1]
  cases hi : aidx a l with
  | none =>
    rw [hi] at hf
    simp only [Option.bind_none] at hf
    refine ⟨w.putObj r (.map es clock), fun ac hke => ?_, putObj_upd _ _ _, by simp, map_put h1 (by rw [adel_none hi]; exact h2) (nodup_del h3) h4 h5⟩
    simp only [MOp.sem, Env.ok_ev hke hx, Env.ok_ev hke hy, Sem.run_bind, hg, Result.andThen_ok, hk.check, hf, setObj_run h1, Sem.run_pure]
  | some i =>
    obtain ⟨b0, h6, h7⟩ := aidx_get hi
    obtain ⟨x', h8, h9, h10⟩ := map_at h2 h6
    rw [hi] at hf
    simp only [Option.bind_some, h8, Option.map_some] at hf
    have hlt : i < es.size := by
      have := (List.getElem?_eq_some_iff.1 h8).1
      simpa using this
    have he : (es.eraseIdxIfInBounds i).toList = es.toList.eraseIdx i := by simp [Array.eraseIdxIfInBounds, hlt]
    refine ⟨w.putObj r (.map (es.eraseIdxIfInBounds i) clock), fun ac hke => ?_, putObj_upd _ _ _, by simp, map_put h1 ?_ (nodup_del h3) ?_ ?_⟩
    · simp only [MOp.sem, Env.ok_ev hke hx, Env.ok_ev hke hy, Sem.run_bind, hg, Result.andThen_ok, hk.check, hf, setObj_run h1, Sem.run_pure]
    · rw [adel_some hi, he]; simp only [List.eraseIdx_eq_take_drop_succ, List.map_append, List.map_take, List.map_drop, h2]
    · rw [he]; exact h4.sublist (List.eraseIdx_sublist _ _)
    · rw [he]; exact fun y hy => h5 y ((List.eraseIdx_sublist _ _).subset hy)
theorem exec_delete {x y : Operand} {a : α} (hk : KeyOK P K enc) (hx : e.ev x = some (.map (some r))) (hy : e.ev y = some (enc a)) (hm : MapAt w r enc encV l)
    (next : ∀ w', Upd [r] w w' → w'.heap.size = w.heap.size → MapAt w' r enc encV (adel a l) → Exec P n c D is k e w') : Exec P n c D (.op none none (.delete K x y) :: is) k e w := by
  obtain ⟨w', hr, hu, hs, hm'⟩ := delete_run (P := P) (e := e) hk hx hy hm
  refine .intro fun ac hn hke hd => ?_
  have := (next w' hu hs hm').run ac hn hke hd
  simp only [denL, denI, stepOp, gOK, if_true, hr ac hke]
  exact this
/-! ### ranging over a map -/
/-- an iterator at it over the map r; the keys 'rem' are still to come, and this pair came last -/
def IterAt (w : World) (it r : Nat) (enc : α → Value) (encV : β → Value) (l : List (α × β)) (rem : List α) (last : Option (α × β)) : Prop :=
  ∃ es clock seen, w.heap[r]? = some (.map es clock) ∧ es.toList.map (fun e => (e.key, e.val)) = l.map (fun p => (enc p.1, encV p.2)) ∧ (keys l).Nodup ∧ es.toList.Pairwise (fun a b => a.born < b.born) ∧ (∀ e ∈ es.toList, e.born < clock) ∧
    w.heap[it]? = some (.mapIter (some r) clock seen clock) ∧ (∀ (i : Nat) x p, es.toList[i]? = some x → l[i]? = some p → (p.1 ∈ rem ↔ x.born ∉ seen)) ∧ (∀ a ∈ rem, a ∈ keys l) ∧ rem.Nodup ∧
    (∀ p, last = some p → ∃ st x, seen.back? = some st ∧ x ∈ es.toList ∧ x.born = st ∧ x.key = enc p.1 ∧ x.val = encV p.2)
theorem IterAt.map {it : Nat} {rem : List α} {last : Option (α × β)} (h : IterAt w it r enc encV l rem last) : MapAt w r enc encV l := by
  obtain ⟨es, clock, seen, h1, h2, h3, h4, h5, _⟩ := h
  exact ⟨es, clock, h1, h2, h3, h4, h5⟩
theorem IterAt.upd {w' : World} {it : Nat} {rem : List α} {last : Option (α × β)} {ls : List Nat} (h : IterAt w it r enc encV l rem last) (hu : Upd ls w w') (hl : r ∉ ls) (hl2 : it ∉ ls) : IterAt w' it r enc encV l rem last := by
  obtain ⟨es, clock, seen, h1, h2, h3, h4, h5, h6, h7⟩ := h
  exact ⟨es, clock, seen, (hu.block r (Array.getElem?_eq_some_iff.1 h1).1 hl).trans h1, h2, h3, h4, h5, (hu.block it (Array.getElem?_eq_some_iff.1 h6).1 hl2).trans h6, h7⟩
theorem IterAt.lt {it : Nat} {rem : List α} {last : Option (α × β)} (h : IterAt w it r enc encV l rem last) : it < w.heap.size := by
  obtain ⟨es, clock, seen, h1, h2, h3, h4, h5, h6, h7⟩ := h
  exact (Array.getElem?_eq_some_iff.1 h6).1
theorem exec_range {x : Operand} {d : Nat} (hx : e.ev x = some (.map (some r))) (hd : Nat.blt d n = true) (hm : MapAt w r enc encV l)
    (next : ∀ it w', it = w.heap.size → w'.heap.size = w.heap.size + 1 → Ext w w' → IterAt w' it r enc encV l (keys l) none → Exec P n c D is k ((d, .pointer (some ⟨it, 0, none⟩)) :: e) w') :
    Exec P n c D (.op none (some d) (.range x) :: is) k e w := by
  obtain ⟨es, clock, h1, h2, h3, h4, h5⟩ := hm
  have hg : (getObj r).run P w = .ok (.map es clock) w := by simp [getObj, Sem.run, h1]
  refine exec_val (w' := w.alloc (.mapIter (some r) clock #[] clock)) hd (fun a hk => by simp [MOp.sem, Env.ok_ev hk hx, hg]) (next _ _ rfl (by simp) (Upd.alloc _ _ _) ?_)
  refine ⟨es, clock, #[], ?_, h2, h3, h4, h5, ?_, ?_, fun a ha => ha, h3, by simp⟩
  · exact ((Upd.alloc [] w _).block r (Array.getElem?_eq_some_iff.1 h1).1 (by simp)).trans h1
  · show (w.heap.push _)[w.heap.size]? = _; simp
  · intro i x p hx hp
    have : p.1 ∈ keys l := List.mem_map.2 ⟨p, List.mem_of_getElem? hp, rfl⟩
    simp [this]
theorem filter_none {es : Array MapEntry} {clock : Nat} (h : ∀ e ∈ es.toList, e.born < clock) {f : MapEntry → Bool} :
    (es.filter f).filter (fun x => decide (x.born ≥ clock)) = #[] ∧ (es.filter f).filter (fun x => decide (x.born < clock)) = es.filter f := by
  constructor
  · rw [Array.filter_eq_empty_iff]
    intro x hx
    have := h x (Array.mem_toList_iff.2 (Array.mem_of_mem_filter hx))
    simp; omega
  · rw [Array.filter_eq_self]
    intro x hx
    simpa using h x (Array.mem_toList_iff.2 (Array.mem_of_mem_filter hx))
theorem next_run {it : Nat} {rem : List α} {last : Option (α × β)} (h : IterAt w it r enc encV l rem last) :
    (rem = [] ∧ (Instr.next (.pointer (some ⟨it, 0, none⟩)) false 0).run P w = .ok (.tuple #[.bool false]) w) ∨
    ∃ a b w', a ∈ rem ∧ aget a l = some b ∧ (Instr.next (.pointer (some ⟨it, 0, none⟩)) false 0).run P w = .ok (.tuple #[.bool true, enc a, encV b]) w' ∧ Upd [it] w w' ∧ w'.heap.size = w.heap.size ∧ IterAt w' it r enc encV l (rem.erase a) (some (a, b)) := by
  obtain ⟨es, clock, seen, h1, h2, h3, h4, h5, h6, h7, h8, h9, h10⟩ := h
  have hg : (getObj r).run P w = .ok (.map es clock) w := by simp [getObj, Sem.run, h1]
  have hg2 : (getObj it).run P w = .ok (.mapIter (some r) clock seen clock) w := by simp [getObj, Sem.run, h6]
  obtain ⟨f1, f2⟩ := filter_none (f := fun e => !seen.contains e.born) h5
  have hall : (!seen.isEmpty && !es.isEmpty && es.all (fun x => decide (x.born ≥ clock))) = false := by
    cases he : es.isEmpty with
    | true => simp
    | false =>
      have : es.all (fun x => decide (x.born ≥ clock)) = false := by
        cases hb : es.all (fun x => decide (x.born ≥ clock)) with
        | false => rfl
        | true =>
          rw [Array.all_eq_true_iff_forall_mem] at hb
          have hpos : 0 < es.size := by
            rcases Nat.eq_zero_or_pos es.size with h0 | h0
            · simp [Array.isEmpty, h0] at he
            · exact h0
          have hm : es[0] ∈ es := Array.getElem_mem hpos
          have := hb _ hm
          have := h5 _ (Array.mem_toList_iff.2 hm)
          simp at *
          omega
      simp [this]
  obtain ⟨left, hleft⟩ : ∃ left, es.filter (fun e => !seen.contains e.born) = left := ⟨_, rfl⟩
  have hmem : ∀ x, x ∈ left ↔ x ∈ es ∧ x.born ∉ seen := by
    intro x; rw [← hleft]; simp
  rw [hleft] at f1 f2
  have hlen : es.toList.length = l.length := by have := congrArg List.length h2; simpa using this
  by_cases hrem : rem = []
  · left
    refine ⟨hrem, ?_⟩
    have hl0 : left = #[] := by
      rw [Array.eq_empty_iff_forall_not_mem]
      intro x hx
      obtain ⟨hx1, hx2⟩ := (hmem x).1 hx
      obtain ⟨i, hi⟩ := List.getElem?_of_mem (Array.mem_toList_iff.2 hx1)
      have hlt := (List.getElem?_eq_some_iff.1 hi).1
      have := (h7 i x _ hi (List.getElem?_eq_getElem (by omega))).2 hx2
      rw [hrem] at this; simp at this
    have h0 : left.isEmpty = true := by rw [hl0]; rfl
    simp only [Instr.next, Sem.run_bind, hg2, hg, Result.andThen_ok, hall, Bool.false_eq_true, if_false, hleft, f1, f2, h0, if_true, Sem.run_pure]
    simp [hl0, Question.forced]
  · right
    have hne : left.isEmpty = false := by
      obtain ⟨a, ha⟩ := List.exists_mem_of_ne_nil _ hrem
      obtain ⟨p, hp, rfl⟩ := List.mem_map.1 (h8 a ha)
      obtain ⟨i, hi⟩ := List.getElem?_of_mem hp
      have hlt := (List.getElem?_eq_some_iff.1 hi).1
      have hx : es.toList[i]? = some (es.toList[i]'(by omega)) := List.getElem?_eq_getElem (by omega)
      have hns := (h7 i _ p hx hi).1 ha
      have hin : es.toList[i]'(by omega) ∈ left := (hmem _).2 ⟨Array.mem_toList_iff.1 (List.getElem_mem _), hns⟩
      cases hz : left.isEmpty with
      | false => rfl
      | true =>
        have : left = #[] := by simpa using hz
        rw [this] at hin; simp at hin
    have hsz : 0 < left.size := by
      rcases Nat.eq_zero_or_pos left.size with h0 | h0
      · simp [Array.isEmpty, h0] at hne
      · exact h0
    -- the choice
    have hch : ∃ j w1, j < left.size ∧ (choose (.mapNext left.size)).run P w = .ok j w1 ∧ Ext w w1 ∧ w1.heap = w.heap := by
      rw [run_choose_drew]
      by_cases hf : Question.forced (.mapNext left.size) = true
      · exact ⟨0, w, hsz, by rw [if_pos hf], Upd.refl _ _, rfl⟩
      · refine ⟨_, w.drew, ?_, by rw [if_neg hf], Upd.drew _ _ _, rfl⟩
        exact Nat.mod_lt _ hsz
    obtain ⟨j, w1, hj, hch, hu1, hh1⟩ := hch
    have hjm : left[j] ∈ left := Array.getElem_mem hj
    obtain ⟨x, hx⟩ : ∃ x, left[j] = x := ⟨_, rfl⟩
    rw [hx] at hjm
    obtain ⟨hx1, hx2⟩ := (hmem x).1 hjm
    obtain ⟨i, hi⟩ := List.getElem?_of_mem (Array.mem_toList_iff.2 hx1)
    have hlt := (List.getElem?_eq_some_iff.1 hi).1
    obtain ⟨p, hp⟩ : ∃ p, l[i]? = some p := ⟨_, List.getElem?_eq_getElem (by omega)⟩
    obtain ⟨a, b⟩ := p
    have har : a ∈ rem := (h7 i x _ hi hp).2 hx2
    obtain ⟨x', hx', hk', hv'⟩ := map_at h2 hp
    rw [hi] at hx'; cases hx'
    have hw1it : w1.heap[it]? = some (.mapIter (some r) clock seen clock) := by rw [hh1]; exact h6
    have hset : (setObj it (.mapIter (some r) clock (seen.push x.born) clock)).run P w1 = .ok () (w1.putObj it (.mapIter (some r) clock (seen.push x.born) clock)) := by
      simp [setObj, Sem.run, hw1it, World.putObj]
    have hcand : ((if left.isEmpty then #[none] else #[]) ++ (left ++ #[]).map some)[j]? = some (some x) := by
      simp [hne, hj, hx]
    have hcs : ((if left.isEmpty then (#[none] : Array (Option MapEntry)) else #[]) ++ (left ++ #[]).map some).size = left.size := by simp [hne]
    have hne2 : r ≠ it := by intro he; subst he; rw [h1] at h6; cases h6
    refine ⟨a, b, w1.putObj it (.mapIter (some r) clock (seen.push x.born) clock), har, ?_, ?_, ?_, by simp [hh1], ?_⟩
    · exact mem_aget h3 (List.mem_of_getElem? hp)
    · simp only [Instr.next, Sem.run_bind, hg2, hg, Result.andThen_ok, hall, Bool.false_eq_true, if_false, hleft, f1, f2, hcs, hch, hcand, hset, Sem.run_pure, hk', hv']
    · exact (hu1.mono (by simp)).trans (putObj_upd w1 it _) (fun b hb => .inl hb)
    · refine ⟨es, clock, seen.push x.born, ?_, h2, h3, h4, h5, World.putObj_heap_same (Array.getElem?_eq_some_iff.1 hw1it).1, ?_, ?_, h9.erase a, ?_⟩
      · rw [World.putObj_heap_other hne2, hh1]; exact h1
      · intro i' y q hy hq
        rw [Array.mem_push, not_or, h9.mem_erase_iff, h7 i' y q hy hq]
        by_cases hii : i' = i
        · subst hii
          rw [hi] at hy; cases hy
          rw [hp] at hq; cases hq
          simp
        · have hb1 : y.born ≠ x.born := by
            have hyl := (List.getElem?_eq_some_iff.1 hy).1
            rcases Nat.lt_or_gt_of_ne hii with hl' | hl'
            · have := List.pairwise_iff_getElem.1 h4 i' i hyl hlt hl'
              rw [(List.getElem?_eq_some_iff.1 hy).2, (List.getElem?_eq_some_iff.1 hi).2] at this
              omega
            · have := List.pairwise_iff_getElem.1 h4 i i' hlt hyl hl'
              rw [(List.getElem?_eq_some_iff.1 hy).2, (List.getElem?_eq_some_iff.1 hi).2] at this
              omega
          have hb2 : q.1 ≠ a := by
            intro he
            have hql := (List.getElem?_eq_some_iff.1 hq).1
            have hpl := (List.getElem?_eq_some_iff.1 hp).1
            have e1 : (keys l)[i']? = some a := by simp [keys, hq, he]
            have e2 : (keys l)[i]? = some a := by simp [keys, hp]
            have := (List.getElem?_inj (by simp [keys]; exact hql) h3).1 (e1.trans e2.symm)
            exact hii this
          constructor
          · rintro ⟨_, hy2⟩; exact ⟨hy2, hb1⟩
          · rintro ⟨hy2, _⟩; exact ⟨hb2, hy2⟩
      · exact fun a' ha' => h8 a' (List.mem_of_mem_erase ha')
      · intro q hq
        cases hq
        exact ⟨x.born, x, by simp, Array.mem_toList_iff.2 hx1, rfl, hk', hv'⟩
theorem entry_run {it : Nat} {rem : List α} {a : α} {b : β} (h : IterAt w it r enc encV l rem (some (a, b))) :
    (Instr.entry (.pointer (some ⟨it, 0, none⟩))).run P w = .ok (.tuple #[enc a, encV b]) w := by
  obtain ⟨es, clock, seen, h1, h2, h3, h4, h5, h6, h7, h8, h9, h10⟩ := h
  have hg : (getObj r).run P w = .ok (.map es clock) w := by simp [getObj, Sem.run, h1]
  have hg2 : (getObj it).run P w = .ok (.mapIter (some r) clock seen clock) w := by simp [getObj, Sem.run, h6]
  obtain ⟨st, x, hs, hx, hb, hk, hv⟩ := h10 _ rfl
  have hfind : es.find? (fun e => e.born == st) = some x := by
    cases hf : es.find? (fun e => e.born == st) with
    | none =>
      rw [Array.find?_eq_none] at hf
      have := hf x (Array.mem_toList_iff.1 hx)
      simp [hb] at this
    | some y =>
      have hy1 := Array.mem_of_find?_eq_some hf
      have hy2 := Array.find?_some hf
      simp at hy2
      obtain ⟨i, hi⟩ := List.getElem?_of_mem hx
      obtain ⟨j, hj⟩ := List.getElem?_of_mem (Array.mem_toList_iff.2 hy1)
      have hil := (List.getElem?_eq_some_iff.1 hi)
      have hjl := (List.getElem?_eq_some_iff.1 hj)
      obtain ⟨hil1, hil2⟩ := hil
      obtain ⟨hjl1, hjl2⟩ := hjl
      rcases Nat.lt_trichotomy i j with hl' | hl' | hl'
      · have := List.pairwise_iff_getElem.1 h4 i j hil1 hjl1 hl'
        rw [hil2, hjl2] at this; omega
      · subst hl'; rw [hi] at hj; exact hj.symm
      · have := List.pairwise_iff_getElem.1 h4 j i hjl1 hil1 hl'
        rw [hil2, hjl2] at this; omega
  simp [Instr.entry, Sem.run_bind, hg2, hg, hs, hfind, hk, hv]
theorem exec_next {x : Operand} {d it : Nat} {rem : List α} {last : Option (α × β)} (hx : e.ev x = some (.pointer (some ⟨it, 0, none⟩))) (hd : Nat.blt d n = true) (h : IterAt w it r enc encV l rem last)
    (over : rem = [] → Exec P n c D is k ((d, .tuple #[.bool false]) :: e) w)
    (more : ∀ a b w', a ∈ rem → aget a l = some b → Upd [it] w w' → w'.heap.size = w.heap.size → IterAt w' it r enc encV l (rem.erase a) (some (a, b)) → Exec P n c D is k ((d, .tuple #[.bool true, enc a, encV b]) :: e) w') :
    Exec P n c D (.op none (some d) (.next x) :: is) k e w := by
  rcases next_run (P := P) h with ⟨h1, h2⟩ | ⟨a, b, w', h1, h2, h3, h4, h5, h6⟩
  · exact exec_val hd (fun ac hk => by simp [MOp.sem, Env.ok_ev hk hx, h2]) (over h1)
  · exact exec_val hd (fun ac hk => by simp [MOp.sem, Env.ok_ev hk hx, h3]) (more a b w' h1 h2 h4 h5 h6)
theorem ok_entry {x : Operand} {it : Nat} {rem : List α} {a : α} {b : β} (hx : e.ev x = some (.pointer (some ⟨it, 0, none⟩))) (h : IterAt w it r enc encV l rem (some (a, b))) :
    OpOK P (.entry x) e w (Just (.tuple #[enc a, encV b]) w) := ok_val fun ac hk => by simp [MOp.sem, Env.ok_ev hk hx, entry_run h]
end
end Go.Sp
