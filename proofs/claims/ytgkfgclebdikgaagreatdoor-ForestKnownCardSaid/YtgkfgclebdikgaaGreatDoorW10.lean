/- spinneylaw14.ForestKnown returns true for every input, and its arguments read afterwards as before: the card. No condition. This text: part 10 of 10. -/
import Derived.Test.YtgkfgclebdikgaaGreatDoorW9
import Derived.Test.YtgkfgclebdikgaaGreatDoorCards
import Derived.Test.YtgkfgclebdikgaaGreatDoorTie
set_option linter.unusedVariables false
set_option linter.unusedSimpArgs false
set_option linter.unusedSectionVars false
namespace Go.Sp
open Go.Sort (pdq)
theorem pdq_sortN (l : List Nat) (lim : Nat) : (pdq ltN l.toArray 0 l.length lim true true).toList = sortN l := by
  obtain ⟨h1, h2⟩ := Go.Sort.pdq_sorts ltN swoN l.toArray 0 l.length lim true true (Nat.zero_le _) (by simp) (Or.inl rfl)
  have hu := Go.Sort.sorted_unique_holds (lt := ltN) swoN (fun x y h1 h2 => by simp [ltN] at h1 h2; omega) l.toArray (pdq ltN l.toArray 0 l.length lim true true) (by simpa using h1) (by simpa using h2)
  rw [hu, sortN]
  congr 1
  funext x y
  simp only [ltN]
  by_cases h : x ≤ y
  · simp [h]
  · simp [h]; omega
section
variable {P : Program} {f : Nat} {w : World} (A : SortAll P)
theorem insNil_ok : Ret P A.ins [.slice none 0 0, intV' 0, intV' 0] w fun _ w' => Ext w w' := by
  refine Ret.of_exec A.h_ins (Nat.le_of_ble_eq_true rfl) fun c hc => ?_
  dsimp only [b_slices_insertionSortOrdered_uint64, argEnv, ym, yo, yg, ys, yt, yd, ye]
  refine xr 1 rfl ?_
  refine xpu (pv_addI (a := 0) (b := 1) rfl rfl (by omega)) rfl ?_
  refine xr 2 rfl ?_
  refine xlo (S := Unit) (fun _ W => W = w) (fun _ => [(2, intV' 0), (6, intV' (0 + 1))]) (fun _ => 0) () rfl ⟨rfl, rfl, trivial⟩ ?_
  rintro _ W rfl
  refine xr 2 rfl ?_
  refine xpu (pv_lssI (a := 0 + 1) (b := 0) (q := false) rfl rfl (by simp)) rfl ?_
  refine xr 3 rfl ?_
  exact exec_end hc [] trivial (Upd.refl _ _)
theorem pdqNil_ok (lim : Nat) : Ret P A.pdq' [.slice none 0 0, intV' 0, intV' 0, intV' lim] w fun _ w' => Ext w w' := by
  refine Ret.of_exec A.h_pdq (Nat.le_of_ble_eq_true rfl) fun c hc => ?_
  dsimp only [b_slices_pdqsortOrdered_uint64, argEnv, ym, yo, yg, ys, yt, yd, ye]
  refine xr 3 rfl ?_
  refine xlo (S := Unit) (fun _ W => W = w) (fun _ => [(0, .slice none 0 0), (1, intV' 0), (2, intV' 0)]) (fun _ => 0) () rfl ⟨rfl, rfl, rfl, trivial⟩ ?_
  rintro _ W rfl
  refine xr 3 rfl ?_
  refine xpu (pv_subI (a := 0) (b := 0) rfl rfl (by omega) (by omega)) rfl ?_
  refine xr 2 rfl ?_
  refine xpu (pv_leqI (a := 0 - 0) (b := 12) (q := true) rfl rfl (by simp)) rfl ?_
  refine xr 4 rfl ?_
  refine xca rfl rfl (insNil_ok A) ?_
  rintro v W1 hu1
  exact xre hc [] trivial hu1
theorem sort_ok : SortOK P A.sort := by
  intro w v l hO hl
  rcases hO with ⟨rfl, h0, h1⟩ | ⟨b, cap, rest, rfl, hB, h1, h2, h3⟩
  · have : l = [] := by simpa using h1
    subst this
    refine Ret.of_exec A.h_sort (Nat.le_of_ble_eq_true rfl) fun c hc => ?_
    dsimp only [b_slices_Sort_uint64_uint64, argEnv, ym, yo, yg, ys, yt, yd, ye]
    refine xr 6 rfl ?_
    refine xpu (pv_toU (a := 0) rfl (by omega)) rfl ?_
    refine xca rfl rfl (len_ok A.toSortF A.h_lenI 0 (by omega)) ?_
    rintro v W1 ⟨rfl, hu1⟩
    refine xca rfl rfl (pdqNil_ok A (bitLen 0)) ?_
    rintro v W2 hu2
    exact exec_end hc [] trivial ⟨.inl ⟨rfl, rfl, by simp [sortN]⟩, (hu1.trans hu2).mono (by simp)⟩
  · have hB' : Blk w b (row l.toArray rest) := by simpa [row] using hB
    refine (sortU_ok A hB' (n := l.length) (cap := cap) (by simp) hl).mono ?_
    rintro v w' ⟨hB2, hu2⟩
    rw [row, pdq_sortN] at hB2
    refine ⟨.inr ⟨b, cap, rest, rfl, hB2, ?_, ?_, h3⟩, hu2⟩
    · simp [(sortN_perm l).length_eq]
    · have := (sortN_perm l).length_eq
      simp at h2 ⊢
      omega
end
end Go.Sp

namespace Go.Sp
open Go.Proofs Go.Shelf Go.Sort
theorem Upd.grow {w w' : World} (h : Ext w w') : ∃ q os, w' = Go.Sort.grow (w.drewN q) os := by
  refine ⟨w'.drawn - w.drawn, w'.heap.extract w.heap.size w'.heap.size, ?_⟩
  have hh : w'.heap = w.heap ++ w'.heap.extract w.heap.size w'.heap.size := by
    apply Array.ext_getElem?
    intro k
    have hs := h.size
    rw [Array.getElem?_append]
    split
    · rename_i hk
      exact h.block k hk (by simp)
    · rename_i hk
      rw [Array.getElem?_extract]
      split
      · congr 1; omega
      · rw [Array.getElem?_eq_none (by omega)]
  have hd : w.drawn + (w'.drawn - w.drawn) = w'.drawn := by have := h.drawn; omega
  obtain ⟨h1, h2, h3, _, _, _⟩ := h
  cases w; cases w'
  simp only [Go.Sort.grow, World.drewN] at *
  subst h1; subst h2; subst h3
  rw [hd, ← hh]
instance : Inhabited Hash := ⟨⟨List.replicate 32 0, rfl⟩⟩
theorem sortWorld_heap (w : World) (b m : Nat) (dk : Array Hash) (os : Array Obj) : (sortWorldK hC 32 w b 0 m dk os).heap = w.heap.modify b (onCells (putCells id 0 (flatK hC 32 dk))) ++ os := rfl
theorem sortWorld_upd {w : World} {b m : Nat} {dk : Array Hash} {os : Array Obj} : Upd [b] w (sortWorldK hC 32 w b 0 m dk os) := by
  refine ⟨rfl, rfl, rfl, ?_, fun k hk hb => ?_, ?_⟩
  · rw [sortWorld_heap]; simp
  · rw [sortWorld_heap, Array.getElem?_append_left (by simpa using hk), Array.getElem?_modify, if_neg (by simp at hb; omega)]
  · show w.drawn ≤ w.drawn + m
    omega
theorem hs_at' {l : List Hash} {k : Nat} (hk : k < l.length * 32) : ∃ h v, l[k / 32]? = some h ∧ (hC h)[k % 32]? = some v ∧ (hs l)[k]? = some v := by
  have h1 : k / 32 < l.length := by omega
  have h2 : k % 32 < 32 := Nat.mod_lt _ (by omega)
  refine ⟨l[k / 32], (hC l[k / 32])[k % 32]'(by rw [hC_length]; exact h2), List.getElem?_eq_getElem h1, List.getElem?_eq_getElem _, ?_⟩
  have := hs_get l (k / 32) (k % 32) _ _ (List.getElem?_eq_getElem h1) (List.getElem?_eq_getElem (by rw [hC_length]; exact h2))
  rw [show k / 32 * 32 + k % 32 = k by omega] at this
  exact this
theorem flatK_at {dk : Array Hash} {k : Nat} (hk : k < dk.size * 32) : (hs dk.toList)[k]? = some (flatK hC 32 dk)[k]! := by
  obtain ⟨h, v, h1, h2, h3⟩ := hs_at' (l := dk.toList) (k := k) (by simpa using hk)
  rw [h3, get_flatK _ _ _ _ hk]
  have e1 : dk[k / 32]! = h := by
    rw [Array.getElem?_toList] at h1
    rw [Array.getElem!_eq_getD, Array.getD_eq_getD_getElem?, h1]; rfl
  rw [e1, List.getElem!_eq_getElem?_getD, h2]; rfl
theorem sortWorld_blk {w : World} {b m : Nat} {l : List Hash} {rest : List Value} {dk : Array Hash} {os : Array Obj} (h : Blk w b (hs l ++ rest)) (hs' : dk.size = l.length) : Blk (sortWorldK hC 32 w b 0 m dk os) b (hs dk.toList ++ rest) := by
  have hlt := h.lt
  obtain ⟨T, h⟩ := h
  refine ⟨T, ?_⟩
  rw [sortWorld_heap, Array.getElem?_append_left (by simpa using hlt), Array.getElem?_modify, if_pos rfl, h]
  simp only [Option.map_some, onCells, Option.some.injEq, Obj.cells.injEq, and_true]
  apply Array.ext_getElem?
  intro k
  simp only [putCells, Array.getElem?_mapIdx, List.getElem?_toArray, size_flatK, Nat.zero_le, true_and, Nat.zero_add, Nat.sub_zero, id]
  have hl1 : (hs l).length = l.length * 32 := hs_len l
  have hl2 : (hs dk.toList).length = l.length * 32 := by rw [hs_len]; simp [hs']
  by_cases hk : k < dk.size * 32
  · rw [List.getElem?_append_left (by omega), List.getElem?_append_left (by omega), flatK_at hk]
    obtain ⟨_, v, _, _, h3⟩ := hs_at' (l := l) (k := k) (by omega)
    rw [h3]; simp [hk]
  · rw [List.getElem?_append_right (by omega), List.getElem?_append_right (by omega), hl1, hl2]
    cases rest[k - l.length * 32]? with
    | none => rfl
    | some v => simp [hk]
theorem holds_blk {w : World} {b : Nat} {l : List Hash} {rest : List Value} (h : Blk w b (hs l ++ rest)) : HoldsK hC 32 w b 0 l.toArray := by
  intro j hj
  have hj' : j < l.toArray.size * 32 := by simpa using hj
  have hf := flatK_at hj'
  have hl1 : (hs l).length = l.length * 32 := hs_len l
  simp at hj'
  refine ⟨?_, ?_⟩
  · rw [Nat.zero_add]
    exact h.cell (by rw [List.getElem?_append_left (by omega)]; exact hf)
  · obtain ⟨T, h⟩ := h
    simp [World.frozen?, h]
theorem cmp_lt (p : Hash → Nat) (x y : Hash) : ltOf (fun x y => cmpN (p x) (p y)) x y = decide (p x < p y) := by
  simp only [ltOf, cmpN]
  by_cases h : p x < p y
  · simp [h]
  · by_cases h2 : p y < p x
    · simp [h, h2]
    · simp [h, h2]
theorem cmp_swo (p : Hash → Nat) : SWO (ltOf fun x y => cmpN (p x) (p y)) := by
  refine ⟨fun x => ?_, fun x y z h1 h2 => ?_, fun x y z h1 h2 => ?_⟩ <;> simp only [cmp_lt, decide_eq_true_eq, decide_eq_false_iff_not] at * <;> omega
theorem hC_one (x : Hash) : ∀ v ∈ hC x, v.oneCell' = true := by
  intro v hv
  simp only [hC, List.mem_map] at hv
  obtain ⟨b, _, rfl⟩ := hv
  rfl
theorem permIn_list {l : List Hash} {d' : Array Hash} (h : PermIn 0 l.toArray.size l.toArray d') : d'.toList.Perm l ∧ d'.size = l.length := by
  obtain ⟨h1, _, h3⟩ := h
  have e1 : d'.extract 0 l.toArray.size = d' := by rw [← h1]; exact Array.extract_size
  have e2 : l.toArray.extract 0 l.toArray.size = l.toArray := Array.extract_size
  rw [e1, e2] at h3
  exact ⟨h3, by simpa using h1⟩
theorem sortedIn_list {p : Hash → Nat} {d' : Array Hash} {n : Nat} (hn : d'.size = n) (h : SortedIn (ltOf fun x y => cmpN (p x) (p y)) 0 n d') : d'.toList.Pairwise (fun a b => p a ≤ p b) := by
  rw [List.pairwise_iff_getElem]
  intro i j hi hj hij
  have hi' : i < d'.size := by simpa using hi
  have hj' : j < d'.size := by simpa using hj
  have := h i j (Nat.zero_le _) hij (by omega)
  rw [getElem!_pos d' j hj', getElem!_pos d' i hi'] at this
  rw [cmp_lt, decide_eq_false_iff_not] at this
  show p d'[i] ≤ p d'[j]
  omega
theorem sortHOK_of {P : Program} {ρ : Ren} {f : FuncId} (L : SlLaysF0.n6 P ρ) (hf : ρ.f 6 = f) (aE : ∀ w, (isAgg (ρ.t 24)).run P w = .ok true w) (zE : ∀ w, (Go.sizeOf (ρ.t 24)).run P w = .ok 32 w) : SortHOK P f := by
  subst hf
  intro w v l g cb p hO hl hen hcmp
  have nn : ∀ (q : Option Addr) (cap : Nat), Ret P (ρ.f 6) [.slice q 0 cap, .func (.func g) #[] cb.toArray] w fun _ w' => w' = w := fun q cap =>
    Calls.mono (AnyF.slices_SortFunc_none L q cap _ w) fun e w' h => ⟨_, h.1, h.2⟩
  by_cases hl0 : l = []
  · subst hl0
    rcases hO with ⟨rfl, h0, h1⟩ | ⟨b, cap, rest, rfl, hB, h1, h2, h3⟩
    · exact (nn Option.none 0).mono fun _ w' h => by subst h; exact ⟨[], List.Perm.refl _, List.Pairwise.nil, .inl ⟨rfl, rfl, rfl⟩, Upd.refl _ _⟩
    · exact (nn _ cap).mono fun _ w' h => by subst h; exact ⟨[], List.Perm.refl _, List.Pairwise.nil, .inr ⟨b, cap, rest, rfl, hB, h1, h2, h3⟩, Upd.refl _ _⟩
  rcases hO with ⟨_, h0, _⟩ | ⟨b, cap, rest, rfl, hB, h1, h2, h3⟩
  · exact absurd (List.length_eq_zero_iff.1 h0) hl0
  have hcl : CmpLays P g cb.toArray hC 32 (fun x y => cmpN (p x) (p y)) b 0 l.toArray.size w := by
    intro m os dk hdk x y
    have e : (hV x :: hV y :: cb).toArray = #[.agg (hC x).toArray, .agg (hC y).toArray] ++ cb.toArray := by simp [hV]
    have := hcmp (sortWorldK hC 32 w b 0 m dk os) x y sortWorld_upd
    unfold Ret at this
    rw [e] at this
    refine Calls.mono this ?_
    rintro e w' ⟨r, he, hr, hu⟩
    subst hr
    exact ⟨he, hu.grow⟩
  have main := AnyQ.slices_SortFunc L 32 aE zE hC hC_length hC_one (fun x y => cmpN (p x) (p y)) (cmp_swo p) g cb.toArray b 0 cap l.toArray w (fun args w => hen.run args w) hcl (holds_blk hB) hB.lt (by simp; omega)
  have e2 : (.slice (some ⟨b, 0, Option.none⟩) l.length cap : Value) = .slice (some ⟨b, 0, Option.none⟩) l.toArray.size cap := by simp
  rw [e2]
  refine Calls.mono main ?_
  rintro e w' ⟨he, d', m, os, hp, hs', rfl⟩
  obtain ⟨hp1, hp2⟩ := permIn_list hp
  refine ⟨_, he, d'.toList, hp1, sortedIn_list hp2 (by simpa using hs'), ?_, sortWorld_upd⟩
  rw [← e2]
  refine .inr ⟨b, cap, rest, rfl, sortWorld_blk hB hp2, ?_, ?_, h3⟩
  · rw [hs_len]; simp [hp2]
  · rw [List.length_append, hs_len] at h2 ⊢
    simpa [hp2] using h2
end Go.Sp

namespace Go.Proofs.YtgkfgclebdikgaaGreatDoor
open Go.Sp Go.Shelf Go.Proofs
theorem has_of {P : Program} {f : FuncId} {B : Body} (h : bodyOf P f = some B) : Has P f B := h
theorem info_of {P : Program} {T : TypeId} (h : (P.info? T).map (fun j => j.size == 0) = some false) : ∃ j, P.info? T = some j ∧ j.size ≠ 0 := by
  obtain ⟨j, h1, h2⟩ := Option.map_eq_some_iff.1 h
  exact ⟨j, h1, by simpa using h2⟩
theorem tyHash : TyBytes Tryz.prog 39 32 := by
  refine ⟨?_, by kernel_rfl⟩
  have h5 : (Tryz.prog.info? 5).map (·.size) = some 1 := by kernel_rfl
  obtain ⟨i, hi, hs⟩ := Option.map_eq_some_iff.1 h5
  exact ⟨5, i, Tryz.underlying39, Tryz.underlying5, hi, hs⟩
theorem tyRoot : TyRoot Tryz.prog 55 39 := by
  refine ⟨by kernel_rfl, by kernel_rfl, by kernel_rfl, ?_, ?_⟩
  · exact ⟨{ name := "Full", type := 4, offset := 0, embedded := false, tag := "", pkgPath := "", byteOffset := 0 }, { name := "Hash", type := 39, offset := 1, embedded := false, tag := "", pkgPath := "", byteOffset := 1 }, by simp only [Program.fieldsOf, Tryz.underlying55], by decide, by decide, Tryz.underlying4, rfl, rfl, rfl⟩
  · have h5 : (Tryz.prog.info? 39).map (·.size) = some 32 := by kernel_rfl
    obtain ⟨i, hi, hs⟩ := Option.map_eq_some_iff.1 h5
    exact ⟨i, hi, hs⟩
noncomputable def sortAll : SortAll Tryz.prog where
  len64 := 42
  lz := 74
  rows := 14
  may := 73
  begin_ := 43
  row := 44
  parent := 71
  left := 36
  sibling := 40
  root := 16
  h_len64 := has_of (by kernel_rfl)
  h_lz := has_of (by kernel_rfl)
  h_rows := has_of (by kernel_rfl)
  h_may := has_of (by kernel_rfl)
  h_begin := has_of (by kernel_rfl)
  h_row := has_of (by kernel_rfl)
  h_parent := has_of (by kernel_rfl)
  h_left := has_of (by kernel_rfl)
  h_sibling := has_of (by kernel_rfl)
  h_root := has_of (by kernel_rfl)
  nan := 87
  less := 96
  h_nan := has_of (by kernel_rfl)
  h_less := has_of (by kernel_rfl)
  len32 := 118
  lenI := 100
  order2 := 140
  median := 135
  medAdj := 134
  choose := 113
  sift := 131
  heap := 111
  ins := 110
  xor := 133
  pow2 := 132
  brk := 112
  rev := 114
  parI := 115
  partEq := 116
  part := 117
  pdq' := 99
  sort := 80
  TX := 187
  TI := 3
  h_lenI := has_of (by kernel_rfl)
  h_order2 := has_of (by kernel_rfl)
  h_median := has_of (by kernel_rfl)
  h_medAdj := has_of (by kernel_rfl)
  h_choose := has_of (by kernel_rfl)
  h_sift := has_of (by kernel_rfl)
  h_heap := has_of (by kernel_rfl)
  h_ins := has_of (by kernel_rfl)
  h_xor := has_of (by kernel_rfl)
  h_pow2 := has_of (by kernel_rfl)
  h_brk := has_of (by kernel_rfl)
  h_rev := has_of (by kernel_rfl)
  h_parI := has_of (by kernel_rfl)
  h_partEq := has_of (by kernel_rfl)
  h_part := has_of (by kernel_rfl)
  h_pdq := has_of (by kernel_rfl)
  h_sort := has_of (by kernel_rfl)
def ren : Go.Shelf.Ren := ⟨fun | 6 => 85 | 15 => 100 | 14 => 102 | 28 => 118 | 29 => 42 | 20 => 119 | 21 => 120 | 22 => 121 | 23 => 122 | 24 => 123 | 25 => 124 | 26 => 125 | 27 => 126 | 46 => 136 | 47 => 132 | 48 => 133 | 49 => 137 | 50 => 138 | 57 => 141 | n => n, fun | 22 => 23 | 24 => 39 | 25 => 124 | 3 => 3 | 39 => 105 | 0 => 0 | 53 => 177 | 55 => 35 | 4 => 4 | 46 => 171 | 45 => 170 | 50 => 47 | 5 => 5 | 9 => 9 | 66 => 187 | 70 => 190 | 76 => 194 | 77 => 195 | n => n, fun | n => n⟩
theorem lays : SlLaysF0.n6 Tryz.prog ren where
  mixed := by kernel_rfl
  f6 := ⟨ "slices.SortFunc[[]spinney/api.Hash,spinney/api.Hash]", by decide, Tryz.func85.trans (congrArg some (by kernel_rfl))⟩
  f14 := ⟨ "slices.pdqsortCmpFunc[spinney/api.Hash]", by decide, Tryz.func102.trans (congrArg some (by kernel_rfl))⟩
  f15 := Tryz.func100.trans (congrArg some (by kernel_rfl))
  f20 := ⟨ "slices.insertionSortCmpFunc[spinney/api.Hash]", by decide, Tryz.func119.trans (congrArg some (by kernel_rfl))⟩
  f21 := ⟨ "slices.heapSortCmpFunc[spinney/api.Hash]", by decide, Tryz.func120.trans (congrArg some (by kernel_rfl))⟩
  f22 := ⟨ "slices.breakPatternsCmpFunc[spinney/api.Hash]", by decide, Tryz.func121.trans (congrArg some (by kernel_rfl))⟩
  f23 := ⟨ "slices.choosePivotCmpFunc[spinney/api.Hash]", by decide, Tryz.func122.trans (congrArg some (by kernel_rfl))⟩
  f24 := ⟨ "slices.reverseRangeCmpFunc[spinney/api.Hash]", by decide, Tryz.func123.trans (congrArg some (by kernel_rfl))⟩
  f25 := ⟨ "slices.partialInsertionSortCmpFunc[spinney/api.Hash]", by decide, Tryz.func124.trans (congrArg some (by kernel_rfl))⟩
  f26 := ⟨ "slices.partitionEqualCmpFunc[spinney/api.Hash]", by decide, Tryz.func125.trans (congrArg some (by kernel_rfl))⟩
  f27 := ⟨ "slices.partitionCmpFunc[spinney/api.Hash]", by decide, Tryz.func126.trans (congrArg some (by kernel_rfl))⟩
  f28 := Tryz.func118.trans (congrArg some (by kernel_rfl))
  f29 := Tryz.func42.trans (congrArg some (by kernel_rfl))
  f46 := ⟨ "slices.siftDownCmpFunc[spinney/api.Hash]", by decide, Tryz.func136.trans (congrArg some (by kernel_rfl))⟩
  f47 := Tryz.func132.trans (congrArg some (by kernel_rfl))
  f48 := Tryz.func133.trans (congrArg some (by kernel_rfl))
  f49 := ⟨ "slices.medianAdjacentCmpFunc[spinney/api.Hash]", by decide, Tryz.func137.trans (congrArg some (by kernel_rfl))⟩
  f50 := ⟨ "slices.medianCmpFunc[spinney/api.Hash]", by decide, Tryz.func138.trans (congrArg some (by kernel_rfl))⟩
  f57 := ⟨ "slices.order2CmpFunc[spinney/api.Hash]", by decide, Tryz.func141.trans (congrArg some (by kernel_rfl))⟩
  t0 := Tryz.underlying0
  a0 := Tryz.isAgg0
  z0 := Tryz.sizeOf0
  v0 := Tryz.zeroValue0
  t3 := Tryz.underlying3
  a3 := Tryz.isAgg3
  z3 := Tryz.sizeOf3
  v3 := Tryz.zeroValue3
  t4 := Tryz.underlying4
  a4 := Tryz.isAgg4
  z4 := Tryz.sizeOf4
  v4 := Tryz.zeroValue4
  t5 := Tryz.underlying5
  a5 := Tryz.isAgg5
  z5 := Tryz.sizeOf5
  v5 := Tryz.zeroValue5
  t9 := Tryz.underlying9
  a9 := Tryz.isAgg9
  z9 := Tryz.sizeOf9
  v9 := Tryz.zeroValue9
  t22 := Tryz.underlying23
  a22 := Tryz.isAgg23
  z22 := Tryz.sizeOf23
  v22 := Tryz.zeroValue23
  t25 := Tryz.underlying124
  a25 := Tryz.isAgg124
  z25 := Tryz.sizeOf124
  v25 := Tryz.zeroValue124
  t39 := Tryz.underlying105
  a39 := Tryz.isAgg105
  z39 := Tryz.sizeOf105
  v39 := Tryz.zeroValue105
  t45 := Tryz.underlying170
  a45 := Tryz.isAgg170
  z45 := Tryz.sizeOf170
  v45 := Tryz.zeroValue170
  t46 := Tryz.underlying171
  a46 := Tryz.isAgg171
  z46 := Tryz.sizeOf171
  v46 := Tryz.zeroValue171
  t50 := Tryz.underlying47
  a50 := Tryz.isAgg47
  z50 := Tryz.sizeOf47
  v50 := Tryz.zeroValue47
  t53 := Tryz.underlying177
  a53 := Tryz.isAgg177
  z53 := Tryz.sizeOf177
  v53 := Tryz.zeroValue177
  t55 := Tryz.underlying35
  a55 := Tryz.isAgg35
  z55 := Tryz.sizeOf35
  v55 := Tryz.zeroValue35
  t66 := Tryz.underlying187
  a66 := Tryz.isAgg187
  z66 := Tryz.sizeOf187
  v66 := Tryz.zeroValue187
  t70 := Tryz.underlying190
  a70 := Tryz.isAgg190
  z70 := Tryz.sizeOf190
  v70 := Tryz.zeroValue190
  t76 := Tryz.underlying194
  a76 := Tryz.isAgg194
  z76 := Tryz.sizeOf194
  v76 := Tryz.zeroValue194
  t77 := Tryz.underlying195
  a77 := Tryz.isAgg195
  z77 := Tryz.sizeOf195
  v77 := Tryz.zeroValue195
theorem sortH : SortHOK Tryz.prog 85 := sortHOK_of (ρ := ren) lays rfl Tryz.isAgg39 Tryz.sizeOf39
noncomputable def facts : LawK Tryz.prog where
  gFirst := 0
  gConst := 1
  word := 107
  rot := 139
  right := 130
  spread := 129
  take := 105
  cloneB := 128
  lay := 106
  filled := 104
  chunk1 := 127
  chunk := 103
  digest := 90
  words := 91
  sum := 65
  TS80 := 184
  T8 := 151
  TC1 := 131
  TC2 := 5
  TL := 5
  TF := 5
  TH1 := 131
  TH2 := 3
  TH3 := 9
  T64 := 149
  TU8 := 5
  THash := 39
  E1 := 5
  h_word := has_of (by kernel_rfl)
  h_rot := has_of (by kernel_rfl)
  h_right := has_of (by kernel_rfl)
  h_spread := has_of (by kernel_rfl)
  h_take := has_of (by kernel_rfl)
  h_cloneB := has_of (by kernel_rfl)
  h_TC1 := Tryz.underlying131
  h_lay := has_of (by kernel_rfl)
  h_filled := has_of (by kernel_rfl)
  h_chunk1 := has_of (by kernel_rfl)
  h_chunk := has_of (by kernel_rfl)
  h_digest := has_of (by kernel_rfl)
  h_words := has_of (by kernel_rfl)
  h_sum := has_of (by kernel_rfl)
  growB := 108
  concat := 92
  pairText := 66
  parent := 28
  TG1 := 9
  TG2 := 5
  TK1 := 9
  TK2 := 5
  TP1 := 39
  TP2 := 5
  TP3 := 131
  TPH := 39
  h_growB := has_of (by kernel_rfl)
  h_concat := has_of (by kernel_rfl)
  h_pairText := has_of (by kernel_rfl)
  h_parent := has_of (by kernel_rfl)
  joined := 82
  TNode := 85
  TNodeS := 92
  TNE := 92
  h_joined := has_of (by kernel_rfl)
  h_TNode := Tryz.underlying85
  sf := {
    len64 := 42
    lz := 74
    rows := 14
    may := 73
    begin_ := 43
    row := 44
    parent := 71
    left := 36
    sibling := 40
    root := 16
    h_len64 := has_of (by kernel_rfl)
    h_lz := has_of (by kernel_rfl)
    h_rows := has_of (by kernel_rfl)
    h_may := has_of (by kernel_rfl)
    h_begin := has_of (by kernel_rfl)
    h_row := has_of (by kernel_rfl)
    h_parent := has_of (by kernel_rfl)
    h_left := has_of (by kernel_rfl)
    h_sibling := has_of (by kernel_rfl)
    h_root := has_of (by kernel_rfl)
    nan := 87
    less := 96
    h_nan := has_of (by kernel_rfl)
    h_less := has_of (by kernel_rfl)
  }
  snan := 97
  bins := 77
  without := 78
  h_snan := has_of (by kernel_rfl)
  h_bins := has_of (by kernel_rfl)
  h_without := has_of (by kernel_rfl)
  size := 34
  cloneT := 46
  deleted := 49
  TTree := 87
  TSl := 61
  TSe := 87
  TCl := 87
  TDel := 87
  h_size := has_of (by kernel_rfl)
  h_cloneT := has_of (by kernel_rfl)
  h_TSl := Tryz.underlying61
  h_deleted := has_of (by kernel_rfl)
  grown := 52
  TGH := 39
  TGN := 92
  TGT := 87
  h_grown := has_of (by kernel_rfl)
  is' := 30
  going := 31
  coming := 48
  TPF := 24
  TPE := 79
  TMp := 62
  TMK := 39
  TME := 35
  TH := 39
  h_is := has_of (by kernel_rfl)
  h_TPF := Tryz.underlying24
  h_TMp := Tryz.underlying62
  h_going := has_of (by kernel_rfl)
  h_coming := has_of (by kernel_rfl)
  h_TH := tyHash
  nf := {
    len64 := 42
    lz := 74
    rows := 14
    may := 73
    begin_ := 43
    row := 44
    parent := 71
    left := 36
    sibling := 40
    root := 16
    h_len64 := has_of (by kernel_rfl)
    h_lz := has_of (by kernel_rfl)
    h_rows := has_of (by kernel_rfl)
    h_may := has_of (by kernel_rfl)
    h_begin := has_of (by kernel_rfl)
    h_row := has_of (by kernel_rfl)
    h_parent := has_of (by kernel_rfl)
    h_left := has_of (by kernel_rfl)
    h_sibling := has_of (by kernel_rfl)
    h_root := has_of (by kernel_rfl)
    up1 := 75
    up := 45
    way := 18
    tree := 69
    T1 := 35
    T2 := 3
    T3 := 29
    h_up1 := has_of (by kernel_rfl)
    h_up := has_of (by kernel_rfl)
    h_way := has_of (by kernel_rfl)
    h_tree := has_of (by kernel_rfl)
    values1 := 109
    values := 94
    needUp := 70
    made := 38
    isRoot := 39
    keys1 := 95
    keys' := 72
    appendSeq := 98
    collect := 79
    sort := 80
    sorted := 50
    rising := 41
    need := 13
    TS := 29
    TM := 97
    TP := 94
    TE := 32
    TPl := 100
    h_values1 := has_of (by kernel_rfl)
    h_values := has_of (by kernel_rfl)
    h_needUp := has_of (by kernel_rfl)
    h_made := has_of (by kernel_rfl)
    h_isRoot := has_of (by kernel_rfl)
    h_keys1 := has_of (by kernel_rfl)
    h_keys := has_of (by kernel_rfl)
    h_appendSeq := has_of (by kernel_rfl)
    h_collect := has_of (by kernel_rfl)
    h_sort := sort_ok sortAll
    h_sorted := has_of (by kernel_rfl)
    h_rising := has_of (by kernel_rfl)
    h_need := has_of (by kernel_rfl)
    hU := Tryz.underlying35
  }
  copyM := 83
  change := 53
  valsH1 := 81
  valsH := 51
  TVm := 62
  h_copyM := has_of (by kernel_rfl)
  h_change := has_of (by kernel_rfl)
  h_valsH1 := has_of (by kernel_rfl)
  h_valsH := has_of (by kernel_rfl)
  modify := 21
  TUn := 64
  TMH := 39
  h_modify := has_of (by kernel_rfl)
  new' := 19
  root' := 35
  rows' := 37
  index := 32
  where1 := 33
  TFo := 79
  TRt := 87
  TW1 := 87
  h_new := has_of (by kernel_rfl)
  h_root := has_of (by kernel_rfl)
  h_rows := has_of (by kernel_rfl)
  h_index := has_of (by kernel_rfl)
  h_where1 := has_of (by kernel_rfl)
  where' := 10
  TWu := 35
  h_where := has_of (by kernel_rfl)
  stump := 12
  TStu := 43
  TSt1 := 87
  TSt2 := 55
  h_stump := has_of (by kernel_rfl)
  keysH1 := 86
  keysH := 56
  appH := 101
  collH := 84
  sortH := 85
  sortedH := 55
  isNaN := 87
  cmpU := 58
  leaves1 := 57
  leaves := 25
  TKm := 62
  TSH := 23
  TLv := 24
  h_keysH1 := has_of (by kernel_rfl)
  h_keysH := has_of (by kernel_rfl)
  h_appH := has_of (by kernel_rfl)
  h_collH := has_of (by kernel_rfl)
  h_sortH := sortH
  h_sortedH := has_of (by kernel_rfl)
  h_isNaN := has_of (by kernel_rfl)
  h_cmpU := has_of (by kernel_rfl)
  h_leaves1 := has_of (by kernel_rfl)
  h_leaves := has_of (by kernel_rfl)
  has := 24
  cut := 8
  same := 54
  TSm := 43
  TRo := 55
  h_has := has_of (by kernel_rfl)
  h_cut := has_of (by kernel_rfl)
  h_same := has_of (by kernel_rfl)
  h_TRo := tyRoot
  works := 11
  TWo := 64
  TWs := 43
  h_works := has_of (by kernel_rfl)
  undo := 23
  TUo := 64
  h_undo := has_of (by kernel_rfl)
  h_TPE := info_of (by kernel_rfl)
  mclone := 76
  cloneM := 47
  copy := 20
  TIf := 20
  TCp := 79
  h_mclone := ⟨_, Tryz.func76, by kernel_rfl, by kernel_rfl, by kernel_rfl, by kernel_rfl⟩
  h_cloneM := has_of (by kernel_rfl)
  h_copy := has_of (by kernel_rfl)
  isLeft := 63
  back1 := 88
  back := 61
  node1 := 89
  node := 64
  atF := 27
  TBk := 29
  TN1 := 87
  TNi := 3
  h_isLeft := has_of (by kernel_rfl)
  h_back1 := has_of (by kernel_rfl)
  h_back := has_of (by kernel_rfl)
  h_node1 := has_of (by kernel_rfl)
  h_node := has_of (by kernel_rfl)
  h_at := has_of (by kernel_rfl)
  equal := 22
  TBo := 4
  h_equal := has_of (by kernel_rfl)
  h_TBo := Tryz.underlying4
  prove := 9
  TPr := 31
  TPu := 35
  h_prove := has_of (by kernel_rfl)
  pairs := 67
  keysT := 68
  texts := 29
  TTx1 := 87
  TTx2 := 35
  TTx3 := 131
  h_texts := has_of (by kernel_rfl)
  lknown := 6
  TKn1 := 64
  TKn2 := 31
  TKn3 := 79
  h_lknown := has_of (by kernel_rfl)
end Go.Proofs.YtgkfgclebdikgaaGreatDoor


namespace Go.Proofs.YtgkfgclebdikgaaGreatDoor.forestKnown
open Go.ChangeShapes Go.WideShapes Go.ChangeAt Go.RowKit Go.Sp
theorem own : ownKnob Tryz.prog.godebug = none := by kernel_rfl
theorem g0 : Tryz.prog.globalNamed "spinney/sha512.first" = some 0 := by kernel_rfl
theorem g1 : Tryz.prog.globalNamed "spinney/sha512.constants" = some 1 := by kernel_rfl
theorem gt0 : (Tryz.prog.globals[0]?).map (·.type) = some 151 := by kernel_rfl
theorem gt1 : (Tryz.prog.globals[1]?).map (·.type) = some 184 := by kernel_rfl
theorem ceU : Tryz.prog.cellsOf 35 = 1 := by kernel_rfl
theorem ceG0 : Tryz.prog.cellsOf 151 = 8 := by kernel_rfl
theorem ceG1 : Tryz.prog.cellsOf 184 = 80 := by kernel_rfl
def zs (l : List Nat) : List Int := l.map Int.ofNat
theorem mem_of_tab {P : Program} {W : World} {name : String} {l : List Nat} {g : Nat} (h : Go.Lib.TabIs P W name .u64 (zs l)) (hg : P.globalNamed name = some g) : Mem W g 0 (l.map u64V) := by
  intro i v hi
  rw [List.getElem?_map] at hi
  cases hl : l[i]? with
  | none => rw [hl] at hi; cases hi
  | some n =>
    rw [hl] at hi
    have hv : v = u64V n := (Option.some.inj hi).symm
    subst hv
    have hlt := (List.getElem?_eq_some_iff.1 hl).1
    have := h.cell hg i (by simpa [zs] using hlt)
    rw [Nat.zero_add, this]
    simp [zs, List.getD, hl]
theorem lc : (Rows.laid_spinney_sha512_constants : DataW Unit) = Go.Lib.tabData .u64 (zs constW) := by kernel_rfl
theorem lf : (Rows.laid_spinney_sha512_first : DataW Unit) = Go.Lib.tabData .u64 (zs firstW) := by kernel_rfl
theorem laidMet_tail {P : Program} {W : World} {x : String × DataW Unit} {r : List (String × DataW Unit)} (h : laidMet P (x :: r) W) : laidMet P r W := by
  obtain ⟨n, d⟩ := x
  obtain ⟨ps, ⟨g, t, cs, fuel, p, q, _, _, _, _, hr, rfl⟩, hn, ha⟩ := h
  exact ⟨q, hr, hn.sublist (List.sublist_append_right _ _), fun b off hb => ha b off (List.mem_append_right _ hb)⟩
theorem tables {W : World} (h : laidMetH Tryz.prog Rows.forestKnownRow.laid W) : Tabs facts.toShaF W := by
  have h' : laidMet Tryz.prog [("spinney/sha512.constants", Rows.laid_spinney_sha512_constants), ("spinney/sha512.first", Rows.laid_spinney_sha512_first)] W := h
  rw [lc, lf] at h'
  exact ⟨mem_of_tab (Go.Lib.tabIs_of_head g0 gt0 Tryz.underlying151 Tryz.underlying35 ceU ceG0 (laidMet_tail h')) g0, mem_of_tab (Go.Lib.tabIs_of_head g1 gt1 Tryz.underlying184 Tryz.underlying35 ceU ceG1 h') g1⟩
theorem below_of {W W' : World} (h : Ext W W') : Below W.heap.size W W' := ⟨h.os, h.tape, h.output, h.size, fun k hk => h.block k hk (by simp)⟩
set_option maxRecDepth 100000 in
/-- what the walk gives, for every argument and every world that holds the tables -/
theorem contract (H : Type) (enc : TypeId × Value → H) (W : World) (base : Nat) (args : Array Value) (ds gs : List (DataW H)) (before : List MemPlace)
    (hval : ∀ (j : Nat) t v, Tryz.f6.params[j]? = some t → args[j]? = some v → Value.okWide Tryz.prog W .any base t v)
    (hW : DataW.Whole enc Tryz.prog Tryz.f6.params.toList Rows.forestKnownSpec.vars false W args.toList ds gs before) (hL : laidMetH Tryz.prog Rows.forestKnownRow.laid W) :
    Calls Tryz.prog 6 args W fun e W' => ∃ v, e = .returned v ∧ Rows.forestKnownSpec.post enc Tryz.prog Tryz.f6 false true false false W args v W' := by
  have hW' := hW
  obtain ⟨p, q, hA0, hV, rfl, hfz, hnd⟩ := hW
  have hA : DataW.TrodAll enc Tryz.prog W 0 (fun _ => true) true Tryz.f6.params.toList args.toList ds p := hA0
  rw [Tryz.params6] at hA hval
  obtain ⟨a0, rfl, rfl⟩ := trodAll_nil hA
  obtain rfl : args = #[] := Array.toList_inj.1 a0
  obtain ⟨rfl, rfl⟩ := trodVars_none hV
  clear hA0
  simp only [List.append_nil] at hW'
  have hlt : ∀ x ∈ ([] : List MemPlace), x.block < W.heap.size := fun x hx => by cases hx
  have walk : Calls Tryz.prog 6 _ W fun e w' => ∃ v, e = .returned v ∧ (v = .bool true ∧ Ext W w') := lknown_ok facts (tables hL) 
  refine walk.mono fun e W' ⟨v, he, hv, hu⟩ => ?_
  subst hv
  subst he
  have hb := below_of hu
  exact ⟨_, rfl, _, _, _, [], ([] : List MemPlace), [], hW', trodAll_cons_mk (shut_bool Tryz.underlying4 _) trodAll_mk0, trodAll_mk0, rfl, hb.frame _, fun h => by cases h⟩
noncomputable def laidWorld (os : Os) : World := World.laidAll Tryz.prog os Rows.forestKnownRow.laid
theorem laid_met (os : Os) : laidMet Tryz.prog Rows.forestKnownRow.laid ((laidWorld os).forCall (fun _ _ => 0) ⟨#[], #[], []⟩).memory :=
  laidMet_laidAll _ (by kernel_rfl) (by kernel_rfl)
theorem reads (os : Os) {H : Type} (enc : TypeId × Value → H) : ∃ places, DataW.whole enc Tryz.prog ((laidWorld os).forCall (fun _ _ => 0) ⟨#[], #[], []⟩).memory Tryz.f6.params.toList Rows.forestKnownSpec.vars false (#[] : Array Value).toList 8 = some ([], [], places) :=
  ⟨[], by kernel_rfl⟩
set_option maxRecDepth 100000 in
theorem lifted (os : Os) (started : os.Started) (H : Type) (enc : TypeId × Value → H) (F : Stop.Interp) :
    ReturnsInHanded {} Tryz.checked os 6 .any ((OpenSpec.ofChange Rows.forestKnownSpec).preRow enc Tryz.prog Tryz.f6 Rows.forestKnownRow.domain false Rows.forestKnownRow.laid) (((OpenSpec.ofChange Rows.forestKnownSpec).at F).post enc Tryz.prog Tryz.f6 false true false false) := by
  obtain ⟨places, hx⟩ := reads os enc
  refine returnsInHanded_of_row (C := Tryz.checked) (s := OpenSpec.ofChange Rows.forestKnownSpec) own started (by kernel_rfl) Tryz.func6
    (witness_row_at (enc := enc) (C := Tryz.checked) false (laidWorld os) #[] rfl (by kernel_rfl) (by kernel_rfl) (by kernel_rfl)
      (OpenSpec.preRow_of_cond 8 hx (by kernel_rfl) (fun k hk => by cases hk) (by kernel_rfl) (laid_met os))) ?_
  intro W base args ds gs before hval hW _ _ _ hL _ _
  exact contract H enc W base args ds gs before hval hW hL
theorem said : Rows.ForestKnownSaid :=
  OpenClaim.holds_of_cond 6 Tryz.f6 rfl rfl rfl rfl rfl rfl rfl ⟨rfl, rfl, rfl, rfl, rfl⟩ rfl rfl rfl rfl rfl (by kernel_rfl) Tryz.func6 (by kernel_rfl)
    (of_decide_eq_true (by kernel_rfl)) (by unfold Func.isWrapper; first | (rw [if_pos (by decide +kernel)]; kernel_rfl) | (rw [if_neg (by decide +kernel)]; exact ⟨rfl, rfl⟩))
    (fun os started H enc _ F => by rw [OpenClaim.pre_eq_preRow]; exact lifted os started H enc F)
theorem plain (f : FuncId) (fn : Func) (hf : Tryz.pinned.checked.prog.funcNamed "spinney/spinneylaw14.ForestKnown" = some f) (hfn : Tryz.pinned.checked.prog.funcs[f]? = some fn) :
    true = Tryz.pinned.checked.prog.looks [] ∧ ∀ (j : Nat) t, fn.params[j]? = some t → Tryz.pinned.checked.prog.wantsStandIn t = false := by
  obtain rfl : f = 6 := Option.some.inj ((show Tryz.prog.funcNamed "spinney/spinneylaw14.ForestKnown" = some 6 by kernel_rfl).symm.trans hf) |>.symm
  obtain rfl : fn = Tryz.f6 := (Option.some.inj (Tryz.func6.symm.trans hfn)).symm
  refine ⟨by kernel_rfl, fun j t ht => ?_⟩
  rw [Tryz.params6] at ht
  simp at ht
/-- THE CARD. -/
theorem card : Rows.ForestKnownCardSaid :=
  Claim7.holds_tied_plain_at .later [] _ _ _ _ said (fun _ h => by cases h) (by kernel_rfl) (fun _ h => by cases h) forestKnown_row_tie rfl ⟨rfl, rfl⟩ (by kernel_rfl) rfl plain (by kernel_rfl)
end Go.Proofs.YtgkfgclebdikgaaGreatDoor.forestKnown
