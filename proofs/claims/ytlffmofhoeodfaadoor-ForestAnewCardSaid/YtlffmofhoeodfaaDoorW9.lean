/- Proved: for every list of steps spinneylaw14.ForestAnew returns true and leaves its argument as it was; no condition. This text: part 9 of 11. -/
import Derived.Test.YtlffmofhoeodfaaDoorW8
namespace Go.Sp
/-- the hash of one byte and zeros -/
def hK (b : UInt8) : Hash := ⟨b :: List.replicate 31 0, rfl⟩
theorem hK_fill (b : UInt8) : fillL (rleL [(32, .int .u8 0)]) [(0, 1, .int .u8 b.toNat)] = some (hC (hK b)) := by
  rw [fillL_cons (size := 1) rfl (by decide)]
  rfl
theorem hK_ne {a b : UInt8} (h : a ≠ b) : hK a ≠ hK b := fun he => h (by have := congrArg (fun x : Hash => x.1.head?) he; simpa [hK] using this)
def lw1 : List (Option Hash) := [some (hK 1), some (hK 2), some (hK 3)]
def lw2 : List (Option Hash) := [none, some (hK 2), some (hK 3)]
theorem trees3 : treesN 3 = [1, 0] := by decide
theorem roots_lw1 : rootsT (treesT parH (lv lw1) 3) = [some (parH (hK 1) (hK 2)), some (hK 3)] := by
  rw [treesT, trees3]
  generalize parH = par
  rfl
theorem where_lw2 : whereT (treesT parH (lv lw2) 3) 3 1 = 4 := by
  rw [treesT, trees3]
  generalize parH = par
  have hr : rootN 3 1 = some 4 := by decide
  have hf : firstN 3 1 = 0 := by decide
  simp only [List.map_cons, whereT, hf, buildT, lv, lw2, List.find?]
  simp [inT, joinT, hr, whereN]
theorem Granted.not_refused {L : List (Option Hash)} {del add : List Hash} {e : Nat} (h : Granted L del add) : ¬ Refused L del add e := by
  rintro (⟨_, x, h1, h2⟩ | ⟨_, _, h1⟩ | ⟨_, _, _, h1⟩)
  · exact h2 (h.live x h1)
  · exact h1 h.once
  · exact h1 ⟨h.new, h.free⟩
/-- the functions of the laws, on -/
structure LawG (P : Program) extends LawF P where
  works : Nat
  TWo : Nat
  TWs : Nat
  h_works : Has P works (b_spinneylaw14_works new' modify stump where' parent TH TWo TWs)
section
variable {P : Program} {f : Nat} {w : World}
theorem nilS (w : World) : SlC w (.slice none 0 0) 32 ([] : List Hash).length (hs []) := .inl ⟨.inl rfl, rfl, rfl⟩
theorem works_ok (A : LawG P) (hT : Tabs A.toShaF w) : RetV P A.works [] w (.bool true) := by
  refine Ret.of_exec A.h_works (Nat.le_of_ble_eq_true rfl) fun c hc => ?_
  dsimp only [b_spinneylaw14_works, argEnv]
  repeat (first | refine xtm rfl rfl rfl ?_ | refine xgr rfl ?_ | refine xgs rfl rfl ?_ | refine xgu rfl rfl ?_ | refine xg0 rfl ?_ | refine xct rfl ?_ | refine xcf rfl ?_ | refine xbk ?_ | refine xsq ?_ | refine xbl ?_ | refine xex rfl ?_)
  refine xca rfl rfl (new_ok A.toForM) ?_
  rintro _ w1 ⟨p, m, rfl, hp, hm, hF, hu1⟩
  repeat (first | refine xtm rfl rfl rfl ?_ | refine xgr rfl ?_ | refine xgs rfl rfl ?_ | refine xgu rfl rfl ?_ | refine xg0 rfl ?_ | refine xct rfl ?_ | refine xcf rfl ?_ | refine xbk ?_ | refine xsq ?_ | refine xbl ?_ | refine xex rfl ?_)
  refine xju (ok_mkL (l := [(0, 1, .int .u8 1)]) (cs := hC (hK 1)) rfl (hK_fill 1)) rfl ?_
  refine xju (ok_mkL (l := [(0, 1, .int .u8 2)]) (cs := hC (hK 2)) rfl (hK_fill 2)) rfl ?_
  refine exec_new rfl ?_
  intro b2 w2 hb2 hs2 hu2 hB2
  refine exec_new rfl ?_
  intro b3 w3 hb3 hs3 hu3 hB3
  refine exec_store (b := b2) (o := 0) (v := hV (hK 1)) rfl rfl (hB2.upd hu3) (hV_size _) (by simp [rle]) (by rw [hV_cells]; exact hC_cell _) ?_
  intro w4 hu4 _ hB24
  refine exec_store (b := b3) (o := 0) (v := hV (hK 2)) rfl rfl (hB3.upd hu4 (by simp; omega)) (hV_size _) (by simp [rle]) (by rw [hV_cells]; exact hC_cell _) ?_
  intro w5 hu5 _ hB35
  rw [hV_cells, splice_all (by simp [hC_length, rle])] at hB24 hB35
  have hB25 := hB24.upd hu5 (by simp; omega)
  have z1 := hu1.size
  have k1 := hF.lt
  have hE15 : Ext w1 w5 := ((hu2.trans hu3).trans hu4 (fun b hb => .inr (by simp at hb; omega))).trans hu5 (fun b hb => .inr (by simp at hb; omega))
  repeat (first | refine xtm rfl rfl rfl ?_ | refine xgr rfl ?_ | refine xgs rfl rfl ?_ | refine xgu rfl rfl ?_ | refine xg0 rfl ?_ | refine xct rfl ?_ | refine xcf rfl ?_ | refine xbk ?_ | refine xsq ?_ | refine xbl ?_ | refine xex rfl ?_)
  refine exec_loadN (b := b2) (o := 0) (vs := hC (hK 1)) rfl rfl hB25.memAll (hC_length _) ?_
  refine exec_loadN (b := b3) (o := 0) (vs := hC (hK 2)) rfl rfl hB35.memAll (hC_length _) ?_
  refine xju (ok_mkL (l := [(0, 1, .int .u8 3)]) (cs := hC (hK 3)) rfl (hK_fill 3)) rfl ?_
  refine exec_litL (N := 32) (cs := hs [hK 1, hK 2, hK 3]) (l := [(0, 32, hV (hK 1)), (32, 32, hV (hK 2)), (64, 32, hV (hK 3))]) rfl rfl rfl rfl ?_
  intro bl w6 hbl hs6 hu6 hOl
  have hE16 := hE15.trans hu6
  have hG : Granted [] [] [hK 1, hK 2, hK 3] := ⟨by simp, by simp, by simp [hK_ne (show (1 : UInt8) ≠ 2 by decide), hK_ne (show (1 : UInt8) ≠ 3 by decide), hK_ne (show (2 : UInt8) ≠ 3 by decide)], by simp⟩
  refine xca rfl rfl (modify_ok A.toForL (hT.upd (hu1.trans hE16)) (hF.ext hE16) (del := []) (add := [hK 1, hK 2, hK 3]) (nilS _) hOl.sl (by simp) (by simp) (by simp)) ?_
  rintro v w7 (⟨e, _, hR, _⟩ | ⟨u, rfl, _, hF7, hU7, hu7⟩)
  · exact absurd hR hG.not_refused
  have ht6 := (hF.ext hE16).tabs (hT.upd (hu1.trans hE16))
  have hT7 : Tabs A.toShaF w7 := (hT.upd (hu1.trans hE16)).upd hu7 ht6.1 ht6.2
  have hmod : modL [] [hK 1, hK 2, hK 3] [] = lw1 := rfl
  rw [hmod] at hF7
  have hB27 : Blk w7 b2 (hC (hK 1)) := (hB25.upd hu6).upd hu7 (by simp; omega)
  have hB37 : Blk w7 b3 (hC (hK 2)) := (hB35.upd hu6).upd hu7 (by simp; omega)
  have hw7 : Ext w w7 := (hu1.trans hE16).trans hu7 (fun b hb => .inr (by simp at hb; rcases hb with rfl | rfl <;> omega))
  repeat (first | refine xtm rfl rfl rfl ?_ | refine xgr rfl ?_ | refine xgs rfl rfl ?_ | refine xgu rfl rfl ?_ | refine xg0 rfl ?_ | refine xct rfl ?_ | refine xcf rfl ?_ | refine xbk ?_ | refine xsq ?_ | refine xbl ?_ | refine xex rfl ?_)
  refine exec_new_store (v := u) rfl rfl rfl hU7.cells.1 rfl hU7.cells.2 ?_
  intro b4 w8 hb4 hs8 hu8 hB4
  repeat (first | refine xtm rfl rfl rfl ?_ | refine xgr rfl ?_ | refine xgs rfl rfl ?_ | refine xgu rfl rfl ?_ | refine xg0 rfl ?_ | refine xct rfl ?_ | refine xcf rfl ?_ | refine xbk ?_ | refine xsq ?_ | refine xbl ?_ | refine xex rfl ?_)
  refine xen [(1, ptrV p), (2, ptrV b2), (3, ptrV b3), (5, intV' 0), (23, ptrV p)] ⟨rfl, rfl, rfl, rfl, rfl, trivial⟩ ?_
  refine xca rfl rfl (stump_ok A.toForO (hF7.ext hu8)) ?_
  rintro _ w9 ⟨rv, rfl, hu9, hO9, hf9⟩
  rw [show (Fo.L ⟨lw1, _, _⟩).length = 3 from rfl, roots_lw1] at hO9
  obtain ⟨br, off, rc, rfl, _, _⟩ := rootsC_at (l := [some (parH (hK 1) (hK 2)), some (hK 3)]) (i := 0) hO9.sl rfl
  refine exec_new_store (v := .agg #[u64V 3, .slice (some ⟨br, off, none⟩) 2 rc]) rfl rfl rfl rfl rfl rfl ?_
  intro b6 w10 hb6 hs10 hu10 hB6
  have hB6' : Blk w10 b6 [u64V 3, .slice (some ⟨br, off, none⟩) 2 rc] := hB6
  have hE710 : Ext w7 w10 := (hu8.trans hu9).trans hu10
  have hO10 := hO9.upd hu10 (by simp)
  repeat (first | refine xtm rfl rfl rfl ?_ | refine xgr rfl ?_ | refine xgs rfl rfl ?_ | refine xgu rfl rfl ?_ | refine xg0 rfl ?_ | refine xct rfl ?_ | refine xcf rfl ?_ | refine xbk ?_ | refine xsq ?_ | refine xbl ?_ | refine xex rfl ?_)
  refine exec_loadN (b := b2) (o := 0) (vs := hC (hK 1)) rfl rfl (hB27.upd hE710).memAll (hC_length _) ?_
  refine exec_litL (N := 32) (cs := hs [hK 1]) (l := [(0, 32, hV (hK 1))]) rfl (by rw [hash_fill]; simp [hs]) rfl rfl ?_
  intro bm w11 hbm hs11 hu11 hOm
  have hE711 := hE710.trans hu11
  have hG2 : Granted lw1 [hK 1] [] := ⟨by simp [lw1], by simp, by simp, by simp⟩
  refine xca rfl rfl (modify_ok A.toForL (hT7.upd hE711) (hF7.ext hE711) (del := [hK 1]) (add := []) hOm.sl (nilS _) (by simp [lw1]) (by simp) (by simp)) ?_
  rintro v w12 (⟨e, _, hR, _⟩ | ⟨u2, rfl, _, hF12, hU12, hu12⟩)
  · exact absurd hR hG2.not_refused
  have hmod2 : modL [hK 1] [] lw1 = lw2 := by
    simp [modL, goneL, lw1, lw2, Option.filter, hK_ne (show (2 : UInt8) ≠ 1 by decide), hK_ne (show (3 : UInt8) ≠ 1 by decide)]
  have hF12' : FAt w12 p m ⟨lw2, 2, 2⟩ := by rw [← hmod2]; exact hF12
  have ht11 := (hF7.ext hE711).tabs (hT7.upd hE711)
  have hT12 : Tabs A.toShaF w12 := (hT7.upd hE711).upd hu12 ht11.1 ht11.2
  have z7 := hE16.size
  have z711 := hE711.size
  have z67 := hu7.size
  have hB312 : Blk w12 b3 (hC (hK 2)) := (hB37.upd hE711).upd hu12 (by simp; omega)
  have hB212 : Blk w12 b2 (hC (hK 1)) := (hB27.upd hE711).upd hu12 (by simp; omega)
  have hB612 : Blk w12 b6 [u64V 3, .slice (some ⟨br, off, none⟩) 2 rc] := (hB6'.upd hu11).upd hu12 (by simp; have := hu8.size; have := hu9.size; omega)
  have hO12 := (hO10.upd hu11 (by simp)).upd hu12 (by
    intro b hb hm
    have := hf9 b hb
    have := hu8.size
    simp at hm
    omega)
  have hw12 : Ext w w12 := (hw7.trans hE711).trans hu12 (fun b hb => .inr (by simp at hb; rcases hb with rfl | rfl <;> omega))
  repeat (first | refine xtm rfl rfl rfl ?_ | refine xgr rfl ?_ | refine xgs rfl rfl ?_ | refine xgu rfl rfl ?_ | refine xg0 rfl ?_ | refine xct rfl ?_ | refine xcf rfl ?_ | refine xbk ?_ | refine xsq ?_ | refine xbl ?_ | refine xex rfl ?_)
  refine exec_new_store (v := u2) rfl rfl rfl hU12.cells.1 rfl hU12.cells.2 ?_
  intro b7 w13 hb7 hs13 hu13 hB7
  repeat (first | refine xtm rfl rfl rfl ?_ | refine xgr rfl ?_ | refine xgs rfl rfl ?_ | refine xgu rfl rfl ?_ | refine xg0 rfl ?_ | refine xct rfl ?_ | refine xcf rfl ?_ | refine xbk ?_ | refine xsq ?_ | refine xbl ?_ | refine xex rfl ?_)
  refine exec_loadN (b := b3) (o := 0) (vs := hC (hK 2)) rfl rfl (hB312.upd hu13).memAll (hC_length _) ?_
  refine xca rfl rfl (where_ok A.toForN (hF12'.ext hu13) (hK 2)) ?_
  rintro v w14 ⟨hu14, hcase⟩
  rcases hcase with ⟨_, hno⟩ | ⟨x, rfl, hx⟩
  · exact absurd (by simp [lw2]) hno
  have hx1 : x = 1 := by
    have hx' : lw2[x]? = some (some (hK 2)) := hx
    match x, hx' with
    | 0, h => cases h
    | 1, _ => rfl
    | 2, h => exact absurd (Option.some.inj (Option.some.inj h)).symm (hK_ne (by decide))
    | x + 3, h => simp [lw2] at h
  subst hx1
  rw [show (Fo.L ⟨lw2, 2, 2⟩).length = 3 from rfl, where_lw2]
  have hE14 : Ext w12 w14 := hu13.trans hu14
  repeat (first | refine xtm rfl rfl rfl ?_ | refine xgr rfl ?_ | refine xgs rfl rfl ?_ | refine xgu rfl rfl ?_ | refine xg0 rfl ?_ | refine xct rfl ?_ | refine xcf rfl ?_ | refine xbk ?_ | refine xsq ?_ | refine xbl ?_ | refine xex rfl ?_)
  refine xen [(2, ptrV b2), (3, ptrV b3), (5, intV' 0), (6, ptrV b6), (8, intV' 0), (9, u64V 4), (10, .bool true)] ⟨rfl, rfl, rfl, rfl, rfl, rfl, rfl, trivial⟩ ?_
  refine exec_dwr rfl rfl rfl ?_
  repeat (first | refine wtm rfl rfl rfl ?_ | refine wgt rfl rfl rfl rfl ?_ | refine wgs rfl rfl ?_)
  refine ws_val rfl (pv_eqlI (a := 0) (b := 0) (q := true) rfl rfl rfl) ?_
  repeat (first | refine wtm rfl rfl rfl ?_ | refine wgt rfl rfl rfl rfl ?_ | refine wgs rfl rfl ?_)
  refine ws_gval rfl rfl (pv_eqlI (a := 0) (b := 0) (q := true) rfl rfl rfl) ?_
  repeat (first | refine wtm rfl rfl rfl ?_ | refine wgt rfl rfl rfl rfl ?_ | refine wgs rfl rfl ?_)
  refine ws_gkeep (.slice (some ⟨br, off, none⟩) 2 rc) rfl rfl (fun X hx => ok_load1 (b := b6) (o := 0 + 1) rfl ((hB612.upd (hE14.trans hx)).cell rfl)) ?_
  refine ws_gval rfl rfl (hO12.sl.lenS rfl) ?_
  refine ws_gval rfl rfl (pv_eqlI (a := 2) (b := 2) (q := true) rfl rfl rfl) ?_
  repeat (first | refine wtm rfl rfl rfl ?_ | refine wgt rfl rfl rfl rfl ?_ | refine wgs rfl rfl ?_)
  refine ws_gkeep (.slice (some ⟨br, off, none⟩) 2 rc) rfl rfl (fun X hx => ok_load1 (b := b6) (o := 0 + 1) rfl ((hB612.upd (hE14.trans hx)).cell rfl)) ?_
  obtain ⟨br2, off2, cap2, hrv2, _, hmr⟩ := rootsC_at (l := [some (parH (hK 1) (hK 2)), some (hK 3)]) (i := 0) hO12.sl rfl
  cases hrv2
  refine ws_gkeep _ rfl rfl (fun X hx => ok_iaddr (N := 33) (b := br) (o := off) (len := 2) (cap := rc) rfl rfl 0 rfl (by omega)) ?_
  repeat (first | refine wtm rfl rfl rfl ?_ | refine wgt rfl rfl rfl rfl ?_ | refine wgs rfl rfl ?_)
  have hmh : Mem w12 br (off + 0 * 33 + 1) (hC (parH (hK 1) (hK 2))) := hmr.sub 1 fun j x hj => by
    show (Value.bool true :: hC (parH (hK 1) (hK 2)))[1 + j]? = some x
    rw [Nat.add_comm, List.getElem?_cons_succ]; exact hj
  refine ws_gkeep (hV (parH (hK 1) (hK 2))) rfl rfl (fun X hx => ok_loadN (b := br) (o := off + 0 * 33 + 1) rfl (hmh.upd (hE14.trans hx) (by simp)) (hC_length _)) ?_
  refine ws_gkeep (hV (hK 1)) rfl rfl (fun X hx => ok_loadN (b := b2) (o := 0) rfl (hB212.upd (hE14.trans hx)).memAll (hC_length _)) ?_
  refine ws_gkeep (hV (hK 2)) rfl rfl (fun X hx => ok_loadN (b := b3) (o := 0) rfl (hB312.upd (hE14.trans hx)).memAll (hC_length _)) ?_
  refine ws_gext (hV (parH (hK 1) (hK 2))) rfl rfl (fun X hx => ok_call rfl (parH_ok A.toLeafF (hT12.upd (hE14.trans hx)) (hK 1) (hK 2))) ?_
  refine ws_fin fun w15 hw15 => ?_
  refine xgr rfl ?_
  refine xju (ok_eq_hash A.h_TH rfl rfl) rfl ?_
  simp only [decide_true]
  repeat (first | refine xtm rfl rfl rfl ?_ | refine xgr rfl ?_ | refine xgs rfl rfl ?_ | refine xgu rfl rfl ?_ | refine xg0 rfl ?_ | refine xct rfl ?_ | refine xcf rfl ?_ | refine xbk ?_ | refine xsq ?_ | refine xbl ?_ | refine xex rfl ?_)
  refine xpu (pv_eqlI (a := 4) (b := 4) (q := true) rfl rfl rfl) rfl ?_
  repeat (first | refine xtm rfl rfl rfl ?_ | refine xgr rfl ?_ | refine xgs rfl rfl ?_ | refine xgu rfl rfl ?_ | refine xg0 rfl ?_ | refine xct rfl ?_ | refine xcf rfl ?_ | refine xbk ?_ | refine xsq ?_ | refine xbl ?_ | refine xex rfl ?_)
  exact xre hc [_] ⟨rfl, trivial⟩ ⟨rfl, (hw12.trans hE14).trans hw15⟩
end
end Go.Sp

namespace Go.Sp
def zipL (all : List Hash) (live : List Bool) : List (Option Hash) := List.zipWith (fun h b => if b = true then some h else none) all live
def nextLive (del all : List Hash) (live : List Bool) : List Bool := List.zipWith (fun h b => b && !hasB del h) all live
theorem nextLive_len {del all : List Hash} {live : List Bool} (h : all.length = live.length) : (nextLive del all live).length = live.length := by simp [nextLive, h]
theorem zipL_len {all : List Hash} {live : List Bool} (h : all.length = live.length) : (zipL all live).length = all.length := by simp [zipL, h]
theorem goneL_zip (del : List Hash) : ∀ (all : List Hash) (live : List Bool), goneL del (zipL all live) = zipL all (nextLive del all live) := by
  intro all
  induction all with
  | nil => intro live; rfl
  | cons h all ih =>
    intro live
    cases live with
    | nil => rfl
    | cons b live =>
      have := ih live
      simp only [goneL, zipL, nextLive, List.zipWith_cons_cons, List.map_cons] at this ⊢
      rw [this]
      congr 1
      cases b with
      | false => rfl
      | true =>
        simp only [if_true, Bool.true_and, Option.filter]
        by_cases hd : h ∈ del
        · simp [hd, hasB_iff.2 hd]
        · have : hasB del h = false := by
            cases hb : hasB del h with
            | false => rfl
            | true => exact absurd (hasB_iff.1 hb) hd
          simp [hd, this]
theorem zipL_append {all all' : List Hash} {live live' : List Bool} (h : all.length = live.length) : zipL (all ++ all') (live ++ live') = zipL all live ++ zipL all' live' := List.zipWith_append h
theorem zipL_true : ∀ (add : List Hash), zipL add (add.map fun _ => true) = add.map some := by
  intro add
  induction add with
  | nil => rfl
  | cons a add ih =>
    simp only [zipL, List.map_cons, List.zipWith_cons_cons] at ih ⊢
    rw [ih]; simp
theorem modL_zip {del add all : List Hash} {live : List Bool} (h : all.length = live.length) : modL del add (zipL all live) = zipL (all ++ add) (nextLive del all live ++ add.map fun _ => true) := by
  rw [modL, goneL_zip, zipL_append (by rw [nextLive_len h, h]), zipL_true]
/-- steps, where they lie -/
def ActsAt (w : World) (v : Value) (l : List (List Hash × List Hash)) : Prop := ∃ cs, SlC w v 3 l.length cs ∧ ∀ (i : Nat) (a : List Hash × List Hash), l[i]? = some a → ∃ x dv av, cs[i * 3]? = some x ∧ cs[i * 3 + 1]? = some dv ∧ cs[i * 3 + 2]? = some av ∧
  SlC w dv 32 a.1.length (hs a.1) ∧ SlC w av 32 a.2.length (hs a.2)
theorem hs_strange {w : World} {v : Value} {l : List Hash} (h : OwnC w v 32 l.length (hs l)) (hn : l = [] → v = .slice none 0 0) : Foreign w (blkOf v) := by
  rcases h with ⟨rfl, _⟩ | ⟨b, cap, rest, rfl, hB, _, hl, _⟩
  · exact Foreign.nil w
  · refine Foreign.cons (Foreign.blk hB ?_) (Foreign.nil w)
    cases l with
    | nil => cases hn rfl
    | cons a l =>
      obtain ⟨n, hh⟩ := hC_head a (hs l ++ rest)
      have e : hs (a :: l) ++ rest = hC a ++ (hs l ++ rest) := by simp [hs]
      rw [e] at hl ⊢
      refine ⟨fun h => ?_, fun ⟨⟨q, h⟩, _⟩ => ?_⟩
      · omega
      · rw [hh] at h; cases h
theorem bs_strange {w : World} {v : Value} {l : List Bool} (h : OwnC w v 1 l.length (l.map .bool)) (hn : l = [] → v = .slice none 0 0) : Foreign w (blkOf v) := by
  rcases h with ⟨rfl, _⟩ | ⟨b, cap, rest, rfl, hB, _, hl, _⟩
  · exact Foreign.nil w
  · refine Foreign.cons (Foreign.blk hB ?_) (Foreign.nil w)
    cases l with
    | nil => cases hn rfl
    | cons a l => exact Strange.head (by simp) (by simp)
def mixB (nl live : List Bool) (k : Nat) : List Bool := nl.take k ++ live.drop k
theorem mixB_len {nl live : List Bool} {k : Nat} (h : nl.length = live.length) : (mixB nl live k).length = live.length := by
  simp [mixB]; omega
theorem mixB_get {nl live : List Bool} {k : Nat} {b : Bool} (h : nl.length = live.length) (hk : live[k]? = some b) : (mixB nl live k)[k]? = some b := by
  have hlt := (List.getElem?_eq_some_iff.1 hk).1
  have : (nl.take k).length = k := by simp; omega
  rw [mixB, List.getElem?_append_right (by omega), this, Nat.sub_self, List.getElem?_drop]; exact hk
theorem mixB_next {nl live : List Bool} {k : Nat} {b : Bool} (h : nl.length = live.length) (hk : nl[k]? = some b) : (mixB nl live k).set k b = mixB nl live (k + 1) := by
  have hlt := (List.getElem?_eq_some_iff.1 hk).1
  have hl : (nl.take k).length = k := by simp; omega
  rw [mixB, mixB, List.take_add_one, hk, List.set_append_right _ _ (by omega), hl, Nat.sub_self]
  have : live.drop k = live[k]'(by omega) :: live.drop (k + 1) := List.drop_eq_getElem_cons (by omega)
  rw [this, List.set_cons_zero, List.append_assoc]; rfl
theorem mixB_zero (nl live : List Bool) : mixB nl live 0 = live := by simp [mixB]
theorem mixB_all {nl live : List Bool} (h : nl.length = live.length) : mixB nl live live.length = nl := by
  rw [mixB, List.drop_length, List.append_nil, List.take_of_length_le (by omega)]
theorem nextLive_get {del all : List Hash} {live : List Bool} {k : Nat} {h : Hash} {b : Bool} (h1 : all[k]? = some h) (h2 : live[k]? = some b) : (nextLive del all live)[k]? = some (b && !hasB del h) := by
  rw [nextLive, List.getElem?_zipWith, h1, h2]
/-- a bool written into a list of one's own -/
theorem OwnC.put {w w' : World} {b cap n k : Nat} {l : List Bool} {x : Bool} (h : OwnC w (.slice (some ⟨b, 0, none⟩) n cap) 1 n (l.map .bool)) (hk : k < l.length)
    (hB : ∀ cs, Blk w b cs → Blk w' b (splice cs (0 + k * 1) [.bool x])) : OwnC w' (.slice (some ⟨b, 0, none⟩) n cap) 1 n ((l.set k x).map .bool) := by
  rcases h with ⟨h, _⟩ | ⟨b', cap', rest, hv, hBl, h1, h2, h3⟩
  · cases h
  · cases hv
    refine .inr ⟨b, cap, rest, rfl, ?_, ?_, ?_, h3⟩
    · have := hB _ hBl
      rw [splice_one _ _ _ (by simp; omega), Nat.zero_add, Nat.mul_one, List.set_append_left _ _ (by simpa using hk), ← List.map_set] at this
      exact this
    · simpa using h1
    · simpa using h2
theorem Foreign.append {w : World} {l l' : List Nat} (h : Foreign w l) (h' : Foreign w l') : Foreign w (l ++ l') := fun b hb => by
  rcases List.mem_append.1 hb with hb | hb
  · exact h b hb
  · exact h' b hb
/-- the functions of the laws, on -/
structure LawH (P : Program) extends LawG P where
  told : Nat
  TT1 : Nat
  TT2 : Nat
  h_told : Has P told (b_spinneylaw14_told new' cut modify has TT1 TH TT2)
/-- what told has gathered -/
structure Told (W : World) (n0 p m : Nat) (k : Nat) (s : Fo) (all : List Hash) (live : List Bool) (av lv' : Value) : Prop where
  f : FAt W p m s
  turns : s.turns ≤ k
  len : all.length ≤ 10 * k
  eq : all.length = live.length
  L : s.L = zipL all live
  oa : OwnC W av 32 all.length (hs all)
  ol : OwnC W lv' 1 live.length (live.map .bool)
  na : all = [] → av = .slice none 0 0 ∧ lv' = .slice none 0 0
  ba : ∀ b ∈ blkOf av, n0 ≤ b ∧ b ≠ p ∧ b ≠ m ∧ b ∉ blkOf lv'
  bl : ∀ b ∈ blkOf lv', n0 ≤ b ∧ b ≠ p ∧ b ≠ m ∧ b ∉ blkOf av
theorem Told.ext {W W' : World} {n0 p m k : Nat} {s : Fo} {all : List Hash} {live : List Bool} {av lv' : Value} (h : Told W n0 p m k s all live av lv') (hu : Ext W W') : Told W' n0 p m k s all live av lv' :=
  ⟨h.f.ext hu, h.turns, h.len, h.eq, h.L, h.oa.upd hu (by simp), h.ol.upd hu (by simp), h.na, h.ba, h.bl⟩
theorem Told.mono {W : World} {n0 p m k k' : Nat} {s : Fo} {all : List Hash} {live : List Bool} {av lv' : Value} (h : Told W n0 p m k s all live av lv') (hk : k ≤ k') : Told W n0 p m k' s all live av lv' :=
  ⟨h.f, Nat.le_trans h.turns hk, Nat.le_trans h.len (Nat.mul_le_mul_left 10 hk), h.eq, h.L, h.oa, h.ol, h.na, h.ba, h.bl⟩
section
variable {P : Program} {f : Nat} {w : World}
theorem ActsAt.at' {v : Value} {l : List (List Hash × List Hash)} {i : Nat} {a : List Hash × List Hash} (h : ActsAt w v l) (hi : l[i]? = some a) : ∃ b o cap x dv av, v = .slice (some ⟨b, o, none⟩) l.length cap ∧ i < l.length ∧ Mem w b (o + i * 3) [x, dv, av] ∧
    SlC w dv 32 a.1.length (hs a.1) ∧ SlC w av 32 a.2.length (hs a.2) := by
  obtain ⟨cs, hS, hall⟩ := h
  have hlt := (List.getElem?_eq_some_iff.1 hi).1
  obtain ⟨x, dv, av, g0, g1, g2, h1, h2⟩ := hall i a hi
  obtain ⟨b, o, cap, hv, hm, _⟩ := hS.at (by omega)
  refine ⟨b, o, cap, x, dv, av, hv, hlt, hm.sub (i * 3) (us := [x, dv, av]) (fun k y hk => ?_), h1, h2⟩
  match k, hk with
  | 0, hk => cases hk; exact g0
  | 1, hk => cases hk; exact g1
  | 2, hk => cases hk; exact g2
set_option maxHeartbeats 1600000 in
theorem told_ok (A : LawH P) (hT : Tabs A.toShaF w) {v : Value} {l : List (List Hash × List Hash)} (hl : ActsAt w v l) :
    Ret P A.told [v] w fun r w' => ∃ p m s all live av lv', r = .tuple #[ptrV p, av, lv'] ∧ w.heap.size ≤ p ∧ w.heap.size ≤ m ∧ Told w' w.heap.size p m 12 s all live av lv' ∧ Ext w w' := by
  refine Ret.of_exec A.h_told (Nat.le_of_ble_eq_true rfl) fun c hc => ?_
  dsimp only [b_spinneylaw14_told, argEnv]
  repeat (first | refine xtm rfl rfl rfl ?_ | refine xgr rfl ?_ | refine xgs rfl rfl ?_ | refine xgu rfl rfl ?_ | refine xg0 rfl ?_ | refine xct rfl ?_ | refine xcf rfl ?_ | refine xbk ?_ | refine xsq ?_ | refine xbl ?_ | refine xex rfl ?_)
  refine xca rfl rfl (new_ok A.toForM) ?_
  rintro _ w1 ⟨p, m, rfl, hp, hm, hF, hu1⟩
  repeat (first | refine xtm rfl rfl rfl ?_ | refine xgr rfl ?_ | refine xgs rfl rfl ?_ | refine xgu rfl rfl ?_ | refine xg0 rfl ?_ | refine xct rfl ?_ | refine xcf rfl ?_ | refine xbk ?_ | refine xsq ?_ | refine xbl ?_ | refine xex rfl ?_)
  have hlenS : ∃ cs, SlC w v 3 l.length cs := let ⟨cs, h, _⟩ := hl; ⟨cs, h⟩
  obtain ⟨lcs, hLS⟩ := hlenS
  refine exec_inner_join (S := Fo × List Hash × List Bool × Value × Value) (fun st W => Told W w.heap.size p m 12 st.1 st.2.1 st.2.2.1 st.2.2.2.1 st.2.2.2.2 ∧ Ext w W)
    (fun st => [(5, ptrV p), (6, st.2.2.2.1), (7, st.2.2.2.2)]) ?_ ?_
  rotate_left
  · rintro ⟨s, all, live, av, lv'⟩ W ⟨h1, h2⟩
    repeat (first | refine xtm rfl rfl rfl ?_ | refine xgr rfl ?_ | refine xgs rfl rfl ?_ | refine xgu rfl rfl ?_ | refine xg0 rfl ?_ | refine xct rfl ?_ | refine xcf rfl ?_ | refine xbk ?_ | refine xsq ?_ | refine xbl ?_ | refine xex rfl ?_)
    exact xre hc [_, _, _] ⟨rfl, rfl, rfl, trivial⟩ ⟨p, m, s, all, live, av, lv', rfl, hp, hm, h1, h2⟩
  refine xlo (S := Nat × Fo × List Hash × List Bool × Value × Value) (fun st W => st.1 ≤ 12 ∧ Told W w.heap.size p m st.1 st.2.1 st.2.2.1 st.2.2.2.1 st.2.2.2.2.1 st.2.2.2.2.2 ∧ Ext w W)
    (fun st => [(0, v), (5, ptrV p), (6, st.2.2.2.2.1), (7, st.2.2.2.2.2), (8, intV' st.1)]) (fun st => 12 - st.1) (0, ⟨[], 0, 0⟩, [], [], .slice none 0 0, .slice none 0 0)
    ⟨by show 0 ≤ 12; omega, ⟨hF, Nat.le_refl _, Nat.le_refl _, rfl, rfl, .inl ⟨rfl, rfl, rfl⟩, .inl ⟨rfl, rfl, rfl⟩, fun _ => ⟨rfl, rfl⟩, by simp [blkOf], by simp [blkOf]⟩, hu1⟩ ⟨rfl, rfl, rfl, rfl, rfl, trivial⟩ ?_
  rintro ⟨i, s, all, live, av, lv'⟩ W ⟨i1, hTo, hwW⟩
  simp only at i1 hTo
  refine xtm rfl rfl rfl ?_
  refine xtm rfl rfl rfl ?_
  refine xpu (hLS.lenS rfl) rfl ?_
  by_cases hil : i < l.length
  case neg =>
    refine xpu (pv_lssI (a := i) (b := l.length) (q := false) rfl rfl (by simpa using hil)) rfl ?_
    repeat (first | refine xtm rfl rfl rfl ?_ | refine xgr rfl ?_ | refine xgs rfl rfl ?_ | refine xgu rfl rfl ?_ | refine xg0 rfl ?_ | refine xct rfl ?_ | refine xcf rfl ?_ | refine xbk ?_ | refine xsq ?_ | refine xbl ?_ | refine xex rfl ?_)
    refine exec_meet (s, all, live, av, lv') ⟨hTo.mono i1, hwW⟩ ⟨rfl, rfl, rfl, trivial⟩
  refine xpu (pv_lssI (a := i) (b := l.length) (q := true) rfl rfl (by simpa using hil)) rfl ?_
  repeat (first | refine xtm rfl rfl rfl ?_ | refine xgr rfl ?_ | refine xgs rfl rfl ?_ | refine xgu rfl rfl ?_ | refine xg0 rfl ?_ | refine xct rfl ?_ | refine xcf rfl ?_ | refine xbk ?_ | refine xsq ?_ | refine xbl ?_ | refine xex rfl ?_)
  by_cases hi12 : i < 12
  case neg =>
    refine xpu (pv_lssI (a := i) (b := 12) (q := false) rfl rfl (by simpa using hi12)) rfl ?_
    repeat (first | refine xtm rfl rfl rfl ?_ | refine xgr rfl ?_ | refine xgs rfl rfl ?_ | refine xgu rfl rfl ?_ | refine xg0 rfl ?_ | refine xct rfl ?_ | refine xcf rfl ?_ | refine xbk ?_ | refine xsq ?_ | refine xbl ?_ | refine xex rfl ?_)
    refine exec_meet (s, all, live, av, lv') ⟨hTo.mono i1, hwW⟩ ⟨rfl, rfl, rfl, trivial⟩
  refine xpu (pv_lssI (a := i) (b := 12) (q := true) rfl rfl (by simpa using hi12)) rfl ?_
  repeat (first | refine xtm rfl rfl rfl ?_ | refine xgr rfl ?_ | refine xgs rfl rfl ?_ | refine xgu rfl rfl ?_ | refine xg0 rfl ?_ | refine xct rfl ?_ | refine xcf rfl ?_ | refine xbk ?_ | refine xsq ?_ | refine xbl ?_ | refine xex rfl ?_)
  obtain ⟨⟨del, add⟩, hai⟩ : ∃ a, l[i]? = some a := ⟨_, List.getElem?_eq_getElem hil⟩
  obtain ⟨bl, ol, cl, x, dv, ad, hv, _, hml, hSd, hSa⟩ := hl.at' hai
  simp only at hSd hSa
  refine xen [(0, v), (5, ptrV p), (6, av), (7, lv'), (8, intV' i)] ⟨rfl, rfl, rfl, rfl, rfl, trivial⟩ ?_
  refine exec_dwr rfl rfl rfl ?_
  repeat (first | refine wtm rfl rfl rfl ?_ | refine wgt rfl rfl rfl rfl ?_ | refine wgs rfl rfl ?_)
  refine ws_keep _ rfl (fun X hx => ok_iaddr (N := 3) (b := bl) (o := ol) (len := l.length) (cap := cl) (by rw [← hv]; rfl) rfl i rfl hil) ?_
  repeat (first | refine wtm rfl rfl rfl ?_ | refine wgt rfl rfl rfl rfl ?_ | refine wgs rfl rfl ?_)
  refine ws_keep dv rfl (fun X hx => ok_load1 (b := bl) (o := ol + i * 3 + 1) rfl ((hml.upd (hwW.trans hx) (by simp)) 1 dv rfl)) ?_
  refine ws_ext (cutV dv del) rfl (fun X hx => ok_call rfl (cut_ok A.toLawF (hSd.upd (hwW.trans hx) (by simp)))) ?_
  repeat (first | refine wtm rfl rfl rfl ?_ | refine wgt rfl rfl rfl rfl ?_ | refine wgs rfl rfl ?_)
  refine ws_keep _ rfl (fun X hx => ok_iaddr (N := 3) (b := bl) (o := ol) (len := l.length) (cap := cl) (by rw [← hv]; rfl) rfl i rfl hil) ?_
  repeat (first | refine wtm rfl rfl rfl ?_ | refine wgt rfl rfl rfl rfl ?_ | refine wgs rfl rfl ?_)
  refine ws_keep ad rfl (fun X hx => ok_load1 (b := bl) (o := ol + i * 3 + 2) rfl ((hml.upd (hwW.trans hx) (by simp)) 2 ad rfl)) ?_
  refine ws_fin fun w2 hw2 => ?_
  refine xca rfl rfl (cut_ok A.toLawF (hSa.upd (hwW.trans hw2) (by simp))) ?_
  rintro _ w3 ⟨rfl, hu3⟩
  repeat (first | refine xtm rfl rfl rfl ?_ | refine xgr rfl ?_ | refine xgs rfl rfl ?_ | refine xgu rfl rfl ?_ | refine xg0 rfl ?_ | refine xct rfl ?_ | refine xcf rfl ?_ | refine xbk ?_ | refine xsq ?_ | refine xbl ?_ | refine xex rfl ?_)
  have hW3 : Ext W w3 := hw2.trans hu3
  have hE3 : Ext w w3 := hwW.trans hW3
  have hTo3 := hTo.ext hW3
  refine xen [(0, v), (5, ptrV p), (6, av), (7, lv'), (8, intV' i), (9, cutV dv del), (10, cutV ad add), (39, ptrV p), (40, cutV dv del), (41, cutV ad add)] ⟨rfl, rfl, rfl, rfl, rfl, rfl, rfl, rfl, rfl, rfl, trivial⟩ ?_
  have hSd3 := cutV_sl (hSd.upd hE3 (by simp))
  have hSa3 := cutV_sl (hSa.upd hE3 (by simp))
  have hlen3 : s.L.length ≤ 120 := by rw [hTo.L, zipL_len hTo.eq]; have := hTo.len; omega
  have hd10 : (del.take 10).length ≤ 10 := by rw [List.length_take]; omega
  have ha10 : (add.take 10).length ≤ 10 := by rw [List.length_take]; omega
  have htu := hTo.turns
  have hT3 := hT.upd hE3
  refine xca rfl rfl (modify_ok A.toForL hT3 hTo3.f hSd3 hSa3 (by omega) (by omega) (by omega)) ?_
  rintro _ w4 hcase
  have ht3 := hTo3.f.tabs hT3
  have zE3 := hE3.size
  have hE4 : Ext w w4 := by
    rcases hcase with ⟨_, _, _, h⟩ | ⟨_, _, _, _, _, h⟩
    · exact hE3.trans h
    · exact hE3.trans h (fun b hb => .inr (by simp at hb; rcases hb with rfl | rfl <;> omega))
  rcases hcase with ⟨e, rfl, hR, hu4⟩ | ⟨u, rfl, hGr, hF4, hU4, hu4⟩
  · repeat (first | refine xtm rfl rfl rfl ?_ | refine xgr rfl ?_ | refine xgs rfl rfl ?_ | refine xgu rfl rfl ?_ | refine xg0 rfl ?_ | refine xct rfl ?_ | refine xcf rfl ?_ | refine xbk ?_ | refine xsq ?_ | refine xbl ?_ | refine xex rfl ?_)
    refine exec_new_store (v := .agg undoZ.toArray) rfl rfl rfl rfl rfl rfl ?_
    intro b11 w5 hb11 hs5 hu5 hB11
    have he0 : e ≠ 0 := by rcases hR with ⟨rfl, _⟩ | ⟨rfl, _⟩ | ⟨rfl, _⟩ <;> omega
    repeat (first | refine xtm rfl rfl rfl ?_ | refine xgr rfl ?_ | refine xgs rfl rfl ?_ | refine xgu rfl rfl ?_ | refine xg0 rfl ?_ | refine xct rfl ?_ | refine xcf rfl ?_ | refine xbk ?_ | refine xsq ?_ | refine xbl ?_ | refine xex rfl ?_)
    refine xpu (pv_neqI (a := e) (b := 0) (q := true) rfl rfl (by simpa using he0)) rfl ?_
    repeat (first | refine xtm rfl rfl rfl ?_ | refine xgr rfl ?_ | refine xgs rfl rfl ?_ | refine xgu rfl rfl ?_ | refine xg0 rfl ?_ | refine xct rfl ?_ | refine xcf rfl ?_ | refine xbk ?_ | refine xsq ?_ | refine xbl ?_ | refine xex rfl ?_)
    refine xpu (pv_addI (a := i) (b := 1) rfl rfl (by omega)) rfl ?_
    repeat (first | refine xtm rfl rfl rfl ?_ | refine xgr rfl ?_ | refine xgs rfl rfl ?_ | refine xgu rfl rfl ?_ | refine xg0 rfl ?_ | refine xct rfl ?_ | refine xcf rfl ?_ | refine xbk ?_ | refine xsq ?_ | refine xbl ?_ | refine xex rfl ?_)
    exact xag (i + 1, s, all, live, av, lv') ⟨hi12, ((hTo3.ext hu4).ext hu5).mono (Nat.le_succ _), hE4.trans hu5⟩ (by show 12 - (i + 1) < 12 - i; omega) ⟨rfl, rfl, rfl, rfl, rfl, trivial⟩
  · repeat (first | refine xtm rfl rfl rfl ?_ | refine xgr rfl ?_ | refine xgs rfl rfl ?_ | refine xgu rfl rfl ?_ | refine xg0 rfl ?_ | refine xct rfl ?_ | refine xcf rfl ?_ | refine xbk ?_ | refine xsq ?_ | refine xbl ?_ | refine xex rfl ?_)
    refine exec_new_store (v := u) rfl rfl rfl hU4.cells.1 rfl hU4.cells.2 ?_
    intro b11 w5 hb11 hs5 hu5 hB11
    repeat (first | refine xtm rfl rfl rfl ?_ | refine xgr rfl ?_ | refine xgs rfl rfl ?_ | refine xgu rfl rfl ?_ | refine xg0 rfl ?_ | refine xct rfl ?_ | refine xcf rfl ?_ | refine xbk ?_ | refine xsq ?_ | refine xbl ?_ | refine xex rfl ?_)
    refine xpu (pv_neqI (a := 0) (b := 0) (q := false) rfl rfl rfl) rfl ?_
    repeat (first | refine xtm rfl rfl rfl ?_ | refine xgr rfl ?_ | refine xgs rfl rfl ?_ | refine xgu rfl rfl ?_ | refine xg0 rfl ?_ | refine xct rfl ?_ | refine xcf rfl ?_ | refine xbk ?_ | refine xsq ?_ | refine xbl ?_ | refine xex rfl ?_)
    have hF5 := hF4.ext hu5
    have hE5 := hE4.trans hu5
    have hoa5 : OwnC w5 av 32 all.length (hs all) := (hTo3.oa.upd hu4 (fun b hb => by have := hTo3.ba b hb; simp; omega)).upd hu5 (by simp)
    have hol5 : OwnC w5 lv' 1 live.length (live.map .bool) := (hTo3.ol.upd hu4 (fun b hb => by have := hTo3.bl b hb; simp; omega)).upd hu5 (by simp)
    refine xen [(0, v), (5, ptrV p), (6, av), (7, lv'), (8, intV' i), (9, cutV dv del), (10, cutV ad add), (13, intV' 0)] ⟨rfl, rfl, rfl, rfl, rfl, rfl, rfl, rfl, trivial⟩ ?_
    have heq := hTo.eq
    have hal := hTo.len
    have hnl := nextLive_len (del := del.take 10) heq
    refine xlo (S := Nat) (fun k W => k ≤ live.length ∧ OwnC W lv' 1 live.length ((mixB (nextLive (del.take 10) all live) live k).map .bool) ∧ Upd (blkOf lv') w5 W)
      (fun k => [(0, v), (5, ptrV p), (6, av), (7, lv'), (8, intV' i), (9, cutV dv del), (10, cutV ad add), (13, intV' k)]) (fun k => live.length - k) 0
      ⟨Nat.zero_le _, by rw [mixB_zero]; exact hol5, Upd.refl _ _⟩ ⟨rfl, rfl, rfl, rfl, rfl, rfl, rfl, rfl, trivial⟩ ?_
    rintro k X ⟨k1, kO, kU⟩
    have zE5 := hE5.size
    have hwX : Ext w X := hE5.trans kU (fun b hb => .inr (hTo3.bl b hb).1)
    have koa : OwnC X av 32 all.length (hs all) := hoa5.upd kU (fun b hb => (hTo3.ba b hb).2.2.2)
    refine xtm rfl rfl rfl ?_
    refine xtm rfl rfl rfl ?_
    refine xpu (koa.sl.lenS rfl) rfl ?_
    by_cases hk : k < all.length
    · refine xpu (pv_lssI (a := k) (b := all.length) (q := true) rfl rfl (by simpa using hk)) rfl ?_
      repeat (first | refine xtm rfl rfl rfl ?_ | refine xgr rfl ?_ | refine xgs rfl rfl ?_ | refine xgu rfl rfl ?_ | refine xg0 rfl ?_ | refine xct rfl ?_ | refine xcf rfl ?_ | refine xbk ?_ | refine xsq ?_ | refine xbl ?_ | refine xex rfl ?_)
      obtain ⟨hh, hhk⟩ : ∃ h, all[k]? = some h := ⟨_, List.getElem?_eq_getElem hk⟩
      obtain ⟨bk, hbk⟩ : ∃ b, live[k]? = some b := ⟨_, List.getElem?_eq_getElem (by omega)⟩
      have kO0 := kO
      have hl0 := mixB_len (k := k) hnl
      rcases kO0 with ⟨_, h0, _⟩ | ⟨bb, cap, rest, rfl, hBb, ho1, ho2, ho3⟩
      · omega
      refine xju (ok_iaddr (N := 1) (b := bb) (o := 0) (len := live.length) (cap := cap) rfl rfl k rfl (by omega)) rfl ?_
      have hcell : ((mixB (nextLive (del.take 10) all live) live k).map Value.bool ++ rest)[0 + k * 1]? = some (.bool bk) := by
        rw [Nat.zero_add, Nat.mul_one, List.getElem?_append_left (by simp; omega), List.getElem?_map, mixB_get hnl hbk]; rfl
      refine exec_load1 (b := bb) (o := 0 + k * 1) rfl rfl (hBb.cell hcell) ?_
      repeat (first | refine xtm rfl rfl rfl ?_ | refine xgr rfl ?_ | refine xgs rfl rfl ?_ | refine xgu rfl rfl ?_ | refine xg0 rfl ?_ | refine xct rfl ?_ | refine xcf rfl ?_ | refine xbk ?_ | refine xsq ?_ | refine xbl ?_ | refine xex rfl ?_)
      have next : ∀ (en : Env), Env.sub [(0, v), (5, ptrV p), (6, av), (7, .slice (some ⟨bb, 0, none⟩) live.length cap), (8, intV' i), (9, cutV dv del), (10, cutV ad add), (13, intV' k), (53, .slice (some ⟨bb, 0, none⟩) live.length cap), (54, intV' k), (67, .bool (bk && !hasB (del.take 10) hh))] en →
          ∀ X2, Ext X X2 → ∀ is K, (∀ X3 en3, Env.sub [(0, v), (5, ptrV p), (6, av), (7, .slice (some ⟨bb, 0, none⟩) live.length cap), (8, intV' i), (9, cutV dv del), (10, cutV ad add), (13, intV' k)] en3 →
            OwnC X3 (.slice (some ⟨bb, 0, none⟩) live.length cap) 1 live.length ((mixB (nextLive (del.take 10) all live) live (k + 1)).map .bool) → Upd [bb] w5 X3 → Exec P 88 c [] is K en3 X3) →
            Exec P 88 c [] (.op none (some 68) (.iaddr 1 (.tmp 53) (.tmp 54)) :: .op none none (.store 1 (.tmp 68) (.tmp 67)) :: is) K en X2 := by
        intro en hen X2 hX2 is K hK
        refine xen _ hen ?_
        refine xju (ok_iaddr (N := 1) (b := bb) (o := 0) (len := live.length) (cap := cap) rfl rfl k rfl (by omega)) rfl ?_
        refine exec_store (b := bb) (o := 0 + k * 1) (v := .bool (bk && !hasB (del.take 10) hh)) rfl rfl (hBb.upd hX2) rfl (by simp; omega) rfl ?_
        intro X3 hX3 _ hB3
        refine hK X3 _ ⟨rfl, rfl, rfl, rfl, rfl, rfl, rfl, rfl, trivial⟩ ?_ ((kU.trans hX2).trans hX3 (by simp [blkOf]))
        have := (kO.upd hX2 (by simp)).put (w' := X3) (k := k) (x := bk && !hasB (del.take 10) hh) (by omega) (fun cs hcs => by rw [blk_inj hcs (hBb.upd hX2)]; exact hB3)
        rw [mixB_next hnl (nextLive_get hhk hbk)] at this
        exact this
      cases bk with
      | false =>
        repeat (first | refine xtm rfl rfl rfl ?_ | refine xgr rfl ?_ | refine xgs rfl rfl ?_ | refine xgu rfl rfl ?_ | refine xg0 rfl ?_ | refine xct rfl ?_ | refine xcf rfl ?_ | refine xbk ?_ | refine xsq ?_ | refine xbl ?_ | refine xex rfl ?_)
        refine next _ ⟨rfl, rfl, rfl, rfl, rfl, rfl, rfl, rfl, rfl, rfl, rfl, trivial⟩ X (Upd.refl _ _) _ _ ?_
        intro X3 en3 hen3 hO3 hU3
        refine xen _ hen3 ?_
        repeat (first | refine xtm rfl rfl rfl ?_ | refine xgr rfl ?_ | refine xgs rfl rfl ?_ | refine xgu rfl rfl ?_ | refine xg0 rfl ?_ | refine xct rfl ?_ | refine xcf rfl ?_ | refine xbk ?_ | refine xsq ?_ | refine xbl ?_ | refine xex rfl ?_)
        refine xpu (pv_addI (a := k) (b := 1) rfl rfl (by omega)) rfl ?_
        repeat (first | refine xtm rfl rfl rfl ?_ | refine xgr rfl ?_ | refine xgs rfl rfl ?_ | refine xgu rfl rfl ?_ | refine xg0 rfl ?_ | refine xct rfl ?_ | refine xcf rfl ?_ | refine xbk ?_ | refine xsq ?_ | refine xbl ?_ | refine xex rfl ?_)
        exact xag (k + 1) ⟨by show k + 1 ≤ live.length; omega, hO3, hU3⟩ (by show live.length - (k + 1) < live.length - k; omega) ⟨rfl, rfl, rfl, rfl, rfl, rfl, rfl, rfl, trivial⟩
      | true =>
        repeat (first | refine xtm rfl rfl rfl ?_ | refine xgr rfl ?_ | refine xgs rfl rfl ?_ | refine xgu rfl rfl ?_ | refine xg0 rfl ?_ | refine xct rfl ?_ | refine xcf rfl ?_ | refine xbk ?_ | refine xsq ?_ | refine xbl ?_ | refine xex rfl ?_)
        obtain ⟨ba, oa, ca, hav, _, hma⟩ := hs_at koa.sl hhk
        refine xju (ok_iaddr (N := 32) (b := ba) (o := oa) (len := all.length) (cap := ca) (by rw [← hav]; rfl) rfl k rfl hk) rfl ?_
        refine xgr rfl ?_
        refine exec_loadN (b := ba) (o := oa + k * 32) (vs := hC hh) rfl rfl hma (hC_length _) ?_
        refine xgr rfl ?_
        refine xca rfl rfl (has_ok A.toLawF (cutV_sl (hSd.upd hwX (by simp))) (by omega) hh) ?_
        rintro _ X2 ⟨rfl, hX2⟩
        repeat (first | refine xtm rfl rfl rfl ?_ | refine xgr rfl ?_ | refine xgs rfl rfl ?_ | refine xgu rfl rfl ?_ | refine xg0 rfl ?_ | refine xct rfl ?_ | refine xcf rfl ?_ | refine xbk ?_ | refine xsq ?_ | refine xbl ?_ | refine xex rfl ?_)
        refine next _ ⟨rfl, rfl, rfl, rfl, rfl, rfl, rfl, rfl, rfl, rfl, rfl, trivial⟩ X2 hX2 _ _ ?_
        intro X3 en3 hen3 hO3 hU3
        refine xen _ hen3 ?_
        repeat (first | refine xtm rfl rfl rfl ?_ | refine xgr rfl ?_ | refine xgs rfl rfl ?_ | refine xgu rfl rfl ?_ | refine xg0 rfl ?_ | refine xct rfl ?_ | refine xcf rfl ?_ | refine xbk ?_ | refine xsq ?_ | refine xbl ?_ | refine xex rfl ?_)
        refine xpu (pv_addI (a := k) (b := 1) rfl rfl (by omega)) rfl ?_
        repeat (first | refine xtm rfl rfl rfl ?_ | refine xgr rfl ?_ | refine xgs rfl rfl ?_ | refine xgu rfl rfl ?_ | refine xg0 rfl ?_ | refine xct rfl ?_ | refine xcf rfl ?_ | refine xbk ?_ | refine xsq ?_ | refine xbl ?_ | refine xex rfl ?_)
        exact xag (k + 1) ⟨by show k + 1 ≤ live.length; omega, hO3, hU3⟩ (by show live.length - (k + 1) < live.length - k; omega) ⟨rfl, rfl, rfl, rfl, rfl, rfl, rfl, rfl, trivial⟩
    · refine xpu (pv_lssI (a := k) (b := all.length) (q := false) rfl rfl (by simpa using hk)) rfl ?_
      have : k = live.length := by omega
      subst this
      rw [mixB_all hnl] at kO
      repeat (first | refine xtm rfl rfl rfl ?_ | refine xgr rfl ?_ | refine xgs rfl rfl ?_ | refine xgu rfl rfl ?_ | refine xg0 rfl ?_ | refine xct rfl ?_ | refine xcf rfl ?_ | refine xbk ?_ | refine xsq ?_ | refine xbl ?_ | refine xex rfl ?_)
      refine xen [(0, v), (5, ptrV p), (6, av), (7, lv'), (8, intV' i), (10, cutV ad add), (14, intV' 0)] ⟨rfl, rfl, rfl, rfl, rfl, rfl, rfl, trivial⟩ ?_
      have hlX := hs_strange koa (fun h => (hTo3.na h).1)
      have hF : FAt X p m _ := hF5.upd kU (bs_strange hol5 fun h => (hTo3.na (by cases all with
        | nil => rfl
        | cons a r => rw [h] at heq; simp at heq)).2) (fun h => (hTo3.bl p h).2.1 rfl) (fun h => (hTo3.bl m h).2.2.1 rfl)
      generalize hnle : nextLive (del.take 10) all live = nl at *
      refine xlo (S := Nat × Value × Value) (fun st W => st.1 ≤ (add.take 10).length ∧ OwnC W st.2.1 32 (all ++ (add.take 10).take st.1).length (hs (all ++ (add.take 10).take st.1)) ∧
          OwnC W st.2.2 1 (nl ++ ((add.take 10).take st.1).map fun _ => true).length ((nl ++ ((add.take 10).take st.1).map fun _ => true).map .bool) ∧ Upd (blkOf av ++ blkOf lv') X W ∧
          (∀ b ∈ blkOf st.2.1, (b ∈ blkOf av ∨ X.heap.size ≤ b) ∧ b ∉ blkOf st.2.2) ∧ (∀ b ∈ blkOf st.2.2, (b ∈ blkOf lv' ∨ X.heap.size ≤ b) ∧ b ∉ blkOf st.2.1) ∧ (all ++ (add.take 10).take st.1 = [] → st.2.1 = .slice none 0 0 ∧ st.2.2 = .slice none 0 0))
        (fun st => [(0, v), (5, ptrV p), (6, st.2.1), (7, st.2.2), (8, intV' i), (10, cutV ad add), (14, intV' st.1)]) (fun st => (add.take 10).length - st.1) (0, av, lv')
        ⟨Nat.zero_le _, by simpa using koa, by simpa [hnl] using kO, Upd.refl _ _, fun b hb => ⟨.inl hb, (hTo3.ba b hb).2.2.2⟩, fun b hb => ⟨.inl hb, (hTo3.bl b hb).2.2.2⟩, fun h => hTo3.na (by simpa using h)⟩ ⟨rfl, rfl, rfl, rfl, rfl, rfl, rfl, trivial⟩ ?_
      rintro ⟨j, av2, lv2⟩ Y ⟨j1, jA, jL, jU, jba, jbl, jn⟩
      simp only at j1 jA jL jba jbl jn
      have zX := hwX.size
      have hwY : Ext w Y := hwX.trans jU (fun b hb => .inr (by
        rcases List.mem_append.1 hb with h | h
        · exact (hTo3.ba b h).1
        · exact (hTo3.bl b h).1))
      have hSaY := cutV_sl (hSa.upd hwY (by simp))
      refine xtm rfl rfl rfl ?_
      refine xtm rfl rfl rfl ?_
      refine xpu (hSaY.lenS rfl) rfl ?_
      by_cases hj : j < (add.take 10).length
      · refine xpu (pv_lssI (a := j) (b := (add.take 10).length) (q := true) rfl rfl (by simpa using hj)) rfl ?_
        repeat (first | refine xtm rfl rfl rfl ?_ | refine xgr rfl ?_ | refine xgs rfl rfl ?_ | refine xgu rfl rfl ?_ | refine xg0 rfl ?_ | refine xct rfl ?_ | refine xcf rfl ?_ | refine xbk ?_ | refine xsq ?_ | refine xbl ?_ | refine xex rfl ?_)
        obtain ⟨ah, hah⟩ : ∃ h, (add.take 10)[j]? = some h := ⟨_, List.getElem?_eq_getElem hj⟩
        have htk : (add.take 10).take (j + 1) = (add.take 10).take j ++ [ah] := by rw [List.take_add_one, hah]; rfl
        obtain ⟨bd, od, cd, hdv, _, hmd⟩ := hs_at hSaY hah
        have hjl : ((add.take 10).take j).length = j := by rw [List.length_take]; omega
        refine xju (ok_iaddr (N := 32) (b := bd) (o := od) (len := (add.take 10).length) (cap := cd) (by rw [← hdv]; rfl) rfl j rfl hj) rfl ?_
        refine exec_loadN (b := bd) (o := od + j * 32) (vs := hC ah) rfl rfl hmd (hC_length _) ?_
        refine exec_litL (N := 32) (cs := hC ah) (l := [(0, 32, hV ah)]) rfl (hash_fill ah) (by rw [hC_length]) rfl ?_
        intro bq Y1 hbq hsq hY1 hOq
        have hla2 : (all ++ (add.take 10).take j).length ≤ 130 := by rw [List.length_append, hjl]; omega
        refine exec_ok (ok_append (N := 32) rfl rfl (jA.upd hY1 (by simp)) hOq.sl rfl (by decide) (by omega) (hC_cell _)) rfl ?_
        rintro av3 Y2 ⟨hO2, hY2, hf2, hl2⟩
        have zY1 := hY1.size
        have zY2 := hY2.size
        have zXY := jU.size
        have jL2 := (jL.upd hY1 (by simp)).upd hY2 (fun b hb => (jbl b hb).2)
        repeat (first | refine xtm rfl rfl rfl ?_ | refine xgr rfl ?_ | refine xgs rfl rfl ?_ | refine xgu rfl rfl ?_ | refine xg0 rfl ?_ | refine xct rfl ?_ | refine xcf rfl ?_ | refine xbk ?_ | refine xsq ?_ | refine xbl ?_ | refine xex rfl ?_)
        refine exec_litL (N := 1) (cs := [.bool true]) (l := [(0, 1, .bool true)]) rfl rfl rfl rfl ?_
        intro br Y3 hbr hsr hY3 hOr
        have hll2 : (nl ++ ((add.take 10).take j).map fun _ => true).length ≤ 130 := by rw [List.length_append, List.length_map, hjl, hnl, ← heq]; omega
        refine exec_ok (ok_append (N := 1) rfl rfl (jL2.upd hY3 (by simp)) hOr.sl rfl (by decide) (by omega) rfl) rfl ?_
        rintro lv3 Y4 ⟨hO4, hY4, hf4, hl4⟩
        have zY3 := hY3.size
        repeat (first | refine xtm rfl rfl rfl ?_ | refine xgr rfl ?_ | refine xgs rfl rfl ?_ | refine xgu rfl rfl ?_ | refine xg0 rfl ?_ | refine xct rfl ?_ | refine xcf rfl ?_ | refine xbk ?_ | refine xsq ?_ | refine xbl ?_ | refine xex rfl ?_)
        refine xpu (pv_addI (a := j) (b := 1) rfl rfl (by omega)) rfl ?_
        repeat (first | refine xtm rfl rfl rfl ?_ | refine xgr rfl ?_ | refine xgs rfl rfl ?_ | refine xgu rfl rfl ?_ | refine xg0 rfl ?_ | refine xct rfl ?_ | refine xcf rfl ?_ | refine xbk ?_ | refine xsq ?_ | refine xbl ?_ | refine xex rfl ?_)
        have kl2 : ∀ b ∈ blkOf lv2, b < Y.heap.size := fun b hb => jL.lt b hb
        have d34 : ∀ b ∈ blkOf av3, b ∉ blkOf lv3 := by
          intro b hb hb'
          have h1 := hl2 b hb
          rcases hf4 b hb' with h | h
          · rcases hf2 b hb with g | g
            · exact (jba b g).2 h
            · have := kl2 b h; omega
          · omega
        have hA4 := (hO2.upd hY3 (by simp)).upd hY4 (fun b hb hb' => by
          have h1 := hl2 b hb
          rcases hf2 b hb with g | g
          · exact (jba b g).2 hb'
          · have := kl2 b hb'; omega)
        refine xag (j + 1, av3, lv3) ⟨hj, ?_, ?_, ?_, fun b hb => ⟨?_, d34 b hb⟩, fun b hb => ⟨?_, fun h => d34 b h hb⟩, fun h => ?_⟩ (by show (add.take 10).length - (j + 1) < (add.take 10).length - j; omega) ⟨rfl, rfl, rfl, rfl, rfl, rfl, rfl, trivial⟩
        · rw [htk, ← List.append_assoc, hs_append, List.length_append]
          simpa [hs] using hA4
        · rw [htk, List.map_append, ← List.append_assoc, List.map_append, List.length_append]
          exact hO4
        · refine (((jU.trans hY1).trans hY2 (fun b hb => ?_)).trans hY3).trans hY4 (fun b hb => ?_)
          · exact (jba b hb).1.imp (fun h => List.mem_append_left _ h) id
          · exact (jbl b hb).1.imp (fun h => List.mem_append_right _ h) id
        · rcases hf2 b hb with g | g
          · exact (jba b g).1
          · right; omega
        · rcases hf4 b hb with g | g
          · exact (jbl b g).1
          · right; omega
        · have h' : all ++ (add.take 10).take (j + 1) = [] := h
          rw [htk] at h'; simp at h'
      · refine xpu (pv_lssI (a := j) (b := (add.take 10).length) (q := false) rfl rfl (by simpa using hj)) rfl ?_
        have : j = (add.take 10).length := by omega
        subst this
        rw [List.take_length] at jA jL jn
        repeat (first | refine xtm rfl rfl rfl ?_ | refine xgr rfl ?_ | refine xgs rfl rfl ?_ | refine xgu rfl rfl ?_ | refine xg0 rfl ?_ | refine xct rfl ?_ | refine xcf rfl ?_ | refine xbk ?_ | refine xsq ?_ | refine xbl ?_ | refine xex rfl ?_)
        refine xpu (pv_addI (a := i) (b := 1) rfl rfl (by omega)) rfl ?_
        repeat (first | refine xtm rfl rfl rfl ?_ | refine xgr rfl ?_ | refine xgs rfl rfl ?_ | refine xgu rfl rfl ?_ | refine xg0 rfl ?_ | refine xct rfl ?_ | refine xcf rfl ?_ | refine xbk ?_ | refine xsq ?_ | refine xbl ?_ | refine xex rfl ?_)
        have hnl0 : nl = [] → lv' = .slice none 0 0 := fun h => (hTo3.na (by
          rw [h] at hnl
          cases all with
          | nil => rfl
          | cons a r => simp at hnl heq; omega)).2
        have hfor : Foreign X (blkOf av ++ blkOf lv') := hlX.append (bs_strange (l := nl) (by rw [hnl]; exact kO) hnl0)
        have kp := hF.lt
        refine xag (i + 1, _, all ++ add.take 10, nl ++ (add.take 10).map fun _ => true, av2, lv2) ⟨hi12, ⟨hF.upd jU hfor ?_ ?_, ?_, ?_, ?_, ?_, jA, jL, jn, ?_, ?_⟩, hwY⟩ (by show 12 - (i + 1) < 12 - i; omega) ⟨rfl, rfl, rfl, rfl, rfl, trivial⟩
        · intro h
          rcases List.mem_append.1 h with h | h
          · exact (hTo3.ba p h).2.1 rfl
          · exact (hTo3.bl p h).2.1 rfl
        · intro h
          rcases List.mem_append.1 h with h | h
          · exact (hTo3.ba m h).2.2.1 rfl
          · exact (hTo3.bl m h).2.2.1 rfl
        · show s.turns + 1 ≤ i + 1; omega
        · show (all ++ add.take 10).length ≤ 10 * (i + 1)
          rw [List.length_append]; omega
        · show (all ++ add.take 10).length = (nl ++ (add.take 10).map fun _ => true).length
          rw [List.length_append, List.length_append, List.length_map, hnl, heq]
        · show modL (del.take 10) (add.take 10) s.L = _
          rw [hTo.L, modL_zip heq, hnle]
        · intro b hb
          rcases (jba b hb).1 with h | h
          · have := hTo3.ba b h; exact ⟨this.1, this.2.1, this.2.2.1, (jba b hb).2⟩
          · exact ⟨by omega, by omega, by omega, (jba b hb).2⟩
        · intro b hb
          rcases (jbl b hb).1 with h | h
          · have := hTo3.bl b h; exact ⟨this.1, this.2.1, this.2.2.1, (jbl b hb).2⟩
          · exact ⟨by omega, by omega, by omega, (jbl b hb).2⟩
end
end Go.Sp

namespace Go.Sp
/-- who is live while the dead ones go, from the last on -/
def stageB (live : List Bool) (c : Nat) : List Bool := List.replicate c true ++ live.drop c
theorem stageB_get {live : List Bool} {c j : Nat} (hc : c ≤ live.length) : (stageB live c)[j]? = if j < c then some true else live[j]? := by
  rw [stageB]
  split
  · rename_i h
    rw [List.getElem?_append_left (by simpa using h), List.getElem?_replicate, if_pos h]
  · rename_i h
    rw [List.getElem?_append_right (by simpa using h), List.length_replicate, List.getElem?_drop]
    congr 1; omega
theorem stageB_len {live : List Bool} {c : Nat} (hc : c ≤ live.length) : (stageB live c).length = live.length := by simp [stageB]; omega
theorem stage_keep {live : List Bool} {c : Nat} (h : live[c]? = some true) : stageB live (c + 1) = stageB live c := by
  have hlt := (List.getElem?_eq_some_iff.1 h).1
  refine List.ext_getElem? fun j => ?_
  rw [stageB_get (by omega), stageB_get (by omega)]
  rcases Nat.lt_trichotomy j c with hj | hj | hj
  · rw [if_pos (by omega), if_pos hj]
  · subst hj; rw [if_pos (by omega), if_neg (by omega), h]
  · rw [if_neg (by omega), if_neg (by omega)]
theorem stage_drop {all : List Hash} {live : List Bool} {c : Nat} {x : Hash} (hn : all.Nodup) (hl : all.length = live.length) (h : live[c]? = some false) (hx : all[c]? = some x) : nextLive [x] all (stageB live (c + 1)) = stageB live c := by
  have hlt := (List.getElem?_eq_some_iff.1 h).1
  refine List.ext_getElem? fun j => ?_
  rcases Nat.lt_or_ge j all.length with hj | hj
  · obtain ⟨a, ha⟩ : ∃ a, all[j]? = some a := ⟨_, List.getElem?_eq_getElem hj⟩
    obtain ⟨b, hb⟩ : ∃ b, live[j]? = some b := ⟨_, List.getElem?_eq_getElem (by omega)⟩
    have hne : j ≠ c → hasB [x] a = false := by
      intro hjc
      cases hh : hasB [x] a with
      | false => rfl
      | true =>
        have : a = x := by simpa using hasB_iff.1 hh
        subst this
        exact absurd ((List.getElem?_inj hj hn).1 (ha.trans hx.symm)) hjc
    have hs : (stageB live (c + 1))[j]? = some (if j < c + 1 then true else b) := by
      rw [stageB_get (by omega)]; split
      · rfl
      · exact hb
    rw [nextLive_get ha hs, stageB_get (by omega)]
    rcases Nat.lt_trichotomy j c with h1 | h1 | h1
    · rw [if_pos (by omega), if_pos h1, hne (by omega)]; rfl
    · subst h1
      rw [hx] at ha; cases ha
      rw [if_pos (by omega), if_neg (by omega), h]
      have : hasB [x] x = true := hasB_iff.2 (by simp)
      rw [this]; rfl
    · rw [if_neg (by omega), if_neg (by omega), hne (by omega), hb]; simp
  · have h1 := nextLive_len (del := [x]) (all := all) (live := stageB live (c + 1)) (by rw [stageB_len (by omega)]; exact hl)
    have h2 := stageB_len (live := live) (c := c + 1) (by omega)
    have h3 := stageB_len (live := live) (c := c) (by omega)
    rw [List.getElem?_eq_none (by omega), List.getElem?_eq_none (by omega)]
theorem stage_all {all : List Hash} {live : List Bool} (hl : all.length = live.length) : zipL all (stageB live live.length) = all.map some := by
  rw [stageB, List.drop_length, List.append_nil, ← zipL_true]
  congr 1
  rw [← hl]
  exact List.map_const'.symm
theorem stage_zero (live : List Bool) : stageB live 0 = live := by simp [stageB]
theorem zipL_get {all : List Hash} {live : List Bool} {i : Nat} {h : Hash} {b : Bool} (h1 : all[i]? = some h) (h2 : live[i]? = some b) : (zipL all live)[i]? = some (if b = true then some h else none) := by
  rw [zipL, List.getElem?_zipWith, h1, h2]
theorem zipL_some {all : List Hash} {live : List Bool} {j : Nat} {h : Hash} (hz : (zipL all live)[j]? = some (some h)) : all[j]? = some h ∧ live[j]? = some true := by
  rw [zipL, List.getElem?_zipWith] at hz
  cases ha : all[j]? with
  | none => rw [ha] at hz; simp at hz
  | some a =>
    cases hb : live[j]? with
    | none => rw [ha, hb] at hz; simp at hz
    | some b =>
      rw [ha, hb] at hz
      cases b with
      | false => simp at hz
      | true => simp at hz; subst hz; exact ⟨rfl, rfl⟩
theorem live_iff {all : List Hash} {live : List Bool} (hn : all.Nodup) {i : Nat} {h : Hash} {b : Bool} (h1 : all[i]? = some h) (h2 : live[i]? = some b) : some h ∈ zipL all live ↔ b = true := by
  constructor
  · intro hm
    obtain ⟨j, hj⟩ := List.getElem?_of_mem hm
    obtain ⟨g1, g2⟩ := zipL_some hj
    have := (List.getElem?_inj (List.getElem?_eq_some_iff.1 h1).1 hn).1 (h1.trans g1.symm)
    subst this
    rw [h2] at g2; exact Option.some.inj g2
  · rintro rfl
    exact List.mem_of_getElem? (by rw [zipL_get h1 h2]; rfl)
theorem FAt.uniq {w : World} {p m : Nat} {s : Fo} (h : FAt w p m s) {x y : Nat} {a : Hash} (hx : s.L[x]? = some (some a)) (hy : s.L[y]? = some (some a)) : x = y := by
  obtain ⟨⟨tv, wl, h1, h2, h3, h4⟩, _⟩ := h
  have := ((h4 a x).2 hx).symm.trans ((h4 a y).2 hy)
  exact Option.some.inj this
section
variable {e : Env} {x y : Operand}
theorem pv_geqZ {a b : Int} {q : Bool} (hx : e.ev x = some (.int .i64 a)) (hy : e.ev y = some (.int .i64 b)) (h : decide (b ≤ a) = q) : pureV e (.ibin .geq x y) = some (.bool q) := by
  subst h
  simp [pureV, hx, hy, binV, intV]
end
/-- the functions of the laws, on -/
structure LawI (P : Program) extends LawH P where
  anew : Nat
  TA1 : Nat
  TBo : Nat
  h_anew : Has P anew (b_spinneylaw14_ForestAnew told new' modify has works stump same leaves where' TH TA1 TBo)
  h_TBo : P.underlying TBo = some .bool
section
variable {P : Program} {f : Nat} {w : World}
set_option maxHeartbeats 1600000 in
theorem anew_ok (A : LawI P) (hT : Tabs A.toShaF w) {v : Value} {l : List (List Hash × List Hash)} (hl : ActsAt w v l) : RetV P A.anew [v] w (.bool true) := by
  refine Ret.of_exec A.h_anew (Nat.le_of_ble_eq_true rfl) fun c hc => ?_
  dsimp only [b_spinneylaw14_ForestAnew, argEnv]
  repeat (first | refine xtm rfl rfl rfl ?_ | refine xgr rfl ?_ | refine xgs rfl rfl ?_ | refine xgu rfl rfl ?_ | refine xg0 rfl ?_ | refine xct rfl ?_ | refine xcf rfl ?_ | refine xbk ?_ | refine xsq ?_ | refine xbl ?_ | refine xex rfl ?_)
  refine xca rfl rfl (told_ok A.toLawH hT hl) ?_
  rintro _ w1 ⟨p, m, s, all, live, av, lv', rfl, hp, hm, hTo, hu1⟩
  repeat (first | refine xtm rfl rfl rfl ?_ | refine xgr rfl ?_ | refine xgs rfl rfl ?_ | refine xgu rfl rfl ?_ | refine xg0 rfl ?_ | refine xct rfl ?_ | refine xcf rfl ?_ | refine xbk ?_ | refine xsq ?_ | refine xbl ?_ | refine xex rfl ?_)
  refine xca rfl rfl (new_ok A.toForM) ?_
  rintro _ w2 ⟨pg, mg, rfl, hpg, hmg, hG, hu2⟩
  repeat (first | refine xtm rfl rfl rfl ?_ | refine xgr rfl ?_ | refine xgs rfl rfl ?_ | refine xgu rfl rfl ?_ | refine xg0 rfl ?_ | refine xct rfl ?_ | refine xcf rfl ?_ | refine xbk ?_ | refine xsq ?_ | refine xbl ?_ | refine xex rfl ?_)
  have hlen : all.length ≤ 120 := hTo.len
  have heq := hTo.eq
  have hT2 := (hT.upd hu1).upd hu2
  have hTo2 := hTo.ext hu2
  have hE2 : Ext w w2 := hu1.trans hu2
  refine xen [(3, ptrV p), (4, av), (5, lv'), (6, ptrV pg), (7, intV' 0)] ⟨rfl, rfl, rfl, rfl, rfl, trivial⟩ ?_
  have kg := hG.lt
  refine xlo (S := Nat) (fun i W => i ≤ all.length ∧ FAt W pg mg ⟨(all.take i).map some, i, i⟩ ∧ (all.take i).Nodup ∧ Upd [pg, mg] w2 W)
    (fun i => [(3, ptrV p), (4, av), (5, lv'), (6, ptrV pg), (7, intV' i)]) (fun i => all.length - i) 0 ⟨Nat.zero_le _, hG, by simp, Upd.refl _ _⟩ ⟨rfl, rfl, rfl, rfl, rfl, trivial⟩ ?_
  rintro i W ⟨i1, iG, iN, iU⟩
  have h1W : Ext w1 W := hu2.trans iU (fun b hb => .inr (by simp at hb; rcases hb with rfl | rfl <;> omega))
  have hToW := hTo.ext h1W
  have hTW := (hT.upd hu1).upd h1W
  refine xtm rfl rfl rfl ?_
  refine xtm rfl rfl rfl ?_
  refine xpu (hToW.oa.sl.lenS rfl) rfl ?_
  by_cases hi : i < all.length
  · refine xpu (pv_lssI (a := i) (b := all.length) (q := true) rfl rfl (by simpa using hi)) rfl ?_
    repeat (first | refine xtm rfl rfl rfl ?_ | refine xgr rfl ?_ | refine xgs rfl rfl ?_ | refine xgu rfl rfl ?_ | refine xg0 rfl ?_ | refine xct rfl ?_ | refine xcf rfl ?_ | refine xbk ?_ | refine xsq ?_ | refine xbl ?_ | refine xex rfl ?_)
    obtain ⟨h, hh⟩ : ∃ h, all[i]? = some h := ⟨_, List.getElem?_eq_getElem hi⟩
    have htk : all.take (i + 1) = all.take i ++ [h] := by rw [List.take_add_one, hh]; rfl
    obtain ⟨ba, oa, ca, hav, _, hma⟩ := hs_at hToW.oa.sl hh
    refine xju (ok_iaddr (N := 32) (b := ba) (o := oa) (len := all.length) (cap := ca) (by rw [← hav]; rfl) rfl i rfl hi) rfl ?_
    refine exec_loadN (b := ba) (o := oa + i * 32) (vs := hC h) rfl rfl hma (hC_length _) ?_
    refine exec_litL (N := 32) (cs := hs [h]) (l := [(0, 32, hV h)]) rfl (by rw [hash_fill]; simp [hs]) (by simp [hs, hC_length]) rfl ?_
    intro bl W1 hbl hsl hw1 hOl
    have hil : (all.take i).length = i := by rw [List.length_take]; omega
    refine xca rfl rfl (modify_ok A.toForL (hTW.upd hw1) (iG.ext hw1) (del := []) (add := [h]) (nilS _) hOl.sl (by simp; omega) (by simp) (by show i + 1 < _; omega)) ?_
    rintro _ W2 hcase
    have hWW2 : Upd [pg, mg] W W2 := by
      rcases hcase with ⟨_, _, _, q⟩ | ⟨_, _, _, _, _, q⟩
      · exact (hw1.trans q).mono (by simp)
      · exact (hw1.mono (by simp)).trans q
    rcases hcase with ⟨e, rfl, hR, hu4⟩ | ⟨u, rfl, hGr, hF4, hU4, hu4⟩
    · have he6 : e = 6 ∧ h ∈ all.take i := by
        rcases hR with ⟨_, x, hx, _⟩ | ⟨_, _, hx⟩ | ⟨rfl, _, _, hx⟩
        · simp at hx
        · exact absurd List.nodup_nil hx
        · refine ⟨rfl, ?_⟩
          by_cases hm : h ∈ all.take i
          · exact hm
          · refine absurd ⟨by simp, fun x hx hL => ?_⟩ hx
            have : x = h := by simpa using hx
            subst this
            obtain ⟨y, hy, he⟩ := List.mem_map.1 hL
            cases he
            exact absurd hy hm
      obtain ⟨rfl, hmem⟩ := he6
      repeat (first | refine xtm rfl rfl rfl ?_ | refine xgr rfl ?_ | refine xgs rfl rfl ?_ | refine xgu rfl rfl ?_ | refine xg0 rfl ?_ | refine xct rfl ?_ | refine xcf rfl ?_ | refine xbk ?_ | refine xsq ?_ | refine xbl ?_ | refine xex rfl ?_)
      refine exec_new_store (v := .agg undoZ.toArray) rfl rfl rfl rfl rfl rfl ?_
      intro b8 W3 hb8 hs8 hw3 hB8
      repeat (first | refine xtm rfl rfl rfl ?_ | refine xgr rfl ?_ | refine xgs rfl rfl ?_ | refine xgu rfl rfl ?_ | refine xg0 rfl ?_ | refine xct rfl ?_ | refine xcf rfl ?_ | refine xbk ?_ | refine xsq ?_ | refine xbl ?_ | refine xex rfl ?_)
      refine xpu (pv_neqI (a := 6) (b := 0) (q := true) rfl rfl rfl) rfl ?_
      repeat (first | refine xtm rfl rfl rfl ?_ | refine xgr rfl ?_ | refine xgs rfl rfl ?_ | refine xgu rfl rfl ?_ | refine xg0 rfl ?_ | refine xct rfl ?_ | refine xcf rfl ?_ | refine xbk ?_ | refine xsq ?_ | refine xbl ?_ | refine xex rfl ?_)
      have hW3 : Ext W W3 := (hw1.trans hu4).trans hw3
      have hToW3 := hToW.ext hW3
      have hS3 := hToW3.oa.sl
      refine xen [(4, av), (7, intV' i)] ⟨rfl, rfl, trivial⟩ ?_
      refine exec_dwr rfl rfl rfl ?_
      repeat (first | refine wtm rfl rfl rfl ?_ | refine wgt rfl rfl rfl rfl ?_ | refine wgs rfl rfl ?_)
      refine ws_keep _ rfl (fun X hx => ok_slSd (N := 32) (len := all.length) none (some (.tmp 44)) 0 i rfl (hS3.upd hx (by simp)) rfl ⟨.i64, rfl⟩ (Nat.zero_le _) i1) ?_
      repeat (first | refine wtm rfl rfl rfl ?_ | refine wgt rfl rfl rfl rfl ?_ | refine wgs rfl rfl ?_)
      refine ws_keep _ rfl (fun X hx => ok_iaddr (N := 32) (b := ba) (o := oa) (len := all.length) (cap := ca) (by rw [← hav]; rfl) rfl i rfl hi) ?_
      refine ws_keep (hV h) rfl (fun X hx => ok_loadN (b := ba) (o := oa + i * 32) (vs := hC h) rfl (hma.upd (hW3.trans hx) (by simp)) (hC_length _)) ?_
      refine ws_fin fun W4 hw4 => ?_
      have hsub := subV_sl (hS3.upd hw4 (by simp)) (Nat.zero_le i) i1
      rw [Nat.sub_zero, hs_take, Nat.zero_mul, List.drop_zero] at hsub
      have hsub' : SlC W4 (subV av 32 0 i) 32 (all.take i).length (hs (all.take i)) := by rw [hil]; exact hsub
      refine xca rfl rfl (has_ok A.toLawF hsub' (by omega) h) ?_
      rintro _ W5 ⟨rfl, hw5⟩
      rw [hasB_iff.2 hmem]
      repeat (first | refine xtm rfl rfl rfl ?_ | refine xgr rfl ?_ | refine xgs rfl rfl ?_ | refine xgu rfl rfl ?_ | refine xg0 rfl ?_ | refine xct rfl ?_ | refine xcf rfl ?_ | refine xbk ?_ | refine xsq ?_ | refine xbl ?_ | refine xex rfl ?_)
      refine xca rfl rfl (works_ok A.toLawG ((hTW.upd hW3).upd (hw4.trans hw5))) ?_
      rintro _ W6 ⟨rfl, hw6⟩
      repeat (first | refine xtm rfl rfl rfl ?_ | refine xgr rfl ?_ | refine xgs rfl rfl ?_ | refine xgu rfl rfl ?_ | refine xg0 rfl ?_ | refine xct rfl ?_ | refine xcf rfl ?_ | refine xbk ?_ | refine xsq ?_ | refine xbl ?_ | refine xex rfl ?_)
      exact xre hc [_] ⟨rfl, trivial⟩ ⟨rfl, ((hu1.trans h1W).trans hW3).trans ((hw4.trans hw5).trans hw6)⟩
    · repeat (first | refine xtm rfl rfl rfl ?_ | refine xgr rfl ?_ | refine xgs rfl rfl ?_ | refine xgu rfl rfl ?_ | refine xg0 rfl ?_ | refine xct rfl ?_ | refine xcf rfl ?_ | refine xbk ?_ | refine xsq ?_ | refine xbl ?_ | refine xex rfl ?_)
      refine exec_new_store (v := u) rfl rfl rfl hU4.cells.1 rfl hU4.cells.2 ?_
      intro b8 W3 hb8 hs8 hw3 hB8
      repeat (first | refine xtm rfl rfl rfl ?_ | refine xgr rfl ?_ | refine xgs rfl rfl ?_ | refine xgu rfl rfl ?_ | refine xg0 rfl ?_ | refine xct rfl ?_ | refine xcf rfl ?_ | refine xbk ?_ | refine xsq ?_ | refine xbl ?_ | refine xex rfl ?_)
      refine xpu (pv_neqI (a := 0) (b := 0) (q := false) rfl rfl rfl) rfl ?_
      repeat (first | refine xtm rfl rfl rfl ?_ | refine xgr rfl ?_ | refine xgs rfl rfl ?_ | refine xgu rfl rfl ?_ | refine xg0 rfl ?_ | refine xct rfl ?_ | refine xcf rfl ?_ | refine xbk ?_ | refine xsq ?_ | refine xbl ?_ | refine xex rfl ?_)
      refine xpu (pv_addI (a := i) (b := 1) rfl rfl (by omega)) rfl ?_
      repeat (first | refine xtm rfl rfl rfl ?_ | refine xgr rfl ?_ | refine xgs rfl rfl ?_ | refine xgu rfl rfl ?_ | refine xg0 rfl ?_ | refine xct rfl ?_ | refine xcf rfl ?_ | refine xbk ?_ | refine xsq ?_ | refine xbl ?_ | refine xex rfl ?_)
      have hF5 := hF4.ext hw3
      have hL : modL [] [h] ((all.take i).map some) = (all.take (i + 1)).map some := by
        rw [htk, List.map_append, modL]
        congr 1
        rw [goneL, List.map_map]
        refine List.map_congr_left fun a _ => ?_
        simp [Option.filter]
      rw [hL] at hF5
      refine xag (i + 1) ⟨hi, hF5, ?_, (iU.trans hWW2).trans hw3⟩ (by show all.length - (i + 1) < all.length - i; omega) ⟨rfl, rfl, rfl, rfl, rfl, trivial⟩
      rw [htk, List.nodup_append]
      refine ⟨iN, by simp, fun a ha b hb he => ?_⟩
      have : b = h := by simpa using hb
      subst this; subst he
      have := hGr.free a (by simp) (List.mem_map.2 ⟨a, ha, rfl⟩)
      simp at this
  · refine xpu (pv_lssI (a := i) (b := all.length) (q := false) rfl rfl (by simpa using hi)) rfl ?_
    have : i = all.length := by omega
    subst this
    rw [List.take_length] at iN iG
    repeat (first | refine xtm rfl rfl rfl ?_ | refine xgr rfl ?_ | refine xgs rfl rfl ?_ | refine xgu rfl rfl ?_ | refine xg0 rfl ?_ | refine xct rfl ?_ | refine xcf rfl ?_ | refine xbk ?_ | refine xsq ?_ | refine xbl ?_ | refine xex rfl ?_)
    refine xpu (hToW.oa.sl.lenS rfl) rfl ?_
    refine xpu (pv_subZ (a := (all.length : Int)) (b := 1) rfl rfl (by omega) (by omega)) rfl ?_
    repeat (first | refine xtm rfl rfl rfl ?_ | refine xgr rfl ?_ | refine xgs rfl rfl ?_ | refine xgu rfl rfl ?_ | refine xg0 rfl ?_ | refine xct rfl ?_ | refine xcf rfl ?_ | refine xbk ?_ | refine xsq ?_ | refine xbl ?_ | refine xex rfl ?_)
    refine xlo (S := Nat × Nat × Nat) (fun st W => st.1 ≤ all.length ∧ FAt W pg mg ⟨zipL all (stageB live st.1), st.2.1, st.2.2⟩ ∧ st.2.2 + st.1 ≤ 2 * all.length ∧ Upd [pg, mg] w2 W)
      (fun st => [(3, ptrV p), (4, av), (5, lv'), (6, ptrV pg), (10, .int .i64 ((st.1 : Int) - 1))]) (fun st => st.1) (all.length, all.length, all.length)
      ⟨Nat.le_refl _, by rw [show all.length = live.length from heq, stage_all heq]; rw [heq] at iG; exact iG, by show all.length + all.length ≤ _; omega, iU⟩ ⟨rfl, rfl, rfl, rfl, rfl, trivial⟩ ?_
    clear iG iU h1W hToW hTW i1 hi
    rintro ⟨ct, t1, t2⟩ W ⟨c1, cG, ct2, cU⟩
    simp only at c1 cG ct2
    have h1W : Ext w1 W := hu2.trans cU (fun b hb => .inr (by simp at hb; rcases hb with rfl | rfl <;> omega))
    have hToW := hTo.ext h1W
    have hTW := (hT.upd hu1).upd h1W
    repeat (first | refine xtm rfl rfl rfl ?_ | refine xgr rfl ?_ | refine xgs rfl rfl ?_ | refine xgu rfl rfl ?_ | refine xg0 rfl ?_ | refine xct rfl ?_ | refine xcf rfl ?_ | refine xbk ?_ | refine xsq ?_ | refine xbl ?_ | refine xex rfl ?_)
    cases ct with
    | zero =>
      refine xpu (pv_geqZ (a := ((0 : Nat) : Int) - 1) (b := 0) (q := false) rfl rfl rfl) rfl ?_
      repeat (first | refine xtm rfl rfl rfl ?_ | refine xgr rfl ?_ | refine xgs rfl rfl ?_ | refine xgu rfl rfl ?_ | refine xg0 rfl ?_ | refine xct rfl ?_ | refine xcf rfl ?_ | refine xbk ?_ | refine xsq ?_ | refine xbl ?_ | refine xex rfl ?_)
      rw [stage_zero, ← hTo.L] at cG
      have hwW : Ext w W := hu1.trans h1W
      have hlL : s.L.length = all.length := by rw [hTo.L, zipL_len heq]
      refine xca rfl rfl (stump_ok A.toForO hToW.f) ?_
      rintro _ w3 ⟨rv, rfl, hu3, hO3, _⟩
      repeat (first | refine xtm rfl rfl rfl ?_ | refine xgr rfl ?_ | refine xgs rfl rfl ?_ | refine xgu rfl rfl ?_ | refine xg0 rfl ?_ | refine xct rfl ?_ | refine xcf rfl ?_ | refine xbk ?_ | refine xsq ?_ | refine xbl ?_ | refine xex rfl ?_)
      refine xca rfl rfl (stump_ok A.toForO (cG.ext hu3)) ?_
      rintro _ w4 ⟨rv2, rfl, hu4, hO4, _⟩
      have hrl : (rootsT (treesT parH (lv s.L) s.L.length)).length < 2 ^ 40 := by
        have := treesT_len parH (L := lv s.L) (n := s.L.length) (by omega)
        simp [rootsT]; omega
      refine xca rfl rfl (same_ok A.toLawF (n := s.L.length) (hO3.upd hu4 (by simp)).sl hO4.sl hrl) ?_
      rintro _ w5 ⟨rfl, hu5⟩
      repeat (first | refine xtm rfl rfl rfl ?_ | refine xgr rfl ?_ | refine xgs rfl rfl ?_ | refine xgu rfl rfl ?_ | refine xg0 rfl ?_ | refine xct rfl ?_ | refine xcf rfl ?_ | refine xbk ?_ | refine xsq ?_ | refine xbl ?_ | refine xex rfl ?_)
      have h5 : Ext W w5 := (hu3.trans hu4).trans hu5
      refine xca rfl rfl (leaves_ok A.toForP (hToW.f.ext h5)) ?_
      rintro lf w6 ⟨hO6, hu6, _⟩
      refine xgr rfl ?_
      refine xpu (hO6.sl.lenS rfl) rfl ?_
      repeat (first | refine xtm rfl rfl rfl ?_ | refine xgr rfl ?_ | refine xgs rfl rfl ?_ | refine xgu rfl rfl ?_ | refine xg0 rfl ?_ | refine xct rfl ?_ | refine xcf rfl ?_ | refine xbk ?_ | refine xsq ?_ | refine xbl ?_ | refine xex rfl ?_)
      refine xca rfl rfl (leaves_ok A.toForP ((cG.ext h5).ext hu6)) ?_
      rintro lg w7 ⟨hO7, hu7, _⟩
      refine xgr rfl ?_
      refine xpu (hO7.sl.lenS rfl) rfl ?_
      refine xgr rfl ?_
      refine xpu (pv_neqI (a := (liveL s.L).length) (b := (liveL s.L).length) (q := false) rfl rfl (by simp)) rfl ?_
      repeat (first | refine xtm rfl rfl rfl ?_ | refine xgr rfl ?_ | refine xgs rfl rfl ?_ | refine xgu rfl rfl ?_ | refine xg0 rfl ?_ | refine xct rfl ?_ | refine xcf rfl ?_ | refine xbk ?_ | refine xsq ?_ | refine xbl ?_ | refine xex rfl ?_)
      have h7 : Ext W w7 := (h5.trans hu6).trans hu7
      refine xen [(3, ptrV p), (4, av), (5, lv'), (6, ptrV pg), (13, intV' 0)] ⟨rfl, rfl, rfl, rfl, rfl, trivial⟩ ?_
      refine xlo (S := Nat) (fun i X => i ≤ all.length ∧ Ext W X) (fun i => [(3, ptrV p), (4, av), (5, lv'), (6, ptrV pg), (13, intV' i)]) (fun i => all.length - i) 0 ⟨Nat.zero_le _, h7⟩ ⟨rfl, rfl, rfl, rfl, rfl, trivial⟩ ?_
      rintro i X ⟨i1, iU⟩
      refine xtm rfl rfl rfl ?_
      refine xtm rfl rfl rfl ?_
      refine xpu (hToW.oa.sl.lenS rfl) rfl ?_
      by_cases hi : i < all.length
      · refine xpu (pv_lssI (a := i) (b := all.length) (q := true) rfl rfl (by simpa using hi)) rfl ?_
        repeat (first | refine xtm rfl rfl rfl ?_ | refine xgr rfl ?_ | refine xgs rfl rfl ?_ | refine xgu rfl rfl ?_ | refine xg0 rfl ?_ | refine xct rfl ?_ | refine xcf rfl ?_ | refine xbk ?_ | refine xsq ?_ | refine xbl ?_ | refine xex rfl ?_)
        obtain ⟨h, hh⟩ : ∃ h, all[i]? = some h := ⟨_, List.getElem?_eq_getElem hi⟩
        obtain ⟨b, hb⟩ : ∃ b, live[i]? = some b := ⟨_, List.getElem?_eq_getElem (by omega)⟩
        obtain ⟨ba, oa, ca, hav, _, hma⟩ := hs_at hToW.oa.sl hh
        refine xju (ok_iaddr (N := 32) (b := ba) (o := oa) (len := all.length) (cap := ca) (by rw [← hav]; rfl) rfl i rfl hi) rfl ?_
        refine exec_loadN (b := ba) (o := oa + i * 32) (vs := hC h) rfl rfl (hma.upd iU (by simp)) (hC_length _) ?_
        refine xca rfl rfl (where_ok A.toForN (hToW.f.ext iU) h) ?_
        rintro v1 X1 ⟨hx1, hcase1⟩
        obtain ⟨n1, b1, rfl, hw1⟩ : ∃ n1 b1, v1 = .tuple #[u64V n1, .bool b1] ∧ ((b1 = false ∧ n1 = 0 ∧ some h ∉ s.L) ∨ (b1 = true ∧ ∃ x, n1 = whereT (treesT parH (lv s.L) s.L.length) s.L.length x ∧ s.L[x]? = some (some h))) := by
          rcases hcase1 with ⟨rfl, q⟩ | ⟨x, rfl, q⟩
          · exact ⟨0, false, rfl, .inl ⟨rfl, rfl, q⟩⟩
          · exact ⟨_, true, rfl, .inr ⟨rfl, x, rfl, q⟩⟩
        repeat (first | refine xtm rfl rfl rfl ?_ | refine xgr rfl ?_ | refine xgs rfl rfl ?_ | refine xgu rfl rfl ?_ | refine xg0 rfl ?_ | refine xct rfl ?_ | refine xcf rfl ?_ | refine xbk ?_ | refine xsq ?_ | refine xbl ?_ | refine xex rfl ?_)
        refine xju (ok_iaddr (N := 32) (b := ba) (o := oa) (len := all.length) (cap := ca) (by rw [← hav]; rfl) rfl i rfl hi) rfl ?_
        refine exec_loadN (b := ba) (o := oa + i * 32) (vs := hC h) rfl rfl (hma.upd (iU.trans hx1) (by simp)) (hC_length _) ?_
        refine xca rfl rfl (where_ok A.toForN (cG.ext (iU.trans hx1)) h) ?_
        rintro v2 X2 ⟨hx2, hcase2⟩
        have hv2 : v2 = .tuple #[u64V n1, .bool b1] := by
          rcases hcase2 with ⟨rfl, q⟩ | ⟨x, rfl, q⟩
          · rcases hw1 with ⟨rfl, rfl, _⟩ | ⟨_, y, _, r⟩
            · rfl
            · exact absurd (List.mem_of_getElem? r) q
          · rcases hw1 with ⟨_, _, r⟩ | ⟨rfl, y, rfl, r⟩
            · exact absurd (List.mem_of_getElem? q) r
            · rw [cG.uniq r q]
        subst hv2
        have hb1 : b1 = b := by
          have := live_iff iN hh hb
          rw [← hTo.L] at this
          rcases hw1 with ⟨rfl, _, r⟩ | ⟨rfl, y, _, r⟩
          · cases b with
            | false => rfl
            | true => exact absurd (this.2 rfl) r
          · exact (this.1 (List.mem_of_getElem? r)).symm
        subst hb1
        repeat (first | refine xtm rfl rfl rfl ?_ | refine xgr rfl ?_ | refine xgs rfl rfl ?_ | refine xgu rfl rfl ?_ | refine xg0 rfl ?_ | refine xct rfl ?_ | refine xcf rfl ?_ | refine xbk ?_ | refine xsq ?_ | refine xbl ?_ | refine xex rfl ?_)
        refine xpu (pv_neqI (a := n1) (b := n1) (q := false) rfl rfl (by simp)) rfl ?_
        repeat (first | refine xtm rfl rfl rfl ?_ | refine xgr rfl ?_ | refine xgs rfl rfl ?_ | refine xgu rfl rfl ?_ | refine xg0 rfl ?_ | refine xct rfl ?_ | refine xcf rfl ?_ | refine xbk ?_ | refine xsq ?_ | refine xbl ?_ | refine xex rfl ?_)
        refine xju (ok_ne_bool A.h_TBo rfl rfl) rfl ?_
        simp only [beq_self_eq_true, Bool.not_true]
        repeat (first | refine xtm rfl rfl rfl ?_ | refine xgr rfl ?_ | refine xgs rfl rfl ?_ | refine xgu rfl rfl ?_ | refine xg0 rfl ?_ | refine xct rfl ?_ | refine xcf rfl ?_ | refine xbk ?_ | refine xsq ?_ | refine xbl ?_ | refine xex rfl ?_)
        obtain ⟨bo, oo, co, hvo, hmo, _⟩ := hToW.ol.sl.at (by omega)
        refine xju (ok_iaddr (N := 1) (b := bo) (o := oo) (len := live.length) (cap := co) (by rw [← hvo]; rfl) rfl i rfl (by omega)) rfl ?_
        have hcell : (Mem X2 bo oo (live.map Value.bool)) := hmo.upd ((iU.trans hx1).trans hx2) (by simp)
        refine xgr rfl ?_
        refine exec_load1 (b := bo) (o := oo + i * 1) (v := .bool b1) rfl rfl (hcell (i * 1) _ (by rw [Nat.mul_one, List.getElem?_map, hb]; rfl)) ?_
        refine xgr rfl ?_
        refine xju (ok_ne_bool A.h_TBo rfl rfl) rfl ?_
        simp only [beq_self_eq_true, Bool.not_true]
        repeat (first | refine xtm rfl rfl rfl ?_ | refine xgr rfl ?_ | refine xgs rfl rfl ?_ | refine xgu rfl rfl ?_ | refine xg0 rfl ?_ | refine xct rfl ?_ | refine xcf rfl ?_ | refine xbk ?_ | refine xsq ?_ | refine xbl ?_ | refine xex rfl ?_)
        refine xpu (pv_addI (a := i) (b := 1) rfl rfl (by omega)) rfl ?_
        repeat (first | refine xtm rfl rfl rfl ?_ | refine xgr rfl ?_ | refine xgs rfl rfl ?_ | refine xgu rfl rfl ?_ | refine xg0 rfl ?_ | refine xct rfl ?_ | refine xcf rfl ?_ | refine xbk ?_ | refine xsq ?_ | refine xbl ?_ | refine xex rfl ?_)
        exact xag (i + 1) ⟨hi, (iU.trans hx1).trans hx2⟩ (by show all.length - (i + 1) < all.length - i; omega) ⟨rfl, rfl, rfl, rfl, rfl, trivial⟩
      · refine xpu (pv_lssI (a := i) (b := all.length) (q := false) rfl rfl (by simpa using hi)) rfl ?_
        repeat (first | refine xtm rfl rfl rfl ?_ | refine xgr rfl ?_ | refine xgs rfl rfl ?_ | refine xgu rfl rfl ?_ | refine xg0 rfl ?_ | refine xct rfl ?_ | refine xcf rfl ?_ | refine xbk ?_ | refine xsq ?_ | refine xbl ?_ | refine xex rfl ?_)
        refine xca rfl rfl (works_ok A.toLawG (hTW.upd iU)) ?_
        rintro _ X1 ⟨rfl, hx1⟩
        repeat (first | refine xtm rfl rfl rfl ?_ | refine xgr rfl ?_ | refine xgs rfl rfl ?_ | refine xgu rfl rfl ?_ | refine xg0 rfl ?_ | refine xct rfl ?_ | refine xcf rfl ?_ | refine xbk ?_ | refine xsq ?_ | refine xbl ?_ | refine xex rfl ?_)
        exact xre hc [_] ⟨rfl, trivial⟩ ⟨rfl, (hwW.trans iU).trans hx1⟩
    | succ ct =>
      have hcast : (((ct + 1 : Nat) : Int) - 1) = (ct : Int) := by omega
      rw [hcast]
      refine xpu (pv_geqI (a := ct) (b := 0) (q := true) rfl rfl (by simp)) rfl ?_
      repeat (first | refine xtm rfl rfl rfl ?_ | refine xgr rfl ?_ | refine xgs rfl rfl ?_ | refine xgu rfl rfl ?_ | refine xg0 rfl ?_ | refine xct rfl ?_ | refine xcf rfl ?_ | refine xbk ?_ | refine xsq ?_ | refine xbl ?_ | refine xex rfl ?_)
      obtain ⟨h, hh⟩ : ∃ h, all[ct]? = some h := ⟨_, List.getElem?_eq_getElem (by omega)⟩
      obtain ⟨b, hb⟩ : ∃ b, live[ct]? = some b := ⟨_, List.getElem?_eq_getElem (by omega)⟩
      obtain ⟨bo, oo, co, hvo, hmo, _⟩ := hToW.ol.sl.at (by omega)
      refine xju (ok_iaddr (N := 1) (b := bo) (o := oo) (len := live.length) (cap := co) (by rw [← hvo]; rfl) rfl ct rfl (by omega)) rfl ?_
      have hcell : W.cell? ⟨bo, oo + ct * 1, none⟩ = some (.bool b) := hmo (ct * 1) _ (by rw [Nat.mul_one, List.getElem?_map, hb]; rfl)
      refine exec_load1 (b := bo) (o := oo + ct * 1) rfl rfl hcell ?_
      cases b with
      | true =>
        repeat (first | refine xtm rfl rfl rfl ?_ | refine xgr rfl ?_ | refine xgs rfl rfl ?_ | refine xgu rfl rfl ?_ | refine xg0 rfl ?_ | refine xct rfl ?_ | refine xcf rfl ?_ | refine xbk ?_ | refine xsq ?_ | refine xbl ?_ | refine xex rfl ?_)
        refine xpu (pv_subZ (a := (ct : Int)) (b := 1) rfl rfl (by omega) (by omega)) rfl ?_
        repeat (first | refine xtm rfl rfl rfl ?_ | refine xgr rfl ?_ | refine xgs rfl rfl ?_ | refine xgu rfl rfl ?_ | refine xg0 rfl ?_ | refine xct rfl ?_ | refine xcf rfl ?_ | refine xbk ?_ | refine xsq ?_ | refine xbl ?_ | refine xex rfl ?_)
        exact xag (ct, t1, t2) ⟨by show ct ≤ all.length; omega, by rw [← stage_keep hb]; exact cG, by show t2 + ct ≤ _; omega, cU⟩ (by show ct < ct + 1; omega) ⟨rfl, rfl, rfl, rfl, rfl, trivial⟩
      | false =>
        repeat (first | refine xtm rfl rfl rfl ?_ | refine xgr rfl ?_ | refine xgs rfl rfl ?_ | refine xgu rfl rfl ?_ | refine xg0 rfl ?_ | refine xct rfl ?_ | refine xcf rfl ?_ | refine xbk ?_ | refine xsq ?_ | refine xbl ?_ | refine xex rfl ?_)
        obtain ⟨ba, oa, ca, hav, _, hma⟩ := hs_at hToW.oa.sl hh
        refine xju (ok_iaddr (N := 32) (b := ba) (o := oa) (len := all.length) (cap := ca) (by rw [← hav]; rfl) rfl ct rfl (by omega)) rfl ?_
        refine exec_loadN (b := ba) (o := oa + ct * 32) (vs := hC h) rfl rfl hma (hC_length _) ?_
        refine exec_litL (N := 32) (cs := hs [h]) (l := [(0, 32, hV h)]) rfl (by rw [hash_fill]; simp [hs]) (by simp [hs, hC_length]) rfl ?_
        intro bl W1 hbl hsl hw1 hOl
        have hstl : (stageB live (ct + 1)).length = live.length := stageB_len (by omega)
        have hzl : (zipL all (stageB live (ct + 1))).length = all.length := zipL_len (by rw [hstl]; exact heq)
        have hGr : Granted (zipL all (stageB live (ct + 1))) [h] [] := by
          refine ⟨fun x hx => ?_, by simp, by simp, by simp⟩
          have : x = h := by simpa using hx
          subst this
          refine List.mem_of_getElem? (i := ct) ?_
          rw [zipL_get (b := true) hh (by rw [stageB_get (by omega), if_pos (by omega)])]; rfl
        refine xca rfl rfl (modify_ok A.toForL (hTW.upd hw1) (cG.ext hw1) (del := [h]) (add := []) hOl.sl (nilS _) (by rw [hzl]; simp; omega) (by simp) (by show t2 + 1 < _; omega)) ?_
        rintro _ W2 (⟨e, _, hR, _⟩ | ⟨u, rfl, _, hF4, hU4, hu4⟩)
        · exact absurd hR hGr.not_refused
        repeat (first | refine xtm rfl rfl rfl ?_ | refine xgr rfl ?_ | refine xgs rfl rfl ?_ | refine xgu rfl rfl ?_ | refine xg0 rfl ?_ | refine xct rfl ?_ | refine xcf rfl ?_ | refine xbk ?_ | refine xsq ?_ | refine xbl ?_ | refine xex rfl ?_)
        refine exec_new_store (v := u) rfl rfl rfl hU4.cells.1 rfl hU4.cells.2 ?_
        intro b11 W3 hb11 hs11 hw3 hB11
        repeat (first | refine xtm rfl rfl rfl ?_ | refine xgr rfl ?_ | refine xgs rfl rfl ?_ | refine xgu rfl rfl ?_ | refine xg0 rfl ?_ | refine xct rfl ?_ | refine xcf rfl ?_ | refine xbk ?_ | refine xsq ?_ | refine xbl ?_ | refine xex rfl ?_)
        refine xpu (pv_neqI (a := 0) (b := 0) (q := false) rfl rfl rfl) rfl ?_
        repeat (first | refine xtm rfl rfl rfl ?_ | refine xgr rfl ?_ | refine xgs rfl rfl ?_ | refine xgu rfl rfl ?_ | refine xg0 rfl ?_ | refine xct rfl ?_ | refine xcf rfl ?_ | refine xbk ?_ | refine xsq ?_ | refine xbl ?_ | refine xex rfl ?_)
        refine xpu (pv_subZ (a := (ct : Int)) (b := 1) rfl rfl (by omega) (by omega)) rfl ?_
        repeat (first | refine xtm rfl rfl rfl ?_ | refine xgr rfl ?_ | refine xgs rfl rfl ?_ | refine xgu rfl rfl ?_ | refine xg0 rfl ?_ | refine xct rfl ?_ | refine xcf rfl ?_ | refine xbk ?_ | refine xsq ?_ | refine xbl ?_ | refine xex rfl ?_)
        have hF5 := hF4.ext hw3
        have hL : modL [h] [] (zipL all (stageB live (ct + 1))) = zipL all (stageB live ct) := by
          rw [modL_zip (by rw [hstl]; exact heq), stage_drop iN heq hb hh]; simp
        rw [hL] at hF5
        exact xag (ct, t2 + 1, t2 + 1) ⟨by show ct ≤ all.length; omega, hF5, by show t2 + 1 + ct ≤ _; omega, ((cU.trans hw1).trans hu4).trans hw3⟩ (by show ct < ct + 1; omega) ⟨rfl, rfl, rfl, rfl, rfl, trivial⟩
end
end Go.Sp

namespace Go.Sp
open Go.Sort (order2 median medianAdjacent choosePivot Hint)
def hintN : Hint → Nat
  | .unknown => 0
  | .increasing => 1
  | .decreasing => 2
section
variable {P : Program} {f : Nat} {w : World} (A : SortF P)
theorem order2_ok (h : Has P f (b_slices_order2Ordered_uint64 A.less)) {b n cap x y s bs : Nat} {d : Array Nat} {rest : List Value} (hB : Blk w b (row d rest)) (hS : Blk w bs [intV' s]) (hd : d.size = n) (hx : x < n) (hy : y < n) (hn : n < 2 ^ 40) (hs : s < 2 ^ 40) :
    Ret P f [slV b n cap, intV' x, intV' y, ptrV bs] w fun v w' => v = .tuple #[intV' (order2 ltN d x y s).1, intV' (order2 ltN d x y s).2.1] ∧ Blk w' bs [intV' (order2 ltN d x y s).2.2] ∧ Upd [bs] w w' := by
  refine Ret.of_exec h (Nat.le_of_ble_eq_true rfl) fun c hc => ?_
  dsimp only [b_slices_order2Ordered_uint64, argEnv]
  repeat (first | refine xtm rfl rfl rfl ?_ | refine xgr rfl ?_ | refine xgs rfl rfl ?_ | refine xg0 rfl ?_ | refine xct rfl ?_ | refine xcf rfl ?_ | refine xbk ?_ | refine xsq ?_ | refine xbl ?_ | refine xex rfl ?_)
  refine exec_dw [] rfl rfl rfl ?_
  repeat (first | refine dau rfl (fun _ => rfl) ?_ | refine dga rfl (fun _ => rfl) (fun _ => rfl) ?_ | refine dgs (fun _ => rfl) ?_)
  refine dw_keep _ (fun vs W' hu _ => ok_iaddr (b := b) (o := 0) (len := n) (cap := cap) rfl rfl (y) rfl (by omega)) ?_
  refine dw_keep (u64V d[y]!) (fun vs W' hu _ => ok_load1 (b := b) (o := 0 + (y) * 1) rfl ((hB.upd hu).cell (row_get (by omega)))) ?_
  repeat (first | refine dau rfl (fun _ => rfl) ?_ | refine dga rfl (fun _ => rfl) (fun _ => rfl) ?_ | refine dgs (fun _ => rfl) ?_)
  refine dw_keep _ (fun vs W' hu _ => ok_iaddr (b := b) (o := 0) (len := n) (cap := cap) rfl rfl (x) rfl (by omega)) ?_
  refine dw_keep (u64V d[x]!) (fun vs W' hu _ => ok_load1 (b := b) (o := 0 + (x) * 1) rfl ((hB.upd hu).cell (row_get (by omega)))) ?_
  refine dw_end fun vs W1 hu1 _ => ?_
  refine xca rfl rfl (less_ok A.h_nan A.h_less d[y]! d[x]!) ?_
  rintro v W2 ⟨rfl, hu2⟩
  have hu := hu1.trans hu2
  refine exec_cond rfl (fun hc1 => ?_) (fun hc1 => ?_)
  · repeat (first | refine xtm rfl rfl rfl ?_ | refine xgr rfl ?_ | refine xgs rfl rfl ?_ | refine xg0 rfl ?_ | refine xct rfl ?_ | refine xcf rfl ?_ | refine xbk ?_ | refine xsq ?_ | refine xbl ?_ | refine xex rfl ?_)
    refine exec_load1 (b := bs) (o := 0) (v := intV' s) rfl rfl ((hS.upd hu).cell rfl) ?_
    refine xpu (pv_addI (a := s) (b := 1) rfl rfl (by omega)) rfl ?_
    repeat (first | refine xtm rfl rfl rfl ?_ | refine xgr rfl ?_ | refine xgs rfl rfl ?_ | refine xg0 rfl ?_ | refine xct rfl ?_ | refine xcf rfl ?_ | refine xbk ?_ | refine xsq ?_ | refine xbl ?_ | refine xex rfl ?_)
    refine exec_store (b := bs) (o := 0) (v := intV' (s + 1)) rfl rfl (hS.upd hu) rfl (by simp) rfl ?_
    intro W3 hu3 _ hS3
    repeat (first | refine xtm rfl rfl rfl ?_ | refine xgr rfl ?_ | refine xgs rfl rfl ?_ | refine xg0 rfl ?_ | refine xct rfl ?_ | refine xcf rfl ?_ | refine xbk ?_ | refine xsq ?_ | refine xbl ?_ | refine xex rfl ?_)
    refine xre hc [_, _] ⟨rfl, rfl, trivial⟩ ?_
    rw [order2, if_pos hc1]
    exact ⟨rfl, hS3, (hu.mono (by simp)).trans hu3 (by simp)⟩
  · repeat (first | refine xtm rfl rfl rfl ?_ | refine xgr rfl ?_ | refine xgs rfl rfl ?_ | refine xg0 rfl ?_ | refine xct rfl ?_ | refine xcf rfl ?_ | refine xbk ?_ | refine xsq ?_ | refine xbl ?_ | refine xex rfl ?_)
    refine xre hc [_, _] ⟨rfl, rfl, trivial⟩ ?_
    rw [order2, if_neg (by rw [hc1]; simp)]
    exact ⟨rfl, hS.upd hu, hu.mono (by simp)⟩
theorem order2_lt {d : Array Nat} {n x y s : Nat} (hx : x < n) (hy : y < n) : (order2 ltN d x y s).1 < n ∧ (order2 ltN d x y s).2.1 < n ∧ (order2 ltN d x y s).2.2 ≤ s + 1 := by
  unfold order2
  split <;> exact ⟨by assumption, by assumption, by simp⟩
theorem median_ok {g : Nat} (h2 : Has P g (b_slices_order2Ordered_uint64 A.less)) (h : Has P f (b_slices_medianOrdered_uint64 g)) {b n cap x y z s bs : Nat} {d : Array Nat} {rest : List Value} (hB : Blk w b (row d rest)) (hS : Blk w bs [intV' s]) (hd : d.size = n) (hx : x < n) (hy : y < n) (hz : z < n) (hn : n < 2 ^ 40) (hs : s < 2 ^ 30) (hne : b ≠ bs) :
    Ret P f [slV b n cap, intV' x, intV' y, intV' z, ptrV bs] w fun v w' => v = intV' (median ltN d x y z s).1 ∧ Blk w' bs [intV' (median ltN d x y z s).2] ∧ Upd [bs] w w' := by
  refine Ret.of_exec h (Nat.le_of_ble_eq_true rfl) fun c hc => ?_
  dsimp only [b_slices_medianOrdered_uint64, argEnv]
  repeat (first | refine xtm rfl rfl rfl ?_ | refine xgr rfl ?_ | refine xgs rfl rfl ?_ | refine xg0 rfl ?_ | refine xct rfl ?_ | refine xcf rfl ?_ | refine xbk ?_ | refine xsq ?_ | refine xbl ?_ | refine xex rfl ?_)
  refine xca rfl rfl (order2_ok A h2 hB hS hd hx hy hn (by omega)) ?_
  rintro v W1 ⟨rfl, hS1, hu1⟩
  obtain ⟨l1, l2, l3⟩ := order2_lt (d := d) (s := s) hx hy
  have hB1 := hB.upd hu1 (by simp; exact hne)
  repeat (first | refine xtm rfl rfl rfl ?_ | refine xgr rfl ?_ | refine xgs rfl rfl ?_ | refine xg0 rfl ?_ | refine xct rfl ?_ | refine xcf rfl ?_ | refine xbk ?_ | refine xsq ?_ | refine xbl ?_ | refine xex rfl ?_)
  refine xca rfl rfl (order2_ok A h2 hB1 hS1 hd l2 hz hn (by omega)) ?_
  rintro v W2 ⟨rfl, hS2, hu2⟩
  obtain ⟨m1, m2, m3⟩ := order2_lt (d := d) (s := (order2 ltN d x y s).2.2) l2 hz
  have hB2 := hB1.upd hu2 (by simp; exact hne)
  repeat (first | refine xtm rfl rfl rfl ?_ | refine xgr rfl ?_ | refine xgs rfl rfl ?_ | refine xg0 rfl ?_ | refine xct rfl ?_ | refine xcf rfl ?_ | refine xbk ?_ | refine xsq ?_ | refine xbl ?_ | refine xex rfl ?_)
  refine xca rfl rfl (order2_ok A h2 hB2 hS2 hd l1 m1 hn (by omega)) ?_
  rintro v W3 ⟨rfl, hS3, hu3⟩
  repeat (first | refine xtm rfl rfl rfl ?_ | refine xgr rfl ?_ | refine xgs rfl rfl ?_ | refine xg0 rfl ?_ | refine xct rfl ?_ | refine xcf rfl ?_ | refine xbk ?_ | refine xsq ?_ | refine xbl ?_ | refine xex rfl ?_)
  refine xre hc [_] ⟨rfl, trivial⟩ ⟨rfl, hS3, (hu1.trans hu2 (by simp)).trans hu3 (by simp)⟩
theorem median_lt {d : Array Nat} {n x y z s : Nat} (hx : x < n) (hy : y < n) (hz : z < n) : (median ltN d x y z s).1 < n ∧ (median ltN d x y z s).2 ≤ s + 3 := by
  obtain ⟨l1, l2, l3⟩ := order2_lt (d := d) (s := s) hx hy
  obtain ⟨m1, m2, m3⟩ := order2_lt (d := d) (s := (order2 ltN d x y s).2.2) l2 hz
  obtain ⟨k1, k2, k3⟩ := order2_lt (d := d) (s := (order2 ltN d (order2 ltN d x y s).2.1 z (order2 ltN d x y s).2.2).2.2) l1 m1
  unfold median
  exact ⟨k2, by simp only; omega⟩
theorem medianAdj_ok {g g2 : Nat} (h2 : Has P g (b_slices_order2Ordered_uint64 A.less)) (h3 : Has P g2 (b_slices_medianOrdered_uint64 g)) (h : Has P f (b_slices_medianAdjacentOrdered_uint64 g2)) {b n cap x s bs : Nat} {d : Array Nat} {rest : List Value} (hB : Blk w b (row d rest)) (hS : Blk w bs [intV' s]) (hd : d.size = n) (hx0 : 0 < x) (hx : x + 1 < n) (hn : n < 2 ^ 40) (hs : s < 2 ^ 30) (hne : b ≠ bs) :
    Ret P f [slV b n cap, intV' x, ptrV bs] w fun v w' => v = intV' (medianAdjacent ltN d x s).1 ∧ Blk w' bs [intV' (medianAdjacent ltN d x s).2] ∧ Upd [bs] w w' := by
  refine Ret.of_exec h (Nat.le_of_ble_eq_true rfl) fun c hc => ?_
  dsimp only [b_slices_medianAdjacentOrdered_uint64, argEnv]
  repeat (first | refine xtm rfl rfl rfl ?_ | refine xgr rfl ?_ | refine xgs rfl rfl ?_ | refine xg0 rfl ?_ | refine xct rfl ?_ | refine xcf rfl ?_ | refine xbk ?_ | refine xsq ?_ | refine xbl ?_ | refine xex rfl ?_)
  refine xpu (pv_subI (a := x) (b := 1) rfl rfl (by omega) (by omega)) rfl ?_
  repeat (first | refine xtm rfl rfl rfl ?_ | refine xgr rfl ?_ | refine xgs rfl rfl ?_ | refine xg0 rfl ?_ | refine xct rfl ?_ | refine xcf rfl ?_ | refine xbk ?_ | refine xsq ?_ | refine xbl ?_ | refine xex rfl ?_)
  refine xpu (pv_addI (a := x) (b := 1) rfl rfl (by omega)) rfl ?_
  repeat (first | refine xtm rfl rfl rfl ?_ | refine xgr rfl ?_ | refine xgs rfl rfl ?_ | refine xg0 rfl ?_ | refine xct rfl ?_ | refine xcf rfl ?_ | refine xbk ?_ | refine xsq ?_ | refine xbl ?_ | refine xex rfl ?_)
  refine xca rfl rfl (median_ok A h2 h3 hB hS hd (by omega) (by omega) (by omega) hn hs hne) ?_
  rintro v W1 ⟨rfl, hS1, hu1⟩
  repeat (first | refine xtm rfl rfl rfl ?_ | refine xgr rfl ?_ | refine xgs rfl rfl ?_ | refine xg0 rfl ?_ | refine xct rfl ?_ | refine xcf rfl ?_ | refine xbk ?_ | refine xsq ?_ | refine xbl ?_ | refine xex rfl ?_)
  exact xre hc [_] ⟨rfl, trivial⟩ ⟨rfl, hS1, hu1⟩
theorem choosePivot_ok {g g2 g3 T : Nat} (h2 : Has P g (b_slices_order2Ordered_uint64 A.less)) (h3 : Has P g2 (b_slices_medianOrdered_uint64 g)) (h4 : Has P g3 (b_slices_medianAdjacentOrdered_uint64 g2)) (h : Has P f (b_slices_choosePivotOrdered_uint64 g3 g2 T))
    {b n cap x y : Nat} {d : Array Nat} {rest : List Value} (hB : Blk w b (row d rest)) (hd : d.size = n) (hxy : x + 12 < y) (hy : y ≤ n) (hn : n < 2 ^ 40) :
    Ret P f [slV b n cap, intV' x, intV' y] w fun v w' => v = .tuple #[intV' (choosePivot ltN d x y).1, intV' (hintN (choosePivot ltN d x y).2)] ∧ Ext w w' := by
  refine Ret.of_exec h (Nat.le_of_ble_eq_true rfl) fun c hc => ?_
  dsimp only [b_slices_choosePivotOrdered_uint64, argEnv]
  repeat (first | refine xtm rfl rfl rfl ?_ | refine xgr rfl ?_ | refine xgs rfl rfl ?_ | refine xg0 rfl ?_ | refine xct rfl ?_ | refine xcf rfl ?_ | refine xbk ?_ | refine xsq ?_ | refine xbl ?_ | refine xex rfl ?_)
  refine xpu (pv_subI (a := y) (b := x) rfl rfl (by omega) (by omega)) rfl ?_
  repeat (first | refine xtm rfl rfl rfl ?_ | refine xgr rfl ?_ | refine xgs rfl rfl ?_ | refine xg0 rfl ?_ | refine xct rfl ?_ | refine xcf rfl ?_ | refine xbk ?_ | refine xsq ?_ | refine xbl ?_ | refine xex rfl ?_)
  refine exec_new rfl ?_
  intro bs W1 hbs hs1 hu1 hS1
  have hS : Blk W1 bs [intV' 0] := hS1
  have hlt := hB.lt
  have hne : b ≠ bs := by omega
  have hB1 := hB.upd hu1
  repeat (first | refine xtm rfl rfl rfl ?_ | refine xgr rfl ?_ | refine xgs rfl rfl ?_ | refine xg0 rfl ?_ | refine xct rfl ?_ | refine xcf rfl ?_ | refine xbk ?_ | refine xsq ?_ | refine xbl ?_ | refine xex rfl ?_)
  refine xju (ok_quoI (a := y - x) (b := 4) rfl rfl (by omega) (by omega)) rfl ?_
  refine xpu (pv_mulI (a := (y - x) / 4) (b := 1) rfl rfl (by omega)) rfl ?_
  refine xpu (pv_addI (a := x) (b := (y - x) / 4 * 1) rfl rfl (by omega)) rfl ?_
  repeat (first | refine xtm rfl rfl rfl ?_ | refine xgr rfl ?_ | refine xgs rfl rfl ?_ | refine xg0 rfl ?_ | refine xct rfl ?_ | refine xcf rfl ?_ | refine xbk ?_ | refine xsq ?_ | refine xbl ?_ | refine xex rfl ?_)
  refine xju (ok_quoI (a := y - x) (b := 4) rfl rfl (by omega) (by omega)) rfl ?_
  refine xpu (pv_mulI (a := (y - x) / 4) (b := 2) rfl rfl (by omega)) rfl ?_
  refine xpu (pv_addI (a := x) (b := (y - x) / 4 * 2) rfl rfl (by omega)) rfl ?_
  repeat (first | refine xtm rfl rfl rfl ?_ | refine xgr rfl ?_ | refine xgs rfl rfl ?_ | refine xg0 rfl ?_ | refine xct rfl ?_ | refine xcf rfl ?_ | refine xbk ?_ | refine xsq ?_ | refine xbl ?_ | refine xex rfl ?_)
  refine xju (ok_quoI (a := y - x) (b := 4) rfl rfl (by omega) (by omega)) rfl ?_
  refine xpu (pv_mulI (a := (y - x) / 4) (b := 3) rfl rfl (by omega)) rfl ?_
  refine xpu (pv_addI (a := x) (b := (y - x) / 4 * 3) rfl rfl (by omega)) rfl ?_
  repeat (first | refine xtm rfl rfl rfl ?_ | refine xgr rfl ?_ | refine xgs rfl rfl ?_ | refine xg0 rfl ?_ | refine xct rfl ?_ | refine xcf rfl ?_ | refine xbk ?_ | refine xsq ?_ | refine xbl ?_ | refine xex rfl ?_)
  refine xpu (pv_geqI (a := y - x) (b := 8) (q := true) rfl rfl (by simp; omega)) rfl ?_
  repeat (first | refine xtm rfl rfl rfl ?_ | refine xgr rfl ?_ | refine xgs rfl rfl ?_ | refine xg0 rfl ?_ | refine xct rfl ?_ | refine xcf rfl ?_ | refine xbk ?_ | refine xsq ?_ | refine xbl ?_ | refine xex rfl ?_)
  refine xpu (pv_geqI (a := y - x) (b := 50) (q := decide (50 ≤ y - x)) rfl rfl rfl) rfl ?_
  refine exec_cond_join (S := Nat × Nat × Nat × Nat) (fun s W => Ext w W ∧ Blk W b (row d rest) ∧ Blk W bs [intV' s.2.2.2] ∧ s.2.2.2 < 20 ∧ s.1 < n ∧ s.2.1 < n ∧ s.2.2.1 < n ∧ (choosePivot ltN d x y = ((median ltN d s.1 s.2.1 s.2.2.1 s.2.2.2).1, if (median ltN d s.1 s.2.1 s.2.2.1 s.2.2.2).2 = 0 then .increasing else if (median ltN d s.1 s.2.1 s.2.2.1 s.2.2.2).2 = 12 then .decreasing else .unknown)))
    (fun s => [(0, slV b n cap), (10, intV' s.1), (11, intV' s.2.1), (12, intV' s.2.2.1), (9, ptrV bs)]) rfl (fun c50 => ?_) (fun c50 => ?_) ?_
  · simp only [decide_eq_true_eq] at c50
    repeat (first | refine xtm rfl rfl rfl ?_ | refine xgr rfl ?_ | refine xgs rfl rfl ?_ | refine xg0 rfl ?_ | refine xct rfl ?_ | refine xcf rfl ?_ | refine xbk ?_ | refine xsq ?_ | refine xbl ?_ | refine xex rfl ?_)
    refine xca rfl rfl (medianAdj_ok A h2 h3 h4 hB1 hS hd (by omega) (by omega) hn (by omega) hne) ?_
    rintro v W2 ⟨rfl, hS2, hu2⟩
    have hB2 := hB1.upd hu2 (by simp; exact hne)
    obtain ⟨i1, i2⟩ := median_lt (d := d) (n := n) (x := x + (y - x) / 4 * 1 - 1) (y := x + (y - x) / 4 * 1) (z := x + (y - x) / 4 * 1 + 1) (s := 0) (by omega) (by omega) (by omega)
    repeat (first | refine xtm rfl rfl rfl ?_ | refine xgr rfl ?_ | refine xgs rfl rfl ?_ | refine xg0 rfl ?_ | refine xct rfl ?_ | refine xcf rfl ?_ | refine xbk ?_ | refine xsq ?_ | refine xbl ?_ | refine xex rfl ?_)
    refine xca rfl rfl (medianAdj_ok A h2 h3 h4 hB2 hS2 hd (by omega) (by omega) hn (by show (median _ _ _ _ _ _).2 < _; omega) hne) ?_
    rintro v W3 ⟨rfl, hS3, hu3⟩
    have hB3 := hB2.upd hu3 (by simp; exact hne)
    obtain ⟨j1, j2⟩ := median_lt (d := d) (n := n) (x := x + (y - x) / 4 * 2 - 1) (y := x + (y - x) / 4 * 2) (z := x + (y - x) / 4 * 2 + 1) (s := (medianAdjacent ltN d (x + (y - x) / 4 * 1) 0).2) (by omega) (by omega) (by omega)
    have i2' : (medianAdjacent ltN d (x + (y - x) / 4 * 1) 0).2 ≤ 3 := by simpa [medianAdjacent] using i2
    repeat (first | refine xtm rfl rfl rfl ?_ | refine xgr rfl ?_ | refine xgs rfl rfl ?_ | refine xg0 rfl ?_ | refine xct rfl ?_ | refine xcf rfl ?_ | refine xbk ?_ | refine xsq ?_ | refine xbl ?_ | refine xex rfl ?_)
    refine xca rfl rfl (medianAdj_ok A h2 h3 h4 hB3 hS3 hd (by omega) (by omega) hn (by show (median _ _ _ _ _ _).2 < _; omega) hne) ?_
    rintro v W4 ⟨rfl, hS4, hu4⟩
    have hB4 := hB3.upd hu4 (by simp; exact hne)
    have j2' : (medianAdjacent ltN d (x + (y - x) / 4 * 2) (medianAdjacent ltN d (x + (y - x) / 4 * 1) 0).2).2 ≤ 6 := by
      have : (medianAdjacent ltN d (x + (y - x) / 4 * 2) (medianAdjacent ltN d (x + (y - x) / 4 * 1) 0).2).2 ≤ (medianAdjacent ltN d (x + (y - x) / 4 * 1) 0).2 + 3 := j2
      omega
    obtain ⟨k1, k2⟩ := median_lt (d := d) (n := n) (x := x + (y - x) / 4 * 3 - 1) (y := x + (y - x) / 4 * 3) (z := x + (y - x) / 4 * 3 + 1) (s := (medianAdjacent ltN d (x + (y - x) / 4 * 2) (medianAdjacent ltN d (x + (y - x) / 4 * 1) 0).2).2) (by omega) (by omega) (by omega)
    repeat (first | refine xtm rfl rfl rfl ?_ | refine xgr rfl ?_ | refine xgs rfl rfl ?_ | refine xg0 rfl ?_ | refine xct rfl ?_ | refine xcf rfl ?_ | refine xbk ?_ | refine xsq ?_ | refine xbl ?_ | refine xex rfl ?_)
    have hE : Ext w W4 := ((hu1.trans hu2 (fun b hb => .inr (by simp at hb; omega))).trans hu3 (fun b hb => .inr (by simp at hb; omega))).trans hu4 (fun b hb => .inr (by simp at hb; omega))
    refine exec_meet (_, _, _, _) ⟨hE, hB4, hS4, (by show (median _ _ _ _ _ _).2 < _; omega), i1, j1, k1, ?_⟩ ⟨rfl, rfl, rfl, rfl, rfl, trivial⟩
    rw [choosePivot, if_pos (show y - x ≥ 8 by omega), if_pos (show y - x ≥ 50 by omega)]
    rfl
  · simp only [decide_eq_false_iff_not] at c50
    refine exec_meet (_, _, _, _) ⟨hu1, hB1, hS, (by show 0 < 20; omega), (by show x + (y - x) / 4 * 1 < n; omega), (by show x + (y - x) / 4 * 2 < n; omega), (by show x + (y - x) / 4 * 3 < n; omega), ?_⟩ ⟨rfl, rfl, rfl, rfl, rfl, trivial⟩
    rw [choosePivot, if_pos (show y - x ≥ 8 by omega), if_neg (show ¬ y - x ≥ 50 by omega)]
  · rintro ⟨i, j, k, s⟩ W ⟨q1, q2, q3, q4, q5, q6, q7, q8⟩
    simp only at q2 q3 q4 q5 q6 q7 q8
    repeat (first | refine xtm rfl rfl rfl ?_ | refine xgr rfl ?_ | refine xgs rfl rfl ?_ | refine xg0 rfl ?_ | refine xct rfl ?_ | refine xcf rfl ?_ | refine xbk ?_ | refine xsq ?_ | refine xbl ?_ | refine xex rfl ?_)
    refine xca rfl rfl (median_ok A h2 h3 q2 q3 hd q5 q6 q7 hn (by omega) hne) ?_
    rintro v W2 ⟨rfl, hS2, hu2⟩
    have hu : Ext w W2 := q1.trans hu2 (fun b hb => .inr (by simp at hb; omega))
    repeat (first | refine xtm rfl rfl rfl ?_ | refine xgr rfl ?_ | refine xgs rfl rfl ?_ | refine xg0 rfl ?_ | refine xct rfl ?_ | refine xcf rfl ?_ | refine xbk ?_ | refine xsq ?_ | refine xbl ?_ | refine xex rfl ?_)
    refine exec_load1 (b := bs) (o := 0) rfl rfl (hS2.cell rfl) ?_
    refine xbk ?_
    have hm := (median_lt (d := d) (s := s) q5 q6 q7).2
    by_cases c0 : (median ltN d i j k s).2 = 0
    · refine xpu (pv_eqlI (a := (median ltN d i j k s).2) (b := 0) (q := true) rfl rfl (by simpa using c0)) rfl ?_
      repeat (first | refine xtm rfl rfl rfl ?_ | refine xgr rfl ?_ | refine xgs rfl rfl ?_ | refine xg0 rfl ?_ | refine xct rfl ?_ | refine xcf rfl ?_ | refine xbk ?_ | refine xsq ?_ | refine xbl ?_ | refine xex rfl ?_)
      refine xre hc [_, _] ⟨rfl, rfl, trivial⟩ ?_
      rw [q8, if_pos c0]
      exact ⟨rfl, hu⟩
    · refine xpu (pv_eqlI (a := (median ltN d i j k s).2) (b := 0) (q := false) rfl rfl (by simpa using c0)) rfl ?_
      repeat (first | refine xtm rfl rfl rfl ?_ | refine xgr rfl ?_ | refine xgs rfl rfl ?_ | refine xg0 rfl ?_ | refine xct rfl ?_ | refine xcf rfl ?_ | refine xbk ?_ | refine xsq ?_ | refine xbl ?_ | refine xex rfl ?_)
      by_cases c1 : (median ltN d i j k s).2 = 12
      · refine xpu (pv_eqlI (a := (median ltN d i j k s).2) (b := 12) (q := true) rfl rfl (by simpa using c1)) rfl ?_
        repeat (first | refine xtm rfl rfl rfl ?_ | refine xgr rfl ?_ | refine xgs rfl rfl ?_ | refine xg0 rfl ?_ | refine xct rfl ?_ | refine xcf rfl ?_ | refine xbk ?_ | refine xsq ?_ | refine xbl ?_ | refine xex rfl ?_)
        refine xre hc [_, _] ⟨rfl, rfl, trivial⟩ ?_
        rw [q8, if_neg c0, if_pos c1]
        exact ⟨rfl, hu⟩
      · refine xpu (pv_eqlI (a := (median ltN d i j k s).2) (b := 12) (q := false) rfl rfl (by simpa using c1)) rfl ?_
        repeat (first | refine xtm rfl rfl rfl ?_ | refine xgr rfl ?_ | refine xgs rfl rfl ?_ | refine xg0 rfl ?_ | refine xct rfl ?_ | refine xcf rfl ?_ | refine xbk ?_ | refine xsq ?_ | refine xbl ?_ | refine xex rfl ?_)
        refine xre hc [_, _] ⟨rfl, rfl, trivial⟩ ?_
        rw [q8, if_neg c0, if_neg c1]
        exact ⟨rfl, hu⟩
end
end Go.Sp

namespace Go.Sp
open Go.Sort (swp siftDown heapBuild heapPop heapSort reverseLoop reverseRange)
theorem siftDown_if (lt : Nat → Nat → Bool) (hi first root : Nat) (d : Array Nat) : siftDown lt hi first root d =
    if _h : 2 * root + 1 ≥ hi then d else
    if 2 * root + 1 + 1 < hi && lt d[first + (2 * root + 1)]! d[first + (2 * root + 1) + 1]! then
      if !lt d[first + root]! d[first + (2 * root + 2)]! then d else
        if _h2 : 2 * root + 2 < hi then siftDown lt hi first (2 * root + 2) (swp d (first + root) (first + (2 * root + 2))) else d
    else
      if !lt d[first + root]! d[first + (2 * root + 1)]! then d else siftDown lt hi first (2 * root + 1) (swp d (first + root) (first + (2 * root + 1))) := by rw [siftDown]
theorem reverseLoop_if (i j : Nat) (d : Array Nat) : reverseLoop i j d = if i < j then reverseLoop (i + 1) (j - 1) (swp d i j) else d := by rw [reverseLoop]
section
variable {P : Program} {f : Nat} {w : World} (A : SortF P)
theorem sift_ok (h : Has P f (b_slices_siftDownOrdered_uint64 A.less)) {b n cap lo hi first : Nat} {d : Array Nat} {rest : List Value} (hB : Blk w b (row d rest)) (hd : d.size = n) (hf : first + hi ≤ n) (hlo : lo ≤ n) (hn : n < 2 ^ 40) :
    Ret P f [slV b n cap, intV' lo, intV' hi, intV' first] w fun _ w' => Blk w' b (row (siftDown ltN hi first lo d) rest) ∧ Upd [b] w w' := by
  refine Ret.of_exec h (Nat.le_of_ble_eq_true rfl) fun c hc => ?_
  dsimp only [b_slices_siftDownOrdered_uint64, argEnv]
  repeat (first | refine xtm rfl rfl rfl ?_ | refine xgr rfl ?_ | refine xgs rfl rfl ?_ | refine xg0 rfl ?_ | refine xct rfl ?_ | refine xcf rfl ?_ | refine xbk ?_ | refine xsq ?_ | refine xbl ?_ | refine xex rfl ?_)
  refine xlo (S := Nat × Array Nat) (fun s W => s.1 ≤ n ∧ s.2.size = n ∧ siftDown ltN hi first s.1 s.2 = siftDown ltN hi first lo d ∧ Blk W b (row s.2 rest) ∧ Upd [b] w W)
    (fun s => [(0, slV b n cap), (2, intV' hi), (3, intV' first), (8, intV' s.1)]) (fun s => n + 1 - s.1) (lo, d) ⟨hlo, hd, rfl, hB, Upd.refl _ _⟩ ⟨rfl, rfl, rfl, rfl, trivial⟩ ?_
  rintro ⟨root, dk⟩ W ⟨h1, h3, h4, h5, h6⟩
  simp only at h1 h3 h4 h5
  repeat (first | refine xtm rfl rfl rfl ?_ | refine xgr rfl ?_ | refine xgs rfl rfl ?_ | refine xg0 rfl ?_ | refine xct rfl ?_ | refine xcf rfl ?_ | refine xbk ?_ | refine xsq ?_ | refine xbl ?_ | refine xex rfl ?_)
  refine xpu (pv_mulI (a := 2) (b := root) rfl rfl (by omega)) rfl ?_
  refine xpu (pv_addI (a := 2 * root) (b := 1) rfl rfl (by omega)) rfl ?_
  repeat (first | refine xtm rfl rfl rfl ?_ | refine xgr rfl ?_ | refine xgs rfl rfl ?_ | refine xg0 rfl ?_ | refine xct rfl ?_ | refine xcf rfl ?_ | refine xbk ?_ | refine xsq ?_ | refine xbl ?_ | refine xex rfl ?_)
  by_cases hch : hi ≤ 2 * root + 1
  · refine xpu (pv_geqI (a := 2 * root + 1) (b := hi) (q := true) rfl rfl (by simpa using hch)) rfl ?_
    repeat (first | refine xtm rfl rfl rfl ?_ | refine xgr rfl ?_ | refine xgs rfl rfl ?_ | refine xg0 rfl ?_ | refine xct rfl ?_ | refine xcf rfl ?_ | refine xbk ?_ | refine xsq ?_ | refine xbl ?_ | refine xex rfl ?_)
    refine exec_end hc [] trivial ?_
    rw [← h4, siftDown_if, dif_pos hch]
    exact ⟨h5, h6⟩
  · refine xpu (pv_geqI (a := 2 * root + 1) (b := hi) (q := false) rfl rfl (by simpa using hch)) rfl ?_
    repeat (first | refine xtm rfl rfl rfl ?_ | refine xgr rfl ?_ | refine xgs rfl rfl ?_ | refine xg0 rfl ?_ | refine xct rfl ?_ | refine xcf rfl ?_ | refine xbk ?_ | refine xsq ?_ | refine xbl ?_ | refine xex rfl ?_)
    by_cases hc2' : 2 * root + 1 + 1 < hi
    · refine exec_dw [] rfl rfl rfl ?_
      refine dau rfl (fun _ => rfl) ?_
      refine dw_val (fun _ => pv_addI (a := 2 * root + 1) (b := 1) rfl rfl (by omega)) ?_
      refine dau rfl (fun _ => rfl) ?_
      refine dw_val (fun _ => pv_lssI (a := 2 * root + 1 + 1) (b := hi) (q := true) rfl rfl (by simpa using hc2')) ?_
      repeat (first | refine dau rfl (fun _ => rfl) ?_ | refine dga rfl (fun _ => rfl) (fun _ => rfl) ?_ | refine dgs (fun _ => rfl) ?_)
      refine dw_gval (fun _ => rfl) (fun _ => pv_addI (a := first) (b := 2 * root + 1) rfl rfl (by omega)) ?_
      refine dw_gok _ (fun _ => rfl) (fun vs W' hu _ => (ok_iaddr (b := b) (o := 0) (len := n) (cap := cap) rfl rfl (first + (2 * root + 1)) rfl (by omega)).keep _) ?_
      refine dw_gok (u64V dk[first + (2 * root + 1)]!) (fun _ => rfl) (fun vs W' hu _ => (ok_load1 (b := b) (o := 0 + (first + (2 * root + 1)) * 1) rfl ((h5.upd hu).cell (row_get (by omega)))).keep _) ?_
      repeat (first | refine dau rfl (fun _ => rfl) ?_ | refine dga rfl (fun _ => rfl) (fun _ => rfl) ?_ | refine dgs (fun _ => rfl) ?_)
      refine dw_gval (fun _ => rfl) (fun _ => pv_addI (a := first) (b := 2 * root + 1) rfl rfl (by omega)) ?_
      refine dw_gval (fun _ => rfl) (fun _ => pv_addI (a := first + (2 * root + 1)) (b := 1) rfl rfl (by omega)) ?_
      refine dw_gok _ (fun _ => rfl) (fun vs W' hu _ => (ok_iaddr (b := b) (o := 0) (len := n) (cap := cap) rfl rfl (first + (2 * root + 1) + 1) rfl (by omega)).keep _) ?_
      refine dw_gok (u64V dk[first + (2 * root + 1) + 1]!) (fun _ => rfl) (fun vs W' hu _ => (ok_load1 (b := b) (o := 0 + (first + (2 * root + 1) + 1) * 1) rfl ((h5.upd hu).cell (row_get (by omega)))).keep _) ?_
      refine dw_end fun vs W1 hu1 _ => ?_
      repeat (first | refine xtm rfl rfl rfl ?_ | refine xgr rfl ?_ | refine xgs rfl rfl ?_ | refine xg0 rfl ?_ | refine xct rfl ?_ | refine xcf rfl ?_ | refine xbk ?_ | refine xsq ?_ | refine xbl ?_ | refine xex rfl ?_)
      refine xca rfl rfl (less_ok A.h_nan A.h_less dk[first + (2 * root + 1)]! dk[first + (2 * root + 1) + 1]!) ?_
      rintro v W2 ⟨rfl, hu2⟩
      have hu12 := hu1.trans hu2
      have hB2 := h5.upd hu12
      have hE := h6.trans hu12 (by simp)
      repeat (first | refine xtm rfl rfl rfl ?_ | refine xgr rfl ?_ | refine xgs rfl rfl ?_ | refine xg0 rfl ?_ | refine xct rfl ?_ | refine xcf rfl ?_ | refine xbk ?_ | refine xsq ?_ | refine xbl ?_ | refine xex rfl ?_)
      refine exec_cond rfl (fun hc1 => ?_) (fun hc1 => ?_)
      · repeat (first | refine xtm rfl rfl rfl ?_ | refine xgr rfl ?_ | refine xgs rfl rfl ?_ | refine xg0 rfl ?_ | refine xct rfl ?_ | refine xcf rfl ?_ | refine xbk ?_ | refine xsq ?_ | refine xbl ?_ | refine xex rfl ?_)
        refine xpu (pv_addI (a := 2 * root + 1) (b := 1) rfl rfl (by omega)) rfl ?_
        repeat (first | refine xtm rfl rfl rfl ?_ | refine xgr rfl ?_ | refine xgs rfl rfl ?_ | refine xg0 rfl ?_ | refine xct rfl ?_ | refine xcf rfl ?_ | refine xbk ?_ | refine xsq ?_ | refine xbl ?_ | refine xex rfl ?_)
        have hc1' : (decide (2 * root + 1 + 1 < hi) && ltN dk[first + (2 * root + 1)]! dk[first + (2 * root + 1) + 1]!) = true := by rw [hc1]; simpa using hc2'
        refine exec_dw [] rfl rfl rfl ?_
        repeat (first | refine dau rfl (fun _ => rfl) ?_ | refine dga rfl (fun _ => rfl) (fun _ => rfl) ?_ | refine dgs (fun _ => rfl) ?_)
        refine dw_val (fun _ => pv_addI (a := first) (b := root) rfl rfl (by omega)) ?_
        refine dw_keep _ (fun vs W' hu _ => ok_iaddr (b := b) (o := 0) (len := n) (cap := cap) rfl rfl (first + root) rfl (by omega)) ?_
        refine dw_keep (u64V dk[first + root]!) (fun vs W' hu _ => ok_load1 (b := b) (o := 0 + (first + root) * 1) rfl ((hB2.upd hu).cell (row_get (by omega)))) ?_
        repeat (first | refine dau rfl (fun _ => rfl) ?_ | refine dga rfl (fun _ => rfl) (fun _ => rfl) ?_ | refine dgs (fun _ => rfl) ?_)
        refine dw_val (fun _ => pv_addI (a := first) (b := 2 * root + 1 + 1) rfl rfl (by omega)) ?_
        refine dw_keep _ (fun vs W' hu _ => ok_iaddr (b := b) (o := 0) (len := n) (cap := cap) rfl rfl (first + (2 * root + 1 + 1)) rfl (by omega)) ?_
        refine dw_keep (u64V dk[first + (2 * root + 1 + 1)]!) (fun vs W' hu _ => ok_load1 (b := b) (o := 0 + (first + (2 * root + 1 + 1)) * 1) rfl ((hB2.upd hu).cell (row_get (by omega)))) ?_
        refine dw_end fun vs W_1 hu_1 _ => ?_
        refine xca rfl rfl (less_ok A.h_nan A.h_less dk[first + root]! dk[first + (2 * root + 1 + 1)]!) ?_
        rintro v W_2 ⟨rfl, hu_2⟩
        have hu_12 := hu_1.trans hu_2
        have hB_2 := hB2.upd hu_12
        refine xau rfl rfl rfl ?_
        refine exec_cond rfl (fun hc2 => ?_) (fun hc2 => ?_)
        · repeat (first | refine xtm rfl rfl rfl ?_ | refine xgr rfl ?_ | refine xgs rfl rfl ?_ | refine xg0 rfl ?_ | refine xct rfl ?_ | refine xcf rfl ?_ | refine xbk ?_ | refine xsq ?_ | refine xbl ?_ | refine xex rfl ?_)
          refine xre hc [] trivial ?_
          have e1 : siftDown ltN hi first root dk = dk := by
            rw [siftDown_if, dif_neg (by omega)]
            rw [if_pos hc1']
            rw [if_pos hc2]
          rw [← h4, e1]
          exact ⟨hB_2, (hE.trans hu_12 (by simp))⟩
        · simp only [Bool.not_eq_false'] at hc2
          repeat (first | refine xtm rfl rfl rfl ?_ | refine xgr rfl ?_ | refine xgs rfl rfl ?_ | refine xg0 rfl ?_ | refine xct rfl ?_ | refine xcf rfl ?_ | refine xbk ?_ | refine xsq ?_ | refine xbl ?_ | refine xex rfl ?_)
          refine exec_dws [b] 21 (fun W => Blk W b (splice (row dk rest) (0 + (first + root) * 1) (Value.cells (u64V dk[first + (2 * root + 1 + 1)]!)).toList)) (fun W W' h hu => h.upd hu) rfl rfl rfl ?_
          repeat (first | refine ws_auto rfl rfl rfl ?_ | refine ws_gauto rfl rfl rfl rfl ?_ | refine wgs rfl rfl ?_)
          refine ws_val rfl (pv_addI (a := first) (b := root) rfl rfl (by omega)) ?_
          repeat (first | refine ws_auto rfl rfl rfl ?_ | refine ws_gauto rfl rfl rfl rfl ?_ | refine wgs rfl rfl ?_)
          refine ws_val rfl (pv_addI (a := first) (b := 2 * root + 1 + 1) rfl rfl (by omega)) ?_
          repeat (first | refine ws_auto rfl rfl rfl ?_ | refine ws_gauto rfl rfl rfl rfl ?_ | refine wgs rfl rfl ?_)
          refine ws_val rfl (pv_addI (a := first) (b := 2 * root + 1 + 1) rfl rfl (by omega)) ?_
          refine ws_any _ rfl (fun W => ok_iaddr (b := b) (o := 0) (len := n) (cap := cap) rfl rfl (first + (2 * root + 1 + 1)) rfl (by omega)) ?_
          refine ws_ok (u64V dk[first + (2 * root + 1 + 1)]!) rfl rfl (fun W hu => ok_load1 (b := b) (o := 0 + (first + (2 * root + 1 + 1)) * 1) rfl ((hB_2.upd hu).cell (row_get (by omega)))) ?_
          repeat (first | refine ws_auto rfl rfl rfl ?_ | refine ws_gauto rfl rfl rfl rfl ?_ | refine wgs rfl rfl ?_)
          refine ws_val rfl (pv_addI (a := first) (b := root) rfl rfl (by omega)) ?_
          refine ws_any _ rfl (fun W => ok_iaddr (b := b) (o := 0) (len := n) (cap := cap) rfl rfl (first + root) rfl (by omega)) ?_
          refine ws_ok (u64V dk[first + root]!) rfl rfl (fun W hu => ok_load1 (b := b) (o := 0 + (first + root) * 1) rfl ((hB_2.upd hu).cell (row_get (by omega)))) ?_
          refine ws_any _ rfl (fun W => ok_iaddr (b := b) (o := 0) (len := n) (cap := cap) rfl rfl (first + root) rfl (by omega)) ?_
          refine ws_store rfl rfl rfl hB_2 rfl (by rw [row_length]; omega) rfl (by simp) (fun W h => h) ?_
          refine ws_end fun W_a hu_a hW_a => ?_
          refine xju (ok_iaddr (b := b) (o := 0) (len := n) (cap := cap) rfl rfl (first + (2 * root + 1 + 1)) rfl (by omega)) rfl ?_
          refine exec_store (b := b) (o := 0 + (first + (2 * root + 1 + 1)) * 1) (v := u64V dk[first + root]!) rfl rfl (hW_a rfl) rfl (by rw [row_set (by omega), row_length]; simp; omega) rfl ?_
          intro W_3 hu_b _ hB_3
          rw [row_swp (by omega) (by omega)] at hB_3
          have hu_3 := hu_a.trans hu_b (by simp)
          repeat (first | refine xtm rfl rfl rfl ?_ | refine xgr rfl ?_ | refine xgs rfl rfl ?_ | refine xg0 rfl ?_ | refine xct rfl ?_ | refine xcf rfl ?_ | refine xbk ?_ | refine xsq ?_ | refine xbl ?_ | refine xex rfl ?_)
          refine xag (2 * root + 1 + 1, swp dk (first + root) (first + (2 * root + 1 + 1))) ⟨by show 2 * root + 1 + 1 ≤ n; omega, by rw [swp_size]; exact h3, ?_, hB_3, (hE.trans hu_12 (by simp)).trans hu_3 (by simp)⟩ (by show n + 1 - (2 * root + 1 + 1) < n + 1 - root; omega) ⟨rfl, rfl, rfl, rfl, trivial⟩
          rw [← h4]
          show siftDown ltN hi first (2 * root + 1 + 1) _ = siftDown ltN hi first root dk
          rw [siftDown_if ltN hi first root dk, dif_neg (by omega)]
          rw [if_pos hc1']
          rw [if_neg (by rw [hc2]; simp)]
          rw [dif_pos (show 2 * root + 2 < hi by omega)]
      · repeat (first | refine xtm rfl rfl rfl ?_ | refine xgr rfl ?_ | refine xgs rfl rfl ?_ | refine xg0 rfl ?_ | refine xct rfl ?_ | refine xcf rfl ?_ | refine xbk ?_ | refine xsq ?_ | refine xbl ?_ | refine xex rfl ?_)
        have hc1' : ¬ (decide (2 * root + 1 + 1 < hi) && ltN dk[first + (2 * root + 1)]! dk[first + (2 * root + 1) + 1]!) = true := by rw [hc1]; simp
        refine exec_dw [] rfl rfl rfl ?_
        repeat (first | refine dau rfl (fun _ => rfl) ?_ | refine dga rfl (fun _ => rfl) (fun _ => rfl) ?_ | refine dgs (fun _ => rfl) ?_)
        refine dw_val (fun _ => pv_addI (a := first) (b := root) rfl rfl (by omega)) ?_
        refine dw_keep _ (fun vs W' hu _ => ok_iaddr (b := b) (o := 0) (len := n) (cap := cap) rfl rfl (first + root) rfl (by omega)) ?_
        refine dw_keep (u64V dk[first + root]!) (fun vs W' hu _ => ok_load1 (b := b) (o := 0 + (first + root) * 1) rfl ((hB2.upd hu).cell (row_get (by omega)))) ?_
        repeat (first | refine dau rfl (fun _ => rfl) ?_ | refine dga rfl (fun _ => rfl) (fun _ => rfl) ?_ | refine dgs (fun _ => rfl) ?_)
        refine dw_val (fun _ => pv_addI (a := first) (b := 2 * root + 1) rfl rfl (by omega)) ?_
        refine dw_keep _ (fun vs W' hu _ => ok_iaddr (b := b) (o := 0) (len := n) (cap := cap) rfl rfl (first + (2 * root + 1)) rfl (by omega)) ?_
        refine dw_keep (u64V dk[first + (2 * root + 1)]!) (fun vs W' hu _ => ok_load1 (b := b) (o := 0 + (first + (2 * root + 1)) * 1) rfl ((hB2.upd hu).cell (row_get (by omega)))) ?_
        refine dw_end fun vs W_1 hu_1 _ => ?_
        refine xca rfl rfl (less_ok A.h_nan A.h_less dk[first + root]! dk[first + (2 * root + 1)]!) ?_
        rintro v W_2 ⟨rfl, hu_2⟩
        have hu_12 := hu_1.trans hu_2
        have hB_2 := hB2.upd hu_12
        refine xau rfl rfl rfl ?_
        refine exec_cond rfl (fun hc2 => ?_) (fun hc2 => ?_)
        · repeat (first | refine xtm rfl rfl rfl ?_ | refine xgr rfl ?_ | refine xgs rfl rfl ?_ | refine xg0 rfl ?_ | refine xct rfl ?_ | refine xcf rfl ?_ | refine xbk ?_ | refine xsq ?_ | refine xbl ?_ | refine xex rfl ?_)
          refine xre hc [] trivial ?_
          have e1 : siftDown ltN hi first root dk = dk := by
            rw [siftDown_if, dif_neg (by omega)]
            rw [if_neg hc1']
            rw [if_pos hc2]
          rw [← h4, e1]
          exact ⟨hB_2, (hE.trans hu_12 (by simp))⟩
        · simp only [Bool.not_eq_false'] at hc2
          repeat (first | refine xtm rfl rfl rfl ?_ | refine xgr rfl ?_ | refine xgs rfl rfl ?_ | refine xg0 rfl ?_ | refine xct rfl ?_ | refine xcf rfl ?_ | refine xbk ?_ | refine xsq ?_ | refine xbl ?_ | refine xex rfl ?_)
          refine exec_dws [b] 21 (fun W => Blk W b (splice (row dk rest) (0 + (first + root) * 1) (Value.cells (u64V dk[first + (2 * root + 1)]!)).toList)) (fun W W' h hu => h.upd hu) rfl rfl rfl ?_
          repeat (first | refine ws_auto rfl rfl rfl ?_ | refine ws_gauto rfl rfl rfl rfl ?_ | refine wgs rfl rfl ?_)
          refine ws_val rfl (pv_addI (a := first) (b := root) rfl rfl (by omega)) ?_
          repeat (first | refine ws_auto rfl rfl rfl ?_ | refine ws_gauto rfl rfl rfl rfl ?_ | refine wgs rfl rfl ?_)
          refine ws_val rfl (pv_addI (a := first) (b := 2 * root + 1) rfl rfl (by omega)) ?_
          repeat (first | refine ws_auto rfl rfl rfl ?_ | refine ws_gauto rfl rfl rfl rfl ?_ | refine wgs rfl rfl ?_)
          refine ws_val rfl (pv_addI (a := first) (b := 2 * root + 1) rfl rfl (by omega)) ?_
          refine ws_any _ rfl (fun W => ok_iaddr (b := b) (o := 0) (len := n) (cap := cap) rfl rfl (first + (2 * root + 1)) rfl (by omega)) ?_
          refine ws_ok (u64V dk[first + (2 * root + 1)]!) rfl rfl (fun W hu => ok_load1 (b := b) (o := 0 + (first + (2 * root + 1)) * 1) rfl ((hB_2.upd hu).cell (row_get (by omega)))) ?_
          repeat (first | refine ws_auto rfl rfl rfl ?_ | refine ws_gauto rfl rfl rfl rfl ?_ | refine wgs rfl rfl ?_)
          refine ws_val rfl (pv_addI (a := first) (b := root) rfl rfl (by omega)) ?_
          refine ws_any _ rfl (fun W => ok_iaddr (b := b) (o := 0) (len := n) (cap := cap) rfl rfl (first + root) rfl (by omega)) ?_
          refine ws_ok (u64V dk[first + root]!) rfl rfl (fun W hu => ok_load1 (b := b) (o := 0 + (first + root) * 1) rfl ((hB_2.upd hu).cell (row_get (by omega)))) ?_
          refine ws_any _ rfl (fun W => ok_iaddr (b := b) (o := 0) (len := n) (cap := cap) rfl rfl (first + root) rfl (by omega)) ?_
          refine ws_store rfl rfl rfl hB_2 rfl (by rw [row_length]; omega) rfl (by simp) (fun W h => h) ?_
          refine ws_end fun W_a hu_a hW_a => ?_
          refine xju (ok_iaddr (b := b) (o := 0) (len := n) (cap := cap) rfl rfl (first + (2 * root + 1)) rfl (by omega)) rfl ?_
          refine exec_store (b := b) (o := 0 + (first + (2 * root + 1)) * 1) (v := u64V dk[first + root]!) rfl rfl (hW_a rfl) rfl (by rw [row_set (by omega), row_length]; simp; omega) rfl ?_
          intro W_3 hu_b _ hB_3
          rw [row_swp (by omega) (by omega)] at hB_3
          have hu_3 := hu_a.trans hu_b (by simp)
          repeat (first | refine xtm rfl rfl rfl ?_ | refine xgr rfl ?_ | refine xgs rfl rfl ?_ | refine xg0 rfl ?_ | refine xct rfl ?_ | refine xcf rfl ?_ | refine xbk ?_ | refine xsq ?_ | refine xbl ?_ | refine xex rfl ?_)
          refine xag (2 * root + 1, swp dk (first + root) (first + (2 * root + 1))) ⟨by show 2 * root + 1 ≤ n; omega, by rw [swp_size]; exact h3, ?_, hB_3, (hE.trans hu_12 (by simp)).trans hu_3 (by simp)⟩ (by show n + 1 - (2 * root + 1) < n + 1 - root; omega) ⟨rfl, rfl, rfl, rfl, trivial⟩
          rw [← h4]
          show siftDown ltN hi first (2 * root + 1) _ = siftDown ltN hi first root dk
          rw [siftDown_if ltN hi first root dk, dif_neg (by omega)]
          rw [if_neg hc1']
          rw [if_neg (by rw [hc2]; simp)]
          skip
    · refine exec_dw [] rfl rfl rfl ?_
      refine dau rfl (fun _ => rfl) ?_
      refine dw_val (fun _ => pv_addI (a := 2 * root + 1) (b := 1) rfl rfl (by omega)) ?_
      refine dau rfl (fun _ => rfl) ?_
      refine dw_val (fun _ => pv_lssI (a := 2 * root + 1 + 1) (b := hi) (q := false) rfl rfl (by simpa using hc2')) ?_
      repeat (first | refine dau rfl (fun _ => rfl) ?_ | refine dga rfl (fun _ => rfl) (fun _ => rfl) ?_ | refine dgs (fun _ => rfl) ?_)
      refine dw_end fun vs W1 hu1 _ => ?_
      repeat (first | refine xtm rfl rfl rfl ?_ | refine xgr rfl ?_ | refine xgs rfl rfl ?_ | refine xg0 rfl ?_ | refine xct rfl ?_ | refine xcf rfl ?_ | refine xbk ?_ | refine xsq ?_ | refine xbl ?_ | refine xex rfl ?_)
      have hB2 := h5.upd hu1
      have hE := h6.trans hu1 (by simp)
      have hc1' : ¬ (decide (2 * root + 1 + 1 < hi) && ltN dk[first + (2 * root + 1)]! dk[first + (2 * root + 1) + 1]!) = true := by simp [hc2']
      refine exec_dw [] rfl rfl rfl ?_
      repeat (first | refine dau rfl (fun _ => rfl) ?_ | refine dga rfl (fun _ => rfl) (fun _ => rfl) ?_ | refine dgs (fun _ => rfl) ?_)
      refine dw_val (fun _ => pv_addI (a := first) (b := root) rfl rfl (by omega)) ?_
      refine dw_keep _ (fun vs W' hu _ => ok_iaddr (b := b) (o := 0) (len := n) (cap := cap) rfl rfl (first + root) rfl (by omega)) ?_
      refine dw_keep (u64V dk[first + root]!) (fun vs W' hu _ => ok_load1 (b := b) (o := 0 + (first + root) * 1) rfl ((hB2.upd hu).cell (row_get (by omega)))) ?_
      repeat (first | refine dau rfl (fun _ => rfl) ?_ | refine dga rfl (fun _ => rfl) (fun _ => rfl) ?_ | refine dgs (fun _ => rfl) ?_)
      refine dw_val (fun _ => pv_addI (a := first) (b := 2 * root + 1) rfl rfl (by omega)) ?_
      refine dw_keep _ (fun vs W' hu _ => ok_iaddr (b := b) (o := 0) (len := n) (cap := cap) rfl rfl (first + (2 * root + 1)) rfl (by omega)) ?_
      refine dw_keep (u64V dk[first + (2 * root + 1)]!) (fun vs W' hu _ => ok_load1 (b := b) (o := 0 + (first + (2 * root + 1)) * 1) rfl ((hB2.upd hu).cell (row_get (by omega)))) ?_
      refine dw_end fun vs W_1 hu_1 _ => ?_
      refine xca rfl rfl (less_ok A.h_nan A.h_less dk[first + root]! dk[first + (2 * root + 1)]!) ?_
      rintro v W_2 ⟨rfl, hu_2⟩
      have hu_12 := hu_1.trans hu_2
      have hB_2 := hB2.upd hu_12
      refine xau rfl rfl rfl ?_
      refine exec_cond rfl (fun hc2 => ?_) (fun hc2 => ?_)
      · repeat (first | refine xtm rfl rfl rfl ?_ | refine xgr rfl ?_ | refine xgs rfl rfl ?_ | refine xg0 rfl ?_ | refine xct rfl ?_ | refine xcf rfl ?_ | refine xbk ?_ | refine xsq ?_ | refine xbl ?_ | refine xex rfl ?_)
        refine xre hc [] trivial ?_
        have e1 : siftDown ltN hi first root dk = dk := by
          rw [siftDown_if, dif_neg (by omega)]
          rw [if_neg hc1']
          rw [if_pos hc2]
        rw [← h4, e1]
        exact ⟨hB_2, (hE.trans hu_12 (by simp))⟩
      · simp only [Bool.not_eq_false'] at hc2
        repeat (first | refine xtm rfl rfl rfl ?_ | refine xgr rfl ?_ | refine xgs rfl rfl ?_ | refine xg0 rfl ?_ | refine xct rfl ?_ | refine xcf rfl ?_ | refine xbk ?_ | refine xsq ?_ | refine xbl ?_ | refine xex rfl ?_)
        refine exec_dws [b] 21 (fun W => Blk W b (splice (row dk rest) (0 + (first + root) * 1) (Value.cells (u64V dk[first + (2 * root + 1)]!)).toList)) (fun W W' h hu => h.upd hu) rfl rfl rfl ?_
        repeat (first | refine ws_auto rfl rfl rfl ?_ | refine ws_gauto rfl rfl rfl rfl ?_ | refine wgs rfl rfl ?_)
        refine ws_val rfl (pv_addI (a := first) (b := root) rfl rfl (by omega)) ?_
        repeat (first | refine ws_auto rfl rfl rfl ?_ | refine ws_gauto rfl rfl rfl rfl ?_ | refine wgs rfl rfl ?_)
        refine ws_val rfl (pv_addI (a := first) (b := 2 * root + 1) rfl rfl (by omega)) ?_
        repeat (first | refine ws_auto rfl rfl rfl ?_ | refine ws_gauto rfl rfl rfl rfl ?_ | refine wgs rfl rfl ?_)
        refine ws_val rfl (pv_addI (a := first) (b := 2 * root + 1) rfl rfl (by omega)) ?_
        refine ws_any _ rfl (fun W => ok_iaddr (b := b) (o := 0) (len := n) (cap := cap) rfl rfl (first + (2 * root + 1)) rfl (by omega)) ?_
        refine ws_ok (u64V dk[first + (2 * root + 1)]!) rfl rfl (fun W hu => ok_load1 (b := b) (o := 0 + (first + (2 * root + 1)) * 1) rfl ((hB_2.upd hu).cell (row_get (by omega)))) ?_
        repeat (first | refine ws_auto rfl rfl rfl ?_ | refine ws_gauto rfl rfl rfl rfl ?_ | refine wgs rfl rfl ?_)
        refine ws_val rfl (pv_addI (a := first) (b := root) rfl rfl (by omega)) ?_
        refine ws_any _ rfl (fun W => ok_iaddr (b := b) (o := 0) (len := n) (cap := cap) rfl rfl (first + root) rfl (by omega)) ?_
        refine ws_ok (u64V dk[first + root]!) rfl rfl (fun W hu => ok_load1 (b := b) (o := 0 + (first + root) * 1) rfl ((hB_2.upd hu).cell (row_get (by omega)))) ?_
        refine ws_any _ rfl (fun W => ok_iaddr (b := b) (o := 0) (len := n) (cap := cap) rfl rfl (first + root) rfl (by omega)) ?_
        refine ws_store rfl rfl rfl hB_2 rfl (by rw [row_length]; omega) rfl (by simp) (fun W h => h) ?_
        refine ws_end fun W_a hu_a hW_a => ?_
        refine xju (ok_iaddr (b := b) (o := 0) (len := n) (cap := cap) rfl rfl (first + (2 * root + 1)) rfl (by omega)) rfl ?_
        refine exec_store (b := b) (o := 0 + (first + (2 * root + 1)) * 1) (v := u64V dk[first + root]!) rfl rfl (hW_a rfl) rfl (by rw [row_set (by omega), row_length]; simp; omega) rfl ?_
        intro W_3 hu_b _ hB_3
        rw [row_swp (by omega) (by omega)] at hB_3
        have hu_3 := hu_a.trans hu_b (by simp)
        repeat (first | refine xtm rfl rfl rfl ?_ | refine xgr rfl ?_ | refine xgs rfl rfl ?_ | refine xg0 rfl ?_ | refine xct rfl ?_ | refine xcf rfl ?_ | refine xbk ?_ | refine xsq ?_ | refine xbl ?_ | refine xex rfl ?_)
        refine xag (2 * root + 1, swp dk (first + root) (first + (2 * root + 1))) ⟨by show 2 * root + 1 ≤ n; omega, by rw [swp_size]; exact h3, ?_, hB_3, (hE.trans hu_12 (by simp)).trans hu_3 (by simp)⟩ (by show n + 1 - (2 * root + 1) < n + 1 - root; omega) ⟨rfl, rfl, rfl, rfl, trivial⟩
        rw [← h4]
        show siftDown ltN hi first (2 * root + 1) _ = siftDown ltN hi first root dk
        rw [siftDown_if ltN hi first root dk, dif_neg (by omega)]
        rw [if_neg hc1']
        rw [if_neg (by rw [hc2]; simp)]
        skip
theorem siftDown_size (hi first : Nat) : ∀ (m root : Nat) (d : Array Nat), hi - root ≤ m → (siftDown ltN hi first root d).size = d.size := by
  intro m
  induction m with
  | zero => intro root d h; rw [siftDown_if, dif_pos (by omega)]
  | succ m ih =>
    intro root d h
    rw [siftDown_if]
    split
    · rfl
    · split
      · split
        · rfl
        · split
          · rw [ih _ _ (by omega), swp_size]
          · rfl
      · split
        · rfl
        · rw [ih _ _ (by omega), swp_size]
theorem heap_ok {g : Nat} (h1 : Has P g (b_slices_siftDownOrdered_uint64 A.less)) (h : Has P f (b_slices_heapSortOrdered_uint64 g)) {b n cap x y : Nat} {d : Array Nat} {rest : List Value} (hB : Blk w b (row d rest)) (hd : d.size = n) (hxy : x < y) (hy : y ≤ n) (hn : n < 2 ^ 40) :
    Ret P f [slV b n cap, intV' x, intV' y] w fun _ w' => Blk w' b (row (heapSort ltN d x y) rest) ∧ Upd [b] w w' := by
  have hss : ∀ (hi first root : Nat) (d : Array Nat), (siftDown ltN hi first root d).size = d.size := fun hi first root d => siftDown_size hi first _ root d (Nat.le_refl _)
  refine Ret.of_exec h (Nat.le_of_ble_eq_true rfl) fun c hc => ?_
  dsimp only [b_slices_heapSortOrdered_uint64, argEnv]
  repeat (first | refine xtm rfl rfl rfl ?_ | refine xgr rfl ?_ | refine xgs rfl rfl ?_ | refine xg0 rfl ?_ | refine xct rfl ?_ | refine xcf rfl ?_ | refine xbk ?_ | refine xsq ?_ | refine xbl ?_ | refine xex rfl ?_)
  refine xpu (pv_subI (a := y) (b := x) rfl rfl (by omega) (by omega)) rfl ?_
  repeat (first | refine xtm rfl rfl rfl ?_ | refine xgr rfl ?_ | refine xgs rfl rfl ?_ | refine xg0 rfl ?_ | refine xct rfl ?_ | refine xcf rfl ?_ | refine xbk ?_ | refine xsq ?_ | refine xbl ?_ | refine xex rfl ?_)
  refine xpu (pv_subI (a := y - x) (b := 1) rfl rfl (by omega) (by omega)) rfl ?_
  refine xju (ok_quoI (a := y - x - 1) (b := 2) rfl rfl (by omega) (by omega)) rfl ?_
  repeat (first | refine xtm rfl rfl rfl ?_ | refine xgr rfl ?_ | refine xgs rfl rfl ?_ | refine xg0 rfl ?_ | refine xct rfl ?_ | refine xcf rfl ?_ | refine xbk ?_ | refine xsq ?_ | refine xbl ?_ | refine xex rfl ?_)
  refine xlo (S := Nat × Array Nat) (fun s W => s.1 ≤ (y - x - 1) / 2 + 1 ∧ s.2.size = n ∧ heapBuild ltN (y - x) x s.1 s.2 = heapBuild ltN (y - x) x ((y - x - 1) / 2 + 1) d ∧ Blk W b (row s.2 rest) ∧ Upd [b] w W)
    (fun s => [(0, slV b n cap), (6, intV' x), (7, intV' 0), (8, intV' (y - x)), (9, .int .i64 ((s.1 : Int) - 1))]) (fun s => s.1) ((y - x - 1) / 2 + 1, d) ⟨Nat.le_refl _, hd, rfl, hB, Upd.refl _ _⟩ ⟨rfl, rfl, rfl, rfl, by simp [Env.get], trivial⟩ ?_
  rintro ⟨k, dk⟩ W ⟨g1, g3, g4, g5, g6⟩
  simp only at g1 g3 g4 g5
  repeat (first | refine xtm rfl rfl rfl ?_ | refine xgr rfl ?_ | refine xgs rfl rfl ?_ | refine xg0 rfl ?_ | refine xct rfl ?_ | refine xcf rfl ?_ | refine xbk ?_ | refine xsq ?_ | refine xbl ?_ | refine xex rfl ?_)
  cases k with
  | succ k =>
    rw [show (((k + 1 : Nat) : Int) - 1) = (k : Int) by omega]
    refine xpu (pv_geqI (a := k) (b := 0) (q := true) rfl rfl (by simp)) rfl ?_
    repeat (first | refine xtm rfl rfl rfl ?_ | refine xgr rfl ?_ | refine xgs rfl rfl ?_ | refine xg0 rfl ?_ | refine xct rfl ?_ | refine xcf rfl ?_ | refine xbk ?_ | refine xsq ?_ | refine xbl ?_ | refine xex rfl ?_)
    refine xca rfl rfl (sift_ok A h1 g5 g3 (by omega) (by omega) hn) ?_
    rintro v W1 ⟨hB1, hu1⟩
    repeat (first | refine xtm rfl rfl rfl ?_ | refine xgr rfl ?_ | refine xgs rfl rfl ?_ | refine xg0 rfl ?_ | refine xct rfl ?_ | refine xcf rfl ?_ | refine xbk ?_ | refine xsq ?_ | refine xbl ?_ | refine xex rfl ?_)
    refine xpu (pv_subZ (a := (k : Int)) (b := 1) rfl rfl (by omega) (by omega)) rfl ?_
    repeat (first | refine xtm rfl rfl rfl ?_ | refine xgr rfl ?_ | refine xgs rfl rfl ?_ | refine xg0 rfl ?_ | refine xct rfl ?_ | refine xcf rfl ?_ | refine xbk ?_ | refine xsq ?_ | refine xbl ?_ | refine xex rfl ?_)
    refine xag (k, siftDown ltN (y - x) x k dk) ⟨by show k ≤ _; omega, by rw [hss]; exact g3, ?_, hB1, g6.trans hu1 (by simp)⟩ (by show k < k + 1; omega) ⟨rfl, rfl, rfl, rfl, rfl, trivial⟩
    rw [← g4]; rfl
  | zero =>
    refine xau rfl rfl rfl ?_
    refine exec_cond rfl (fun hq => ?_) (fun hq => ?_)
    · simp at hq
    repeat (first | refine xtm rfl rfl rfl ?_ | refine xgr rfl ?_ | refine xgs rfl rfl ?_ | refine xg0 rfl ?_ | refine xct rfl ?_ | refine xcf rfl ?_ | refine xbk ?_ | refine xsq ?_ | refine xbl ?_ | refine xex rfl ?_)
    refine xpu (pv_subI (a := y - x) (b := 1) rfl rfl (by omega) (by omega)) rfl ?_
    repeat (first | refine xtm rfl rfl rfl ?_ | refine xgr rfl ?_ | refine xgs rfl rfl ?_ | refine xg0 rfl ?_ | refine xct rfl ?_ | refine xcf rfl ?_ | refine xbk ?_ | refine xsq ?_ | refine xbl ?_ | refine xex rfl ?_)
    have hdk : dk = heapBuild ltN (y - x) x ((y - x - 1) / 2 + 1) d := by rw [← g4]; rfl
    refine xlo (S := Nat × Array Nat) (fun s W => s.1 ≤ y - x ∧ s.2.size = n ∧ heapPop ltN x s.1 s.2 = heapSort ltN d x y ∧ Blk W b (row s.2 rest) ∧ Upd [b] w W)
      (fun s => [(0, slV b n cap), (6, intV' x), (7, intV' 0), (8, intV' (y - x)), (10, .int .i64 ((s.1 : Int) - 1))]) (fun s => s.1) (y - x, dk) ⟨Nat.le_refl _, g3, by rw [heapSort, ← hdk], g5, g6⟩ ⟨rfl, rfl, rfl, rfl, by simp [Env.get]; omega, trivial⟩ ?_
    rintro ⟨k, dj⟩ W1 ⟨k1, k3, k4, k5, k6⟩
    simp only at k1 k3 k4 k5
    repeat (first | refine xtm rfl rfl rfl ?_ | refine xgr rfl ?_ | refine xgs rfl rfl ?_ | refine xg0 rfl ?_ | refine xct rfl ?_ | refine xcf rfl ?_ | refine xbk ?_ | refine xsq ?_ | refine xbl ?_ | refine xex rfl ?_)
    cases k with
    | succ k =>
      rw [show (((k + 1 : Nat) : Int) - 1) = (k : Int) by omega]
      refine xpu (pv_geqI (a := k) (b := 0) (q := true) rfl rfl (by simp)) rfl ?_
      repeat (first | refine xtm rfl rfl rfl ?_ | refine xgr rfl ?_ | refine xgs rfl rfl ?_ | refine xg0 rfl ?_ | refine xct rfl ?_ | refine xcf rfl ?_ | refine xbk ?_ | refine xsq ?_ | refine xbl ?_ | refine xex rfl ?_)
      refine exec_dws [b] 17 (fun W => Blk W b (splice (row dj rest) (0 + (x) * 1) (Value.cells (u64V dj[x + k]!)).toList)) (fun W W' h hu => h.upd hu) rfl rfl rfl ?_
      repeat (first | refine ws_auto rfl rfl rfl ?_ | refine ws_gauto rfl rfl rfl rfl ?_ | refine wgs rfl rfl ?_)
      refine ws_val rfl (pv_addI (a := x) (b := k) rfl rfl (by omega)) ?_
      repeat (first | refine ws_auto rfl rfl rfl ?_ | refine ws_gauto rfl rfl rfl rfl ?_ | refine wgs rfl rfl ?_)
      refine ws_val rfl (pv_addI (a := x) (b := k) rfl rfl (by omega)) ?_
      refine ws_any _ rfl (fun W => ok_iaddr (b := b) (o := 0) (len := n) (cap := cap) rfl rfl (x + k) rfl (by omega)) ?_
      refine ws_ok (u64V dj[x + k]!) rfl rfl (fun W hu => ok_load1 (b := b) (o := 0 + (x + k) * 1) rfl ((k5.upd hu).cell (row_get (by omega)))) ?_
      repeat (first | refine ws_auto rfl rfl rfl ?_ | refine ws_gauto rfl rfl rfl rfl ?_ | refine wgs rfl rfl ?_)
      refine ws_any _ rfl (fun W => ok_iaddr (b := b) (o := 0) (len := n) (cap := cap) rfl rfl (x) rfl (by omega)) ?_
      refine ws_ok (u64V dj[x]!) rfl rfl (fun W hu => ok_load1 (b := b) (o := 0 + (x) * 1) rfl ((k5.upd hu).cell (row_get (by omega)))) ?_
      refine ws_any _ rfl (fun W => ok_iaddr (b := b) (o := 0) (len := n) (cap := cap) rfl rfl (x) rfl (by omega)) ?_
      refine ws_store rfl rfl rfl k5 rfl (by rw [row_length]; omega) rfl (by simp) (fun W h => h) ?_
      refine ws_end fun W_a hu_a hW_a => ?_
      refine xju (ok_iaddr (b := b) (o := 0) (len := n) (cap := cap) rfl rfl (x + k) rfl (by omega)) rfl ?_
      refine exec_store (b := b) (o := 0 + (x + k) * 1) (v := u64V dj[x]!) rfl rfl (hW_a rfl) rfl (by rw [row_set (by omega), row_length]; simp; omega) rfl ?_
      intro W2 hu_b _ hB2
      rw [row_swp (by omega) (by omega)] at hB2
      have hu2 := hu_a.trans hu_b (by simp)
      repeat (first | refine xtm rfl rfl rfl ?_ | refine xgr rfl ?_ | refine xgs rfl rfl ?_ | refine xg0 rfl ?_ | refine xct rfl ?_ | refine xcf rfl ?_ | refine xbk ?_ | refine xsq ?_ | refine xbl ?_ | refine xex rfl ?_)
      refine xca rfl rfl (sift_ok A h1 hB2 (by rw [swp_size]; exact k3) (by omega) (by omega) hn) ?_
      rintro v W3 ⟨hB3, hu3⟩
      repeat (first | refine xtm rfl rfl rfl ?_ | refine xgr rfl ?_ | refine xgs rfl rfl ?_ | refine xg0 rfl ?_ | refine xct rfl ?_ | refine xcf rfl ?_ | refine xbk ?_ | refine xsq ?_ | refine xbl ?_ | refine xex rfl ?_)
      refine xpu (pv_subZ (a := (k : Int)) (b := 1) rfl rfl (by omega) (by omega)) rfl ?_
      repeat (first | refine xtm rfl rfl rfl ?_ | refine xgr rfl ?_ | refine xgs rfl rfl ?_ | refine xg0 rfl ?_ | refine xct rfl ?_ | refine xcf rfl ?_ | refine xbk ?_ | refine xsq ?_ | refine xbl ?_ | refine xex rfl ?_)
      refine xag (k, siftDown ltN k x 0 (swp dj x (x + k))) ⟨by show k ≤ _; omega, by rw [hss, swp_size]; exact k3, ?_, hB3, (k6.trans hu2 (by simp)).trans hu3 (by simp)⟩ (by show k < k + 1; omega) ⟨rfl, rfl, rfl, rfl, rfl, trivial⟩
      rw [← k4]; rfl
    | zero =>
      refine xau rfl rfl rfl ?_
      refine exec_cond rfl (fun hq => ?_) (fun hq => ?_)
      · simp at hq
      repeat (first | refine xtm rfl rfl rfl ?_ | refine xgr rfl ?_ | refine xgs rfl rfl ?_ | refine xg0 rfl ?_ | refine xct rfl ?_ | refine xcf rfl ?_ | refine xbk ?_ | refine xsq ?_ | refine xbl ?_ | refine xex rfl ?_)
      refine exec_end hc [] trivial ?_
      rw [← k4]
      exact ⟨k5, k6⟩
theorem reverse_ok (h : Has P f b_slices_reverseRangeOrdered_uint64) {b n cap x y : Nat} {d : Array Nat} {rest : List Value} (hB : Blk w b (row d rest)) (hd : d.size = n) (hxy : x < y) (hy : y ≤ n) (hn : n < 2 ^ 40) :
    Ret P f [slV b n cap, intV' x, intV' y] w fun _ w' => Blk w' b (row (reverseRange d x y) rest) ∧ Upd [b] w w' := by
  refine Ret.of_exec h (Nat.le_of_ble_eq_true rfl) fun c hc => ?_
  dsimp only [b_slices_reverseRangeOrdered_uint64, argEnv]
  repeat (first | refine xtm rfl rfl rfl ?_ | refine xgr rfl ?_ | refine xgs rfl rfl ?_ | refine xg0 rfl ?_ | refine xct rfl ?_ | refine xcf rfl ?_ | refine xbk ?_ | refine xsq ?_ | refine xbl ?_ | refine xex rfl ?_)
  refine xpu (pv_subI (a := y) (b := 1) rfl rfl (by omega) (by omega)) rfl ?_
  repeat (first | refine xtm rfl rfl rfl ?_ | refine xgr rfl ?_ | refine xgs rfl rfl ?_ | refine xg0 rfl ?_ | refine xct rfl ?_ | refine xcf rfl ?_ | refine xbk ?_ | refine xsq ?_ | refine xbl ?_ | refine xex rfl ?_)
  refine xlo (S := Nat × Nat × Array Nat) (fun s W => s.2.1 < y ∧ s.1 ≤ n ∧ s.2.2.size = n ∧ reverseLoop s.1 s.2.1 s.2.2 = reverseRange d x y ∧ Blk W b (row s.2.2 rest) ∧ Upd [b] w W)
    (fun s => [(0, slV b n cap), (6, intV' s.1), (7, intV' s.2.1)]) (fun s => s.2.1 - s.1) (x, y - 1, d) ⟨by show y - 1 < y; omega, by show x ≤ n; omega, hd, rfl, hB, Upd.refl _ _⟩ ⟨rfl, rfl, rfl, trivial⟩ ?_
  rintro ⟨i, j, dk⟩ W ⟨g1, g2, g3, g4, g5, g6⟩
  simp only at g1 g2 g3 g4 g5
  repeat (first | refine xtm rfl rfl rfl ?_ | refine xgr rfl ?_ | refine xgs rfl rfl ?_ | refine xg0 rfl ?_ | refine xct rfl ?_ | refine xcf rfl ?_ | refine xbk ?_ | refine xsq ?_ | refine xbl ?_ | refine xex rfl ?_)
  by_cases hij : i < j
  · refine xpu (pv_lssI (a := i) (b := j) (q := true) rfl rfl (by simpa using hij)) rfl ?_
    repeat (first | refine xtm rfl rfl rfl ?_ | refine xgr rfl ?_ | refine xgs rfl rfl ?_ | refine xg0 rfl ?_ | refine xct rfl ?_ | refine xcf rfl ?_ | refine xbk ?_ | refine xsq ?_ | refine xbl ?_ | refine xex rfl ?_)
    refine exec_dws [b] 13 (fun W => Blk W b (splice (row dk rest) (0 + i * 1) (Value.cells (u64V dk[j]!)).toList)) (fun W W' h hu => h.upd hu) rfl rfl rfl ?_
    repeat (first | refine ws_auto rfl rfl rfl ?_ | refine ws_gauto rfl rfl rfl rfl ?_ | refine wgs rfl rfl ?_)
    refine ws_any _ rfl (fun W => ok_iaddr (b := b) (o := 0) (len := n) (cap := cap) rfl rfl (j) rfl (by omega)) ?_
    refine ws_ok (u64V dk[j]!) rfl rfl (fun W hu => ok_load1 (b := b) (o := 0 + (j) * 1) rfl ((g5.upd hu).cell (row_get (by omega)))) ?_
    repeat (first | refine ws_auto rfl rfl rfl ?_ | refine ws_gauto rfl rfl rfl rfl ?_ | refine wgs rfl rfl ?_)
    refine ws_any _ rfl (fun W => ok_iaddr (b := b) (o := 0) (len := n) (cap := cap) rfl rfl (i) rfl (by omega)) ?_
    refine ws_ok (u64V dk[i]!) rfl rfl (fun W hu => ok_load1 (b := b) (o := 0 + (i) * 1) rfl ((g5.upd hu).cell (row_get (by omega)))) ?_
    refine ws_any _ rfl (fun W => ok_iaddr (b := b) (o := 0) (len := n) (cap := cap) rfl rfl (i) rfl (by omega)) ?_
    refine ws_store rfl rfl rfl g5 rfl (by rw [row_length]; omega) rfl (by simp) (fun W h => h) ?_
    refine ws_end fun W_a hu_a hW_a => ?_
    refine xju (ok_iaddr (b := b) (o := 0) (len := n) (cap := cap) rfl rfl (j) rfl (by omega)) rfl ?_
    refine exec_store (b := b) (o := 0 + (j) * 1) (v := u64V dk[i]!) rfl rfl (hW_a rfl) rfl (by rw [row_set (by omega), row_length]; simp; omega) rfl ?_
    intro W1 hu_b _ hB1
    rw [row_swp (by omega) (by omega)] at hB1
    have hu1 := hu_a.trans hu_b (by simp)
    repeat (first | refine xtm rfl rfl rfl ?_ | refine xgr rfl ?_ | refine xgs rfl rfl ?_ | refine xg0 rfl ?_ | refine xct rfl ?_ | refine xcf rfl ?_ | refine xbk ?_ | refine xsq ?_ | refine xbl ?_ | refine xex rfl ?_)
    refine xpu (pv_addI (a := i) (b := 1) rfl rfl (by omega)) rfl ?_
    repeat (first | refine xtm rfl rfl rfl ?_ | refine xgr rfl ?_ | refine xgs rfl rfl ?_ | refine xg0 rfl ?_ | refine xct rfl ?_ | refine xcf rfl ?_ | refine xbk ?_ | refine xsq ?_ | refine xbl ?_ | refine xex rfl ?_)
    refine xpu (pv_subI (a := j) (b := 1) rfl rfl (by omega) (by omega)) rfl ?_
    repeat (first | refine xtm rfl rfl rfl ?_ | refine xgr rfl ?_ | refine xgs rfl rfl ?_ | refine xg0 rfl ?_ | refine xct rfl ?_ | refine xcf rfl ?_ | refine xbk ?_ | refine xsq ?_ | refine xbl ?_ | refine xex rfl ?_)
    refine xag (i + 1, j - 1, swp dk i j) ⟨by show j - 1 < y; omega, by show i + 1 ≤ n; omega, by rw [swp_size]; exact g3, ?_, hB1, g6.trans hu1 (by simp)⟩ (by show j - 1 - (i + 1) < j - i; omega) ⟨rfl, rfl, rfl, trivial⟩
    rw [← g4]
    show _ = reverseLoop i j dk
    rw [reverseLoop_if i j dk, if_pos hij]
  · refine xpu (pv_lssI (a := i) (b := j) (q := false) rfl rfl (by simpa using hij)) rfl ?_
    repeat (first | refine xtm rfl rfl rfl ?_ | refine xgr rfl ?_ | refine xgs rfl rfl ?_ | refine xg0 rfl ?_ | refine xct rfl ?_ | refine xcf rfl ?_ | refine xbk ?_ | refine xsq ?_ | refine xbl ?_ | refine xex rfl ?_)
    refine exec_end hc [] trivial ?_
    rw [← g4, reverseLoop_if, if_neg hij]
    exact ⟨g5, g6⟩
end
end Go.Sp
