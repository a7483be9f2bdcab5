/- What package rel and the reference answer: folding, sameness, order among names. -/
import Derived.Test.YtkmdjcdmgmffiaaSRefPlaces
import Derived.Test.YtkmdjcdmgmffiaaMOrder
import Derived.Test.YtkmdjcdmgmffiaaPx10
import Derived.Test.YtkmdjcdmgmffiaaPx3
import Derived.Test.YtkmdjcdmgmffiaaPx4
import Derived.Test.YtkmdjcdmgmffiaaPx5
import Derived.Test.YtkmdjcdmgmffiaaPx9

set_option linter.unusedVariables false
set_option linter.unusedSimpArgs false
namespace Go.Proofs.Ytkmdjcdmgmffiaa.M
open Go Go.RowKit Go.Proofs.YtkmdjcdmgmffiaaW.PrintWords Go.Proofs.Ytkmdjcdmgmffiaa.P

theorem short_labels {s : Bytes} {ls : List Bytes} (h : nm s = some ls) : ls.length ≤ 127 ∧ ∀ l ∈ ls, l.length ≤ 63 := by
  have := nm_count h
  exact ⟨by omega, fun l hl => ((nm_some.1 h).1 l hl).2⟩

theorem map_B_mk (ls : List Bytes) : (ls.map mkB).map (fun l => fol l.data.toList) = ls.map fol := by
  rw [List.map_map]
  exact List.map_congr_left (fun x _ => congrArg fol (B_mk x))

theorem Fold_ev (s : ByteArray) : Ev (fun k => rel_Fold.f k s) (mkB (fold (B s))) := by
  have h1 := Labels_ev s
  unfold rel_Fold.f
  cases h : nm (B s) with
  | none =>
    rw [h] at h1
    rw [fold_none h]
    exact Ev.bind h1 (Ev.neg (by simp) (Ev.pure _))
  | some ls =>
    rw [h] at h1
    obtain ⟨g1, g2⟩ := short_labels h
    rw [fold_some h]
    refine Ev.bind h1 (Ev.pos rfl (Ev.pos ⟨by simp; omega, ?_⟩ (Ev.eq (Ev.pure _) ?_)))
    · intro l hl
      obtain ⟨x, hx, rfl⟩ := List.mem_map.1 hl
      have := g2 x hx
      rw [sz_mk]
      omega
    · unfold foldB
      rw [map_B_mk]
      rfl

theorem refFold_ev (s : ByteArray) : Ev (fun k => wimpleref1_Fold.f k s) (mkB (fold (B s))) := by
  obtain ⟨r, h1, h2⟩ := refplaces_ev s
  unfold wimpleref1_Fold.f
  cases h : nm (B s) with
  | none =>
    rw [h] at h1
    rw [fold_none h]
    exact Ev.bind h1 (Ev.neg (by simp) (Ev.pure _))
  | some ls =>
    rw [h] at h1
    have hr := h2 ls h
    subst hr
    refine Ev.bind h1 (Ev.pos rfl (Ev.pos ?_ (Ev.pure _)))
    exact ⟨by first | rfl | (rw [h]; rfl), by first | rfl | (rw [h]; rfl)⟩

theorem fold_inj {a b : Bytes} {x y : List Bytes} (ha : nm a = some x) (hb : nm b = some y) : fold a = fold b ↔ x.map fol = y.map fol := by
  rw [fold_some ha, fold_some hb]
  exact ⟨fun h => wire_inj (good_fold (nm_some.1 ha).1) (good_fold (nm_some.1 hb).1) h, fun h => by rw [h]⟩

/-- Are names the same? -/
def sameS (a b : Bytes) : Bool := match nm a, nm b with
  | some x, some y => decide (x.map fol = y.map fol)
  | _, _ => false

/-- Is a name above another one? -/
def aboveS (a b : Bytes) : Bool := match nm a, nm b with
  | some x, some y => decide (x.map fol <:+ y.map fol)
  | _, _ => false

theorem sameS_some {a b : Bytes} {x y : List Bytes} (ha : nm a = some x) (hb : nm b = some y) : sameS a b = decide (x.map fol = y.map fol) := by unfold sameS; rw [ha, hb]
theorem sameS_left {a b : Bytes} (ha : nm a = none) : sameS a b = false := by unfold sameS; rw [ha]
theorem sameS_right {a b : Bytes} (hb : nm b = none) : sameS a b = false := by unfold sameS; rw [hb]; cases nm a <;> rfl
theorem aboveS_some {a b : Bytes} {x y : List Bytes} (ha : nm a = some x) (hb : nm b = some y) : aboveS a b = decide (x.map fol <:+ y.map fol) := by unfold aboveS; rw [ha, hb]
theorem aboveS_left {a b : Bytes} (ha : nm a = none) : aboveS a b = false := by unfold aboveS; rw [ha]
theorem aboveS_right {a b : Bytes} (hb : nm b = none) : aboveS a b = false := by unfold aboveS; rw [hb]; cases nm a <;> rfl

theorem refSame_ev (a b : ByteArray) : Ev (fun k => wimpleref1_Same.f k a b) (sameS (B a) (B b)) := by
  unfold wimpleref1_Same.f
  refine Ev.bind (refMay_ev a) ?_
  cases ha : nm (B a) with
  | none =>
    rw [sameS_left ha]
    exact Ev.neg (by simp) (Ev.pure _)
  | some x =>
    refine Ev.pos rfl (Ev.bind (refMay_ev b) ?_)
    cases hb : nm (B b) with
    | none =>
      rw [sameS_right hb]
      exact Ev.neg (by simp) (Ev.pure _)
    | some y =>
      refine Ev.pos rfl (Ev.bind (refFold_ev a) (Ev.bind (refFold_ev b) (Ev.eq (Ev.pure _) ?_)))
      rw [toL, toL, B_mk, B_mk, sameS_some ha hb, Bool.eq_iff_iff, beq_iff_eq, decide_eq_true_eq]
      exact fold_inj ha hb

theorem Places_nil : Ev (fun k => name_Places.f k (mkB [])) (([] : List Int), false) := by
  unfold name_Places.f
  refine Ev.neg (by decide) (Ev.step (fun k => by simp only [name_Places.l0]; rfl) (Ev.neg (by decide) (Ev.neg (by decide) (Ev.pure _))))

theorem extract_off (s : ByteArray) (ls : List Bytes) (hw : wire ls = B s) (i : Nat) (h : i ≤ ls.length) : B (s.extract (off ls i) s.size) = wire (ls.drop i) := by
  rw [B_extract, ← hw, drop_off ls i h, List.take_of_length_le]
  rw [← drop_off ls i h, List.length_drop, sz, hw]
  exact Nat.le_refl _

theorem above_l0 (x5 x6 : ByteArray) (x : List Bytes) (y : List Bytes) (h5 : B x5 = wire x) (h6 : wire y = B x6) (gx : Good x) (gy : Good y) (hs : x6.size ≤ 255) : ∀ (d i : Nat), y.length + 1 - i = d → i ≤ y.length + 1 →
    Ev (fun k => rel_Above.l0 k x5 x6 (offs 0 y) ((offs 0 y).length : Int) (i : Int)) (decide (x <:+ y.drop i ∧ i ≤ y.length)) := by
  intro d
  have hol : (offs 0 y).length = y.length + 1 := offs_length 0 y
  have hcy := wire_count y gy
  have hsz := sz x6
  rw [h6] at hcy
  have hne : ¬ (x5.toList = ([] : List UInt8)) := by
    rw [toL, h5]
    intro e
    have := wire_pos x
    rw [e] at this
    simp at this
  induction d with
  | zero =>
    intro i hd hi
    obtain rfl : i = y.length + 1 := by omega
    refine Ev.step (fun k => by simp only [rel_Above.l0]; rfl) (Ev.neg (by omega) (Ev.eq (Ev.pure _) ?_))
    symm
    apply decide_eq_false
    rintro ⟨_, h2⟩
    omega
  | succ d ih =>
    intro i hd hi
    have hlt : i ≤ y.length := by omega
    have o := off_lt y i hlt
    rw [h6] at o
    have h := ih (i + 1) (by omega) (by omega)
    have hx := extract_off x6 y h6 i hlt
    refine Ev.step (fun k => by simp only [rel_Above.l0]; rfl) ?_
    simp only [rd_offs y i hlt, w_succ i (by omega), Int.toNat_natCast]
    refine Ev.pos (by omega) (Ev.pos (by omega) (Ev.pos (by omega) (Ev.neg hne (Ev.pos (by omega) (Ev.pos (by omega) ?_)))))
    by_cases he : y.drop i = x
    · refine Ev.pos (by rw [toL, toL, hx, h5, he]) (Ev.eq (Ev.pure _) ?_)
      symm
      exact decide_eq_true ⟨by rw [he]; exact List.suffix_refl _, hlt⟩
    · have hw : ¬ (wire (y.drop i) = wire x) := fun e => he (wire_inj (fun l hl => gy l (List.mem_of_mem_drop hl)) gx e)
      refine Ev.neg (by rw [toL, toL, hx, h5]; exact hw) (Ev.eq h ?_)
      rw [decide_eq_decide]
      constructor
      · rintro ⟨h1, h2⟩
        exact ⟨h1.trans (by rw [← List.drop_drop]; exact List.drop_suffix _ _), by omega⟩
      · rintro ⟨h1, _⟩
        have hcons : y.drop i ≠ [] := by
          intro e
          rw [e, List.suffix_nil] at h1
          exact he (by rw [e, h1])
        have hlt' : i < y.length := by
          rcases Nat.lt_or_ge i y.length with q | q
          · exact q
          · exact absurd (List.drop_eq_nil_of_le q) hcons
        rw [List.drop_eq_getElem_cons hlt'] at h1 he
        rcases List.suffix_cons_iff.1 h1 with q | q
        · exact absurd q.symm he
        · exact ⟨q, by omega⟩

theorem above_none (x5 x6 : ByteArray) (h5 : B x5 = []) (ps : List Int) : ∀ (d i : Nat), ps.length - i = d → i ≤ ps.length → ps.length ≤ 1000000 → Ev (fun k => rel_Above.l0 k x5 x6 ps (ps.length : Int) (i : Int)) false := by
  intro d
  induction d with
  | zero =>
    intro i hd hi hp
    exact Ev.step (fun k => by simp only [rel_Above.l0]; rfl) (Ev.neg (by omega) (Ev.pure _))
  | succ d ih =>
    intro i hd hi hp
    have h := ih (i + 1) (by omega) (by omega) hp
    refine Ev.step (fun k => by simp only [rel_Above.l0]; rfl) ?_
    simp only [w_succ i (by omega)]
    exact Ev.pos (by omega) (Ev.pos (by omega) (Ev.pos (by omega) (Ev.pos (by rw [toL, h5]) h)))

theorem Above_ev (a b : ByteArray) : Ev (fun k => rel_Above.f k a b) (aboveS (B a) (B b)) := by
  unfold rel_Above.f
  refine Ev.bind (Fold_ev a) (Ev.bind (Fold_ev b) ?_)
  cases hb : nm (B b) with
  | none =>
    rw [aboveS_right hb, fold_none hb]
    exact Ev.bind Places_nil (Ev.step (fun k => by simp only [rel_Above.l0]; rfl) (Ev.neg (by simp) (Ev.pure _)))
  | some y =>
    obtain ⟨r, h1, h2⟩ := Places_ev (mkB (fold (B b)))
    have hnf := nm_fold (B b)
    rw [hb] at hnf
    simp only [Option.map_some] at hnf
    rw [B_mk] at h1 h2
    have hr := h2 _ hnf
    rw [hnf] at h1
    subst hr
    obtain ⟨gy, hw, hl⟩ := nm_some.1 hnf
    have hlen : (offs 0 (y.map fol)).length ≤ 1000 := by
      rw [offs_length, List.length_map]
      have := nm_count hb
      omega
    refine Ev.bind h1 ?_
    show Ev (fun k => rel_Above.l0 k (mkB (fold (B a))) (mkB (fold (B b))) (offs 0 (y.map fol)) ((offs 0 (y.map fol)).length : Int) (0 : Int)) (aboveS (B a) (B b))
    cases ha : nm (B a) with
    | none =>
      rw [aboveS_left ha, fold_none ha]
      exact above_none _ _ (B_mk _) _ _ 0 rfl (by omega) (by omega)
    | some x =>
      have := above_l0 (mkB (fold (B a))) (mkB (fold (B b))) (x.map fol) (y.map fol) (by rw [B_mk, fold_some ha]) (by rw [B_mk, hw]) (good_fold (nm_some.1 ha).1) gy (by rw [sz_mk]; exact hl) _ 0 rfl (by omega)
      refine Ev.eq this ?_
      rw [aboveS_some ha hb, decide_eq_decide]
      simp

theorem nm_drop {s : Bytes} {ls : List Bytes} (h : nm s = some ls) (i : Nat) : nm (wire (ls.drop i)) = some (ls.drop i) := by
  obtain ⟨hg, hw, hl⟩ := nm_some.1 h
  refine nm_wire (fun l hl => hg l (List.mem_of_mem_drop hl)) ?_
  rcases Nat.lt_or_ge ls.length i with hi | hi
  · rw [List.drop_eq_nil_of_le (by omega)]
    decide
  · rw [← drop_off ls i hi, List.length_drop, hw]
    omega

end Go.Proofs.Ytkmdjcdmgmffiaa.M
