-- Written by a program of this session's prover (over the kit's printer, with contracts of the session's own); Lean checks it.
import Derived.Test.YtefmomphapjfiaaPx0
import Derived.Test.YtefmomphapjfiaaPx1
namespace Go.Proofs.Ytefmomphapjfiaa.P
open Go.RowKit Go.Proofs.YtefmomphapjfiaaW.PrintWords Go.Proofs.YtefmomphapjfiaaW.PrintLast Go.Proofs.YtefmomphapjfiaaW.PrintMore
attribute [local go_sem] max2_int min2_int max_two min_two max_three min_three max_four min_four   -- for this text's walks alone
set_option linter.unusedVariables false
set_option linter.unusedSimpArgs false

/-! ### name_Text: function 9 -/
def textB (ls : List ByteArray) : ByteArray := ⟨(M.textL (ls.map (fun l => l.data.toList))).toArray⟩
theorem name_Text.byteCells_len (l : List UInt8) : (Lib.byteCells l).length = l.length := by simp [Lib.byteCells]
theorem name_Text.esc_cells (c : UInt8) : Lib.byteCells [92, 48 + c / 100, 48 + c / 10 % 10, 48 + c % 10] = [.int .u8 92, .int .u8 (48 + (c.toNat : Int) / 100), .int .u8 (48 + (c.toNat : Int) / 10 % 10), .int .u8 (48 + (c.toNat : Int) % 10)] := by
  obtain ⟨h1, h2, h3⟩ := M.esc_digits c
  simp only [Lib.byteCells, List.map_cons, List.map_nil, h1, h2, h3]
  simp
theorem name_Text.add_blk (b j : Nat) : ((⟨b, 0, none⟩ : Addr).add j).block = b := by
  unfold Addr.add
  split <;> rfl
theorem name_Text.rdOf_str (ls : List ByteArray) (i : Nat) (h : i < ls.length) : rdOf ByteArray.empty ls (i : Int) = ls[i] := by
  simp [rdOf, List.getD_eq_getElem?_getD, h]

def name_Text.f (k : Nat) (a0 : ByteArray) : Option (ByteArray × Int) := (name_Labels.f k a0).bind fun b => (if b.2 = true then (if (b.1.length : Int) = 0 then (some (⟨#[46]⟩, 0)) else (if b.1.length ≤ 1000 ∧ ∀ l ∈ b.1, l.size ≤ 1000 then some (textB b.1, 0) else none)) else some (⟨#[]⟩, 100))

theorem name_Text.mono : ∀ a0 k, LeO (name_Text.f k a0) (name_Text.f (k + 1) a0) := by
  intro a0 k
  unfold name_Text.f
  exact LeO.bind (name_Labels.mono _ _) (fun _ => LeO.refl _)
set_option maxHeartbeats 4000000 in
set_option maxRecDepth 100000 in
theorem name_Text.calls (k : Nat) (a0 : ByteArray) (r1 : ByteArray) (r2 : Int) (w : World) (h : name_Text.f k a0 = some (r1, r2)) :
    Calls Try.prog 9 #[.string a0] w fun e w' => e = .returned (.tuple #[.string r1, .int .i64 r2]) ∧ Below w.heap.size w w' := by
  unfold name_Text.f at h
  obtain ⟨⟨ls, is⟩, hL, h⟩ := Option.bind_eq_some_iff.1 h
  have HL := Lib.hid hL
  clear hL
  cases is with
  | false =>
    simp only [Bool.false_eq_true, if_false, Option.some.injEq, Prod.mk.injEq] at h
    obtain ⟨rfl, rfl⟩ := h
    go_enter Try.func9, Try.ntmps9
    go_wp2_with fail
    refine (name_Labels.calls k a0 ls false _ HL.out).mono ?_
    rintro e w1 ⟨v, rfl, hR, hB⟩
    clear HL
    go_wp2
    go_ret2
    exact ⟨rfl, hB⟩
  | true =>
    simp only [if_true] at h
    by_cases h0 : (ls.length : Int) = 0
    · rw [if_pos h0] at h
      simp only [Option.some.injEq, Prod.mk.injEq] at h
      obtain ⟨rfl, rfl⟩ := h
      have h0b : ((ls.length : Int) == 0) = true := beq_iff_eq.2 h0
      clear h0
      go_enter Try.func9, Try.ntmps9
      go_wp2_with fail
      refine (name_Labels.calls k a0 ls true _ HL.out).mono ?_
      rintro e w1 ⟨v, rfl, hR, hB⟩
      clear HL
      obtain ⟨A, c, rfl⟩ := Kd.R_slice hR
      go_wp2
      go_ret2
      exact ⟨rfl, hB⟩
    · rw [if_neg h0] at h
      have h0b : ((ls.length : Int) == 0) = false := beq_eq_false_iff_ne.2 h0
      clear h0
      by_cases hg : ls.length ≤ 1000 ∧ ∀ l ∈ ls, l.size ≤ 1000
      · rw [if_pos hg] at h
        simp only [Option.some.injEq, Prod.mk.injEq] at h
        obtain ⟨rfl, rfl⟩ := h
        go_enter Try.func9, Try.ntmps9
        go_wp2_with fail
        refine (name_Labels.calls k a0 ls true _ HL.out).mono ?_
        rintro e w1 ⟨v, rfl, hR, hB⟩
        clear HL
        obtain ⟨A, c, rfl⟩ := Kd.R_slice hR
        have HR := Lib.hid hR
        clear hR
        obtain ⟨hg1, hg2⟩ := hg
        have HG := Lib.hid hg2
        clear hg2
        go_wp2
        have hsz : w.heap.size ≤ w1.heap.size := hB.size
        have hL0 : 0 < ls.length := by
          rcases Nat.eq_zero_or_pos ls.length with h | h
          · rw [h] at h0b; simp at h0b
          · exact h
        go_loopw [23] (fun v23 wr => ∃ i : Nat, i ≤ ls.length ∧ v23 = .int .i64 i ∧ Lib.IsBuilder 41 5 w1.heap.size w1.heap.size (Lib.byteCells (M.textL ((ls.map (fun l => l.data.toList)).take i))) wr ∧ Below w1.heap.size w1 wr) (fun v23 _ => ls.length - (intOf v23).toNat)
        case atStart => exact ⟨0, Nat.zero_le _, rfl, Lib.fresh_isBuilder 41 5 w1, (Below.refl _ _).alloc (Nat.le_refl _) _⟩
        case round =>
          obtain ⟨i, hi, rfl, hI, hbw⟩ := hrel
          by_cases hlt : i < ls.length
          · have hR := Kd.R_below HR.out hbw
            obtain ⟨ad, rfl, hcell⟩ := Kd.at_string (Kd.R_reads' hR).2.2 (i : Int) (by omega) (by omega)
            rw [name_Text.rdOf_str ls i hlt, Int.toNat_natCast] at hcell
            clear hR
            have hl1 : ls[i].size ≤ 1000 := HG.out _ (List.getElem_mem hlt)
            generalize hl : ls[i] = l at *
            have Hl := Lib.hid hl
            clear hl
            have hTl : (M.textL ((ls.map (fun l => l.data.toList)).take i)).length ≤ 4001 * i := by
              have h1 := M.textL_len ((ls.map (fun l => l.data.toList)).take i) (fun x hx => by
                obtain ⟨y, hy, rfl⟩ := List.mem_map.1 (List.mem_of_mem_take hx)
                exact HG.out y hy)
              have h2 : ((ls.map (fun l => l.data.toList)).take i).length ≤ i := List.length_take_le _ _
              omega
            have hsn : M.textL ((ls.map (fun l => l.data.toList)).take (i + 1)) = (M.textL ((ls.map (fun l => l.data.toList)).take i) ++ M.escs l.data.toList) ++ [46] := by
              have h1 := M.textL_snoc (ls.map (fun l => l.data.toList)) i (by rw [List.length_map]; exact hlt)
              rw [h1, List.getElem_map, Hl.out]
            generalize hT : M.textL ((ls.map (fun l => l.data.toList)).take i) = T at *
            have HT := Lib.hid hT
            clear hT
            have HS := Lib.hid hsn
            clear hsn
            have hi4 : 4001 * i ≤ 4001000 := by omega
            go_wp2
            obtain ⟨wo, rfl⟩ : ∃ wo : World, wo = wr := ⟨_, rfl⟩
            go_loopw [29] (fun v29 wr => ∃ j : Nat, j ≤ l.size ∧ v29 = .int .i64 j ∧ Lib.IsBuilder 41 5 w1.heap.size w1.heap.size (Lib.byteCells (T ++ M.escs (l.data.toList.take j))) wr ∧ Below w1.heap.size w1 wr) (fun v29 _ => l.size - (intOf v29).toNat)
            case atStart => exact ⟨0, by omega, rfl, by simpa [M.escs] using hI, hbw⟩
            case round =>
              clear hI hbw hcell
              obtain ⟨j, hj, rfl, hI, hbw⟩ := hrel
              have hel : (M.escs (l.data.toList.take j)).length ≤ 4 * j := by
                have h1 := M.escs_len (l.data.toList.take j)
                have h2 : (l.data.toList.take j).length ≤ j := List.length_take_le _ _
                omega
              have hbl : (Lib.byteCells (T ++ M.escs (l.data.toList.take j))).length ≤ 4010000 := by
                rw [name_Text.byteCells_len, List.length_append]
                omega
              have hws : w1.heap.size ≤ wr.heap.size := hbw.size
              by_cases hjt : j < l.size
              · have hes : M.escs (l.data.toList.take (j + 1)) = M.escs (l.data.toList.take j) ++ M.esc (l[j]'hjt) := M.escs_snoc l.data.toList j (by simpa using hjt)
                have HE := Lib.hid hes
                clear hes
                by_cases hp : M.plain (l[j]'hjt) = true
                · have hee : M.esc (l[j]'hjt) = [l[j]'hjt] := by unfold M.esc; rw [if_pos hp]
                  have HEE := Lib.hid hee
                  clear hee
                  unfold M.plain at hp
                  have hp1 := of_decide_eq_true hp
                  clear hp
                  have q1 : decide (((l[j]'hjt).toNat : Int) < 33) = false := decide_eq_false (by omega)
                  have q2 : decide (126 < ((l[j]'hjt).toNat : Int)) = false := decide_eq_false (by omega)
                  have q3 : (((l[j]'hjt).toNat : Int) == 46) = false := beq_eq_false_iff_ne.2 (by omega)
                  have q4 : (((l[j]'hjt).toNat : Int) == 92) = false := beq_eq_false_iff_ne.2 (by omega)
                  clear hp1
                  go_wp2_with fail
                  refine (Bld.WriteByte w1.heap.size w1.heap.size _ _ _ hI (by omega) hws).mono ?_
                  rintro e w3 ⟨rfl, h3, b3⟩
                  clear q1 q2 q3 q4
                  go_wp2
                  go_roundw
                  case rel =>
                    refine ⟨j + 1, by omega, by go_num, ?_, hbw.trans b3⟩
                    rw [HE.out, HEE.out, ← List.append_assoc, Lib.byteCells_append]
                    exact .inr h3
                  case measure => simp [intOf]; omega
                · have hee : M.esc (l[j]'hjt) = [92, 48 + (l[j]'hjt) / 100, 48 + (l[j]'hjt) / 10 % 10, 48 + (l[j]'hjt) % 10] := by unfold M.esc; rw [if_neg hp]
                  have HEE := Lib.hid hee
                  clear hee
                  have hd := M.esc_digits (l[j]'hjt)
                  have HD := Lib.hid hd
                  clear hd
                  have hbb := (l[j]'hjt).toNat_lt
                  unfold M.plain at hp
                  have hp1 : ¬ (33 ≤ (l[j]'hjt).toNat ∧ (l[j]'hjt).toNat ≤ 126 ∧ (l[j]'hjt).toNat ≠ 46 ∧ (l[j]'hjt).toNat ≠ 92) := fun z => hp (decide_eq_true z)
                  clear hp
                  have key : (decide (((l[j]'hjt).toNat : Int) < 33) = true) ∨ (decide (((l[j]'hjt).toNat : Int) < 33) = false ∧ decide (126 < ((l[j]'hjt).toNat : Int)) = true) ∨ (decide (((l[j]'hjt).toNat : Int) < 33) = false ∧ decide (126 < ((l[j]'hjt).toNat : Int)) = false ∧ (((l[j]'hjt).toNat : Int) == 46) = true) ∨ (decide (((l[j]'hjt).toNat : Int) < 33) = false ∧ decide (126 < ((l[j]'hjt).toNat : Int)) = false ∧ (((l[j]'hjt).toNat : Int) == 46) = false ∧ (((l[j]'hjt).toNat : Int) == 92) = true) := by
                    simp only [decide_eq_true_eq, decide_eq_false_iff_not, beq_iff_eq, beq_eq_false_iff_ne]
                    omega
                  clear hp1
                  rcases key with q1 | ⟨q1, q2⟩ | ⟨q1, q2, q3⟩ | ⟨q1, q2, q3, q4⟩
                  all_goals
                    go_wp2_with fail
                    refine (Bld.Write w1.heap.size w1.heap.size _ ⟨wr.heap.size, 0, none⟩ 4 4 [.int .u8 92, .int .u8 (48 + ((l[j]'hjt).toNat : Int) / 100), .int .u8 (48 + ((l[j]'hjt).toNat : Int) / 10 % 10), .int .u8 (48 + ((l[j]'hjt).toNat : Int) % 10)] _ (Bld.keep hI ((Below.refl _ _).alloc (Nat.le_refl _) _)) rfl (World.news_of_block (cs := #[.int .u8 92, .int .u8 (48 + ((l[j]'hjt).toNat : Int) / 100), .int .u8 (48 + ((l[j]'hjt).toNat : Int) / 10 % 10), .int .u8 (48 + ((l[j]'hjt).toNat : Int) % 10)]) (t := 5) (fr := (0, 0)) (heap_alloc_new wr _)) ?_ (fun j => (name_Text.add_blk _ j).trans (name_Text.add_blk _ 0).symm) ?_ (by omega) ?_).mono ?_
                    · rw [name_Text.add_blk]
                      have := hI
                      rcases this with z | z <;> exact fun e => absurd z.lt (by omega)
                    · intro u hu
                      simp only [List.mem_cons, List.not_mem_nil, or_false] at hu
                      rcases hu with rfl | rfl | rfl | rfl <;> rfl
                    · simp; omega
                    rintro e w3 ⟨rfl, h3, b3⟩
                    go_wp2
                    go_roundw
                    case rel =>
                      refine ⟨j + 1, by omega, by go_num, ?_, (hbw.alloc hws _).trans b3⟩
                      rw [HE.out, HEE.out, ← List.append_assoc, Lib.byteCells_append, name_Text.esc_cells]
                      exact .inr h3
                    case measure => simp [intOf]; omega
              · obtain rfl : j = l.size := by omega
                have hT2 : M.escs (l.data.toList.take l.size) = M.escs l.data.toList := by rw [List.take_of_length_le (by simp)]
                rw [hT2] at hI hbl
                clear hT2
                go_wp2_with fail
                refine (Bld.WriteByte w1.heap.size w1.heap.size _ _ _ hI (by omega) hws).mono ?_
                rintro e w3 ⟨rfl, h3, b3⟩
                go_wp2
                go_roundw
                case rel =>
                  refine ⟨i + 1, by omega, by go_num, ?_, hbw.trans b3⟩
                  rw [HS.out, Lib.byteCells_append]
                  exact .inr h3
                case measure => simp [intOf]; omega
          · obtain rfl : i = ls.length := by omega
            have hTT : M.textL ((ls.map (fun l => l.data.toList)).take ls.length) = M.textL (ls.map (fun l => l.data.toList)) := by rw [List.take_of_length_le (by simp)]
            rw [hTT] at hI
            clear hTT
            have hws : w1.heap.size ≤ wr.heap.size := hbw.size
            go_wp2_with fail
            refine (Try.Builder_String_any w1.heap.size w1.heap.size _ _ hI hws).mono ?_
            rintro e w3 ⟨rfl, b3⟩
            go_wp2
            go_ret2
            exact ⟨rfl, (hB.trans (hbw.mono hsz)).trans (b3.mono hsz)⟩
      · rw [if_neg hg] at h
        cases h


/-! ### wimpleref1_places: function 23 -/
mutual
def wimpleref1_places.l0 : Nat → ByteArray → List Int → Int → Option (List Int × Bool)
  | 0, _, _, _ => none
  | k + 1, x0, x4, x5 => if x5 < (x0.size : Int) then (wimpleref1_places.j1 k x0 x4 x5 (decide ((x0.size : Int) ≤ 255))) else (wimpleref1_places.j1 k x0 x4 x5 false)
def wimpleref1_places.j1 : Nat → ByteArray → List Int → Int → Bool → Option (List Int × Bool)
  | 0, _, _, _, _ => none
  | k + 1, x0, x4, x5, x15 => if x15 = true then (if 0 ≤ x5 then (if x5 < (x0.size : Int) then (if x4.length < 17592186044416 then ((some (x4 ++ [x5] : List Int)).bind fun y113 => (if (wrap64 (bt x0 x5)) = 0 then (some (y113, ((wrap64 (x5 + 1)) == (x0.size : Int)))) else (if (wrap64 (bt x0 x5)) > 63 then (some (([] : List Int), false)) else (wimpleref1_places.l0 k x0 y113 (wrap64 ((wrap64 (x5 + 1)) + (wrap64 (bt x0 x5)))))))) else (none)) else (none)) else (none)) else (some (([] : List Int), false))
end
def wimpleref1_places.f (k : Nat) (a0 : ByteArray) : Option (List Int × Bool) := wimpleref1_places.l0 k a0 ([] : List Int) 0
theorem wimpleref1_places.mono_l : ∀ k, (∀ y0 y1 y2, LeO (wimpleref1_places.l0 k y0 y1 y2) (wimpleref1_places.l0 (k + 1) y0 y1 y2)) ∧ (∀ y0 y1 y2 y3, LeO (wimpleref1_places.j1 k y0 y1 y2 y3) (wimpleref1_places.j1 (k + 1) y0 y1 y2 y3))
  | 0 => ⟨fun _ _ _ r h => by simp [wimpleref1_places.l0] at h, fun _ _ _ _ r h => by simp [wimpleref1_places.j1] at h⟩
  | k + 1 => by
    obtain ⟨ih0, ih1⟩ := wimpleref1_places.mono_l k
    refine ⟨?_, ?_⟩
    · intro y0 y1 y2
      unfold wimpleref1_places.l0
      repeat' first
      | (with_reducible exact ih0 _ _ _)
      | (with_reducible exact ih1 _ _ _ _)
      | (with_reducible exact LeO.refl _)
      | (with_reducible exact LeO.none _)
      | (with_reducible refine LeO.ite ?_ ?_)
      | (with_reducible refine LeO.bind ?_ (fun _ => ?_))
      | exact ih0 _ _ _
      | exact ih1 _ _ _ _
      | exact LeO.none _
      | refine LeO.ite ?_ ?_
      | refine LeO.bind ?_ (fun _ => ?_)
    · intro y0 y1 y2 y3
      unfold wimpleref1_places.j1
      repeat' first
      | (with_reducible exact ih0 _ _ _)
      | (with_reducible exact ih1 _ _ _ _)
      | (with_reducible exact LeO.refl _)
      | (with_reducible exact LeO.none _)
      | (with_reducible refine LeO.ite ?_ ?_)
      | (with_reducible refine LeO.bind ?_ (fun _ => ?_))
      | exact ih0 _ _ _
      | exact ih1 _ _ _ _
      | exact LeO.none _
      | refine LeO.ite ?_ ?_
      | refine LeO.bind ?_ (fun _ => ?_)
theorem wimpleref1_places.mono : ∀ a0 k, LeO (wimpleref1_places.f k a0) (wimpleref1_places.f (k + 1) a0) := by
  intro a0 k
  obtain ⟨ih0, ih1⟩ := wimpleref1_places.mono_l k
  unfold wimpleref1_places.f
  repeat' first
      | (with_reducible exact ih0 _ _ _)
      | (with_reducible exact ih1 _ _ _ _)
      | (with_reducible exact LeO.refl _)
      | (with_reducible exact LeO.none _)
      | (with_reducible refine LeO.ite ?_ ?_)
      | (with_reducible refine LeO.bind ?_ (fun _ => ?_))
      | exact ih0 _ _ _
      | exact ih1 _ _ _ _
      | exact LeO.none _
      | refine LeO.ite ?_ ?_
      | refine LeO.bind ?_ (fun _ => ?_)
set_option maxHeartbeats 8000000 in
set_option maxRecDepth 100000 in
theorem wimpleref1_places.calls (k : Nat) (a0 : ByteArray) (r1 : List Int) (r2 : Bool) (w : World) (h : wimpleref1_places.f k a0 = some (r1, r2)) :
    Calls Try.prog 23 #[.string a0] w fun e w' => ∃ v0_ : Value, e = .returned (.tuple #[v0_, .bool r2]) ∧ Kd.R (Kd.int .i64) 3 w' w.heap.size (fun _ => True) v0_ r1 ∧ Below w.heap.size w w' := by
  have HB := Aside0.mk (Below.refl w.heap.size w)
  have H : (wimpleref1_places.l0 k a0 ([] : List Int) 0) = some (r1, r2) := h
  clear h
  have H' := Aside0.mk H
  clear H
  go_enter Try.func23, Try.ntmps23
  go_wp2
  go_loopg [4, 5] k (fun kq v4 v5 w' => ∃ (x4_1 : List Int) (x5_1 : Int), v5 = .int .i64 x5_1 ∧ Aside0 (wimpleref1_places.l0 kq a0 x4_1 x5_1 = some (r1, r2)) ∧ Aside0 (kq ≤ k) ∧ Aside0 (Kd.R (Kd.int .i64) 3 w' w.heap.size (fun _ => True) v4 x4_1) ∧ Aside0 (Below w.heap.size w w'))
  case atStart => exact ⟨(([] : List Int)), (0), (by first | rfl | (simp; done) | (simp [*]; done) | (simp [ByteArray.size_append]; exact Iff.rfl)), H', ⟨Nat.le_refl _⟩, ⟨by first | exact Kd.R_nil _ _ _ _ _ | exact Kd.N_nil _ _ _ _ _ | exact Kd.V_nil _ _ _ _ _ | exact Kd.Q_nil _ _ _ _ _ | exact Kd.S_nil _ _ _ _ _⟩, ⟨by repeat (first | (with_reducible first | exact HB.out | apply below_alloc | apply pw_below_drewN | apply below_drew1) | exact HB.out)⟩⟩
  case round =>
    clear H'
    obtain ⟨x4_1, x5_1, rfl, HA, HK1, HO_4, HB⟩ := hrel
    cases gk with
    | zero => exact absurd HA.out (by simp [wimpleref1_places.l0])
    | succ k1 =>
      have H := HA.out
      clear HA
      simp only [wimpleref1_places.l0] at H
      have HC2 := Aside0.mk H
      clear H
      go_upto_region 3 with (fail)
      go_cut [15] (fun v15 wc => ∃ (kq : Nat) (x15_1 : Bool), v15 = .bool x15_1 ∧ Aside0 (wimpleref1_places.j1 kq a0 x4_1 x5_1 x15_1 = some (r1, r2)) ∧ Aside0 (kq ≤ k1) ∧ Aside0 (Kd.R (Kd.int .i64) 3 wc w.heap.size (fun _ => True) u4 x4_1) ∧ Aside0 (Below w.heap.size w wc))
      case first =>
        have H := HC2.out
        clear HC2
        by_cases c3 : x5_1 < (a0.size : Int)
        · rw [if_pos c3] at H
          have c3b0 : decide (x5_1 < (a0.size : Int)) = true := decide_eq_true c3
          clear c3
          (first | rw [c3b0] | (simp only [i64_w, i32_w]; rw [c3b0]) | skip)
          have H' := Aside0.mk H
          clear H
          go_wp2
          go_meet
          case rel => exact ⟨_, (decide ((a0.size : Int) ≤ 255)), (by first | rfl | (simp; done) | (simp [*]; done) | (simp [ByteArray.size_append]; exact Iff.rfl)), H', ⟨by have := HK1.out; first | omega | exact Nat.le_refl _⟩, ⟨by (with_reducible repeat (first | apply Kd.R_alloc | apply Kd.R_drewN | apply Kd.R_drew)); exact HO_4.out⟩, ⟨by repeat (first | (with_reducible first | exact HB.out | apply below_alloc | apply pw_below_drewN | apply below_drew1) | exact HB.out)⟩⟩
        · rw [if_neg c3] at H
          have c3b0 : decide (x5_1 < (a0.size : Int)) = false := decide_eq_false c3
          clear c3
          (first | rw [c3b0] | (simp only [i64_w, i32_w]; rw [c3b0]) | skip)
          have H' := Aside0.mk H
          clear H
          go_wp2
          go_meet
          case rel => exact ⟨_, (false), (by first | rfl | (simp; done) | (simp [*]; done) | (simp [ByteArray.size_append]; exact Iff.rfl)), H', ⟨by have := HK1.out; first | omega | exact Nat.le_refl _⟩, ⟨by (with_reducible repeat (first | apply Kd.R_alloc | apply Kd.R_drewN | apply Kd.R_drew)); exact HO_4.out⟩, ⟨by repeat (first | (with_reducible first | exact HB.out | apply below_alloc | apply pw_below_drewN | apply below_drew1) | exact HB.out)⟩⟩
      case rest =>
        clear HC2
        try clear c2
        try clear p2
        try clear c3
        try clear c3b0
        obtain ⟨kq, x15_1, rfl, HA, HJ1, HO_4, HB⟩ := hcut
        cases kq with
        | zero => exact absurd HA.out (by simp [wimpleref1_places.j1])
        | succ kj1 =>
          have H := HA.out
          clear HA
          simp only [wimpleref1_places.j1] at H
          by_cases c4 : x15_1 = true
          · subst c4
            have H1 : (if 0 ≤ x5_1 then (if x5_1 < (a0.size : Int) then (if x4_1.length < 17592186044416 then ((some (x4_1 ++ [x5_1] : List Int)).bind fun y113 => (if (wrap64 (bt a0 x5_1)) = 0 then (some (y113, ((wrap64 (x5_1 + 1)) == (a0.size : Int)))) else (if (wrap64 (bt a0 x5_1)) > 63 then (some (([] : List Int), false)) else (wimpleref1_places.l0 kj1 a0 y113 (wrap64 ((wrap64 (x5_1 + 1)) + (wrap64 (bt a0 x5_1)))))))) else (none)) else (none)) else (none)) = some (r1, r2) := by rw [if_pos rfl] at H; exact H
            clear H
            have H := H1
            clear H1
            by_cases c5 : 0 ≤ x5_1
            · rw [if_pos c5] at H
              have c5b0 : decide (0 ≤ x5_1) = true := decide_eq_true c5
              clear c5
              by_cases c6 : x5_1 < (a0.size : Int)
              · rw [if_pos c6] at H
                have c6b0 : decide (x5_1 < (a0.size : Int)) = true := decide_eq_true c6
                clear c6
                by_cases c8 : x4_1.length < 17592186044416
                · rw [if_pos c8] at H
                  have LMc8 := Aside0.mk c8
                  clear c8
                  obtain ⟨y113, hy113⟩ : ∃ y_ : List Int, y_ = (x4_1 ++ [x5_1]) := ⟨_, rfl⟩
                  replace H : (if (wrap64 (bt a0 x5_1)) = 0 then (some (y113, ((wrap64 (x5_1 + 1)) == (a0.size : Int)))) else (if (wrap64 (bt a0 x5_1)) > 63 then (some (([] : List Int), false)) else (wimpleref1_places.l0 kj1 a0 y113 (wrap64 ((wrap64 (x5_1 + 1)) + (wrap64 (bt a0 x5_1))))))) = some (r1, r2) := by first | (rw [hy113]; with_reducible exact H) | (have H2_ := (Option.bind_some _ _).symm.trans H; rw [hy113]; with_reducible exact H2_) | (have H2_ := (Option.bind_some _ _).symm.trans H; with_reducible exact H2_) | with_reducible exact H | (rw [hy113]; exact H) | exact H
                  have Ny113 := Aside0.mk hy113
                  clear hy113
                  by_cases c9 : (wrap64 (bt a0 x5_1)) = 0
                  · rw [if_pos c9] at H
                    have c9b0 : ((wrap64 (bt a0 x5_1)) == 0) = true := beq_iff_eq.mpr c9
                    have c9b1 : ((wrap64 (bt a0 x5_1)) != 0) = false := bne_eq_false_iff_eq.mpr c9
                    clear c9
                    simp only [Option.some.injEq, Prod.mk.injEq] at H
                    obtain ⟨rfl, rfl⟩ := H
                    have p7 : 0 ≤ (x5_1 : Int) := of_decide_eq_true (by first | (with_reducible assumption) | assumption)
                    have q7 : x5_1 < (a0.size : Int) := of_decide_eq_true (by first | (with_reducible assumption) | assumption)
                    have hx7 := bt_at a0 x5_1
                    replace p7 := eq_true p7
                    replace q7 := eq_true q7
                    go_wp2_with (first | ((with_reducible refine gate_builtin (b := .append) (xs := #[.tmp 20, .tmp 22]) rfl ?_); (try (refine gate_guard (by rfl) ?_; dsimp only)); at_builtin; refine Kd.R_append (Kd.int .i64) (w0 := w) w.heap.size rfl (.tmp 20) (.tmp 22) 48 3 (.int .i64 0) 8 rfl Try.underlying48 info3 rfl (by decide) (by omega) u4 x4_1 x5_1 [.int .i64 x5_1] (fun _ => True) (fun _ => False) rfl rfl ?aP (fun _ hk => hk.elim) ?aF ?aO ?aB ?aS ?aL ?_; (case aP => exact rfl); (case aB => exact (by repeat (first | (with_reducible first | exact HB.out | apply below_alloc | apply pw_below_drewN | apply below_drew1) | exact HB.out))); (case aF => exact (fun _ _ => trivial)); (case aO => exact (by (with_reducible repeat (first | apply Kd.R_alloc | apply Kd.R_drewN | apply Kd.R_drew)); exact HO_4.out)); (case aS => exact (below_size (by repeat (first | (with_reducible first | exact HB.out | apply below_alloc | apply pw_below_drewN | apply below_drew1) | exact HB.out)))); (case aL => have := LMc8.out; omega); intro v114 w10 ho hb hg hat; rw [← Ny113.out] at ho; have n0_ := Aside0.mk (hb); have n1_ := Aside0.mk (ho); clear HB; clear HO_4; have HB := n0_; have HO115 := n1_; clear n0_ n1_; clear ho hb hg hat))
                    go_ret2
                    exact ⟨_, by first | rfl | (simp [errW_none, errW_some] <;> rfl) | (simp [*, errW_none, errW_some] <;> rfl), by (with_reducible repeat (first | apply Kd.R_alloc | apply Kd.R_drewN | apply Kd.R_drew)); exact HO115.out, by repeat (first | (with_reducible first | exact HB.out | apply below_alloc | apply pw_below_drewN | apply below_drew1) | exact HB.out)⟩
                  · rw [if_neg c9] at H
                    have c9b0 : ((wrap64 (bt a0 x5_1)) == 0) = false := beq_eq_false_iff_ne.mpr c9
                    have c9b1 : ((wrap64 (bt a0 x5_1)) != 0) = true := bne_iff_ne.mpr c9
                    by_cases c11 : (wrap64 (bt a0 x5_1)) > 63
                    · rw [if_pos c11] at H
                      have c11b0 : decide (63 < (wrap64 (bt a0 x5_1))) = true := decide_eq_true c11
                      clear c11
                      simp only [Option.some.injEq, Prod.mk.injEq] at H
                      obtain ⟨rfl, rfl⟩ := H
                      have p7 : 0 ≤ (x5_1 : Int) := of_decide_eq_true (by first | (with_reducible assumption) | assumption)
                      have q7 : x5_1 < (a0.size : Int) := of_decide_eq_true (by first | (with_reducible assumption) | assumption)
                      have hx7 := bt_at a0 x5_1
                      replace p7 := eq_true p7
                      replace q7 := eq_true q7
                      go_wp2_with (first | ((with_reducible refine gate_builtin (b := .append) (xs := #[.tmp 20, .tmp 22]) rfl ?_); (try (refine gate_guard (by rfl) ?_; dsimp only)); at_builtin; refine Kd.R_append (Kd.int .i64) (w0 := w) w.heap.size rfl (.tmp 20) (.tmp 22) 48 3 (.int .i64 0) 8 rfl Try.underlying48 info3 rfl (by decide) (by omega) u4 x4_1 x5_1 [.int .i64 x5_1] (fun _ => True) (fun _ => False) rfl rfl ?aP (fun _ hk => hk.elim) ?aF ?aO ?aB ?aS ?aL ?_; (case aP => exact rfl); (case aB => exact (by repeat (first | (with_reducible first | exact HB.out | apply below_alloc | apply pw_below_drewN | apply below_drew1) | exact HB.out))); (case aF => exact (fun _ _ => trivial)); (case aO => exact (by (with_reducible repeat (first | apply Kd.R_alloc | apply Kd.R_drewN | apply Kd.R_drew)); exact HO_4.out)); (case aS => exact (below_size (by repeat (first | (with_reducible first | exact HB.out | apply below_alloc | apply pw_below_drewN | apply below_drew1) | exact HB.out)))); (case aL => have := LMc8.out; omega); intro v114 w12 ho hb hg hat; rw [← Ny113.out] at ho; have n0_ := Aside0.mk (hb); have n1_ := Aside0.mk (ho); clear HB; clear HO_4; have HB := n0_; have HO115 := n1_; clear n0_ n1_; clear ho hb hg hat))
                      go_ret2
                      exact ⟨_, by first | rfl | (simp [errW_none, errW_some] <;> rfl) | (simp [*, errW_none, errW_some] <;> rfl), by first | exact Kd.R_nil _ _ _ _ _ | exact Kd.N_nil _ _ _ _ _ | exact Kd.V_nil _ _ _ _ _ | exact Kd.Q_nil _ _ _ _ _ | exact Kd.S_nil _ _ _ _ _, by repeat (first | (with_reducible first | exact HB.out | apply below_alloc | apply pw_below_drewN | apply below_drew1) | exact HB.out)⟩
                    · rw [if_neg c11] at H
                      have c11b0 : decide (63 < (wrap64 (bt a0 x5_1))) = false := decide_eq_false c11
                      clear c11
                      have H' := Aside0.mk H
                      clear H
                      have p7 : 0 ≤ (x5_1 : Int) := of_decide_eq_true (by first | (with_reducible assumption) | assumption)
                      have q7 : x5_1 < (a0.size : Int) := of_decide_eq_true (by first | (with_reducible assumption) | assumption)
                      have hx7 := bt_at a0 x5_1
                      replace p7 := eq_true p7
                      replace q7 := eq_true q7
                      go_wp2_with (first | ((with_reducible refine gate_builtin (b := .append) (xs := #[.tmp 20, .tmp 22]) rfl ?_); (try (refine gate_guard (by rfl) ?_; dsimp only)); at_builtin; refine Kd.R_append (Kd.int .i64) (w0 := w) w.heap.size rfl (.tmp 20) (.tmp 22) 48 3 (.int .i64 0) 8 rfl Try.underlying48 info3 rfl (by decide) (by omega) u4 x4_1 x5_1 [.int .i64 x5_1] (fun _ => True) (fun _ => False) rfl rfl ?aP (fun _ hk => hk.elim) ?aF ?aO ?aB ?aS ?aL ?_; (case aP => exact rfl); (case aB => exact (by repeat (first | (with_reducible first | exact HB.out | apply below_alloc | apply pw_below_drewN | apply below_drew1) | exact HB.out))); (case aF => exact (fun _ _ => trivial)); (case aO => exact (by (with_reducible repeat (first | apply Kd.R_alloc | apply Kd.R_drewN | apply Kd.R_drew)); exact HO_4.out)); (case aS => exact (below_size (by repeat (first | (with_reducible first | exact HB.out | apply below_alloc | apply pw_below_drewN | apply below_drew1) | exact HB.out)))); (case aL => have := LMc8.out; omega); intro v114 w13 ho hb hg hat; rw [← Ny113.out] at ho; have n0_ := Aside0.mk (hb); have n1_ := Aside0.mk (ho); clear HB; clear HO_4; have HB := n0_; have HO115 := n1_; clear n0_ n1_; clear ho hb hg hat))
                      go_roundg kj1
                      case measure => have := HK1.out; have := HJ1.out; omega
                      case rel => exact ⟨(y113), (wrap64 ((wrap64 (x5_1 + 1)) + (wrap64 (bt a0 x5_1)))), (by first | rfl | (simp; done) | (simp [*]; done) | (simp [ByteArray.size_append]; exact Iff.rfl)), H', ⟨by have := HK1.out; have := HJ1.out; omega⟩, ⟨by (with_reducible repeat (first | apply Kd.R_alloc | apply Kd.R_drewN | apply Kd.R_drew)); exact HO115.out⟩, ⟨by repeat (first | (with_reducible first | exact HB.out | apply below_alloc | apply pw_below_drewN | apply below_drew1) | exact HB.out)⟩⟩
                · rw [if_neg c8] at H
                  exact absurd H (by simp)
              · rw [if_neg c6] at H
                exact absurd H (by simp)
            · rw [if_neg c5] at H
              exact absurd H (by simp)
          · replace c4 := Bool.eq_false_iff.mpr c4
            subst c4
            have H1 : (some (([] : List Int), false)) = some (r1, r2) := by rw [if_neg (show ¬ (false = true) by decide)] at H; exact H
            clear H
            have H := H1
            clear H1
            simp only [Option.some.injEq, Prod.mk.injEq] at H
            obtain ⟨rfl, rfl⟩ := H
            go_wp2
            go_ret2
            exact ⟨_, by first | rfl | (simp [errW_none, errW_some] <;> rfl) | (simp [*, errW_none, errW_some] <;> rfl), by first | exact Kd.R_nil _ _ _ _ _ | exact Kd.N_nil _ _ _ _ _ | exact Kd.V_nil _ _ _ _ _ | exact Kd.Q_nil _ _ _ _ _ | exact Kd.S_nil _ _ _ _ _, by repeat (first | (with_reducible first | exact HB.out | apply below_alloc | apply pw_below_drewN | apply below_drew1) | exact HB.out)⟩

/-! ### wimpleref1_plain: function 24 -/
def wimpleref1_plain.f (a0 : Int) : Option (Bool) := if a0 > 32 then (if a0 < 127 then (if a0 = 46 then (some false) else (some (a0 != 92))) else (some false)) else (some false)
set_option maxHeartbeats 8000000 in
set_option maxRecDepth 100000 in
theorem wimpleref1_plain.calls (a0 : Int) (r : Bool) (w : World) (h : wimpleref1_plain.f a0 = some r) :
    Calls Try.prog 24 #[.int .u8 a0] w fun e w' => e = .returned (.bool r) ∧ Drawn0 w w' := by
  have H : (if a0 > 32 then (if a0 < 127 then (if a0 = 46 then (some false) else (some (a0 != 92))) else (some false)) else (some false)) = some r := h
  clear h
  by_cases c2 : a0 > 32
  · rw [if_pos c2] at H
    have c2b0 : decide (32 < a0) = true := decide_eq_true c2
    clear c2
    by_cases c3 : a0 < 127
    · rw [if_pos c3] at H
      have c3b0 : decide (a0 < 127) = true := decide_eq_true c3
      clear c3
      by_cases c4 : a0 = 46
      · rw [if_pos c4] at H
        have c4b0 : (a0 == 46) = true := beq_iff_eq.mpr c4
        have c4b1 : (a0 != 46) = false := bne_eq_false_iff_eq.mpr c4
        clear c4
        obtain rfl := Option.some.inj H
        go_enter Try.func24, Try.ntmps24
        go_wp2
        go_ret
        exact ⟨by first | rfl | (simp; done) | (simp [*]; done), by repeat (first | exact Drawn0.refl _ | apply Drawn0.step)⟩
      · rw [if_neg c4] at H
        have c4b0 : (a0 == 46) = false := beq_eq_false_iff_ne.mpr c4
        have c4b1 : (a0 != 46) = true := bne_iff_ne.mpr c4
        obtain rfl := Option.some.inj H
        go_enter Try.func24, Try.ntmps24
        go_wp2
        go_ret
        exact ⟨by first | rfl | (simp; done) | (simp [*]; done), by repeat (first | exact Drawn0.refl _ | apply Drawn0.step)⟩
    · rw [if_neg c3] at H
      have c3b0 : decide (a0 < 127) = false := decide_eq_false c3
      clear c3
      obtain rfl := Option.some.inj H
      go_enter Try.func24, Try.ntmps24
      go_wp2
      go_ret
      exact ⟨by first | rfl | (simp; done) | (simp [*]; done), by repeat (first | exact Drawn0.refl _ | apply Drawn0.step)⟩
  · rw [if_neg c2] at H
    have c2b0 : decide (32 < a0) = false := decide_eq_false c2
    clear c2
    obtain rfl := Option.some.inj H
    go_enter Try.func24, Try.ntmps24
    go_wp2
    go_ret
    exact ⟨by first | rfl | (simp; done) | (simp [*]; done), by repeat (first | exact Drawn0.refl _ | apply Drawn0.step)⟩

end Go.Proofs.Ytefmomphapjfiaa.P
