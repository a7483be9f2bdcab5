-- Written by a program of this session's prover (over the kit's printer, with contracts of the session's own); Lean checks it.
import Derived.Test.YtojjkgnkdcekpaaPx0
import Derived.Test.YtojjkgnkdcekpaaPx3
import Derived.Test.YtojjkgnkdcekpaaPx4
namespace Go.Proofs.Ytojjkgnkdcekpaa.P
open Go.RowKit Go.Proofs.YtojjkgnkdcekpaaW.PrintWords Go.Proofs.YtojjkgnkdcekpaaW.PrintLast Go.Proofs.YtojjkgnkdcekpaaW.PrintMore
attribute [local go_sem] max2_int min2_int max_two min_two max_three min_three max_four min_four   -- for this text's walks alone
set_option linter.unusedVariables false
set_option linter.unusedSimpArgs false

/-! ### rel_Fold: function 27 -/
/-- Folded labels, as a name's bytes. -/
def foldB (ls : List ByteArray) : ByteArray := ⟨(M.wire (ls.map (fun l => M.fol l.data.toList))).toArray⟩
def rel_Fold.f (k : Nat) (a0 : ByteArray) : Option (ByteArray) := (name_Labels.f k a0).bind fun b => (if b.2 = true then (if b.1.length ≤ 1000 ∧ ∀ l ∈ b.1, l.size ≤ 255 then some (foldB b.1) else none) else some (⟨#[]⟩))
theorem rel_Fold.mono : ∀ a0 k, LeO (rel_Fold.f k a0) (rel_Fold.f (k + 1) a0) := by
  intro a0 k
  unfold rel_Fold.f
  exact LeO.bind (name_Labels.mono _ _) (fun _ => LeO.refl _)
theorem rel_Fold.rdOf_str (ls : List ByteArray) (i : Nat) (h : i < ls.length) : rdOf ByteArray.empty ls (i : Int) = ls[i] := by
  simp [rdOf, List.getD_eq_getElem?_getD, h]
theorem rel_Fold.folded_f (l : ByteArray) (h : l.size ≤ 255) : rel_folded.f l = some ⟨(M.fol l.data.toList).toArray⟩ := by
  unfold rel_folded.f
  rw [if_pos (by omega)]
/-- What is written behind i labels. -/
def rel_Fold.upto (ls : List ByteArray) (i : Nat) : List UInt8 := ((ls.take i).map (fun l => UInt8.ofNat l.size :: M.fol l.data.toList)).flatten
theorem rel_Fold.upto_succ (ls : List ByteArray) (i : Nat) (h : i < ls.length) : rel_Fold.upto ls (i + 1) = (rel_Fold.upto ls i ++ [UInt8.ofNat ls[i].size]) ++ M.fol ls[i].data.toList := by
  unfold rel_Fold.upto
  rw [List.take_succ_eq_append_getElem h, List.map_append, List.flatten_append]
  simp
theorem rel_Fold.upto_len (ls : List ByteArray) (hg : ∀ l ∈ ls, l.size ≤ 255) (i : Nat) (hi : i ≤ ls.length) : (rel_Fold.upto ls i).length ≤ 256 * i := by
  induction i with
  | zero => simp [rel_Fold.upto]
  | succ i ih =>
    rw [rel_Fold.upto_succ ls i (by omega)]
    have h1 := ih (by omega)
    have h2 := hg _ (List.getElem_mem (show i < ls.length by omega))
    have h3 : ls[i].data.toList.length = ls[i].size := by rw [Array.length_toList]; rfl
    simp only [List.length_append, List.length_cons, List.length_nil, M.fol_length]
    omega
theorem rel_Fold.upto_all (ls : List ByteArray) : rel_Fold.upto ls ls.length ++ [0] = M.wire (ls.map (fun l => M.fol l.data.toList)) := by
  unfold rel_Fold.upto
  rw [List.take_length]
  induction ls with
  | nil => rfl
  | cons l r ih =>
    have h3 : l.data.toList.length = l.size := by rw [Array.length_toList]; rfl
    simp only [List.map_cons, List.flatten_cons, M.wire, M.fol_length, h3, List.cons_append, List.append_assoc]
    rw [ih]

set_option maxHeartbeats 4000000 in
set_option maxRecDepth 100000 in
theorem rel_Fold.calls (k : Nat) (a0 : ByteArray) (r : ByteArray) (w : World) (h : rel_Fold.f k a0 = some r) :
    Calls Try.prog 27 #[.string a0] w fun e w' => e = .returned (.string r) ∧ Below w.heap.size w w' := by
  unfold rel_Fold.f at h
  obtain ⟨⟨ls, is⟩, hL, h⟩ := Option.bind_eq_some_iff.1 h
  have HL := Lib.hid hL
  clear hL
  cases is with
  | false =>
    simp only [Bool.false_eq_true, if_false, Option.some.injEq] at h
    obtain rfl := h
    go_enter Try.func27, Try.ntmps27
    go_wp2_with fail
    refine (name_Labels.calls k a0 ls false _ HL.out).mono ?_
    rintro e w1 ⟨v, rfl, hR, hB⟩
    clear HL
    go_wp2
    go_ret
    exact ⟨rfl, hB⟩
  | true =>
    simp only [if_true] at h
    by_cases hg : ls.length ≤ 1000 ∧ ∀ l ∈ ls, l.size ≤ 255
    · rw [if_pos hg] at h
      obtain rfl := Option.some.inj h
      clear h
      obtain ⟨hg1, hg2⟩ := hg
      have HG := Lib.hid hg2
      clear hg2
      have hfin := rel_Fold.upto_all ls
      have HF := Lib.hid hfin
      clear hfin
      go_enter Try.func27, Try.ntmps27
      go_wp2_with fail
      refine (name_Labels.calls k a0 ls true _ HL.out).mono ?_
      rintro e w1 ⟨v, rfl, hR, hB⟩
      clear HL
      obtain ⟨A, c, rfl⟩ := Kd.R_slice hR
      have HR := Lib.hid hR
      clear hR
      go_wp2
      have hsz : w.heap.size ≤ w1.heap.size := hB.size
      go_loopw [17] (fun v17 wr => ∃ i : Nat, i ≤ ls.length ∧ v17 = .int .i64 i ∧ Lib.IsBuilder 85 5 w1.heap.size w1.heap.size (Lib.byteCells (rel_Fold.upto ls i)) wr ∧ Below w1.heap.size w1 wr) (fun v17 _ => ls.length - (intOf v17).toNat)
      case atStart => exact ⟨0, Nat.zero_le _, rfl, Lib.fresh_isBuilder 85 5 w1, (Below.refl _ _).alloc (Nat.le_refl _) _⟩
      case round =>
        obtain ⟨i, hi, rfl, hI, hbw⟩ := hrel
        have hws : w1.heap.size ≤ wr.heap.size := hbw.size
        have hul := rel_Fold.upto_len ls HG.out i hi
        have hbl : (Lib.byteCells (rel_Fold.upto ls i)).length ≤ 256000 := by
          rw [Lib.byteCells, List.length_map]
          omega
        by_cases hlt : i < ls.length
        · have hR := Kd.R_below HR.out hbw
          obtain ⟨ad, rfl, hcell⟩ := Kd.at_string (Kd.R_reads' hR).2.2 (i : Int) (by omega) (by omega)
          rw [rel_Fold.rdOf_str ls i hlt, Int.toNat_natCast] at hcell
          clear hR
          have hl1 : ls[i].size ≤ 255 := HG.out _ (List.getElem_mem hlt)
          have hus := rel_Fold.upto_succ ls i hlt
          generalize ls[i] = l at *
          have HU := Lib.hid hus
          clear hus
          generalize hT : rel_Fold.upto ls i = T at *
          clear hT
          have hbyte : ((UInt8.ofNat l.size).toNat : Int) = (l.size : Int) := by rw [M.ofNat_toNat_len hl1]
          have HBY := Lib.hid hbyte
          clear hbyte
          have hlc : (Lib.byteCells (M.fol l.data.toList)).length ≤ 255 := by
            have h3 : l.data.toList.length = l.size := by rw [Array.length_toList]; rfl
            rw [Lib.byteCells, List.length_map, M.fol_length, h3]
            exact hl1
          go_wp2_with fail
          refine (Bld.WriteByte w1.heap.size w1.heap.size _ _ _ hI (by omega) hws).mono ?_
          rintro e w3 ⟨rfl, h3, b3⟩
          have hw3 : w1.heap.size ≤ w3.heap.size := Nat.le_trans hws b3.size
          go_wp2_with fail
          refine (rel_folded.calls l _ _ (rel_Fold.folded_f l hl1)).mono ?_
          rintro e w4 ⟨rfl, b4⟩
          have hw4 : w1.heap.size ≤ w4.heap.size := Nat.le_trans hw3 b4.size
          have h4 := Bld.keep (.inr h3) b4
          go_wp2_with fail
          refine (Bld.WriteString w1.heap.size w1.heap.size _ ⟨(M.fol l.data.toList).toArray⟩ _ h4 ?_ hw4).mono ?_
          · have e1 : (⟨(M.fol l.data.toList).toArray⟩ : ByteArray).size = (Lib.byteCells (M.fol l.data.toList)).length := by simp [Lib.byteCells, ByteArray.size]
            rw [e1, List.length_append, List.length_cons, List.length_nil]
            omega
          rintro e w5 ⟨rfl, h5, b5⟩
          go_wp2
          go_roundw
          case rel =>
            refine ⟨i + 1, by omega, by go_num, ?_, ((hbw.trans b3).trans (b4.mono hw3)).trans b5⟩
            rw [HU.out, Lib.byteCells_append, Lib.byteCells_append]
            have e2 : Lib.byteCells [UInt8.ofNat l.size] = [.int .u8 (l.size : Int)] := by rw [← HBY.out]; rfl
            have e3 : Lib.strCells ⟨(M.fol l.data.toList).toArray⟩ = Lib.byteCells (M.fol l.data.toList) := by simp [Lib.strCells, Lib.byteCells]
            rw [e2, ← e3]
            exact .inr h5
          case measure => simp [intOf]; omega
        · obtain rfl : i = ls.length := by omega
          go_wp2_with fail
          refine (Bld.WriteString w1.heap.size w1.heap.size _ ⟨#[0]⟩ _ hI (by show _ + 1 ≤ _; omega) hws).mono ?_
          rintro e w3 ⟨rfl, h3, b3⟩
          have hw3 : w1.heap.size ≤ w3.heap.size := Nat.le_trans hws b3.size
          have h4 : Lib.IsBuilder 85 5 w1.heap.size w1.heap.size (Lib.byteCells (M.wire (ls.map (fun l => M.fol l.data.toList)))) w3 := by
            rw [← HF.out, Lib.byteCells_append]
            exact .inr h3
          go_wp2_with fail
          refine (Try.Builder_String_any w1.heap.size w1.heap.size _ _ h4 hw3).mono ?_
          rintro e w4 ⟨rfl, b4⟩
          go_wp2
          go_ret
          exact ⟨rfl, ((hB.trans (hbw.mono hsz)).trans (b3.mono hsz)).trans (b4.mono hsz)⟩
    · rw [if_neg hg] at h
      cases h


-- NOT PRINTED: function 24 (out_keyOf)

-- NOT PRINTED: function 12 (out_Table_Add)

-- NOT PRINTED: function 28 (api_Asked_28)

-- NOT PRINTED: function 30 (api_Asked_30)

-- NOT PRINTED: function 31 (out_Table_gone)

-- NOT PRINTED: function 14 (out_Table_Take)

-- NOT PRINTED: function 16 (out_Table_Due)

-- NOT PRINTED: function 33 (api_Asked_33)

-- NOT PRINTED: function 20 (out_Table_All)

/-! ### wimplelaw19_asked: function 22 -/
def wimplelaw19_asked.f (a0 : Int) (a1 : Int) (a2 : Int) (a3 : Int) : Option (Int × Int × Int × ByteArray × ByteArray × ByteArray × Int × Int) := some (a0, a1, a2, (⟨#[0]⟩ : ByteArray), (⟨#[1, 97, 0]⟩ : ByteArray), (⟨#[1, 97, 0]⟩ : ByteArray), 1, a3)
set_option maxHeartbeats 8000000 in
set_option maxRecDepth 100000 in
theorem wimplelaw19_asked.calls (a0 : Int) (a1 : Int) (a2 : Int) (a3 : Int) (r1 : Int) (r2 : Int) (r3 : Int) (r4 : ByteArray) (r5 : ByteArray) (r6 : ByteArray) (r7 : Int) (r8 : Int) (w : World) (h : wimplelaw19_asked.f a0 a1 a2 a3 = some (r1, r2, r3, r4, r5, r6, r7, r8)) :
    Calls Try.prog 22 #[.int .i64 a0, .int .i64 a1, .int .i64 a2, .int .i64 a3] w fun e w' => e = .returned (.agg #[.int .i64 r1, .int .i64 r2, .int .i64 r3, .string r4, .string r5, .string r6, .int .i64 r7, .int .i64 r8]) ∧ Below w.heap.size w w' := by
  have hu35 := Try.underlying35
  have hu33 := Try.underlying33
  have HB := Aside0.mk (Below.refl w.heap.size w)
  have H : (some (a0, a1, a2, (⟨#[0]⟩ : ByteArray), (⟨#[1, 97, 0]⟩ : ByteArray), (⟨#[1, 97, 0]⟩ : ByteArray), 1, a3)) = some (r1, r2, r3, r4, r5, r6, r7, r8) := h
  clear h
  simp only [Option.some.injEq, Prod.mk.injEq] at H
  obtain ⟨rfl, rfl, rfl, rfl, rfl, rfl, rfl, rfl⟩ := H
  go_enter Try.func22, Try.ntmps22
  try simp only [List.append_eq, List.cons_append, List.nil_append]
  go_wp2_with (first | ((with_reducible refine gate_dst (N := 8) rfl ?_); refine box_event ?hg (N := 8) ?hd (cs := #[.int .i64 0, .int .i64 0, .int .i64 0, .string (⟨#[]⟩ : ByteArray), .string (⟨#[]⟩ : ByteArray), .string (⟨#[]⟩ : ByteArray), .int .i64 0, .int .i64 0]) (t := 35) ?hr ?_; (case hd => rfl); (case hg => rfl); (case hr => first | (go_simp; done) | (go_simp; rfl)); intro gb119 hg w5 hbox hb; have n0_ := Aside0.mk (below_step (by repeat (first | (with_reducible first | exact HB.out | apply below_alloc | apply pw_below_drewN | apply below_drew1) | exact HB.out)) hb); have n1_ := Aside0.mk (hbox); have n2_ := Aside0.mk ((by rw [hg]; exact (below_size (by repeat (first | (with_reducible first | exact HB.out | apply below_alloc | apply pw_below_drewN | apply below_drew1) | exact HB.out))) : w.heap.size ≤ gb119)); have n3_ := Aside0.mk ((by rw [hg]; exact (below_size (by repeat (first | (with_reducible first | exact HB.out | apply below_alloc | apply pw_below_drewN | apply below_drew1) | exact HB.out))) : w.heap.size ≤ gb119)); clear HB; have HB := n0_; have BK119 := n1_; have GW119 := n2_; have GE119 := n3_; clear n0_ n1_ n2_ n3_; clear hb hbox hg; have hcz6_0 : w5.cell? ⟨gb119, 0, none⟩ = some (.int .i64 0) := (blk_cell BK119.out 0).trans rfl; have hcz6_1 : w5.cell? ⟨gb119, 1, none⟩ = some (.int .i64 0) := (blk_cell BK119.out 1).trans rfl; have hcz6_2 : w5.cell? ⟨gb119, 2, none⟩ = some (.int .i64 0) := (blk_cell BK119.out 2).trans rfl; have hcz6_3 : w5.cell? ⟨gb119, 3, none⟩ = some (.string (⟨#[]⟩ : ByteArray)) := (blk_cell BK119.out 3).trans rfl; have hcz6_4 : w5.cell? ⟨gb119, 4, none⟩ = some (.string (⟨#[]⟩ : ByteArray)) := (blk_cell BK119.out 4).trans rfl; have hcz6_5 : w5.cell? ⟨gb119, 5, none⟩ = some (.string (⟨#[]⟩ : ByteArray)) := (blk_cell BK119.out 5).trans rfl; have hcz6_6 : w5.cell? ⟨gb119, 6, none⟩ = some (.int .i64 0) := (blk_cell BK119.out 6).trans rfl; have hcz6_7 : w5.cell? ⟨gb119, 7, none⟩ = some (.int .i64 0) := (blk_cell BK119.out 7).trans rfl; have hfz6_0 := blk_frozen BK119.out 0; have hfz6_1 := blk_frozen BK119.out 1; have hfz6_2 := blk_frozen BK119.out 2; have hfz6_3 := blk_frozen BK119.out 3; have hfz6_4 := blk_frozen BK119.out 4; have hfz6_5 := blk_frozen BK119.out 5; have hfz6_6 := blk_frozen BK119.out 6; have hfz6_7 := blk_frozen BK119.out 7))
  refine bodyPost_ret (results_cell_row rfl _ _ gb119 35 #[.int .i64 a0, .int .i64 a1, .int .i64 a2, .string (⟨#[0]⟩ : ByteArray), .string (⟨#[1, 97, 0]⟩ : ByteArray), .string (⟨#[1, 97, 0]⟩ : ByteArray), .int .i64 1, .int .i64 a3] (0, 0) _ rfl (by (with_reducible repeat (first | refine blk_drewN ?_ _ | refine blk_drew ?_ | refine blk_alloc ?_ _)); refine blk_put (cs := #[.int .i64 a0, .int .i64 a1, .int .i64 a2, .string (⟨#[0]⟩ : ByteArray), .string (⟨#[1, 97, 0]⟩ : ByteArray), .string (⟨#[1, 97, 0]⟩ : ByteArray), .int .i64 1, .int .i64 0]) ?_ 7 _ rfl; (with_reducible repeat (first | refine blk_drewN ?_ _ | refine blk_drew ?_ | refine blk_alloc ?_ _)); refine blk_put (cs := #[.int .i64 a0, .int .i64 a1, .int .i64 a2, .string (⟨#[0]⟩ : ByteArray), .string (⟨#[1, 97, 0]⟩ : ByteArray), .string (⟨#[1, 97, 0]⟩ : ByteArray), .int .i64 0, .int .i64 0]) ?_ 6 _ rfl; (with_reducible repeat (first | refine blk_drewN ?_ _ | refine blk_drew ?_ | refine blk_alloc ?_ _)); refine blk_put (cs := #[.int .i64 a0, .int .i64 a1, .int .i64 a2, .string (⟨#[0]⟩ : ByteArray), .string (⟨#[1, 97, 0]⟩ : ByteArray), .string (⟨#[]⟩ : ByteArray), .int .i64 0, .int .i64 0]) ?_ 5 _ rfl; (with_reducible repeat (first | refine blk_drewN ?_ _ | refine blk_drew ?_ | refine blk_alloc ?_ _)); refine blk_put (cs := #[.int .i64 a0, .int .i64 a1, .int .i64 a2, .string (⟨#[0]⟩ : ByteArray), .string (⟨#[]⟩ : ByteArray), .string (⟨#[]⟩ : ByteArray), .int .i64 0, .int .i64 0]) ?_ 4 _ rfl; (with_reducible repeat (first | refine blk_drewN ?_ _ | refine blk_drew ?_ | refine blk_alloc ?_ _)); refine blk_put (cs := #[.int .i64 a0, .int .i64 a1, .int .i64 a2, .string (⟨#[]⟩ : ByteArray), .string (⟨#[]⟩ : ByteArray), .string (⟨#[]⟩ : ByteArray), .int .i64 0, .int .i64 0]) ?_ 3 _ rfl; (with_reducible repeat (first | refine blk_drewN ?_ _ | refine blk_drew ?_ | refine blk_alloc ?_ _)); refine blk_put (cs := #[.int .i64 a0, .int .i64 a1, .int .i64 0, .string (⟨#[]⟩ : ByteArray), .string (⟨#[]⟩ : ByteArray), .string (⟨#[]⟩ : ByteArray), .int .i64 0, .int .i64 0]) ?_ 2 _ rfl; (with_reducible repeat (first | refine blk_drewN ?_ _ | refine blk_drew ?_ | refine blk_alloc ?_ _)); refine blk_put (cs := #[.int .i64 a0, .int .i64 0, .int .i64 0, .string (⟨#[]⟩ : ByteArray), .string (⟨#[]⟩ : ByteArray), .string (⟨#[]⟩ : ByteArray), .int .i64 0, .int .i64 0]) ?_ 1 _ rfl; (with_reducible repeat (first | refine blk_drewN ?_ _ | refine blk_drew ?_ | refine blk_alloc ?_ _)); refine blk_put (cs := #[.int .i64 0, .int .i64 0, .int .i64 0, .string (⟨#[]⟩ : ByteArray), .string (⟨#[]⟩ : ByteArray), .string (⟨#[]⟩ : ByteArray), .int .i64 0, .int .i64 0]) ?_ 0 _ rfl; (with_reducible repeat (first | refine blk_drewN ?_ _ | refine blk_drew ?_ | refine blk_alloc ?_ _)); exact BK119.out) Try.underlying35 rfl (by kernel_rfl)) rfl ?_
  exact ⟨by first | rfl | (simp [errW_none, errW_some] <;> rfl) | (simp [*, errW_none, errW_some] <;> rfl), by repeat (first | (with_reducible first | exact HB.out | apply below_alloc | apply pw_below_drewN | apply below_drew1 | refine below_set ?_ GE119.out) | exact HB.out)⟩

-- NOT PRINTED: function 11 (wimplelaw19_awake)

/-! ### wimpleref13_wide: function 25 -/
def wimpleref13_wide.f (a0 : Int) : Option (Bool) := if a0 ≥ 0 then (some (decide (a0 ≤ 4294967295))) else (some false)
set_option maxHeartbeats 8000000 in
set_option maxRecDepth 100000 in
theorem wimpleref13_wide.calls (a0 : Int) (r : Bool) (w : World) (h : wimpleref13_wide.f a0 = some r) :
    Calls Try.prog 25 #[.int .i64 a0] w fun e w' => e = .returned (.bool r) ∧ Drawn0 w w' := by
  have H : (if a0 ≥ 0 then (some (decide (a0 ≤ 4294967295))) else (some false)) = some r := h
  clear h
  by_cases c2 : a0 ≥ 0
  · rw [if_pos c2] at H
    have c2b0 : decide (0 ≤ a0) = true := decide_eq_true c2
    clear c2
    obtain rfl := Option.some.inj H
    go_enter Try.func25, Try.ntmps25
    try simp only [List.append_eq, List.cons_append, List.nil_append]
    go_wp2
    go_ret
    exact ⟨by first | rfl | (simp; done) | (simp [*]; done), by repeat (first | exact Drawn0.refl _ | apply Drawn0.step)⟩
  · rw [if_neg c2] at H
    have c2b0 : decide (0 ≤ a0) = false := decide_eq_false c2
    clear c2
    obtain rfl := Option.some.inj H
    go_enter Try.func25, Try.ntmps25
    try simp only [List.append_eq, List.cons_append, List.nil_append]
    go_wp2
    go_ret
    exact ⟨by first | rfl | (simp; done) | (simp [*]; done), by repeat (first | exact Drawn0.refl _ | apply Drawn0.step)⟩

end Go.Proofs.Ytojjkgnkdcekpaa.P
