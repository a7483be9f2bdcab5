/- FilterRoot's walk. -/
import Derived.Test.YtimkafkiphfacaaSAwake12
import Derived.Test.YtimkafkiphfacaaPx12
import Derived.Test.YtimkafkiphfacaaPx15
import Derived.Test.YtimkafkiphfacaaPx18
import Derived.Test.YtimkafkiphfacaaPx20
namespace Go.Proofs.Ytimkafkiphfacaa.M
open Go Go.RowKit Go.Proofs.YtimkafkiphfacaaW.PrintWords Go.Proofs.YtimkafkiphfacaaW.PrintLast Go.Proofs.YtimkafkiphfacaaW.PrintMore Go.Proofs.Ytimkafkiphfacaa.P
set_option linter.unusedVariables false
set_option linter.unusedSimpArgs false
theorem nm_root : nm [0] = some [] := nm_some.2 ⟨good_of (by decide), by decide, by decide⟩
theorem above_root (x : Bytes) : aboveS [0] x = (nm x).isSome := by
  cases h : nm x with
  | none => rw [aboveS_right h]; rfl
  | some y =>
    rw [aboveS_some nm_root h]
    exact decide_eq_true List.nil_suffix

theorem keepR_at (cut : Bytes) (l : List S42) (i : Nat) (h : i < l.length) (hf : l[i].f2 = 1) (ha : aboveS cut (B l[i].f0) = true) : ∃ h' : (keepS cut (l.take i)).length < (keepS cut l).length, (keepS cut l)[(keepS cut (l.take i)).length] = l[i] := by
  have e : keepS cut l = keepS cut (l.take i) ++ l[i] :: keepS cut (l.drop (i + 1)) := by
    have h1 : keepS cut l = keepS cut (l.take i) ++ keepS cut (l.drop i) := by
      unfold keepS
      rw [← List.filter_append, List.take_append_drop]
    rw [h1, List.drop_eq_getElem_cons h]
    congr 1
    unfold keepS
    rw [List.filter_cons_of_pos]
    simp [hf, ha]
  have hl : (keepS cut (l.take i)).length < (keepS cut l).length := by
    rw [congrArg List.length e, List.length_append, List.length_cons]
    omega
  refine ⟨hl, ?_⟩
  have h2 : (keepS cut l)[(keepS cut (l.take i)).length]? = some l[i] := by
    rw [congrArg (fun z : List S42 => z[(keepS cut (l.take i)).length]?) e, List.getElem?_append_right (Nat.le_refl _)]
    simp
  rw [List.getElem?_eq_getElem hl] at h2
  exact Option.some.inj h2

def nob : Bytes := [15, 110, 111, 98, 111, 100, 121, 45, 105, 115, 45, 116, 104, 101, 114, 101, 0]
theorem nob_some : (nm nob).isSome = true := by
  rw [show nm nob = some [[110, 111, 98, 111, 100, 121, 45, 105, 115, 45, 116, 104, 101, 114, 101]] from nm_some.2 ⟨good_of (by decide), by decide, by decide⟩]
  rfl
/-- The records beneath a name. -/
def underS (l : List S42) : List S42 := l.filter (fun r => aboveS nob (B r.f0))
theorem under_le (l : List S42) : (underS l).length ≤ l.length := List.length_filter_le _ _
theorem keep_under (l : List S42) : (keepS nob l).length ≤ (underS l).length := by
  unfold keepS underS
  rw [← List.filter_filter]
  exact List.length_filter_le _ _

set_option maxHeartbeats 8000000 in
set_option maxRecDepth 100000 in
theorem root_walk (w : World) (h0 : Int) (h1 : Bool) (h2 : Int) (h3 h4 h5 h6 : Bool) (h7 h8 : Int) (A9 : Option Addr) (c9 : Nat) (q : List S71) (A10 : Option Addr) (c10 : Nat) (a : List S42) (A11 : Option Addr) (c11 : Nat) (n : List S42) (A12 : Option Addr) (c12 : Nat) (r : List S42)
    (R9 : Aside0 (Kd.C k71 w A9 q.length q)) (L9 : Aside0 (q.length ≤ c9)) (R10 : Aside0 (Kd.C k42 w A10 a.length a)) (L10 : Aside0 (a.length ≤ c10)) (R11 : Aside0 (Kd.C k42 w A11 n.length n)) (L11 : Aside0 (n.length ≤ c11)) (R12 : Aside0 (Kd.C k42 w A12 r.length r)) (L12 : Aside0 (r.length ≤ c12))
    (hq : Aside0 (q.length ≤ 4398046510976)) (ha : Aside0 (a.length ≤ 2513169434843)) (hn : Aside0 (n.length ≤ 2513169434843)) (hr : Aside0 (r.length ≤ 2513169434843)) :
    Calls Try.prog 5 #[.agg #[.int .i64 h0, .bool h1, .int .i64 h2, .bool h3, .bool h4, .bool h5, .bool h6, .int .i64 h7, .int .i64 h8, .slice A9 q.length c9, .slice A10 a.length c10, .slice A11 n.length c11, .slice A12 r.length c12]] w fun e w' => e = .returned (.bool true) ∧ Below w.heap.size w w' := by
  have hu42 := Try.underlying42
  have hu27 := Try.underlying27
  have HA : Aside0 (∃ k, wimplelaw12_awake.f k = some true) := ⟨awake_ev.rounds⟩
  go_enter Try.func5, Try.ntmps5
  try simp only [List.append_eq, List.cons_append, List.nil_append]
  go_wp2_with fail
  obtain ⟨ka, hka⟩ := HA.out
  refine (wimplelaw12_awake.calls ka true _ hka).mono ?_
  clear hka HA
  rintro e w1 ⟨rfl, hb⟩
  have BM := Aside0.mk (blk_below (blk_new w _) hb)
  have S1b := Aside0.mk (below_then (below_alloc (Below.refl w.heap.size w) _) (below_alloc (Below.refl w.heap.size w) _).size hb)
  clear hb
  have Q9 := Aside0.mk (Kd.C_below R9.out S1b.out)
  have Q10 := Aside0.mk (Kd.C_below R10.out S1b.out)
  have Q11 := Aside0.mk (Kd.C_below R11.out S1b.out)
  have Q12 := Aside0.mk (Kd.C_below R12.out S1b.out)
  clear R9 R10 R11 R12
  simp only
  have m0 : w1.cell? ⟨w.heap.size, 0, none⟩ = some (.int .i64 h0) := (blk_cell BM.out 0).trans rfl
  have m1 : w1.cell? ⟨w.heap.size, 1, none⟩ = some (.bool h1) := (blk_cell BM.out 1).trans rfl
  have m2 : w1.cell? ⟨w.heap.size, 2, none⟩ = some (.int .i64 h2) := (blk_cell BM.out 2).trans rfl
  have m3 : w1.cell? ⟨w.heap.size, 3, none⟩ = some (.bool h3) := (blk_cell BM.out 3).trans rfl
  have m4 : w1.cell? ⟨w.heap.size, 4, none⟩ = some (.bool h4) := (blk_cell BM.out 4).trans rfl
  have m5 : w1.cell? ⟨w.heap.size, 5, none⟩ = some (.bool h5) := (blk_cell BM.out 5).trans rfl
  have m6 : w1.cell? ⟨w.heap.size, 6, none⟩ = some (.bool h6) := (blk_cell BM.out 6).trans rfl
  have m7 : w1.cell? ⟨w.heap.size, 7, none⟩ = some (.int .i64 h7) := (blk_cell BM.out 7).trans rfl
  have m8 : w1.cell? ⟨w.heap.size, 8, none⟩ = some (.int .i64 h8) := (blk_cell BM.out 8).trans rfl
  have m9 : w1.cell? ⟨w.heap.size, 9, none⟩ = some (.slice A9 q.length c9) := (blk_cell BM.out 9).trans rfl
  have m10 : w1.cell? ⟨w.heap.size, 10, none⟩ = some (.slice A10 a.length c10) := (blk_cell BM.out 10).trans rfl
  have m11 : w1.cell? ⟨w.heap.size, 11, none⟩ = some (.slice A11 n.length c11) := (blk_cell BM.out 11).trans rfl
  have m12 : w1.cell? ⟨w.heap.size, 12, none⟩ = some (.slice A12 r.length c12) := (blk_cell BM.out 12).trans rfl
  go_wp2_with fail
  obtain ⟨k1, hk1⟩ := (Filter_ok h0 h1 h2 h3 h4 h5 h6 h7 h8 q a n r (⟨#[0]⟩ : ByteArray) (by rw [show nm (B ⟨#[0]⟩) = some [] from nm_root]; rfl) hq.out ha.out hn.out hr.out).rounds
  refine (bail_Filter.calls k1 h0 h1 h2 h3 h4 h5 h6 h7 h8 A9 c9 q A10 c10 a A11 c11 n A12 c12 r (⟨#[0]⟩ : ByteArray) h0 h1 h2 h3 h4 h5 h6 h7 h8 q (keepS (B (⟨#[0]⟩ : ByteArray)) a) (keepS (B (⟨#[0]⟩ : ByteArray)) n) (keepS (B (⟨#[0]⟩ : ByteArray)) r) 0 _ Q9.out L9.out Q10.out L10.out Q11.out L11.out Q12.out L12.out hk1).mono ?_
  clear hk1
  rintro e w2 ⟨v9, v10, v11, v12, rfl, ho0, ho1, ho2, ho3, hb⟩
  obtain ⟨a', ea⟩ : ∃ x, x = keepS [0] a := ⟨_, rfl⟩
  obtain ⟨n', en⟩ : ∃ x, x = keepS [0] n := ⟨_, rfl⟩
  obtain ⟨r', er⟩ : ∃ x, x = keepS [0] r := ⟨_, rfl⟩
  rw [show B (⟨#[0]⟩ : ByteArray) = [0] from rfl, ← ea] at ho1
  rw [show B (⟨#[0]⟩ : ByteArray) = [0] from rfl, ← en] at ho2
  rw [show B (⟨#[0]⟩ : ByteArray) = [0] from rfl, ← er] at ho3
  have Ea := Aside0.mk ea
  have En := Aside0.mk en
  have Er := Aside0.mk er
  clear ea en er
  obtain ⟨A19, c19, rfl, l19, r19⟩ := Kd.R_reads ho0
  have L19 := Aside0.mk l19
  have R19 := Aside0.mk r19
  clear l19 r19
  obtain ⟨A20, c20, rfl, l20, r20⟩ := Kd.R_reads ho1
  have L20 := Aside0.mk l20
  have R20 := Aside0.mk r20
  clear l20 r20
  obtain ⟨A21, c21, rfl, l21, r21⟩ := Kd.R_reads ho2
  have L21 := Aside0.mk l21
  have R21 := Aside0.mk r21
  clear l21 r21
  obtain ⟨A22, c22, rfl, l22, r22⟩ := Kd.R_reads ho3
  have L22 := Aside0.mk l22
  have R22 := Aside0.mk r22
  clear l22 r22
  clear ho0 ho1 ho2 ho3 m0 m1 m2 m3 m4 m5 m6 m7 m8 m9 m10 m11 m12
  have T2 := Aside0.mk (below_then S1b.out S1b.out.size hb)
  have BM2 := Aside0.mk (blk_below BM.out hb)
  have P9 := Aside0.mk (Kd.C_below Q9.out hb)
  have P10 := Aside0.mk (Kd.C_below Q10.out hb)
  have P11 := Aside0.mk (Kd.C_below Q11.out hb)
  have P12 := Aside0.mk (Kd.C_below Q12.out hb)
  clear Q9 Q10 Q11 Q12 hb BM S1b
  simp only
  go_wp2_with fail
  generalize hW : w2.alloc _ = W
  have BMW : Aside0 (W.heap[w.heap.size]? = some (.cells #[.int .i64 h0, .bool h1, .int .i64 h2, .bool h3, .bool h4, .bool h5, .bool h6, .int .i64 h7, .int .i64 h8, .slice A9 q.length c9, .slice A10 a.length c10, .slice A11 n.length c11, .slice A12 r.length c12] 27 (0, 0))) := ⟨by rw [← hW]; exact blk_alloc BM2.out _⟩
  have BAW : Aside0 (W.heap[w2.heap.size]? = some (.cells #[.int .i64 h0, .bool h1, .int .i64 h2, .bool h3, .bool h4, .bool h5, .bool h6, .int .i64 h7, .int .i64 h8, .slice A19 q.length c19, .slice A20 a'.length c20, .slice A21 n'.length c21, .slice A22 r'.length c22] 27 (0, 0))) := ⟨by rw [← hW]; exact blk_new w2 _⟩
  have W9 : Aside0 (Kd.C k71 W A9 q.length q) := ⟨by rw [← hW]; exact Kd.C_alloc P9.out _⟩
  have W10 : Aside0 (Kd.C k42 W A10 a.length a) := ⟨by rw [← hW]; exact Kd.C_alloc P10.out _⟩
  have W11 : Aside0 (Kd.C k42 W A11 n.length n) := ⟨by rw [← hW]; exact Kd.C_alloc P11.out _⟩
  have W12 : Aside0 (Kd.C k42 W A12 r.length r) := ⟨by rw [← hW]; exact Kd.C_alloc P12.out _⟩
  have W19 : Aside0 (Kd.C k71 W A19 q.length q) := ⟨by rw [← hW]; exact Kd.C_alloc R19.out _⟩
  have W20 : Aside0 (Kd.C k42 W A20 a'.length a') := ⟨by rw [← hW]; exact Kd.C_alloc R20.out _⟩
  have W21 : Aside0 (Kd.C k42 W A21 n'.length n') := ⟨by rw [← hW]; exact Kd.C_alloc R21.out _⟩
  have W22 : Aside0 (Kd.C k42 W A22 r'.length r') := ⟨by rw [← hW]; exact Kd.C_alloc R22.out _⟩
  have TW : Aside0 (Below w.heap.size w W) := ⟨by rw [← hW]; exact below_alloc T2.out _⟩
  clear hW T2 R19 R20 R21 R22 P9 P10 P11 P12 BM2
  obtain ⟨wo, rfl⟩ : ∃ wo : World, wo = W := ⟨_, rfl⟩
  have hnl := hn.out
  go_loopw [5, 6] (fun v5 v6 wr => ∃ i : Nat, i ≤ n.length ∧ v5 = .int .i64 ((keepS [0] (n.take i)).length : Nat) ∧ v6 = .int .i64 i ∧ Aside0 (Below wo.heap.size wo wr)) (fun _ v6 _ => n.length - (intOf v6).toNat)
  case atStart => exact ⟨0, Nat.zero_le _, rfl, rfl, ⟨Below.refl _ _⟩⟩
  case round =>
    obtain ⟨i, hi, rfl, rfl, HBW⟩ := hrel
    by_cases hlt : i < n.length
    · have hkl : (keepS [0] (n.take i)).length ≤ i := Nat.le_trans (keepS_le _ _) (by rw [List.length_take]; omega)
      generalize hkj : (keepS [0] (n.take i)).length = j at *
      have HKJ := Aside0.mk hkj
      clear hkj
      have m11 : wr.cell? ⟨w.heap.size, 11, none⟩ = some (.slice A11 n.length c11) := (blk_cell (blk_below BMW.out HBW.out) 11).trans rfl
      have aa11 : wr.cell? ⟨w2.heap.size, 11, none⟩ = some (.slice A21 n'.length c21) := (blk_cell (blk_below BAW.out HBW.out) 11).trans rfl
      obtain ⟨ad, hA, x0, x1, x2, x3, x4⟩ := at_T42 (Kd.C_below W11.out HBW.out) (i : Int) (by omega) (by omega)
      cases hA
      rw [rd42 n i hlt] at x0 x1 x2 x3 x4
      rw [Int.toNat_natCast] at x0 x1 x2 x3 x4
      generalize hx : n[i] = x at *
      have HX := Aside0.mk hx
      clear hx
      obtain ⟨kk, hk⟩ := (refMay_ev x.f0).rounds
      have HK := Aside0.mk hk
      clear hk
      have hd1 : decide ((i : Int) < (n.length : Int)) = true := decide_eq_true (by omega)
      have hd2 : decide (i < n.length) = true := decide_eq_true hlt
      have hi0 : (0 : Int) ≤ (i : Int) := by omega
      by_cases hf : x.f2 = 1
      · have hf1 : (x.f2 == 1) = true := by simpa using hf
        have hf2 : (x.f2 != 1) = false := by simpa using hf
        have HF := Aside0.mk hf
        clear hf
        cases hm : (nm (B x.f0)).isSome with
        | false =>
          rw [hm] at HK
          have HM := Aside0.mk hm
          clear hm
          go_wp2_with fail
          refine (wimpleref1_May.calls kk x.f0 false _ HK.out).mono ?_
          rintro e w5 ⟨rfl, hb5⟩
          have HBW5 := Aside0.mk (below_then HBW.out HBW.out.size hb5)
          clear hb5
          simp only
          go_wp2_with fail
          go_roundw
          case rel => exact ⟨i + 1, by omega, by rw [keepS_no _ n i hlt (by rw [HX.out, above_root, HM.out]; simp), HKJ.out], by go_num, HBW5⟩
          case measure => simp [intOf]; omega
        | true =>
          rw [hm] at HK
          have HM := Aside0.mk hm
          clear hm
          have HAB : Aside0 (aboveS [0] (B x.f0) = true) := ⟨by rw [above_root, HM.out]⟩
          obtain ⟨hlt2, hat⟩ := keepR_at [0] n i hlt (by rw [HX.out]; exact HF.out) (by rw [HX.out]; exact HAB.out)
          have hjl : j < n'.length := by rw [En.out, ← HKJ.out]; exact hlt2
          obtain ⟨ad2, hA2, y0, y1, y2, y3, y4⟩ := at_T42 (Kd.C_below W21.out HBW.out) (j : Int) (by omega) (by omega)
          cases hA2
          have hrd : rd_T42 n' (j : Int) = x := by
            rw [rd42 n' j hjl]
            have h1 : n'[j]? = some n[i] := by
              rw [En.out, ← HKJ.out, List.getElem?_eq_getElem hlt2, hat]
            rw [List.getElem?_eq_getElem hjl] at h1
            rw [Option.some.inj h1, HX.out]
          rw [hrd, Int.toNat_natCast] at y0 y1 y2 y3 y4
          have HY : Aside0 (_ ∧ _ ∧ _ ∧ _ ∧ _) := ⟨y0, y1, y2, y3, y4⟩
          have HXX : Aside0 (_ ∧ _ ∧ _ ∧ _ ∧ _) := ⟨x0, x1, x2, x3, x4⟩
          clear y0 y1 y2 y3 y4 hrd hat hlt2
          go_wp2_with fail
          refine (wimpleref1_May.calls kk x.f0 true _ HK.out).mono ?_
          rintro e w5 ⟨rfl, hb5⟩
          have HBW5 := Aside0.mk (below_then HBW.out HBW.out.size hb5)
          have HB5 := Aside0.mk hb5
          clear hb5 m11 aa11 x0 x1 x2 x3 x4
          have m11 : w5.cell? ⟨w.heap.size, 11, none⟩ = some (.slice (some ad) n.length c11) := (blk_cell (blk_below BMW.out HBW5.out) 11).trans rfl
          have aa11 : w5.cell? ⟨w2.heap.size, 11, none⟩ = some (.slice (some ad2) n'.length c21) := (blk_cell (blk_below BAW.out HBW5.out) 11).trans rfl
          have x0 := pw_cell_below HB5.out HXX.out.1
          have x1 := pw_cell_below HB5.out HXX.out.2.1
          have x2 := pw_cell_below HB5.out HXX.out.2.2.1
          have x3 := pw_cell_below HB5.out HXX.out.2.2.2.1
          have x4 := pw_cell_below HB5.out HXX.out.2.2.2.2
          have y0 := pw_cell_below HB5.out HY.out.1
          have y1 := pw_cell_below HB5.out HY.out.2.1
          have y2 := pw_cell_below HB5.out HY.out.2.2.1
          have y3 := pw_cell_below HB5.out HY.out.2.2.2.1
          have y4 := pw_cell_below HB5.out HY.out.2.2.2.2
          have hj1 : decide ((j : Int) ≥ (n'.length : Int)) = false := decide_eq_false (by omega)
          have hj2 : decide (n'.length ≤ j) = false := decide_eq_false (by omega)
          have hj3 : decide ((n'.length : Int) ≤ (j : Int)) = false := decide_eq_false (by omega)
          have hj4 : decide ((j : Int) < (n'.length : Int)) = true := decide_eq_true (by omega)
          have hj5 : decide (j < n'.length) = true := decide_eq_true hjl
          have hj0 : (0 : Int) ≤ (j : Int) := by omega
          simp only
          go_wp2_with fail
          refine wp_region_quiet_lit (by kernel_rfl) (by kernel_rfl) ?_
          repeat (any_goals (first | go_big_quiet_step (fail) | quiet_step (fail)))
          all_goals (refine wpQuiet_nil ?_; intro _ hw'; obtain ⟨nq, hw''⟩ := hw'; subst hw'')
          go_wp2_with fail
          go_roundw
          case rel => exact ⟨i + 1, by omega, by rw [keepS_yes _ n i hlt (by rw [HX.out]; exact HF.out) (by rw [HX.out]; exact HAB.out), List.length_append, HKJ.out]; go_num, by go_num, ⟨pw_below_drewN HBW5.out _⟩⟩
          case measure => simp [intOf]; omega
      · have hf1 : (x.f2 == 1) = false := by simpa using hf
        have hf2 : (x.f2 != 1) = true := by simpa using hf
        have HF := Aside0.mk hf
        clear hf
        go_wp2_with fail
        go_roundw
        case rel => exact ⟨i + 1, by omega, by rw [keepS_no _ n i hlt (by rw [HX.out]; exact fun h => HF.out h.1), HKJ.out], by go_num, by first | exact HBW | exact ⟨pw_below_drewN HBW.out _⟩⟩
        case measure => simp [intOf]; omega
    · have hil : i = n.length := by omega
      have hja : (keepS [0] (n.take i)).length = n'.length := by rw [En.out, List.take_of_length_le (by omega)]
      rw [hja]
      subst hil
      clear hja
      have BMR := Aside0.mk (blk_below BMW.out HBW.out)
      have BAR := Aside0.mk (blk_below BAW.out HBW.out)
      have V9 := Aside0.mk (Kd.C_below W9.out HBW.out)
      have V10 := Aside0.mk (Kd.C_below W10.out HBW.out)
      have V11 := Aside0.mk (Kd.C_below W11.out HBW.out)
      have V12 := Aside0.mk (Kd.C_below W12.out HBW.out)
      have V19 := Aside0.mk (Kd.C_below W19.out HBW.out)
      have V20 := Aside0.mk (Kd.C_below W20.out HBW.out)
      have V21 := Aside0.mk (Kd.C_below W21.out HBW.out)
      have V22 := Aside0.mk (Kd.C_below W22.out HBW.out)
      have TR := Aside0.mk (below_then TW.out TW.out.size HBW.out)
      clear HBW W9 W10 W11 W12 W19 W20 W21 W22 TW BMW BAW
      have La : Aside0 (a'.length ≤ 2513169434843) := ⟨by rw [Ea.out]; exact Nat.le_trans (keepS_le _ _) ha.out⟩
      have Ln : Aside0 (n'.length ≤ 2513169434843) := ⟨by rw [En.out]; exact Nat.le_trans (keepS_le _ _) hn.out⟩
      have Lr : Aside0 (r'.length ≤ 2513169434843) := ⟨by rw [Er.out]; exact Nat.le_trans (keepS_le _ _) hr.out⟩
      have hd1 : decide ((n.length : Int) < (n.length : Int)) = false := decide_eq_false (by omega)
      have hd2 : decide (n.length < n.length) = false := decide_eq_false (by omega)
      have m0 : wr.cell? ⟨w.heap.size, 0, none⟩ = some (.int .i64 h0) := (blk_cell BMR.out 0).trans rfl
      have m1 : wr.cell? ⟨w.heap.size, 1, none⟩ = some (.bool h1) := (blk_cell BMR.out 1).trans rfl
      have m2 : wr.cell? ⟨w.heap.size, 2, none⟩ = some (.int .i64 h2) := (blk_cell BMR.out 2).trans rfl
      have m3 : wr.cell? ⟨w.heap.size, 3, none⟩ = some (.bool h3) := (blk_cell BMR.out 3).trans rfl
      have m4 : wr.cell? ⟨w.heap.size, 4, none⟩ = some (.bool h4) := (blk_cell BMR.out 4).trans rfl
      have m5 : wr.cell? ⟨w.heap.size, 5, none⟩ = some (.bool h5) := (blk_cell BMR.out 5).trans rfl
      have m6 : wr.cell? ⟨w.heap.size, 6, none⟩ = some (.bool h6) := (blk_cell BMR.out 6).trans rfl
      have m7 : wr.cell? ⟨w.heap.size, 7, none⟩ = some (.int .i64 h7) := (blk_cell BMR.out 7).trans rfl
      have m8 : wr.cell? ⟨w.heap.size, 8, none⟩ = some (.int .i64 h8) := (blk_cell BMR.out 8).trans rfl
      have m9 : wr.cell? ⟨w.heap.size, 9, none⟩ = some (.slice A9 q.length c9) := (blk_cell BMR.out 9).trans rfl
      have m10 : wr.cell? ⟨w.heap.size, 10, none⟩ = some (.slice A10 a.length c10) := (blk_cell BMR.out 10).trans rfl
      have m11 : wr.cell? ⟨w.heap.size, 11, none⟩ = some (.slice A11 n.length c11) := (blk_cell BMR.out 11).trans rfl
      have m12 : wr.cell? ⟨w.heap.size, 12, none⟩ = some (.slice A12 r.length c12) := (blk_cell BMR.out 12).trans rfl
      go_wp2_with fail
      obtain ⟨k1, hk1⟩ := (Filter_ok h0 h1 h2 h3 h4 h5 h6 h7 h8 q a n r (⟨#[15, 110, 111, 98, 111, 100, 121, 45, 105, 115, 45, 116, 104, 101, 114, 101, 0]⟩ : ByteArray) nob_some hq.out ha.out hn.out hr.out).rounds
      refine (bail_Filter.calls k1 h0 h1 h2 h3 h4 h5 h6 h7 h8 A9 c9 q A10 c10 a A11 c11 n A12 c12 r (⟨#[15, 110, 111, 98, 111, 100, 121, 45, 105, 115, 45, 116, 104, 101, 114, 101, 0]⟩ : ByteArray) h0 h1 h2 h3 h4 h5 h6 h7 h8 q (keepS nob a) (keepS nob n) (keepS nob r) 0 _ V9.out L9.out V10.out L10.out V11.out L11.out V12.out L12.out hk1).mono ?_
      clear hk1
      rintro e w5 ⟨v9, v10, v11, v12, rfl, ho0, ho1, ho2, ho3, hb⟩
      obtain ⟨A29, c29, rfl, l29, r29⟩ := Kd.R_reads ho0
      have L29 := Aside0.mk l29
      have R29 := Aside0.mk r29
      clear l29 r29
      obtain ⟨A30, c30, rfl, l30, r30⟩ := Kd.R_reads ho1
      have L30 := Aside0.mk l30
      have R30 := Aside0.mk r30
      clear l30 r30
      obtain ⟨A31, c31, rfl, l31, r31⟩ := Kd.R_reads ho2
      have L31 := Aside0.mk l31
      have R31 := Aside0.mk r31
      clear l31 r31
      obtain ⟨A32, c32, rfl, l32, r32⟩ := Kd.R_reads ho3
      have L32 := Aside0.mk l32
      have R32 := Aside0.mk r32
      clear l32 r32
      clear ho0 ho1 ho2 ho3 m0 m1 m2 m3 m4 m5 m6 m7 m8 m9 m10 m11 m12
      have BM5 := Aside0.mk (blk_below BMR.out hb)
      have BA5 := Aside0.mk (blk_below BAR.out hb)
      have U12 := Aside0.mk (Kd.C_below V12.out hb)
      have U19 := Aside0.mk (Kd.C_below V19.out hb)
      have U20 := Aside0.mk (Kd.C_below V20.out hb)
      have U21 := Aside0.mk (Kd.C_below V21.out hb)
      have U22 := Aside0.mk (Kd.C_below V22.out hb)
      have T5 := Aside0.mk (below_then TR.out TR.out.size hb)
      clear hb V9 V10 V11 V12 V19 V20 V21 V22 BMR BAR TR R29 R30 R31 R32
      have aa0 : ∀ o : Obj, (w5.alloc o).cell? ⟨w2.heap.size, 0, none⟩ = some (.int .i64 h0) := fun o => (blk_cell (blk_alloc BA5.out o) 0).trans rfl
      have aa1 : ∀ o : Obj, (w5.alloc o).cell? ⟨w2.heap.size, 1, none⟩ = some (.bool h1) := fun o => (blk_cell (blk_alloc BA5.out o) 1).trans rfl
      have aa2 : ∀ o : Obj, (w5.alloc o).cell? ⟨w2.heap.size, 2, none⟩ = some (.int .i64 h2) := fun o => (blk_cell (blk_alloc BA5.out o) 2).trans rfl
      have aa3 : ∀ o : Obj, (w5.alloc o).cell? ⟨w2.heap.size, 3, none⟩ = some (.bool h3) := fun o => (blk_cell (blk_alloc BA5.out o) 3).trans rfl
      have aa4 : ∀ o : Obj, (w5.alloc o).cell? ⟨w2.heap.size, 4, none⟩ = some (.bool h4) := fun o => (blk_cell (blk_alloc BA5.out o) 4).trans rfl
      have aa5 : ∀ o : Obj, (w5.alloc o).cell? ⟨w2.heap.size, 5, none⟩ = some (.bool h5) := fun o => (blk_cell (blk_alloc BA5.out o) 5).trans rfl
      have aa6 : ∀ o : Obj, (w5.alloc o).cell? ⟨w2.heap.size, 6, none⟩ = some (.bool h6) := fun o => (blk_cell (blk_alloc BA5.out o) 6).trans rfl
      have aa7 : ∀ o : Obj, (w5.alloc o).cell? ⟨w2.heap.size, 7, none⟩ = some (.int .i64 h7) := fun o => (blk_cell (blk_alloc BA5.out o) 7).trans rfl
      have aa8 : ∀ o : Obj, (w5.alloc o).cell? ⟨w2.heap.size, 8, none⟩ = some (.int .i64 h8) := fun o => (blk_cell (blk_alloc BA5.out o) 8).trans rfl
      have aa9 : ∀ o : Obj, (w5.alloc o).cell? ⟨w2.heap.size, 9, none⟩ = some (.slice A19 q.length c19) := fun o => (blk_cell (blk_alloc BA5.out o) 9).trans rfl
      have aa10 : ∀ o : Obj, (w5.alloc o).cell? ⟨w2.heap.size, 10, none⟩ = some (.slice A20 a'.length c20) := fun o => (blk_cell (blk_alloc BA5.out o) 10).trans rfl
      have aa11 : ∀ o : Obj, (w5.alloc o).cell? ⟨w2.heap.size, 11, none⟩ = some (.slice A21 n'.length c21) := fun o => (blk_cell (blk_alloc BA5.out o) 11).trans rfl
      have aa12 : ∀ o : Obj, (w5.alloc o).cell? ⟨w2.heap.size, 12, none⟩ = some (.slice A22 r'.length c22) := fun o => (blk_cell (blk_alloc BA5.out o) 12).trans rfl
      simp only
      go_wp2_with fail
      obtain ⟨k2, hk2⟩ : ∃ k, bail_Filter.f k h0 h1 h2 h3 h4 h5 h6 h7 h8 q a' n' r' (⟨#[0]⟩ : ByteArray) = some (h0, h1, h2, h3, h4, h5, h6, h7, h8, q, a', n', r', 0) := by
        have F2 := Filter_ok h0 h1 h2 h3 h4 h5 h6 h7 h8 q a' n' r' (⟨#[0]⟩ : ByteArray) (by rw [show nm (B ⟨#[0]⟩) = some [] from nm_root]; rfl) hq.out La.out Ln.out Lr.out
        rw [show B (⟨#[0]⟩ : ByteArray) = [0] from rfl, Ea.out, En.out, Er.out, keepS_twice, keepS_twice, keepS_twice, ← Ea.out, ← En.out, ← Er.out] at F2
        exact F2.rounds
      refine (bail_Filter.calls k2 h0 h1 h2 h3 h4 h5 h6 h7 h8 A19 c19 q A20 c20 a' A21 c21 n' A22 c22 r' (⟨#[0]⟩ : ByteArray) h0 h1 h2 h3 h4 h5 h6 h7 h8 q a' n' r' 0 _ (Kd.C_alloc U19.out _) L19.out (Kd.C_alloc U20.out _) L20.out (Kd.C_alloc U21.out _) L21.out (Kd.C_alloc U22.out _) L22.out hk2).mono ?_
      clear hk2
      rintro e w6 ⟨v9, v10, v11, v12, rfl, ho0, ho1, ho2, ho3, hb⟩
      obtain ⟨A39, c39, rfl, l39, r39⟩ := Kd.R_reads ho0
      have L39 := Aside0.mk l39
      have R39 := Aside0.mk r39
      clear l39 r39
      obtain ⟨A40, c40, rfl, l40, r40⟩ := Kd.R_reads ho1
      have L40 := Aside0.mk l40
      have R40 := Aside0.mk r40
      clear l40 r40
      obtain ⟨A41, c41, rfl, l41, r41⟩ := Kd.R_reads ho2
      have L41 := Aside0.mk l41
      have R41 := Aside0.mk r41
      clear l41 r41
      obtain ⟨A42, c42, rfl, l42, r42⟩ := Kd.R_reads ho3
      have L42 := Aside0.mk l42
      have R42 := Aside0.mk r42
      clear l42 r42
      clear ho0 ho1 ho2 ho3 aa0 aa1 aa2 aa3 aa4 aa5 aa6 aa7 aa8 aa9 aa10 aa11 aa12
      have BM6 := Aside0.mk (blk_below (blk_alloc BM5.out _) hb)
      have BA6 := Aside0.mk (blk_below (blk_alloc BA5.out _) hb)
      have BB6 := Aside0.mk (blk_below (blk_new w5 _) hb)
      have X12 := Aside0.mk (Kd.C_below (Kd.C_alloc U12.out _) hb)
      have X19 := Aside0.mk (Kd.C_below (Kd.C_alloc U19.out _) hb)
      have X20 := Aside0.mk (Kd.C_below (Kd.C_alloc U20.out _) hb)
      have X21 := Aside0.mk (Kd.C_below (Kd.C_alloc U21.out _) hb)
      have X22 := Aside0.mk (Kd.C_below (Kd.C_alloc U22.out _) hb)
      have T6 := Aside0.mk (below1 T5.out hb)
      clear hb U12 U19 U20 U21 U22 BM5 BA5 T5
      simp only
      go_wp2_with fail
      generalize hW : w6.alloc _ = W2
      have BMW : Aside0 (W2.heap[w.heap.size]? = some (.cells #[.int .i64 h0, .bool h1, .int .i64 h2, .bool h3, .bool h4, .bool h5, .bool h6, .int .i64 h7, .int .i64 h8, .slice A9 q.length c9, .slice A10 a.length c10, .slice A11 n.length c11, .slice A12 r.length c12] 27 (0, 0))) := ⟨by rw [← hW]; exact blk_alloc BM6.out _⟩
      have BAW : Aside0 (W2.heap[w2.heap.size]? = some (.cells #[.int .i64 h0, .bool h1, .int .i64 h2, .bool h3, .bool h4, .bool h5, .bool h6, .int .i64 h7, .int .i64 h8, .slice A19 q.length c19, .slice A20 a'.length c20, .slice A21 n'.length c21, .slice A22 r'.length c22] 27 (0, 0))) := ⟨by rw [← hW]; exact blk_alloc BA6.out _⟩
      have BBW : Aside0 (W2.heap[w5.heap.size]? = some (.cells #[.int .i64 h0, .bool h1, .int .i64 h2, .bool h3, .bool h4, .bool h5, .bool h6, .int .i64 h7, .int .i64 h8, .slice A29 q.length c29, .slice A30 (keepS nob a).length c30, .slice A31 (keepS nob n).length c31, .slice A32 (keepS nob r).length c32] 27 (0, 0))) := ⟨by rw [← hW]; exact blk_alloc BB6.out _⟩
      have BCW : Aside0 (W2.heap[w6.heap.size]? = some (.cells #[.int .i64 h0, .bool h1, .int .i64 h2, .bool h3, .bool h4, .bool h5, .bool h6, .int .i64 h7, .int .i64 h8, .slice A39 q.length c39, .slice A40 a'.length c40, .slice A41 n'.length c41, .slice A42 r'.length c42] 27 (0, 0))) := ⟨by rw [← hW]; exact blk_new w6 _⟩
      have W12 : Aside0 (Kd.C k42 W2 A12 r.length r) := ⟨by rw [← hW]; exact Kd.C_alloc X12.out _⟩
      have W19 : Aside0 (Kd.C k71 W2 A19 q.length q) := ⟨by rw [← hW]; exact Kd.C_alloc X19.out _⟩
      have W20 : Aside0 (Kd.C k42 W2 A20 a'.length a') := ⟨by rw [← hW]; exact Kd.C_alloc X20.out _⟩
      have W21 : Aside0 (Kd.C k42 W2 A21 n'.length n') := ⟨by rw [← hW]; exact Kd.C_alloc X21.out _⟩
      have W22 : Aside0 (Kd.C k42 W2 A22 r'.length r') := ⟨by rw [← hW]; exact Kd.C_alloc X22.out _⟩
      have W39 : Aside0 (Kd.C k71 W2 A39 q.length q) := ⟨by rw [← hW]; exact Kd.C_alloc R39.out _⟩
      have W40 : Aside0 (Kd.C k42 W2 A40 a'.length a') := ⟨by rw [← hW]; exact Kd.C_alloc R40.out _⟩
      have W41 : Aside0 (Kd.C k42 W2 A41 n'.length n') := ⟨by rw [← hW]; exact Kd.C_alloc R41.out _⟩
      have W42 : Aside0 (Kd.C k42 W2 A42 r'.length r') := ⟨by rw [← hW]; exact Kd.C_alloc R42.out _⟩
      have TW : Aside0 (Below w.heap.size w W2) := ⟨by rw [← hW]; exact below_alloc T6.out _⟩
      clear hW T6 X12 X19 X20 X21 X22 R39 R40 R41 R42 BM6 BA6 BB6 hd1 hd2
      obtain ⟨wo2, rfl⟩ : ∃ wo2 : World, wo2 = W2 := ⟨_, rfl⟩
      have hrl := hr.out
      go_loopw [11, 12] (fun v11 v12 wr => ∃ i : Nat, i ≤ r.length ∧ v11 = .int .i64 ((underS (r.take i)).length : Nat) ∧ v12 = .int .i64 i ∧ Aside0 (Below wo2.heap.size wo2 wr)) (fun _ v12 _ => r.length - (intOf v12).toNat)
      case atStart => exact ⟨0, Nat.zero_le _, rfl, rfl, ⟨Below.refl _ _⟩⟩
      case round =>
        obtain ⟨i, hi, rfl, rfl, HBW⟩ := hrel
        by_cases hlt : i < r.length
        · have hkl : (underS (r.take i)).length ≤ i := Nat.le_trans (under_le _) (by rw [List.length_take]; omega)
          generalize hkj : (underS (r.take i)).length = j at *
          have HKJ := Aside0.mk hkj
          clear hkj
          have m12 : wr.cell? ⟨w.heap.size, 12, none⟩ = some (.slice A12 r.length c12) := (blk_cell (blk_below BMW.out HBW.out) 12).trans rfl
          obtain ⟨ad, hA, x0, x1, x2, x3, x4⟩ := at_T42 (Kd.C_below W12.out HBW.out) (i : Int) (by omega) (by omega)
          cases hA
          rw [rd42 r i hlt] at x0 x1 x2 x3 x4
          rw [Int.toNat_natCast] at x0 x1 x2 x3 x4
          generalize hx : r[i] = x at *
          have HX := Aside0.mk hx
          clear hx
          obtain ⟨kk, hk⟩ := (refAbove_ev (⟨#[15, 110, 111, 98, 111, 100, 121, 45, 105, 115, 45, 116, 104, 101, 114, 101, 0]⟩ : ByteArray) x.f0).rounds
          rw [show B (⟨#[15, 110, 111, 98, 111, 100, 121, 45, 105, 115, 45, 116, 104, 101, 114, 101, 0]⟩ : ByteArray) = nob from rfl] at hk
          have HK := Aside0.mk hk
          clear hk
          have hd1 : decide ((i : Int) < (r.length : Int)) = true := decide_eq_true (by omega)
          have hd2 : decide (i < r.length) = true := decide_eq_true hlt
          have hi0 : (0 : Int) ≤ (i : Int) := by omega
          cases hab : aboveS nob (B x.f0) with
          | false =>
            rw [hab] at HK
            have HAB := Aside0.mk hab
            clear hab
            have hu : underS (r.take (i + 1)) = underS (r.take i) := by
              unfold underS
              rw [List.take_succ_eq_append_getElem hlt, List.filter_append, List.filter_cons_of_neg, List.filter_nil, List.append_nil]
              rw [HX.out, HAB.out]
              decide
            have HU := Aside0.mk hu
            clear hu
            go_wp2_with fail
            refine (wimpleref1_Above.calls kk (⟨#[15, 110, 111, 98, 111, 100, 121, 45, 105, 115, 45, 116, 104, 101, 114, 101, 0]⟩ : ByteArray) x.f0 false _ HK.out).mono ?_
            rintro e w7 ⟨rfl, hb7⟩
            have HBW7 := Aside0.mk (below_then HBW.out HBW.out.size hb7)
            clear hb7
            simp only
            go_wp2_with fail
            go_roundw
            case rel => exact ⟨i + 1, by omega, by rw [HU.out, HKJ.out], by go_num, HBW7⟩
            case measure => simp [intOf]; omega
          | true =>
            rw [hab] at HK
            have HAB := Aside0.mk hab
            clear hab
            have hu : underS (r.take (i + 1)) = underS (r.take i) ++ [r[i]] := by
              unfold underS
              rw [List.take_succ_eq_append_getElem hlt, List.filter_append, List.filter_cons_of_pos, List.filter_nil]
              rw [HX.out, HAB.out]
            have HU := Aside0.mk hu
            clear hu
            go_wp2_with fail
            refine (wimpleref1_Above.calls kk (⟨#[15, 110, 111, 98, 111, 100, 121, 45, 105, 115, 45, 116, 104, 101, 114, 101, 0]⟩ : ByteArray) x.f0 true _ HK.out).mono ?_
            rintro e w7 ⟨rfl, hb7⟩
            have HBW7 := Aside0.mk (below_then HBW.out HBW.out.size hb7)
            clear hb7
            simp only
            go_wp2_with fail
            go_roundw
            case rel => exact ⟨i + 1, by omega, by rw [HU.out, List.length_append, HKJ.out]; go_num, by go_num, HBW7⟩
            case measure => simp [intOf]; omega
        · have hil : i = r.length := by omega
          have hju : (underS (r.take i)).length = (underS r).length := by rw [List.take_of_length_le (by omega)]
          rw [hju]
          subst hil
          clear hju
          have hul := under_le r
          have hku := keep_under r
          generalize hus : (underS r).length = us at *
          clear hus
          have hks : (keepS nob r).length ≤ us := hku
          have hd1 : decide ((r.length : Int) < (r.length : Int)) = false := decide_eq_false (by omega)
          have hd2 : decide (r.length < r.length) = false := decide_eq_false (by omega)
          have hle1 : decide (((keepS nob r).length : Int) ≤ (us : Int)) = true := decide_eq_true (by omega)
          have hle2 : decide ((keepS nob r).length ≤ us) = true := decide_eq_true hks
          have BMR := Aside0.mk (blk_below BMW.out HBW.out)
          have BAR := Aside0.mk (blk_below BAW.out HBW.out)
          have BBR := Aside0.mk (blk_below BBW.out HBW.out)
          have BCR := Aside0.mk (blk_below BCW.out HBW.out)
          have V19 := Aside0.mk (Kd.C_below W19.out HBW.out)
          have V20 := Aside0.mk (Kd.C_below W20.out HBW.out)
          have V21 := Aside0.mk (Kd.C_below W21.out HBW.out)
          have V22 := Aside0.mk (Kd.C_below W22.out HBW.out)
          have V39 := Aside0.mk (Kd.C_below W39.out HBW.out)
          have V40 := Aside0.mk (Kd.C_below W40.out HBW.out)
          have V41 := Aside0.mk (Kd.C_below W41.out HBW.out)
          have V42 := Aside0.mk (Kd.C_below W42.out HBW.out)
          have TR := Aside0.mk (below_then TW.out TW.out.size HBW.out)
          clear HBW W12 W19 W20 W21 W22 W39 W40 W41 W42 TW BMW BAW BBW BCW hku hks hul
          have aa0 : wr.cell? ⟨w2.heap.size, 0, none⟩ = some (.int .i64 h0) := (blk_cell BAR.out 0).trans rfl
          have aa1 : wr.cell? ⟨w2.heap.size, 1, none⟩ = some (.bool h1) := (blk_cell BAR.out 1).trans rfl
          have aa2 : wr.cell? ⟨w2.heap.size, 2, none⟩ = some (.int .i64 h2) := (blk_cell BAR.out 2).trans rfl
          have aa3 : wr.cell? ⟨w2.heap.size, 3, none⟩ = some (.bool h3) := (blk_cell BAR.out 3).trans rfl
          have aa4 : wr.cell? ⟨w2.heap.size, 4, none⟩ = some (.bool h4) := (blk_cell BAR.out 4).trans rfl
          have aa5 : wr.cell? ⟨w2.heap.size, 5, none⟩ = some (.bool h5) := (blk_cell BAR.out 5).trans rfl
          have aa6 : wr.cell? ⟨w2.heap.size, 6, none⟩ = some (.bool h6) := (blk_cell BAR.out 6).trans rfl
          have aa7 : wr.cell? ⟨w2.heap.size, 7, none⟩ = some (.int .i64 h7) := (blk_cell BAR.out 7).trans rfl
          have aa8 : wr.cell? ⟨w2.heap.size, 8, none⟩ = some (.int .i64 h8) := (blk_cell BAR.out 8).trans rfl
          have aa9 : wr.cell? ⟨w2.heap.size, 9, none⟩ = some (.slice A19 q.length c19) := (blk_cell BAR.out 9).trans rfl
          have aa10 : wr.cell? ⟨w2.heap.size, 10, none⟩ = some (.slice A20 a'.length c20) := (blk_cell BAR.out 10).trans rfl
          have aa11 : wr.cell? ⟨w2.heap.size, 11, none⟩ = some (.slice A21 n'.length c21) := (blk_cell BAR.out 11).trans rfl
          have aa12 : wr.cell? ⟨w2.heap.size, 12, none⟩ = some (.slice A22 r'.length c22) := (blk_cell BAR.out 12).trans rfl
          have cc0 : wr.cell? ⟨w6.heap.size, 0, none⟩ = some (.int .i64 h0) := (blk_cell BCR.out 0).trans rfl
          have cc1 : wr.cell? ⟨w6.heap.size, 1, none⟩ = some (.bool h1) := (blk_cell BCR.out 1).trans rfl
          have cc2 : wr.cell? ⟨w6.heap.size, 2, none⟩ = some (.int .i64 h2) := (blk_cell BCR.out 2).trans rfl
          have cc3 : wr.cell? ⟨w6.heap.size, 3, none⟩ = some (.bool h3) := (blk_cell BCR.out 3).trans rfl
          have cc4 : wr.cell? ⟨w6.heap.size, 4, none⟩ = some (.bool h4) := (blk_cell BCR.out 4).trans rfl
          have cc5 : wr.cell? ⟨w6.heap.size, 5, none⟩ = some (.bool h5) := (blk_cell BCR.out 5).trans rfl
          have cc6 : wr.cell? ⟨w6.heap.size, 6, none⟩ = some (.bool h6) := (blk_cell BCR.out 6).trans rfl
          have cc7 : wr.cell? ⟨w6.heap.size, 7, none⟩ = some (.int .i64 h7) := (blk_cell BCR.out 7).trans rfl
          have cc8 : wr.cell? ⟨w6.heap.size, 8, none⟩ = some (.int .i64 h8) := (blk_cell BCR.out 8).trans rfl
          have cc9 : wr.cell? ⟨w6.heap.size, 9, none⟩ = some (.slice A39 q.length c39) := (blk_cell BCR.out 9).trans rfl
          have cc10 : wr.cell? ⟨w6.heap.size, 10, none⟩ = some (.slice A40 a'.length c40) := (blk_cell BCR.out 10).trans rfl
          have cc11 : wr.cell? ⟨w6.heap.size, 11, none⟩ = some (.slice A41 n'.length c41) := (blk_cell BCR.out 11).trans rfl
          have cc12 : wr.cell? ⟨w6.heap.size, 12, none⟩ = some (.slice A42 r'.length c42) := (blk_cell BCR.out 12).trans rfl
          have m12 : wr.cell? ⟨w.heap.size, 12, none⟩ = some (.slice A12 r.length c12) := (blk_cell BMR.out 12).trans rfl
          go_wp2_with (first | (go_at_call 14; (refine (wimplelaw0_Num.calls 0 0 _ rfl).mono ?_); rintro e w' ⟨rfl, ⟨nd, rfl⟩⟩))
          obtain ⟨k5, hk5⟩ := (SameM_refl h0 h1 h2 h3 h4 h5 h6 h7 h8 q a' n' r' hq.out La.out Ln.out Lr.out).rounds
          refine (wimplelaw0_SameMsg.calls k5 h0 h1 h2 h3 h4 h5 h6 h7 h8 A19 c19 q A20 c20 a' A21 c21 n' A22 c22 r' h0 h1 h2 h3 h4 h5 h6 h7 h8 A39 c39 q A40 c40 a' A41 c41 n' A42 c42 r' true _ (Kd.C_drewN V19.out _) L19.out (Kd.C_drewN V20.out _) L20.out (Kd.C_drewN V21.out _) L21.out (Kd.C_drewN V22.out _) L22.out (Kd.C_drewN V39.out _) L39.out (Kd.C_drewN V40.out _) L40.out (Kd.C_drewN V41.out _) L41.out (Kd.C_drewN V42.out _) L42.out hk5).mono ?_
          clear hk5
          rintro e w8 ⟨rfl, hb8⟩
          have T8 := Aside0.mk (below_then (pw_below_drewN TR.out _) (pw_below_drewN TR.out _).size hb8)
          have BM8 := Aside0.mk (blk_below (blk_drewN BMR.out _) hb8)
          have BB8 := Aside0.mk (blk_below (blk_drewN BBR.out _) hb8)
          clear hb8 m12 V19 V20 V21 V22 V39 V40 V41 V42 BMR BAR BBR BCR TR aa0 cc0 aa1 cc1 aa2 cc2 aa3 cc3 aa4 cc4 aa5 cc5 aa6 cc6 aa7 cc7 aa8 cc8 aa9 cc9 aa10 cc10 aa11 cc11 aa12 cc12
          have m0 : w8.cell? ⟨w.heap.size, 0, none⟩ = some (.int .i64 h0) := (blk_cell BM8.out 0).trans rfl
          have m1 : w8.cell? ⟨w.heap.size, 1, none⟩ = some (.bool h1) := (blk_cell BM8.out 1).trans rfl
          have m2 : w8.cell? ⟨w.heap.size, 2, none⟩ = some (.int .i64 h2) := (blk_cell BM8.out 2).trans rfl
          have m3 : w8.cell? ⟨w.heap.size, 3, none⟩ = some (.bool h3) := (blk_cell BM8.out 3).trans rfl
          have m4 : w8.cell? ⟨w.heap.size, 4, none⟩ = some (.bool h4) := (blk_cell BM8.out 4).trans rfl
          have m5 : w8.cell? ⟨w.heap.size, 5, none⟩ = some (.bool h5) := (blk_cell BM8.out 5).trans rfl
          have m6 : w8.cell? ⟨w.heap.size, 6, none⟩ = some (.bool h6) := (blk_cell BM8.out 6).trans rfl
          have m7 : w8.cell? ⟨w.heap.size, 7, none⟩ = some (.int .i64 h7) := (blk_cell BM8.out 7).trans rfl
          have m8 : w8.cell? ⟨w.heap.size, 8, none⟩ = some (.int .i64 h8) := (blk_cell BM8.out 8).trans rfl
          have m9 : w8.cell? ⟨w.heap.size, 9, none⟩ = some (.slice A9 q.length c9) := (blk_cell BM8.out 9).trans rfl
          have m10 : w8.cell? ⟨w.heap.size, 10, none⟩ = some (.slice A10 a.length c10) := (blk_cell BM8.out 10).trans rfl
          have m11 : w8.cell? ⟨w.heap.size, 11, none⟩ = some (.slice A11 n.length c11) := (blk_cell BM8.out 11).trans rfl
          have m12 : w8.cell? ⟨w.heap.size, 12, none⟩ = some (.slice A12 r.length c12) := (blk_cell BM8.out 12).trans rfl
          have bb0 : w8.cell? ⟨w5.heap.size, 0, none⟩ = some (.int .i64 h0) := (blk_cell BB8.out 0).trans rfl
          have bb1 : w8.cell? ⟨w5.heap.size, 1, none⟩ = some (.bool h1) := (blk_cell BB8.out 1).trans rfl
          have bb2 : w8.cell? ⟨w5.heap.size, 2, none⟩ = some (.int .i64 h2) := (blk_cell BB8.out 2).trans rfl
          have bb3 : w8.cell? ⟨w5.heap.size, 3, none⟩ = some (.bool h3) := (blk_cell BB8.out 3).trans rfl
          have bb4 : w8.cell? ⟨w5.heap.size, 4, none⟩ = some (.bool h4) := (blk_cell BB8.out 4).trans rfl
          have bb5 : w8.cell? ⟨w5.heap.size, 5, none⟩ = some (.bool h5) := (blk_cell BB8.out 5).trans rfl
          have bb6 : w8.cell? ⟨w5.heap.size, 6, none⟩ = some (.bool h6) := (blk_cell BB8.out 6).trans rfl
          have bb7 : w8.cell? ⟨w5.heap.size, 7, none⟩ = some (.int .i64 h7) := (blk_cell BB8.out 7).trans rfl
          have bb8 : w8.cell? ⟨w5.heap.size, 8, none⟩ = some (.int .i64 h8) := (blk_cell BB8.out 8).trans rfl
          have bb9 : w8.cell? ⟨w5.heap.size, 9, none⟩ = some (.slice A29 q.length c29) := (blk_cell BB8.out 9).trans rfl
          have bb10 : w8.cell? ⟨w5.heap.size, 10, none⟩ = some (.slice A30 (keepS nob a).length c30) := (blk_cell BB8.out 10).trans rfl
          have bb11 : w8.cell? ⟨w5.heap.size, 11, none⟩ = some (.slice A31 (keepS nob n).length c31) := (blk_cell BB8.out 11).trans rfl
          have bb12 : w8.cell? ⟨w5.heap.size, 12, none⟩ = some (.slice A32 (keepS nob r).length c32) := (blk_cell BB8.out 12).trans rfl
          simp only
          go_wp2_with fail
          go_ret
          exact ⟨rfl, by repeat (first | exact T8.out | apply pw_below_drewN | apply below_drew1)⟩
end Go.Proofs.Ytimkafkiphfacaa.M
