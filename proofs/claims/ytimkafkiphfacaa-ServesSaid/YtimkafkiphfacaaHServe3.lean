/- serve.Wanting. -/
import Derived.Test.YtimkafkiphfacaaHServe2
import Derived.Deep.RegionHeld3
import Derived.Deep.RegionWith
set_option linter.unusedVariables false
set_option linter.unusedSimpArgs false
namespace Go.Proofs.Ytimkafkiphfacaa.M
open Go Go.RowKit Go.ChangeMaps Go.Proofs.YtimkafkiphfacaaW.PrintWords Go.Proofs.YtimkafkiphfacaaW.PrintLast Go.Proofs.YtimkafkiphfacaaW.PrintMore Go.Proofs.Ytimkafkiphfacaa.P

def cutB (bs : List S61) (h : ByteArray) : Bool := match bs with
  | [] => false
  | b :: _ => aboveS (B b.f0) (B h)
def want1 (bs : List S61) (h : ByteArray) : Bool := !(bs.any (hasB h)) && !(cutB bs h)
def wantS (hosts : List ByteArray) (bs : List S61) : List ByteArray := hosts.filter (want1 bs)
theorem want_next {hs : List ByteArray} {bs : List S61} {i : Nat} (h : i < hs.length) : wantS (hs.take (i + 1)) bs = wantS (hs.take i) bs ++ (if want1 bs hs[i] then [hs[i]] else []) := by
  unfold wantS
  rw [List.take_succ_eq_append_getElem h, List.filter_append]
  congr 1
  cases e : want1 bs hs[i] <;> simp [e]
theorem want_le (hs : List ByteArray) (bs : List S61) (i : Nat) (h : i ≤ hs.length) : (wantS (hs.take i) bs).length ≤ i := by
  have := List.length_filter_le (want1 bs) (hs.take i)
  rw [List.length_take] at this
  unfold wantS
  omega
theorem Above_calls (a b : ByteArray) (w : World) : Calls Try.prog 49 #[.string a, .string b] w fun e w' => e = .returned (.bool (aboveS (B a) (B b))) ∧ Below w.heap.size w w' := by
  obtain ⟨k, hk⟩ := Ev.rounds (Above_ev a b)
  exact rel_Above.calls k a b _ w hk
theorem aside_then {w w1 w2 : World} (h : Aside0 (Below w.heap.size w w1)) (k : Below w1.heap.size w1 w2) : Aside0 (Below w.heap.size w w2) := ⟨below_then h.out h.out.size k⟩
theorem aside_drew {w w1 : World} (h : Aside0 (Below w.heap.size w w1)) : Aside0 (Below w.heap.size w w1.drew) := ⟨below_drew h.out⟩
theorem drew_cell {w : World} {a : Addr} {v : Value} (h : w.cell? a = some v) : w.drew.cell? a = some v := h
theorem str_info : (Try.prog.info? 9).map (fun i => (i.zero, i.size, i.bytes)) = some (some (.string ⟨#[]⟩), 1, 16) := by kernel_rfl

set_option maxHeartbeats 4000000 in
set_option maxRecDepth 100000 in
theorem Wanting_calls (w : World) (A : Option Addr) (c : Nat) (hs : List ByteArray) (A2 : Option Addr) (c2 : Nat) (bs : List S61) (hh : Kd.C Kd.string w A hs.length hs) (hc : hs.length ≤ c) (hx : Kd.C k61 w A2 bs.length bs) (hc2 : bs.length ≤ c2) (hl : hs.length ≤ 8796093021952) : Calls Try.prog 24 #[.slice A hs.length c, .slice A2 bs.length c2] w fun e w' => ∃ v, e = .returned v ∧ Kd.R Kd.string 9 w' w.heap.size (fun _ => True) v (wantS hs bs) ∧ Below w.heap.size w w' := by
  have H := Aside0.mk hh
  have HX := Aside0.mk hx
  have T0 := Aside0.mk (Below.refl w.heap.size w)
  clear hh hx
  go_enter Try.func24, Try.ntmps24
  go_wp2_with fail
  go_loopw [5, 11] (fun v5 v11 wr => ∃ i : Nat, i ≤ hs.length ∧ v11 = .int .i64 i ∧ Aside0 (Kd.R Kd.string 9 wr w.heap.size (fun _ => True) v5 (wantS (hs.take i) bs)) ∧ Aside0 (Below w.heap.size w wr)) (fun _ v11 _ => hs.length - (intOf v11).toNat)
  case atStart => exact ⟨0, Nat.zero_le _, rfl, ⟨Kd.R_nil _ _ _ _ _⟩, T0⟩
  case round =>
    obtain ⟨i, hi, rfl, HO, HT⟩ := hrel
    by_cases hlt : i < hs.length
    · have hd1 : decide ((i : Int) < (hs.length : Int)) = true := decide_eq_true (by omega)
      have hd2 : decide (i < hs.length) = true := decide_eq_true hlt
      obtain ⟨ad, rfl, hc0⟩ := Kd.at_string (Kd.C_below H.out HT.out) (i : Int) (by omega) (by omega)
      simp only [Int.toNat_natCast] at hc0
      have hx : rdOf ByteArray.empty hs (i : Int) = hs[i] := by simp [rdOf, List.getD_eq_getElem?_getD, List.getElem?_eq_getElem hlt]
      rw [hx] at hc0
      clear hx
      obtain ⟨x, hx⟩ : ∃ x, hs[i] = x := ⟨_, rfl⟩
      have HN : Aside0 (wantS (hs.take (i + 1)) bs = wantS (hs.take i) bs ++ (if want1 bs x then [x] else [])) := ⟨by rw [← hx]; exact want_next hlt⟩
      have HL : Aside0 ((wantS (hs.take i) bs).length ≤ i) := ⟨want_le hs bs i hi⟩
      rw [hx] at hc0
      clear hx
      generalize wantS (hs.take i) bs = out at *
      go_wp2_with fail
      refine (Contains_calls _ A2 c2 bs x wr.heap.size (Kd.C_alloc (Kd.C_below HX.out HT.out) _) hc2 (blk_new wr _)).mono ?_
      rintro e w2 ⟨rfl, hb⟩
      have B2 : Below wr.heap.size wr w2 := below_then (below_alloc (Below.refl wr.heap.size wr) _) (below_alloc (Below.refl wr.heap.size wr) _).size hb
      have G2 := Aside0.mk (blk_below (blk_new wr (.cells #[.string x] 9)) hb)
      have O2 := Aside0.mk (Kd.R_below HO.out B2)
      have T2 := Aside0.mk (below_then HT.out HT.out.size B2)
      have X2 := Aside0.mk (Kd.C_below HX.out T2.out)
      have S2 : Aside0 (w.heap.size ≤ w2.heap.size) := ⟨T2.out.size⟩
      have hl1 : out.length ≤ 8796093021952 := by have := HL.out; omega
      have cx : w2.cell? ⟨wr.heap.size, 0, none⟩ = some (.string x) := (blk_cell G2.out 0).trans rfl
      clear hb B2 hc0 HO HL
      simp only
      cases hany : bs.any (hasB x) with
      | true =>
        have HE : Aside0 (want1 bs x = false) := ⟨by simp [want1, hany]⟩
        clear hany
        go_wp2_with fail
        repeat (go_quiet (fail); try go_wp2)
        go_roundw
        case rel => exact ⟨i + 1, by omega, by go_num, by rw [HN.out, HE.out, if_neg (by simp), List.append_nil]; exact ⟨Kd.R_drewN O2.out _⟩, ⟨pw_below_drewN T2.out _⟩⟩
        case measure => simp [intOf]; omega
      | false =>
        by_cases hz : bs.length = 0
        · have HE : Aside0 (want1 bs x = true) := ⟨by
            have : bs = [] := List.eq_nil_of_length_eq_zero hz
            subst this
            rfl⟩
          have hz1 : decide ((bs.length : Int) = 0) = true := decide_eq_true (by omega)
          have hz2 : ((bs.length : Int) == 0) = true := beq_iff_eq.2 (by omega)
          clear hany hz
          go_wp2_with fail
          go_quiet (fail)
          simp only [Exit.then]
          have cx2 : (w2.drewN nq).cell? ⟨wr.heap.size, 0, none⟩ = some (.string x) := cx
          have O3 := Aside0.mk (Kd.R_drewN O2.out nq)
          have S3 : Aside0 (w.heap.size ≤ (w2.drewN nq).heap.size) := ⟨S2.out⟩
          have T3 := Aside0.mk (pw_below_drewN T2.out nq)
          generalize w2.drewN nq = w3 at *
          go_wp2_with ((with_reducible refine gate_builtin (b := .append) (xs := #[.tmp 34, .tmp 36]) rfl ?_); at_builtin; refine Kd.R_append Kd.string (w0 := w3) w.heap.size rfl (.tmp 34) (.tmp 36) 47 9 (.string ⟨#[]⟩) 16 rfl Try.underlying47 str_info rfl (by decide) (by omega) u5 out x [.string x] (fun _ => True) (fun _ => False) rfl rfl rfl (fun _ hk => hk.elim) (fun _ _ => trivial) O3.out (Below.refl _ _) S3.out (by have : Kd.string.sz = 1 := rfl; omega) ?_; intro v1 w5 ho hb hg hat; have O5 := Aside0.mk ho; have HB5 := Aside0.mk hb; clear ho hb hg hat)
          go_roundw
          case rel => exact ⟨i + 1, by omega, by go_num, by rw [HN.out, HE.out, if_pos rfl]; exact O5, ⟨T3.out.trans HB5.out⟩⟩
          case measure => simp [intOf]; omega
        · have hz1 : decide ((bs.length : Int) = 0) = false := decide_eq_false (by omega)
          have hz2 : ((bs.length : Int) == 0) = false := beq_eq_false_iff_ne.2 (by omega)
          have hz3 : (0 : Int) < (bs.length : Int) := by omega
          have hz4 : 0 < bs.length := by omega
          have hz5 : (0 < bs.length) = True := eq_true hz4
          obtain ⟨a2, rfl, hb0, hb1, hb2, hb3, hb4⟩ := at_T61 X2.out 0 (by omega) hz3
          rw [show rd_T61 bs 0 = bs[0]'(by omega) from rd61 (i := 0) (by omega), show (Int.toNat 0 * 5) = 0 from rfl, show a2.add 0 = a2 from by cases a2; rfl] at hb0
          obtain ⟨b, hb⟩ : ∃ b, bs[0]'(by omega) = b := ⟨_, rfl⟩
          rw [hb] at hb0
          have HE : Aside0 (want1 bs x = !aboveS (B b.f0) (B x)) := ⟨by
            unfold want1
            rw [hany]
            cases bs with
            | nil => simp at hz3
            | cons q r => simp at hb; subst hb; simp [cutB]⟩
          clear hb1 hb2 hb3 hb4 hany hz hb
          go_wp2_with fail
          have R0 := Aside0.mk (Below.refl w2.heap.size w2)
          rcases hab : aboveS (B b.f0) (B x) with _ | _ <;> rw [hab] at HE <;> go_region_held3 (fun w' => w'.cell? a2 = some (.string b.f0) ∧ w'.cell? ⟨wr.heap.size, 0, none⟩ = some (.string x) ∧ Aside0 (Below w2.heap.size w2 w'))
            (first
              | ((try dsimp only); (repeat' apply And.intro) <;> (first | exact drew_cell (by assumption) | exact aside_drew (by assumption)))
              | ((try dsimp only at *); go_split_ands; (repeat' apply And.intro) <;> (first | exact pw_cell_below hb (by assumption) | exact aside_then (by assumption) hb)))
            (first | (go_at_call 49; refine (Above_calls b.f0 x _).mono ?_; rintro e w3 ⟨rfl, hb⟩; rw [hab]))
          · have BH : Aside0 (Below w2.heap.size w2 w3) := by (try dsimp only at *); go_split_ands; assumption
            have cx3 : w3.cell? ⟨wr.heap.size, 0, none⟩ = some (.string x) := (blk_cell (blk_below G2.out BH.out) 0).trans rfl
            have O3 := Aside0.mk (Kd.R_below O2.out BH.out)
            have T3 := Aside0.mk (below_then T2.out T2.out.size BH.out)
            have S3 : Aside0 (w.heap.size ≤ w3.heap.size) := ⟨T3.out.size⟩
            clear BH hb cx hb0 hz1 hz2 hz3 hz4 hz5 R0
            simp only [Exit.then]
            go_wp2_with ((with_reducible refine gate_builtin (b := .append) (xs := #[.tmp 34, .tmp 36]) rfl ?_); at_builtin; refine Kd.R_append Kd.string (w0 := w3) w.heap.size rfl (.tmp 34) (.tmp 36) 47 9 (.string ⟨#[]⟩) 16 rfl Try.underlying47 str_info rfl (by decide) (by omega) u5 out x [.string x] (fun _ => True) (fun _ => False) rfl rfl rfl (fun _ hk => hk.elim) (fun _ _ => trivial) O3.out (Below.refl _ _) S3.out (by have : Kd.string.sz = 1 := rfl; omega) ?_; intro v1 w5 ho hb hg hat; have O5 := Aside0.mk ho; have HB5 := Aside0.mk hb; clear ho hb hg hat)
            go_roundw
            case rel => exact ⟨i + 1, by omega, by go_num, by rw [HN.out, HE.out, if_pos (show (!false) = true from rfl)]; exact O5, ⟨T3.out.trans HB5.out⟩⟩
            case measure => simp [intOf]; omega
          · have BH : Aside0 (Below w2.heap.size w2 w3) := by (try dsimp only at *); go_split_ands; assumption
            have O3 := Aside0.mk (Kd.R_below O2.out BH.out)
            have T3 := Aside0.mk (below_then T2.out T2.out.size BH.out)
            clear BH hb cx hb0 hz1 hz2 hz3 hz4 hz5 R0
            simp only [Exit.then]
            go_wp2_with fail
            go_roundw
            case rel => exact ⟨i + 1, by omega, by go_num, by rw [HN.out, HE.out, if_neg (by simp), List.append_nil]; exact O3, T3⟩
            case measure => simp [intOf]; omega
    · obtain rfl : i = hs.length := by omega
      have hd1 : decide ((hs.length : Int) < (hs.length : Int)) = false := decide_eq_false (by omega)
      have hd2 : decide (hs.length < hs.length) = false := decide_eq_false (by omega)
      rw [List.take_length] at HO
      go_wp2_with fail
      go_ret
      exact ⟨_, rfl, HO.out, HT.out⟩
end Go.Proofs.Ytimkafkiphfacaa.M
