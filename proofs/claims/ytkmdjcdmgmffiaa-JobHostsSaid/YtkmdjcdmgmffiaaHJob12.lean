/- JobHosts: a host was tried just if it was asked of before. -/
import Derived.Test.YtkmdjcdmgmffiaaHJob10
import Derived.Test.YtkmdjcdmgmffiaaSRel
import Derived.Test.YtkmdjcdmgmffiaaPx7
set_option linter.unusedVariables false
set_option linter.unusedSimpArgs false
namespace Go.Proofs.Ytkmdjcdmgmffiaa.M
open Go Go.RowKit Go.ChangeMaps Go.Proofs.YtkmdjcdmgmffiaaW.PrintWords Go.Proofs.YtkmdjcdmgmffiaaW.PrintLast Go.Proofs.YtkmdjcdmgmffiaaW.PrintMore Go.Proofs.Ytkmdjcdmgmffiaa.P

def mayS (h : ByteArray) : Bool := (nm (B h)).isSome
/-- The folded names of the hosts that were asked of, the last one first. -/
def seenOf (hs : List ByteArray) : List (List UInt8) := ((hs.filter mayS).map (fun h => fold (B h))).reverse
theorem seen_next {hs : List ByteArray} {i : Nat} (h : i < hs.length) : seenOf (hs.take (i + 1)) = (if mayS hs[i] then [fold (B hs[i])] else []) ++ seenOf (hs.take i) := by
  unfold seenOf
  rw [List.take_succ_eq_append_getElem h, List.filter_append, List.map_append, List.reverse_append]
  congr 1
  cases e : mayS hs[i] <;> simp [e]
theorem seen_le (hs : List ByteArray) (i : Nat) : (seenOf (hs.take i)).length ≤ i := by
  have h1 := List.length_filter_le mayS (hs.take i)
  rw [List.length_take] at h1
  unfold seenOf
  rw [List.length_reverse, List.length_map]
  omega
theorem same_iff {a x : ByteArray} (hx : mayS x = true) : sameS (B a) (B x) = true ↔ mayS a = true ∧ fold (B a) = fold (B x) := by
  unfold mayS at *
  cases hb : nm (B x) with
  | none => rw [hb] at hx; cases hx
  | some y =>
    cases ha : nm (B a) with
    | none => rw [sameS_left ha]; simp
    | some z =>
      rw [sameS_some ha hb, decide_eq_true_eq, ← fold_inj ha hb]
      simp
theorem seen_before (l : List ByteArray) (x : ByteArray) (hx : mayS x = true) : l.any (fun a => sameS (B a) (B x)) = decide (fold (B x) ∈ seenOf l) := by
  rw [Bool.eq_iff_iff, List.any_eq_true, decide_eq_true_eq]
  unfold seenOf
  simp only [List.mem_reverse, List.mem_map, List.mem_filter]
  constructor
  · rintro ⟨a, ha, hs⟩
    obtain ⟨h1, h2⟩ := (same_iff hx).1 hs
    exact ⟨a, ⟨ha, h1⟩, h2⟩
  · rintro ⟨a, ⟨ha, h1⟩, h2⟩
    exact ⟨a, ha, (same_iff hx).2 ⟨h1, h2⟩⟩
theorem fold_size (x : ByteArray) (hx : mayS x = true) : (mkB (fold (B x))).size ≤ 1000000 := by
  unfold mayS at hx
  cases h : nm (B x) with
  | none => rw [h] at hx; cases hx
  | some y =>
    rw [sz_mk, fold_length h]
    have := (nm_some.1 h).2.2
    omega
theorem rMay_calls (a : ByteArray) (w : World) : Calls Try.prog 18 #[.string a] w fun e w' => e = .returned (.bool (mayS a)) ∧ Below w.heap.size w w' := by
  obtain ⟨k, hk⟩ := Ev.rounds (refMay_ev a)
  exact wimpleref1_May.calls k a _ w hk
theorem rSame_calls (a b : ByteArray) (w : World) : Calls Try.prog 19 #[.string a, .string b] w fun e w' => e = .returned (.bool (sameS (B a) (B b))) ∧ Below w.heap.size w w' := by
  obtain ⟨k, hk⟩ := Ev.rounds (refSame_ev a b)
  exact wimpleref1_Same.calls k a b _ w hk
theorem fold_calls (a : ByteArray) : ∃ k, rel_Fold.f k a = some (mkB (fold (B a))) := Ev.rounds (Fold_ev a)
set_option maxHeartbeats 4000000 in
set_option maxRecDepth 100000 in
theorem hosts_walk (w : World) (A : Option Addr) (c : Nat) (hs : List ByteArray) (hh : Kd.C Kd.string w A hs.length hs) (hc : hs.length ≤ c) : Calls Try.prog 6 #[.slice A hs.length c] w fun e w' => e = .returned (.bool true) ∧ Below w.heap.size w w' := by
  have H := Aside0.mk hh
  clear hh
  go_enter Try.func6, Try.ntmps6
  go_wp2_with fail
  refine (awake_calls w).mono ?_
  rintro e w1 ⟨rfl, hb1⟩
  have B1 := Aside0.mk hb1
  clear hb1
  simp only
  go_wp2_with fail
  refine (wimplelaw23_Plain.calls _ _ _ _ _ _ _ _ _ _ _ w1 rfl).mono ?_
  rintro e w2 ⟨v0, v10, rfl, R43, R10, hb2⟩
  have R43' := Aside0.mk R43
  have R10' := Aside0.mk R10
  have B2 := Aside0.mk (below_then B1.out B1.out.size hb2)
  clear R43 R10 hb2 B1
  simp only
  go_wp2_with fail
  have hnew := new_plain R43'.out R10'.out w2 (Below.refl _ _) 20 2 3 1 1 ⟨#[0]⟩ ⟨⟨#[0]⟩, 1, ⟨#[0]⟩, ⟨#[0]⟩, 0, false, 0, 0⟩ (by omega) (by omega) (by omega) (by omega) (fun _ => True) (fun _ _ => trivial) task_0
  unfold cfg at hnew
  refine hnew.mono ?_
  rintro e w3 ⟨⟨g, v, m, rfl, hJ⟩, hb⟩
  have J3 := Aside0.mk (hJ.lower B2.out.size)
  have B3 := Aside0.mk (below_then B2.out B2.out.size hb)
  clear hJ hb hnew B2 R43' R10'
  simp only
  go_wp2_with fail
  go_loopw [5, 6, 7] (fun v5 v6 v7 wr => ∃ i : Nat, i ≤ hs.length ∧ i ≤ 40 ∧ v5 = .int .i64 i ∧ Aside0 (∃ n, n ≤ i ∧ JobAt wr w.heap.size (fun _ => True) g 1 [⟨⟨#[0]⟩, 1, ⟨#[0]⟩, ⟨#[0]⟩, 0, false, 0, 0⟩] 2 3 20 n (seenOf (hs.take i)) v m) ∧ Aside0 (Below w.heap.size w wr)) (fun v5 _ _ _ => hs.length - (intOf v5).toNat)
  case atStart => exact ⟨0, Nat.zero_le _, by omega, rfl, ⟨0, Nat.le_refl _, by simpa [seenOf] using J3.out⟩, B3⟩
  case round =>
    obtain ⟨i, hi, hi40, rfl, HJ, HB⟩ := hrel
    clear J3 B3
    by_cases hlt : i < hs.length ∧ i < 40
    · have hd1 : decide ((i : Int) < (hs.length : Int)) = true := decide_eq_true (by omega)
      have hd2 : decide (i < hs.length) = true := decide_eq_true hlt.1
      have hd3 : decide ((i : Int) < 40) = true := decide_eq_true (by omega)
      have hd4 : ((i : Int) < 40) = True := eq_true (by omega)
      obtain ⟨ad, rfl, hc0⟩ := Kd.at_string (Kd.C_below H.out HB.out) (i : Int) (by omega) (by omega)
      simp only [Int.toNat_natCast] at hc0
      have hx : rdOf ByteArray.empty hs (i : Int) = hs[i] := by simp [rdOf, List.getD_eq_getElem?_getD, List.getElem?_eq_getElem hlt.1]
      rw [hx] at hc0
      clear hx
      obtain ⟨x, hx⟩ : ∃ x, hs[i] = x := ⟨_, rfl⟩
      have HN := Aside0.mk (seen_next hlt.1)
      rw [hx] at hc0 HN
      have HX := Aside0.mk hx
      clear hx
      go_wp2_with fail
      refine (rMay_calls x wr).mono ?_
      rintro e w4 ⟨rfl, hb⟩
      obtain ⟨n, hn, hj⟩ := HJ.out
      have J4 := Aside0.mk (hj.below hb)
      have B4 := Aside0.mk (below_then HB.out HB.out.size hb)
      have c4 : w4.cell? (ad.add i) = some (.string x) := pw_cell_below hb hc0
      clear hb HJ HB hj hc0
      simp only
      cases hm : mayS x with
      | false =>
        go_wp2_with fail
        go_roundw
        case rel => exact ⟨i + 1, by omega, by omega, by go_num, ⟨n, by omega, by rw [HN.out, hm, if_neg (by simp), List.nil_append]; exact J4.out⟩, B4⟩
        case measure => simp [intOf]; omega
      | true =>
        go_wp2_with fail
        have HM := Aside0.mk hm
        clear hm
        go_loopw [6, 7] (fun v6 v7 wr => ∃ k : Nat, k ≤ i ∧ v7 = .int .i64 k ∧ v6 = .bool ((hs.take k).any (fun a => sameS (B a) (B x))) ∧ Aside0 (JobAt wr w.heap.size (fun _ => True) g 1 [⟨⟨#[0]⟩, 1, ⟨#[0]⟩, ⟨#[0]⟩, 0, false, 0, 0⟩] 2 3 20 n (seenOf (hs.take i)) v m) ∧ Aside0 (Below w.heap.size w wr)) (fun _ v7 _ => i - (intOf v7).toNat)
        case atStart => exact ⟨0, Nat.zero_le _, rfl, by simp, J4, B4⟩
        case round =>
          obtain ⟨k, hk, rfl, rfl, HJ, HB⟩ := hrel
          clear J4 B4 c4
          by_cases hlk : k < i
          · have hk1 : decide ((k : Int) < (i : Int)) = true := decide_eq_true (by omega)
            have hk2 : decide (k < i) = true := decide_eq_true hlk
            obtain ⟨ad2, e2, hck⟩ := Kd.at_string (Kd.C_below H.out HB.out) (k : Int) (by omega) (by omega)
            obtain ⟨ad3, e3, hci⟩ := Kd.at_string (Kd.C_below H.out HB.out) (i : Int) (by omega) (by omega)
            injection e2 with e2
            injection e3 with e3
            subst e2 e3
            simp only [Int.toNat_natCast] at hck hci
            have hx : rdOf ByteArray.empty hs (i : Int) = x := by rw [← HX.out]; simp [rdOf, List.getD_eq_getElem?_getD, List.getElem?_eq_getElem hlt.1]
            have hlk2 : k < hs.length := by omega
            have hy : rdOf ByteArray.empty hs (k : Int) = hs[k] := by simp [rdOf, List.getD_eq_getElem?_getD, List.getElem?_eq_getElem hlk2]
            rw [hx] at hci
            rw [hy] at hck
            have HA : Aside0 ((hs.take (k + 1)).any (fun a => sameS (B a) (B x)) = ((hs.take k).any (fun a => sameS (B a) (B x)) || sameS (B hs[k]) (B x))) := ⟨by rw [List.take_succ_eq_append_getElem hlk2, List.any_append]; simp⟩
            clear hx hy
            generalize hs[k] = y at *
            generalize (hs.take k).any (fun a => sameS (B a) (B x)) = bb at *
            cases bb with
            | true =>
              go_wp2_with fail
              go_quiet (fail)
              (try simp only [Exit.then])
              go_wp2_with fail
              go_roundw
              case rel => exact ⟨k + 1, by omega, by go_num, by rw [HA.out]; rfl, ⟨HJ.out.below (pw_below_drewN (Below.refl _ _) _)⟩, ⟨pw_below_drewN HB.out _⟩⟩
              case measure => simp [intOf]; omega
            | false =>
              have hcall := Aside0.mk (rSame_calls y x)
              go_wp2_with fail
              go_region_held3 (fun w' => w'.cell? (ad.add k) = some (.string y) ∧ w'.cell? (ad.add i) = some (.string x))
                (first
                  | ((try dsimp only); (repeat' apply And.intro) <;> exact drew_cell (by assumption))
                  | ((try dsimp only at *); go_split_ands; (repeat' apply And.intro) <;> exact pw_cell_below hb (by assumption)))
                ((go_at_call 19; refine (hcall.out _).mono ?_; rintro e w5 ⟨rfl, hb⟩; have J5 := Aside0.mk ((HJ.out.below (below_drew (Below.refl _ _))).below hb); have B5 := Aside0.mk (below_then (below_drew HB.out) (below_drew HB.out).size hb)))
              all_goals
                (try simp only [Exit.then])
                go_wp2_with fail
                go_roundw
                case rel => exact ⟨k + 1, by omega, by go_num, by rw [HA.out]; simp, J5, B5⟩
                case measure => simp [intOf]; omega
          · have hki : k = i := by omega
            subst hki
            have hk1 : decide ((k : Int) < (k : Int)) = false := decide_eq_false (by omega)
            obtain ⟨ad3, e3, hci⟩ := Kd.at_string (Kd.C_below H.out HB.out) (k : Int) (by omega) (by omega)
            injection e3 with e3
            subst e3
            simp only [Int.toNat_natCast] at hci
            have hx : rdOf ByteArray.empty hs (k : Int) = x := by rw [← HX.out]; simp [rdOf, List.getD_eq_getElem?_getD, List.getElem?_eq_getElem hlt.1]
            rw [hx] at hci
            have HB0 := Aside0.mk (seen_before (hs.take k) x HM.out)
            obtain ⟨kf, hkf⟩ := fold_calls x
            have hT := Tried_calls HJ.out (by omega) x (mkB (fold (B x))) kf hkf (fold_size x HM.out)
            rw [show (mkB (fold (B x))).data.toList = fold (B x) from B_mk _, ← HB0.out] at hT
            clear hx
            go_wp2_with fail
            refine hT.mono ?_
            rintro e w5 ⟨rfl, hJ, hb, hkp⟩
            have J5 := Aside0.mk hJ
            have B5 := Aside0.mk (HB.out.trans hb)
            clear hJ hb hkp hT HJ HB
            generalize (hs.take k).any (fun a => sameS (B a) (B x)) = bb at *
            simp only
            go_wp2_with fail
            go_roundw
            case rel => exact ⟨k + 1, by omega, by omega, by go_num, ⟨n + 1, by omega, by rw [HN.out, HM.out, if_pos rfl]; exact J5.out⟩, B5⟩
            case measure => simp [intOf]; omega
    · by_cases h1 : i < hs.length
      · have hd1 : decide ((i : Int) < (hs.length : Int)) = true := decide_eq_true (by omega)
        have hd2 : decide (i < hs.length) = true := decide_eq_true h1
        have hd3 : decide ((i : Int) < 40) = false := decide_eq_false (by omega)
        have hd4 : ((i : Int) < 40) = False := eq_false (by omega)
        have hd5 : ((i : Int) < (hs.length : Int)) = True := eq_true (by omega)
        go_wp2_with fail
        refine (wimplelaw0_Num.calls 0 0 _ rfl).mono ?_
        rintro e w4 ⟨rfl, ⟨nd4, rfl⟩⟩
        simp only
        go_wp2_with fail
        go_ret
        exact ⟨rfl, pw_below_drewN HB.out _⟩
      · have hd1 : decide ((i : Int) < (hs.length : Int)) = false := decide_eq_false (by omega)
        have hd2 : decide (i < hs.length) = false := decide_eq_false h1
        have hd5 : ((i : Int) < (hs.length : Int)) = False := eq_false (by omega)
        go_wp2_with fail
        refine (wimplelaw0_Num.calls 0 0 _ rfl).mono ?_
        rintro e w4 ⟨rfl, ⟨nd4, rfl⟩⟩
        simp only
        go_wp2_with fail
        go_ret
        exact ⟨rfl, pw_below_drewN HB.out _⟩
end Go.Proofs.Ytkmdjcdmgmffiaa.M
