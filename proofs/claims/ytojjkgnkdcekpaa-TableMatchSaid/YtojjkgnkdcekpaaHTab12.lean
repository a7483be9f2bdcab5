/- TableMatch: a reply is taken just if all is what was asked. -/
import Derived.Test.YtojjkgnkdcekpaaHTab11
import Derived.Test.YtojjkgnkdcekpaaPx2
import Derived.Deep.Cut
set_option linter.unusedVariables false
set_option linter.unusedSimpArgs false
namespace Go.Proofs.Ytojjkgnkdcekpaa.M
open Go Go.RowKit Go.ChangeMaps Go.Proofs.YtojjkgnkdcekpaaW.PrintWords Go.Proofs.YtojjkgnkdcekpaaW.PrintLast Go.Proofs.YtojjkgnkdcekpaaW.PrintMore Go.Proofs.Ytojjkgnkdcekpaa.P

attribute [local go_sem high] eqA35   -- for this text's walks alone
theorem ym {α : Type} (f : Bool → α) (g : Option Value → α) : Go.yielded.match_1 (motive := fun _ => α) (some undef) f g = g (some undef) := rfl
attribute [local go_sem high] ym   -- for this text's walks alone
theorem eqX (d : Nat) (w : World) : (Op.equalIn (d + 3) 35 (.agg #[.int .i64 3, .int .i64 5, .int .i64 7, .string ⟨#[0]⟩, .string ⟨#[1, 97, 0]⟩, .string ⟨#[1, 97, 0]⟩, .int .i64 1, .int .i64 9]) (.agg #[.int .i64 3, .int .i64 5, .int .i64 7, .string ⟨#[0]⟩, .string ⟨#[1, 97, 0]⟩, .string ⟨#[1, 97, 0]⟩, .int .i64 1, .int .i64 9])).run Try.prog w = .ok true w := by
  rw [eqA35]; simp
attribute [local go_sem 100000] eqX   -- for this text's walks alone
def bA (b : Bool) : ByteArray := if b then ⟨#[1, 98, 0]⟩ else ⟨#[1, 65, 0]⟩
/-- The world at the cuts: the table, the question's box. -/
structure AtQ (w0 w : World) (g m qb : Nat) (v : Value) (nm : ByteArray) (t cl : Int) : Prop where
  tab : TabAt w w0.heap.size (fun k => k ≠ qb) g 4 [akd 3 5 7 9] 1 (cntA [akd 3 5 7 9]) v m
  box : w.heap[qb]? = some (.cells #[.string nm, .int .i64 t, .int .i64 cl] 37 (0, 0))
  bel : Below w0.heap.size w0 w
  lo : w0.heap.size ≤ qb
theorem AtQ.put {w0 w : World} {g m qb : Nat} {v : Value} {nm nm' : ByteArray} {t t' cl cl' : Int} (h : AtQ w0 w g m qb v nm t cl) (i : Nat) (u : Value) (hu : (w.setCell ⟨qb, i, none⟩ u).heap[qb]? = some (.cells #[.string nm', .int .i64 t', .int .i64 cl'] 37 (0, 0))) : AtQ w0 (w.setCell ⟨qb, i, none⟩ u) g m qb v nm' t' cl' :=
  ⟨TabAt.kept h.tab ((Kept.refl w (fun k => k = qb)).setCell (p := ⟨qb, i, none⟩) (Or.inl rfl) u) (fun k hk e => hk e), hu, h.bel.setCell (p := ⟨qb, i, none⟩) h.lo u, h.lo⟩
theorem keyQ_AB_good (a d t : Int) (b : Bool) (ha : -9223372036854775808 ≤ a ∧ a ≤ 9223372036854775807) (hd : -9223372036854775808 ≤ d ∧ d ≤ 9223372036854775807) (ht : -9223372036854775808 ≤ t ∧ t ≤ 9223372036854775807) : (keyQ a d (bA b) t).Good := by
  refine ⟨wf_small _ ha, wf_small _ hd, ?_, wf_small _ ht⟩
  show (mkB (fold (B (bA b)))).size ≤ maxLen
  cases b
  · show (mkB (fold (B ⟨#[1, 65, 0]⟩))).size ≤ maxLen
    rw [fold_A]; decide
  · show (mkB (fold (B ⟨#[1, 98, 0]⟩))).size ≤ maxLen
    rw [fold_b]; decide
theorem mis (z a d t cl : Int) (nm : ByteArray) (hz : 0 ≤ z ∧ z ≤ 7) (b1 b2 b3 b4 b5 : Bool) (ha : a = if b1 then wrap64 (8 + z) else 7) (hd : d = if b2 then wrap64 (6 + z) else 5) (hn : nm = bA b3) (ht : t = if b4 then wrap64 (2 + z) else 1) (hc : cl = if b5 then wrap64 (2 + z) else 1) (hf : (!b1 && !b2 && !b3 && !b4 && !b5) = false) : (keyQ a d nm t).Good ∧ (cl ≠ 1 ∨ ∀ x ∈ [akd 3 5 7 9], isK (keyQ a d nm t) x = false) := by
  have w8 : wrap64 (8 + z) = 8 + z := IntWalk.wrap64_in _ (by omega)
  have w6 : wrap64 (6 + z) = 6 + z := IntWalk.wrap64_in _ (by omega)
  have w2 : wrap64 (2 + z) = 2 + z := IntWalk.wrap64_in _ (by omega)
  rw [w8] at ha
  rw [w6] at hd
  rw [w2] at ht hc
  have a1 : 7 ≤ a ∧ a ≤ 15 := by rw [ha]; split <;> omega
  have d1 : 5 ≤ d ∧ d ≤ 13 := by rw [hd]; split <;> omega
  have t1 : 1 ≤ t ∧ t ≤ 9 := by rw [ht]; split <;> omega
  refine ⟨by rw [hn]; exact keyQ_AB_good a d t b3 (by omega) (by omega) (by omega), ?_⟩
  by_cases h5 : b5 = true
  · left; rw [hc, if_pos h5]; omega
  · right
    intro x hx
    simp only [List.mem_singleton] at hx
    subst hx
    rw [Bool.eq_false_iff]
    intro h
    have h := isK_true.1 h
    rw [key_akd] at h
    unfold KA keyQ at h
    injection h with g1 g2 g3 g4
    have n1 : b1 = false := by cases b1; rfl; exfalso; rw [if_pos rfl] at ha; omega
    have n2 : b2 = false := by cases b2; rfl; exfalso; rw [if_pos rfl] at hd; omega
    have n4 : b4 = false := by cases b4; rfl; exfalso; rw [if_pos rfl] at ht; omega
    have n3 : b3 = false := by
      cases b3
      · rfl
      · exfalso
        rw [hn, show bA true = ⟨#[1, 98, 0]⟩ from rfl, fold_b] at g3
        exact absurd g3 (by decide)
    have n5 : b5 = false := by simpa using h5
    rw [n1, n2, n3, n4, n5] at hf
    cases hf
set_option maxHeartbeats 40000000 in
set_option maxRecDepth 100000 in
theorem match_walk (w : World) (wr_ c : Int) : Calls Try.prog 6 #[.int .i64 wr_, .int .i64 c] w fun e w' => e = .returned (.bool true) ∧ Below w.heap.size w w' := by
  go_enter Try.func6, Try.ntmps6
  (try simp only [List.append_eq, List.cons_append, List.nil_append])
  go_wp2_with fail
  refine (awake_calls w).mono ?_
  rintro e w1 ⟨rfl, hb⟩
  have B1 := Aside0.mk hb
  clear hb
  simp only
  go_wp2_with fail
  refine (newC w1 4 (by omega) (fun _ => True) (fun _ _ => trivial)).mono ?_
  rintro e w2 ⟨⟨g, m, rfl, hT⟩, hb⟩
  have T2 := Aside0.mk (hT.lower B1.out.size)
  have B2 := Aside0.mk (below_nx B1.out hb)
  clear hT hb B1
  simp only
  go_wp2_with fail
  refine (asked_calls 3 5 7 9 w2).mono ?_
  rintro e w4 ⟨rfl, hb⟩
  have T4 := Aside0.mk (T2.out.below hb)
  have B4 := Aside0.mk (below_nx B2.out hb)
  clear hb T2 B2
  simp only
  go_wp2_with fail
  refine (addC T4.out (akd 3 5 7 9) (akd_ok _ _ _ _ (by omega) (by omega)) (key_good _ _ _ _ (by omega) (by omega)) (by simp) (by simp) (by omega) (fun _ _ => trivial)).mono ?_
  rintro e w5 ⟨rfl, ⟨v5, hT⟩, hb, -⟩
  have T5 : Aside0 (TabAt w5 w.heap.size (fun _ => True) g 4 [akd 3 5 7 9] 1 (cntA [akd 3 5 7 9]) v5 m) := ⟨hT⟩
  have B5 := Aside0.mk (B4.out.trans hb)
  clear hT hb T4 B4
  simp only
  go_upto_if 27 with fail
  generalize hW : w5.alloc _ = W
  obtain ⟨qb, hqb⟩ : ∃ qb, w5.heap.size = qb := ⟨_, rfl⟩
  have Q0 : Aside0 (AtQ w W g m qb v5 ⟨#[1, 65, 0]⟩ 1 1) := ⟨⟨by rw [← hW]; exact (T5.out.bound.below (below_alloc (Below.refl _ _) _)).mono (fun k hk => by have := hk.2; omega), by rw [← hW, ← hqb]; exact blk_new w5 _, by rw [← hW]; exact below_alloc B5.out _, by rw [← hqb]; exact B5.out.size⟩⟩
  rw [hqb]
  clear hW hqb T5 B5
  obtain ⟨b1, hb1⟩ : ∃ b, (bits BinOp.and IntKind.i64 wr_ 1 == (1 : Int)) = b := ⟨_, rfl⟩
  obtain ⟨b2, hb2⟩ : ∃ b, (bits BinOp.and IntKind.i64 wr_ 2 == (2 : Int)) = b := ⟨_, rfl⟩
  obtain ⟨b3, hb3⟩ : ∃ b, (bits BinOp.and IntKind.i64 wr_ 4 == (4 : Int)) = b := ⟨_, rfl⟩
  obtain ⟨b4, hb4⟩ : ∃ b, (bits BinOp.and IntKind.i64 wr_ 8 == (8 : Int)) = b := ⟨_, rfl⟩
  obtain ⟨b5, hb5⟩ : ∃ b, (bits BinOp.and IntKind.i64 wr_ 16 == (16 : Int)) = b := ⟨_, rfl⟩
  go_cut [7, 10] from 15 (fun s7 s10 wc => ∃ (a : Int) (f : Bool), s7 = .int .i64 a ∧ s10 = .bool f ∧ Aside0 (a = (if b1 then wrap64 (8 + bits BinOp.and IntKind.i64 c 7) else 7) ∧ f = !b1) ∧ wc = W)
  case first =>
    cases b1
    · go_wp2_with fail
      go_meet
      case rel => exact ⟨_, _, rfl, rfl, ⟨rfl, rfl⟩, rfl⟩
    · go_wp2_with fail
      go_meet
      case rel => exact ⟨_, _, rfl, rfl, ⟨rfl, rfl⟩, rfl⟩
  case rest =>
    obtain ⟨a, f1, rfl, rfl, E1, rfl⟩ := hcut
    go_upto_if 33 with fail
    go_cut [8, 10] from 15 (fun s8 s10 wd => ∃ (d : Int) (f : Bool), s8 = .int .i64 d ∧ s10 = .bool f ∧ Aside0 (d = (if b2 then wrap64 (6 + bits BinOp.and IntKind.i64 c 7) else 5) ∧ f = (f1 && !b2)) ∧ wd = wc)
    case first =>
      cases b2
      · go_wp2_with fail
        go_meet
        case rel => exact ⟨_, _, rfl, rfl, ⟨rfl, by simp⟩, rfl⟩
      · go_wp2_with fail
        go_meet
        case rel => exact ⟨_, _, rfl, rfl, ⟨rfl, by simp⟩, rfl⟩
    case rest =>
      obtain ⟨d, f2, rfl, rfl, E2, hwc⟩ := hcut
      subst hwc
      go_upto_if 39 with fail
      go_cut [10] from 15 (fun s10 we => ∃ (f : Bool) (nm : ByteArray), s10 = .bool f ∧ Aside0 (nm = bA b3 ∧ f = (f2 && !b3)) ∧ Aside0 (AtQ w we g m qb v5 nm 1 1))
      case first =>
        cases b3
        · go_wp2_with fail
          go_meet
          case rel => exact ⟨_, _, rfl, ⟨rfl, by simp⟩, Q0⟩
        · have c0 := (blk_cell Q0.out.box 0).trans (show _ = some (Value.string _) from rfl)
          have c1 := (blk_cell Q0.out.box 1).trans (show _ = some (Value.int .i64 _) from rfl)
          have c2 := (blk_cell Q0.out.box 2).trans (show _ = some (Value.int .i64 _) from rfl)
          have fz := fun i => blk_frozen Q0.out.box i
          go_wp2_with fail
          go_meet
          case rel => exact ⟨_, _, rfl, ⟨rfl, by simp⟩, ⟨Q0.out.put 0 _ (blk_put Q0.out.box 0 _ rfl)⟩⟩
      case rest =>
        obtain ⟨f3, nm, rfl, E3, Q1⟩ := hcut
        clear Q0
        go_upto_if 43 with fail
        go_cut [10] from 15 (fun s10 wf => ∃ (f : Bool) (t : Int), s10 = .bool f ∧ Aside0 (t = (if b4 then wrap64 (2 + bits BinOp.and IntKind.i64 c 7) else 1) ∧ f = (f3 && !b4)) ∧ Aside0 (AtQ w wf g m qb v5 nm t 1))
        case first =>
          cases b4
          · go_wp2_with fail
            go_meet
            case rel => exact ⟨_, _, rfl, ⟨rfl, by simp⟩, Q1⟩
          · have c0 := (blk_cell Q1.out.box 0).trans (show _ = some (Value.string _) from rfl)
            have c1 := (blk_cell Q1.out.box 1).trans (show _ = some (Value.int .i64 _) from rfl)
            have c2 := (blk_cell Q1.out.box 2).trans (show _ = some (Value.int .i64 _) from rfl)
            have fz := fun i => blk_frozen Q1.out.box i
            go_wp2_with fail
            go_meet
            case rel => exact ⟨_, _, rfl, ⟨rfl, by simp⟩, ⟨Q1.out.put 1 _ (blk_put Q1.out.box 1 _ rfl)⟩⟩
        case rest =>
          obtain ⟨f4, t, rfl, E4, Q2⟩ := hcut
          clear Q1
          go_upto_if 50 with fail
          go_cut [10] from 15 (fun s10 wg => ∃ (f : Bool) (cl : Int), s10 = .bool f ∧ Aside0 (cl = (if b5 then wrap64 (2 + bits BinOp.and IntKind.i64 c 7) else 1) ∧ f = (f4 && !b5)) ∧ Aside0 (AtQ w wg g m qb v5 nm t cl))
          case first =>
            cases b5
            · go_wp2_with fail
              go_meet
              case rel => exact ⟨_, _, rfl, ⟨rfl, by simp⟩, Q2⟩
            · have c0 := (blk_cell Q2.out.box 0).trans (show _ = some (Value.string _) from rfl)
              have c1 := (blk_cell Q2.out.box 1).trans (show _ = some (Value.int .i64 _) from rfl)
              have c2 := (blk_cell Q2.out.box 2).trans (show _ = some (Value.int .i64 _) from rfl)
              have fz := fun i => blk_frozen Q2.out.box i
              go_wp2_with fail
              go_meet
              case rel => exact ⟨_, _, rfl, ⟨rfl, by simp⟩, ⟨Q2.out.put 2 _ (blk_put Q2.out.box 2 _ rfl)⟩⟩
          case rest =>
            obtain ⟨f5, cl, rfl, E5, Q3⟩ := hcut
            clear Q2
            have hz : 0 ≤ bits BinOp.and IntKind.i64 c 7 ∧ bits BinOp.and IntKind.i64 c 7 ≤ 7 := by rw [and7]; omega
            have Q3c0 : wc.cell? ⟨qb, 0, none⟩ = some (.string nm) := (blk_cell Q3.out.box 0).trans rfl
            have Q3c1 : wc.cell? ⟨qb, 1, none⟩ = some (.int .i64 t) := (blk_cell Q3.out.box 1).trans rfl
            have Q3c2 : wc.cell? ⟨qb, 2, none⟩ = some (.int .i64 cl) := (blk_cell Q3.out.box 2).trans rfl
            have FRK : Aside0 (∀ k, wc.heap.size ≤ k → k ≠ qb) := ⟨fun k hk e => by have := blk_lt Q3.out.box; omega⟩
            have E := mis (bits BinOp.and IntKind.i64 c 7) a d t cl nm hz b1 b2 b3 b4 b5 E1.out.1 E2.out.1 E3.out.1 E4.out.1 E5.out.1
            have EF : f5 = (!b1 && !b2 && !b3 && !b4 && !b5) := by rw [E5.out.2, E4.out.2, E3.out.2, E2.out.2, E1.out.2]
            cases f5 with
            | true =>
              have n1 : b1 = false := by cases b1; rfl; simp at EF
              have n2 : b2 = false := by cases b2; rfl; simp at EF
              have n3 : b3 = false := by cases b3; rfl; simp at EF
              have n4 : b4 = false := by cases b4; rfl; simp at EF
              have n5 : b5 = false := by cases b5; rfl; simp at EF
              have ea : a = 7 := by rw [E1.out.1, n1]; rfl
              have ed : d = 5 := by rw [E2.out.1, n2]; rfl
              have en : nm = ⟨#[1, 65, 0]⟩ := by rw [E3.out.1, n3]; rfl
              have et : t = 1 := by rw [E4.out.1, n4]; rfl
              have ec : cl = 1 := by rw [E5.out.1, n5]; rfl
              subst ea ed en et ec
              clear n1 n2 n3 n4 n5 E EF E1 E2 E3 E4 E5 hb1 hb2 hb3 hb4 hb5 hz
              go_wp2_with fail
              refine (takeC Q3.out.tab (by omega) (by simp) FRK.out 7 5 ⟨#[1, 65, 0]⟩ 1 (keyQ_A_good _ _ (by omega) (by omega)) 0 (by simp) (by rw [keyQ_A]; exact (isK_KA 7 5 3 5 7 9).trans (by decide)) (fun i hi => absurd hi (by omega))).mono ?_
              rintro e w10 ⟨rfl, ⟨v10, hT⟩, hb, -⟩
              have T10 : Aside0 (TabAt w10 w.heap.size (fun k => k ≠ qb) g 4 [] 2 (cntA []) v10 m) := ⟨hT⟩
              have B10 := Aside0.mk (Q3.out.bel.trans hb)
              clear hT hb Q3 Q3c0 Q3c1 Q3c2
              unfold v35 akd
              simp only
              go_wp2_with fail
              generalize hW : w10.alloc _ = W11
              obtain ⟨xb, hxb⟩ : ∃ xb, w10.heap.size = xb := ⟨_, rfl⟩
              have T11 : Aside0 (TabAt W11 w.heap.size (fun k => k ≠ qb) g 4 [] 2 (cntA []) v10 m) := ⟨by rw [← hW]; exact T10.out.below (below_alloc (Below.refl _ _) _)⟩
              have X11 : Aside0 (W11.heap[xb]? = some (.cells #[.int .i64 3, .int .i64 5, .int .i64 7, .string ⟨#[0]⟩, .string ⟨#[1, 97, 0]⟩, .string ⟨#[1, 97, 0]⟩, .int .i64 1, .int .i64 9] 35 (0, 0))) := ⟨by rw [← hW, ← hxb]; exact blk_new w10 _⟩
              have B11 : Aside0 (Below w.heap.size w W11) := ⟨by rw [← hW]; exact below_alloc B10.out _⟩
              rw [hxb]
              clear hW T10 B10 hxb
              refine (takeN T11.out 7 5 ⟨#[1, 97, 0]⟩ 1 1 (by rw [keyQ_a]; exact KA_good _ _ (by omega) (by omega)) (Or.inr (by simp))).mono ?_
              rintro e w12 ⟨rfl, hb⟩
              have X12 := Aside0.mk (blk_below X11.out hb)
              have B12 := Aside0.mk (below_nx B11.out hb)
              clear hb T11 X11 B11
              unfold v35 z35 z33
              simp only
              go_wp2_with fail
              generalize hW : w12.alloc _ = W14
              have X14 : Aside0 (W14.heap[xb]? = some (.cells #[.int .i64 3, .int .i64 5, .int .i64 7, .string ⟨#[0]⟩, .string ⟨#[1, 97, 0]⟩, .string ⟨#[1, 97, 0]⟩, .int .i64 1, .int .i64 9] 35 (0, 0))) := ⟨by rw [← hW]; exact blk_alloc X12.out _⟩
              have B14 : Aside0 (Below w.heap.size w W14) := ⟨by rw [← hW]; exact below_alloc B12.out _⟩
              clear hW X12 B12
              have x0 : ∀ W, Below W14.heap.size W14 W → W.cell? ⟨xb, 0, none⟩ = some (.int .i64 3) := fun W h => pw_cell_below h ((blk_cell X14.out 0).trans rfl)
              have x1 : ∀ W, Below W14.heap.size W14 W → W.cell? ⟨xb, 1, none⟩ = some (.int .i64 5) := fun W h => pw_cell_below h ((blk_cell X14.out 1).trans rfl)
              have x2 : ∀ W, Below W14.heap.size W14 W → W.cell? ⟨xb, 2, none⟩ = some (.int .i64 7) := fun W h => pw_cell_below h ((blk_cell X14.out 2).trans rfl)
              have x3 : ∀ W, Below W14.heap.size W14 W → W.cell? ⟨xb, 3, none⟩ = some (.string ⟨#[0]⟩) := fun W h => pw_cell_below h ((blk_cell X14.out 3).trans rfl)
              have x4 : ∀ W, Below W14.heap.size W14 W → W.cell? ⟨xb, 4, none⟩ = some (.string ⟨#[1, 97, 0]⟩) := fun W h => pw_cell_below h ((blk_cell X14.out 4).trans rfl)
              have x5 : ∀ W, Below W14.heap.size W14 W → W.cell? ⟨xb, 5, none⟩ = some (.string ⟨#[1, 97, 0]⟩) := fun W h => pw_cell_below h ((blk_cell X14.out 5).trans rfl)
              have x6 : ∀ W, Below W14.heap.size W14 W → W.cell? ⟨xb, 6, none⟩ = some (.int .i64 1) := fun W h => pw_cell_below h ((blk_cell X14.out 6).trans rfl)
              have x7 : ∀ W, Below W14.heap.size W14 W → W.cell? ⟨xb, 7, none⟩ = some (.int .i64 9) := fun W h => pw_cell_below h ((blk_cell X14.out 7).trans rfl)
              have hA : ∀ W, Calls Try.prog 22 #[.int .i64 3, .int .i64 5, .int .i64 7, .int .i64 9] W fun e w' => e = .returned (.agg #[.int .i64 3, .int .i64 5, .int .i64 7, .string ⟨#[0]⟩, .string ⟨#[1, 97, 0]⟩, .string ⟨#[1, 97, 0]⟩, .int .i64 1, .int .i64 9]) ∧ Below W.heap.size W w' := fun W => asked_calls 3 5 7 9 W
              have hA := Aside0.mk hA
              have z0 : ∀ n, (W14.drewN n).cell? ⟨xb, 0, none⟩ = some (.int .i64 3) := fun n => x0 _ (pw_below_drewN (Below.refl _ _) n)
              have z1 : ∀ n, (W14.drewN n).cell? ⟨xb, 1, none⟩ = some (.int .i64 5) := fun n => x1 _ (pw_below_drewN (Below.refl _ _) n)
              have z2 : ∀ n, (W14.drewN n).cell? ⟨xb, 2, none⟩ = some (.int .i64 7) := fun n => x2 _ (pw_below_drewN (Below.refl _ _) n)
              have z3 : ∀ n, (W14.drewN n).cell? ⟨xb, 3, none⟩ = some (.string ⟨#[0]⟩) := fun n => x3 _ (pw_below_drewN (Below.refl _ _) n)
              have z4 : ∀ n, (W14.drewN n).cell? ⟨xb, 4, none⟩ = some (.string ⟨#[1, 97, 0]⟩) := fun n => x4 _ (pw_below_drewN (Below.refl _ _) n)
              have z5 : ∀ n, (W14.drewN n).cell? ⟨xb, 5, none⟩ = some (.string ⟨#[1, 97, 0]⟩) := fun n => x5 _ (pw_below_drewN (Below.refl _ _) n)
              have z6 : ∀ n, (W14.drewN n).cell? ⟨xb, 6, none⟩ = some (.int .i64 1) := fun n => x6 _ (pw_below_drewN (Below.refl _ _) n)
              have z7 : ∀ n, (W14.drewN n).cell? ⟨xb, 7, none⟩ = some (.int .i64 9) := fun n => x7 _ (pw_below_drewN (Below.refl _ _) n)
              clear x0 x1 x2 x3 x4 x5 x6 x7
              have BN : ∀ n, Below W14.heap.size W14 (W14.drewN n) := fun n => pw_below_drewN (Below.refl _ _) n
              first
                | (go_region_with (first | (go_at_call 10; refine (wimplelaw0_Num.calls _ _ _ rfl).mono ?_; rintro e wN ⟨rfl, ⟨nN, rfl⟩⟩) | (go_at_call 22; refine (hA.out _).mono ?_; rintro e w15 ⟨rfl, hb⟩; have HS := below_nx' (w := W14) hb (BN _); have y0 : ∀ n, (w15.drewN n).cell? ⟨xb, 0, none⟩ = some (.int .i64 3) := fun n => pw_cell_below hb (z0 _); have y1 : ∀ n, (w15.drewN n).cell? ⟨xb, 1, none⟩ = some (.int .i64 5) := fun n => pw_cell_below hb (z1 _); have y2 : ∀ n, (w15.drewN n).cell? ⟨xb, 2, none⟩ = some (.int .i64 7) := fun n => pw_cell_below hb (z2 _); have y3 : ∀ n, (w15.drewN n).cell? ⟨xb, 3, none⟩ = some (.string ⟨#[0]⟩) := fun n => pw_cell_below hb (z3 _); have y4 : ∀ n, (w15.drewN n).cell? ⟨xb, 4, none⟩ = some (.string ⟨#[1, 97, 0]⟩) := fun n => pw_cell_below hb (z4 _); have y5 : ∀ n, (w15.drewN n).cell? ⟨xb, 5, none⟩ = some (.string ⟨#[1, 97, 0]⟩) := fun n => pw_cell_below hb (z5 _); have y6 : ∀ n, (w15.drewN n).cell? ⟨xb, 6, none⟩ = some (.int .i64 1) := fun n => pw_cell_below hb (z6 _); have y7 : ∀ n, (w15.drewN n).cell? ⟨xb, 7, none⟩ = some (.int .i64 9) := fun n => pw_cell_below hb (z7 _); have t0 : w15.cell? ⟨xb, 0, none⟩ = some (.int .i64 3) := y0 0; have t1 : w15.cell? ⟨xb, 1, none⟩ = some (.int .i64 5) := y1 0; have t2 : w15.cell? ⟨xb, 2, none⟩ = some (.int .i64 7) := y2 0; have t3 : w15.cell? ⟨xb, 3, none⟩ = some (.string ⟨#[0]⟩) := y3 0; have t4 : w15.cell? ⟨xb, 4, none⟩ = some (.string ⟨#[1, 97, 0]⟩) := y4 0; have t5 : w15.cell? ⟨xb, 5, none⟩ = some (.string ⟨#[1, 97, 0]⟩) := y5 0; have t6 : w15.cell? ⟨xb, 6, none⟩ = some (.int .i64 1) := y6 0; have t7 : w15.cell? ⟨xb, 7, none⟩ = some (.int .i64 9) := y7 0; clear hb)))
                | fail
              all_goals
                (try simp only [Exit.then])
                go_wp2_with fail
                go_ret
                exact ⟨rfl, below_nx B14.out (by first | exact pw_below_drewN HS _ | exact HS)⟩
            | false =>
              have EM := E EF.symm
              clear E EF E1 E2 E3 E4 E5 hb1 hb2 hb3 hb4 hb5 hz
              go_wp2_with fail
              refine (takeN Q3.out.tab a d nm t cl EM.1 EM.2).mono ?_
              rintro e w10 ⟨rfl, hb⟩
              have T10 := Aside0.mk (Q3.out.tab.below hb)
              have B10 := Aside0.mk (below_nx Q3.out.bel hb)
              clear hb Q3 Q3c0 Q3c1 Q3c2 EM
              unfold v35 z35 z33
              simp only
              go_wp2_with fail
              generalize hW : w10.alloc _ = W11
              obtain ⟨xb, hxb⟩ : ∃ xb, w10.heap.size = xb := ⟨_, rfl⟩
              have T11 : Aside0 (TabAt W11 w.heap.size (fun k => k ≠ xb) g 4 [akd 3 5 7 9] 1 (cntA [akd 3 5 7 9]) v5 m) := ⟨by rw [← hW]; exact (T10.out.bound.below (below_alloc (Below.refl _ _) _)).mono (fun k hk => by have := hk.2; omega)⟩
              have X11 : Aside0 (W11.heap[xb]? = some (.cells #[.int .i64 0, .int .i64 0, .int .i64 0, .string ⟨#[]⟩, .string ⟨#[]⟩, .string ⟨#[]⟩, .int .i64 0, .int .i64 0] 35 (0, 0))) := ⟨by rw [← hW, ← hxb]; exact blk_new w10 _⟩
              have B11 : Aside0 (Below w.heap.size w W11) := ⟨by rw [← hW]; exact below_alloc B10.out _⟩
              have S11 : Aside0 (xb < W11.heap.size) := ⟨blk_lt X11.out⟩
              rw [hxb]
              clear hW T10 B10 hxb
              refine (takeC T11.out (by omega) (by simp) (fun k hk => by have := S11.out; omega) 7 5 ⟨#[1, 97, 0]⟩ 1 (by rw [keyQ_a]; exact KA_good _ _ (by omega) (by omega)) 0 (by simp) (by rw [keyQ_a]; exact (isK_KA 7 5 3 5 7 9).trans (by decide)) (fun i hi => absurd hi (by omega))).mono ?_
              rintro e w12 ⟨rfl, ⟨v12, hT⟩, hb, hk⟩
              have X12 := Aside0.mk (blk_kept X11.out hk (fun h => h rfl))
              have B12 := Aside0.mk (B11.out.trans hb)
              clear hb hT hk T11 X11 B11
              unfold v35 akd
              simp only
              go_wp2_with fail
              generalize hW : w12.alloc _ = W14
              have X14 : Aside0 (W14.heap[xb]? = some (.cells #[.int .i64 0, .int .i64 0, .int .i64 0, .string ⟨#[]⟩, .string ⟨#[]⟩, .string ⟨#[]⟩, .int .i64 0, .int .i64 0] 35 (0, 0))) := ⟨by rw [← hW]; exact blk_alloc X12.out _⟩
              have B14 : Aside0 (Below w.heap.size w W14) := ⟨by rw [← hW]; exact below_alloc B12.out _⟩
              clear hW X12 B12
              have x0 : W14.cell? ⟨xb, 0, none⟩ = some (.int .i64 0) := (blk_cell X14.out 0).trans rfl
              have x1 : W14.cell? ⟨xb, 1, none⟩ = some (.int .i64 0) := (blk_cell X14.out 1).trans rfl
              have x2 : W14.cell? ⟨xb, 2, none⟩ = some (.int .i64 0) := (blk_cell X14.out 2).trans rfl
              have x3 : W14.cell? ⟨xb, 3, none⟩ = some (.string ⟨#[]⟩) := (blk_cell X14.out 3).trans rfl
              have x4 : W14.cell? ⟨xb, 4, none⟩ = some (.string ⟨#[]⟩) := (blk_cell X14.out 4).trans rfl
              have x5 : W14.cell? ⟨xb, 5, none⟩ = some (.string ⟨#[]⟩) := (blk_cell X14.out 5).trans rfl
              have x6 : W14.cell? ⟨xb, 6, none⟩ = some (.int .i64 0) := (blk_cell X14.out 6).trans rfl
              have x7 : W14.cell? ⟨xb, 7, none⟩ = some (.int .i64 0) := (blk_cell X14.out 7).trans rfl
              have BN : ∀ n, Below W14.heap.size W14 (W14.drewN n) := fun n => pw_below_drewN (Below.refl _ _) n
              have hN0 : Aside0 (∀ n, Calls Try.prog 10 #[.int .i64 0] (W14.drewN n) fun e w' => e = .returned (.int .i64 0) ∧ ∃ m, w' = (W14.drewN n).drewN m) := ⟨fun n => (wimplelaw0_Num.calls 0 0 _ rfl).mono (by rintro e w9 ⟨h1, h2⟩; exact ⟨h1, h2.out⟩)⟩
              have hN1 : Aside0 (∀ n, Calls Try.prog 10 #[.int .i64 1902] (W14.drewN n) fun e w' => e = .returned (.int .i64 1902) ∧ ∃ m, w' = (W14.drewN n).drewN m) := ⟨fun n => (wimplelaw0_Num.calls 1902 1902 _ rfl).mono (by rintro e w9 ⟨h1, h2⟩; exact ⟨h1, h2.out⟩)⟩
              go_quiet (first | (go_at_call 10; refine Calls.quiet_of (hN0.out _)) | (go_at_call 10; refine Calls.quiet_of (hN1.out _)))
              all_goals
                (try simp only [Exit.then])
                go_wp2_with fail
                go_ret
                exact ⟨rfl, below_nx B14.out (BN _)⟩
end Go.Proofs.Ytojjkgnkdcekpaa.M
