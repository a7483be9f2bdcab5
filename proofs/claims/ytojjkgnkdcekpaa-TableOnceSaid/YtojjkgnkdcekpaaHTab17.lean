/- TableOnce, the walk: the first loop and the list of bools. -/
import Derived.Test.YtojjkgnkdcekpaaHTab18
import Derived.Test.YtojjkgnkdcekpaaPx2
import Derived.Deep.CutBlock
set_option linter.unusedVariables false
set_option linter.unusedSimpArgs false
namespace Go.Proofs.Ytojjkgnkdcekpaa.M
open Go Go.RowKit Go.ChangeMaps Go.Proofs.YtojjkgnkdcekpaaW.PrintWords Go.Proofs.YtojjkgnkdcekpaaW.PrintLast Go.Proofs.YtojjkgnkdcekpaaW.PrintMore Go.Proofs.Ytojjkgnkdcekpaa.P

def unt (us : List Int) (i : Nat) : Int := bits BinOp.and IntKind.i64 (Go.Proofs.YtojjkgnkdcekpaaW.PrintWords.rd us (i : Int)) 1023
/-- The world of the second and third loop: the table, the list of what is gone, the question's box. -/
structure AtO (w0 w : World) (g m qb : Nat) (n : Nat) (v : Value) (xs : List S35) (N : Nat) (gn : List Bool) (ug : Value) : Prop where
  tab : TabAt w w0.heap.size (fun k => some k ≠ ug.ownBlock ∧ k ≠ qb) g 16 xs n (cntA xs) v m
  row : Kd.R Kd.bool 4 w w0.heap.size (fun k => k ≠ qb) ug gn
  box : w.heap[qb]? = some (.cells #[.string ⟨#[1, 97, 0]⟩, .int .i64 1, .int .i64 1] 37 (0, 0))
  bel : Below w0.heap.size w0 w
  len : gn.length = N
section
variable {w0 w w' : World} {g m qb gb : Nat} {n n' N : Nat} {v v' ug : Value} {xs xs' : List S35} {gn : List Bool} {cg : Nat}
theorem AtO.next (h : AtO w0 w g m qb n v xs N gn ug) (hb : Below w.heap.size w w') : AtO w0 w' g m qb n v xs N gn ug := ⟨h.tab.below hb, Kd.R_below h.row hb, blk_below h.box hb, below_nx h.bel hb, h.len⟩
theorem AtO.fresh (h : AtO w0 w g m qb n v xs N gn ug) : ∀ k, w.heap.size ≤ k → some k ≠ ug.ownBlock ∧ k ≠ qb := fun k hk => ⟨fun e => by have := Kd.R_lt h.row k e.symm; omega, fun e => by have := blk_lt h.box; omega⟩
theorem AtO.moved (h : AtO w0 w g m qb n v xs N gn ug) (hT : TabAt w' w0.heap.size (fun k => some k ≠ ug.ownBlock ∧ k ≠ qb) g 16 xs' n' (cntA xs') v' m) (hb : Below w0.heap.size w w') (hk : Kept w w' (fun k => some k ≠ ug.ownBlock ∧ k ≠ qb)) : AtO w0 w' g m qb n' v' xs' N gn ug :=
  ⟨hT, Kd.R_mono (Kd.R_kept (Kd.R_tight2 rfl h.row) hk (fun k hk' hs => hs.1 hk'.1)) (fun k hk => hk.2), blk_kept h.box hk (fun h => h.2 rfl), h.bel.trans hb, h.len⟩
theorem AtO.put (h : AtO w0 w g m qb n v xs N gn (.slice (some ⟨gb, 0, none⟩) N cg)) (k : Nat) (x : Bool) : AtO w0 (w.setCell ⟨gb, k, none⟩ (.bool x)) g m qb n v xs N (gn.set k x) (.slice (some ⟨gb, 0, none⟩) N cg) := by
  have hlo : w0.heap.size ≤ gb := h.row.2 |> fun _ => (Kd.R_bound h.row).1 gb rfl |>.2.1
  have hne : gb ≠ qb := h.row.1 gb rfl
  have hr : Kd.R Kd.bool 4 w w0.heap.size (fun k => k ≠ qb) (.slice (some ⟨gb, 0, none⟩) gn.length cg) gn := by rw [h.len]; exact h.row
  have hp := (Kd.R_put hr (k : Int) x).1
  have hK : Kept w (w.setCell ⟨gb, k, none⟩ (.bool x)) (fun b => b = gb) := (Kept.refl w (fun b => b = gb)).setCell (p := ⟨gb, k, none⟩) (Or.inl rfl) (.bool x)
  refine ⟨TabAt.kept h.tab hK (fun b hb e => hb.1 (by rw [e]; rfl)), by rw [h.len] at hp; exact hp, blk_kept h.box hK (fun e => hne e.symm), h.bel.setCell (p := ⟨gb, k, none⟩) hlo _, by rw [List.length_set]; exact h.len⟩
end
theorem onl_nil (u : Nat → Int) (N : Nat) (g : List Bool) (h : ∀ i, g.getD i false = false) : onl u N g = onl u N [] := by
  unfold onl
  congr 1
  exact List.filter_congr fun i _ => by rw [h i]; simp
theorem info4 : (Try.prog.info? 4).map (fun i => (i.zero, i.size, i.bytes)) = some (some (.bool false), 1, 1) := by kernel_rfl
set_option maxHeartbeats 40000000 in
set_option maxRecDepth 100000 in
theorem once_walk (w : World) (A : Option Addr) (c : Nat) (us : List Int) (A1 : Option Addr) (c1 : Nat) (ts : List Int) (now : Int) (hh : Kd.C (Kd.int .i64) w A us.length us) (hc : us.length ≤ c) (hh1 : Kd.C (Kd.int .i64) w A1 ts.length ts) (hc1 : ts.length ≤ c1) : Calls Try.prog 4 #[.slice A us.length c, .slice A1 ts.length c1, .int .i64 now] w fun e w' => e = .returned (.bool true) ∧ Below w.heap.size w w' := by
  have H := Aside0.mk hh
  have H1 := Aside0.mk hh1
  clear hh hh1
  go_enter Try.func4, Try.ntmps4
  (try simp only [List.append_eq, List.cons_append, List.nil_append])
  go_wp2_with fail
  refine (awake_calls w).mono ?_
  rintro e w1 ⟨rfl, hb⟩
  have B1 := Aside0.mk hb
  clear hb
  simp only
  go_wp2_with fail
  refine (newC w1 16 (by omega) (fun _ => True) (fun _ _ => trivial)).mono ?_
  rintro e w2 ⟨⟨g, m, rfl, hT⟩, hb⟩
  have T2 : Aside0 (TabAt w2 w.heap.size (fun _ => True) g 16 (onl (unt us) 0 []) 0 (cntA (onl (unt us) 0 [])) (.slice none 0 0) m) := ⟨hT.lower B1.out.size⟩
  have B2 := Aside0.mk (below_nx B1.out hb)
  clear hT hb B1
  simp only
  go_upto_block 0 with fail
  go_cut [9] from 23 (fun s9 wd => ∃ (N : Nat) (v : Value), N ≤ us.length ∧ N ≤ 16 ∧ s9 = .int .i64 N ∧ Aside0 (TabAt wd w.heap.size (fun _ => True) g 16 (onl (unt us) N []) N (cntA (onl (unt us) N [])) v m) ∧ Aside0 (Below w.heap.size w wd))
  case first =>
    go_wp2_with fail
    go_loopw [9, 10] (fun v9 v10 wr => ∃ (i : Nat) (v : Value), i ≤ us.length ∧ i ≤ 16 ∧ v9 = .int .i64 i ∧ v10 = .int .i64 i ∧ Aside0 (TabAt wr w.heap.size (fun _ => True) g 16 (onl (unt us) i []) i (cntA (onl (unt us) i [])) v m) ∧ Aside0 (Below w.heap.size w wr)) (fun _ v10 _ => us.length - (intOf v10).toNat)
    case atStart => exact ⟨0, _, Nat.zero_le _, by omega, rfl, rfl, T2, B2⟩
    case round =>
      obtain ⟨i, v, hi, hi2, rfl, rfl, T3, B3⟩ := hrel
      clear T2 B2
      by_cases hlt : i < us.length ∧ i < 16
      · have hd1 : decide ((i : Int) < (us.length : Int)) = true := decide_eq_true (by omega)
        have hd2 : decide (i < us.length) = true := decide_eq_true hlt.1
        have hd5 : decide ((i : Int) < 16) = true := decide_eq_true (by omega)
        have hd6 : ((i : Int) < 16) = True := eq_true (by omega)
        have hd8 : (i < us.length) = True := eq_true hlt.1
        have LI := Aside0.mk hlt
        obtain ⟨jb, hjb⟩ : ∃ jb, Go.Proofs.YtojjkgnkdcekpaaW.PrintWords.rd us (i : Int) = jb := ⟨_, rfl⟩
        obtain ⟨ad, rfl, hcx⟩ := Kd.at_int (Kd.C_below H.out B3.out) (i : Int) (by omega) (by omega)
        have hc0 : wr.cell? (ad.add i) = some (.int .i64 jb) := by rw [← hjb]; exact hcx
        have hu : Aside0 (unt us i = bits BinOp.and IntKind.i64 jb 1023) := ⟨by rw [← hjb]; rfl⟩
        have ND : Aside0 (onl (unt us) (i + 1) [] = onl (unt us) i [] ++ [akd ((i : Int) + 1) (i : Int) 7 (bits BinOp.and IntKind.i64 jb 1023)]) := ⟨by rw [onl_succ, hu.out]; rfl⟩
        clear hlt hcx hjb hu
        go_wp2_with fail
        refine (asked_calls ((i : Int) + 1) i 7 (bits BinOp.and IntKind.i64 jb 1023) wr).mono ?_
        rintro e w6 ⟨rfl, hb⟩
        have T4 := Aside0.mk (T3.out.below hb)
        have B4 := Aside0.mk (below_nx B3.out hb)
        clear hb T3 B3 hc0
        simp only
        go_wp2_with fail
        have hA := addC T4.out (akd ((i : Int) + 1) i 7 (bits BinOp.and IntKind.i64 jb 1023)) (akd_ok _ _ _ _ (by omega) (by omega)) (key_good _ _ _ _ (by omega) (by omega)) (by have := onl_len (unt us) i []; have := LI.out; omega) (by have := onl_len (unt us) i []; have := LI.out; omega) (by have := LI.out; omega) (fun _ _ => trivial)
        refine hA.mono ?_
        rintro e w7 ⟨rfl, ⟨v', hT⟩, hb, hk⟩
        rw [← ND.out] at hT
        have T5 := Aside0.mk hT
        have B5 := Aside0.mk (B4.out.trans hb)
        clear hT hb hk hA T4 B4
        simp only
        go_wp2_with fail
        refine (wimplelaw0_Num.calls 0 0 _ rfl).mono ?_
        rintro e w8 ⟨rfl, ⟨nd, rfl⟩⟩
        have T6 := Aside0.mk (T5.out.below (pw_below_drewN (Below.refl _ _) nd))
        have B6 := Aside0.mk (below_dN B5.out nd)
        clear T5 B5
        generalize w7.drewN nd = W8 at *
        simp only
        go_wp2_with fail
        go_roundw
        case rel => exact ⟨i + 1, v', by have := LI.out; omega, by have := LI.out; omega, by go_num, by go_num, T6, B6⟩
        case measure => have := LI.out; simp [intOf]; omega
      · by_cases h1 : i < us.length
        · have hd1 : decide ((i : Int) < (us.length : Int)) = true := decide_eq_true (by omega)
          have hd2 : decide (i < us.length) = true := decide_eq_true h1
          have hd8 : (i < us.length) = True := eq_true h1
          have hd5 : decide ((i : Int) < 16) = false := decide_eq_false (by omega)
          have hd6 : ((i : Int) < 16) = False := eq_false (by omega)
          go_wp2_with fail
          go_meet
          case rel => exact ⟨i, v, hi, hi2, rfl, T3, B3⟩
        · have hd1 : decide ((i : Int) < (us.length : Int)) = false := decide_eq_false (by omega)
          have hd2 : decide (i < us.length) = false := decide_eq_false h1
          have hd8 : (i < us.length) = False := eq_false h1
          go_wp2_with fail
          go_meet
          case rel => exact ⟨i, v, hi, hi2, rfl, T3, B3⟩
  case rest =>
    obtain ⟨N, v, hN, hN2, rfl, T3, B3⟩ := hcut
    clear T2 B2
    go_upto_block 2 with ((with_reducible refine gate_dst (N := 56) rfl ?_); refine Kd.R_make Kd.bool (w0 := w) w.heap.size 4 rfl (N := 56) rfl 54 (.tmp 55) (.tmp 55) rfl (N : Int) ?hx ?hy Try.underlying54 (.bool false) 1 info4 rfl (by decide) (by omega) false (ok := fun _ => True) (okp := fun _ => True) rfl (fun _ _ => trivial) trivial (by omega) (by omega) B3.out B3.out.size ?_; (case hx => first | rfl | go_simp); (case hy => first | rfl | go_simp); intro v1 w3 ho hb hg hat; rw [Int.toNat_natCast] at ho; have R4 := Aside0.mk ho; have B4 := Aside0.mk hb; have T4 := Aside0.mk ((TabAt.kept T3.out.bound (Kept.of_grown hg (Kept.refl _ (fun _ => False)) (fun k e => by cases e)) (fun k hk h2 => h2)).mono (S' := fun k => some k ≠ v1.ownBlock) (fun k hk => by obtain ⟨b, e, hl⟩ := hat; rw [e]; intro e2; cases e2; have := hk.2; omega)); clear ho hb hg hat)
    obtain ⟨Ag, cg, eg⟩ := Kd.R_slice R4.out
    rw [List.length_replicate] at eg
    subst eg
    generalize hW : w3.alloc _ = W4
    obtain ⟨qb, hqb⟩ : ∃ qb, w3.heap.size = qb := ⟨_, rfl⟩
    have O4 : Aside0 (AtO w W4 g m qb N v (onl (unt us) N (List.replicate N false)) N (List.replicate N false) (.slice Ag N cg)) := ⟨⟨by rw [onl_nil _ _ (List.replicate N false) (fun i => by simp [List.getD_eq_getElem?_getD, List.getElem?_replicate]; split <;> rfl), ← hW]; exact (T4.out.bound.below (below_alloc (Below.refl _ _) _)).mono (fun k hk => ⟨hk.1, by have := hk.2; omega⟩), by rw [← hW]; exact Kd.R_mono (Kd.R_below (Kd.R_elderB R4.out qb (by omega)) (below_alloc (Below.refl _ _) _)) (fun k hk => hk.2), by rw [← hW, ← hqb]; exact blk_new w3 _, by rw [← hW]; exact below_alloc B4.out _, by simp⟩⟩
    rw [hqb]
    clear hW hqb T4 R4 B4 T3 B3
    go_cut [] from 58 (fun wd => ∃ (n : Nat) (v : Value) (gn : List Bool), n ≤ 100 ∧ Aside0 (AtO w wd g m qb n v (onl (unt us) N gn) N gn (.slice Ag N cg)))
    case first =>
      go_wp2_with fail
      go_loopw [14] (fun v14 wr => ∃ (i n : Nat) (v : Value) (gn : List Bool), i ≤ ts.length ∧ i ≤ 20 ∧ n ≤ N + i ∧ v14 = .int .i64 i ∧ Aside0 (AtO w wr g m qb n v (onl (unt us) N gn) N gn (.slice Ag N cg))) (fun v14 _ => ts.length - (intOf v14).toNat)
      case atStart => exact ⟨0, N, v, _, Nat.zero_le _, by omega, by omega, rfl, O4⟩
      case round =>
        obtain ⟨i, n, v2, gn, hi, hi2, hn, rfl, O5⟩ := hrel
        clear O4
        by_cases hlt : i < ts.length ∧ i < 20
        · have hd1 : decide ((i : Int) < (ts.length : Int)) = true := decide_eq_true (by omega)
          have hd2 : decide (i < ts.length) = true := decide_eq_true hlt.1
          have hd5 : decide ((i : Int) < 20) = true := decide_eq_true (by omega)
          have hd6 : ((i : Int) < 20) = True := eq_true (by omega)
          have hd8 : (i < ts.length) = True := eq_true hlt.1
          have LI := Aside0.mk hlt
          obtain ⟨jb, hjb⟩ : ∃ jb, Go.Proofs.YtojjkgnkdcekpaaW.PrintWords.rd ts (i : Int) = jb := ⟨_, rfl⟩
          obtain ⟨ad, rfl, hcx⟩ := Kd.at_int (Kd.C_below H1.out O5.out.bel) (i : Int) (by omega) (by omega)
          have hc0 : wr.cell? (ad.add i) = some (.int .i64 jb) := by rw [← hjb]; exact hcx
          clear hcx hjb hlt
          have hkk : 0 ≤ bits BinOp.and IntKind.i64 jb 31 ∧ bits BinOp.and IntKind.i64 jb 31 ≤ 31 := by rw [and31]; omega
          obtain ⟨k, hk⟩ : ∃ k : Nat, bits BinOp.and IntKind.i64 jb 31 = (k : Int) := ⟨(bits BinOp.and IntKind.i64 jb 31).toNat, by omega⟩
          rw [hk] at hkk
          have hk31 : k ≤ 31 := by omega
          clear hkk
          have q0 : wr.cell? ⟨qb, 0, none⟩ = some (.string ⟨#[1, 97, 0]⟩) := (blk_cell O5.out.box 0).trans rfl
          have q1 : wr.cell? ⟨qb, 1, none⟩ = some (.int .i64 1) := (blk_cell O5.out.box 1).trans rfl
          have q2 : wr.cell? ⟨qb, 2, none⟩ = some (.int .i64 1) := (blk_cell O5.out.box 2).trans rfl
          by_cases hth : k < N ∧ gn.getD k false = false
          · obtain ⟨l1, l2, e1, hl1, e2⟩ := onl_there (unt us) N gn k hth.1 O5.out.len hth.2
            have hlen := onl_len (unt us) N gn
            have t5 := O5.out.tab
            rw [e1] at t5 hlen
            have hx := isK_on k k (unt us k)
            rw [decide_eq_true rfl] at hx
            have hM := takeMid l1 l2 _ 7 (k : Int) t5 (by omega) (by omega) O5.out.fresh (by omega) (by omega) hl1 hx
            obtain ⟨gb, cap, ef, _⟩ := Kd.R_form O5.out.row (by rw [O5.out.len]; omega)
            have eA : Ag = some ⟨gb, 0, none⟩ := by injection ef
            subst eA
            have HM := Aside0.mk hM
            have E1 := Aside0.mk (And.intro hth e2)
            clear t5 hlen hx hM ef hl1 e1 e2 hth
            go_wp2_with fail
            refine HM.out.mono ?_
            rintro e w6 ⟨rfl, ⟨v', hT⟩, hb, hkp⟩
            rw [← E1.out.2] at hT
            have O6 := Aside0.mk (O5.out.moved hT hb hkp)
            clear hT hb hkp O5 HM hc0 q0 q1 q2
            have hr : Kd.R Kd.bool 4 w6 w.heap.size (fun k => k ≠ qb) (.slice (some ⟨gb, 0, none⟩) gn.length cg) gn := by rw [O6.out.len]; exact O6.out.row
            have hg := Kd.R_cell false hr (k : Int) (by omega) (by rw [O6.out.len]; have := E1.out.1.1; omega)
            have hg0 : w6.cell? ⟨gb, k, none⟩ = some (.bool false) := by
              have h2 := hg.1
              rw [show rdOf false gn (k : Int) = gn.getD k false from rfl, E1.out.1.2] at h2
              exact h2
            have hg1 : w6.frozen? ⟨gb, k, none⟩ = false := hg.2
            have hgo : ∀ o, (w6.alloc o).cell? ⟨gb, k, none⟩ = some (.bool false) := fun o => alloc_cell hg0 _
            have hk1 : decide ((k : Int) < (N : Int)) = true := decide_eq_true (by have := E1.out.1.1; omega)
            have hk2 : ((k : Int) < (N : Int)) = True := eq_true (by have := E1.out.1.1; omega)
            have hk3 : decide (k < N) = true := decide_eq_true E1.out.1.1
            have hk4 : (k < N) = True := eq_true E1.out.1.1
            clear hr hg
            unfold v35 akd
            simp only
            go_wp2_with fail
            generalize hW : w6.alloc _ = W7
            obtain ⟨xb, hxb⟩ : ∃ xb, w6.heap.size = xb := ⟨_, rfl⟩
            have O7 := Aside0.mk (show AtO w W7 g m qb _ _ _ N gn _ from by rw [← hW]; exact O6.out.next (below_alloc (Below.refl _ _) _))
            have y0 : W7.cell? ⟨xb, 0, none⟩ = some (.int .i64 ((k : Int) + 1)) := by rw [← hW, ← hxb]; exact (blk_cell (blk_new w6 _) 0).trans rfl
            have hr : Kd.R Kd.bool 4 W7 w.heap.size (fun k => k ≠ qb) (.slice (some ⟨gb, 0, none⟩) gn.length cg) gn := by rw [O7.out.len]; exact O7.out.row
            have hg := Kd.R_cell false hr (k : Int) (by omega) (by rw [O7.out.len]; have := E1.out.1.1; omega)
            clear hgo hg0 hg1
            have hg0 : W7.cell? ⟨gb, k, none⟩ = some (.bool false) := by
              have h2 := hg.1
              rw [show rdOf false gn (k : Int) = gn.getD k false from rfl, E1.out.1.2] at h2
              exact h2
            have hg1 : W7.frozen? ⟨gb, k, none⟩ = false := hg.2
            clear hr hg
            rw [hxb]
            clear hW hxb O6
            refine (wimplelaw0_Num.calls 0 0 _ rfl).mono ?_
            rintro e w8 ⟨rfl, ⟨nd, rfl⟩⟩
            simp only
            go_wp2_with fail
            go_roundw
            case rel => exact ⟨i + 1, n + 1, v', gn.set k true, by have := LI.out; omega, by have := LI.out; omega, by omega, by go_num, ⟨(O7.out.next (pw_below_drewN (Below.refl _ _) _)).put k true⟩⟩
            case measure => have := LI.out; simp [intOf]; omega
          · have hno := onl_none (unt us) N gn k hth
            have HM := Aside0.mk (takeN O5.out.tab 7 (k : Int) ⟨#[1, 97, 0]⟩ 1 1 (by rw [keyQ_a]; exact KA_good _ _ (by omega) (by omega)) (Or.inr (by rw [keyQ_a]; exact hno)))
            clear hno
            go_wp2_with fail
            refine HM.out.mono ?_
            rintro e w6 ⟨rfl, hb⟩
            have O6 := Aside0.mk (O5.out.next hb)
            clear hb O5 HM hc0 q0 q1 q2
            unfold v35 z35 z33
            simp only
            by_cases hkN : k < N
            · have hgt : gn.getD k false = true := by
                cases e : gn.getD k false
                · exact absurd ⟨hkN, e⟩ hth
                · rfl
              obtain ⟨gb, cap, ef, _⟩ := Kd.R_form O6.out.row (by rw [O6.out.len]; omega)
              have eA : Ag = some ⟨gb, 0, none⟩ := by injection ef
              subst eA
              have hr : Kd.R Kd.bool 4 w6 w.heap.size (fun k => k ≠ qb) (.slice (some ⟨gb, 0, none⟩) gn.length cg) gn := by rw [O6.out.len]; exact O6.out.row
              have hg := Kd.R_cell false hr (k : Int) (by omega) (by rw [O6.out.len]; omega)
              have hg0 : w6.cell? ⟨gb, k, none⟩ = some (.bool true) := by
                have h2 := hg.1
                rw [show rdOf false gn (k : Int) = gn.getD k false from rfl, hgt] at h2
                exact h2
              have hgo : ∀ o, (w6.alloc o).cell? ⟨gb, k, none⟩ = some (.bool true) := fun o => alloc_cell hg0 _
              have KN := Aside0.mk hkN
              have hk1 : decide ((k : Int) < (N : Int)) = true := decide_eq_true (by omega)
              have hk2 : ((k : Int) < (N : Int)) = True := eq_true (by omega)
              have hk3 : decide (k < N) = true := decide_eq_true hkN
              have hk4 : (k < N) = True := eq_true hkN
              clear hr hg ef hth hkN hgt
              go_wp2_with fail
              generalize hW : w6.alloc _ = W7
              obtain ⟨xb, hxb⟩ : ∃ xb, w6.heap.size = xb := ⟨_, rfl⟩
              have O7 := Aside0.mk (show AtO w W7 g m qb _ _ _ N gn _ from by rw [← hW]; exact O6.out.next (below_alloc (Below.refl _ _) _))
              rw [hxb]
              clear hW hxb O6
              refine (wimplelaw0_Num.calls 1902 1902 _ rfl).mono ?_
              rintro e w8 ⟨rfl, ⟨nd, rfl⟩⟩
              simp only
              go_wp2_with fail
              go_roundw
              case rel => exact ⟨i + 1, n, v2, gn, by have := LI.out; omega, by have := LI.out; omega, by omega, by go_num, ⟨O7.out.next (pw_below_drewN (Below.refl _ _) _)⟩⟩
              case measure => have := LI.out; simp [intOf]; omega
            · have hk1 : decide ((k : Int) < (N : Int)) = false := decide_eq_false (by omega)
              have hk2 : ((k : Int) < (N : Int)) = False := eq_false (by omega)
              have hk3 : decide (k < N) = false := decide_eq_false hkN
              have hk4 : (k < N) = False := eq_false hkN
              clear hth hkN
              go_wp2_with fail
              generalize hW : w6.alloc _ = W7
              obtain ⟨xb, hxb⟩ : ∃ xb, w6.heap.size = xb := ⟨_, rfl⟩
              have O7 := Aside0.mk (show AtO w W7 g m qb _ _ _ N gn _ from by rw [← hW]; exact O6.out.next (below_alloc (Below.refl _ _) _))
              rw [hxb]
              clear hW hxb O6
              refine (wimplelaw0_Num.calls 1902 1902 _ rfl).mono ?_
              rintro e w8 ⟨rfl, ⟨nd, rfl⟩⟩
              simp only
              go_wp2_with fail
              go_roundw
              case rel => exact ⟨i + 1, n, v2, gn, by have := LI.out; omega, by have := LI.out; omega, by omega, by go_num, ⟨O7.out.next (pw_below_drewN (Below.refl _ _) _)⟩⟩
              case measure => have := LI.out; simp [intOf]; omega
        · by_cases h1 : i < ts.length
          · have hd1 : decide ((i : Int) < (ts.length : Int)) = true := decide_eq_true (by omega)
            have hd2 : decide (i < ts.length) = true := decide_eq_true h1
            have hd8 : (i < ts.length) = True := eq_true h1
            have hd5 : decide ((i : Int) < 20) = false := decide_eq_false (by omega)
            have hd6 : ((i : Int) < 20) = False := eq_false (by omega)
            go_wp2_with fail
            go_meet
            case rel => exact ⟨n, v2, gn, by omega, O5⟩
          · have hd1 : decide ((i : Int) < (ts.length : Int)) = false := decide_eq_false (by omega)
            have hd2 : decide (i < ts.length) = false := decide_eq_false h1
            have hd8 : (i < ts.length) = False := eq_false h1
            go_wp2_with fail
            go_meet
            case rel => exact ⟨n, v2, gn, by omega, O5⟩
    case rest =>
      obtain ⟨n, v2, gn, hn, O5⟩ := hcut
      clear O4
      obtain ⟨D, hD⟩ : ∃ D, bits BinOp.and IntKind.i64 now 1023 = D := ⟨_, rfl⟩
      go_wp2_with fail
      have hgd : ∀ x ∈ onl (unt us) N gn, (keyA x).Good := by
        intro x hx
        unfold onl at hx
        obtain ⟨i, hi, rfl⟩ := List.mem_map.1 hx
        have := List.mem_range.1 (List.mem_filter.1 hi).1
        exact key_good _ _ _ _ (by omega) (by omega)
      refine (dueC O5.out.tab (by omega) (by have := onl_len (unt us) N gn; omega) O5.out.fresh hgd D).mono ?_
      rintro e w6 ⟨uo, v6, rfl, hr, hT, hb, hk⟩
      have R6 := Aside0.mk (Kd.R_lower hr O5.out.bel.size)
      have G6 : Aside0 (Kd.R Kd.bool 4 w6 w.heap.size (fun k => k ≠ qb) (.slice Ag N cg) gn) := ⟨Kd.R_mono (Kd.R_kept (Kd.R_tight2 rfl O5.out.row) hk (fun k hk' hs => hs.1 hk'.1)) (fun k hk => hk.2)⟩
      have T6 := Aside0.mk hT
      have B6 := Aside0.mk (O5.out.bel.trans hb)
      have LN := Aside0.mk O5.out.len
      obtain ⟨Ad, cd, ed⟩ := Kd.R_slice hr
      subst ed
      clear hr hT hb hk hgd O5
      simp only
      go_upto_block 4 with fail
      go_cut [20, 21] from 113 (fun s20 s21 wd => s20 = .int .i64 ((((onl (unt us) N gn).filter (isDue D)).length : Nat) : Int) ∧ s21 = .int .i64 ((((onl (unt us) N gn).filter (notDue D)).length : Nat) : Int) ∧ wd = w6)
      case first =>
        go_wp2_with fail
        go_loopw [20, 21, 22] (fun v20 v21 v22 wr => ∃ i : Nat, i ≤ N ∧ v20 = .int .i64 ((((onl (unt us) i gn).filter (isDue D)).length : Nat) : Int) ∧ v21 = .int .i64 ((((onl (unt us) i gn).filter (notDue D)).length : Nat) : Int) ∧ v22 = .int .i64 i ∧ wr = w6) (fun _ _ v22 _ => N - (intOf v22).toNat)
        case atStart => exact ⟨0, Nat.zero_le _, rfl, rfl, rfl, rfl⟩
        case round =>
          obtain ⟨i, hi, rfl, rfl, rfl, rfl⟩ := hrel
          by_cases hlt : i < N
          · have hd1 : decide ((i : Int) < (N : Int)) = true := decide_eq_true (by omega)
            have hd2 : decide (i < N) = true := decide_eq_true hlt
            have hd8 : (i < N) = True := eq_true hlt
            obtain ⟨adg, eA, hcg⟩ := Kd.at_bool (Kd.R_reads' G6.out).2.2 (i : Int) (by omega) (by have := LN.out; omega)
            rw [Int.toNat_natCast] at hcg
            subst eA
            by_cases hgi : gn.getD i false = true
            · rw [show rdOf false gn (i : Int) = true from hgi] at hcg
              have hon := onl_gone (unt us) gn i hgi
              go_wp2_with fail
              go_roundw
              case rel => exact ⟨i + 1, by omega, by rw [hon], by rw [hon], by go_num, by first | trivial | rfl⟩
              case measure => simp [intOf]; omega
            · have hgf : gn.getD i false = false := by simpa using hgi
              rw [show rdOf false gn (i : Int) = gn.getD i false from rfl, hgf] at hcg
              obtain ⟨jb, hjb⟩ : ∃ jb, Go.Proofs.YtojjkgnkdcekpaaW.PrintWords.rd us (i : Int) = jb := ⟨_, rfl⟩
              obtain ⟨ad, eA2, hcx⟩ := Kd.at_int (Kd.C_below H.out B6.out) (i : Int) (by omega) (by omega)
              subst eA2
              have hc0 : wr.cell? (ad.add i) = some (.int .i64 jb) := by rw [← hjb]; exact hcx
              have hu : unt us i = bits BinOp.and IntKind.i64 jb 1023 := by rw [← hjb]; rfl
              clear hcx hjb hgi
              by_cases hdue : unt us i ≤ D
              · obtain ⟨e1, e2⟩ := due_yes (unt us) gn i D hgf hdue
                obtain ⟨rest, er⟩ := due_at (unt us) gn i N D hlt hgf hdue
                have hlen : ((onl (unt us) N gn).filter (isDue D)).length = ((onl (unt us) i gn).filter (isDue D)).length + 1 + rest.length := by rw [er]; simp; omega
                obtain ⟨at', hat⟩ : ∃ k : Nat, ((onl (unt us) i gn).filter (isDue D)).length = k := ⟨_, rfl⟩
                obtain ⟨L, hL⟩ : ∃ k : Nat, ((onl (unt us) N gn).filter (isDue D)).length = k := ⟨_, rfl⟩
                rw [hat, hL] at hlen
                have hr := R6.out
                obtain ⟨q, c8, eu, _⟩ := Kd.R_form hr (by rw [hL]; omega)
                have eAd : Ad = some ⟨q, 0, none⟩ := by injection eu
                subst eAd
                rw [hL] at hr
                clear eu
                obtain ⟨cs, hcl, hM, hcc, _⟩ := Kd.R_elem hr z35 (at' : Int) (by omega) (by omega)
                rw [Int.toNat_natCast, er, List.getD_eq_getElem?_getD, List.getElem?_append_right (by omega), hat, Nat.sub_self] at hM
                rw [Int.toNat_natCast] at hcc
                obtain rfl := k35_openM hM
                have x0 : wr.cell? ⟨q, at' * 8, none⟩ = some (.int .i64 ((i : Int) + 1)) := hcc 0 _ rfl
                have hy1 : decide (bits BinOp.and IntKind.i64 jb 1023 > D) = false := decide_eq_false (by rw [← hu]; omega)
                have hy2 : (D < bits BinOp.and IntKind.i64 jb 1023) = False := eq_false (by rw [← hu]; omega)
                have hy3 : decide (D < bits BinOp.and IntKind.i64 jb 1023) = false := decide_eq_false (by rw [← hu]; omega)
                have hz1 : decide ((at' : Int) ≥ (L : Int)) = false := decide_eq_false (by omega)
                have hz2 : ((L : Int) ≤ (at' : Int)) = False := eq_false (by omega)
                have hz3 : decide ((L : Int) ≤ (at' : Int)) = false := decide_eq_false (by omega)
                have hz4 : (L ≤ at') = False := eq_false (by omega)
                have hz5 : decide ((at' : Int) < (L : Int)) = true := decide_eq_true (by omega)
                have hz6 : (at' < L) = True := eq_true (by omega)
                have hz7 : decide (at' < L) = true := decide_eq_true (by omega)
                rw [← hL] at hz1 hz2 hz3 hz4 hz5 hz6 hz7
                clear hu hdue hM hcc hr hcl er hlen
                clear hL
                clear L
                rw [hat]
                have hlf : at' ≤ i := by rw [← hat]; exact Nat.le_trans (List.length_filter_le _ _) (onl_len _ _ _)
                go_wp2_with fail
                go_roundw
                case rel => exact ⟨i + 1, by omega, by rw [e1, hat]; go_num, by rw [e2], by go_num, by first | trivial | rfl⟩
                case measure => simp [intOf]; omega
              · obtain ⟨e1, e2⟩ := due_no (unt us) gn i D hgf hdue
                have hx1 : decide (bits BinOp.and IntKind.i64 jb 1023 > D) = true := decide_eq_true (by rw [← hu]; omega)
                have hx2 : (D < bits BinOp.and IntKind.i64 jb 1023) = True := eq_true (by rw [← hu]; omega)
                have hx3 : decide (D < bits BinOp.and IntKind.i64 jb 1023) = true := decide_eq_true (by rw [← hu]; omega)
                have hlf : ((onl (unt us) i gn).filter (notDue D)).length ≤ i := Nat.le_trans (List.length_filter_le _ _) (onl_len _ _ _)
                generalize ((onl (unt us) i gn).filter (notDue D)).length = lf at *
                clear hu hdue
                go_wp2_with fail
                go_roundw
                case rel => exact ⟨i + 1, by omega, by rw [e1], by rw [e2]; go_num, by go_num, by first | trivial | rfl⟩
                case measure => simp [intOf]; omega
          · obtain rfl : i = N := by omega
            have hd1 : decide ((i : Int) < (i : Int)) = false := decide_eq_false (by omega)
            have hd2 : decide (i < i) = false := decide_eq_false (by omega)
            go_wp2_with fail
            go_meet
            case rel => exact ⟨rfl, rfl, rfl⟩
      case rest =>
        obtain ⟨rfl, rfl, rfl⟩ := hcut
        have hc4 : (onl (unt us) N gn).length ≤ N := onl_len _ _ _
        have hl4 : ((onl (unt us) N gn).filter (notDue D)).length ≤ N := Nat.le_trans (List.length_filter_le _ _) (onl_len _ _ _)
        have hgd2 : ∀ x ∈ (onl (unt us) N gn).filter (notDue D), (keyA x).Good := by
          intro x hx
          have hx := (List.mem_filter.1 hx).1
          unfold onl at hx
          obtain ⟨i, hi, rfl⟩ := List.mem_map.1 hx
          have := List.mem_range.1 (List.mem_filter.1 hi).1
          exact key_good _ _ _ _ (by omega) (by omega)
        have TT := T6.out.mono (S' := fun _ => True) (fun _ _ => trivial)
        have hAll : ∀ W, Below wc.heap.size wc W → Calls Try.prog 20 #[.pointer (some ⟨g, 0, none⟩)] W fun e w' => (∃ A c, e = .returned (.slice A ((onl (unt us) N gn).filter (notDue D)).length c)) ∧ Below W.heap.size W w' := fun W hW => by
          refine (All_calls (TT.below hW) (by omega)).mono ?_
          rintro e w' ⟨u, rfl, hu, hb⟩
          obtain ⟨A, c, rfl⟩ := Kd.R_slice hu
          exact ⟨⟨A, c, rfl⟩, hb⟩
        have hDue : ∀ W, Below wc.heap.size wc W → Calls Try.prog 16 #[.pointer (some ⟨g, 0, none⟩), .int .i64 D] W fun e w' => (∃ A c, e = .returned (.slice A 0 c)) ∧ Below w.heap.size w w' := fun W hW => by
          refine (dueC (TT.below hW) (by omega) (by omega) (fun _ _ => trivial) hgd2 D).mono ?_
          rintro e w' ⟨uo, v', rfl, hu, -, hb, -⟩
          rw [due_left] at hu
          obtain ⟨A, c, rfl⟩ := Kd.R_slice hu
          exact ⟨⟨A, c, rfl⟩, (below_nx B6.out hW).trans hb⟩
        have hAll := Aside0.mk hAll
        have hDue := Aside0.mk hDue
        have BR : Below wc.heap.size wc wc := Below.refl _ _
        have BD : Below wc.heap.size wc wc.drew := below_drew (Below.refl _ _)
        have SR : Below w.heap.size w wc := B6.out
        have SD : Below w.heap.size w wc.drew := below_nx B6.out BD
        have B7 := B6
        clear R6 G6 T6 B6 LN TT hgd2
        go_wp2_with fail
        refine (wimplelaw0_Num.calls 0 0 _ rfl).mono ?_
        rintro e w8 ⟨rfl, ⟨nd, rfl⟩⟩
        have H8 := below_dN BR nd
        generalize wc.drewN nd = W8 at *
        simp only
        go_wp2_with fail
        refine (hAll.out _ H8).mono ?_
        rintro e w9 ⟨⟨A9, c9, rfl⟩, hb⟩
        have H9 := below_nx H8 hb
        clear hb
        simp only
        go_wp2_with fail
        refine (hDue.out _ H9).mono ?_
        rintro e w10 ⟨⟨A10, c10, rfl⟩, hb⟩
        have H10 := Aside0.mk hb
        clear hb
        simp only
        go_wp2_with fail
        go_ret
        exact ⟨rfl, H10.out⟩
end Go.Proofs.Ytojjkgnkdcekpaa.M
