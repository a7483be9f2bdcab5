-- Written by a program of this session's prover (over the kit's printer, with contracts of the session's own); Lean checks it.
import Derived.Test.YtimkafkiphfacaaPx0
import Derived.Deep.QuietTactic
import Derived.BigQuiet
import Derived.Test.YtimkafkiphfacaaPx19
import Derived.Test.YtimkafkiphfacaaPx11
import Derived.Test.YtimkafkiphfacaaPx20
namespace Go.Proofs.Ytimkafkiphfacaa.P
open Go.RowKit Go.Proofs.YtimkafkiphfacaaW.PrintWords Go.Proofs.YtimkafkiphfacaaW.PrintLast Go.Proofs.YtimkafkiphfacaaW.PrintMore
attribute [local go_sem] max2_int min2_int max_two min_two max_three min_three max_four min_four   -- for this text's walks alone
set_option linter.unusedVariables false
set_option linter.unusedSimpArgs false

attribute [local go_sem high] eqA42
/-! ### wimplelaw12_awake: function 16 -/
def wimplelaw12_awake.f (k : Nat)  : Option (Bool) := (bail_Filter.f k 0 false 0 false false false false 0 0 ([] : List (S71)) (([(⟨(⟨#[1, 97, 1, 99, 0]⟩ : ByteArray), 1, 1, 0, (⟨#[97, 98, 99, 100]⟩ : ByteArray)⟩ : S42), (⟨(⟨#[1, 97, 1, 100, 0]⟩ : ByteArray), 1, 1, 0, (⟨#[97, 98, 99, 100]⟩ : ByteArray)⟩ : S42)] : List (S42))) ([] : List (S42)) (([(⟨(⟨#[1, 97, 1, 99, 0]⟩ : ByteArray), 1, 3, 0, (⟨#[97, 98, 99, 100]⟩ : ByteArray)⟩ : S42), (⟨(⟨#[1, 97, 1, 99, 0]⟩ : ByteArray), 1, 1, 0, (⟨#[97, 98, 99, 100]⟩ : ByteArray)⟩ : S42)] : List (S42))) (⟨#[1, 67, 0]⟩ : ByteArray)).bind fun bt251 => ((bail_Filter.f k bt251.1 bt251.2.1 bt251.2.2.1 bt251.2.2.2.1 bt251.2.2.2.2.1 bt251.2.2.2.2.2.1 bt251.2.2.2.2.2.2.1 bt251.2.2.2.2.2.2.2.1 bt251.2.2.2.2.2.2.2.2.1 bt251.2.2.2.2.2.2.2.2.2.1 bt251.2.2.2.2.2.2.2.2.2.2.1 bt251.2.2.2.2.2.2.2.2.2.2.2.1 bt251.2.2.2.2.2.2.2.2.2.2.2.2.1 (⟨#[]⟩ : ByteArray)).bind fun bt274 => (if (bt251.2.2.2.2.2.2.2.2.2.2.1.length : Int) = 1 then (if 0 < (bt251.2.2.2.2.2.2.2.2.2.2.1.length : Int) then (if ((((rd_T42 bt251.2.2.2.2.2.2.2.2.2.2.1 0).f0).toList) == ([1, 97, 1, 99, 0] : List UInt8) && (((rd_T42 bt251.2.2.2.2.2.2.2.2.2.2.1 0).f1) == 1 && (((rd_T42 bt251.2.2.2.2.2.2.2.2.2.2.1 0).f2) == 1 && (((rd_T42 bt251.2.2.2.2.2.2.2.2.2.2.1 0).f3) == 0 && ((((rd_T42 bt251.2.2.2.2.2.2.2.2.2.2.1 0).f4).toList) == ([97, 98, 99, 100] : List UInt8)))))) = true then (if (bt251.2.2.2.2.2.2.2.2.2.2.2.2.1.length : Int) = 1 then ((wimplelaw0_Num.f bt251.2.2.2.2.2.2.2.2.2.2.2.2.2).bind fun t298 => (if t298 = 0 then ((wimplelaw0_Num.f bt274.2.2.2.2.2.2.2.2.2.2.2.2.2).bind fun t299 => (some (t299 == 1200))) else (none))) else (none)) else (none)) else (none)) else (none)))
theorem wimplelaw12_awake.mono : ∀ k, LeO (wimplelaw12_awake.f k ) (wimplelaw12_awake.f (k + 1) ) := by
 intro  k
 unfold wimplelaw12_awake.f
 repeat' first
   | (with_reducible exact bail_Filter.mono _ _ _ _ _ _ _ _ _ _ _ _ _ _ _)
   | (with_reducible exact LeO.refl _)
   | (with_reducible exact LeO.none _)
   | (with_reducible refine LeO.ite ?_ ?_)
   | (with_reducible refine LeO.bind ?_ (fun _ => ?_))
   | exact bail_Filter.mono _ _ _ _ _ _ _ _ _ _ _ _ _ _ _
   | exact LeO.none _
   | refine LeO.ite ?_ ?_
   | refine LeO.bind ?_ (fun _ => ?_)
def awA : S42 := ⟨(⟨#[1, 97, 1, 99, 0]⟩ : ByteArray), 1, 1, 0, (⟨#[97, 98, 99, 100]⟩ : ByteArray)⟩
def awB : S42 := ⟨(⟨#[1, 97, 1, 100, 0]⟩ : ByteArray), 1, 1, 0, (⟨#[97, 98, 99, 100]⟩ : ByteArray)⟩
def awC : S42 := ⟨(⟨#[1, 97, 1, 99, 0]⟩ : ByteArray), 1, 3, 0, (⟨#[97, 98, 99, 100]⟩ : ByteArray)⟩
/-- Two records made one behind the other. -/
theorem two_C {w : World} {g : Nat} {x y : S42} {t : TypeId} (h : w.heap[g]? = some (.cells #[.string x.f0, .int .i64 x.f1, .int .i64 x.f2, .int .i64 x.f3, .string x.f4, .string y.f0, .int .i64 y.f1, .int .i64 y.f2, .int .i64 y.f3, .string y.f4] t (0, 0))) :
    Kd.C k42 w (some ⟨g, 0, none⟩) [x, y].length [x, y] := by
  refine ⟨rfl, by simp, fun _ => ⟨_, rfl, fun j p hj => ?_⟩⟩
  match j, hj with
  | 0, hj =>
    obtain rfl := Option.some.inj hj
    refine ⟨_, rfl, k42_mk w x, fun i u hi => ?_⟩
    match i, hi with
    | 0, hi => obtain rfl := Option.some.inj hi; exact (blk_cell h 0).trans rfl
    | 1, hi => obtain rfl := Option.some.inj hi; exact (blk_cell h 1).trans rfl
    | 2, hi => obtain rfl := Option.some.inj hi; exact (blk_cell h 2).trans rfl
    | 3, hi => obtain rfl := Option.some.inj hi; exact (blk_cell h 3).trans rfl
    | 4, hi => obtain rfl := Option.some.inj hi; exact (blk_cell h 4).trans rfl
  | 1, hj =>
    obtain rfl := Option.some.inj hj
    refine ⟨_, rfl, k42_mk w y, fun i u hi => ?_⟩
    match i, hi with
    | 0, hi => obtain rfl := Option.some.inj hi; exact (blk_cell h 5).trans rfl
    | 1, hi => obtain rfl := Option.some.inj hi; exact (blk_cell h 6).trans rfl
    | 2, hi => obtain rfl := Option.some.inj hi; exact (blk_cell h 7).trans rfl
    | 3, hi => obtain rfl := Option.some.inj hi; exact (blk_cell h 8).trans rfl
    | 4, hi => obtain rfl := Option.some.inj hi; exact (blk_cell h 9).trans rfl
theorem nil_C {α : Type} (d : Kd α) (w : World) : Kd.C d w none ([] : List α).length [] := ⟨rfl, by simp, fun h => absurd h (by simp)⟩
theorem heap5 (w : World) (o0 o1 o2 o3 o4 : Obj) : (((((w.alloc o0).alloc o1).alloc o2).alloc o3).alloc o4).heap[w.heap.size]? = some o0 ∧ (((((w.alloc o0).alloc o1).alloc o2).alloc o3).alloc o4).heap[w.heap.size + 1 + 1 + 1]? = some o3 ∧ (((((w.alloc o0).alloc o1).alloc o2).alloc o3).alloc o4).heap[w.heap.size + 1 + 1 + 1 + 1]? = some o4 := by
  have e3 : (((w.alloc o0).alloc o1).alloc o2).heap.size = w.heap.size + 1 + 1 + 1 := by simp
  have e4 : ((((w.alloc o0).alloc o1).alloc o2).alloc o3).heap.size = w.heap.size + 1 + 1 + 1 + 1 := by simp
  refine ⟨blk_alloc (blk_alloc (blk_alloc (blk_alloc (blk_new w o0) _) _) _) _, ?_, ?_⟩
  · rw [← e3]
    exact blk_alloc (blk_new _ o3) _
  · rw [← e4]
    exact blk_new _ o4
theorem below5 {w w1 : World} {o0 o1 o2 o3 o4 : Obj} (hb : Below (((((w.alloc o0).alloc o1).alloc o2).alloc o3).alloc o4).heap.size (((((w.alloc o0).alloc o1).alloc o2).alloc o3).alloc o4) w1) : Below w.heap.size w w1 :=
  have h := below_alloc (below_alloc (below_alloc (below_alloc (below_alloc (Below.refl w.heap.size w) o0) o1) o2) o3) o4
  below_then h h.size hb
theorem below1 {w w1 w2 : World} {o : Obj} (h : Below w.heap.size w w1) (hb : Below (w1.alloc o).heap.size (w1.alloc o) w2) : Below w.heap.size w w2 :=
  below_then (below_alloc h o) (below_alloc h o).size hb
set_option maxHeartbeats 4000000 in
set_option maxRecDepth 100000 in
theorem awake_walk (k : Nat) (w : World) (h0 : Int) (h1 : Bool) (h2 : Int) (h3 h4 h5 h6 : Bool) (h7 h8 : Int) (q : List S71) (n : List S42) (y : S42) (g0 : Int) (g1 : Bool) (g2 : Int) (g3 g4 g5 g6 : Bool) (g7 g8 : Int) (gq : List S71) (ga gn gr : List S42) (g : Int)
    (H1 : Aside0 (bail_Filter.f k 0 false 0 false false false false 0 0 [] [awA, awB] [] [awC, awA] (⟨#[1, 67, 0]⟩ : ByteArray) = some (h0, h1, h2, h3, h4, h5, h6, h7, h8, q, [awA], n, [y], 0)))
    (H2 : Aside0 (bail_Filter.f k h0 h1 h2 h3 h4 h5 h6 h7 h8 q [awA] n [y] (⟨#[]⟩ : ByteArray) = some (g0, g1, g2, g3, g4, g5, g6, g7, g8, gq, ga, gn, gr, g))) : Calls Try.prog 16 #[] w fun e w' => e = .returned (.bool (g == 1200)) ∧ Below w.heap.size w w' := by
  have hu42 := Try.underlying42
  have hu27 := Try.underlying27
  go_enter Try.func16, Try.ntmps16
  try simp only [List.append_eq, List.cons_append, List.nil_append]
  go_wp2_with fail
  refine (bail_Filter.calls k 0 false 0 false false false false 0 0 none 0 [] _ 2 [awA, awB] none 0 [] _ 2 [awC, awA] (⟨#[1, 67, 0]⟩ : ByteArray) h0 h1 h2 h3 h4 h5 h6 h7 h8 q [awA] n [y] 0 _ (nil_C _ _) (Nat.le_refl _) (two_C (t := 42) ?a1) (Nat.le_refl _) (nil_C _ _) (Nat.le_refl _) (two_C (t := 42) ?a2) (Nat.le_refl _) H1.out).mono ?_
  case a1 => exact (heap5 _ _ _ _ _ _).2.1
  case a2 => exact (heap5 _ _ _ _ _ _).2.2
  rintro e w1 ⟨v9, v10, v11, v12, rfl, ho0, ho1, ho2, ho3, hb⟩
  obtain ⟨A9, c9, rfl, l9, r9⟩ := Kd.R_reads ho0
  obtain ⟨A10, c10, rfl, l10, r10⟩ := Kd.R_reads ho1
  obtain ⟨A11, c11, rfl, l11, r11⟩ := Kd.R_reads ho2
  obtain ⟨A12, c12, rfl, l12, r12⟩ := Kd.R_reads ho3
  have HB := Aside0.mk hb
  have R9 := Aside0.mk r9
  have R10 := Aside0.mk r10
  have R11 := Aside0.mk r11
  have R12 := Aside0.mk r12
  have L9 := Aside0.mk l9
  have L10 := Aside0.mk l10
  have L11 := Aside0.mk l11
  have L12 := Aside0.mk l12
  clear ho0 ho1 ho2 ho3 hb r9 r10 r11 r12 l9 l10 l11 l12
  have BA := Aside0.mk (blk_below (heap5 _ _ _ _ _ _).1 HB.out)
  obtain ⟨ad, e10, q0, q1, q2, q3, q4⟩ := at_T42 R10.out 0 (by decide) (by decide)
  have Q0 := Aside0.mk q0
  have Q1 := Aside0.mk q1
  have Q2 := Aside0.mk q2
  have Q3 := Aside0.mk q3
  have Q4 := Aside0.mk q4
  cases e10
  clear q0 q1 q2 q3 q4
  have S1 := Aside0.mk (below5 HB.out)
  simp only
  go_wp2_with fail
  refine (bail_Filter.calls k h0 h1 h2 h3 h4 h5 h6 h7 h8 A9 c9 q (some ad) c10 [awA] A11 c11 n A12 c12 [y] (⟨#[]⟩ : ByteArray) g0 g1 g2 g3 g4 g5 g6 g7 g8 gq ga gn gr g _ (Kd.C_alloc R9.out _) L9.out (Kd.C_alloc R10.out _) L10.out (Kd.C_alloc R11.out _) L11.out (Kd.C_alloc R12.out _) L12.out H2.out).mono ?_
  rintro e w2 ⟨v9, v10, v11, v12, rfl, ho0, ho1, ho2, ho3, hb⟩
  obtain ⟨A29, c29, rfl, -, -⟩ := Kd.R_reads ho0
  obtain ⟨A30, c30, rfl, -, -⟩ := Kd.R_reads ho1
  obtain ⟨A31, c31, rfl, -, -⟩ := Kd.R_reads ho2
  obtain ⟨A32, c32, rfl, -, -⟩ := Kd.R_reads ho3
  clear ho0 ho1 ho2 ho3
  have BA2 := Aside0.mk (blk_below (blk_alloc BA.out _) hb)
  have BM2 := Aside0.mk (blk_below (blk_new w1 _) hb)
  have P0 := Aside0.mk (pw_cell_below hb (pw_cell_below ((Below.refl _ w1).alloc (Nat.le_refl _) _) Q0.out))
  have P1 := Aside0.mk (pw_cell_below hb (pw_cell_below ((Below.refl _ w1).alloc (Nat.le_refl _) _) Q1.out))
  have P2 := Aside0.mk (pw_cell_below hb (pw_cell_below ((Below.refl _ w1).alloc (Nat.le_refl _) _) Q2.out))
  have P3 := Aside0.mk (pw_cell_below hb (pw_cell_below ((Below.refl _ w1).alloc (Nat.le_refl _) _) Q3.out))
  have P4 := Aside0.mk (pw_cell_below hb (pw_cell_below ((Below.refl _ w1).alloc (Nat.le_refl _) _) Q4.out))
  have S2 := Aside0.mk (below1 S1.out hb)
  clear BA HB hb Q0 Q1 Q2 Q3 Q4 R9 R10 R11 R12 L9 L10 L11 L12 H1 H2 S1
  simp only
  go_wp2_with fail
  generalize hW3 : w2.alloc _ = W3
  have m0 : W3.cell? ⟨w1.heap.size, 0, none⟩ = some (.int .i64 h0) := by rw [← hW3]; exact (blk_cell (blk_alloc BM2.out _) 0).trans rfl
  have m1 : W3.cell? ⟨w1.heap.size, 1, none⟩ = some (.bool h1) := by rw [← hW3]; exact (blk_cell (blk_alloc BM2.out _) 1).trans rfl
  have m2 : W3.cell? ⟨w1.heap.size, 2, none⟩ = some (.int .i64 h2) := by rw [← hW3]; exact (blk_cell (blk_alloc BM2.out _) 2).trans rfl
  have m3 : W3.cell? ⟨w1.heap.size, 3, none⟩ = some (.bool h3) := by rw [← hW3]; exact (blk_cell (blk_alloc BM2.out _) 3).trans rfl
  have m4 : W3.cell? ⟨w1.heap.size, 4, none⟩ = some (.bool h4) := by rw [← hW3]; exact (blk_cell (blk_alloc BM2.out _) 4).trans rfl
  have m5 : W3.cell? ⟨w1.heap.size, 5, none⟩ = some (.bool h5) := by rw [← hW3]; exact (blk_cell (blk_alloc BM2.out _) 5).trans rfl
  have m6 : W3.cell? ⟨w1.heap.size, 6, none⟩ = some (.bool h6) := by rw [← hW3]; exact (blk_cell (blk_alloc BM2.out _) 6).trans rfl
  have m7 : W3.cell? ⟨w1.heap.size, 7, none⟩ = some (.int .i64 h7) := by rw [← hW3]; exact (blk_cell (blk_alloc BM2.out _) 7).trans rfl
  have m8 : W3.cell? ⟨w1.heap.size, 8, none⟩ = some (.int .i64 h8) := by rw [← hW3]; exact (blk_cell (blk_alloc BM2.out _) 8).trans rfl
  have m9 : W3.cell? ⟨w1.heap.size, 9, none⟩ = some (.slice A9 q.length c9) := by rw [← hW3]; exact (blk_cell (blk_alloc BM2.out _) 9).trans rfl
  have m10 : W3.cell? ⟨w1.heap.size, 10, none⟩ = some (.slice (some ad) 1 c10) := by rw [← hW3]; exact (blk_cell (blk_alloc BM2.out _) 10).trans rfl
  have m11 : W3.cell? ⟨w1.heap.size, 11, none⟩ = some (.slice A11 n.length c11) := by rw [← hW3]; exact (blk_cell (blk_alloc BM2.out _) 11).trans rfl
  have m12 : W3.cell? ⟨w1.heap.size, 12, none⟩ = some (.slice A12 1 c12) := by rw [← hW3]; exact (blk_cell (blk_alloc BM2.out _) 12).trans rfl
  have a0 : W3.cell? ⟨w.heap.size, 0, none⟩ = some (.string (⟨#[1, 97, 1, 99, 0]⟩ : ByteArray)) := by rw [← hW3]; exact (blk_cell (blk_alloc BA2.out _) 0).trans rfl
  have a1 : W3.cell? ⟨w.heap.size, 1, none⟩ = some (.int .i64 1) := by rw [← hW3]; exact (blk_cell (blk_alloc BA2.out _) 1).trans rfl
  have a2 : W3.cell? ⟨w.heap.size, 2, none⟩ = some (.int .i64 1) := by rw [← hW3]; exact (blk_cell (blk_alloc BA2.out _) 2).trans rfl
  have a3 : W3.cell? ⟨w.heap.size, 3, none⟩ = some (.int .i64 0) := by rw [← hW3]; exact (blk_cell (blk_alloc BA2.out _) 3).trans rfl
  have a4 : W3.cell? ⟨w.heap.size, 4, none⟩ = some (.string (⟨#[97, 98, 99, 100]⟩ : ByteArray)) := by rw [← hW3]; exact (blk_cell (blk_alloc BA2.out _) 4).trans rfl
  have p0 : W3.cell? (ad.add (Int.toNat 0 * 5)) = some (.string (⟨#[1, 97, 1, 99, 0]⟩ : ByteArray)) := by rw [← hW3]; exact pw_cell_below ((Below.refl _ w2).alloc (Nat.le_refl _) _) P0.out
  have p1 : W3.cell? (⟨(ad.add (Int.toNat 0 * 5)).block, (ad.add (Int.toNat 0 * 5)).off + 1, none⟩) = some (.int .i64 1) := by rw [← hW3]; exact pw_cell_below ((Below.refl _ w2).alloc (Nat.le_refl _) _) P1.out
  have p2 : W3.cell? (⟨(ad.add (Int.toNat 0 * 5)).block, (ad.add (Int.toNat 0 * 5)).off + 2, none⟩) = some (.int .i64 1) := by rw [← hW3]; exact pw_cell_below ((Below.refl _ w2).alloc (Nat.le_refl _) _) P2.out
  have p3 : W3.cell? (⟨(ad.add (Int.toNat 0 * 5)).block, (ad.add (Int.toNat 0 * 5)).off + 3, none⟩) = some (.int .i64 0) := by rw [← hW3]; exact pw_cell_below ((Below.refl _ w2).alloc (Nat.le_refl _) _) P3.out
  have p4 : W3.cell? (⟨(ad.add (Int.toNat 0 * 5)).block, (ad.add (Int.toNat 0 * 5)).off + 4, none⟩) = some (.string (⟨#[97, 98, 99, 100]⟩ : ByteArray)) := by rw [← hW3]; exact pw_cell_below ((Below.refl _ w2).alloc (Nat.le_refl _) _) P4.out
  have S3 : Aside0 (Below w.heap.size w W3) := ⟨by rw [← hW3]; exact below_alloc S2.out _⟩
  clear hW3 S2 BA2 BM2 P0 P1 P2 P3 P4
  have ea : ad.add (Int.toNat 0 * 5) = ad := by cases ad; rfl
  rw [ea] at p0 p1 p2 p3 p4
  clear ea
  refine wp_region_quiet_lit (by kernel_rfl) (by kernel_rfl) ?_
  repeat (any_goals (first | go_big_quiet_step ((first | (go_at_call 14; (with_reducible refine (wimplelaw0_Num.calls 0 0 _ rfl).mono ?_); rintro e w' ⟨rfl, ⟨nd, rfl⟩⟩; (try first | exact ⟨rfl, _, World.drewN_drewN _ _ _⟩ | exact ⟨rfl, _, Eq.trans (World.drewN_drewN _ _ _) (congrArg (World.drewN _) (Nat.add_assoc _ _ _))⟩)) | (go_at_call 14; (with_reducible refine (wimplelaw0_Num.calls g g _ rfl).mono ?_); rintro e w' ⟨rfl, ⟨nd, rfl⟩⟩; (try first | exact ⟨rfl, _, World.drewN_drewN _ _ _⟩ | exact ⟨rfl, _, Eq.trans (World.drewN_drewN _ _ _) (congrArg (World.drewN _) (Nat.add_assoc _ _ _))⟩)))) | quiet_step ((first | (go_at_call 14; (with_reducible refine (wimplelaw0_Num.calls 0 0 _ rfl).mono ?_); rintro e w' ⟨rfl, ⟨nd, rfl⟩⟩; (try first | exact ⟨rfl, _, World.drewN_drewN _ _ _⟩ | exact ⟨rfl, _, Eq.trans (World.drewN_drewN _ _ _) (congrArg (World.drewN _) (Nat.add_assoc _ _ _))⟩)) | (go_at_call 14; (with_reducible refine (wimplelaw0_Num.calls g g _ rfl).mono ?_); rintro e w' ⟨rfl, ⟨nd, rfl⟩⟩; (try first | exact ⟨rfl, _, World.drewN_drewN _ _ _⟩ | exact ⟨rfl, _, Eq.trans (World.drewN_drewN _ _ _) (congrArg (World.drewN _) (Nat.add_assoc _ _ _))⟩))))))
  all_goals (refine wpQuiet_nil ?_; intro _ hw'; obtain ⟨nq, hw''⟩ := hw'; subst hw'')
  try go_wp2
  go_ret
  exact ⟨by first | rfl | simp, pw_below_drewN S3.out _⟩
theorem ba_eq {s : ByteArray} {l : List UInt8} (h : s.toList = l) : s = ⟨l.toArray⟩ := by
  rw [ByteArray.toList_eq] at h
  cases s with
  | mk d =>
    subst h
    simp
theorem eq_awA (x : S42) (h : (((x.f0).toList) == ([1, 97, 1, 99, 0] : List UInt8) && ((x.f1) == 1 && ((x.f2) == 1 && ((x.f3) == 0 && (((x.f4).toList) == ([97, 98, 99, 100] : List UInt8)))))) = true) : x = awA := by
  simp only [Bool.and_eq_true, beq_iff_eq] at h
  obtain ⟨h0, h1, h2, h3, h4⟩ := h
  have e0 := ba_eq h0
  have e4 := ba_eq h4
  cases x with
  | mk f0 f1 f2 f3 f4 =>
    simp only at e0 e4 h1 h2 h3
    subst e0 e4 h1 h2 h3
    rfl
theorem wimplelaw12_awake.calls (k : Nat)  (r : Bool) (w : World) (h : wimplelaw12_awake.f k  = some r) :
  Calls Try.prog 16 #[] w fun e w' => e = .returned (.bool r) ∧ Below w.heap.size w w' := by
  unfold wimplelaw12_awake.f at h
  obtain ⟨⟨t251, t252, t253, t254, t255, t256, t257, t258, t259, t260, t263, t266, t269, t272⟩, A1, h⟩ := Option.bind_eq_some_iff.mp h
  obtain ⟨⟨t274, t275, t276, t277, t278, t279, t280, t281, t282, t283, t286, t289, t292, t295⟩, A2, h⟩ := Option.bind_eq_some_iff.mp h
  dsimp only at h A2
  by_cases c3 : (t263.length : Int) = 1
  · rw [if_pos c3, if_pos (by omega)] at h
    by_cases c5 : ((((rd_T42 t263 0).f0).toList) == ([1, 97, 1, 99, 0] : List UInt8) && (((rd_T42 t263 0).f1) == 1 && (((rd_T42 t263 0).f2) == 1 && (((rd_T42 t263 0).f3) == 0 && ((((rd_T42 t263 0).f4).toList) == ([97, 98, 99, 100] : List UInt8)))))) = true
    · rw [if_pos c5] at h
      by_cases c6 : (t269.length : Int) = 1
      · rw [if_pos c6] at h
        obtain ⟨t298, A7, h⟩ := Option.bind_eq_some_iff.mp h
        obtain rfl : t272 = t298 := Option.some.inj A7
        by_cases c8 : t272 = 0
        · rw [if_pos c8] at h
          obtain ⟨t299, A9, h⟩ := Option.bind_eq_some_iff.mp h
          obtain rfl : t295 = t299 := Option.some.inj A9
          obtain rfl := Option.some.inj h
          subst c8
          obtain ⟨x, rfl⟩ := List.length_eq_one_iff.1 (show t263.length = 1 by omega)
          obtain ⟨y, rfl⟩ := List.length_eq_one_iff.1 (show t269.length = 1 by omega)
          obtain rfl := eq_awA x c5
          exact awake_walk k w _ _ _ _ _ _ _ _ _ _ _ _ _ _ _ _ _ _ _ _ _ _ _ _ _ _ (Aside0.mk A1) (Aside0.mk A2)
        · rw [if_neg c8] at h
          cases h
      · rw [if_neg c6] at h
        cases h
    · rw [if_neg c5] at h
      cases h
  · rw [if_neg c3] at h
    cases h

/-! ### wimplelaw0_CopyTexts: function 44 -/
def wimplelaw0_CopyTexts.f (l0 : List ByteArray) : Option (List ByteArray) := (some (([] : List ByteArray) : List ByteArray)).bind fun y546 => (if y546.length + l0.length < 8796093022208 then (some (y546 ++ l0)) else (none))
set_option maxHeartbeats 8000000 in
set_option maxRecDepth 100000 in
theorem wimplelaw0_CopyTexts.calls (A0 : Option Addr) (c0 : Nat) (l0 : List ByteArray) (r : List ByteArray) (w : World) (hr0 : Kd.C Kd.string w A0 l0.length l0) (hc0 : l0.length ≤ c0) (h : wimplelaw0_CopyTexts.f l0 = some r) :
    Calls Try.prog 44 #[.slice A0 l0.length c0] w fun e w' => ∃ v0_ : Value, e = .returned (v0_) ∧ Kd.R Kd.string 9 w' w.heap.size (fun _ => True) v0_ r ∧ Below w.heap.size w w' := by
  have HR0 := Aside0.mk hr0
  have HC0 := Aside0.mk hc0
  clear hr0 hc0
  have HB := Aside0.mk (Below.refl w.heap.size w)
  have H : ((some (([] : List ByteArray) : List ByteArray)).bind fun y546 => (if y546.length + l0.length < 8796093022208 then (some (y546 ++ l0)) else (none))) = some r := h
  clear h
  obtain ⟨y546, hy546⟩ : ∃ y_ : List ByteArray, y_ = (([] : List ByteArray)) := ⟨_, rfl⟩
  replace H : (if y546.length + l0.length < 8796093022208 then (some (y546 ++ l0)) else (none)) = some r := by first | (rw [hy546]; with_reducible exact H) | (have H2_ := (Option.bind_some _ _).symm.trans H; rw [hy546]; with_reducible exact H2_) | (have H2_ := (Option.bind_some _ _).symm.trans H; with_reducible exact H2_) | with_reducible exact H | (rw [hy546]; exact H) | exact H
  have Ny546 := Aside0.mk hy546
  clear hy546
  by_cases c2 : y546.length + l0.length < 8796093022208
  · rw [if_pos c2] at H
    have LMc2 := Aside0.mk c2
    clear c2
    obtain ⟨y549, hy549⟩ : ∃ y_ : List ByteArray, y_ = (y546 ++ l0) := ⟨_, rfl⟩
    replace H : (some y549) = some r := by first | (rw [hy549]; with_reducible exact H) | (have H2_ := (Option.bind_some _ _).symm.trans H; rw [hy549]; with_reducible exact H2_) | (have H2_ := (Option.bind_some _ _).symm.trans H; with_reducible exact H2_) | with_reducible exact H | (rw [hy549]; exact H) | exact H
    have Ny549 := Aside0.mk hy549
    clear hy549
    obtain rfl := Option.some.inj H
    go_enter Try.func44, Try.ntmps44
    try simp only [List.append_eq, List.cons_append, List.nil_append]
    go_wp2_with (first | ((with_reducible refine gate_dst (N := 3) rfl ?_); refine Kd.R_lit Kd.string _ 9 ?hg (N := 3) ?hd (xs := ([] : List ByteArray)) (inner := []) (ok := fun _ => True) (okp := fun _ => True) ?hr ?hp (fun _ hk => hk) trivial (Below.refl _ _) (Nat.le_refl _) (by simp) ?_; (case hd => rfl); (case hg => rfl); (case hr => first | (go_simp; done) | (go_simp; rfl)); (case hp => exact (Reps.none _ _)); intro v547 w3 ho4 hb hg_ hnew_; clear hg_ hnew_; (first | rw [← Ny546.out] at ho4 | (simp only [Int.reduceToNat] at ho4; rw [← Ny546.out] at ho4)); have n0_ := Aside0.mk (Kd.R_lower ho4 (below_size (by repeat (first | (with_reducible first | exact HB.out | apply below_alloc | apply pw_below_drewN | apply below_drew1) | exact HB.out)))); have n1_ := Aside0.mk (below_step (by repeat (first | (with_reducible first | exact HB.out | apply below_alloc | apply pw_below_drewN | apply below_drew1) | exact HB.out)) hb); clear HB; have HO548 := n0_; have HB := n1_; clear n0_ n1_; clear hb ho4) | ((with_reducible refine gate_builtin (b := .append) (xs := #[(.tmp 3), .tmp 4]) rfl ?_); at_builtin; refine Kd.R_append_rows Kd.string (w0 := w) w.heap.size rfl (.tmp 3) (.tmp 4) 47 9 (.string ⟨#[]⟩) 16 rfl Try.underlying47 info9 rfl (by decide) (by omega) v547 y546 l0 _ _ _ (fun _ => True) (fun _ => False) rfl rfl ?aO ?aR (fun _ _ h => h) (fun _ h => h.elim) ?aF ?aB ?aS ?aL ?_; (case aR => repeat (first | exact (Kd.C_below HR0.out HB.out) | (with_reducible refine Kd.C_alloc ?_ _) | (with_reducible refine Kd.C_drewN ?_ _) | (with_reducible refine Kd.C_drew ?_))); (case aB => exact (by repeat (first | (with_reducible first | exact HB.out | apply below_alloc | apply pw_below_drewN | apply below_drew1) | exact HB.out))); (case aF => exact (fun _ _ => trivial)); (case aO => exact (by (with_reducible repeat (first | apply Kd.R_alloc | apply Kd.R_drewN | apply Kd.R_drew)); exact HO548.out)); (case aS => exact (below_size (by repeat (first | (with_reducible first | exact HB.out | apply below_alloc | apply pw_below_drewN | apply below_drew1) | exact HB.out)))); (case aL => have := LMc2.out; omega); intro v550 w5 ho hb hg hat; rw [← Ny549.out] at ho; have n0_ := Aside0.mk (hb); have n1_ := Aside0.mk (ho); clear HB; clear HO548; have HB := n0_; have HO551 := n1_; clear n0_ n1_; clear ho hb hg hat))
    go_ret
    exact ⟨_, by first | rfl | (simp [errW_none, errW_some] <;> rfl) | (simp [*, errW_none, errW_some] <;> rfl), by (with_reducible repeat (first | apply Kd.R_alloc | apply Kd.R_drewN | apply Kd.R_drew)); exact HO551.out, by repeat (first | (with_reducible first | exact HB.out | apply below_alloc | apply pw_below_drewN | apply below_drew1) | exact HB.out)⟩
  · rw [if_neg c2] at H
    exact absurd H (by simp)

/-! ### wimplelaw0_LendTexts: function 21 -/
def wimplelaw0_LendTexts.f (l0 : List ByteArray) : Option (List ByteArray) := (wimplelaw0_CopyTexts.f l0).bind fun t552 => ((some (([(⟨#[126, 114, 111, 111, 109]⟩ : ByteArray), (⟨#[126, 98, 101, 104, 105, 110, 100]⟩ : ByteArray)] : List ByteArray) : List ByteArray)).bind fun y555 => (if t552.length + y555.length < 8796093022208 then ((some (t552 ++ y555 : List ByteArray)).bind fun y558 => (if 0 ≤ (l0.length : Int) then (if (l0.length : Int) ≤ (y558.length : Int) then (some (y558.take ((l0.length : Int) : Int).toNat)) else (none)) else (none))) else (none)))
set_option maxHeartbeats 8000000 in
set_option maxRecDepth 100000 in
theorem wimplelaw0_LendTexts.calls (A0 : Option Addr) (c0 : Nat) (l0 : List ByteArray) (r : List ByteArray) (w : World) (hr0 : Kd.C Kd.string w A0 l0.length l0) (hc0 : l0.length ≤ c0) (h : wimplelaw0_LendTexts.f l0 = some r) :
    Calls Try.prog 21 #[.slice A0 l0.length c0] w fun e w' => ∃ v0_ : Value, e = .returned (v0_) ∧ Kd.R Kd.string 9 w' w.heap.size (fun _ => True) v0_ r ∧ Below w.heap.size w w' := by
  have HR0 := Aside0.mk hr0
  have HC0 := Aside0.mk hc0
  clear hr0 hc0
  have HB := Aside0.mk (Below.refl w.heap.size w)
  have H : ((wimplelaw0_CopyTexts.f l0).bind fun t552 => ((some (([(⟨#[126, 114, 111, 111, 109]⟩ : ByteArray), (⟨#[126, 98, 101, 104, 105, 110, 100]⟩ : ByteArray)] : List ByteArray) : List ByteArray)).bind fun y555 => (if t552.length + y555.length < 8796093022208 then ((some (t552 ++ y555 : List ByteArray)).bind fun y558 => (if 0 ≤ (l0.length : Int) then (if (l0.length : Int) ≤ (y558.length : Int) then (some (y558.take ((l0.length : Int) : Int).toNat)) else (none)) else (none))) else (none)))) = some r := h
  clear h
  replace H := Option.bind_eq_some_iff.mp H
  obtain ⟨t552, A20, H⟩ := H
  replace H : ((some (([(⟨#[126, 114, 111, 111, 109]⟩ : ByteArray), (⟨#[126, 98, 101, 104, 105, 110, 100]⟩ : ByteArray)] : List ByteArray) : List ByteArray)).bind fun y555 => (if t552.length + y555.length < 8796093022208 then ((some (t552 ++ y555 : List ByteArray)).bind fun y558 => (if 0 ≤ (l0.length : Int) then (if (l0.length : Int) ≤ (y558.length : Int) then (some (y558.take ((l0.length : Int) : Int).toNat)) else (none)) else (none))) else (none))) = some r := H
  have A2 := Aside0.mk A20
  clear A20
  obtain ⟨y555, hy555⟩ : ∃ y_ : List ByteArray, y_ = (([(⟨#[126, 114, 111, 111, 109]⟩ : ByteArray), (⟨#[126, 98, 101, 104, 105, 110, 100]⟩ : ByteArray)] : List ByteArray)) := ⟨_, rfl⟩
  replace H : (if t552.length + y555.length < 8796093022208 then ((some (t552 ++ y555 : List ByteArray)).bind fun y558 => (if 0 ≤ (l0.length : Int) then (if (l0.length : Int) ≤ (y558.length : Int) then (some (y558.take ((l0.length : Int) : Int).toNat)) else (none)) else (none))) else (none)) = some r := by first | (rw [hy555]; with_reducible exact H) | (have H2_ := (Option.bind_some _ _).symm.trans H; rw [hy555]; with_reducible exact H2_) | (have H2_ := (Option.bind_some _ _).symm.trans H; with_reducible exact H2_) | with_reducible exact H | (rw [hy555]; exact H) | exact H
  have Ny555 := Aside0.mk hy555
  clear hy555
  by_cases c3 : t552.length + y555.length < 8796093022208
  · rw [if_pos c3] at H
    have LMc3 := Aside0.mk c3
    clear c3
    obtain ⟨y558, hy558⟩ : ∃ y_ : List ByteArray, y_ = (t552 ++ y555) := ⟨_, rfl⟩
    replace H : (if 0 ≤ (l0.length : Int) then (if (l0.length : Int) ≤ (y558.length : Int) then (some (y558.take ((l0.length : Int) : Int).toNat)) else (none)) else (none)) = some r := by first | (rw [hy558]; with_reducible exact H) | (have H2_ := (Option.bind_some _ _).symm.trans H; rw [hy558]; with_reducible exact H2_) | (have H2_ := (Option.bind_some _ _).symm.trans H; with_reducible exact H2_) | with_reducible exact H | (rw [hy558]; exact H) | exact H
    have Ny558 := Aside0.mk hy558
    clear hy558
    by_cases c4 : 0 ≤ (l0.length : Int)
    · rw [if_pos c4] at H
      have c4b0 := eq_true c4
      have c4b1 : decide (0 ≤ (l0.length : Int)) = true := decide_eq_true c4
      clear c4
      by_cases c5 : (l0.length : Int) ≤ (y558.length : Int)
      · rw [if_pos c5] at H
        have c5b0 := eq_true c5
        have c5b1 : decide ((l0.length : Int) ≤ (y558.length : Int)) = true := decide_eq_true c5
        clear c5
        obtain ⟨y561, hy561⟩ : ∃ y_ : List ByteArray, y_ = (y558.take ((l0.length : Int) : Int).toNat) := ⟨_, rfl⟩
        replace H : (some y561) = some r := by first | (rw [hy561]; with_reducible exact H) | (have H2_ := (Option.bind_some _ _).symm.trans H; rw [hy561]; with_reducible exact H2_) | (have H2_ := (Option.bind_some _ _).symm.trans H; with_reducible exact H2_) | with_reducible exact H | (rw [hy561]; exact H) | exact H
        have Ny561 := Aside0.mk hy561
        clear hy561
        obtain rfl := Option.some.inj H
        go_enter Try.func21, Try.ntmps21
        try simp only [List.append_eq, List.cons_append, List.nil_append]
        go_wp2_with (first | ((with_reducible refine gate_callee (f := 44) rfl ?_); refine goesL_ (some 5) rfl rfl Try.func44 (by kernel_rfl) rfl #[.slice A0 l0.length c0] rfl (by (try simp only [List.map_toArray, List.map_cons, List.map_nil]); first | done | rfl | (simp only [List.length_drop, List.length_take]; rfl)) ?_; (with_reducible refine (wimplelaw0_CopyTexts.calls _ _ l0 t552 _ ?side1 ?side2 A2.out).mono ?_); (case side1 => repeat (first | exact HR0.out | (with_reducible refine Kd.C_alloc ?_ _) | (with_reducible refine Kd.C_drewN ?_ _) | (with_reducible refine Kd.C_drew ?_))); (case side2 => exact HC0.out); rintro e w6 ⟨v553, rfl, ho0, hb⟩; refine ⟨_, rfl, ?_⟩; have n0_ := Aside0.mk (Kd.R_lower ho0 (below_size (by repeat (first | (with_reducible first | exact HB.out | apply below_alloc | apply pw_below_drewN | apply below_drew1) | exact HB.out)))); have n1_ := Aside0.mk (below_step (by repeat (first | (with_reducible first | exact HB.out | apply below_alloc | apply pw_below_drewN | apply below_drew1) | exact HB.out)) hb); clear HB; have HO554 := n0_; have HB := n1_; clear n0_ n1_; (try clear hb); (try clear hb2); (try clear hk); (try clear hi); (try clear ho0)) | ((with_reducible refine gate_dst (N := 6) rfl ?_); refine Kd.R_lit Kd.string _ 9 ?hg (N := 6) ?hd (xs := ([(⟨#[126, 114, 111, 111, 109]⟩ : ByteArray), (⟨#[126, 98, 101, 104, 105, 110, 100]⟩ : ByteArray)] : List ByteArray)) (inner := [.string (⟨#[126, 114, 111, 111, 109]⟩ : ByteArray), .string (⟨#[126, 98, 101, 104, 105, 110, 100]⟩ : ByteArray)]) (ok := fun _ => True) (okp := fun _ => True) ?hr ?hp (fun _ hk => hk) trivial (Below.refl _ _) (Nat.le_refl _) (by simp) ?_; (case hd => rfl); (case hg => rfl); (case hr => first | (go_simp; done) | (go_simp; rfl)); (case hp => exact (Reps.one (show Kd.M Kd.string _ _ _ (⟨#[126, 114, 111, 111, 109]⟩ : ByteArray) [.string (⟨#[126, 114, 111, 111, 109]⟩ : ByteArray)] from rfl) (Reps.one (show Kd.M Kd.string _ _ _ (⟨#[126, 98, 101, 104, 105, 110, 100]⟩ : ByteArray) [.string (⟨#[126, 98, 101, 104, 105, 110, 100]⟩ : ByteArray)] from rfl) (Reps.none _ _)))); intro v556 w7 ho8 hb hg_ hnew_; clear hg_ hnew_; (first | rw [← Ny555.out] at ho8 | (simp only [Int.reduceToNat] at ho8; rw [← Ny555.out] at ho8)); have n0_ := Aside0.mk (Kd.R_elder' (by (with_reducible repeat (first | apply Kd.R_alloc | apply Kd.R_drewN | apply Kd.R_drew)); exact HO554.out) (Kd.R_base ho8) hb); have n1_ := Aside0.mk (Kd.R_lower (Kd.R_new' ho8 (Kd.R_lt (by (with_reducible repeat (first | apply Kd.R_alloc | apply Kd.R_drewN | apply Kd.R_drew)); exact HO554.out))) (below_size (by repeat (first | (with_reducible first | exact HB.out | apply below_alloc | apply pw_below_drewN | apply below_drew1) | exact HB.out)))); have n2_ := Aside0.mk (below_step (by repeat (first | (with_reducible first | exact HB.out | apply below_alloc | apply pw_below_drewN | apply below_drew1) | exact HB.out)) hb); clear HO554; clear HB; have HO554 := n0_; have HO557 := n1_; have HB := n2_; clear n0_ n1_ n2_; clear hb ho8; obtain ⟨Ao10, co10, eo10⟩ := Kd.R_slice HO557.out; subst eo10) | ((with_reducible refine gate_builtin (b := .append) (xs := #[(.tmp 5), .tmp 6]) rfl ?_); at_builtin; refine Kd.R_append_rows Kd.string (w0 := w) w.heap.size rfl (.tmp 5) (.tmp 6) 47 9 (.string ⟨#[]⟩) 16 rfl Try.underlying47 info9 rfl (by decide) (by omega) v553 t552 y555 _ _ _ (fun k_ => some k_ ≠ (.slice Ao10 y555.length co10 : Value).ownBlock) (fun _ => False) rfl rfl ?aO ?aR (fun _ _ h => h) (fun _ h => h.elim) ?aF ?aB ?aS ?aL ?_; (case aR => repeat (first | exact (Kd.R_reads' HO557.out).2.2 | (with_reducible refine Kd.C_alloc ?_ _) | (with_reducible refine Kd.C_drewN ?_ _) | (with_reducible refine Kd.C_drew ?_))); (case aB => exact (by repeat (first | (with_reducible first | exact HB.out | apply below_alloc | apply pw_below_drewN | apply below_drew1) | exact HB.out))); (case aF => exact (fun k_ hk => Kd.fresh' (Kd.R_lt (by (with_reducible repeat (first | apply Kd.R_alloc | apply Kd.R_drewN | apply Kd.R_drew)); exact HO557.out)) k_ hk)); (case aO => exact (by (with_reducible repeat (first | apply Kd.R_alloc | apply Kd.R_drewN | apply Kd.R_drew)); exact Kd.R_mono HO554.out (fun _ hk => hk.2))); (case aS => exact (below_size (by repeat (first | (with_reducible first | exact HB.out | apply below_alloc | apply pw_below_drewN | apply below_drew1) | exact HB.out)))); (case aL => have := LMc3.out; omega); intro v559 w9 ho hb hg hat; rw [← Ny558.out] at ho; have n0_ := Aside0.mk (Kd.R_after (ok := (fun _ => True)) (by (with_reducible repeat (first | apply Kd.R_alloc | apply Kd.R_drewN | apply Kd.R_drew)); exact HO557.out) hg hat); have n1_ := Aside0.mk (hb); have n2_ := Aside0.mk (ho); clear HO557; clear HB; clear HO554; have HO557 := n0_; have HB := n1_; have HO560 := n2_; clear n0_ n1_ n2_; clear ho hb hg hat; obtain ⟨Ao11, co11, eo11⟩ := Kd.R_slice HO560.out; subst eo11; have q12 : ((l0.length : Int) : Int) ≤ ((y558.length : Int) : Int) := of_decide_eq_true (by first | (with_reducible assumption) | assumption); obtain ⟨i012, hi012, _, hsz12, _⟩ := info_parts info9; have hcut12 := cut_to (P := Try.prog) 47 9 .i64 Try.underlying47 hi012 Ao11 y558.length co11 (l0.length : Int) (of_decide_eq_true (by first | (with_reducible assumption) | assumption)) q12 (Kd.R_reads' HO560.out).2.1; have hr12 := Kd.R_take (m := ((l0.length : Int) : Int).toNat) HO560.out (by omega); have hy12 : y561.length = ((l0.length : Int) : Int).toNat := (by rw [Ny561.out, List.length_take]; omega); rw [← Ny561.out] at hr12; rw [← hy12] at hr12 hcut12; clear hy12 hi012 hsz12 HO560; have HO563 := Aside0.mk hr12; clear hr12; replace q12 := eq_true q12))
        go_ret
        exact ⟨_, by first | rfl | (simp [errW_none, errW_some] <;> rfl) | (simp [*, errW_none, errW_some] <;> rfl), by (with_reducible repeat (first | apply Kd.R_alloc | apply Kd.R_drewN | apply Kd.R_drew)); exact Kd.R_mono HO563.out (fun _ hk => trivial), by repeat (first | (with_reducible first | exact HB.out | apply below_alloc | apply pw_below_drewN | apply below_drew1) | exact HB.out)⟩
      · rw [if_neg c5] at H
        exact absurd H (by simp)
    · rw [if_neg c4] at H
      exact absurd H (by simp)
  · rw [if_neg c3] at H
    exact absurd H (by simp)

/-! ### wimplelaw0_CopyBindings: function 45 -/
def wimplelaw0_CopyBindings.f (l0 : List (S61)) : Option ((List (S61))) := (some (([] : List (S61)) : List (S61))).bind fun y564 => (if y564.length + l0.length < 2199023255552 then (some (y564 ++ l0)) else (none))
set_option maxHeartbeats 8000000 in
set_option maxRecDepth 100000 in
theorem wimplelaw0_CopyBindings.calls (A0 : Option Addr) (c0 : Nat) (l0 : List (S61)) (r : List (S61)) (w : World) (hr0 : Kd.C k61 w A0 l0.length l0) (hc0 : l0.length ≤ c0) (h : wimplelaw0_CopyBindings.f l0 = some r) :
    Calls Try.prog 45 #[.slice A0 l0.length c0] w fun e w' => ∃ v0_ : Value, e = .returned (v0_) ∧ Kd.R k61 61 w' w.heap.size (fun _ => True) v0_ r ∧ Below w.heap.size w w' := by
  have HR0 := Aside0.mk hr0
  have HC0 := Aside0.mk hc0
  clear hr0 hc0
  have HB := Aside0.mk (Below.refl w.heap.size w)
  have H : ((some (([] : List (S61)) : List (S61))).bind fun y564 => (if y564.length + l0.length < 2199023255552 then (some (y564 ++ l0)) else (none))) = some r := h
  clear h
  obtain ⟨y564, hy564⟩ : ∃ y_ : List (S61), y_ = (([] : List (S61))) := ⟨_, rfl⟩
  replace H : (if y564.length + l0.length < 2199023255552 then (some (y564 ++ l0)) else (none)) = some r := by first | (rw [hy564]; with_reducible exact H) | (have H2_ := (Option.bind_some _ _).symm.trans H; rw [hy564]; with_reducible exact H2_) | (have H2_ := (Option.bind_some _ _).symm.trans H; with_reducible exact H2_) | with_reducible exact H | (rw [hy564]; exact H) | exact H
  have Ny564 := Aside0.mk hy564
  clear hy564
  by_cases c2 : y564.length + l0.length < 2199023255552
  · rw [if_pos c2] at H
    have LMc2 := Aside0.mk c2
    clear c2
    obtain ⟨y567, hy567⟩ : ∃ y_ : List (S61), y_ = (y564 ++ l0) := ⟨_, rfl⟩
    replace H : (some y567) = some r := by first | (rw [hy567]; with_reducible exact H) | (have H2_ := (Option.bind_some _ _).symm.trans H; rw [hy567]; with_reducible exact H2_) | (have H2_ := (Option.bind_some _ _).symm.trans H; with_reducible exact H2_) | with_reducible exact H | (rw [hy567]; exact H) | exact H
    have Ny567 := Aside0.mk hy567
    clear hy567
    obtain rfl := Option.some.inj H
    go_enter Try.func45, Try.ntmps45
    try simp only [List.append_eq, List.cons_append, List.nil_append]
    go_wp2_with (first | ((with_reducible refine gate_dst (N := 3) rfl ?_); refine Kd.R_lit k61 _ 61 ?hg (N := 3) ?hd (xs := ([] : List (S61))) (inner := []) (ok := fun _ => True) (okp := fun _ => True) ?hr ?hp (fun _ hk => hk) trivial (Below.refl _ _) (Nat.le_refl _) (by simp) ?_; (case hd => rfl); (case hg => rfl); (case hr => first | (go_simp; done) | (go_simp; rfl)); (case hp => exact (Reps.none _ _)); intro v565 w3 ho4 hb hg_ hnew_; clear hg_ hnew_; (first | rw [← Ny564.out] at ho4 | (simp only [Int.reduceToNat] at ho4; rw [← Ny564.out] at ho4)); have n0_ := Aside0.mk (Kd.R_lower ho4 (below_size (by repeat (first | (with_reducible first | exact HB.out | apply below_alloc | apply pw_below_drewN | apply below_drew1) | exact HB.out)))); have n1_ := Aside0.mk (below_step (by repeat (first | (with_reducible first | exact HB.out | apply below_alloc | apply pw_below_drewN | apply below_drew1) | exact HB.out)) hb); clear HB; have HO566 := n0_; have HB := n1_; clear n0_ n1_; clear hb ho4) | ((with_reducible refine gate_builtin (b := .append) (xs := #[(.tmp 3), .tmp 4]) rfl ?_); at_builtin; refine Kd.R_append_rows k61 (w0 := w) w.heap.size rfl (.tmp 3) (.tmp 4) 48 61 (.agg #[(.string ⟨#[]⟩), (.string ⟨#[]⟩), (.int .i64 0), (.string ⟨#[]⟩), (.int .i64 0)]) 64 rfl Try.underlying48 info61 rfl (by decide) (by omega) v565 y564 l0 _ _ _ (fun _ => True) (fun _ => False) rfl rfl ?aO ?aR (fun _ _ h => h) (fun _ h => h.elim) ?aF ?aB ?aS ?aL ?_; (case aR => repeat (first | exact (Kd.C_below HR0.out HB.out) | (with_reducible refine Kd.C_alloc ?_ _) | (with_reducible refine Kd.C_drewN ?_ _) | (with_reducible refine Kd.C_drew ?_))); (case aB => exact (by repeat (first | (with_reducible first | exact HB.out | apply below_alloc | apply pw_below_drewN | apply below_drew1) | exact HB.out))); (case aF => exact (fun _ _ => trivial)); (case aO => exact (by (with_reducible repeat (first | apply Kd.R_alloc | apply Kd.R_drewN | apply Kd.R_drew)); exact HO566.out)); (case aS => exact (below_size (by repeat (first | (with_reducible first | exact HB.out | apply below_alloc | apply pw_below_drewN | apply below_drew1) | exact HB.out)))); (case aL => have := LMc2.out; omega); intro v568 w5 ho hb hg hat; rw [← Ny567.out] at ho; have n0_ := Aside0.mk (hb); have n1_ := Aside0.mk (ho); clear HB; clear HO566; have HB := n0_; have HO569 := n1_; clear n0_ n1_; clear ho hb hg hat))
    go_ret
    exact ⟨_, by first | rfl | (simp [errW_none, errW_some] <;> rfl) | (simp [*, errW_none, errW_some] <;> rfl), by (with_reducible repeat (first | apply Kd.R_alloc | apply Kd.R_drewN | apply Kd.R_drew)); exact HO569.out, by repeat (first | (with_reducible first | exact HB.out | apply below_alloc | apply pw_below_drewN | apply below_drew1) | exact HB.out)⟩
  · rw [if_neg c2] at H
    exact absurd H (by simp)

end Go.Proofs.Ytimkafkiphfacaa.P
