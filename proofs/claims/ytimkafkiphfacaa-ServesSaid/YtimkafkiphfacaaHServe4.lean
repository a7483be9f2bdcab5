/- What is lent and kept: texts, bindings. -/
import Derived.Test.YtimkafkiphfacaaHLend
import Derived.Test.YtimkafkiphfacaaPx30
import Derived.Lib.SliceRun
import Derived.IntWalk
import Derived.Test.YtimkafkiphfacaaSRel
import Derived.Test.YtimkafkiphfacaaHServe3
import Derived.Test.YtimkafkiphfacaaPx32

set_option linter.unusedVariables false
set_option linter.unusedSimpArgs false
namespace Go.Proofs.Ytimkafkiphfacaa.M
open Go Go.RowKit Go.Proofs.YtimkafkiphfacaaW.PrintWords Go.Proofs.Ytimkafkiphfacaa.P

theorem good_of {ls : List Bytes} (h : ls.all (fun l => decide (1 ≤ l.length ∧ l.length ≤ 63)) = true) : Good ls := by
  intro l hl
  simpa using List.all_eq_true.1 h l hl
theorem num_eq (n : Int) : wimplelaw0_Num.f n = some n := rfl
theorem w_inc (i : Nat) (h : i ≤ 9000000000000) : wrap64 ((i : Int) + 1) = ((i + 1 : Nat) : Int) := by rw [w64 _ (by omega)]; omega
theorem rdS {l : List ByteArray} {i : Nat} (h : i < l.length) : rdOf ByteArray.empty l (i : Int) = l[i] := by simp [rdOf, List.getD_eq_getElem?_getD, List.getElem?_eq_getElem h]
theorem rdI {l : List Int} {i : Nat} (h : i < l.length) : rd l (i : Int) = l[i] := by simp [rd, List.getD_eq_getElem?_getD, List.getElem?_eq_getElem h]
theorem SameT_l0 (l : List ByteArray) (hl : l.length ≤ 9000000000000) : ∀ (d i : Nat), l.length - i = d → i ≤ l.length → Ev (fun k => wimplelaw0_SameTexts.l0 k l l (i : Int)) true := by
  intro d
  induction d with
  | zero =>
    intro i hd hi
    exact Ev.step (fun k => by simp only [wimplelaw0_SameTexts.l0]; rfl) (Ev.neg (by omega) (Ev.pure _))
  | succ d ih =>
    intro i hd hi
    refine Ev.step (fun k => by simp only [wimplelaw0_SameTexts.l0]; rfl) ?_
    simp only [w_inc i (by omega)]
    exact Ev.pos (by omega) (Ev.pos (by omega) (Ev.pos (by omega) (Ev.pos (by trivial) (ih (i + 1) (by omega) (by omega)))))
theorem SameT_refl (l : List ByteArray) (hl : l.length ≤ 9000000000000) : Ev (fun k => wimplelaw0_SameTexts.f k l l) true := by
  unfold wimplelaw0_SameTexts.f
  exact Ev.pos rfl (SameT_l0 l hl l.length 0 (by omega) (by omega))
theorem SameI_l0 (l : List Int) (hl : l.length ≤ 9000000000000) : ∀ (d i : Nat), l.length - i = d → i ≤ l.length → Ev (fun k => wimplelaw0_SameInts.l0 k l l (i : Int)) true := by
  intro d
  induction d with
  | zero =>
    intro i hd hi
    exact Ev.step (fun k => by simp only [wimplelaw0_SameInts.l0]; rfl) (Ev.neg (by omega) (Ev.pure _))
  | succ d ih =>
    intro i hd hi
    refine Ev.step (fun k => by simp only [wimplelaw0_SameInts.l0]; rfl) ?_
    simp only [w_inc i (by omega)]
    exact Ev.pos (by omega) (Ev.pos (by omega) (Ev.pos (by omega) (Ev.pos (by trivial) (ih (i + 1) (by omega) (by omega)))))
theorem SameI_refl (l : List Int) (hl : l.length ≤ 9000000000000) : Ev (fun k => wimplelaw0_SameInts.f k l l) true := by
  unfold wimplelaw0_SameInts.f
  exact Ev.pos rfl (SameI_l0 l hl l.length 0 (by omega) (by omega))
theorem addr_f (bs : List S61) (hl : bs.length ≤ 2199023255488) (hw : ∀ b ∈ bs, (Lit.int .i64 b.f2).wf = true) : serve_Addrs.f bs = some (addrsS bs) := by
  unfold serve_Addrs.f
  rw [if_pos ⟨hl, hw⟩]
theorem want_f (hs : List ByteArray) (bs : List S61) (hl : hs.length ≤ 8796093021952) : serve_Wanting.f hs bs = some (wantS hs bs) := by
  unfold serve_Wanting.f
  rw [if_pos hl]

theorem awake16_ev : Ev (fun k => wimplelaw16_awake.f k) true := by
  have nc : nm [1, 99, 0] = some [[99]] := nm_some.2 ⟨good_of (by decide), by decide, by decide⟩
  have nA : nm [1, 65, 0] = some [[65]] := nm_some.2 ⟨good_of (by decide), by decide, by decide⟩
  have nb : nm [1, 98, 0] = some [[98]] := nm_some.2 ⟨good_of (by decide), by decide, by decide⟩
  have na : nm [1, 97, 0] = some [[97]] := nm_some.2 ⟨good_of (by decide), by decide, by decide⟩
  have nx : nm [1, 120, 0] = some [[120]] := nm_some.2 ⟨good_of (by decide), by decide, by decide⟩
  have ny : nm [1, 121, 1, 99, 0] = some [[121], [99]] := nm_some.2 ⟨good_of (by decide), by decide, by decide⟩
  have s1 : sameS [1, 65, 0] [1, 97, 0] = true := (sameS_some nA na).trans (by decide)
  have s2 : sameS [1, 65, 0] [1, 120, 0] = false := (sameS_some nA nx).trans (by decide)
  have s3 : sameS [1, 98, 0] [1, 120, 0] = false := (sameS_some nb nx).trans (by decide)
  have b1 : aboveS [1, 99, 0] [1, 120, 0] = false := (aboveS_some nc nx).trans (by decide)
  have b2 : aboveS [1, 99, 0] [1, 121, 1, 99, 0] = true := (aboveS_some nc ny).trans (by decide)
  obtain ⟨bs, hb⟩ : ∃ bs, bs = ([(⟨(⟨#[1, 99, 0]⟩ : ByteArray), (⟨#[1, 65, 0]⟩ : ByteArray), 5, (⟨#[]⟩ : ByteArray), 0⟩ : S61), (⟨(⟨#[1, 99, 0]⟩ : ByteArray), (⟨#[1, 98, 0]⟩ : ByteArray), 5, (⟨#[]⟩ : ByteArray), 0⟩ : S61)] : List (S61)) := ⟨_, rfl⟩
  have w1 : want1 bs ⟨#[1, 97, 0]⟩ = false := by
    subst hb
    show (!(sameS [1, 65, 0] [1, 97, 0] || (sameS [1, 98, 0] [1, 97, 0] || false)) && !(aboveS [1, 99, 0] [1, 97, 0])) = false
    rw [s1]
    rfl
  have w2 : want1 bs ⟨#[1, 120, 0]⟩ = true := by
    subst hb
    show (!(sameS [1, 65, 0] [1, 120, 0] || (sameS [1, 98, 0] [1, 120, 0] || false)) && !(aboveS [1, 99, 0] [1, 120, 0])) = true
    rw [s2, s3, b1]
    rfl
  have w3 : want1 bs ⟨#[1, 121, 1, 99, 0]⟩ = false := by
    subst hb
    show (!(sameS [1, 65, 0] [1, 121, 1, 99, 0] || (sameS [1, 98, 0] [1, 121, 1, 99, 0] || false)) && !(aboveS [1, 99, 0] [1, 121, 1, 99, 0])) = false
    rw [b2, Bool.not_true, Bool.and_false]
  have hw : wantS [(⟨#[1, 97, 0]⟩ : ByteArray), (⟨#[1, 120, 0]⟩ : ByteArray), (⟨#[1, 121, 1, 99, 0]⟩ : ByteArray)] bs = [(⟨#[1, 120, 0]⟩ : ByteArray)] := by
    unfold wantS
    rw [List.filter_cons_of_neg (by rw [w1]; decide), List.filter_cons_of_pos (by rw [w2]), List.filter_cons_of_neg (by rw [w3]; decide), List.filter_nil]
  have ha : addrsS bs = [5] := by
    subst hb
    rfl
  unfold wimplelaw16_awake.f
  refine Ev.bindp (a := bs) (by rw [hb]) (Ev.bindp ((want_f _ bs (by decide)).trans (by rw [hw])) (Ev.bindp ((addr_f bs (by rw [hb]; decide) (by rw [hb]; decide)).trans (by rw [ha])) (Ev.bind (SameI_refl _ (by decide)) (Ev.pos rfl (Ev.bind (SameT_refl _ (by decide)) (Ev.pos rfl (Ev.bindp (num_eq _) (Ev.eq (Ev.pure _) (by decide)))))))))
end Go.Proofs.Ytimkafkiphfacaa.M

set_option linter.unusedVariables false
set_option linter.unusedSimpArgs false
namespace Go.Proofs.Ytimkafkiphfacaa.M
open Go Go.RowKit Go.Proofs.YtimkafkiphfacaaW.PrintWords Go.Proofs.YtimkafkiphfacaaW.PrintLast Go.Proofs.YtimkafkiphfacaaW.PrintMore Go.Proofs.Ytimkafkiphfacaa.P
attribute [local go_sem high] eqA61

theorem C_short {α : Type} {d : Kd α} {w : World} {A : Option Addr} {xs ys : List α} {m : Nat} (h : Kd.C d w A m (xs ++ ys)) : Kd.C d w A xs.length xs := by
  obtain ⟨h1, h2, h3⟩ := h
  rw [List.length_append] at h1
  refine ⟨rfl, by omega, fun hp => ?_⟩
  obtain ⟨ad, e, hc⟩ := h3 (by omega)
  exact ⟨ad, e, fun j p hj => hc j p (by rw [List.getElem?_append_left (List.getElem?_eq_some_iff.1 hj).1]; exact hj)⟩
def markT : List ByteArray := [(⟨#[126, 114, 111, 111, 109]⟩ : ByteArray), (⟨#[126, 98, 101, 104, 105, 110, 100]⟩ : ByteArray)]
def markB : List S61 := [(⟨(⟨#[]⟩ : ByteArray), (⟨#[]⟩ : ByteArray), 77777, (⟨#[]⟩ : ByteArray), 0⟩ : S61), (⟨(⟨#[]⟩ : ByteArray), (⟨#[]⟩ : ByteArray), 77777, (⟨#[]⟩ : ByteArray), 0⟩ : S61)]
theorem copyT_f (l : List ByteArray) (h : l.length ≤ 8796093021952) : wimplelaw0_CopyTexts.f l = some l := by
  unfold wimplelaw0_CopyTexts.f
  simp only [Option.bind_some, List.length_nil, List.nil_append]
  rw [if_pos (by omega)]
theorem copyB_f (l : List S61) (h : l.length ≤ 2199023255488) : wimplelaw0_CopyBindings.f l = some l := by
  unfold wimplelaw0_CopyBindings.f
  simp only [Option.bind_some, List.length_nil, List.nil_append]
  rw [if_pos (by omega)]
theorem lendT_f (l : List ByteArray) (h : l.length ≤ 8796093021952) : wimplelaw0_LendTexts.f l = some l := by
  unfold wimplelaw0_LendTexts.f
  rw [copyT_f l h]
  simp only [Option.bind_some, List.length_append, List.length_cons, List.length_nil]
  rw [if_pos (by omega), if_pos (by omega), if_pos (by omega)]
  simp
theorem lendB_f (l : List S61) (h : l.length ≤ 2199023255488) : wimplelaw0_LendBindings.f l = some l := by
  unfold wimplelaw0_LendBindings.f
  rw [copyB_f l (by omega)]
  simp only [Option.bind_some, List.length_append, List.length_cons, List.length_nil]
  rw [if_pos (by omega), if_pos (by omega), if_pos (by omega)]
  simp

theorem LendT_post (A0 : Option Addr) (c0 : Nat) (l : List ByteArray) (w : World) (h0 : Kd.C Kd.string w A0 l.length l) (hc0 : l.length ≤ c0) (hl : l.length ≤ 8796093021952) : Calls Try.prog 21 #[.slice A0 l.length c0] w fun e w' => ∃ (ad : Addr) (c : Nat), e = .returned (.slice (some ad) l.length c) ∧ l.length + 2 ≤ c ∧ Kd.C Kd.string w' (some ad) (l ++ markT).length (l ++ markT) ∧ Below w.heap.size w w' := by
  refine (wimplelaw0_LendTexts.lent A0 c0 l l w h0 hc0 (lendT_f l hl)).mono ?_
  rintro e w' ⟨A, c, t, ht, rfl, hR, hB⟩
  obtain rfl := Option.some.inj ((copyT_f l hl).symm.trans ht)
  obtain ⟨A', c', he, hle, hC⟩ := Kd.R_reads hR
  injection he with h4 h5 h6
  subst h4 h6
  have hlen : (l ++ markT).length = l.length + 2 := by simp [markT]
  obtain ⟨ad, e, _⟩ := hC.2.2 (by rw [show (l ++ ([(⟨#[126, 114, 111, 111, 109]⟩ : ByteArray), (⟨#[126, 98, 101, 104, 105, 110, 100]⟩ : ByteArray)] : List ByteArray)) = l ++ markT from rfl, hlen]; omega)
  subst e
  exact ⟨ad, c, rfl, by rw [← hlen]; exact hle, hC, hB⟩
theorem LendB_post (A0 : Option Addr) (c0 : Nat) (l : List S61) (w : World) (h0 : Kd.C k61 w A0 l.length l) (hc0 : l.length ≤ c0) (hl : l.length ≤ 2199023255488) : Calls Try.prog 22 #[.slice A0 l.length c0] w fun e w' => ∃ (g c : Nat), e = .returned (.slice (some ⟨g, 0, none⟩) l.length c) ∧ l.length + 2 ≤ c ∧ Kd.C k61 w' (some ⟨g, 0, none⟩) (l ++ markB).length (l ++ markB) ∧ Below w.heap.size w w' := by
  refine (wimplelaw0_LendBindings.lent A0 c0 l l w h0 hc0 (lendB_f l hl)).mono ?_
  rintro e w' ⟨A, c, t, ht, rfl, hR, hB⟩
  obtain rfl := Option.some.inj ((copyB_f l hl).symm.trans ht)
  have hlen : (l ++ markB).length = l.length + 2 := by simp [markB]
  change Kd.R k61 61 w' w.heap.size (fun _ => True) (.slice A (l.length + 2) c) (l ++ markB) at hR
  obtain ⟨g, cap, hv, _⟩ := Kd.R_form hR (by omega)
  obtain ⟨A', c', he, hle, hC⟩ := Kd.R_reads hR
  injection he with h4 h5 h6
  subst h4 h6
  injection hv with h7 h8 h9
  subst h7
  exact ⟨g, c, rfl, by rw [← hlen]; exact hle, hC, hB⟩
theorem SameB_l0 (l : List S61) (hl : l.length ≤ 9000000000000) : ∀ (d i : Nat), l.length - i = d → i ≤ l.length → Ev (fun k => wimplelaw0_SameBindings.l0 k l l (i : Int)) true := by
  intro d
  induction d with
  | zero =>
    intro i hd hi
    exact Ev.step (fun k => by simp only [wimplelaw0_SameBindings.l0]; rfl) (Ev.neg (by omega) (Ev.pure _))
  | succ d ih =>
    intro i hd hi
    refine Ev.step (fun k => by simp only [wimplelaw0_SameBindings.l0]; rfl) ?_
    simp only [w_inc i (by omega)]
    exact Ev.pos (by omega) (Ev.pos (by omega) (Ev.pos (by omega) (Ev.neg (by simp) (ih (i + 1) (by omega) (by omega)))))
theorem SameB_refl (l : List S61) (hl : l.length ≤ 9000000000000) : Ev (fun k => wimplelaw0_SameBindings.f k l l) true := by
  unfold wimplelaw0_SameBindings.f
  exact Ev.pos rfl (SameB_l0 l hl l.length 0 (by omega) (by omega))

set_option maxHeartbeats 4000000 in
set_option maxRecDepth 100000 in
theorem KeptT_true (w : World) (ad : Addr) (c c0 : Nat) (A0 : Option Addr) (l : List ByteArray) (hl : l.length ≤ 8796093021952) (hC : Kd.C Kd.string w (some ad) (l ++ markT).length (l ++ markT)) (hc : l.length + 2 ≤ c) (h0 : Kd.C Kd.string w A0 l.length l) (hc0 : l.length ≤ c0) :
    Calls Try.prog 31 #[.slice (some ad) l.length c, .slice A0 l.length c0] w fun e w' => e = .returned (.bool true) ∧ Drawn0 w w' := by
  obtain ⟨k, hk⟩ := Ev.rounds (SameT_refl l (by omega))
  have hlen : (l ++ markT).length = l.length + 2 := by simp [markT]
  have hr1 : rdOf ByteArray.empty (l ++ markT) ((l.length : Nat) : Int) = (⟨#[126, 114, 111, 111, 109]⟩ : ByteArray) := by
    rw [rdS (by omega), List.getElem_append_right (Nat.le_refl _)]
    simp [markT]
  have hr2 : rdOf ByteArray.empty (l ++ markT) ((l.length + 1 : Nat) : Int) = (⟨#[126, 98, 101, 104, 105, 110, 100]⟩ : ByteArray) := by
    rw [rdS (by omega), List.getElem_append_right (by omega)]
    simp [markT]
  obtain ⟨_, e1, z1⟩ := Kd.at_string hC ((l.length : Nat) : Int) (by omega) (by omega)
  obtain ⟨_, e2, z2⟩ := Kd.at_string hC ((l.length + 1 : Nat) : Int) (by omega) (by omega)
  injection e1 with e1
  injection e2 with e2
  subst e1
  subst e2
  rw [hr1, Int.toNat_natCast] at z1
  rw [hr2, Int.toNat_natCast] at z2
  have z3 : w.cell? ⟨ad.block, ad.off + (l.length + 1), none⟩ = some (.string ⟨#[126, 98, 101, 104, 105, 110, 100]⟩) := by simpa [Addr.add] using z2
  have HC := Aside0.mk (C_short hC)
  have H0 := Aside0.mk h0
  have HK := Aside0.mk hk
  obtain ⟨i09, hi09, _, hsz9, _⟩ := info_parts str_info
  have hw2 : wrap64 ((l.length : Int) + 2) = ((l.length + 2 : Nat) : Int) := by rw [w64 _ (by omega)]; omega
  have hw1 : wrap64 ((l.length : Int) + 1) = ((l.length + 1 : Nat) : Int) := by rw [w64 _ (by omega)]; omega
  have hcut : ∀ W : World, (Instr.slice 47 (.slice (some ad) l.length c) none (some (.int .i64 ((l.length + 2 : Nat) : Int))) none).run Try.prog W = .ok (.slice (some ad) (l.length + 2) c) W := by
    intro W
    have hel : Try.prog.elem 47 = 9 := by simp [Program.elem, Try.underlying47]
    have hu : Try.prog.underlying 47 = some (.slice (Try.prog.elem 47)) := by rw [hel]; exact Try.underlying47
    rw [run_slice_h W 47 (some ad) l.length c hu .i64 _ (by omega) (by omega), hel]
    simp [sizeOf, typeInfo, hi09, sliced, Result.andThen, show ad.add 0 = ad from by cases ad; rfl]
    omega
  clear hC h0 hsz9 hi09 hk hr1 hr2 hlen
  go_enter Try.func31, Try.ntmps31
  go_wp2_with fail
  refine (wimplelaw0_SameTexts.calls k _ _ l _ _ l true _ HC.out (by omega) H0.out hc0 HK.out).mono ?_
  rintro e w' ⟨rfl, ⟨nd, rfl⟩⟩
  simp only
  go_wp2_with fail
  go_ret
  exact ⟨rfl, ⟨nd, rfl⟩⟩
theorem bind_info : (Try.prog.info? 61).map (fun i => (i.zero, i.size, i.bytes)) = some (some (.agg #[.string ⟨#[]⟩, .string ⟨#[]⟩, .int .i64 0, .string ⟨#[]⟩, .int .i64 0]), 5, 64) := by kernel_rfl
theorem cell_at61 {w : World} {g n : Nat} {xs : List S61} (h : Kd.C k61 w (some ⟨g, 0, none⟩) n xs) (i : Nat) (p : S61) (hp : xs[i]? = some p) : w.cell? ⟨g, i * 5, none⟩ = some (.string p.f0) ∧ w.cell? ⟨g, i * 5 + 1, none⟩ = some (.string p.f1) ∧ w.cell? ⟨g, i * 5 + 2, none⟩ = some (.int .i64 p.f2) ∧ w.cell? ⟨g, i * 5 + 3, none⟩ = some (.string p.f3) ∧ w.cell? ⟨g, i * 5 + 4, none⟩ = some (.int .i64 p.f4) := by
  have hi := (List.getElem?_eq_some_iff.1 hp).1
  have hn := h.1
  obtain ⟨ad, e, h0, h1, h2, h3, h4⟩ := at_T61 h (i : Int) (by omega) (by omega)
  injection e with e
  subst e
  rw [rd61 hi, (List.getElem?_eq_some_iff.1 hp).2] at h0 h1 h2 h3 h4
  simp only [Int.toNat_natCast, add_plain] at h0 h1 h2 h3 h4
  exact ⟨h0, h1, h2, h3, h4⟩

set_option maxHeartbeats 4000000 in
set_option maxRecDepth 100000 in
theorem KeptB_true (w : World) (g c c0 : Nat) (A0 : Option Addr) (l : List S61) (hl : l.length ≤ 2199023255488) (hC : Kd.C k61 w (some ⟨g, 0, none⟩) (l ++ markB).length (l ++ markB)) (hc : l.length + 2 ≤ c) (h0 : Kd.C k61 w A0 l.length l) (hc0 : l.length ≤ c0) :
    Calls Try.prog 32 #[.slice (some ⟨g, 0, none⟩) l.length c, .slice A0 l.length c0] w fun e w' => e = .returned (.bool true) ∧ Drawn0 w w' := by
  obtain ⟨k, hk⟩ := Ev.rounds (SameB_refl l (by omega))
  obtain ⟨z0, z1, z2, z3, z4⟩ := cell_at61 hC l.length (⟨(⟨#[]⟩ : ByteArray), (⟨#[]⟩ : ByteArray), 77777, (⟨#[]⟩ : ByteArray), 0⟩ : S61) (by simp [markB])
  obtain ⟨y0, y1, y2, y3, y4⟩ := cell_at61 hC (l.length + 1) (⟨(⟨#[]⟩ : ByteArray), (⟨#[]⟩ : ByteArray), 77777, (⟨#[]⟩ : ByteArray), 0⟩ : S61) (by simp [markB])
  have HC := Aside0.mk (C_short hC)
  have H0 := Aside0.mk h0
  have HK := Aside0.mk hk
  obtain ⟨i61, hi61, _, hsz61, _⟩ := info_parts bind_info
  have hcut : ∀ W : World, (Instr.slice 48 (.slice (some ⟨g, 0, none⟩) l.length c) none (some (.int .i64 ((l.length + 2 : Nat) : Int))) none).run Try.prog W = .ok (.slice (some ⟨g, 0, none⟩) (l.length + 2) c) W := by
    intro W
    have hel : Try.prog.elem 48 = 61 := by simp [Program.elem, Try.underlying48]
    have hu : Try.prog.underlying 48 = some (.slice (Try.prog.elem 48)) := by rw [hel]; exact Try.underlying48
    rw [run_slice_h W 48 (some ⟨g, 0, none⟩) l.length c hu .i64 _ (by omega) (by omega), hel]
    simp [sizeOf, typeInfo, hi61, sliced, Result.andThen, show (⟨g, 0, none⟩ : Addr).add 0 = ⟨g, 0, none⟩ from add_plain g 0]
    omega
  have hw2 : wrap64 ((l.length : Int) + 2) = ((l.length + 2 : Nat) : Int) := by rw [w64 _ (by omega)]; omega
  have hw1 : wrap64 ((l.length : Int) + 1) = ((l.length + 1 : Nat) : Int) := by rw [w64 _ (by omega)]; omega
  clear hC h0 hsz61 hi61 hk
  go_enter Try.func32, Try.ntmps32
  go_wp2_with fail
  refine (wimplelaw0_SameBindings.calls k _ _ l _ _ l true _ HC.out (by omega) H0.out hc0 HK.out).mono ?_
  rintro e w' ⟨rfl, ⟨nd, rfl⟩⟩
  simp only
  go_wp2_with fail
  go_ret
  exact ⟨rfl, ⟨nd, rfl⟩⟩
end Go.Proofs.Ytimkafkiphfacaa.M
