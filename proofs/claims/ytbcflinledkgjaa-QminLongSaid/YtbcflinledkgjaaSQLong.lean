/- QminLong. -/
import Derived.Test.YtbcflinledkgjaaSQmin
import Derived.Test.YtbcflinledkgjaaPx23

set_option linter.unusedVariables false
set_option linter.unusedSimpArgs false
namespace Go.Proofs.Ytbcflinledkgjaa.M
open Go Go.RowKit Go.Proofs.YtbcflinledkgjaaW.PrintWords Go.Proofs.YtbcflinledkgjaaW.PrintMore Go.Proofs.Ytbcflinledkgjaa.P

/-- What is known of the least and the most part in the walk: between q and q + 1 where a part was taken at all. -/
def Parts (q least most : Int) : Prop := (most = 0 ∧ least = 1000) ∨ (q ≤ least ∧ most ≤ q + 1)

/-- One part of what is left stays between q and q + 1. -/
theorem part_step (q L d : Int) (hq : 0 ≤ q) (hL : 1 ≤ L) (hd : 1 ≤ d) (h1 : q * d ≤ L) (h2 : L ≤ q * d + d) :
    ∃ m, (L + d - 1) / d = m ∧ 1 ≤ m ∧ m ≤ L ∧ q ≤ m ∧ m ≤ q + 1 ∧ q * (d - 1) ≤ L - m ∧ L - m ≤ q * (d - 1) + (d - 1) := by
  have P := part_facts L d hL hd
  generalize (L + d - 1) / d = m at *
  obtain ⟨p1, p2, p3, p4⟩ := P
  have e : q * (d - 1) = q * d - q := by rw [Int.mul_sub, Int.mul_one]
  rw [e]
  have a1 : q ≤ m := by
    rcases Int.lt_or_le m q with h | h
    · have := Int.mul_le_mul_of_nonneg_right (show m + 1 ≤ q by omega) (show 0 ≤ d by omega)
      rw [Int.add_mul, Int.one_mul] at this
      omega
    · exact h
  have a2 : m ≤ q + 1 := by
    rcases Int.lt_or_le (q + 1) m with h | h
    · have := Int.mul_le_mul_of_nonneg_right (show q + 2 ≤ m by omega) (show 0 ≤ d by omega)
      rw [Int.add_mul] at this
      omega
    · exact h
  refine ⟨m, rfl, p1, p2, a1, a2, ?_, ?_⟩
  · rcases (show m = q ∨ m = q + 1 by omega) with rfl | rfl
    · omega
    · rw [Int.add_mul, Int.one_mul] at p4
      omega
  · rcases (show m = q ∨ m = q + 1 by omega) with rfl | rfl
    · omega
    · omega

/-- Size inside the walk, where steps count between one and count. -/
theorem Size_mid (st L c o : Int) (h1 : 0 ≤ st ∧ st ≤ 200) (h2 : 1 ≤ L ∧ L ≤ 200) (h3 : 1 ≤ c ∧ c ≤ 16) (h4 : 0 ≤ o ∧ o ≤ 7) (ho : o ≤ st) (hc : st < c) : qmin_Size.f st L c o = some ((L + (c - st) - 1) / (c - st), 0) := by
  by_cases q : L ≤ c - st
  · rw [Size_one st L c o (by omega) (by omega) (by omega) (by omega) (Or.inr q)]
    have P := part_facts L (c - st) (by omega) (by omega)
    generalize c - st = d at *
    generalize (L + d - 1) / d = m at *
    obtain ⟨p1, p2, p3, p4⟩ := P
    have : m = 1 := by
      rcases Int.lt_or_le 1 m with h | h
      · have := Int.mul_le_mul_of_nonneg_right (show 2 ≤ m by omega) (show 0 ≤ d by omega)
        omega
      · omega
    rw [this]
  · rw [Size_part st L c o (by omega) (by omega) (by omega) (by omega) (by omega) (by omega), show L + c - st - 1 = L + (c - st) - 1 by omega]

/-- What the walk keeps. -/
def Inv (c o L st least most : Int) : Prop := 0 ≤ L ∧ L ≤ 126 ∧ 0 ≤ st ∧ st ≤ mx c o + 1 ∧ (1 ≤ L → st ≤ mx c o) ∧ 0 ≤ most ∧ most ≤ 127 ∧ 1 ≤ least ∧ least ≤ 1000 ∧ (most = 0 ∨ most - least ≤ 1) ∧
  (st ≤ o → least = 1000 ∧ most = 0) ∧ (o < st → st ≤ c → ∃ q, 0 ≤ q ∧ q * (c - st) ≤ L ∧ L ≤ q * (c - st) + (c - st) ∧ q ≤ least ∧ most ≤ q + 1)

theorem mx_range (c o : Int) (hc : 1 ≤ c ∧ c ≤ 16) (ho : 0 ≤ o ∧ o ≤ 7) : c ≤ mx c o ∧ o ≤ mx c o ∧ mx c o ≤ 16 ∧ (mx c o = c ∨ mx c o = o) := by
  unfold mx
  split <;> omega

theorem Long_end (c o : Int) (hc : 1 ≤ c ∧ c ≤ 16) (ho : 0 ≤ o ∧ o ≤ 7) (nn x : ByteArray) (ty : Int) (hx : 3 ≤ x.size) (hN : Ev (fun k => qmin_Next.f k nn 9 (⟨#[]⟩ : ByteArray) (⟨#[0]⟩ : ByteArray) 0 false 0 0 c o) (x, ty, 0))
    (L st least most : Int) (hI : Inv c o L st least most) : Ev (fun k => wimplelaw17_QminLong.j3 k c o nn L st least most false) true := by
  obtain ⟨i1, i2, i3, i4, i5, i6, i7, i8, i9, i10, i11, i12⟩ := hI
  clear i11 i12
  have hm := mx_range c o hc ho
  refine Ev.step (fun k => by simp only [wimplelaw17_QminLong.j3]; rfl) ?_
  simp only [w64 (mx c o + 1) (by omega), w64 (most - least) (by omega)]
  refine Ev.neg (by decide) (Ev.bind hN (Ev.bindp (num_eq _) ?_))
  refine Ev.pos rfl (Ev.pos i4 ?_)
  have hf : decide (((x, ty, (0 : Int)).1.size : Int) ≥ 3) = true := decide_eq_true (show (x.size : Int) ≥ 3 by omega)
  by_cases q : most = 0
  · exact Ev.pos q (Ev.eq (Ev.pure _) hf)
  · exact Ev.neg q (Ev.pos (by omega) (Ev.eq (Ev.pure _) hf))

theorem mn_le (a b : Int) : (mn a b = a ∨ mn a b = b) ∧ mn a b ≤ a ∧ mn a b ≤ b := by unfold mn; split <;> omega
theorem mx_ge (a b : Int) : (mx a b = a ∨ mx a b = b) ∧ a ≤ mx a b ∧ b ≤ mx a b := by unfold mx; split <;> omega

theorem Inv_mid (c o : Int) (hc : 1 ≤ c ∧ c ≤ 16) (ho : 0 ≤ o ∧ o ≤ 7) (L st least most : Int) (hL : 1 ≤ L) (h1 : o ≤ st) (h2 : st < c) (hI : Inv c o L st least most) :
    ∃ m, (L + (c - st) - 1) / (c - st) = m ∧ 1 ≤ m ∧ m ≤ L ∧ Inv c o (L - m) (st + 1) (mn least m) (mx most m) := by
  obtain ⟨i1, i2, i3, i4, i5, i6, i7, i8, i9, i10, i11, i12⟩ := hI
  have hm := mx_range c o hc ho
  have key : ∃ q, 0 ≤ q ∧ q * (c - st) ≤ L ∧ L ≤ q * (c - st) + (c - st) ∧ q ≤ least ∧ most ≤ q + 1 := by
    rcases Int.lt_or_le o st with h | h
    · exact i12 h (by omega)
    · have e1 : L / (c - st) * (c - st) ≤ L := Int.ediv_mul_le _ (by omega)
      have e2 : L < (L / (c - st) + 1) * (c - st) := Int.lt_ediv_add_one_mul_self _ (by omega)
      have e3 : 0 ≤ L / (c - st) := Int.ediv_nonneg (by omega) (by omega)
      have e4 : L / (c - st) ≤ L := Int.ediv_le_self _ (by omega)
      have e5 := i11 (by omega)
      clear i12 i11
      generalize L / (c - st) = q at *
      rw [Int.add_mul, Int.one_mul] at e2
      exact ⟨q, e3, e1, by omega, by omega, by omega⟩
  clear i12
  obtain ⟨q, q0, q1, q2, q3, q4⟩ := key
  obtain ⟨m, hme, m1, m2, m3, m4, m5, m6⟩ := part_step q L (c - st) q0 hL (by omega) q1 q2
  have n1 := mn_le least m
  have n2 := mx_ge most m
  rw [show c - st - 1 = c - (st + 1) by omega] at m5 m6
  refine ⟨m, hme, m1, m2, by omega, by omega, by omega, by omega, by omega, by omega, by omega, by omega, by omega, by omega, by omega, fun _ _ => ⟨q, q0, m5, m6, by omega, by omega⟩⟩

theorem Long_l1 (c o : Int) (hc : 1 ≤ c ∧ c ≤ 16) (ho : 0 ≤ o ∧ o ≤ 7) (nn x : ByteArray) (ty : Int) (hx : 3 ≤ x.size) (hN : Ev (fun k => qmin_Next.f k nn 9 (⟨#[]⟩ : ByteArray) (⟨#[0]⟩ : ByteArray) 0 false 0 0 c o) (x, ty, 0)) :
    ∀ (n : Nat) (L st least most : Int), L.toNat = n → Inv c o L st least most → Ev (fun k => wimplelaw17_QminLong.l1 k c o nn L st least most) true := by
  have hm := mx_range c o hc ho
  intro n
  induction n using Nat.strongRecOn with
  | _ n ih =>
    intro L st least most hn hI
    have hE := Long_end c o hc ho nn x ty hx hN L st least most hI
    obtain ⟨i1, i2, i3, i4, i5, i6, i7, i8, i9, i10, i11, i12⟩ := id hI
    clear i12
    by_cases hL : L > 0
    · refine Ev.step (fun k => by simp only [wimplelaw17_QminLong.l1]; rfl) (Ev.pos hL ?_)
      have hst := i5 (by omega)
      rw [show decide (st < 200) = true from decide_eq_true (by omega)]
      refine Ev.step (fun k => by simp only [wimplelaw17_QminLong.j3]; rfl) ?_
      refine Ev.pos (by trivial) ?_
      have go : ∀ m : Int, qmin_Size.f st L c o = some (m, 0) → 1 ≤ m → m ≤ L → Ev (fun k => wimplelaw17_QminLong.j4 k c o nn L st least most m false) true → Ev (fun k => (qmin_Size.f st L c o).bind fun bt302 => ((wimplelaw0_Num.f bt302.2).bind fun t304 => (if t304 = 0 then (if bt302.1 < 1 then (wimplelaw17_QminLong.j4 k c o nn L st least most bt302.1 true) else (wimplelaw17_QminLong.j4 k c o nn L st least most bt302.1 (decide (bt302.1 > L)))) else (wimplelaw17_QminLong.j4 k c o nn L st least most bt302.1 true)))) true := by
        intro m hS h1 h2 h4
        refine Ev.bindp hS (Ev.bindp (num_eq _) (Ev.pos rfl (Ev.neg (show ¬ m < 1 by omega) ?_)))
        rw [show decide ((m, (0 : Int)).1 > L) = false from decide_eq_false (show ¬ m > L by omega)]
        exact h4
      by_cases ha : st < o
      · refine go 1 (Size_one st L c o (by omega) (by omega) (by omega) (by omega) (Or.inl ha)) (by omega) (by omega) ?_
        have hr := ih (L - 1).toNat (by omega) (L - 1) (st + 1) least most rfl ⟨by omega, by omega, by omega, by omega, by omega, by omega, by omega, by omega, by omega, by omega, by omega, fun q => by omega⟩
        refine Ev.step (fun k => by simp only [wimplelaw17_QminLong.j4]; rfl) (Ev.neg (by decide) (Ev.neg (by omega) ?_))
        refine Ev.step (fun k => by simp only [wimplelaw17_QminLong.j5]; rfl) ?_
        simp only [w64 (L - 1) (by omega), w64 (st + 1) (by omega)]
        exact Ev.neg (by decide) (Ev.pos ha (Ev.pos (by trivial) hr))
      · by_cases hb : st < c
        · obtain ⟨m, hme, m1, m2, hI2⟩ := Inv_mid c o hc ho L st least most (by omega) (by omega) hb hI
          have hS := Size_mid st L c o (by omega) (by omega) hc ho (by omega) hb
          rw [hme] at hS
          refine go m hS m1 m2 ?_
          have hr := ih (L - m).toNat (by omega) (L - m) (st + 1) _ _ rfl hI2
          clear hI2
          refine Ev.step (fun k => by simp only [wimplelaw17_QminLong.j4]; rfl) (Ev.neg (by decide) (Ev.pos (by omega) ?_))
          rw [show decide (st < c) = true from decide_eq_true hb]
          refine Ev.step (fun k => by simp only [wimplelaw17_QminLong.j5]; rfl) ?_
          simp only [w64 (L - m) (by omega), w64 (st + 1) (by omega)]
          exact Ev.pos (by trivial) (Ev.neg ha hr)
        · refine go L (Size_all st L c o (by omega) (by omega) (by omega) (by omega) (by omega) (by omega)) (by omega) (by omega) ?_
          have hr := ih (L - L).toNat (by omega) (L - L) (st + 1) least most rfl ⟨by omega, by omega, by omega, by omega, by omega, by omega, by omega, by omega, by omega, by omega, by omega, fun _ q => by omega⟩
          refine Ev.step (fun k => by simp only [wimplelaw17_QminLong.j4]; rfl) (Ev.neg (by decide) (Ev.pos (by omega) ?_))
          rw [show decide (st < c) = false from decide_eq_false hb]
          refine Ev.step (fun k => by simp only [wimplelaw17_QminLong.j5]; rfl) ?_
          simp only [w64 (L - L) (by omega), w64 (st + 1) (by omega)]
          exact Ev.neg (by decide) (Ev.neg ha hr)
    · refine Ev.step (fun k => by simp only [wimplelaw17_QminLong.l1]; rfl) (Ev.neg hL hE)

theorem Size_any (m c o : Int) (h2 : 1 ≤ m ∧ m ≤ 200) (h3 : 1 ≤ c ∧ c ≤ 16) (h4 : 0 ≤ o ∧ o ≤ 7) : ∃ n, qmin_Size.f 0 m c o = some (n, 0) ∧ 1 ≤ n ∧ n ≤ m := by
  by_cases q : 0 < o ∨ m ≤ c - 0
  · exact ⟨1, Size_one 0 m c o (by omega) (by omega) (by omega) (by omega) q, by omega, by omega⟩
  · have P := part_facts m (c - 0) (by omega) (by omega)
    have hS := Size_part 0 m c o (by omega) (by omega) (by omega) (by omega) q (by omega)
    rw [show m + c - 0 - 1 = m + (c - 0) - 1 by omega] at hS
    exact ⟨_, hS, P.1, P.2.1⟩

theorem Long_next (c o : Int) (hc : 1 ≤ c ∧ c ≤ 16) (ho : 0 ≤ o ∧ o ≤ 7) (nn : ByteArray) (ls : List Bytes) (h : nm (B nn) = some ls) (h1 : 1 ≤ ls.length) (h2 : ls.length ≤ 126) : ∃ (x : ByteArray) (ty : Int), 3 ≤ x.size ∧ Ev (fun k => qmin_Next.f k nn 9 (⟨#[]⟩ : ByteArray) (⟨#[0]⟩ : ByteArray) 0 false 0 0 c o) (x, ty, 0) := by
  have nr : nm (B ⟨#[0]⟩) = some [] := nm_some.2 ⟨good_of (by decide), by decide, by decide⟩
  have nf : nm (fold (B nn)) = some (ls.map fol) := by rw [nm_fold, h]; rfl
  have hfl : (ls.map fol).length = ls.length := List.length_map _
  have hA : aboveS (B ⟨#[0]⟩) (B nn) = true := (aboveS_some nr h).trans (decide_eq_true List.nil_suffix)
  obtain ⟨m, hm, hm2⟩ : ∃ m : Int, mx (wrap64 ((ls.length : Int) - (([] : List Bytes).length : Int))) 1 = m ∧ m = (ls.length : Int) := by
    refine ⟨_, rfl, ?_⟩
    rw [w64 _ (by simp only [List.length_nil]; omega)]
    unfold mx
    simp only [List.length_nil]
    split <;> omega
  obtain ⟨n, hS, n1, n2⟩ := Size_any m c o (by omega) hc ho
  have hc1 := nm_count h
  by_cases q : n ≥ (ls.length : Int)
  · refine ⟨mkB (fold (B nn)), 9, ?_, ?_⟩
    · rw [sz_mk, fold_length h]; omega
    · refine Next_core nn 9 (⟨#[]⟩ : ByteArray) (⟨#[0]⟩ : ByteArray) 0 false 0 0 c o hA (by decide) h nr n 0 (by rw [hm]; exact hS) ?_
      rw [w64 _ (by simp only [List.length_nil]; omega)]
      exact Ev.pos rfl (Ev.neg (by decide) (Ev.neg (by simp only [List.length_nil]; omega) (Ev.pos (by simp only [List.length_nil]; omega) (Ev.pure _))))
  · have hL := Last_ev (mkB (fold (B nn))) n
    rw [B_mk, lastS_some nf n ⟨by omega, by omega⟩, hfl] at hL
    have nz := nm_count (nm_drop nf (ls.length - n.toNat))
    rw [List.length_drop, hfl] at nz
    refine ⟨mkB (wire ((ls.map fol).drop (ls.length - n.toNat))), 1, ?_, ?_⟩
    · rw [sz_mk]; omega
    · refine Next_core nn 9 (⟨#[]⟩ : ByteArray) (⟨#[0]⟩ : ByteArray) 0 false 0 0 c o hA (by decide) h nr n 0 (by rw [hm]; exact hS) ?_
      rw [show wrap64 ((([] : List Bytes).length : Int) + n) = n by rw [w64 _ (by simp only [List.length_nil]; omega)]; simp only [List.length_nil]; omega]
      exact Ev.pos rfl (Ev.neg (by decide) (Ev.neg (by simp only [List.length_nil]; omega) (Ev.neg (by omega) (Ev.bind hL (Ev.pure _)))))

theorem rep_len (i : Nat) : (wire (List.replicate i [97])).length = 2 * i + 1 := by
  induction i with
  | zero => rfl
  | succ i ih =>
    show (UInt8.ofNat 1 :: ([97] ++ wire (List.replicate i [97]))).length = _
    simp only [List.length_cons, List.length_append, List.length_nil, ih]
    omega

theorem Long_l0 (c o : Int) (hc : 1 ≤ c ∧ c ≤ 16) (ho : 0 ≤ o ∧ o ≤ 7) (k : Nat) (hk : 1 ≤ k ∧ k ≤ 126) : ∀ (d i : Nat), k - i = d → i ≤ k → Ev (fun q => wimplelaw17_QminLong.l0 q (k : Int) c o (mkB (wire (List.replicate i [97]))) (i : Int)) true := by
  intro d
  induction d with
  | zero =>
    intro i hd hi
    obtain rfl : i = k := by omega
    have hl := rep_len i
    have hn : nm (B (mkB (wire (List.replicate i [97])))) = some (List.replicate i [97]) := by
      rw [B_mk]
      exact nm_wire (fun l hl => by rw [List.eq_of_mem_replicate hl]; exact ⟨by decide, by decide⟩) (by omega)
    obtain ⟨x, ty, hx, hN⟩ := Long_next c o hc ho _ _ hn (by rw [List.length_replicate]; omega) (by rw [List.length_replicate]; omega)
    have hm := mx_range c o hc ho
    refine Ev.step (fun k => by simp only [wimplelaw17_QminLong.l0]; rfl) (Ev.neg (by omega) ?_)
    exact Long_l1 c o hc ho _ x ty hx hN _ (i : Int) 0 1000 0 rfl ⟨by omega, by omega, by omega, by omega, by omega, by omega, by omega, by omega, by omega, by omega, by omega, fun q => by omega⟩
  | succ d ih =>
    intro i hd hi
    have h := ih (i + 1) (by omega) (by omega)
    have hl := rep_len i
    have e : (⟨#[1, 97]⟩ : ByteArray) ++ mkB (wire (List.replicate i [97])) = mkB (wire (List.replicate (i + 1) [97])) := by
      apply B_inj
      rw [B_append]
      rfl
    refine Ev.step (fun k => by simp only [wimplelaw17_QminLong.l0]; rfl) (Ev.pos (by omega) (Ev.pos (by rw [sz_mk]; omega) ?_))
    simp only [e, w_succ i (by omega)]
    exact h

theorem QminLong_ev (a b d : Int) : Ev (fun q => wimplelaw17_QminLong.f q a b d) true := by
  obtain ⟨n, hn, hn2⟩ : ∃ n : Nat, a % 128 = (n : Int) ∧ n < 128 := ⟨(a % 128).toNat, by omega, by omega⟩
  obtain ⟨c, hc, hc2⟩ : ∃ c : Int, b % 16 = c ∧ 0 ≤ c ∧ c < 16 := ⟨_, rfl, by omega, by omega⟩
  obtain ⟨o, ho, ho2⟩ : ∃ o : Int, d % 8 = o ∧ 0 ≤ o ∧ o < 8 := ⟨_, rfl, by omega, by omega⟩
  have J : ∀ k : Nat, 1 ≤ k → k ≤ 126 → Ev (fun q => wimplelaw17_QminLong.j0 q b d (k : Int)) true := by
    intro k h1 h2
    refine Ev.step (fun k => by simp only [wimplelaw17_QminLong.j0]; rfl) ?_
    simp only [and15, and7, hc, ho, w64 (1 + c) (by omega)]
    exact Long_l0 (1 + c) o (by omega) (by omega) k ⟨h1, h2⟩ _ 0 rfl (by omega)
  unfold wimplelaw17_QminLong.f
  simp only [and127, hn]
  rw [show (1 : Int) + (n : Int) = (n : Int) + 1 by omega]
  simp only [w_succ n (by omega)]
  refine Ev.bind awake_ev (Ev.pos rfl ?_)
  by_cases h : ((n + 1 : Nat) : Int) > 126
  · exact Ev.pos h (J 126 (by omega) (by omega))
  · exact Ev.neg h (J (n + 1) (by omega) (by omega))

theorem QminLong_pure : Go.Proofs.Ytbcflinledkgjaa.P.wimplelaw17_QminLong.Pure := fun a0 a1 a2 _ _ _ => (QminLong_ev a0 a1 a2).rounds
end Go.Proofs.Ytbcflinledkgjaa.M
