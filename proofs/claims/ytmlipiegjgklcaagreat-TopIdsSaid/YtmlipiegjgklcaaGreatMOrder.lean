/- Plain lists of bytes: the row of names; no program in sight. -/
import Derived.Test.YtmlipiegjgklcaaGreatMNames
import GoSem.Op.String
namespace Go.Proofs.YtmlipiegjgklcaaGreat.M
open Go

abbrev bl := Op.bytesLess

theorem bl_cons (a b : UInt8) (x y : Bytes) : bl (a :: x) (b :: y) = (decide (a < b) || (a == b && bl x y)) := rfl
theorem bl_nil_right (x : Bytes) : bl x [] = false := by cases x <;> rfl
theorem bl_nil_cons (b : UInt8) (y : Bytes) : bl [] (b :: y) = true := rfl

theorem u8_lt (a b : UInt8) : a < b ↔ a.toNat < b.toNat := UInt8.lt_iff_toNat_lt
theorem u8_eq (a b : UInt8) : a = b ↔ a.toNat = b.toNat := ⟨fun h => by rw [h], fun h => UInt8.toNat_inj.1 h⟩

theorem bl_cons_true {a b : UInt8} {x y : Bytes} : bl (a :: x) (b :: y) = true ↔ a.toNat < b.toNat ∨ a.toNat = b.toNat ∧ bl x y = true := by
  rw [bl_cons]
  simp only [Bool.or_eq_true, decide_eq_true_eq, Bool.and_eq_true, beq_iff_eq, u8_lt, u8_eq]

theorem bl_irrefl : ∀ x : Bytes, bl x x = false
  | [] => rfl
  | a :: x => by
    rw [Bool.eq_false_iff]
    intro h
    rcases bl_cons_true.1 h with h | ⟨_, h⟩
    · omega
    · rw [bl_irrefl x] at h; cases h

theorem bl_asymm : ∀ x y : Bytes, bl x y = true → bl y x = false
  | [], [], h => by cases h
  | [], b :: y, _ => bl_nil_right _
  | a :: x, [], h => by rw [bl_nil_right] at h; cases h
  | a :: x, b :: y, h => by
    rw [Bool.eq_false_iff]
    intro h'
    rcases bl_cons_true.1 h with h | ⟨e, h⟩ <;> rcases bl_cons_true.1 h' with h' | ⟨e', h'⟩
    · omega
    · omega
    · omega
    · rw [bl_asymm x y h] at h'; cases h'

theorem bl_total : ∀ x y : Bytes, bl x y = false → bl y x = false → x = y
  | [], [], _, _ => rfl
  | [], b :: y, h, _ => by cases h
  | a :: x, [], _, h => by cases h
  | a :: x, b :: y, h, h' => by
    have n1 : ¬ (a.toNat < b.toNat ∨ a.toNat = b.toNat ∧ bl x y = true) := fun q => by rw [bl_cons_true.2 q] at h; cases h
    have n2 : ¬ (b.toNat < a.toNat ∨ b.toNat = a.toNat ∧ bl y x = true) := fun q => by rw [bl_cons_true.2 q] at h'; cases h'
    have e : a.toNat = b.toNat := by omega
    have h1 : bl x y = false := by rw [Bool.eq_false_iff]; exact fun q => n1 (.inr ⟨e, q⟩)
    have h2 : bl y x = false := by rw [Bool.eq_false_iff]; exact fun q => n2 (.inr ⟨e.symm, q⟩)
    rw [bl_total x y h1 h2, (u8_eq a b).2 e]

theorem bl_trans : ∀ x y z : Bytes, bl x y = true → bl y z = true → bl x z = true
  | _, [], _, h, _ => by rw [bl_nil_right] at h; cases h
  | _, _ :: _, [], _, h => by rw [bl_nil_right] at h; cases h
  | [], _ :: _, c :: z, _, _ => rfl
  | a :: x, b :: y, c :: z, h, h' => by
    rcases bl_cons_true.1 h with h | ⟨e, h⟩ <;> rcases bl_cons_true.1 h' with h' | ⟨e', h'⟩
    · exact bl_cons_true.2 (.inl (by omega))
    · exact bl_cons_true.2 (.inl (by omega))
    · exact bl_cons_true.2 (.inl (by omega))
    · exact bl_cons_true.2 (.inr ⟨by omega, bl_trans x y z h h'⟩)

/-- Two bytes' lists in their row. -/
def bcmp (x y : Bytes) : Int := if bl x y = true then -1 else if bl y x = true then 1 else 0

/-- Labels, the last one first, in their row. -/
def cmpR : List Bytes → List Bytes → Int
  | [], [] => 0
  | [], _ :: _ => -1
  | _ :: _, [] => 1
  | x :: xs, y :: ys => if bl x y = true then -1 else if bl y x = true then 1 else cmpR xs ys

theorem cmpR_range : ∀ x y, cmpR x y = -1 ∨ cmpR x y = 0 ∨ cmpR x y = 1
  | [], [] => .inr (.inl rfl)
  | [], _ :: _ => .inl rfl
  | _ :: _, [] => .inr (.inr rfl)
  | x :: xs, y :: ys => by
    simp only [cmpR]
    split
    · exact .inl rfl
    · split
      · exact .inr (.inr rfl)
      · exact cmpR_range xs ys

theorem cmpR_neg : ∀ x y, cmpR x y = - cmpR y x
  | [], [] => rfl
  | [], _ :: _ => rfl
  | _ :: _, [] => rfl
  | x :: xs, y :: ys => by
    simp only [cmpR]
    by_cases h : bl x y = true
    · rw [if_pos h, if_neg (by rw [bl_asymm x y h]; decide), if_pos h]
    · rw [if_neg h]
      by_cases h' : bl y x = true
      · rw [if_pos h', if_pos h']; rfl
      · rw [if_neg h', if_neg h', if_neg h]; exact cmpR_neg xs ys

theorem cmpR_self : ∀ x, cmpR x x = 0
  | [] => rfl
  | x :: xs => by simp only [cmpR]; rw [if_neg (by rw [bl_irrefl]; decide), if_neg (by rw [bl_irrefl]; decide)]; exact cmpR_self xs

theorem cmpR_eq : ∀ x y, cmpR x y = 0 → x = y
  | [], [], _ => rfl
  | [], _ :: _, h => by cases h
  | _ :: _, [], h => by cases h
  | x :: xs, y :: ys, h => by
    simp only [cmpR] at h
    by_cases h1 : bl x y = true
    · rw [if_pos h1] at h; cases h
    · rw [if_neg h1] at h
      by_cases h2 : bl y x = true
      · rw [if_pos h2] at h; cases h
      · rw [if_neg h2] at h
        rw [cmpR_eq xs ys h, bl_total x y (by simpa using h1) (by simpa using h2)]

theorem cmpR_trans : ∀ x y z, cmpR x y ≤ 0 → cmpR y z ≤ 0 → cmpR x z ≤ 0
  | [], _, [], _, _ => by decide
  | [], _, _ :: _, _, _ => by show (-1 : Int) ≤ 0; decide
  | _ :: _, [], _, h, _ => by exact absurd (show (1 : Int) ≤ 0 from h) (by decide)
  | _ :: _, _ :: _, [], _, h => by exact absurd (show (1 : Int) ≤ 0 from h) (by decide)
  | x :: xs, y :: ys, z :: zs, h, h' => by
    simp only [cmpR] at h h' ⊢
    by_cases h1 : bl x y = true
    · by_cases h2 : bl y z = true
      · rw [if_pos (bl_trans x y z h1 h2)]; decide
      · rw [if_neg h2] at h'
        by_cases h3 : bl z y = true
        · rw [if_pos h3] at h'; exact absurd h' (by decide)
        · have e := bl_total y z (by simpa using h2) (by simpa using h3)
          subst e
          rw [if_pos h1]; decide
    · rw [if_neg h1] at h
      by_cases h2 : bl y x = true
      · rw [if_pos h2] at h; exact absurd h (by decide)
      · rw [if_neg h2] at h
        have e := bl_total x y (by simpa using h1) (by simpa using h2)
        subst e
        by_cases h3 : bl x z = true
        · rw [if_pos h3]; decide
        · rw [if_neg h3] at h' ⊢
          by_cases h4 : bl z x = true
          · rw [if_pos h4] at h'; exact absurd h' (by decide)
          · rw [if_neg h4] at h' ⊢
            exact cmpR_trans xs ys zs h h'

theorem cmpR_prefix : ∀ x t, t ≠ [] → cmpR x (x ++ t) = -1
  | [], [], h => absurd rfl h
  | [], _ :: _, _ => rfl
  | x :: xs, t, h => by
    simp only [List.cons_append, cmpR]
    rw [if_neg (by rw [bl_irrefl]; decide), if_neg (by rw [bl_irrefl]; decide)]
    exact cmpR_prefix xs t h

theorem cmpR_between : ∀ x y z : List Bytes, x <+: z → cmpR x y ≤ 0 → cmpR y z ≤ 0 → x <+: y
  | [], y, _, _, _, _ => List.nil_prefix
  | a :: x, [], _, _, h, _ => absurd (show (1 : Int) ≤ 0 from h) (by decide)
  | a :: x, b :: y, [], hp, _, _ => by simp at hp
  | a :: x, b :: y, c :: z, hp, h, h' => by
    obtain ⟨rfl, hp'⟩ := List.cons_prefix_cons.1 hp
    simp only [cmpR] at h h'
    by_cases h1 : bl a b = true
    · rw [if_neg (by rw [bl_asymm a b h1]; decide), if_pos h1] at h'
      exact absurd h' (by decide)
    · rw [if_neg h1] at h
      by_cases h2 : bl b a = true
      · rw [if_pos h2] at h; exact absurd h (by decide)
      · rw [if_neg h2] at h
        have e := bl_total a b (by simpa using h1) (by simpa using h2)
        subst e
        rw [if_neg h1, if_neg h1] at h'
        exact List.cons_prefix_cons.2 ⟨rfl, cmpR_between x y z hp' h h'⟩

/-- A name's labels folded, the last one first; of what is no name: none. -/
def rl (s : Bytes) : List Bytes := match nm s with
  | some ls => (ls.map fol).reverse
  | none => []

end Go.Proofs.YtmlipiegjgklcaaGreat.M
