/- Plain lists of bytes: names on the wire, their labels, their text; no program in sight. -/
import Derived.Laws.Strings
namespace Go.Proofs.YtmlipiegjgklcaaGreat.M

abbrev Bytes := List UInt8

/-- A name's bytes. -/
def wire : List Bytes → Bytes
  | [] => [0]
  | l :: r => UInt8.ofNat l.length :: (l ++ wire r)

def Good (ls : List Bytes) : Prop := ∀ l ∈ ls, 1 ≤ l.length ∧ l.length ≤ 63

/-- A name's labels, if it is one (of whatever length). -/
def dec (s : Bytes) : Option (List Bytes) :=
  match s with
  | [] => none
  | c :: r => if c = 0 then (if r = [] then some [] else none)
      else if 63 < c.toNat then none
      else (dec (r.drop c.toNat)).map (fun q => r.take c.toNat :: q)
termination_by s.length
decreasing_by simp only [List.length_drop, List.length_cons]; omega

theorem dec_nil : dec [] = none := by rw [dec]
theorem dec_zero (r : Bytes) : dec (0 :: r) = if r = [] then some [] else none := by rw [dec]; simp
theorem dec_long {c : UInt8} (r : Bytes) (h : 63 < c.toNat) : dec (c :: r) = none := by
  rw [dec]
  have h0 : c ≠ 0 := by rintro rfl; simp at h
  rw [if_neg h0, if_pos h]
theorem dec_step {c : UInt8} (r : Bytes) (h0 : c ≠ 0) (h : c.toNat ≤ 63) : dec (c :: r) = (dec (r.drop c.toNat)).map (fun q => r.take c.toNat :: q) := by
  rw [dec]
  rw [if_neg h0, if_neg (by omega)]

theorem ofNat_toNat_len {n : Nat} (h : n ≤ 255) : (UInt8.ofNat n).toNat = n := by
  simp [UInt8.toNat_ofNat']
  omega

theorem ofNat_ne_zero {n : Nat} (h0 : 1 ≤ n) (h : n ≤ 255) : UInt8.ofNat n ≠ 0 := by
  intro e
  have := congrArg UInt8.toNat e
  rw [ofNat_toNat_len h] at this
  simp at this
  omega

theorem dec_wire : ∀ ls, Good ls → dec (wire ls) = some ls
  | [], _ => by simp [wire, dec_zero]
  | l :: r, h => by
    have hl := h l (by simp)
    have hr : Good r := fun x hx => h x (by simp [hx])
    have hn := ofNat_toNat_len (n := l.length) (by omega)
    rw [wire, dec_step _ (ofNat_ne_zero hl.1 (by omega)) (by rw [hn]; exact hl.2), hn]
    rw [List.drop_left' rfl, List.take_left' rfl, dec_wire r hr]
    rfl

theorem dec_some : ∀ (n : Nat) (s : Bytes) (ls : List Bytes), s.length ≤ n → dec s = some ls → Good ls ∧ wire ls = s
  | 0, s, ls, hn, h => by
    have : s = [] := List.length_eq_zero_iff.1 (by omega)
    subst this
    simp [dec_nil] at h
  | n + 1, s, ls, hn, h => by
    cases s with
    | nil => simp [dec_nil] at h
    | cons c r =>
      by_cases h0 : c = 0
      · subst h0
        rw [dec_zero] at h
        by_cases hr : r = []
        · rw [if_pos hr] at h
          cases h
          subst hr
          exact ⟨fun l hl => by simp at hl, rfl⟩
        · rw [if_neg hr] at h; cases h
      · by_cases h63 : 63 < c.toNat
        · rw [dec_long r h63] at h; cases h
        · rw [dec_step r h0 (by omega)] at h
          cases hd : dec (r.drop c.toNat) with
          | none => rw [hd] at h; cases h
          | some q =>
            rw [hd] at h
            simp only [Option.map_some, Option.some.injEq] at h
            subst h
            simp only [List.length_cons] at hn
            have ih := dec_some n (r.drop c.toNat) q (by simp only [List.length_drop]; omega) hd
            have hlt : c.toNat < r.length := by
              rcases Nat.lt_or_ge c.toNat r.length with h' | h'
              · exact h'
              · rw [List.drop_eq_nil_of_le h', dec_nil] at hd; cases hd
            have hc1 : 1 ≤ c.toNat := by
              rcases Nat.eq_zero_or_pos c.toNat with h' | h'
              · exact absurd (UInt8.toNat_inj.1 (by simpa using h')) h0
              · exact h'
            have hlen : (r.take c.toNat).length = c.toNat := by simp only [List.length_take]; omega
            refine ⟨?_, ?_⟩
            · intro l hl
              rcases List.mem_cons.1 hl with rfl | hl
              · rw [hlen]; omega
              · exact ih.1 l hl
            · rw [wire, hlen, ih.2, List.take_append_drop]
              simp

theorem dec_good {s : Bytes} {ls : List Bytes} (h : dec s = some ls) : Good ls := (dec_some s.length s ls (Nat.le_refl _) h).1
theorem dec_back {s : Bytes} {ls : List Bytes} (h : dec s = some ls) : wire ls = s := (dec_some s.length s ls (Nat.le_refl _) h).2

theorem wire_length (ls : List Bytes) : (wire ls).length = (ls.map (fun l => l.length + 1)).sum + 1 := by
  induction ls with
  | nil => rfl
  | cons l r ih => simp [wire, ih]; omega

theorem wire_pos (ls : List Bytes) : 1 ≤ (wire ls).length := by rw [wire_length]; omega

theorem wire_append (a b : List Bytes) : wire (a ++ b) = (wire a).dropLast ++ wire b := by
  induction a with
  | nil => rfl
  | cons l r ih =>
    have : wire r ≠ [] := by intro e; have := wire_pos r; rw [e] at this; simp at this
    simp only [List.cons_append, wire, ih]
    rw [List.dropLast_cons_of_ne_nil (by simp [this]), List.dropLast_append_of_ne_nil this]
    simp

theorem wire_count (ls : List Bytes) (h : Good ls) : 2 * ls.length + 1 ≤ (wire ls).length := by
  induction ls with
  | nil => simp [wire]
  | cons l r ih =>
    have hl := h l (by simp)
    have := ih (fun x hx => h x (by simp [hx]))
    simp only [wire, List.length_cons, List.length_append]
    omega

theorem wire_inj {a b : List Bytes} (ha : Good a) (hb : Good b) (h : wire a = wire b) : a = b := by
  have := dec_wire a ha
  rw [h, dec_wire b hb] at this
  exact (Option.some.inj this).symm

/-- A name's labels: at most 255 bytes. -/
def nm (s : Bytes) : Option (List Bytes) := if s.length ≤ 255 then dec s else none

theorem nm_some {s : Bytes} {ls : List Bytes} : nm s = some ls ↔ Good ls ∧ wire ls = s ∧ s.length ≤ 255 := by
  unfold nm
  by_cases h : s.length ≤ 255
  · rw [if_pos h]
    constructor
    · intro hd
      exact ⟨dec_good hd, dec_back hd, h⟩
    · rintro ⟨hg, hw, _⟩
      rw [← hw, dec_wire ls hg]
  · rw [if_neg h]
    constructor
    · intro hd; cases hd
    · rintro ⟨_, _, h'⟩; exact absurd h' h

theorem nm_wire {ls : List Bytes} (hg : Good ls) (hl : (wire ls).length ≤ 255) : nm (wire ls) = some ls := nm_some.2 ⟨hg, rfl, hl⟩

theorem nm_nil : nm [] = none := by simp [nm, dec_nil]

/-- Where labels begin. -/
def offs : Nat → List Bytes → List Int
  | at_, [] => [(at_ : Int)]
  | at_, l :: r => (at_ : Int) :: offs (at_ + 1 + l.length) r

theorem offs_length (n : Nat) (ls : List Bytes) : (offs n ls).length = ls.length + 1 := by
  induction ls generalizing n with
  | nil => rfl
  | cons l r ih => simp [offs, ih]

/-- The place of label number i. -/
def off (ls : List Bytes) : Nat → Nat
  | 0 => 0
  | i + 1 => match ls with
    | [] => 0
    | l :: r => 1 + l.length + off r i

theorem offs_get (n : Nat) (ls : List Bytes) (i : Nat) (h : i ≤ ls.length) : (offs n ls).getD i 0 = ((n + off ls i : Nat) : Int) := by
  induction ls generalizing n i with
  | nil =>
    have : i = 0 := by simpa using h
    subst this
    simp [offs, off]
  | cons l r ih =>
    cases i with
    | zero => simp [offs, off]
    | succ i =>
      simp only [offs, off, List.getD_cons_succ]
      rw [ih _ _ (by simpa using h)]
      congr 1
      omega

theorem drop_off (ls : List Bytes) (i : Nat) (h : i ≤ ls.length) : (wire ls).drop (off ls i) = wire (ls.drop i) := by
  induction ls generalizing i with
  | nil =>
    have : i = 0 := by simpa using h
    subst this
    simp [off]
  | cons l r ih =>
    cases i with
    | zero => simp [off]
    | succ i =>
      have hi : i ≤ r.length := by simpa using h
      simp only [off, wire, List.drop_succ_cons]
      rw [show 1 + l.length + off r i = (l.length + off r i) + 1 from by omega, List.drop_succ_cons, ← List.drop_drop, List.drop_left' rfl, ih i hi]

theorem off_lt (ls : List Bytes) (i : Nat) (h : i ≤ ls.length) : off ls i < (wire ls).length := by
  have h1 := drop_off ls i h
  have h2 := wire_pos (ls.drop i)
  rw [← h1, List.length_drop] at h2
  omega

theorem off_succ (ls : List Bytes) (i : Nat) (h : i < ls.length) : off ls (i + 1) = off ls i + 1 + ls[i].length := by
  induction ls generalizing i with
  | nil => simp at h
  | cons l r ih =>
    cases i with
    | zero => simp [off]
    | succ i =>
      have hi : i < r.length := by simpa using h
      have := ih i hi
      simp only [off, List.getElem_cons_succ] at this ⊢
      omega

/-- A byte folded. -/
def fo (c : UInt8) : UInt8 := if 65 ≤ c.toNat ∧ c.toNat ≤ 90 then c + 32 else c
def fol (l : Bytes) : Bytes := l.map fo

theorem fo_toNat (c : UInt8) : (fo c).toNat = if 65 ≤ c.toNat ∧ c.toNat ≤ 90 then c.toNat + 32 else c.toNat := by
  unfold fo
  split
  · rename_i h
    rw [UInt8.toNat_add]
    have : (32 : UInt8).toNat = 32 := rfl
    rw [this]
    omega
  · rfl

theorem fo_fo (c : UInt8) : fo (fo c) = fo c := by
  apply UInt8.toNat_inj.1
  rw [fo_toNat, fo_toNat]
  by_cases h : 65 ≤ c.toNat ∧ c.toNat ≤ 90
  · rw [if_pos h, if_neg (by omega)]
  · rw [if_neg h, if_neg h]

theorem fol_length (l : Bytes) : (fol l).length = l.length := by simp [fol]
theorem fol_fol (l : Bytes) : fol (fol l) = fol l := by simp [fol, fo_fo]

theorem good_fold {ls : List Bytes} (h : Good ls) : Good (ls.map fol) := by
  intro l hl
  obtain ⟨x, hx, rfl⟩ := List.mem_map.1 hl
  rw [fol_length]
  exact h x hx

theorem wire_fold_length (ls : List Bytes) : (wire (ls.map fol)).length = (wire ls).length := by
  rw [wire_length, wire_length, List.map_map]
  congr 3
  funext l
  simp [fol_length]

/-- A name folded; of what is none: nothing. -/
def fold (s : Bytes) : Bytes := match nm s with
  | some ls => wire (ls.map fol)
  | none => []

theorem nm_fold (s : Bytes) : nm (fold s) = (nm s).map (List.map fol) := by
  unfold fold
  cases h : nm s with
  | none => simp [nm_nil]
  | some ls =>
    obtain ⟨hg, hw, hl⟩ := nm_some.1 h
    simp only [Option.map_some]
    exact nm_wire (good_fold hg) (by rw [wire_fold_length, hw]; exact hl)

theorem fold_ne_nil {s : Bytes} {ls : List Bytes} (h : nm s = some ls) : fold s ≠ [] := by
  unfold fold
  rw [h]
  intro e
  have := wire_pos (ls.map fol)
  simp only at e
  rw [e] at this
  simp at this

theorem fold_none {s : Bytes} (h : nm s = none) : fold s = [] := by unfold fold; rw [h]
theorem fold_some {s : Bytes} {ls : List Bytes} (h : nm s = some ls) : fold s = wire (ls.map fol) := by unfold fold; rw [h]

theorem fold_length {s : Bytes} {ls : List Bytes} (h : nm s = some ls) : (fold s).length = s.length := by
  rw [fold_some h, wire_fold_length, (nm_some.1 h).2.1]

theorem fold_fold (s : Bytes) : fold (fold s) = fold s := by
  cases h : nm s with
  | none => rw [fold_none h]; exact fold_none nm_nil
  | some ls =>
    have h2 := nm_fold s
    rw [h] at h2
    rw [fold_some h2, fold_some h, List.map_map]
    congr 2
    funext l
    exact fol_fol l

end Go.Proofs.YtmlipiegjgklcaaGreat.M
