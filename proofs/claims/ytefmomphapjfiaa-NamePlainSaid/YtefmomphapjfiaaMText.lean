/- Plain lists of bytes: a name as signs; no program in sight. -/
import Derived.Test.YtefmomphapjfiaaMNames
namespace Go.Proofs.Ytefmomphapjfiaa.M

/-- Does a byte stand as it is? -/
def plain (c : UInt8) : Bool := decide (33 ≤ c.toNat ∧ c.toNat ≤ 126 ∧ c.toNat ≠ 46 ∧ c.toNat ≠ 92)
def esc (c : UInt8) : Bytes := if plain c = true then [c] else [92, 48 + c / 100, 48 + c / 10 % 10, 48 + c % 10]
def escs (l : Bytes) : Bytes := l.flatMap esc
def textL (ls : List Bytes) : Bytes := ls.flatMap (fun l => escs l ++ [46])
def text (ls : List Bytes) : Bytes := if ls = [] then [46] else textL ls

/-- Signs read as a name: what is done, the label under way. -/
def unesc : Bytes → Bytes → Bytes → Option (Bytes × Bytes)
  | [], out, label => some (out, label)
  | c :: r, out, label =>
    if c = 46 then unesc r (out ++ UInt8.ofNat label.length :: label) []
    else if c = 92 then match r with
      | x :: y :: z :: r' => unesc r' out (label ++ [UInt8.ofNat (100 * (x.toNat - 48) + 10 * (y.toNat - 48) + (z.toNat - 48))])
      | _ => none
    else unesc r out (label ++ [c])

theorem esc_digits (c : UInt8) : (48 + c / 100).toNat = 48 + c.toNat / 100 ∧ (48 + c / 10 % 10).toNat = 48 + c.toNat / 10 % 10 ∧ (48 + c % 10).toNat = 48 + c.toNat % 10 := by
  have h := c.toNat_lt
  simp only [UInt8.toNat_add, UInt8.toNat_div, UInt8.toNat_mod, UInt8.reduceToNat]
  omega

theorem esc_value (c : UInt8) : UInt8.ofNat (100 * ((48 + c / 100).toNat - 48) + 10 * ((48 + c / 10 % 10).toNat - 48) + ((48 + c % 10).toNat - 48)) = c := by
  obtain ⟨h1, h2, h3⟩ := esc_digits c
  have h := c.toNat_lt
  rw [h1, h2, h3, show 100 * (48 + c.toNat / 100 - 48) + 10 * (48 + c.toNat / 10 % 10 - 48) + (48 + c.toNat % 10 - 48) = c.toNat from by omega]
  simp

theorem unesc_esc (c : UInt8) (r out label : Bytes) : unesc (esc c ++ r) out label = unesc r out (label ++ [c]) := by
  unfold esc
  by_cases h : plain c = true
  · rw [if_pos h]
    simp only [plain, decide_eq_true_eq] at h
    simp only [List.cons_append, List.nil_append]
    have h1 : ¬ c = 46 := by rintro rfl; simp at h
    have h2 : ¬ c = 92 := by rintro rfl; simp at h
    rw [unesc.eq_def]
    simp only [h1, h2, if_false]
  · rw [if_neg h]
    simp only [List.cons_append, List.nil_append]
    rw [unesc.eq_def]
    simp only []
    rw [if_neg (by decide)]
    simp only [if_true, esc_value]

theorem unesc_escs (l r out label : Bytes) : unesc (escs l ++ r) out label = unesc r out (label ++ l) := by
  induction l generalizing label with
  | nil => simp [escs]
  | cons c l ih =>
    have : escs (c :: l) = esc c ++ escs l := by simp [escs]
    rw [this, List.append_assoc, unesc_esc, ih, List.append_assoc]
    rfl

theorem wire_snoc_zero (ls : List Bytes) : ∃ b, wire ls = b ++ [0] := by
  induction ls with
  | nil => exact ⟨[], rfl⟩
  | cons l r ih =>
    obtain ⟨b, hb⟩ := ih
    exact ⟨UInt8.ofNat l.length :: (l ++ b), by simp [wire, hb]⟩

/-- All but the end's byte. -/
def body (ls : List Bytes) : Bytes := ls.flatMap (fun l => UInt8.ofNat l.length :: l)
theorem wire_body (ls : List Bytes) : wire ls = body ls ++ [0] := by
  induction ls with
  | nil => rfl
  | cons l r ih => simp [wire, body, ih]

theorem unesc_textL (ls : List Bytes) (r out : Bytes) : unesc (textL ls ++ r) out [] = unesc r (out ++ body ls) [] := by
  induction ls generalizing out with
  | nil => simp [textL, body]
  | cons l ls ih =>
    have : textL (l :: ls) = escs l ++ [46] ++ textL ls := by simp [textL]
    rw [this, List.append_assoc, List.append_assoc, unesc_escs, List.nil_append]
    have h2 : unesc ([46] ++ (textL ls ++ r)) out l = unesc (textL ls ++ r) (out ++ UInt8.ofNat l.length :: l) [] := by
      simp only [List.cons_append, List.nil_append]
      rw [unesc.eq_def]
      simp only [if_true]
    rw [h2, ih]
    simp [body]

theorem text_inj {a b : List Bytes} (ha : Good a) (hb : Good b) (h : text a = text b) : a = b := by
  have one : ∀ ls, Good ls → ls ≠ [] → textL ls ≠ [46] := by
    intro ls hg hn e
    cases ls with
    | nil => exact hn rfl
    | cons l r =>
      have hl := hg l (by simp)
      have h1 := congrArg List.length e
      simp only [textL, List.flatMap_cons, List.length_append, List.length_cons, List.length_nil] at h1
      have h2 : 1 ≤ (escs l).length := by
        cases l with
        | nil => simp at hl
        | cons c l =>
          simp only [escs, List.flatMap_cons, List.length_append]
          have : 1 ≤ (esc c).length := by unfold esc; split <;> simp
          omega
      omega
  unfold text at h
  by_cases h1 : a = []
  · rw [if_pos h1] at h
    by_cases h2 : b = []
    · rw [h1, h2]
    · rw [if_neg h2] at h
      exact absurd h.symm (one b hb h2)
  · rw [if_neg h1] at h
    by_cases h2 : b = []
    · rw [if_pos h2] at h
      exact absurd h (one a ha h1)
    · rw [if_neg h2] at h
      have e1 := unesc_textL a [] []
      have e2 := unesc_textL b [] []
      rw [h, e2] at e1
      simp only [unesc, List.nil_append, Option.some.injEq, Prod.mk.injEq, and_true] at e1
      exact (wire_inj hb ha (by rw [wire_body, wire_body, e1])).symm

theorem escs_snoc (l : Bytes) (j : Nat) (h : j < l.length) : escs (l.take (j + 1)) = escs (l.take j) ++ esc l[j] := by
  rw [List.take_succ_eq_append_getElem h]
  simp only [escs, List.flatMap_append, List.flatMap_cons, List.flatMap_nil, List.append_nil]
theorem esc_len (c : UInt8) : (esc c).length ≤ 4 := by unfold esc; split <;> simp
theorem escs_len (l : Bytes) : (escs l).length ≤ 4 * l.length := by
  induction l with
  | nil => simp [escs]
  | cons c l ih =>
    have h1 := esc_len c
    simp only [escs, List.flatMap_cons, List.length_append, List.length_cons] at ih ⊢
    omega
theorem textL_snoc (L : List Bytes) (i : Nat) (h : i < L.length) : textL (L.take (i + 1)) = (textL (L.take i) ++ escs L[i]) ++ [46] := by
  rw [List.take_succ_eq_append_getElem h]
  simp only [textL, List.flatMap_append, List.flatMap_cons, List.flatMap_nil, List.append_nil, List.append_assoc]
theorem textL_len (L : List Bytes) (hL : ∀ l ∈ L, l.length ≤ 1000) : (textL L).length ≤ 4001 * L.length := by
  induction L with
  | nil => simp [textL]
  | cons l L ih =>
    have h1 := escs_len l
    have h2 := hL l (by simp)
    have h3 := ih (fun x hx => hL x (by simp [hx]))
    simp only [textL, List.flatMap_cons, List.length_append, List.length_cons, List.length_nil] at h3 ⊢
    omega

end Go.Proofs.Ytefmomphapjfiaa.M
