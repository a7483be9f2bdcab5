/- Small words: strings as lists of bytes, wraps, rounds. -/
import Derived.Test.YtojjkgnkdcekpaaWWords
import Derived.Laws.BytesArg
import Derived.Laws.Strings
import Derived.Lib.Strings
namespace Go.Proofs.Ytojjkgnkdcekpaa.M
open Go Go.RowKit Go.Proofs.YtojjkgnkdcekpaaW.PrintWords

/-- A string's bytes. -/
abbrev B (s : ByteArray) : List UInt8 := s.data.toList
def mkB (l : List UInt8) : ByteArray := ⟨l.toArray⟩

theorem B_mk (l : List UInt8) : B (mkB l) = l := rfl
theorem mk_B (s : ByteArray) : mkB (B s) = s := by
  obtain ⟨⟨l⟩⟩ := s
  rfl
theorem B_inj {s t : ByteArray} (h : B s = B t) : s = t := by rw [← mk_B s, ← mk_B t, h]
theorem toL (s : ByteArray) : s.toList = B s := ByteArray.toList_eq s
theorem sz (s : ByteArray) : s.size = (B s).length := by rw [Array.length_toList]; rfl
theorem sz_mk (l : List UInt8) : (mkB l).size = l.length := by simp [mkB, ByteArray.size]
theorem B_append (s t : ByteArray) : B (s ++ t) = B s ++ B t := by simp [B]
theorem mk_append (a b : List UInt8) : mkB a ++ mkB b = mkB (a ++ b) := B_inj (by rw [B_append]; rfl)
theorem B_extract (s : ByteArray) (a b : Nat) : B (s.extract a b) = ((B s).drop a).take (b - a) := Lib.extract_data s a b
theorem B_strOfNums (xs : List Int) : B (strOfNums xs) = xs.map fun n => UInt8.ofNat n.toNat := rfl

theorem bt_get (s : ByteArray) (i : Nat) (h : i < s.size) : bt s (i : Int) = (((B s)[i]'(by rw [← sz]; exact h)).toNat : Int) := by
  unfold bt
  rw [dif_pos (by simpa using h)]
  rfl

theorem bt_drop (s : ByteArray) (i : Nat) (c : UInt8) (r : List UInt8) (h : (B s).drop i = c :: r) : bt s (i : Int) = (c.toNat : Int) ∧ i < s.size ∧ (B s).drop (i + 1) = r := by
  have hlt : i < (B s).length := by
    rcases Nat.lt_or_ge i (B s).length with h' | h'
    · exact h'
    · rw [List.drop_eq_nil_of_le h'] at h; cases h
  rw [List.drop_eq_getElem_cons hlt] at h
  injection h with h1 h2
  refine ⟨?_, by rw [sz]; exact hlt, h2⟩
  rw [bt_get s i (by rw [sz]; exact hlt), h1]

theorem w64 (n : Int) (h : -9223372036854775808 ≤ n ∧ n ≤ 9223372036854775807) : wrap64 n = n := by unfold wrap64; omega
theorem w64b (c : UInt8) : wrap64 (c.toNat : Int) = (c.toNat : Int) := by have := c.toNat_lt; exact w64 _ (by omega)

theorem w_succ (i : Nat) (h : i ≤ 4611686018427387904) : wrap64 ((i : Int) + 1) = ((i + 1 : Nat) : Int) := by rw [w64 _ (by omega)]; omega
theorem w_pred (i : Nat) (h : i ≤ 4611686018427387904) : wrap64 (((i + 1 : Nat) : Int) - 1) = (i : Int) := by rw [w64 _ (by omega)]; omega
theorem w_add (i j : Nat) (h : i ≤ 4611686018427387903) (h' : j ≤ 4611686018427387903) : wrap64 ((i : Int) + (j : Int)) = ((i + j : Nat) : Int) := by rw [w64 _ (by omega)]; omega
theorem w_nat (i : Nat) (h : i ≤ 4611686018427387904) : wrap64 (i : Int) = (i : Int) := w64 _ (by omega)

section
variable {α β : Type}
theorem Ev.pos {c : Prop} [Decidable c] {g f : Nat → Option α} {r : α} (h : c) (k : Ev g r) : Ev (fun n => if c then g n else f n) r := Ev.congr (fun _ => if_pos h) k
theorem Ev.neg {c : Prop} [Decidable c] {g f : Nat → Option α} {r : α} (h : ¬ c) (k : Ev f r) : Ev (fun n => if c then g n else f n) r := Ev.congr (fun _ => if_neg h) k
theorem Ev.pure (r : α) : Ev (fun _ => some r) r := ⟨0, fun _ _ => rfl⟩
theorem Ev.bindp {g : Option α} {f : Nat → α → Option β} {a : α} {r : β} (h : g = some a) (k : Ev (fun n => f n a) r) : Ev (fun n => g.bind (f n)) r := by
  subst h
  exact k
theorem Ev.eq {g : Nat → Option α} {r r' : α} (h : Ev g r) (e : r = r') : Ev g r' := e ▸ h
theorem Ev.const {g : Option α} {r : α} (h : g = some r) : Ev (fun _ => g) r := ⟨0, fun _ _ => h⟩
end

theorem b_eq (a b : UInt8) : ((a.toNat : Int) = (b.toNat : Int)) ↔ a = b := ⟨fun h => UInt8.toNat_inj.1 (by omega), fun h => by rw [h]⟩

end Go.Proofs.Ytojjkgnkdcekpaa.M
