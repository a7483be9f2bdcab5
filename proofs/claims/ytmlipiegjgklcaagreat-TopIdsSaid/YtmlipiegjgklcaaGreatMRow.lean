/- A block of bytes that '[]byte(s)' made: read, written, turned back. -/
import Derived.Lib.ConvBytes
import Derived.Laws.IdiomStrings
import Derived.Below
import Derived.WalkKit
namespace Go.Proofs.YtmlipiegjgklcaaGreat.M
open Go Go.RowKit

def BRow (w : World) (g : Nat) (l : List UInt8) : Prop := ∃ C : Array Value, w.heap[g]? = some (.cells C 5 (C.size, C.size + 1)) ∧ l.length ≤ C.size ∧ ∀ (j : Nat) (h : j < l.length), C[j]? = some (.int .u8 ((l[j]'h).toNat : Int))

theorem BRow.new (w : World) (s : ByteArray) : BRow (Lib.bytesWorld w 5 s) w.heap.size s.data.toList := by
  refine ⟨_, Lib.bytesWorld_at_new w 5 s, ?_, ?_⟩
  · simp [Lib.bytesCells]
  · intro j h
    have hs : j < s.data.size := by simpa using h
    have hs2 : j < s.size := hs
    simp [Lib.bytesCells, Array.getElem?_append, hs2]

theorem BRow.cell {w : World} {g : Nat} {l : List UInt8} (h : BRow w g l) (j : Nat) (hj : j < l.length) : w.cell? ⟨g, j, none⟩ = some (.int .u8 ((l[j]'hj).toNat : Int)) := by
  obtain ⟨C, hb, _, hc⟩ := h
  simp only [World.cell?, hb]
  exact hc j hj

theorem BRow.free {w : World} {g : Nat} {l : List UInt8} (h : BRow w g l) (j : Nat) (hj : j < l.length) : w.frozen? ⟨g, j, none⟩ = false := by
  obtain ⟨C, hb, hl, _⟩ := h
  simp [World.frozen?, hb]
  omega

theorem BRow.put {w : World} {g : Nat} {l : List UInt8} (h : BRow w g l) (j : Nat) (x : UInt8) : BRow (w.setCell ⟨g, j, none⟩ (.int .u8 (x.toNat : Int))) g (l.set j x) := by
  obtain ⟨C, hb, hl, hc⟩ := h
  refine ⟨C.setIfInBounds j (.int .u8 (x.toNat : Int)), ?_, ?_, ?_⟩
  · simp [World.setCell, Array.getElem?_modify, hb]
  · simpa using hl
  · intro i hi
    have hi2 : i < l.length := by simpa using hi
    by_cases e : j = i
    · subst e
      simp [Array.getElem?_setIfInBounds]
      omega
    · rw [Array.getElem?_setIfInBounds_ne e, hc i hi2]
      simp [e]

theorem BRow.back {P : Program} {w : World} {g cap src dst e : Nat} {l : List UInt8} (h : BRow w g l) (hs : P.underlying src = some (.slice e)) (he : P.underlying e = some (.int .u8)) (hd : P.underlying dst = some .string) :
    (convert src dst (.slice (some ⟨g, 0, none⟩) l.length cap)).run P w = .ok (.string ⟨l.toArray⟩) w := by
  refine run_convert_bytes_back w src dst e ⟨g, 0, none⟩ cap l hs he hd (fun j hj => ?_)
  have : (⟨g, 0, none⟩ : Addr).add j = ⟨g, j, none⟩ := by simp [Addr.add]; exact fun z => z.symm
  rw [this]
  exact h.cell j hj

theorem BRow.grown {w w' : World} {g : Nat} {l : List UInt8} (h : BRow w g l) (hb : Below w.heap.size w w') : BRow w' g l := by
  obtain ⟨C, hbk, hl, hc⟩ := h
  have hlt : g < w.heap.size := by
    rcases Nat.lt_or_ge g w.heap.size with h' | h'
    · exact h'
    · simp [Array.getElem?_eq_none h'] at hbk
  exact ⟨C, by rw [hb.block g hlt]; exact hbk, hl, hc⟩

theorem below_bytes (w : World) (s : ByteArray) : Below w.heap.size w (Lib.bytesWorld w 5 s) :=
  ⟨rfl, rfl, rfl, by rw [Lib.bytesWorld_size]; omega, fun k hk => Lib.bytesWorld_at_old w 5 s k hk⟩

theorem mid_len (f : UInt8 → UInt8) (l : List UInt8) (i : Nat) (h : i ≤ l.length) : ((l.take i).map f ++ l.drop i).length = l.length := by
  simp only [List.length_append, List.length_map, List.length_take, List.length_drop]
  omega

theorem mid_get (f : UInt8 → UInt8) (l : List UInt8) (i : Nat) (h : i < l.length) (h' : i < ((l.take i).map f ++ l.drop i).length) : ((l.take i).map f ++ l.drop i)[i] = l[i] := by
  rw [List.getElem_append_right (by simp only [List.length_map, List.length_take]; omega)]
  simp only [List.getElem_drop, List.length_map, List.length_take]
  congr 1
  omega

theorem mid_set (f : UInt8 → UInt8) (l : List UInt8) (i : Nat) (h : i < l.length) : ((l.take i).map f ++ l.drop i).set i (f l[i]) = (l.take (i + 1)).map f ++ l.drop (i + 1) := by
  have h1 : ((l.take i).map f).length = i := by simp only [List.length_map, List.length_take]; omega
  rw [List.set_append_right _ _ (by omega), h1, Nat.sub_self, List.drop_eq_getElem_cons h, List.set_cons_zero, List.take_succ_eq_append_getElem h, List.map_append, List.append_assoc]
  rfl

end Go.Proofs.YtmlipiegjgklcaaGreat.M
