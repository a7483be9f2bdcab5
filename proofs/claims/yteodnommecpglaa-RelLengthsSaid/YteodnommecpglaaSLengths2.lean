/- RelLengths. -/
import Derived.Test.YteodnommecpglaaSAwake2
import Derived.Test.YteodnommecpglaaMBits
import Derived.Test.YteodnommecpglaaPx13

set_option linter.unusedVariables false
set_option linter.unusedSimpArgs false
namespace Go.Proofs.Yteodnommecpglaa.M
open Go Go.RowKit Go.Proofs.YteodnommecpglaaW.PrintWords Go.Proofs.Yteodnommecpglaa.P

theorem Lengths_end (m : Nat) (h0 : 1 ≤ m) (h1 : m ≤ 63) (s : ByteArray) (xs : List Int) (hl : xs.length = m) : Ev (fun q => wimplelaw2_RelLengths.l0 q s (m : Int) xs (m : Int)) true := by
  obtain ⟨bs, hb, hbl⟩ : ∃ bs, strOfNums xs = mkB bs ∧ bs.length = m := ⟨_, (mk_B _).symm, by rw [B_strOfNums, List.length_map]; exact hl⟩
  have e : (mkB [UInt8.ofNat m] ++ mkB bs) ++ (⟨#[0]⟩ : ByteArray) = mkB (UInt8.ofNat m :: (bs ++ [0])) := by
    apply B_inj
    rw [B_append, B_append, B_mk, B_mk, B_mk]
    rfl
  have nx : nm (UInt8.ofNat m :: (bs ++ [0])) = some [bs] := nm_some.2 ⟨by
    intro l hl
    rw [List.mem_singleton.1 hl]
    omega, by
    show UInt8.ofNat bs.length :: (bs ++ [0]) = _
    rw [hbl], by
    simp only [List.length_cons, List.length_append, List.length_nil]
    omega⟩
  have hF := Fold_ev (mkB (UInt8.ofNat m :: (bs ++ [0])))
  have hM := refMay_ev (mkB (UInt8.ofNat m :: (bs ++ [0])))
  rw [B_mk, nx] at hM
  rw [B_mk] at hF
  have hS := Same_ev (mkB (UInt8.ofNat m :: (bs ++ [0]))) (mkB (fold (UInt8.ofNat m :: (bs ++ [0]))))
  have nf := nm_fold (UInt8.ofNat m :: (bs ++ [0]))
  rw [nx] at nf
  rw [B_mk, B_mk, show sameS (UInt8.ofNat m :: (bs ++ [0])) (fold (UInt8.ofNat m :: (bs ++ [0]))) = true from (sameS_some nx nf).trans (decide_eq_true (by
    rw [List.map_map]
    exact List.map_congr_left (fun l _ => (fol_fol l).symm)))] at hS
  have hfl := fold_length nx
  have hfs := fold_some nx
  have hsz : (fold (UInt8.ofNat m :: (bs ++ [0]))).length = m + 2 := by
    rw [hfl]
    simp only [List.length_cons, List.length_append, List.length_nil]
    omega
  have hb0 : bt (mkB (fold (UInt8.ofNat m :: (bs ++ [0])))) 0 = (m : Int) := by
    have := bt_get (mkB (fold (UInt8.ofNat m :: (bs ++ [0])))) 0 (by rw [sz_mk]; omega)
    rw [show ((0 : Nat) : Int) = 0 from rfl] at this
    rw [this]
    have e2 : (B (mkB (fold (UInt8.ofNat m :: (bs ++ [0])))))[0]? = some (UInt8.ofNat m) := by
      rw [B_mk, hfs]
      show some (UInt8.ofNat (fol bs).length) = _
      rw [fol_length, hbl]
    obtain ⟨_, e3⟩ := List.getElem?_eq_some_iff.1 e2
    rw [e3, ofNat_toNat_len (by omega)]
  refine Ev.step (fun k => by simp only [wimplelaw2_RelLengths.l0]; rfl) (Ev.neg (by omega) (Ev.bindp rfl ?_))
  simp only [one_byte m, hb, e]
  refine Ev.pos (by rw [sz_mk, sz_mk]; simp only [List.length_cons, List.length_nil]; omega) (Ev.pos (by rw [ByteArray.size_append, sz_mk, sz_mk]; simp only [List.length_cons, List.length_nil]; omega) (Ev.bind hF (Ev.bind hM (Ev.pos rfl (Ev.pos ?_ (Ev.pos ?_ (Ev.pos ?_ (Ev.bind hS (Ev.pure _)))))))))
  · rw [sz_mk, sz_mk, hfl]
  · rw [sz_mk]; omega
  · rw [hb0]; omega

theorem Lengths_l0 (m : Nat) (h0 : 1 ≤ m) (h1 : m ≤ 63) (s : ByteArray) : ∀ (d i : Nat) (xs : List Int), m - i = d → i ≤ m → xs.length = m → Ev (fun q => wimplelaw2_RelLengths.l0 q s (m : Int) xs (i : Int)) true := by
  intro d
  induction d with
  | zero =>
    intro i xs hd hi hl
    obtain rfl : i = m := by omega
    exact Lengths_end i h0 h1 s xs hl
  | succ d ih =>
    intro i xs hd hi hl
    have iha := ih (i + 1) ((xs.set i 81).set i (bt s (i : Int))) (by omega) (by omega) (by simp [hl])
    have ihb := ih (i + 1) (xs.set i 81) (by omega) (by omega) (by simp [hl])
    refine Ev.step (fun k => by simp only [wimplelaw2_RelLengths.l0]; rfl) (Ev.pos (by omega) (Ev.pos (by omega) (Ev.pos (by omega) (Ev.bindp rfl ?_))))
    simp only [Int.toNat_natCast, w_succ i (by omega)]
    by_cases hs : (i : Int) < (s.size : Int)
    · exact Ev.pos hs iha
    · exact Ev.neg hs ihb

theorem RelLengths_ev (a : Int) (s : ByteArray) : Ev (fun q => wimplelaw2_RelLengths.f q a s) true := by
  obtain ⟨n, hn, hn2⟩ : ∃ n : Nat, a % 64 = (n : Int) ∧ n < 64 := ⟨(a % 64).toNat, by omega, by omega⟩
  unfold wimplelaw2_RelLengths.f
  simp only [and63, hn]
  rw [show (1 : Int) + (n : Int) = ((n : Int) + 1) by omega]
  simp only [w_succ n (by omega)]
  refine Ev.bind awake_ev (Ev.pos rfl ?_)
  by_cases h : ((n + 1 : Nat) : Int) > 63
  · exact Ev.pos h (Ev.pure _)
  · refine Ev.neg h (Ev.pos (by omega) (Ev.pos (by omega) ?_))
    have := Lengths_l0 (n + 1) (by omega) (by omega) s (n + 1) 0 (List.replicate (n + 1) 0) (by omega) (by omega) (by simp)
    simp only [Int.toNat_natCast]
    exact this

theorem RelLengths_pure : Go.Proofs.Yteodnommecpglaa.P.wimplelaw2_RelLengths.Pure := fun a0 a1 _ _ => (RelLengths_ev a0 a1).rounds
end Go.Proofs.Yteodnommecpglaa.M
