/- RelCases. -/
import Derived.Test.YteodnommecpglaaSAwake2
import Derived.Test.YteodnommecpglaaPx12

set_option linter.unusedVariables false
set_option linter.unusedSimpArgs false
namespace Go.Proofs.Yteodnommecpglaa.M
open Go Go.RowKit Go.Proofs.YteodnommecpglaaW.PrintWords Go.Proofs.Yteodnommecpglaa.P

theorem folded_byte (x : UInt8) : wimplelaw2_folded.f (x.toNat : Int) = some ((fo x).toNat : Int) := by
  have h := fo_toNat x
  have hx := x.toNat_lt
  unfold wimplelaw2_folded.f
  by_cases h1 : (x.toNat : Int) ≥ 65
  · rw [if_pos h1]
    by_cases h2 : (x.toNat : Int) ≤ 90
    · rw [if_pos h2]
      rw [if_pos ⟨by omega, by omega⟩] at h
      rw [h]
      congr 1
      omega
    · rw [if_neg h2]
      rw [if_neg (by omega)] at h
      rw [h]
  · rw [if_neg h1]
    rw [if_neg (by omega)] at h
    rw [h]

theorem str1 (x : UInt8) : strOfNums [(x.toNat : Int)] = mkB [x] := by
  apply B_inj
  rw [B_strOfNums, B_mk]
  simp

theorem cat3 (x : UInt8) : ((⟨#[1]⟩ : ByteArray) ++ mkB [x]) ++ (⟨#[0]⟩ : ByteArray) = mkB [1, x, 0] := by
  apply B_inj
  rw [B_append, B_append]
  rfl

theorem nm1 (x : UInt8) : nm [1, x, 0] = some [[x]] := nm_some.2 ⟨by
  intro l hl
  rw [List.mem_singleton.1 hl]
  exact ⟨by simp, by simp⟩, rfl, by simp⟩

theorem bl1 (u v : UInt8) : bl [u] [v] = decide (u.toNat < v.toNat) := by
  rw [Bool.eq_iff_iff, bl_cons_true, decide_eq_true_eq, bl_irrefl]
  constructor
  · rintro (h | ⟨_, h⟩)
    · exact h
    · cases h
  · exact .inl

theorem cmp1 (u v : UInt8) : cmpR [[u]] [[v]] = if u.toNat < v.toNat then -1 else if v.toNat < u.toNat then 1 else 0 := by
  simp only [cmpR, bl1, decide_eq_true_eq]

theorem suffix1 (u v : List UInt8) : [u] <:+ [v] ↔ u = v := by
  constructor
  · intro h
    have := List.IsSuffix.eq_of_length_le h (by simp)
    exact List.singleton_inj.1 this
  · rintro rfl
    exact List.suffix_refl _

theorem RelCases_ev (a b : Int) : Ev (fun q => wimplelaw2_RelCases.f q a b) true := by
  obtain ⟨x, hx⟩ : ∃ x : UInt8, a % 256 = (x.toNat : Int) := ⟨UInt8.ofNat (a % 256).toNat, by rw [ofNat_toNat_len (by omega)]; omega⟩
  obtain ⟨y, hy⟩ : ∃ y : UInt8, b % 256 = (y.toNat : Int) := ⟨UInt8.ofNat (b % 256).toNat, by rw [ofNat_toNat_len (by omega)]; omega⟩
  have hs := Same_ev (mkB [1, x, 0]) (mkB [1, y, 0])
  rw [B_mk, B_mk, sameS_some (nm1 x) (nm1 y)] at hs
  have hA := Above_ev (mkB [1, x, 0]) (mkB [1, y, 0])
  rw [B_mk, B_mk, aboveS_some (nm1 x) (nm1 y)] at hA
  have hC := Compare_ev (mkB [1, x, 0]) (mkB [1, y, 0])
  rw [B_mk, B_mk, rl_some (nm1 x), rl_some (nm1 y), show cmpR (([[x]].map fol).reverse) (([[y]].map fol).reverse) = cmpR [[fo x]] [[fo y]] from rfl, cmp1] at hC
  have hF := Fold_ev (mkB [1, x, 0])
  rw [B_mk, fold_some (nm1 x), show wire ([[x]].map fol) = [1, fo x, 0] from rfl] at hF
  have hq : ((fo x).toNat : Int) = ((fo y).toNat : Int) ↔ fo x = fo y := ⟨fun h => UInt8.toNat_inj.1 (by omega), fun h => by rw [h]⟩
  unfold wimplelaw2_RelCases.f
  simp only [hx, hy]
  refine Ev.bind awake_ev (Ev.pos rfl (Ev.bindp rfl ?_))
  simp only [str1]
  refine Ev.pos (by rw [sz_mk]; simp) (Ev.pos (by rw [ByteArray.size_append, sz_mk, show (⟨#[1]⟩ : ByteArray).size = 1 from rfl]; simp) (Ev.bindp rfl ?_))
  simp only [str1, cat3]
  refine Ev.pos (by rw [sz_mk]; simp) (Ev.pos (by rw [ByteArray.size_append, sz_mk, show (⟨#[1]⟩ : ByteArray).size = 1 from rfl]; simp) (Ev.bindp (folded_byte x) (Ev.bindp (folded_byte y) (Ev.bind hs (Ev.pos ?_ (Ev.bind hA (Ev.pos ?_ (Ev.bind hC (Ev.pos ?_ (Ev.bind hC (Ev.bindp (folded_byte x) (Ev.bindp (folded_byte y) (Ev.pos ?_ (Ev.bind hF (Ev.bindp (folded_byte x) (Ev.bindp rfl ?_))))))))))))))))
  · rw [beq_iff_eq, Bool.eq_iff_iff, decide_eq_true_eq, beq_iff_eq, hq]
    simp [fol]
  · rw [beq_iff_eq, Bool.eq_iff_iff, decide_eq_true_eq, beq_iff_eq, hq, show [[x]].map fol = [[fo x]] from rfl, show [[y]].map fol = [[fo y]] from rfl, suffix1]
    simp
  · rw [beq_iff_eq, Bool.eq_iff_iff, beq_iff_eq, beq_iff_eq]
    constructor
    · intro h
      split at h
      · cases h
      · split at h
        · cases h
        · omega
    · intro h
      rw [if_neg (by omega), if_neg (by omega)]
  · rw [beq_iff_eq, decide_eq_decide]
    constructor
    · intro h
      split at h
      · omega
      · split at h
        · exact absurd h (by decide)
        · exact absurd h (by decide)
    · intro h
      rw [if_pos (by omega)]
      decide
  · simp only [str1, cat3]
    refine Ev.pos (by rw [sz_mk]; simp) (Ev.pos (by rw [ByteArray.size_append, sz_mk, show (⟨#[1]⟩ : ByteArray).size = 1 from rfl]; simp) (Ev.eq (Ev.pure _) ?_))
    rw [beq_iff_eq]

theorem RelCases_pure : Go.Proofs.Yteodnommecpglaa.P.wimplelaw2_RelCases.Pure := fun a0 a1 _ _ => (RelCases_ev a0 a1).rounds
end Go.Proofs.Yteodnommecpglaa.M
