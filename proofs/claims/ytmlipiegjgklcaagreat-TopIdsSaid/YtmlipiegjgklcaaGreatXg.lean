/- The fold of a name, at the names that occur. -/
import Derived.Test.YtmlipiegjgklcaaGreatXf
import Derived.Test.YtmlipiegjgklcaaGreatFo
/- The fold of a name, at the names that occur. -/
noncomputable section
set_option linter.unusedVariables false
set_option linter.unusedSimpArgs false
namespace Go.Ax.Top
open Go Go.RowKit
def bytesOf (s : List Nat) : ByteArray := ⟨(s.map UInt8.ofNat).toArray⟩
theorem bytesOf_eq {ρ : Nat → Int} {s : List Nat} {bs : ByteArray} (h : bs.data.toList.map (·.toNat) = s.map (codeVal ρ)) (hs : ∀ c ∈ s, c < 256) : bs = bytesOf s := by
  have e1 : s.map (codeVal ρ) = s := by
    conv => rhs; rw [← List.map_id s]
    exact List.map_congr_left fun c hc => by simp [codeVal, hs c hc]
  rw [e1] at h
  have e2 : bs.data.toList = s.map UInt8.ofNat := by
    rw [← h, List.map_map]
    conv => lhs; rw [← List.map_id bs.data.toList]
    exact List.map_congr_left fun c _ => by simp
  cases bs with
  | mk a => simp only [bytesOf, ByteArray.mk.injEq]; rw [← e2]
theorem bytesOf_map {ρ : Nat → Int} {s : List Nat} (hs : ∀ c ∈ s, c < 256) : (bytesOf s).data.toList.map (·.toNat) = s.map (codeVal ρ) := by
  simp only [bytesOf, List.map_map]
  exact List.map_congr_left fun c hc => by
    have := hs c hc
    simp [codeVal, this, Nat.mod_eq_of_lt this]
theorem calls_fold {ρ : Nat → Int} {s r : List Nat} (h : (Go.Proofs.YtmlipiegjgklcaaGreat.P.rel_Fold.f 1000 (bytesOf s)) = some (bytesOf r)) (hs : ∀ c ∈ s, c < 256) (hr : ∀ c ∈ r, c < 256) (g : AH) : CallsOk P ρ 72 [.str s] g (.str r) g := by
  refine ⟨Grow.refl _, ?_, fun C μ w vs cov st hv => ?_⟩
  · obtain ⟨fn, hfn, hb, hrs, hn, hname⟩ := fo72.fn
    exact fun args w => by
      have h1 : fn.name ≠ "runtime.NumGoroutine" := by simpa using hname
      simp [callFunc, hfn, h1, hb]
  · simp only [VL] at hv
    obtain ⟨v, r0, e, hv, rfl⟩ := hv
    simp only [V] at hv
    obtain ⟨bs, rfl, hb⟩ := hv
    have := bytesOf_eq hb hs
    subst this
    have hvs : vs = #[.string (bytesOf s)] := by
      apply Array.toList_inj.1
      rw [e]
    subst hvs
    refine Calls.mono (Go.Proofs.YtmlipiegjgklcaaGreat.P.rel_Fold.calls 1000 _ _ w h) fun e w' he => ?_
    obtain ⟨rfl, hbel⟩ := he
    refine ⟨_, rfl, Out.refl (St.of_blocks (fun k hk => hbel.block k hk) ⟨hbel.os, hbel.tape, hbel.output⟩ st) ?_⟩
    simp only [V]
    exact ⟨_, rfl, bytesOf_map hr⟩
def small (l : List Nat) : Bool := l.all (fun c => Nat.blt c 256)
theorem small_ok {l : List Nat} (h : small l = true) : ∀ c ∈ l, c < 256 := fun c hc => by have := List.all_eq_true.1 h c hc; simpa [Nat.blt_eq] using this
theorem f72_0 : Go.Proofs.YtmlipiegjgklcaaGreat.P.rel_Fold.f 1000 (bytesOf [0]) = some (bytesOf [0]) := by kernel_rfl
theorem f72_1 : Go.Proofs.YtmlipiegjgklcaaGreat.P.rel_Fold.f 1000 (bytesOf [1, 98, 1, 99, 0]) = some (bytesOf [1, 98, 1, 99, 0]) := by kernel_rfl
theorem f72_2 : Go.Proofs.YtmlipiegjgklcaaGreat.P.rel_Fold.f 1000 (bytesOf [1, 99, 0]) = some (bytesOf [1, 99, 0]) := by kernel_rfl
theorem f72_3 : Go.Proofs.YtmlipiegjgklcaaGreat.P.rel_Fold.f 1000 (bytesOf [1, 100, 0]) = some (bytesOf [1, 100, 0]) := by kernel_rfl
theorem f72_4 : Go.Proofs.YtmlipiegjgklcaaGreat.P.rel_Fold.f 1000 (bytesOf [1, 101, 1, 99, 0]) = some (bytesOf [1, 101, 1, 99, 0]) := by kernel_rfl
theorem f72_5 : Go.Proofs.YtmlipiegjgklcaaGreat.P.rel_Fold.f 1000 (bytesOf [1, 104, 0]) = some (bytesOf [1, 104, 0]) := by kernel_rfl
theorem f72_6 : Go.Proofs.YtmlipiegjgklcaaGreat.P.rel_Fold.f 1000 (bytesOf [1, 108, 1, 99, 0]) = some (bytesOf [1, 108, 1, 99, 0]) := by kernel_rfl
theorem f72_7 : Go.Proofs.YtmlipiegjgklcaaGreat.P.rel_Fold.f 1000 (bytesOf [1, 110, 1, 98, 1, 99, 0]) = some (bytesOf [1, 110, 1, 98, 1, 99, 0]) := by kernel_rfl
theorem f72_8 : Go.Proofs.YtmlipiegjgklcaaGreat.P.rel_Fold.f 1000 (bytesOf [1, 110, 1, 99, 0]) = some (bytesOf [1, 110, 1, 99, 0]) := by kernel_rfl
theorem f72_9 : Go.Proofs.YtmlipiegjgklcaaGreat.P.rel_Fold.f 1000 (bytesOf [1, 113, 0]) = some (bytesOf [1, 113, 0]) := by kernel_rfl
theorem f72_10 : Go.Proofs.YtmlipiegjgklcaaGreat.P.rel_Fold.f 1000 (bytesOf [1, 114, 0]) = some (bytesOf [1, 114, 0]) := by kernel_rfl
theorem f72_11 : Go.Proofs.YtmlipiegjgklcaaGreat.P.rel_Fold.f 1000 (bytesOf [1, 119, 1, 98, 1, 99, 0]) = some (bytesOf [1, 119, 1, 98, 1, 99, 0]) := by kernel_rfl
theorem f72_12 : Go.Proofs.YtmlipiegjgklcaaGreat.P.rel_Fold.f 1000 (bytesOf [1, 119, 1, 100, 0]) = some (bytesOf [1, 119, 1, 100, 0]) := by kernel_rfl
theorem f72_13 : Go.Proofs.YtmlipiegjgklcaaGreat.P.rel_Fold.f 1000 (bytesOf [1, 120, 1, 101, 1, 99, 0]) = some (bytesOf [1, 120, 1, 101, 1, 99, 0]) := by kernel_rfl
theorem tab72_ok {ρ : Nat → Int} : ∀ e ∈ tab72, ∀ h, CallsOk P ρ 72 e.1 h e.2 h := by
  intro e he h
  simp only [tab72, List.mem_cons, List.not_mem_nil, or_false] at he
  rcases he with rfl | rfl | rfl | rfl | rfl | rfl | rfl | rfl | rfl | rfl | rfl | rfl | rfl | rfl
  · exact calls_fold f72_0 (small_ok (by kernel_rfl)) (small_ok (by kernel_rfl)) h
  · exact calls_fold f72_1 (small_ok (by kernel_rfl)) (small_ok (by kernel_rfl)) h
  · exact calls_fold f72_2 (small_ok (by kernel_rfl)) (small_ok (by kernel_rfl)) h
  · exact calls_fold f72_3 (small_ok (by kernel_rfl)) (small_ok (by kernel_rfl)) h
  · exact calls_fold f72_4 (small_ok (by kernel_rfl)) (small_ok (by kernel_rfl)) h
  · exact calls_fold f72_5 (small_ok (by kernel_rfl)) (small_ok (by kernel_rfl)) h
  · exact calls_fold f72_6 (small_ok (by kernel_rfl)) (small_ok (by kernel_rfl)) h
  · exact calls_fold f72_7 (small_ok (by kernel_rfl)) (small_ok (by kernel_rfl)) h
  · exact calls_fold f72_8 (small_ok (by kernel_rfl)) (small_ok (by kernel_rfl)) h
  · exact calls_fold f72_9 (small_ok (by kernel_rfl)) (small_ok (by kernel_rfl)) h
  · exact calls_fold f72_10 (small_ok (by kernel_rfl)) (small_ok (by kernel_rfl)) h
  · exact calls_fold f72_11 (small_ok (by kernel_rfl)) (small_ok (by kernel_rfl)) h
  · exact calls_fold f72_12 (small_ok (by kernel_rfl)) (small_ok (by kernel_rfl)) h
  · exact calls_fold f72_13 (small_ok (by kernel_rfl)) (small_ok (by kernel_rfl)) h
end Go.Ax.Top
end
