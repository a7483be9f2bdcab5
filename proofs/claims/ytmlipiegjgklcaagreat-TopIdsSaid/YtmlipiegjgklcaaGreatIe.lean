/- TopIds: what its parts do. -/
import Derived.Test.YtmlipiegjgklcaaGreatXj
import Derived.Test.YtmlipiegjgklcaaGreatIb
import Derived.Test.YtmlipiegjgklcaaGreatIc
import Derived.Test.YtmlipiegjgklcaaGreatId
/- TopIds: what its parts do. -/
noncomputable section
set_option linter.unusedVariables false
set_option linter.unusedSimpArgs false
namespace Go.Ax.Top
open Go.RowKit
def hintsO : AObj := zo1
def idsO : AObj := zo2
def symsO : AObj := zo24
def plainV (ph pi : Place) : Value := .agg #[.slice (some ⟨ph.blk, ph.off, none⟩) 2 2, .int .i64 50, .int .i64 8, .int .i64 30, .int .i64 3, .int .i64 5, .int .i64 5, .int .i64 2, .int .i64 10, .int .i64 4, .slice (some ⟨pi.blk, pi.off, none⟩) 200 200]
theorem k_aw : okT (callQ P rngC KC (fnsOf tree4) 80 9 [] h0) = true := by kernel_rfl
section
variable {ρ : Nat → Int} {rng : Rng} {μ μ' : Mu}
theorem awake_calls (hr : Ranges ρ rngC) (w : World) : Calls P 9 #[] w fun e w' => e = .returned (.bool true) ∧ Below w.heap.size w w' := law_of hr (tree4_ok hr) k_aw w #[] (by simp [VL])
def nnAll (l : List (List AV)) : Bool := allL (fun r => allL nn1 r) l
theorem Holds.nn {w : World} {p : Place} {sz n : Nat} {c : PT (List AV)} (hn : ∀ i, i < n → nn1 (cellAt sz c i) = true) (h : Holds ρ μ w p (.cells sz n c)) : Holds ρ μ' w p (.cells sz n c) := by
  obtain ⟨h1, h2, h3, h4, h5⟩ := h
  refine ⟨h1, h2, h3, h4, fun i hi => ?_⟩
  obtain ⟨v, a, b, c⟩ := h5 i hi
  exact ⟨v, a, b, nn1_V (hn i hi) c⟩
def upTo (n : Nat) (f : Nat → Bool) : Bool := Nat.rec (motive := fun _ => Bool) true (fun i ih => and (f i) ih) n
theorem upTo_ok {f : Nat → Bool} : ∀ {n : Nat}, upTo n f = true → ∀ i, i < n → f i = true
  | 0, _, i, hi => by omega
  | n + 1, h, i, hi => by
    obtain ⟨h1, h2⟩ := and_ok (show and (f n) (upTo n f) = true from h)
    by_cases e : i = n
    · rw [e]; exact h1
    · exact upTo_ok h2 i (by omega)
def objNN (o : AObj) : Bool := match o with | .cells sz n c => upTo n (fun i => nn1 (cellAt sz c i)) | _ => false
theorem Holds.nnO {w : World} {p : Place} {o : AObj} (hn : objNN o = true) (h : Holds ρ μ w p o) : Holds ρ μ' w p o := by
  cases o with
  | none => cases hn
  | map es c => cases hn
  | cells sz n c => exact Holds.nn (upTo_ok hn) h
theorem hints_nn : objNN hintsO = true := by kernel_rfl
theorem ids_nn : objNN idsO = true := by kernel_rfl
theorem plain_calls (hr : Ranges ρ rngC) (w : World) : Calls P 21 #[] w fun e w' => ∃ ph pi : Place, e = .returned (plainV ph pi) ∧ Below w.heap.size w w' ∧ w.heap.size ≤ ph.blk ∧ w.heap.size ≤ pi.blk ∧ ph.blk ≠ pi.blk ∧ Holds ρ (fun _ => none) w' ph hintsO ∧ Holds ρ (fun _ => none) w' pi idsO := by
  obtain ⟨_, _, k⟩ := step_of hr (tree4_ok hr) k_ePl
  have hnil : ∀ x, x ∉ ePl.L := fun x hx => by rw [show ePl.L = [] from rfl] at hx; simp at hx
  refine Calls.mono (k (fun _ => none) w #[] ⟨fun e he => absurd he (hnil e), fun e he => absurd he (hnil e)⟩ (fun _ _ => rfl) (by simp [ePl, VL])) fun e w' he => ?_
  obtain ⟨r, μ', rfl, hv, ⟨hh, hap⟩, _, hfz, haw, hs⟩ := he
  obtain ⟨pi, hpi, Hi⟩ := hh (p0, idsO) (by simp [ePl, S4, idsO])
  obtain ⟨ph, hph, Hh⟩ := hh (p1, hintsO) (by simp [ePl, S4, hintsO])
  have ge : ∀ e ∈ ePl.L', ∀ p, μ' e.1 = some p → w.heap.size ≤ p.blk := fun e he p hp => by
    refine Nat.le_of_not_lt fun hlt => haw e he p hp ⟨hlt, fun x hx => absurd hx (hnil x)⟩
  have hb : ∀ k, k < w.heap.size → w'.heap[k]? = w.heap[k]? := fun k hk => hfz k ⟨hk, fun x hx => absurd hx (hnil x)⟩
  refine ⟨ph, pi, ?_, ⟨hs.os, hs.tape, hs.output, ?_, hb⟩, ge (p1, hintsO) (by simp [ePl, S4, hintsO]) ph hph, ge (p0, idsO) (by simp [ePl, S4, idsO]) pi hpi, hap (p1, hintsO) (by simp [ePl, S4, hintsO]) (p0, idsO) (by simp [ePl, S4, idsO]) (by simp [p0, p1]) ph pi hph hpi, Holds.nnO (o := hintsO) hints_nn Hh, Holds.nnO (o := idsO) ids_nn Hi⟩
  · congr 1
    simp only [ePl, V, VL, I] at hv
    obtain ⟨cs, rfl, hl, _⟩ := hv
    obtain ⟨v0, r0, e0, ⟨q, c, a, hq, rfl, h1, h2, h3, h4⟩, hl⟩ := hl
    obtain ⟨v1, r1, rfl, rfl, hl⟩ := hl
    obtain ⟨v2, r2, rfl, rfl, hl⟩ := hl
    obtain ⟨v3, r3, rfl, rfl, hl⟩ := hl
    obtain ⟨v4, r4, rfl, rfl, hl⟩ := hl
    obtain ⟨v5, r5, rfl, rfl, hl⟩ := hl
    obtain ⟨v6, r6, rfl, rfl, hl⟩ := hl
    obtain ⟨v7, r7, rfl, rfl, hl⟩ := hl
    obtain ⟨v8, r8, rfl, rfl, hl⟩ := hl
    obtain ⟨v9, r9, rfl, rfl, hl⟩ := hl
    obtain ⟨v10, r10, rfl, ⟨q', c', a', hq', rfl, k1, k2, k3, k4⟩, rfl⟩ := hl
    have hc : c = 2 := h2 trivial
    have hc' : c' = 200 := k2 trivial
    subst hc; subst hc'
    rw [hph] at hq; cases hq
    rw [hpi] at hq'; cases hq'
    rw [(h3 (by omega)).1, (k3 (by omega)).1] at e0
    unfold plainV
    congr 1
    apply Array.toList_inj.1
    rw [e0]
    rfl
  · by_cases hz : w.heap.size = 0
    · omega
    · have h1 := hb (w.heap.size - 1) (by omega)
      rw [Array.getElem?_eq_getElem (xs := w.heap) (by omega)] at h1
      have := (Array.getElem?_eq_some_iff.1 h1).1
      omega
end
end Go.Ax.Top
end
/- TopIds: what stands behind its loop. -/
noncomputable section
set_option linter.unusedVariables false
set_option linter.unusedSimpArgs false
namespace Go.Ax.Top
open Go.RowKit
def fstC (c : Code) : Code := match c with | .seq a _ => a | c => c
theorem restI_eq : restI = .seq (fstC restI) (sndC restI) := by kernel_rfl
theorem wf8 : wfB 146 (fstC restI) = true := by kernel_rfl
theorem wf9 : wfB 146 (sndC restI) = true := by kernel_rfl
theorem retB_ok {k : XK} (h : retB k = true) : k = .r := by cases k <;> first | rfl | cases h
def muI (ph pi : Place) (bc : Nat) : Mu := fun b => if b = p0 then some pi else if b = p1 then some ph else if b = p2 then some ⟨bc, 0, 11⟩ else none
def cfgO : AObj := zo168
theorem HX_eq : HX = [(p0, symsO), (p1, hintsO), (p2, cfgO)] := rfl
section
variable {ρ : Nat → Int} {rng : Rng}
theorem Holds.syms {μ μ' : Mu} {w : World} {p : Place} {sz n : Nat} {c : PT (List AV)} (hn : ∀ i, i < n → (match cellAt sz c i with | .sym _ _ => true | _ => false) = true) (h : Holds ρ μ w p (.cells sz n c)) : Holds ρ μ' w p (.cells sz n c) := by
  obtain ⟨h1, h2, h3, h4, h5⟩ := h
  refine ⟨h1, h2, h3, h4, fun i hi => ?_⟩
  obtain ⟨v, a, b, c'⟩ := h5 i hi
  refine ⟨v, a, b, ?_⟩
  have := hn i hi
  split at this
  · rename_i k e he
    rw [he] at c' ⊢
    simpa only [V] using c'
  · cases this
def objSym (o : AObj) : Bool := match o with | .cells sz n c => upTo n (fun i => match cellAt sz c i with | .sym _ _ => true | _ => false) | _ => false
theorem Holds.symsO' {μ μ' : Mu} {w : World} {p : Place} {o : AObj} (hn : objSym o = true) (h : Holds ρ μ w p o) : Holds ρ μ' w p o := by
  cases o with
  | none => cases hn
  | map es c => cases hn
  | cells sz n c => exact Holds.syms (upTo_ok hn) h
theorem syms_sym : objSym symsO = true := by kernel_rfl
theorem rest_ok {t : PT Fun} (hr : Ranges ρ rng) (ht : OkT ρ rng t) (l : okI (runI rng t) = true) {w0 w : World} {a : Act} {ph pi : Place} {bc : Nat} (bel : Below w0.heap.size w0 w)
    (H1 : Holds ρ (fun _ => none) w ph hintsO) (H2 : Holds ρ (fun _ => none) w pi symsO)
    (cfg : w.heap[bc]? = some (.cells #[.slice (some ⟨ph.blk, ph.off, none⟩) 2 2, .int .i64 50, .int .i64 8, .int .i64 30, .int .i64 3, .int .i64 5, .int .i64 5, .int .i64 2, .int .i64 10, .int .i64 4, .slice (some ⟨pi.blk, pi.off, none⟩) 200 200] 59 (0, 0)))
    (h1 : w0.heap.size ≤ ph.blk) (h2 : w0.heap.size ≤ pi.blk) (h3 : w0.heap.size ≤ bc) (n1 : ph.blk ≠ pi.blk) (n2 : bc ≠ ph.blk) (n3 : bc ≠ pi.blk)
    (hsz : a.tmps.size = 146) (hd : a.defers = []) (t1 : a.tmps.getD 1 Go.undef = .int .i64 (ρ 0)) (t4 : a.tmps.getD 4 Go.undef = .bool false) (t5 : a.tmps.getD 5 Go.undef = .pointer (some ⟨bc, 0, none⟩))
    {Q : Exit → Act → World → Prop} {K : Act → World → Prop} (hK : ∀ a w, (sndC restI).wp P Q a w → K a w)
    (hQ : ∀ a' w', a'.tmps.getD 4 Go.undef = .bool true → a'.defers = [] → a'.tmps.size = 146 → Below w0.heap.size w0 w' → Q .ret a' w') : (fstC restI).wp P (Exit.then K Q) a w := by
  cases hrun : runI rng t with
  | er s => rw [hrun] at l; cases l
  | ok x h' =>
    rw [hrun] at l
    obtain ⟨l1, l2⟩ := and_ok (show and (retB x.k) (eqV1 (tget x.t 4) (.bool true)) = true from l)
    have l1 := retB_ok l1
    have l2 := eqV1_ok l2
    have hq : (codeQ ⟨P, rng, KC, noCall⟩ x5.mask restI).run ⟨P, rng, KC, callQ P rng KC (fnsOf t) 80⟩ tI (hOf HX p3) = .ok x h' := hrun
    rw [(codeQ_eq (Z := ⟨P, rng, KC, noCall⟩) (E := ⟨P, rng, KC, callQ P rng KC (fnsOf t) 80⟩) ⟨rfl, rfl, rfl⟩ (m := x5.mask) restI (t := tI) (h := hOf HX p3) rfl).1] at hq
    rw [restI_eq] at hq
    have hE : EnvOk ⟨P, rng, KC, callQ P rng KC (fnsOf t) 80⟩ ρ := ⟨hr, kc, fun f args h v h' e => by
      rw [callQ_eq] at e
      exact callN_ok hr kc mixed (fns := fnsOf t) ht 80 f args h v h' e⟩
    have hq : bR (seqK (runC (sndC restI)) ⟨P, rng, KC, callQ P rng KC (fnsOf t) 80⟩) (runC (fstC restI) ⟨P, rng, KC, callQ P rng KC (fnsOf t) 80⟩ tI (hOf HX p3)) = .ok x h' := hq
    obtain ⟨x1, g1, e1, e2⟩ := bR_ok hq
    obtain ⟨gr1, k1⟩ := runC_ok hE mixed (N := 146) (fstC restI) (wfB_ok wf8) e1
    -- the world as the executor sees it
    let C : Ctx := ⟨fun _ => True, h'.next.num, look (hOf HX p3), ⟨fun k => k < w0.heap.size, fun k => w0.heap[k]?, w0⟩⟩
    have hview : C.view (hOf HX p3) = look (hOf HX p3) := by
      funext b
      unfold Ctx.view
      rw [if_neg (by simp [hOf])]
    have hl : ∀ b, look (hOf HX p3) b ≠ .none → ∃ e ∈ HX, e.1 = b ∧ look (hOf HX p3) b = e.2 := fun b hb => treeO_look hb
    have m0 : muI ph pi bc p0 = some pi := by simp [muI]
    have m1 : muI ph pi bc p1 = some ph := by simp [muI, p0, p1]
    have m2 : muI ph pi bc p2 = some ⟨bc, 0, 11⟩ := by simp [muI, p0, p1, p2]
    have hcfg : Holds ρ (muI ph pi bc) w ⟨bc, 0, 11⟩ cfgO := by
      have hc : ∀ j, w.cell? ⟨bc, j, none⟩ = (#[Value.slice (some ⟨ph.blk, ph.off, none⟩) 2 2, .int .i64 50, .int .i64 8, .int .i64 30, .int .i64 3, .int .i64 5, .int .i64 5, .int .i64 2, .int .i64 10, .int .i64 4, .slice (some ⟨pi.blk, pi.off, none⟩) 200 200] : Array Value)[j]? := fun j => by
        unfold World.cell?; rw [cfg]; rfl
      refine ⟨fun j hj => ⟨?_, ?_⟩, by simp, (Array.getElem?_eq_some_iff.1 cfg).1, ⟨_, _, _, cfg⟩, fun i hi => ?_⟩
      · rw [hc]; simp at hj ⊢; exact hj
      · unfold World.frozen?; rw [cfg]; simp
      · have hi : i < 11 := hi
        have hpos : ∀ b : Place, V ρ (muI ph pi bc) .undef (.int .i64 0) := fun _ => V.undef _
        simp only [Nat.zero_add]
        rw [hc]
        have key : ∀ j, j < 11 → ∃ v, (#[Value.slice (some ⟨ph.blk, ph.off, none⟩) 2 2, .int .i64 50, .int .i64 8, .int .i64 30, .int .i64 3, .int .i64 5, .int .i64 5, .int .i64 2, .int .i64 10, .int .i64 4, .slice (some ⟨pi.blk, pi.off, none⟩) 200 200] : Array Value)[j]? = some v ∧ v.oneCell' = true ∧ V ρ (muI ph pi bc) (([.slice p1 0 2 2 true 2, I 50, I 8, I 30, I 3, I 5, I 5, I 2, I 10, I 4, .slice p0 0 200 200 true 1] : List AV).getD j .undef) v := by
          intro j hj
          match j, hj with
          | 0, _ => exact ⟨_, rfl, rfl, by simp only [List.getD_cons_zero, V]; exact ⟨ph, 2, _, m1, rfl, by omega, fun _ => rfl, fun _ => ⟨rfl, by obtain ⟨_, q, _⟩ := H1; omega⟩, by omega⟩⟩
          | 1, _ => exact ⟨_, rfl, rfl, by simp [I, V]⟩
          | 2, _ => exact ⟨_, rfl, rfl, by simp [I, V]⟩
          | 3, _ => exact ⟨_, rfl, rfl, by simp [I, V]⟩
          | 4, _ => exact ⟨_, rfl, rfl, by simp [I, V]⟩
          | 5, _ => exact ⟨_, rfl, rfl, by simp [I, V]⟩
          | 6, _ => exact ⟨_, rfl, rfl, by simp [I, V]⟩
          | 7, _ => exact ⟨_, rfl, rfl, by simp [I, V]⟩
          | 8, _ => exact ⟨_, rfl, rfl, by simp [I, V]⟩
          | 9, _ => exact ⟨_, rfl, rfl, by simp [I, V]⟩
          | 10, _ => exact ⟨_, rfl, rfl, by simp only [List.getD_cons_succ, List.getD_cons_zero, V]; exact ⟨pi, 200, _, m0, rfl, by omega, fun _ => rfl, fun _ => ⟨rfl, by obtain ⟨_, q, _⟩ := H2; omega⟩, by omega⟩⟩
        have hrow : ∀ j, j < 11 → cellAt 11 (tr [[.slice p1 0 2 2 true 2, I 50, I 8, I 30, I 3, I 5, I 5, I 2, I 10, I 4, .slice p0 0 200 200 true 1]]) j = ([.slice p1 0 2 2 true 2, I 50, I 8, I 30, I 3, I 5, I 5, I 2, I 10, I 4, .slice p0 0 200 200 true 1] : List AV).getD j .undef := fun j hj => cellAt_one [.slice p1 0 2 2 true 2, I 50, I 8, I 30, I 3, I 5, I 5, I 2, I 10, I 4, .slice p0 0 200 200 true 1] j hj
        obtain ⟨v, q1, q2, q3⟩ := key i hi
        exact ⟨v, q1, q2, (hrow i hi).symm ▸ q3⟩
    have st : St C ρ (muI ph pi bc) (hOf HX p3) w := by
      have hsize : ∀ k, k < w0.heap.size → k < w.heap.size := fun k hk => Nat.lt_of_lt_of_le hk bel.size
      refine ⟨⟨fun k hk => ⟨hsize k hk, bel.block k hk⟩, fun b p hb hp hF => ?_, fun b hb => ?_, fun b b' p p' hb hb' q1 q2 hne => ?_, ⟨bel.os, bel.tape, bel.output⟩⟩, fun b _ => by rw [hview], fun b hb1 _ => ?_⟩
      · have hF : p.blk < w0.heap.size := hF
        unfold muI at hp
        split at hp
        · cases hp; omega
        · split at hp
          · cases hp; omega
          · split at hp
            · cases hp; simp at hF; omega
            · cases hp
      · rw [hview] at hb ⊢
        obtain ⟨e, he, rfl, q⟩ := hl b hb
        rw [q]
        rw [HX_eq] at he
        simp only [List.mem_cons, List.not_mem_nil, or_false] at he
        rcases he with rfl | rfl | rfl
        · exact ⟨pi, m0, Holds.symsO' (o := symsO) syms_sym H2⟩
        · exact ⟨ph, m1, Holds.nnO (o := hintsO) hints_nn H1⟩
        · exact ⟨_, m2, hcfg⟩
      · unfold muI at q1 q2
        by_cases a0 : b = p0
        · by_cases b0 : b' = p0
          · exact absurd (a0.trans b0.symm) hne
          · rw [if_pos a0] at q1; rw [if_neg b0] at q2
            cases q1
            split at q2
            · cases q2; exact fun e => n1 e.symm
            · split at q2
              · cases q2; exact fun e => n3 e.symm
              · cases q2
        · rw [if_neg a0] at q1
          by_cases a1 : b = p1
          · rw [if_pos a1] at q1; cases q1
            split at q2
            · cases q2; exact n1
            · rename_i b0
              by_cases b1 : b' = p1
              · exact absurd (a1.trans b1.symm) hne
              · rw [if_neg b1] at q2
                split at q2
                · cases q2; exact fun e => n2 e.symm
                · cases q2
          · rw [if_neg a1] at q1
            split at q1
            · rename_i a2
              cases q1
              split at q2
              · cases q2; exact n3
              · split at q2
                · cases q2; exact n2
                · split at q2
                  · rename_i b2; exact absurd (a2.trans b2.symm) hne
                  · cases q2
            · cases q1
      · have hn : (hOf HX p3).next.num = 4 := rfl
        unfold muI
        have q0 : p0.num = 1 := rfl
        have q1 : p1.num = 2 := rfl
        have q2 : p2.num = 3 := rfl
        rw [if_neg (fun e => by rw [e] at hb1; omega), if_neg (fun e => by rw [e] at hb1; omega), if_neg (fun e => by rw [e] at hb1; omega)]
    have fr : Fr ρ (muI ph pi bc) 146 tI a := by
      refine ⟨⟨hsz, fun i => ?_⟩, hd⟩
      show V ρ _ (tget1 i .nil (ofList .undef [.undef, symR 0, .undef, .undef, .bool false, .ptr p2 0]) (isP x5.mask i)) _
      cases isP x5.mask i with
      | false => exact V.undef _
      | true =>
        show V ρ _ (PT.get .undef (pos i) (ofList .undef [.undef, symR 0, .undef, .undef, .bool false, .ptr p2 0])) _
        rw [get_ofList]
        match i with
        | 0 => exact V.undef _
        | 1 => rw [t1]; exact symR_V 0
        | 2 => exact V.undef _
        | 3 => exact V.undef _
        | 4 => rw [t4]; simp [V]
        | 5 => rw [t5]; simp only [List.getD_cons_succ, List.getD_cons_zero, V]; exact ⟨_, m2, rfl⟩
        | n + 6 => simp only [List.getD_cons_succ, List.getD_nil]; exact V.undef _
    have fin : ∀ {μ' : Mu} {a' : Act} {w' : World}, Fr ρ μ' 146 x.t a' → St C ρ μ' h' w' → Q .ret a' w' := fun {μ'} {a'} {w'} f s => by
      have hv := f.rel.at_ 4
      rw [l2] at hv
      simp only [V] at hv
      refine hQ a' w' hv f.defers f.rel.size ⟨s.rel.side.os, s.rel.side.tape, s.rel.side.output, ?_, fun k hk => (s.rel.frz k hk).2⟩
      have hs : ∀ k, k < w0.heap.size → k < w'.heap.size := fun k hk => (s.rel.frz k hk).1
      by_cases hz : w0.heap.size = 0
      · omega
      · have := hs (w0.heap.size - 1) (by omega); omega
    have e2 : seqX (runC (sndC restI)) ⟨P, rng, KC, callQ P rng KC (fnsOf t) 80⟩ g1 x1 x1.k = .ok x h' := e2
    cases hk : x1.k with
    | n =>
      rw [hk] at e2
      have e2 : runC (sndC restI) ⟨P, rng, KC, callQ P rng KC (fnsOf t) 80⟩ x1.t g1 = .ok x h' := e2
      obtain ⟨gr2, k2⟩ := runC_ok hE mixed (N := 146) (sndC restI) (wfB_ok wf9) e2
      have cov : C.covers h' := ⟨fun _ _ => trivial, Nat.le_refl _⟩
      refine k1 C _ w a (cov.of_grow gr2) st fr _ fun a1 w1 hout => ?_
      rw [hk]
      obtain ⟨μ1, le1, dom1, f1, s1⟩ := hout
      refine hK a1 w1 (k2 C μ1 w1 a1 cov s1 f1 _ fun a2 w2 hout2 => ?_)
      obtain ⟨μ2, le2, dom2, f2, s2⟩ := hout2
      rw [l1]
      exact fin f2 s2
    | x id =>
      rw [hk] at e2
      cases e2
      rw [l1] at hk; cases hk
    | r =>
      rw [hk] at e2
      cases e2
      have cov : C.covers h' := ⟨fun _ _ => trivial, Nat.le_refl _⟩
      refine k1 C _ w a cov st fr _ fun a1 w1 hout => ?_
      rw [hk]
      obtain ⟨μ1, le1, dom1, f1, s1⟩ := hout
      exact fin f1 s1
end
end Go.Ax.Top
end
/- TopIds: its bounds, its steps. -/
noncomputable section
set_option linter.unusedVariables false
set_option linter.unusedSimpArgs false
namespace Go.Ax.Top
open Go.RowKit
section
variable {ρ : Nat → Int} {rng : Rng} {μ μ' : Mu}
theorem tree5_ok (hr : Ranges ρ rngC) : OkT ρ rng tree5 := OkT.list (tree4_ok hr) ⟨transG_ok mixed fo40 (List.forall_mem_cons.2 ⟨step_of hr (tree4_ok hr) k_eMayT, List.forall_mem_cons.2 ⟨step_of hr (tree4_ok hr) k_eMayC, (fun _ h => by cases h)⟩⟩), trivial⟩
theorem treeR0_ok (hr : Ranges ρ rngC) : OkT ρ rng treeR0 := OkT.list (tree5_ok hr) ⟨transG_ok mixed fo10 (List.forall_mem_cons.2 ⟨step_of hr (tree5_ok hr) k_eM, (fun _ h => by cases h)⟩), transG_ok mixed fo22 (List.forall_mem_cons.2 ⟨step_of hr (tree5_ok hr) k_eN, (fun _ h => by cases h)⟩), transG_ok mixed fo11 (List.forall_mem_cons.2 ⟨step_of hr (tree5_ok hr) k_e0, List.forall_mem_cons.2 ⟨step_of hr (tree5_ok hr) k_e1, List.forall_mem_cons.2 ⟨step_of hr (tree5_ok hr) k_e2, List.forall_mem_cons.2 ⟨step_of hr (tree5_ok hr) k_e3, List.forall_mem_cons.2 ⟨step_of hr (tree5_ok hr) k_e4, List.forall_mem_cons.2 ⟨step_of hr (tree5_ok hr) k_e5, List.forall_mem_cons.2 ⟨step_of hr (tree5_ok hr) k_e6, List.forall_mem_cons.2 ⟨step_of hr (tree5_ok hr) k_e7, (fun _ h => by cases h)⟩⟩⟩⟩⟩⟩⟩⟩), trivial⟩
theorem treeR1_ok (hr : Ranges ρ rngC) : OkT ρ rng treeR1 := OkT.list (tree5_ok hr) ⟨transG_ok mixed fo10 (List.forall_mem_cons.2 ⟨step_of hr (tree5_ok hr) k_eM, (fun _ h => by cases h)⟩), transG_ok mixed fo22 (List.forall_mem_cons.2 ⟨step_of hr (tree5_ok hr) k_eN, (fun _ h => by cases h)⟩), transG_ok mixed fo11 (List.forall_mem_cons.2 ⟨step_of hr (tree5_ok hr) k_e8, List.forall_mem_cons.2 ⟨step_of hr (tree5_ok hr) k_e9, List.forall_mem_cons.2 ⟨step_of hr (tree5_ok hr) k_e10, List.forall_mem_cons.2 ⟨step_of hr (tree5_ok hr) k_e11, List.forall_mem_cons.2 ⟨step_of hr (tree5_ok hr) k_e12, List.forall_mem_cons.2 ⟨step_of hr (tree5_ok hr) k_e13, List.forall_mem_cons.2 ⟨step_of hr (tree5_ok hr) k_e14, List.forall_mem_cons.2 ⟨step_of hr (tree5_ok hr) k_e15, List.forall_mem_cons.2 ⟨step_of hr (tree5_ok hr) k_e16, List.forall_mem_cons.2 ⟨step_of hr (tree5_ok hr) k_e17, (fun _ h => by cases h)⟩⟩⟩⟩⟩⟩⟩⟩⟩⟩), trivial⟩
theorem treeR2_ok (hr : Ranges ρ rngC) : OkT ρ rng treeR2 := OkT.list (tree5_ok hr) ⟨transG_ok mixed fo10 (List.forall_mem_cons.2 ⟨step_of hr (tree5_ok hr) k_eM, (fun _ h => by cases h)⟩), transG_ok mixed fo22 (List.forall_mem_cons.2 ⟨step_of hr (tree5_ok hr) k_eN, (fun _ h => by cases h)⟩), transG_ok mixed fo11 (List.forall_mem_cons.2 ⟨step_of hr (tree5_ok hr) k_e18, List.forall_mem_cons.2 ⟨step_of hr (tree5_ok hr) k_e19, List.forall_mem_cons.2 ⟨step_of hr (tree5_ok hr) k_e20, List.forall_mem_cons.2 ⟨step_of hr (tree5_ok hr) k_e21, List.forall_mem_cons.2 ⟨step_of hr (tree5_ok hr) k_e22, List.forall_mem_cons.2 ⟨step_of hr (tree5_ok hr) k_e23, List.forall_mem_cons.2 ⟨step_of hr (tree5_ok hr) k_e24, List.forall_mem_cons.2 ⟨step_of hr (tree5_ok hr) k_e25, (fun _ h => by cases h)⟩⟩⟩⟩⟩⟩⟩⟩), trivial⟩
theorem rngI_ok (hr : Ranges ρ rngC) {i : Int} (h0 : ρ 0 % 18446744073709551616 % 3 = i) : Ranges ρ (rngR i) := by
  intro e
  unfold rngR
  split
  · simp only [SE.val]; omega
  · exact hr e
/-- What the symbols stand for. -/
def ρI (which : Int) (ids : List Int) : Nat → Int := fun n => if n = 0 then which else if n - 1 < ids.length then ids.getD (n - 1) 0 else if n - 1 < 200 then 7 * ((n - 1 : Nat) : Int) else 0
theorem ρI_ok {which : Int} {ids : List Int} (h : -9223372036854775808 ≤ which ∧ which ≤ 9223372036854775807) (hi : ∀ n ∈ ids, -9223372036854775808 ≤ n ∧ n ≤ 9223372036854775807) : Ranges (ρI which ids) rngC := r64_ok fun i => by
  unfold ρI
  split
  · exact h
  · split
    · rename_i hl
      rw [List.getD_eq_getElem?_getD, List.getElem?_eq_getElem hl]
      exact hi _ (List.getElem_mem hl)
    · split <;> omega
theorem Holds.forget {w : World} {p : Place} {o : AObj} {sz n : Nat} {c : PT (List AV)} (e : o = .cells sz n c) (h : Holds ρ μ w p o) : Holds ρ μ w p (.cells sz n .leaf) := by
  subst e
  obtain ⟨h1, h2, h3, h4, h5⟩ := h
  refine ⟨h1, h2, h3, h4, fun i hi => ?_⟩
  obtain ⟨v, a, b, c⟩ := h5 i hi
  refine ⟨v, a, b, ?_⟩
  have : cellAt sz .leaf i = .undef := by unfold cellAt; rw [PT.get_leaf]; simp
  rw [this]; exact V.undef _
def atO (o : AObj) (i : Nat) : AV := match o with | .cells sz _ c => cellAt sz c i | _ => .undef
theorem ids_chk : upTo 200 (fun j => eqV1 (atO idsO j) (.int .i64 (.ofNat (7 * j)))) = true := by kernel_rfl
theorem ids_at {w : World} {p : Place} (h : Holds ρ μ w p idsO) (j : Nat) (hj : j < 200) : w.cell? ⟨p.blk, p.off + j, none⟩ = some (.int .i64 (7 * (j : Int))) := by
  obtain ⟨h1, h2, h3, h4, h5⟩ := h
  obtain ⟨v, a, b, c⟩ := h5 j hj
  have e := eqV1_ok (upTo_ok ids_chk j hj)
  have c : V ρ μ (atO idsO j) v := c
  rw [e] at c
  simp only [V] at c
  rw [a, c]
  congr 2
def symAt (o : AObj) (j : Nat) : Bool := match atO o j with | .sym .i64 (.add k (.ofNat 0)) => Nat.beq k (j + 1) | _ => false
theorem syms_chk : upTo 200 (fun j => symAt symsO j) = true := by kernel_rfl
theorem syms_of {w : World} {p : Place} (h : Holds ρ μ w p (.cells 1 200 .leaf)) (hc : ∀ j, j < 200 → w.cell? ⟨p.blk, p.off + j, none⟩ = some (.int .i64 (ρ (j + 1)))) : Holds ρ μ w p symsO := by
  obtain ⟨h1, h2, h3, h4, h5⟩ := h
  refine ⟨h1, h2, h3, h4, fun i hi => ?_⟩
  have hi : i < 200 := hi
  refine ⟨_, hc i hi, rfl, ?_⟩
  have := upTo_ok syms_chk i hi
  show V ρ μ (atO symsO i) _
  unfold symAt at this
  split at this
  · rename_i k e
    rw [e, Nat.eq_of_beq_eq_true this]
    exact symR_V (i + 1)
  · cases this
end
end Go.Ax.Top
end
