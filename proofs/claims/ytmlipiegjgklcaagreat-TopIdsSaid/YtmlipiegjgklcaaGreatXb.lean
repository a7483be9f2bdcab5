/- append: its arms joined. -/
import Derived.Test.YtmlipiegjgklcaaGreatXa
import Derived.Laws.Tables
import Derived.Laws.MakeOwn
import Derived.Laws.IdiomStrings
import Derived.Laws.BytesArg
import Derived.Laws.StructEq
import Derived.MapKept
import Derived.WideKeyRuns
/- append: its arms joined. -/
noncomputable section
set_option linter.unusedVariables false
set_option linter.unusedSimpArgs false
namespace Go.Ax
section
variable {C : Ctx} {ρ : Nat → Int} {μ μ' : Mu} {P : Program} {w w' : World} {h h' : AH}
theorem touch_acc (b : Pos) (h : AH) : (touch b h).acc = b :: h.acc := by cases h; rfl
theorem set_acc (b : Pos) (o : AObj) (h : AH) : (setObj b o h).acc = h.acc := by cases h; rfl
theorem made_acc (o : AObj) (h : AH) : (made o h).acc = h.next :: h.acc := by cases h; rfl
theorem cell_drew {a : Addr} : w.drew.cell? a = w.cell? a := rfl
theorem inB_ok {t tx ty : TypeId} {q : ElI} (hq : elO P t = some q) {b : Pos} {o len cap : Nat} {ex : Bool} {new : List (List AV)} {n : Nat} {news : List Value} {x u : Value} {v : AV} (hl : n = new.length) (hn : 0 < n)
    (E : onCells (inB b o len cap ex q.sz new n h) (PT.get .none b h.t) = .ok v h') (hr : len + n ≤ cap) : Grow h h' ∧ (C.covers h' → St C ρ μ h w → V ρ μ (.slice b o len cap ex q.sz) u → Src P q.sz tx x n news w → Els ρ μ q.sz new news →
    ∃ r w', (Builtin.append_ #[t, tx] ty #[u, x]).run P w = .ok r w' ∧ Out C ρ μ h h' (fun μ' => V ρ μ' v r) w') := by
  obtain ⟨sz2, m, c, ho, E⟩ := onCells_ok E
  have hg := ck_ok E; clear E; obtain ⟨g, E⟩ := hg
  cases E
  refine ⟨(touch_grow b h).trans (set_grow (touch_mem b h)), fun cov s hx hsrc hels => ?_⟩
  obtain ⟨g1, g2⟩ := and_ok g
  obtain ⟨g2, g3⟩ := and_ok g2
  cases Nat.eq_of_beq_eq_true g1
  have g2 : o % q.sz = 0 := Nat.eq_of_beq_eq_true g2
  have g3 := Nat.le_of_ble_eq_true g3
  obtain ⟨e, i, z, ht, hi, hz, hzs, hsz, hby, hpos⟩ := elO_ok hq
  simp only [V] at hx
  obtain ⟨p, cp, a, hp, rfl, h1, h2, h3, h4⟩ := hx
  obtain ⟨ha, hroom⟩ := h3 (by omega)
  have hA : C.A b := cov.acc b (by rw [set_acc]; exact touch_mem b h)
  have hlook : look h b = .cells q.sz m c := ho
  obtain ⟨p', hp', hh⟩ := s.obj (b := b) hA (by rw [hlook]; simp)
  rw [hp] at hp'; cases hp'
  rw [hlook] at hh
  have hnl := hsrc.newsLen
  have ho' : o / q.sz * q.sz = o := Nat.div_mul_cancel (Nat.dvd_of_mod_eq_zero g2)
  have hmul : (len + n) * q.sz = len * q.sz + n * q.sz := Nat.add_mul _ _ _
  have hq2 : (o / q.sz + len) * q.sz = o + len * q.sz := by rw [Nat.add_mul, ho']
  have hq3 : (o / q.sz + len + new.length) * q.sz = o + len * q.sz + n * q.sz := by rw [Nat.add_mul, hq2, hl]
  have hh2 := hh.2.1
  have hst := hh.stored2 (o := o + len * q.sz) (c' := setChunks new (pos (o / q.sz + len)) c) hsrc.one (by rw [hnl]; omega)
    (fun j y hj => by
      have hjl : j < news.length := (List.getElem?_eq_some_iff.1 hj).1
      rw [setChunks_at hpos, hq2, hq3, if_pos (by omega), show o + len * q.sz + j - (o + len * q.sz) = j by omega]
      exact hels.at_ j y hj)
    (fun k hk => by rw [setChunks_at hpos, hq2, hq3, if_neg (by omega)])
  subst ha
  rw [← hsz] at hsrc
  have hrun := run_append_room_src (P := P) w t tx ty e i ht hi p.blk (p.off + o) len cp x n news hsrc (by omega) (fun j hj => by
      have := hh.1 (p.off + o + len * i.size + j) (by rw [hsz]; omega)
      exact this.1) (fun j hj => by
      have := hh.1 (p.off + o + len * i.size + j) (by rw [hsz]; omega)
      exact this.2)
  refine ⟨_, _, hrun, μ, μ.le_refl, fun _ k => .inl k, ?_, ?_⟩
  · simp only [V]
    exact ⟨p, cp, _, hp, rfl, h1, h2, fun _ => ⟨rfl, hroom⟩, hr⟩
  · rw [hsz, Nat.add_assoc]
    exact St.set (s.touch) hA (by rw [touch_look, hlook]; simp) hp (fun k hk _ => setCells_other _ _ _ _ _ hk) hst (Side.setCells _ _ _ _)
theorem unB_ok {t tx ty : TypeId} {q : ElI} (hq : elO P t = some q) {b : Pos} {o len cap : Nat} {ex : Bool} {new : List (List AV)} {n : Nat} {news : List Value} {x u : Value} {v : AV} (hl : n = new.length) (hn : 0 < n) (hb : boundA q.bytes (len + n) = true)
    (E : onCells (unB b o len q.sz new n h) (PT.get .none b h.t) = .ok v h') : Grow h h' ∧ (C.covers h' → St C ρ μ h w → V ρ μ (.slice b o len cap ex q.sz) u → Src P q.sz tx x n news w → Els ρ μ q.sz new news →
    ∃ r w', (Builtin.append_ #[t, tx] ty #[u, x]).run P w = .ok r w' ∧ Out C ρ μ h h' (fun μ' => V ρ μ' v r) w') := by
  obtain ⟨sz2, m, c, ho, E⟩ := onCells_ok E
  have hg := ck_ok E; clear E; obtain ⟨g, E⟩ := hg
  have G0 : Grow h (setObj b .none (touch b h)) := (touch_grow b h).trans (set_grow (touch_mem b h))
  refine ⟨G0.trans (grownA_grow E), fun cov s hx hsrc hels => ?_⟩
  obtain ⟨g1, g2⟩ := and_ok g
  obtain ⟨g2, g3⟩ := and_ok g2
  cases Nat.eq_of_beq_eq_true g1
  have g2 : o % q.sz = 0 := Nat.eq_of_beq_eq_true g2
  have g3 := Nat.le_of_ble_eq_true g3
  obtain ⟨e, i, z, ht, hi, hz, hzs, hsz, hby, hpos⟩ := elO_ok hq
  simp only [V] at hx
  obtain ⟨p, cp, a, hp, rfl, h1, h2, h3, h4⟩ := hx
  have cov1 := cov.of_grow (grownA_grow E)
  have hA : C.A b := cov1.acc b (by rw [set_acc]; exact touch_mem b h)
  have hlook : look h b = .cells q.sz m c := ho
  obtain ⟨p', hp', hh⟩ := s.obj (b := b) hA (by rw [hlook]; simp)
  rw [hp] at hp'; cases hp'
  rw [hlook] at hh
  have hnl := hsrc.newsLen
  have ho' : o / q.sz * q.sz = o := Nat.div_mul_cancel (Nat.dvd_of_mod_eq_zero g2)
  have hmul : (len + n) * q.sz = len * q.sz + n * q.sz := Nat.add_mul _ _ _
  obtain ⟨olds, eo, ro⟩ := hh.els hpos (o / q.sz) len (by rw [ho']; omega)
  rw [ho'] at ro
  have hol := eo.len
  rw [chunks_length] at hol
  have one : ∀ y ∈ olds ++ news, y.oneCell' = true := fun y hy => by
    rcases List.mem_append.1 hy with hy | hy
    · exact eo.one y hy
    · exact hsrc.one y hy
  have hv := append_tree (o := o) hpos eo hels
  have s1 : St C ρ μ (setObj b .none (touch b h)) w := St.set (p := p) (s.touch) hA (by rw [touch_look, hlook]; simp) hp (fun k hk _ => rfl) trivial
  have live : C.view (touch b h) b ≠ .none := by rw [touch_view, s.agree b hA, hlook]; simp
  by_cases hr : len + n ≤ cp
  · obtain ⟨ha, hroom⟩ := h3 (by omega)
    subst ha
    cases E
    rw [← hsz] at hsrc
    have hmul2 : (len + n) * q.sz ≤ cp * q.sz := Nat.mul_le_mul_right _ hr
    have hrun := run_append_room_src (P := P) w t tx ty e i ht hi p.blk (p.off + o) len cp x n news hsrc hr (fun j hj => by
        have := hh.1 (p.off + o + len * i.size + j) (by rw [hsz]; omega)
        exact this.1) (fun j hj => by
        have := hh.1 (p.off + o + len * i.size + j) (by rw [hsz]; omega)
        exact this.2)
    refine ⟨_, _, hrun, Out.bind (h' := setObj b .none (touch b h)) (T := fun μ' => μ' = μ) G0 (made_grow _ _) ⟨μ, μ.le_refl, fun _ k => .inl k, rfl, s1⟩ fun μ1 le1 e1 s1 => ?_⟩
    cases e1
    refine St.made (p := ⟨p.blk, p.off + o, p.size⟩) s1 cov (s.touch.rel.away b p live hp) (fun k hk _ => setCells_other _ _ _ _ _ hk) (fun y r hy hr => ?_) (fun μ' le hμ => ?_) (fun μ' le hμ => ?_) (Side.setCells _ _ _ _)
    · rw [set_view] at hy
      by_cases hyb : y = b
      · rw [if_pos hyb] at hy; exact absurd rfl hy
      · rw [if_neg hyb] at hy
        exact s.touch.rel.apart y b r p hy live hr hp hyb
    · rw [hsz, ← hol]
      exact Holds.mono le (hh.upon (o := o) ro (by rw [hol, hnl]; omega) one hv (by rw [hol, hnl, hmul]))
    · simp only [V]
      exact ⟨_, cp, _, hμ, rfl, hr, (fun e => by cases e), fun _ => ⟨by simp, by simp only [Nat.add_zero]; exact hroom⟩, Nat.le_refl _⟩
  · have hold : (Builtin.firstCells q.sz len (.slice (some a) len cp)).run P w.drew = .ok olds.toArray w.drew := by
      by_cases hc : 0 < cp
      · obtain ⟨ha, hroom⟩ := h3 hc
        subst ha
        exact run_firstCells_some w.drew q.sz len _ len cp olds hol (fun j v hj => by rw [Addr.add_mid]; exact ro j v hj)
      · have : len = 0 := by omega
        subst this
        have : olds = [] := List.length_eq_zero_iff.1 (by omega)
        subst this
        exact run_firstCells_some w.drew q.sz 0 _ 0 cp [] (by simp) (fun j v hj => by simp at hj)
    obtain ⟨r, w', hrun, hout⟩ := grownA_ok (C := C) (ρ := ρ) (μ := μ) (ty := ty) hq E hb hold hsrc (by omega) hol s1 one hv cov
    refine ⟨r, w', hrun, Out.bind (h' := setObj b .none (touch b h)) (T := fun μ' => μ' = μ) G0 (grownA_grow E) ⟨μ, μ.le_refl, fun _ k => .inl k, rfl, s1⟩ fun μ1 le1 e1 _ => ?_⟩
    cases e1
    exact hout
end
end Go.Ax
end
/- append, whole. -/
noncomputable section
set_option linter.unusedVariables false
set_option linter.unusedSimpArgs false
namespace Go.Ax
section
variable {C : Ctx} {ρ : Nat → Int} {μ μ' : Mu} {P : Program} {w w' : World} {h h' : AH}
theorem Src.nil_of {sz : Nat} {tx : TypeId} {x : Value} {news : List Value} (hs : Src P sz tx x 0 news w) : news = [] := List.length_eq_zero_iff.1 (by have := hs.newsLen; omega)
theorem movedA_ok {t tx ty : TypeId} {q : ElI} (hq : elO P t = some q) {b : Pos} {o len cap : Nat} {new : List (List AV)} {n : Nat} {news : List Value} {x u : Value} {v : AV} (hl : n = new.length) (hb : boundA q.bytes (len + n) = true) (hr : cap < len + n)
    (E : movedA P t (.slice b o len cap true q.sz) len q.sz new n h = .ok v h') : Grow h h' ∧ (C.covers h' → St C ρ μ h w → V ρ μ (.slice b o len cap true q.sz) u → Src P q.sz tx x n news w → Els ρ μ q.sz new news →
    ∃ r w', (Builtin.append_ #[t, tx] ty #[u, x]).run P w = .ok r w' ∧ Out C ρ μ h h' (fun μ' => V ρ μ' v r) w') := by
  have hs := bindR_ok E; clear E; obtain ⟨old, h1, E1, E⟩ := hs
  have hg := ck_ok E; clear E; obtain ⟨g, E⟩ := hg
  have g := Nat.eq_of_beq_eq_true g
  rw [lenL_eq] at g
  have G1 := (srcA_ok (C := C) (ρ := ρ) (μ := μ) (w := w) (u := u) E1).1
  refine ⟨G1.trans (grownA_grow E), fun cov s hx hsrc hels => ?_⟩
  have cov1 := cov.of_grow (grownA_grow E)
  obtain ⟨olds, so, eo, s1, hview⟩ := (srcA_ok (C := C) (ρ := ρ) (μ := μ) (w := w) (u := u) E1).2 cov1 s hx
  obtain ⟨e, i, z, ht, hi, hz, hzs, hsz, hby, hpos⟩ := elO_ok hq
  simp only [V] at hx
  obtain ⟨p, cp, a, hp, rfl, q1, h2, h3, h4⟩ := hx
  have hc := h2 trivial
  subst hc
  rw [g] at so
  obtain ⟨r, w', hrun, hout⟩ := grownA_ok (C := C) (ρ := ρ) (μ := μ) (ty := ty) (olds := olds) hq E hb so.cellsD hsrc hr so.newsLen s1 (fun y hy => by
      rcases List.mem_append.1 hy with hy | hy
      · exact so.one y hy
      · exact hsrc.one y hy) (fun j v hj => by rw [cellAt_ofList]; exact (eo.append hpos hels).at_ j v hj) cov
  refine ⟨r, w', hrun, Out.bind (h' := h1) (T := fun μ' => μ' = μ) G1 (grownA_grow E) ⟨μ, μ.le_refl, fun _ k => .inl k, rfl, s1⟩ fun μ1 le1 e1 _ => ?_⟩
  cases e1
  exact hout
theorem appN_ok {t tx ty : TypeId} {q : ElI} (hq : elO P t = some q) {s0 : AV} {new : List (List AV)} {news : List Value} {x u : Value} {v : AV}
    (E : appN P t s0 new q h (lenL new) = .ok v h') : Grow h h' ∧ (C.covers h' → St C ρ μ h w → V ρ μ s0 u → Src P q.sz tx x new.length news w → Els ρ μ q.sz new news →
    ∃ r w', (Builtin.append_ #[t, tx] ty #[u, x]).run P w = .ok r w' ∧ Out C ρ μ h h' (fun μ' => V ρ μ' v r) w') := by
  rw [lenL_eq] at E
  cases hn : new.length with
  | zero =>
    rw [hn] at E
    have hnew : new = [] := List.length_eq_zero_iff.1 hn
    have E : app0 s0 h = .ok v h' := E
    have key : v = s0 ∧ h' = h ∧ (s0 = .nils ∨ ∃ b o len cap ex sz, s0 = .slice b o len cap ex sz) := by
      unfold app0 at E
      split at E <;> cases E
      · exact ⟨rfl, rfl, .inl rfl⟩
      · exact ⟨rfl, rfl, .inr ⟨_, _, _, _, _, _, rfl⟩⟩
    obtain ⟨rfl, rfl, hk⟩ := key
    refine ⟨Grow.refl _, fun cov s hx hsrc hels => ?_⟩
    obtain ⟨e, i, z, ht, hi, hz, hzs, hsz, hby, hpos⟩ := elO_ok hq
    have := Src.nil_of hsrc
    subst this
    rw [← hsz] at hsrc
    rcases hk with rfl | ⟨b, o, len, cap, ex, sz, rfl⟩
    · have hx' := hx
      simp only [V] at hx'
      subst hx'
      exact ⟨_, w, run_append_nothing w t tx ty e i ht hi none 0 0 (Nat.le_refl _) x hsrc, Out.refl s hx⟩
    · have hx' := hx
      simp only [V] at hx'
      obtain ⟨p, cp, a, hp, rfl, h1, h2, h3, h4⟩ := hx'
      exact ⟨_, w, run_append_nothing w t tx ty e i ht hi (some a) len cp (by omega) x hsrc, Out.refl s hx⟩
  | succ n =>
    rw [hn] at E
    have E : appM P t s0 new q (n + 1) h = .ok v h' := E
    unfold appM at E
    split at E
    · have hg := ck_ok E; clear E; obtain ⟨g, E⟩ := hg
      refine ⟨grownA_grow E, fun cov s hx hsrc hels => ?_⟩
      simp only [V] at hx
      subst hx
      obtain ⟨e, i, z, ht, hi, hz, hzs, hsz, hby, hpos⟩ := elO_ok hq
      exact grownA_ok (olds := []) hq E (by rw [Nat.zero_add]; exact g) (by simp [Builtin.firstCells]) hsrc (by omega) (by simp) s (fun y hy => hsrc.one y (by simpa using hy))
        (fun j v hj => by rw [cellAt_ofList]; exact hels.at_ j v (by simpa using hj)) cov
    · rename_i b o len cap ex sz _
      have hg := ck_ok E; clear E; obtain ⟨g, E⟩ := hg
      cases Nat.eq_of_beq_eq_true g
      cases hx : Nat.ble (len + (n + 1)) cap with
      | true =>
        rw [hx] at E
        exact inB_ok hq hn.symm (by omega) E (Nat.le_of_ble_eq_true hx)
      | false =>
        rw [hx] at E
        have hlt : cap < len + (n + 1) := by
          apply Nat.lt_of_not_le
          intro hle
          rw [Nat.ble_eq_true_of_le hle] at hx; cases hx
        have hg := ck_ok E; clear E; obtain ⟨g2, E⟩ := hg
        cases ex with
        | true => exact movedA_ok hq hn.symm g2 hlt E
        | false => exact unB_ok hq hn.symm (by omega) g2 E
    · cases E
theorem appendA_ok {t tx ty : TypeId} {s0 x v : AV} {u y : Value} (E : appendA P t tx s0 x h = .ok v h') : Grow h h' ∧ (C.covers h' → St C ρ μ h w → V ρ μ s0 u → V ρ μ x y →
    ∃ r w', (Builtin.append_ #[t, tx] ty #[u, y]).run P w = .ok r w' ∧ Out C ρ μ h h' (fun μ' => V ρ μ' v r) w') := by
  have hs := onSome_ok E; clear E; obtain ⟨q, hq, E⟩ := hs
  have hs := bindR_ok E; clear E; obtain ⟨new, h1, E1, E⟩ := hs
  have G1 := (srcA_ok (C := C) (ρ := ρ) (μ := μ) (w := w) (u := y) E1).1
  have G2 := (appN_ok (C := C) (ρ := ρ) (μ := μ) (w := w) (tx := tx) (ty := ty) (u := u) (x := y) (news := []) hq E).1
  refine ⟨G1.trans G2, fun cov s hu hy => ?_⟩
  have cov1 := cov.of_grow G2
  obtain ⟨news, sn, en, s1, _⟩ := (srcA_ok (C := C) (ρ := ρ) (μ := μ) (w := w) (u := y) E1).2 cov1 s hy
  obtain ⟨r, w', hrun, hout⟩ := (appN_ok (C := C) (ρ := ρ) (μ := μ) (ty := ty) hq E).2 cov s1 hu sn en
  refine ⟨r, w', hrun, Out.bind (h' := h1) (T := fun μ' => μ' = μ) G1 G2 ⟨μ, μ.le_refl, fun _ k => .inl k, rfl, s1⟩ fun μ1 le1 e1 _ => ?_⟩
  cases e1
  exact hout
end
end Go.Ax
end
/- Composite values: parts laid into zero cells. -/
noncomputable section
set_option linter.unusedVariables false
set_option linter.unusedSimpArgs false
namespace Go.Ax
def PL (ρ : Nat → Int) (μ : Mu) : List (Nat × AV) → List (Nat × Value) → Prop
  | [], vs => vs = []
  | (i, a) :: l, vs => ∃ v r, vs = (i, v) :: r ∧ V ρ μ a v ∧ PL ρ μ l r
def placeD (P : Program) (d : Option TypeDesc) (i : Nat) : Option (Nat × Nat) := match d with
  | some (.struct fs) => (match fs[i]? with | some f => some (f.offset, P.cellsOf f.type) | none => none)
  | some (.array _ e) => some (i * P.cellsOf e, P.cellsOf e)
  | _ => none
def allF (P : Program) (l : List Field) : Bool := List.rec (motive := fun _ => Bool) true (fun f _ ih => and (knownI P f.type) ih) l
def isRowK (P : Program) (d : Option TypeDesc) : Bool := match d with | some (.struct fs) => allF P fs.toList | some (.array _ e) => knownI P e | _ => false
def fillB (off size : Nat) (lv cells : List AV) (b : Bool) : Option (List AV) := Bool.rec none (some (putL .undef lv off cells)) b
def fill1 (n : Nat) (pl : Option (Nat × Nat)) (lv : Option (List AV)) (cells : List AV) : Option (List AV) := match pl, lv with
  | some (off, size), some lv => fillB off size lv cells (and (Nat.beq (lenL lv) size) (Nat.ble (off + size) n))
  | _, _ => none
def optB {α β : Type} (ih : α → Option β) (x : Option α) : Option β := Option.rec (motive := fun _ => Option β) none ih x
def fillC (P : Program) (d : Option TypeDesc) (n : Nat) (ih : List AV → Option (List AV)) (p : Nat × AV) (cells : List AV) : Option (List AV) := optB ih (fill1 n (placeD P d p.1) (cellsL p.2) cells)
def fillA (P : Program) (d : Option TypeDesc) (n : Nat) (ps : List (Nat × AV)) : List AV → Option (List AV) := List.rec (motive := fun _ => List AV → Option (List AV)) (fun c => some c) (fun p _ ih => fillC P d n ih p) ps
def buildA (P : Program) (t : TypeId) (ps : List (Nat × AV)) (h : AH) : Res AV := ck (onSome (fun z => onSome (fun l => .ok (.agg l) h) (fillA P (P.underlying t) (lenL z) ps z)) (zeroL P t)) (isRowK P (P.underlying t))
theorem optB_some {α β : Type} {ih : α → Option β} {x : Option α} {y : β} (e : optB ih x = some y) : ∃ a, x = some a ∧ ih a = some y := by
  cases x with
  | none => cases e
  | some a => exact ⟨a, rfl, e⟩
section
variable {C : Ctx} {ρ : Nat → Int} {μ μ' : Mu} {P : Program} {w w' : World} {h h' : AH}
theorem foldl_set_size (off : Nat) : ∀ (l : List Value) (k : Nat) (cells : Array Value), ((l.zipIdx k).foldl (fun cs x => cs.setIfInBounds (off + x.2) x.1) cells).size = cells.size
  | [], k, cells => rfl
  | v :: l, k, cells => by
    simp only [List.zipIdx_cons, List.foldl_cons]
    rw [foldl_set_size off l (k + 1)]; simp
theorem foldl_set_at (off : Nat) : ∀ (l : List Value) (k : Nat) (cells : Array Value) (i : Nat), off + k + l.length ≤ cells.size →
    ((l.zipIdx k).foldl (fun cs x => cs.setIfInBounds (off + x.2) x.1) cells)[i]? = if off + k ≤ i ∧ i < off + k + l.length then l[i - (off + k)]? else cells[i]?
  | [], k, cells, i, h => by rw [if_neg (by simp only [List.length_nil]; omega)]; rfl
  | v :: l, k, cells, i, h => by
    simp only [List.zipIdx_cons, List.foldl_cons]
    simp only [List.length_cons] at h ⊢
    rw [foldl_set_at off l (k + 1) _ i (by simp; omega)]
    by_cases h1 : off + (k + 1) ≤ i ∧ i < off + (k + 1) + l.length
    · rw [if_pos h1, if_pos (by omega), show i - (off + k) = (i - (off + (k + 1))) + 1 by omega]
      simp
    · rw [if_neg h1]
      by_cases h2 : i = off + k
      · rw [if_pos (by omega), h2, show off + k - (off + k) = 0 by omega]
        simp only [Array.getElem?_setIfInBounds, if_true, List.getElem?_cons_zero]
        rw [if_pos (by omega)]
      · rw [if_neg (by omega), Array.getElem?_setIfInBounds, if_neg (fun e => h2 e.symm)]
theorem lay_eq (off : Nat) (v cells : Array Value) : (v.zipIdx.foldl (fun cs (c, j) => cs.setIfInBounds (off + j) c) cells) = (v.toList.zipIdx 0).foldl (fun cs x => cs.setIfInBounds (off + x.2) x.1) cells := by
  rw [← Array.foldl_toList, Array.toList_zipIdx]
theorem overL_length {α : Type} : ∀ (c l : List α), c.length ≤ l.length → (overL c l).length = l.length
  | [], l, h => rfl
  | a :: c, [], h => by simp at h
  | a :: c, b :: l, h => by
    show (overL c l).length + 1 = l.length + 1
    rw [overL_length c l (by simpa using h)]
theorem putL_length {α : Type} (d : α) (c : List α) : ∀ (n : Nat) (l : List α), n + c.length ≤ l.length → (putL d c n l).length = l.length
  | 0, l, h => overL_length c l (by omega)
  | n + 1, [], h => by simp only [List.length_nil] at h; omega
  | n + 1, a :: l, h => by
    show (putL d c n l).length + 1 = l.length + 1
    rw [putL_length d c n l (by simp only [List.length_cons] at h; omega)]
theorem VL.put {l lv : List AV} {cells v : Array Value} {off : Nat} (hl : VL ρ μ l cells.toList) (hv : VL ρ μ lv v.toList) (hb : off + lv.length ≤ l.length) :
    VL ρ μ (putL .undef lv off l) (v.zipIdx.foldl (fun cs (c, j) => cs.setIfInBounds (off + j) c) cells).toList := by
  have e1 := hl.length
  have e2 := hv.length
  simp only [Array.length_toList] at e1 e2
  rw [lay_eq]
  refine VL.of_at ?_ fun i x hx => ?_
  · rw [putL_length _ _ _ _ hb, e1, ← foldl_set_size off v.toList 0 cells]; rfl
  · rw [Array.getElem?_toList, foldl_set_at off v.toList 0 cells i (by simp; omega)] at hx
    simp only [Nat.add_zero, Array.length_toList] at hx
    rw [putL_at]
    by_cases hi : off ≤ i ∧ i < off + v.size
    · rw [if_pos hi] at hx
      rw [if_pos (by omega)]
      exact hv.at _ hx
    · rw [if_neg hi] at hx
      rw [if_neg (by omega)]
      exact hl.at i (by simpa using hx)
theorem lay_one {cells v : Array Value} {off : Nat} (hb : off + v.size ≤ cells.size) (h1 : ∀ x ∈ cells.toList, x.oneCell' = true) (h2 : ∀ x ∈ v.toList, x.oneCell' = true) :
    ∀ x ∈ (v.zipIdx.foldl (fun cs (c, j) => cs.setIfInBounds (off + j) c) cells).toList, x.oneCell' = true := by
  intro x hx
  rw [lay_eq] at hx
  obtain ⟨i, hi⟩ := List.mem_iff_getElem?.1 hx
  rw [Array.getElem?_toList, foldl_set_at off v.toList 0 cells i (by simp; omega)] at hi
  split at hi
  · exact h2 x (List.mem_of_getElem? hi)
  · exact h1 x (List.mem_of_getElem? (by simpa using hi))
theorem fillA_ok {d : Option TypeDesc} {n : Nat} {place : Nat → Option (Nat × Nat)} (hp : ∀ i, place i = placeD P d i) : ∀ {ps : List (Nat × AV)} {vs : List (Nat × Value)} {l l' : List AV} {cells : Array Value},
    l.length = n → fillA P d n ps l = some l' → PL ρ μ ps vs → VL ρ μ l cells.toList → (∀ x ∈ cells.toList, x.oneCell' = true) → ∃ cells', Instr.fill place cells vs = some cells' ∧ VL ρ μ l' cells'.toList ∧ ∀ x ∈ cells'.toList, x.oneCell' = true
  | [], vs, l, l', cells, hn, e, hv, hl, one => by
    simp only [PL] at hv; subst hv
    cases e
    exact ⟨cells, rfl, hl, one⟩
  | (i, a) :: ps, vs, l, l', cells, hn, e, hv, hl, one => by
    simp only [PL] at hv
    obtain ⟨v, r, rfl, va, hv⟩ := hv
    have e : optB (fillA P d n ps) (fill1 n (placeD P d i) (cellsL a) l) = some l' := e
    obtain ⟨l1, e1, e⟩ := optB_some e
    unfold fill1 at e1
    split at e1
    · rename_i off size lv hpl hcl
      cases hb : and (Nat.beq (lenL lv) size) (Nat.ble (off + size) n) with
      | false => rw [hb] at e1; cases e1
      | true =>
        rw [hb] at e1; cases e1
        obtain ⟨g1, g2⟩ := and_ok hb
        have g1 := Nat.eq_of_beq_eq_true g1
        have g2 := Nat.le_of_ble_eq_true g2
        rw [lenL_eq] at g1
        obtain ⟨vl, o1⟩ := cellsL_ok hcl va
        have n1 := vl.length
        have n2 := hl.length
        simp only [Array.length_toList] at n1 n2
        obtain ⟨cells', f, rest⟩ := fillA_ok hp (by rw [putL_length _ _ _ _ (by omega)]; exact hn) e hv (VL.put hl vl (off := off) (by omega)) (lay_one (by omega) one o1)
        refine ⟨cells', ?_, rest⟩
        unfold Instr.fill
        rw [hp i, hpl]
        simp only
        rw [if_neg, f]
        simp only [Bool.or_eq_true, decide_eq_true_eq, ne_eq]
        omega
    · cases e1
theorem places_of (fs : List Field) (hk : ∀ f ∈ fs, ∃ i, P.info? f.type = some i) : fs.mapM (fun f => (P.info? f.type).map fun i => (f.offset, i.size)) = some (fs.map fun f => (f.offset, P.cellsOf f.type)) := by
  induction fs with
  | nil => rfl
  | cons f fs ih =>
    obtain ⟨i, hi⟩ := hk f List.mem_cons_self
    rw [List.mapM_cons, ih (fun g hg => hk g (List.mem_cons_of_mem _ hg)), hi]
    simp [Program.cellsOf, hi]
theorem allF_ok {l : List Field} (h : allF P l = true) : ∀ f ∈ l, ∃ i, P.info? f.type = some i := by
  induction l with
  | nil => intro f hf; simp at hf
  | cons x l ih =>
    have h : and (knownI P x.type) (allF P l) = true := h
    obtain ⟨g1, g2⟩ := and_ok h
    intro f hf
    rcases List.mem_cons.1 hf with rfl | hf
    · unfold knownI at g1
      cases hi : P.info? f.type with
      | none => rw [hi] at g1; cases g1
      | some i => exact ⟨i, rfl⟩
    · exact ih g2 f hf
theorem buildA_ok {t : TypeId} {ps : List (Nat × AV)} {vs : Array (Nat × Value)} {v : AV} (E : buildA P t ps h = .ok v h') (hv : PL ρ μ ps vs.toList) : h' = h ∧ ∃ r, (Instr.build t vs).run P w = .ok r w ∧ V ρ μ v r := by
  have hg := ck_ok E; clear E; obtain ⟨g, E⟩ := hg
  have hs := onSome_ok E; clear E; obtain ⟨z0, hz0, E⟩ := hs
  have hs := onSome_ok E; clear E; obtain ⟨l, hl, E⟩ := hs
  cases E
  obtain ⟨it, z, hit, hz, vl, one⟩ := zeroL_ok (ρ := ρ) (μ := μ) hz0
  refine ⟨rfl, ?_⟩
  cases hu : P.underlying t with
  | none => rw [hu] at g; cases g
  | some d =>
    rw [hu] at g hl
    cases d <;> first | (cases g; done) | skip
    case struct fs =>
      have hpl := places_of fs.toList (allF_ok g)
      obtain ⟨cells', f, vl', one'⟩ := fillA_ok (ρ := ρ) (μ := μ) (place := fun i => (fs.toList.map fun f => (f.offset, P.cellsOf f.type)).toArray[i]?) (fun i => by
        unfold placeD
        simp only [List.getElem?_toArray, List.getElem?_map, Array.getElem?_toList]
        cases fs[i]? <;> rfl) (lenL_eq z0).symm hl hv vl one
      refine ⟨.agg cells', run_build w t vs cells' ?_, ?_⟩
      · unfold Program.built
        simp only [hit, hu, hz, hpl]
        exact f
      · simp only [V]; exact ⟨cells', rfl, vl', one'⟩
    case array n e =>
      have g : knownI P e = true := g
      unfold knownI at g
      cases hie : P.info? e with
      | none => rw [hie] at g; cases g
      | some ie =>
        have hsz : P.cellsOf e = ie.size := by simp [Program.cellsOf, hie]
        obtain ⟨cells', f, vl', one'⟩ := fillA_ok (ρ := ρ) (μ := μ) (place := fun i => some (i * ie.size, ie.size)) (fun i => by
          unfold placeD
          simp only [hsz]) (lenL_eq z0).symm hl hv vl one
        refine ⟨.agg cells', run_build w t vs cells' ?_, ?_⟩
        · unfold Program.built
          simp only [hit, hu, hz, hie]
          exact f
        · simp only [V]; exact ⟨cells', rfl, vl', one'⟩
end
end Go.Ax
end
/- Slices made; elements by value. -/
noncomputable section
set_option linter.unusedVariables false
set_option linter.unusedSimpArgs false
namespace Go.Ax
def elTD (d : Option TypeDesc) : TypeId := match d with | some (.slice e) => e | _ => 0
def elT (P : Program) (t : TypeId) : TypeId := elTD (P.underlying t)
def repC (z : List AV) (n : Nat) : List (List AV) := Nat.rec (motive := fun _ => List (List AV)) [] (fun _ ih => z :: ih) n
def fillS0 (i : Nat) (lv : List AV) (l : List (List AV)) (b : Bool) : Option (List (List AV)) := Bool.rec none (some (putL [] [lv] i l)) b
def fillS1 (sz len i : Nat) (l : List (List AV)) (lv : Option (List AV)) : Option (List (List AV)) := Option.rec (motive := fun _ => Option (List (List AV))) none (fun lv => fillS0 i lv l (and (Nat.beq (lenL lv) sz) (Nat.ble (i + 1) len))) lv
def fillSC (sz len : Nat) (ih : List (List AV) → Option (List (List AV))) (p : Nat × AV) (l : List (List AV)) : Option (List (List AV)) := optB ih (fillS1 sz len p.1 l (cellsL p.2))
def fillS (sz len : Nat) (ps : List (Nat × AV)) : List (List AV) → Option (List (List AV)) := List.rec (motive := fun _ => List (List AV) → Option (List (List AV))) (fun c => some c) (fun p _ ih => fillSC sz len ih p) ps
def newRowA (sz len cap : Nat) (l : List (List AV)) (h : AH) : Res AV := .ok (.slice h.next 0 len cap true sz) (made (.cells sz (cap * sz) (ofList [] l)) h)
def buildSliceA (P : Program) (t : TypeId) (len : Nat) (ps : List (Nat × AV)) (h : AH) : Res AV := onSome (fun q => onSome (fun z => ck (onSome (fun l => newRowA q.sz len len l h) (fillS q.sz len ps (repC z len))) (Nat.ble (len * q.sz) 16777216)) (zeroL P (elT P t))) (elO P t)
def makeB (P : Program) (t : TypeId) (h : AH) (l c : Nat) : Res AV := onSome (fun q => onSome (fun z => ck (newRowA q.sz l c (repC z c) h) (and (Nat.ble l c) (and (Nat.ble (q.bytes * c) 281474976710656) (Nat.ble c 9223372036854775807)))) (zeroL P (elT P t))) (elO P t)
def makeSliceA (P : Program) (t : TypeId) (l c : AV) (h : AH) : Res AV := onSome (fun l => onSome (fun c => makeB P t h l c) (natO c)) (natO l)
def idxS (i : Nat) (h : AH) (s : List Nat) : Res AV := onSome (fun c => .ok (avOfCode c) h) (s[i]?)
def idxR (P : Program) (l : List AV) (i : Nat) (h : AH) (r : Row) : Res AV := match r with
  | .arr n e => ck (partA P e l (i * P.cellsOf e) h) (and (Nat.ble (i + 1) n) (knownI P e))
  | .sli _ => .er "index"
def indexN (P : Program) (t : TypeId) (x : AV) (h : AH) (i : Nat) : Res AV := match x with
  | .str s => ck (idxS i h s) (isStrT P t)
  | .agg l => onSome (idxR P l i h) (rowOf P t)
  | _ => .er "index"
def indexVA (P : Program) (t : TypeId) (x ix : AV) (h : AH) : Res AV := onSome (indexN P t x h) (natO ix)
section
variable {C : Ctx} {ρ : Nat → Int} {μ μ' : Mu} {P : Program} {w w' : World} {h h' : AH}
theorem repC_length (z : List AV) : ∀ n, (repC z n).length = n
  | 0 => rfl
  | n + 1 => congrArg Nat.succ (repC_length z n)
theorem repC_at (z : List AV) : ∀ (n i : Nat), i < n → (repC z n).getD i [] = z
  | 0, i, h => by omega
  | n + 1, 0, h => rfl
  | n + 1, i + 1, h => by
    show (repC z n).getD i [] = z
    exact repC_at z n i (by omega)
theorem madeCells_els {z : Value} {l : List AV} {sz : Nat} (hz : z.cells.size = sz) (hs : 0 < sz) (hv : VL ρ μ l z.cells.toList) (one : ∀ y ∈ z.cells.toList, y.oneCell' = true) (n : Nat) :
    Els ρ μ sz (repC l n) ((Array.range (n * sz)).map (z.cells[· % z.cells.size]!)).toList := by
  refine ⟨by rw [repC_length]; simp, fun x hx => ?_, fun i v hi => ?_⟩
  · simp only [Array.toList_map, List.mem_map] at hx
    obtain ⟨i, _, rfl⟩ := hx
    have hlt : i % z.cells.size < z.cells.size := Nat.mod_lt _ (by omega)
    rw [getElem!_pos z.cells _ hlt]
    exact one _ (by simp)
  · have hlt : i < n * sz := by
      have := (List.getElem?_eq_some_iff.1 hi).1
      simpa using this
    have hd : i / sz < n := (Nat.div_lt_iff_lt_mul hs).2 hlt
    have hm : i % z.cells.size < z.cells.size := Nat.mod_lt _ (by omega)
    simp only [Array.toList_map, Array.toList_range, List.getElem?_map] at hi
    rw [List.getElem?_range hlt] at hi
    simp only [Option.map_some, Option.some.injEq] at hi
    rw [getElem!_pos z.cells _ hm] at hi
    unfold elAt
    rw [repC_at l n _ hd]
    have := hv.at (i % sz) (v := v) (by rw [← hi]; simp [hz])
    exact this
theorem fillS_ok {sz len : Nat} (hs : 0 < sz) : ∀ {ps : List (Nat × AV)} {vs : List (Nat × Value)} {l l' : List (List AV)} {cells : Array Value},
    l.length = len → fillS sz len ps l = some l' → PL ρ μ ps vs → Els ρ μ sz l cells.toList → ∃ cells', Instr.fill (fun i => some (i * sz, sz)) cells vs = some cells' ∧ Els ρ μ sz l' cells'.toList ∧ l'.length = len
  | [], vs, l, l', cells, hn, e, hv, hl => by
    simp only [PL] at hv; subst hv
    cases e
    exact ⟨cells, rfl, hl, hn⟩
  | (i, a) :: ps, vs, l, l', cells, hn, e, hv, hl => by
    simp only [PL] at hv
    obtain ⟨v, r, rfl, va, hv⟩ := hv
    have e : optB (fillS sz len ps) (fillS1 sz len i l (cellsL a)) = some l' := e
    obtain ⟨l1, e1, e⟩ := optB_some e
    cases hc : cellsL a with
    | none => rw [hc] at e1; cases e1
    | some lv =>
      rw [hc] at e1
      have e1 : fillS0 i lv l (and (Nat.beq (lenL lv) sz) (Nat.ble (i + 1) len)) = some l1 := e1
      cases hb : and (Nat.beq (lenL lv) sz) (Nat.ble (i + 1) len) with
      | false => rw [hb] at e1; cases e1
      | true =>
        rw [hb] at e1; cases e1
        obtain ⟨g1, g2⟩ := and_ok hb
        have g1 := Nat.eq_of_beq_eq_true g1
        have g2 := Nat.le_of_ble_eq_true g2
        rw [lenL_eq] at g1
        obtain ⟨vl, o1⟩ := cellsL_ok hc va
        have n1 := vl.length
        have n2 := hl.len
        simp only [Array.length_toList] at n1 n2
        have hmul : i * sz + sz ≤ len * sz := by rw [← Nat.succ_mul]; exact Nat.mul_le_mul_right _ g2
        have hfit : i * sz + v.cells.size ≤ cells.size := by rw [n2, hn, ← n1, g1]; exact hmul
        obtain ⟨cells', f, rest⟩ := fillS_ok (cells := v.cells.zipIdx.foldl (fun cs (c, j) => cs.setIfInBounds (i * sz + j) c) cells) hs (by rw [putL_length _ _ _ _ (by simp; omega)]; exact hn) e hv
          ⟨by rw [putL_length _ _ _ _ (by simp; omega), lay_eq, Array.length_toList, foldl_set_size]; exact n2, lay_one hfit hl.one o1, fun j x hj => by
            rw [lay_eq, Array.getElem?_toList, foldl_set_at (i * sz) v.cells.toList 0 cells j (by simp; exact hfit)] at hj
            simp only [Nat.add_zero, Array.length_toList] at hj
            unfold elAt
            rw [putL_at]
            simp only [List.length_cons, List.length_nil, Nat.zero_add]
            have hdr := div_range (q := i) (n := 1) (i := j) hs
            rw [Nat.add_mul, Nat.one_mul] at hdr
            by_cases hi : i * sz ≤ j ∧ j < i * sz + v.cells.size
            · rw [if_pos hi] at hj
              have h2 := hdr.2 ⟨hi.1, by omega⟩
              rw [if_pos h2]
              have e0 : j / sz - i = 0 := by omega
              rw [e0]
              have e1 : j % sz = j - i * sz := by
                have := Nat.div_add_mod j sz
                have e3 : j / sz = i := by omega
                rw [e3, Nat.mul_comm] at this
                omega
              rw [e1]
              exact vl.at _ hj
            · rw [if_neg hi] at hj
              rw [if_neg (fun h2 => hi (by have := hdr.1 h2; omega))]
              exact hl.at_ j x (by simpa using hj)⟩
        refine ⟨cells', ?_, rest⟩
        unfold Instr.fill
        simp only
        rw [if_neg, f]
        simp only [Bool.or_eq_true, decide_eq_true_eq, ne_eq]
        omega
theorem elT_of {t e : TypeId} (hu : P.underlying t = some (.slice e)) : elT P t = e := by
  unfold elT; rw [hu]; rfl
theorem newRowA_ok {sz len cap : Nat} {l : List (List AV)} {v : AV} {cells : Array Value} {e : TypeId} (hle : len ≤ cap) (E : newRowA sz len cap l h = .ok v h') (hl : Els ρ μ sz l cells.toList) (hn : l.length = cap) (cov : C.covers h') (s : St C ρ μ h w) :
    Out C ρ μ h h' (fun μ' => V ρ μ' v (.slice (some ⟨w.heap.size, 0, none⟩) len cap)) (w.alloc (.cells cells e)) := by
  cases E
  have hsz := hl.len
  rw [hn] at hsz
  have hsz : cells.size = cap * sz := by simpa using hsz
  refine fresh_row s cov (by omega) (fun i v hi hv => ⟨hl.one v (by simpa using Array.mem_of_getElem? hv), by rw [cellAt_ofList]; exact hl.at_ i v (by simpa using hv)⟩) (fun μ' le hμ => ?_)
  simp only [V]
  exact ⟨_, cap, _, hμ, rfl, Nat.le_refl _, fun _ => rfl, fun _ => ⟨by simp, by simp only [Nat.add_zero, Nat.zero_add]; omega⟩, hle⟩
theorem run_buildSlice' (w : World) (t e : TypeId) (len : Nat) (parts : Array (Nat × Value)) (cells : Array Value) (ie : TypeInfo) (z : Value)
    (hu : P.underlying t = some (.slice e)) (hie : P.info? e = some ie) (hz : ie.zero = some z) (hsmall : ¬ len * ie.size > 2 ^ 24)
    (h : Instr.fill (fun i => some (i * ie.size, ie.size)) ((Array.range (len * ie.size)).map (z.cells[· % z.cells.size]!)) parts.toList = some cells) :
    (Instr.buildSlice t len parts).run P w = .ok (.slice (some ⟨w.heap.size, 0, none⟩) len len) (w.alloc (.cells cells e)) := by
  by_cases h0 : len * ie.size = 0
  · rw [h0] at h
    have e0 : Array.range 0 = #[] := rfl
    rw [e0, show Array.map (fun x => z.cells[x % z.cells.size]!) #[] = #[] by simp] at h
    have h : Instr.fill (fun i => some (i * ie.size, ie.size)) #[] parts.toList = some cells := h
    simp [Instr.buildSlice, run_underlying hu, sizeOf, typeInfo, zeroValue, hie, hz, h0, newRow, e0, h]
  · simp [Instr.buildSlice, run_underlying hu, sizeOf, typeInfo, zeroValue, hie, hz, hsmall, h0, h, newRow]
theorem buildSliceA_ok {t : TypeId} {len : Nat} {ps : List (Nat × AV)} {vs : Array (Nat × Value)} {v : AV} (E : buildSliceA P t len ps h = .ok v h') : Grow h h' ∧ (C.covers h' → St C ρ μ h w → PL ρ μ ps vs.toList →
    ∃ r w', (Instr.buildSlice t len vs).run P w = .ok r w' ∧ Out C ρ μ h h' (fun μ' => V ρ μ' v r) w') := by
  have hs := onSome_ok E; clear E; obtain ⟨q, hq, E⟩ := hs
  have hs := onSome_ok E; clear E; obtain ⟨z0, hz0, E⟩ := hs
  have hg := ck_ok E; clear E; obtain ⟨g, E⟩ := hg
  have hs := onSome_ok E; clear E; obtain ⟨l, hl, E⟩ := hs
  refine ⟨by cases E; exact made_grow _ _, fun cov s hv => ?_⟩
  obtain ⟨e, i, z, ht, hi, hz, hzs, hsz, hby, hpos⟩ := elO_ok hq
  have g := Nat.le_of_ble_eq_true g
  rw [elT_of ht] at hz0
  obtain ⟨i', z', hi', hz', vl, one⟩ := zeroL_ok (ρ := ρ) (μ := μ) hz0
  rw [hi] at hi'; cases hi'
  rw [hz] at hz'; cases hz'
  obtain ⟨cells, f, el, hn⟩ := fillS_ok hpos (repC_length z0 len) hl hv (madeCells_els hzs hpos vl one len)
  rw [← hsz] at f
  exact ⟨_, _, run_buildSlice' w t e len vs cells i z ht hi hz (by rw [hsz]; omega) f, newRowA_ok (Nat.le_refl _) E el hn cov s⟩
theorem makeSliceA_ok {t : TypeId} {x y v : AV} {a b : Value} (E : makeSliceA P t x y h = .ok v h') : Grow h h' ∧ (C.covers h' → St C ρ μ h w → V ρ μ x a → V ρ μ y b →
    ∃ r w', (Instr.makeSlice t a b).run P w = .ok r w' ∧ Out C ρ μ h h' (fun μ' => V ρ μ' v r) w') := by
  have hs := onSome_ok E; clear E; obtain ⟨l, hl, E⟩ := hs
  have hs := onSome_ok E; clear E; obtain ⟨c, hc, E⟩ := hs
  have hs := onSome_ok E; clear E; obtain ⟨q, hq, E⟩ := hs
  have hs := onSome_ok E; clear E; obtain ⟨z0, hz0, E⟩ := hs
  have hg := ck_ok E; clear E; obtain ⟨g, E⟩ := hg
  refine ⟨by cases E; exact made_grow _ _, fun cov s ha hb => ?_⟩
  obtain ⟨k1, rfl⟩ := natO_ok hl ha
  obtain ⟨k2, rfl⟩ := natO_ok hc hb
  obtain ⟨g1, g2⟩ := and_ok g
  obtain ⟨g2, g3⟩ := and_ok g2
  have g1 := Nat.le_of_ble_eq_true g1
  have g2 := Nat.le_of_ble_eq_true g2
  have g3 := Nat.le_of_ble_eq_true g3
  obtain ⟨e, i, z, ht, hi, hz, hzs, hsz, hby, hpos⟩ := elO_ok hq
  rw [elT_of ht] at hz0
  obtain ⟨i', z', hi', hz', vl, one⟩ := zeroL_ok (ρ := ρ) (μ := μ) hz0
  rw [hi] at hi'; cases hi'
  rw [hz] at hz'; cases hz'
  have hbytes : (i.bytes : Int) * (c : Int) ≤ 281474976710656 := by
    rw [hby, ← Int.natCast_mul]; omega
  have hrun := run_make (P := P) w t e i z ht hi hz k1 k2 l c (by omega) (by omega) hbytes (by omega)
  refine ⟨_, _, hrun, ?_⟩
  simp only [Int.toNat_natCast]
  refine newRowA_ok g1 E ?_ (repC_length z0 c) cov s
  rw [hsz]
  exact madeCells_els hzs hpos vl one c
theorem indexVA_ok {t : TypeId} {x ix v : AV} {u i : Value} (E : indexVA P t x ix h = .ok v h') (hx : V ρ μ x u) (hi : V ρ μ ix i) : h' = h ∧ ∃ r, (Instr.index t u i).run P w = .ok r w ∧ V ρ μ v r := by
  have hs := onSome_ok E; clear E; obtain ⟨n, hn, E⟩ := hs
  obtain ⟨k, rfl⟩ := natO_ok hn hi
  unfold indexN at E
  split at E
  · rename_i s
    have hg := ck_ok E; clear E; obtain ⟨g, E⟩ := hg
    have hs := onSome_ok E; clear E; obtain ⟨c, hc, E⟩ := hs
    cases E
    refine ⟨rfl, ?_⟩
    have hu := isStrT_ok g
    simp only [V] at hx
    obtain ⟨bs, rfl, hb⟩ := hx
    have hc2 := congrArg (·[n]?) hb
    simp only [List.getElem?_map, hc, Option.map_some] at hc2
    cases hd : bs.data.toList[n]? with
    | none => rw [hd] at hc2; cases hc2
    | some y =>
      rw [hd] at hc2
      simp only [Option.map_some, Option.some.injEq] at hc2
      have hlt : n < bs.data.toList.length := (List.getElem?_eq_some_iff.1 hd).1
      have hlt2 : n < bs.size := by simpa using hlt
      have hy : bs[n]? = some y := by
        rw [getElem?_pos bs n hlt2]
        have : bs.data[n] = y := by simpa [List.getElem?_eq_getElem hlt] using hd
        exact congrArg some this
      refine ⟨.int .u8 y.toNat, ?_, ?_⟩
      · simp [Instr.index, asIntOf, Sem.run_bind, run_underlying hu, hy]
      · rw [hc2]; exact avOfCode_ok c
  · rename_i l
    have hs := onSome_ok E; clear E; obtain ⟨r, hr, E⟩ := hs
    have hr := rowOf_ok hr
    cases r with
    | sli e => cases E
    | arr m e =>
      have hg := ck_ok E; clear E; obtain ⟨g, E⟩ := hg
      obtain ⟨g1, g2⟩ := and_ok g
      have g1 : n + 1 ≤ m := Nat.le_of_ble_eq_true g1
      simp only [V] at hx
      obtain ⟨cs, rfl, vl, one⟩ := hx
      obtain ⟨rfl, r, hrun, hv⟩ := partA_ok (w := w) E vl one
      refine ⟨rfl, r, ?_, hv⟩
      have h0 : (0 : Int) ≤ (n : Int) ∧ (n : Int) < (m : Int) := ⟨by omega, by omega⟩
      dsimp only at hr
      simp [Instr.index, asIntOf, Sem.run_bind, run_underlying hr, sizeOf_run g2, h0, hrun]
      intro hle; omega
  · cases E
end
end Go.Ax
end
/- Slices of strings, of nil, of arrays; conversions. -/
noncomputable section
set_option linter.unusedVariables false
set_option linter.unusedSimpArgs false
namespace Go.Ax
def slStr (s : List Nat) (h : AH) (lo hi : Nat) : Res AV := ck (.ok (.str (dropL lo (takeL hi s))) h) (and (Nat.ble lo hi) (Nat.ble hi (lenL s)))
def slNil (h : AH) (lo hi c : Nat) : Res AV := ck (.ok .nils h) (and (Nat.beq lo 0) (and (Nat.beq hi 0) (Nat.beq c 0)))
def slArr (b : Pos) (o n sz : Nat) (h : AH) (lo hi c : Nat) (sz2 m : Nat) (cs : PT (List AV)) : Res AV := ck (.ok (.slice b (o + lo * sz) (hi - lo) (c - lo) true sz) (touch b h)) (and (Nat.ble lo hi) (and (Nat.ble hi c) (and (Nat.ble c n) (Nat.ble (o + n * sz) m))))
def bnd3 (len cap : Nat) (lo hi mx : Option AV) (k : Nat → Nat → Nat → Res AV) : Res AV := ck (onSome (fun l => onSome (fun hh => onSome (fun c => k l hh c) (natD cap mx)) (natD len hi)) (natD 0 lo)) (noMax mx hi)
def slRow (P : Program) (b : Pos) (o : Nat) (lo hi mx : Option AV) (h : AH) (r : Row) : Res AV := match r with
  | .arr n e => ck (bnd3 n n lo hi mx fun l hh c => onCells (slArr b o n (P.cellsOf e) h l hh c) (PT.get .none b h.t)) (knownI P e)
  | .sli _ => .er "slice"
def slSl (P : Program) (t : TypeId) (b : Pos) (o len cap : Nat) (ex : Bool) (sz : Nat) (lo hi mx : Option AV) (h : AH) (r : Row) : Res AV := match r with
  | .sli e => ck (slS b o len cap ex sz lo hi mx h) (and (knownI P e) (Nat.beq (P.cellsOf e) sz))
  | .arr _ _ => .er "slice"
def slNilR (P : Program) (lo hi mx : Option AV) (h : AH) (r : Row) : Res AV := match r with
  | .sli e => ck (bnd3 0 0 lo hi mx (slNil h)) (knownI P e)
  | .arr _ _ => .er "slice"
def sliceA (P : Program) (t : TypeId) (x : AV) (lo hi mx : Option AV) (h : AH) : Res AV := match x with
  | .str s => ck (bnd3 (lenL s) (lenL s) lo hi mx fun l hh c => slStr s h l hh) (and (isStrT P t) (not (some? mx)))
  | .nils => onSome (slNilR P lo hi mx h) (rowOf P t)
  | .slice b o len cap ex sz => onSome (slSl P t b o len cap ex sz lo hi mx h) (rowOf P t)
  | .ptr b o => onSome (slRow P b o lo hi mx h) (rowOf P t)
  | _ => .er "slice"
section
variable {C : Ctx} {ρ : Nat → Int} {μ μ' : Mu} {P : Program} {w w' : World} {h h' : AH}
theorem bnd3_ok {len cap : Nat} {lo hi mx : Option AV} {k : Nat → Nat → Nat → Res AV} {v : AV} (E : bnd3 len cap lo hi mx k = .ok v h') :
    ∃ a b c, natD 0 lo = some a ∧ natD len hi = some b ∧ natD cap mx = some c ∧ (mx = none ∨ hi ≠ none) ∧ k a b c = .ok v h' := by
  have hg := ck_ok E; clear E; obtain ⟨g0, E⟩ := hg
  have hs := onSome_ok E; clear E; obtain ⟨x, ha, E⟩ := hs
  have hs := onSome_ok E; clear E; obtain ⟨y, hb, E⟩ := hs
  have hs := onSome_ok E; clear E; obtain ⟨z, hc, E⟩ := hs
  exact ⟨x, y, z, ha, hb, hc, noMax_ok g0, E⟩
theorem sliceA_ok {t : TypeId} {x v : AV} {lo hi mx : Option AV} {u : Value} {l hh m : Option Value} (E : sliceA P t x lo hi mx h = .ok v h') : Grow h h' ∧ (C.covers h' → St C ρ μ h w → V ρ μ x u → VO ρ μ lo l → VO ρ μ hi hh → VO ρ μ mx m →
    ∃ r, (Instr.sliceAt t u l hh m).run P w = .ok r w ∧ Out C ρ μ h h' (fun μ' => V ρ μ' v r) w) := by
  unfold sliceA at E
  split at E
  · rename_i s
    have hg := ck_ok E; clear E; obtain ⟨g, E⟩ := hg
    obtain ⟨g1, g2⟩ := and_ok g
    have hs := bnd3_ok E; clear E; obtain ⟨a, b, c, ha, hb, hc, hm, E⟩ := hs
    have hg := ck_ok E; clear E; obtain ⟨g, E⟩ := hg
    cases E
    obtain ⟨g3, g4⟩ := and_ok g
    have g3 := Nat.le_of_ble_eq_true g3
    have g4 := Nat.le_of_ble_eq_true g4
    rw [lenL_eq] at *
    refine ⟨Grow.refl _, fun cov st hx vl vh vm => ?_⟩
    cases mx with
    | some _ => cases g2
    | none =>
      cases m with
      | some _ => exact vm.elim
      | none =>
        cases hc
        simp only [V] at hx
        obtain ⟨bs, rfl, hbs⟩ := hx
        have hl : bs.size = s.length := by have := congrArg List.length hbs; simpa using this
        have hu := isStrT_ok g1
        have hbd := sliceBounds_run (P := P) (w := w) (isS := false) (mx := none) (m := none) (len := bs.size) (cap := bs.size) (c := bs.size) ha (by rw [hl]; exact hb) rfl vl vh trivial g3 (by omega) (Nat.le_refl _) (.inl rfl)
        refine ⟨.string (bs.extract a b), ?_, Out.refl st ?_⟩
        · simp [Instr.sliceAt, Instr.slice, Sem.run_bind, run_underlying hu, hbd]
        · simp only [V]
          refine ⟨_, rfl, ?_⟩
          rw [dropL_eq, takeL_eq, ByteArray.data_extract, Array.toList_extract, List.extract_eq_take_drop, List.map_take, List.map_drop, hbs, List.map_drop, List.map_take, List.take_drop]
          congr 2; omega
  · have hs := onSome_ok E; clear E; obtain ⟨r, hr, E⟩ := hs
    have hr := rowOf_ok hr
    cases r with
    | arr n e => cases E
    | sli e =>
      have hu : P.underlying t = some (.slice e) := hr
      have hg := ck_ok E; clear E; obtain ⟨gk, E⟩ := hg
      have hs := bnd3_ok E; clear E; obtain ⟨a, b, c, ha, hb, hc, hm, E⟩ := hs
      have hg := ck_ok E; clear E; obtain ⟨g2, E⟩ := hg
      cases E
      obtain ⟨g3, g4⟩ := and_ok g2
      obtain ⟨g4, g5⟩ := and_ok g4
      cases Nat.eq_of_beq_eq_true g3; cases Nat.eq_of_beq_eq_true g4; cases Nat.eq_of_beq_eq_true g5
      refine ⟨Grow.refl _, fun cov st hx vl vh vm => ?_⟩
      have hx' := hx
      simp only [V] at hx'
      subst hx'
      have hbd := sliceBounds_run (P := P) (w := w) (isS := true) ha hb hc vl vh vm (Nat.le_refl _) (Nat.le_refl _) (Nat.le_refl _) hm
      refine ⟨.slice none 0 0, ?_, Out.refl st hx⟩
      simp [Instr.sliceAt, Instr.slice, Sem.run_bind, run_underlying hu, hbd, sizeOf_run gk]
  · rename_i b o len cap ex sz _
    have hs := onSome_ok E; clear E; obtain ⟨r, hr, E⟩ := hs
    have hr := rowOf_ok hr
    cases r with
    | arr n e => cases E
    | sli e =>
      have hg := ck_ok E; clear E; obtain ⟨g, E⟩ := hg
      obtain ⟨g1, g2⟩ := and_ok g
      have hh' : h' = h := by
        have hg := ck_ok E; clear E; obtain ⟨g0, E⟩ := hg
        have hs := onSome_ok E; clear E; obtain ⟨x, ha, E⟩ := hs
        have hs := onSome_ok E; clear E; obtain ⟨y, hb, E⟩ := hs
        have hs := onSome_ok E; clear E; obtain ⟨z, hc, E⟩ := hs
        have hg := ck_ok E; clear E; obtain ⟨g, E⟩ := hg
        cases E; rfl
      subst hh'
      refine ⟨Grow.refl _, fun cov st hx vl vh vm => ?_⟩
      obtain ⟨_, r, hr, hv⟩ := slS_ok (w := w) hr g1 (Nat.eq_of_beq_eq_true g2) E hx vl vh vm
      exact ⟨r, hr, Out.refl st hv⟩
  · rename_i b o
    have hs := onSome_ok E; clear E; obtain ⟨r, hr, E⟩ := hs
    have hr := rowOf_ok hr
    cases r with
    | sli e => cases E
    | arr n e =>
      have hu : P.underlying t = some (.array n e) := hr
      have hg := ck_ok E; clear E; obtain ⟨gk, E⟩ := hg
      have hs := bnd3_ok E; clear E; obtain ⟨x, y, z, ha, hb, hc, hm, E⟩ := hs
      have hs := onCells_ok E; clear E; obtain ⟨sz2, mm, cs, ho, E⟩ := hs
      have hg := ck_ok E; clear E; obtain ⟨g2, E⟩ := hg
      cases E
      obtain ⟨g3, g4⟩ := and_ok g2
      obtain ⟨g4, g5⟩ := and_ok g4
      obtain ⟨g5, g6⟩ := and_ok g5
      have g3 := Nat.le_of_ble_eq_true g3
      have g4 := Nat.le_of_ble_eq_true g4
      have g5 := Nat.le_of_ble_eq_true g5
      have g6 := Nat.le_of_ble_eq_true g6
      refine ⟨touch_grow _ _, fun cov st hx vl vh vm => ?_⟩
      have hlook : look h b = .cells sz2 mm cs := ho
      simp only [V] at hx
      obtain ⟨p, hp, rfl⟩ := hx
      obtain ⟨p', hp', hh⟩ := st.obj (b := b) (cov.acc b (touch_mem b h)) (by rw [hlook]; simp)
      rw [hp] at hp'; cases hp'
      rw [hlook] at hh
      have hroom := hh.2.1
      have hbd := sliceBounds_run (P := P) (w := w) (isS := false) ha hb hc vl vh vm g3 g4 g5 hm
      refine ⟨.slice (some (if z = x then ⟨p.blk, p.off + o, none⟩ else (⟨p.blk, p.off + o, none⟩ : Addr).add (x * P.cellsOf e))) (y - x) (z - x), ?_, Out.touch st ?_⟩
      · simp only [Instr.sliceAt, Sem.run_bind, run_underlying hu, Result.andThen_ok, hbd, sizeOf_run gk, Sem.run_pure, Instr.sureAddr]
      · simp only [V]
        refine ⟨p, z - x, _, hp, rfl, Nat.le_refl _, fun _ => rfl, fun hpos => ?_, by omega⟩
        have hne : ¬ z = x := by omega
        rw [if_neg hne, Addr.add_mid]
        refine ⟨by rw [Nat.add_assoc], ?_⟩
        have : x * P.cellsOf e + (z - x) * P.cellsOf e ≤ n * P.cellsOf e := by rw [← Nat.add_mul]; exact Nat.mul_le_mul_right _ (by omega)
        omega
  · cases E
end
end Go.Ax
end
/- Conversions. -/
noncomputable section
set_option linter.unusedVariables false
set_option linter.unusedSimpArgs false
namespace Go.Ax
def isU8D (d : Option TypeDesc) : Bool := match d with | some (.int k) => Nat.beq (kn k) 4 | _ => false
def byteSlD (P : Program) (d : Option TypeDesc) : Bool := match d with | some (.slice e) => isU8D (P.underlying e) | _ => false
def byteSl (P : Program) (t : TypeId) : Bool := byteSlD P (P.underlying t)
def codeI (b : Bool) (n : Nat) : Option Nat := Bool.rec none (some n) b
def codeOf (x : AV) : Option Nat := match x with
  | .int k (.ofNat n) => codeI (and (Nat.beq (kn k) 4) (Nat.ble n 255)) n
  | .sym k (.hi i) => codeI (Nat.beq (kn k) 4) (256 + 4 * i)
  | .sym k (.lo i) => codeI (Nat.beq (kn k) 4) (257 + 4 * i)
  | _ => none
def consO (x : Option Nat) (r : Option (List Nat)) : Option (List Nat) := optB (fun a => optB (fun l => some (a :: l)) r) x
def codesL (l : List (List AV)) : Option (List Nat) := List.rec (motive := fun _ => Option (List Nat)) (some []) (fun a _ ih => consO (codeOf (headL .undef a)) ih) l
def toStr (h : AH) (l : List (List AV)) : Res AV := onSome (fun s => .ok (.str s) h) (codesL l)
def convStr (P : Program) (src : TypeId) (x : AV) (h : AH) : Res AV := match x with
  | .str s => ck (.ok (.str s) h) (knownT P src)
  | .nils => ck (.ok (.str []) h) (byteSl P src)
  | .slice b o len cap ex sz => ck (bindR (srcA P src 1 (.slice b o len cap ex sz) h) fun l h => toStr h l) (byteSl P src)
  | _ => .er "convert"
def newBytes (s : List Nat) (n : Nat) (h : AH) : Res AV := .ok (.slice h.next 0 n n false 1) (made (.cells 1 n (ofList [] (strEls s))) h)
def convSl (P : Program) (src dst : TypeId) (x : AV) (h : AH) : Res AV := match x with
  | .str s => ck (newBytes s (lenL s) h) (and (isStrT P src) (byteSl P dst))
  | _ => .er "convert"
def ofOp1 (h : AH) (x : Op1 AV) : Res AV := Op1.rec (motive := fun _ => Res AV) (fun v => .ok v h) .er x
def convertD (P : Program) (rng : Rng) (src dst : TypeId) (x : AV) (h : AH) (d : Option TypeDesc) : Res AV := match d with
  | some (.int k) => ck (ofOp1 h (convK rng k x)) (knownT P src)
  | some .string => convStr P src x h
  | some (.slice _) => convSl P src dst x h
  | _ => .er "convert"
def convertA (P : Program) (rng : Rng) (src dst : TypeId) (x : AV) (h : AH) : Res AV := convertD P rng src dst x h (P.underlying dst)
theorem ofOp1_ok {h h' : AH} {x : Op1 AV} {v : AV} (e : ofOp1 h x = .ok v h') : x = .ok v ∧ h' = h := by
  cases x with
  | ok a => cases e; exact ⟨rfl, rfl⟩
  | er s => cases e
section
variable {C : Ctx} {ρ : Nat → Int} {μ μ' : Mu} {P : Program} {w w' : World} {h h' : AH} {rng : Rng}
theorem isU8_ok {t : TypeId} (g : isU8D (P.underlying t) = true) : P.underlying t = some (.int .u8) := by
  unfold isU8D at g
  split at g
  · rename_i k hk
    rw [hk, kn_inj (b := .u8) g]
  · cases g
theorem byteSl_ok {t : TypeId} (g : byteSl P t = true) : ∃ e, P.underlying t = some (.slice e) ∧ P.underlying e = some (.int .u8) := by
  unfold byteSl byteSlD at g
  split at g
  · rename_i e he
    exact ⟨e, he, isU8_ok g⟩
  · cases g
theorem codeVal_hi (i : Nat) : codeVal ρ (256 + 4 * i) = (ρ i % 65536 / 256).toNat := by
  unfold codeVal
  rw [if_neg (by omega)]
  have e1 : (256 + 4 * i - 256) % 4 = 0 := by omega
  have e2 : (256 + 4 * i - 256) / 4 = i := by omega
  rw [e1, e2]; rfl
theorem codeVal_lo (i : Nat) : codeVal ρ (257 + 4 * i) = (ρ i % 256).toNat := by
  unfold codeVal
  rw [if_neg (by omega)]
  have e1 : (257 + 4 * i - 256) % 4 = 1 := by omega
  have e2 : (257 + 4 * i - 256) / 4 = i := by omega
  rw [e1, e2]; rfl
theorem codeI_ok {b : Bool} {n c : Nat} (e : codeI b n = some c) : b = true ∧ c = n := by
  cases b with
  | true => cases e; exact ⟨rfl, rfl⟩
  | false => cases e
theorem codeOf_ok {x : AV} {c : Nat} {v : Value} (e : codeOf x = some c) (hx : V ρ μ x v) : v = .int .u8 (codeVal ρ c : Nat) ∧ codeVal ρ c < 256 := by
  unfold codeOf at e
  split at e
  · rename_i k n
    obtain ⟨g, rfl⟩ := codeI_ok e
    obtain ⟨g1, g2⟩ := and_ok g
    have g2 := Nat.le_of_ble_eq_true g2
    have hk : k = .u8 := kn_inj (b := .u8) g1
    simp only [V] at hx
    rw [hx, hk, codeVal_low ρ (by omega)]
    exact ⟨rfl, by omega⟩
  · rename_i k i
    obtain ⟨g, rfl⟩ := codeI_ok e
    have hk : k = .u8 := kn_inj (b := .u8) g
    simp only [V, SE.val] at hx
    rw [hx, hk, codeVal_hi]
    have h0 : 0 ≤ ρ i % 65536 / 256 := by omega
    refine ⟨by rw [Int.toNat_of_nonneg h0], by omega⟩
  · rename_i k i
    obtain ⟨g, rfl⟩ := codeI_ok e
    have hk : k = .u8 := kn_inj (b := .u8) g
    simp only [V, SE.val] at hx
    rw [hx, hk, codeVal_lo]
    have h0 : 0 ≤ ρ i % 256 := by omega
    refine ⟨by rw [Int.toNat_of_nonneg h0], by omega⟩
  · cases e
theorem codesL_ok : ∀ {l : List (List AV)} {news : List Value} {s : List Nat}, codesL l = some s → Els ρ μ 1 l news → news = (s.map fun c => (codeVal ρ c : Int)).map (Value.int .u8) ∧ (∀ c ∈ s, codeVal ρ c < 256) ∧ s.length = l.length
  | [], news, s, e, hl => by
    cases e
    have : news = [] := List.length_eq_zero_iff.1 (by have := hl.len; simpa using this)
    subst this
    exact ⟨rfl, by simp, rfl⟩
  | a :: l, news, s, e, hl => by
    have e : consO (codeOf (headL .undef a)) (codesL l) = some s := e
    obtain ⟨c, hc, e⟩ := optB_some e
    obtain ⟨s', hs', e⟩ := optB_some e
    cases e
    have hlen := hl.len
    cases news with
    | nil => simp at hlen
    | cons v news =>
      have hv := hl.at_ 0 v rfl
      have hv : V ρ μ (headL .undef a) v := by
        have : elAt 1 (a :: l) 0 = headL .undef a := by unfold elAt; cases a <;> rfl
        rw [this] at hv; exact hv
      obtain ⟨rfl, hlt⟩ := codeOf_ok hc hv
      obtain ⟨rfl, hall, hn⟩ := codesL_ok (news := news) hs' ⟨by simpa using hlen, fun x hx => hl.one x (List.mem_cons_of_mem _ hx), fun i x hx => by
        have := hl.at_ (i + 1) x (by simpa using hx)
        unfold elAt at this ⊢
        simpa [Nat.div_one, Nat.mod_one] using this⟩
      exact ⟨rfl, fun c' hc' => by rcases List.mem_cons.1 hc' with rfl | hc'; exact hlt; exact hall c' hc', by simp [hn]⟩
theorem str_of_nums {s : List Nat} (hall : ∀ c ∈ s, codeVal ρ c < 256) : V ρ μ (.str s) (.string (strOfNums (s.map fun c => (codeVal ρ c : Int)))) := by
  simp only [V]
  refine ⟨_, rfl, ?_⟩
  rw [strOfNums_data, List.map_map, List.map_map]
  refine List.map_congr_left fun c hc => ?_
  simp only [Function.comp, Int.toNat_natCast]
  have := hall c hc
  simp [UInt8.toNat_ofNat', Nat.mod_eq_of_lt this]
theorem convertA_ok (hr : Ranges ρ rng) {src dst : TypeId} {x v : AV} {u : Value} (E : convertA P rng src dst x h = .ok v h') : Grow h h' ∧ (C.covers h' → St C ρ μ h w → V ρ μ x u →
    ∃ r w', (convert src dst u).run P w = .ok r w' ∧ Out C ρ μ h h' (fun μ' => V ρ μ' v r) w') := by
  unfold convertA convertD at E
  split at E
  · rename_i k hd
    have hg := ck_ok E; clear E; obtain ⟨g, E⟩ := hg
    have hs := ofOp1_ok E; clear E; obtain ⟨E, rfl⟩ := hs
    refine ⟨Grow.refl _, fun cov s hx => ?_⟩
    obtain ⟨k0, n, rfl, hv⟩ := convK_ok hr E hx
    obtain ⟨i, d, hi, _, hu⟩ := cellsOf_info g
    exact ⟨_, w, by simp [convert, run_underlying hu, run_underlying hd, Conv.intToInt], Out.refl s hv⟩
  · rename_i hd
    unfold convStr at E
    split at E
    · have hg := ck_ok E; clear E; obtain ⟨g, E⟩ := hg
      cases E
      obtain ⟨i, d, hi, _, hu⟩ := cellsOf_info g
      refine ⟨Grow.refl _, fun cov s hx => ?_⟩
      have hx' := hx
      simp only [V] at hx'
      obtain ⟨bs, rfl, _⟩ := hx'
      refine ⟨.string bs, w, ?_, Out.refl s hx⟩
      simp [convert, Sem.run_bind, run_underlying hu, run_underlying hd]
    · have hg := ck_ok E; clear E; obtain ⟨g, E⟩ := hg
      cases E
      obtain ⟨e, hs, he⟩ := byteSl_ok g
      refine ⟨Grow.refl _, fun cov s hx => ?_⟩
      simp only [V] at hx
      subst hx
      exact ⟨_, w, run_convert_bytes_nil w src e hs he 0 0 dst hd, Out.refl s (by simp only [V]; exact ⟨_, rfl, rfl⟩)⟩
    · rename_i b o len cap ex sz
      have hg := ck_ok E; clear E; obtain ⟨g, E⟩ := hg
      have hs := bindR_ok E; clear E; obtain ⟨l, h1, E1, E⟩ := hs
      have hs := onSome_ok E; clear E; obtain ⟨s0, hs0, E⟩ := hs
      cases E
      obtain ⟨e, hs, he⟩ := byteSl_ok g
      have G1 := (srcA_ok (C := C) (ρ := ρ) (μ := μ) (w := w) (u := u) E1).1
      refine ⟨G1, fun cov s hx => ?_⟩
      obtain ⟨news, sn, en, s1, _⟩ := (srcA_ok (C := C) (ρ := ρ) (μ := μ) (w := w) (u := u) E1).2 cov s hx
      obtain ⟨hnews, hall, hn⟩ := codesL_ok hs0 en
      simp only [V] at hx
      obtain ⟨p, c, a, hp, rfl, h1, h2, h3, h4⟩ := hx
      have hlen := sn.len w
      have hll : l.length = len := by
        simp [Builtin.lenOf] at hlen
        exact hlen.symm
      have hcells := sn.cells
      rw [hll] at hcells
      simp only [Builtin.firstCells, Nat.mul_one] at hcells
      rw [hnews] at hcells
      refine ⟨_, w, ?_, μ, μ.le_refl, fun _ k => .inl k, str_of_nums hall, s1⟩
      rw [run_convert_bytes_string w src dst e _ len c hs he hd, run_bytesToString w _ len c _ hcells, foldl_push_bytes]
      simp [strOfNums, ByteArray.empty, ByteArray.emptyWithCapacity]
      rfl
    · cases E
  · rename_i e0 hd
    unfold convSl at E
    split at E
    · rename_i s0
      have hg := ck_ok E; clear E; obtain ⟨g, E⟩ := hg
      cases E
      obtain ⟨g1, g2⟩ := and_ok g
      obtain ⟨e, hd', he⟩ := byteSl_ok g2
      rw [lenL_eq]
      refine ⟨made_grow _ _, fun cov s hx => ?_⟩
      simp only [V] at hx
      obtain ⟨bs, rfl, hbs⟩ := hx
      have hl : bs.size = s0.length := by have := congrArg List.length hbs; simpa using this
      have hrun := run_bytes_of_string (P := P) w src dst e bs (isStrT_ok g1) hd' he
      have hge := grownCap_ge w bs.size 0 e
      refine ⟨_, _, hrun, ?_⟩
      generalize grownCap w bs.size 0 e = gc at hge
      have hsz : (bytesRow bs gc).size = gc := by simp [bytesRow]; omega
      generalize hrow : bytesRow bs gc = row at hsz
      have el := strEls_ok (μ := μ) hbs
      have hrowv : ∀ i v, i < s0.length → row[i]? = some v → (byteCells bs)[i]? = some v := fun i v hi hv => by
        rw [← hrow] at hv
        unfold bytesRow at hv
        rw [Array.getElem?_append_left (by simp; omega)] at hv
        unfold byteCells
        simpa using hv
      have s' : St C ρ μ h w.drew := St.of_heap (w := w) (w' := w.drew) rfl s
      have hb : (w.drew.alloc (.cells row e (row.size, row.size + 1))).heap[w.heap.size]? = some (.cells row e (row.size, row.size + 1)) := by show (w.heap.push _)[w.heap.size]? = _; simp
      have hcell : ∀ j, (w.drew.alloc (.cells row e (row.size, row.size + 1))).cell? ⟨w.heap.size, j, none⟩ = row[j]? := fun j => by unfold World.cell?; rw [hb]; rfl
      refine St.made (w := w.drew) (p := ⟨w.heap.size, 0, row.size⟩) s' cov (fun hz => Nat.lt_irrefl _ (s.rel.frz _ hz).1) (fun k _ hk => alloc_other (w := w.drew) _ k hk) (fun x q hx hq => ?_) (fun μ' le hμ => ?_) (fun μ' le hμ => ?_)
      · obtain ⟨q', h1, h2⟩ := s.rel.holds x hx
        rw [hq] at h1; cases h1
        exact Nat.ne_of_lt (h2.live hx)
      · refine ⟨fun j hj => ?_, by simp only [Nat.zero_add]; omega, by show w.heap.size < (w.heap.push _).size; simp, ⟨row, e, _, hb⟩, fun i hi => ?_⟩
        · simp only at hj
          refine ⟨by rw [hcell]; simp [hj], ?_⟩
          unfold World.frozen?
          rw [hb]
          simp; omega
        · have hlt : i < row.size := by omega
          refine ⟨row[i], by simp only [Nat.zero_add]; rw [hcell]; simp [hlt], ?_⟩
          have hvv := hrowv i row[i] hi (by simp [hlt])
          exact ⟨el.one _ (List.mem_of_getElem? hvv), by rw [cellAt_ofList]; exact (el.at_ i _ hvv).mono le⟩
      · simp only [V]
        refine ⟨_, gc, ⟨w.heap.size, 0, none⟩, hμ, ?_, by omega, (fun e => by cases e), fun _ => ⟨by simp, by simp only [Nat.zero_add, Nat.mul_one]; omega⟩, Nat.le_refl _⟩
        rw [hl]
    · cases E
  · cases E
end
end Go.Ax
end
/- Keys of maps. -/
noncomputable section
set_option linter.unusedVariables false
set_option linter.unusedSimpArgs false
namespace Go.Ax
def keyS (x y : AV) : Tri := match x, y with | .str a, .str b => eqL a b | _, _ => .u
def keyBo (x y : AV) : Tri := match x, y with | .bool a, .bool b => triB (Bool.rec (Bool.rec true false b) b a) | _, _ => .u
def keyC (rng : Rng) (d : Option TypeDesc) (x y : AV) : Tri := match d with
  | some (.int _) => cmpA rng .eql x y
  | some .string => keyS x y
  | some .bool => keyBo x y
  | _ => .u
def andT (r : Tri) (c : Tri) : Tri := Tri.rec (motive := fun _ => Tri) r .f .u c
def keyF2 (P : Program) (rng : Rng) (ih : List AV → List AV → Tri) (f : Field) (l m : List AV) : Tri := match l, m with
  | a :: l, b :: m => andT (ih l m) (keyC rng (P.underlying f.type) a b)
  | _, _ => .u
def keyFs (P : Program) (rng : Rng) (fs : List Field) : List AV → List AV → Tri := List.rec (motive := fun _ => List AV → List AV → Tri) (fun _ _ => .t) (fun f _ ih => keyF2 P rng ih f) fs
def memN (n : Nat) (l : List Nat) : Bool := List.rec (motive := fun _ => Bool) false (fun a _ ih => Bool.rec ih true (Nat.beq n a)) l
def keyA (P : Program) (rng : Rng) (fs : Array Field) (x y : AV) : Tri := match x, y with | .agg l, .agg m => keyFs P rng fs.toList l m | _, _ => .u
def keyD (P : Program) (rng : Rng) (d : Option TypeDesc) (x y : AV) : Tri := match d with
  | some (.struct fs) => keyA P rng fs x y
  | d => keyC rng d x y
def okP (d : Option TypeDesc) (x : AV) : Bool := match d, x with
  | some (.int _), .int _ _ => true
  | some (.int _), .sym _ _ => true
  | some .string, .str _ => true
  | some .bool, .bool _ => true
  | _, _ => false
def isPl (x : AV) : Bool := match x with | .int _ _ => true | .sym _ _ => true | .str _ => true | .bool _ => true | _ => false
def allP (l : List AV) : Bool := List.rec (motive := fun _ => Bool) true (fun a _ ih => and (isPl a) ih) l
def okS (K : List TypeId) (kt : TypeId) (fs : Array Field) (x : AV) : Bool := match x with | .agg l => and (memN kt K) (and (Nat.beq (lenL l) fs.size) (allP l)) | _ => false
/-- A key of its type. -/
def okKey (K : List TypeId) (kt : TypeId) (d : Option TypeDesc) (x : AV) : Bool := match d with
  | some (.struct fs) => okS K kt fs x
  | d => okP d x
def plainD : Option TypeDesc → Bool | some (.int _) => true | some .string => true | some .bool => true | _ => false
/-- Static: the types that are keys of several cells. -/
def FlatK (P : Program) (K : List TypeId) : Prop := ∀ t ∈ K, ∀ fs, P.underlying t = some (.struct fs) → P.stoodInHeld t = false ∧ P.eqGuardType P.depth t = false ∧ ∀ (i : Nat) (f : Field), fs.toList[i]? = some f → f.name ≠ "_" ∧ f.offset = i ∧ plainD (P.underlying f.type) = true
def plainC : Value → Prop | .int _ _ => True | .string _ => True | .bool _ => True | _ => False
/-- What one comparison of keys gives. -/
structure KeyR (P : Program) (kt : TypeId) (key a : Value) (r : Bool) : Prop where
  run : ∀ w : World, (Op.equal kt key a).run P w = .ok r w
  now : ∀ d, P.underlying kt = some d → plainD (some d) = true → Instr.sameNow d key a = some r
  same : r = true → a = key
section
variable {C : Ctx} {ρ : Nat → Int} {μ μ' : Mu} {P : Program} {w w' : World} {h h' : AH} {rng : Rng}
theorem memN_ok : ∀ {l : List Nat} {n : Nat}, memN n l = true → n ∈ l
  | [], n, e => by cases e
  | a :: l, n, e => by
    have e : (Bool.rec (memN n l) true (Nat.beq n a) : Bool) = true := e
    cases hb : Nat.beq n a with
    | true => rw [Nat.eq_of_beq_eq_true hb]; exact List.mem_cons_self
    | false => rw [hb] at e; exact List.mem_cons_of_mem _ (memN_ok e)
theorem keyC_ok (hr : Ranges ρ rng) {d : Option TypeDesc} {x y : AV} {a b : Value} (hne : keyC rng d x y ≠ .u) (hx : V ρ μ x a) (hy : V ρ μ y b) :
    ∃ r dd, d = some dd ∧ (keyC rng d x y).fits (some r) ∧ Instr.sameNow dd a b = some r ∧ (r = true → b = a) ∧ plainC a ∧ plainC b ∧ ∀ (ty n : Nat) (w : World), P.underlying ty = d → (Op.equalIn (n + 1) ty a b).run P w = .ok r w := by
  unfold keyC at hne ⊢
  split at hne
  · rename_i k
    obtain ⟨k', m, n, rfl, rfl, hf⟩ := cmpA_ok hr .eql hx hy hne
    refine ⟨m == n, _, rfl, hf, by simp [Instr.sameNow], fun e => by rw [beq_iff_eq] at e; rw [e], trivial, trivial, fun ty d w hu => by simp [Op.equalIn, run_underlying hu]⟩
  · unfold keyS at hne ⊢
    split at hne
    · rename_i s t
      simp only [V] at hx hy
      obtain ⟨bs, rfl, h1⟩ := hx
      obtain ⟨cs, rfl, h2⟩ := hy
      have he := str_eq (ρ := ρ) h1 h2
      have hf := eqL_fits ρ s t
      rw [← he, ← beq_toListBytes] at hf
      refine ⟨bs == cs, _, rfl, hf, rfl, fun e => ?_, trivial, trivial, fun ty d w hu => by simp [Op.equalIn, run_underlying hu]⟩
      rw [beq_toListBytes] at e
      have e := eq_of_beq e
      rw [ByteArray.toList_eq, ByteArray.toList_eq] at e
      have : bs = cs := by
        cases bs; cases cs
        rw [Array.toList_inj] at e
        exact congrArg ByteArray.mk e
      rw [this]
    · exact absurd rfl hne
  · unfold keyBo at hne ⊢
    split at hne
    · rename_i p q
      simp only [V] at hx hy
      subst hx; subst hy
      refine ⟨p == q, _, rfl, ?_, rfl, fun e => by rw [beq_iff_eq] at e; rw [e], trivial, trivial, fun ty d w hu => by simp [Op.equalIn, run_underlying hu]⟩
      cases p <;> cases q <;> rfl
    · exact absurd rfl hne
  · exact absurd rfl hne
theorem isPl_ok {x : AV} {v : Value} (h : isPl x = true) (hx : V ρ μ x v) : plainC v := by
  cases x <;> simp only [isPl, Bool.false_eq_true] at h
  · simp only [V] at hx; subst hx; trivial
  · simp only [V] at hx; subst hx; trivial
  · simp only [V] at hx; subst hx; trivial
  · simp only [V] at hx; obtain ⟨_, rfl, _⟩ := hx; trivial
theorem allP_ok : ∀ {l : List AV} {vs : List Value}, allP l = true → VL ρ μ l vs → ∀ y ∈ vs, plainC y
  | [], vs, h, hl => by simp only [VL] at hl; subst hl; simp
  | a :: l, vs, h, hl => by
    simp only [VL] at hl
    obtain ⟨v, r, rfl, v1, l1⟩ := hl
    have h : and (isPl a) (allP l) = true := h
    obtain ⟨g1, g2⟩ := and_ok h
    intro y hy
    rcases List.mem_cons.1 hy with rfl | hy
    · exact isPl_ok g1 v1
    · exact allP_ok g2 l1 y hy
theorem run_part_one {t : TypeId} {xs : Array Value} {i : Nat} {v : Value} (hp : plainD (P.underlying t) = true) (hv : xs[i]? = some v) : (part t xs i).run P w = .ok v w := by
  cases hu : P.underlying t with
  | none => rw [hu] at hp; cases hp
  | some d =>
    rw [hu] at hp
    have hagg : isAggT P t = false := by
      unfold isAggT; rw [hu]
      cases d <;> first | (cases hp; done) | rfl
    simp [part, Sem.run_bind, isAgg_run hu, hagg, hv]
theorem andT_ok {r c : Tri} (h : andT r c ≠ .u) : (c = .t ∧ andT r c = r) ∨ (c = .f ∧ andT r c = .f) := by
  cases c with
  | t => exact .inl ⟨rfl, rfl⟩
  | f => exact .inr ⟨rfl, rfl⟩
  | u => exact absurd rfl h
theorem keyFs_ok (hr : Ranges ρ rng) {xs ys : Array Value} (d : Nat) : ∀ {fs : List Field} {l m : List AV} (i : Nat), (∀ (j : Nat) (f : Field), fs[j]? = some f → f.name ≠ "_" ∧ f.offset = i + j ∧ plainD (P.underlying f.type) = true) →
    keyFs P rng fs l m ≠ .u → VL ρ μ l (xs.toList.drop i) → VL ρ μ m (ys.toList.drop i) →
    ∃ r, (keyFs P rng fs l m).fits (some r) ∧ (∀ w : World, (Op.eqFields (d + 1) xs ys fs).run P w = .ok r w) ∧ (r = true → (ys.toList.drop i).take fs.length = (xs.toList.drop i).take fs.length)
  | [], l, m, i, hf, hne, hl, hm => ⟨true, rfl, fun w => by simp [Op.eqFields], fun _ => by simp⟩
  | f :: fs, l, m, i, hf, hne, hl, hm => by
    have hne : keyF2 P rng (keyFs P rng fs) f l m ≠ .u := hne
    show ∃ r, (keyF2 P rng (keyFs P rng fs) f l m).fits (some r) ∧ _
    cases l with
    | nil => exact absurd rfl hne
    | cons a l =>
      cases m with
      | nil => exact absurd rfl hne
      | cons b m =>
        simp only [VL] at hl hm
        obtain ⟨va, la, e1, v1, l1⟩ := hl
        obtain ⟨vb, lb, e2, v2, l2⟩ := hm
        have hne : andT (keyFs P rng fs l m) (keyC rng (P.underlying f.type) a b) ≠ .u := hne
        show ∃ r, (andT (keyFs P rng fs l m) (keyC rng (P.underlying f.type) a b)).fits (some r) ∧ _
        obtain ⟨n0, n1, n2⟩ := hf 0 f rfl
        have hc : keyC rng (P.underlying f.type) a b ≠ .u := by
          rcases andT_ok hne with ⟨e, _⟩ | ⟨e, _⟩ <;> rw [e] <;> simp
        obtain ⟨r, dd, hd, ft, _, same, _, _, run⟩ := keyC_ok (P := P) hr hc v1 v2
        have hxs : xs[i]? = some va := by
          have := congrArg (·[0]?) e1
          simpa using this
        have hys : ys[i]? = some vb := by
          have := congrArg (·[0]?) e2
          simpa using this
        have p1 : ∀ w : World, (part f.type xs f.offset).run P w = .ok va w := fun w => run_part_one n2 (by rw [n1]; exact hxs)
        have p2 : ∀ w : World, (part f.type ys f.offset).run P w = .ok vb w := fun w => run_part_one n2 (by rw [n1]; exact hys)
        have t1 : la = xs.toList.drop (i + 1) := by
          have := congrArg List.tail e1
          simpa using this.symm
        have t2 : lb = ys.toList.drop (i + 1) := by
          have := congrArg List.tail e2
          simpa using this.symm
        rcases andT_ok hne with ⟨e, e'⟩ | ⟨e, e'⟩
        · rw [e] at ft
          have hr1 : r = true := Option.some.inj ft
          subst hr1
          rw [e'] at hne ⊢
          obtain ⟨r', f', run', same'⟩ := keyFs_ok hr d (i + 1) (fun j g hg => by
            obtain ⟨q1, q2, q3⟩ := hf (j + 1) g (by simpa using hg)
            exact ⟨q1, by omega, q3⟩) hne (by rw [← t1]; exact l1) (by rw [← t2]; exact l2)
          refine ⟨r', f', fun w => by simp [Op.eqFields, n0, p1, p2, run _ d _ rfl, run'], fun e => ?_⟩
          rw [e1, e2, same rfl, List.length_cons, List.take_succ_cons, List.take_succ_cons, t1, t2, same' e]
        · rw [e] at ft
          have hr1 : r = false := Option.some.inj ft
          subst hr1
          rw [e']
          exact ⟨false, rfl, fun w => by simp [Op.eqFields, n0, p1, p2, run _ d _ rfl], fun e => by cases e⟩
theorem plainD_ok {d : Option TypeDesc} (h : plainD d = true) : (∃ k, d = some (.int k)) ∨ d = some .string ∨ d = some .bool := by
  unfold plainD at h
  split at h
  · exact .inl ⟨_, rfl⟩
  · exact .inr (.inl rfl)
  · exact .inr (.inr rfl)
  · cases h
theorem run_checkKey_plainD {t : TypeId} (hp : plainD (P.underlying t) = true) (em : Bool) (n : Nat) (v : Value) (w : World) : (Instr.checkKey em (n + 1) t v).run P w = .ok () w := by
  rcases plainD_ok hp with ⟨k, hu⟩ | hu | hu
  · unfold Instr.checkKey
    simp only [Sem.run_bind, run_underlying hu, Result.andThen]
    cases v <;> rfl
  · unfold Instr.checkKey
    simp only [Sem.run_bind, run_underlying hu, Result.andThen]
    cases v <;> rfl
  · unfold Instr.checkKey
    simp only [Sem.run_bind, run_underlying hu, Result.andThen]
    cases v <;> rfl
theorem run_checkKey_struct {t : TypeId} {fs : Array Field} (hu : P.underlying t = some (.struct fs)) (hf : ∀ (j : Nat) (f : Field), fs.toList[j]? = some f → f.name ≠ "_" ∧ f.offset = j ∧ plainD (P.underlying f.type) = true) (cs : Array Value) (hn : fs.size ≤ cs.size) (em : Bool) (n : Nat) (w : World) :
    (Instr.checkKey em (n + 2) t (.agg cs)).run P w = .ok () w := by
  unfold Instr.checkKey
  simp only [Sem.run_bind, run_underlying hu, Result.andThen_ok]
  rw [← Array.forIn_toList]
  have key : ∀ (l : List Field), (∀ f ∈ l, f.name ≠ "_" ∧ plainD (P.underlying f.type) = true ∧ f.offset < cs.size) → ((forIn l PUnit.unit fun f _ => if f.name = "_" then pure (ForInStep.yield PUnit.unit) else do { let a ← part f.type cs f.offset; (fun _ => ForInStep.yield PUnit.unit) <$> Instr.checkKey em (n + 1) f.type a }) : Sem PUnit).run P w = .ok PUnit.unit w := by
    intro l
    induction l with
    | nil => intro _; simp
    | cons f l ih =>
      intro hl
      obtain ⟨a1, a2, a3⟩ := hl f List.mem_cons_self
      have hp : (part f.type cs f.offset).run P w = .ok cs[f.offset] w := run_part_one a2 (by simp [a3])
      rw [List.forIn_cons]
      simp [a1, hp, run_checkKey_plainD a2 em n]
      exact ih fun g hg => hl g (List.mem_cons_of_mem _ hg)
  have := key fs.toList fun f hm => by
    obtain ⟨j, hj⟩ := List.mem_iff_getElem?.1 hm
    obtain ⟨q1, q2, q3⟩ := hf j f hj
    have hlt : j < fs.toList.length := (List.getElem?_eq_some_iff.1 hj).1
    simp only [Array.length_toList] at hlt
    exact ⟨q1, q3, by omega⟩
  simp
  simp at this
  rw [this]
  rfl
/-- A key's form: it may be looked up. -/
theorem okKey_ok {K : List TypeId} (hK : FlatK P K) {kt : TypeId} {x : AV} {v : Value} (h : okKey K kt (P.underlying kt) x = true) (hx : V ρ μ x v) (em : Bool) (w : World) : (Instr.checkKey em 10000 kt v).run P w = .ok () w := by
  unfold okKey at h
  split at h
  · rename_i fs hu
    unfold okS at h
    split at h
    · obtain ⟨g1, g2⟩ := and_ok h
      obtain ⟨g2, _⟩ := and_ok g2
      have g2 := Nat.eq_of_beq_eq_true g2
      rw [lenL_eq] at g2
      simp only [V] at hx
      obtain ⟨cs, rfl, vl, _⟩ := hx
      have hl := vl.length
      simp only [Array.length_toList] at hl
      exact run_checkKey_struct hu (hK kt (memN_ok g1) fs hu).2.2 cs (by omega) em 9998 w
    · cases h
  · have hp : plainD (P.underlying kt) = true := by
      unfold okP at h
      split at h <;> first | (rename_i h1; rw [h1]; rfl) | (cases h)
    exact run_checkKey_plainD hp em 9999 v w
theorem keyD_ok (hr : Ranges ρ rng) {K : List TypeId} (hK : FlatK P K) {kt : TypeId} {x y : AV} {a b : Value} (hok : okKey K kt (P.underlying kt) x = true) (hok2 : okKey K kt (P.underlying kt) y = true) (hne : keyD P rng (P.underlying kt) x y ≠ .u) (hx : V ρ μ x a) (hy : V ρ μ y b) :
    ∃ r, (keyD P rng (P.underlying kt) x y).fits (some r) ∧ KeyR P kt a b r := by
  unfold keyD at hne ⊢
  split at hne
  · rename_i fs hu
    rw [hu] at hok hok2
    unfold keyA at hne ⊢
    split at hne
    · rename_i l m
      obtain ⟨g1, g2⟩ := and_ok hok
      obtain ⟨g3, g4⟩ := and_ok hok2
      obtain ⟨g2, _⟩ := and_ok g2
      obtain ⟨g4, _⟩ := and_ok g4
      have g2 := Nat.eq_of_beq_eq_true g2
      have g4 := Nat.eq_of_beq_eq_true g4
      rw [lenL_eq] at g2 g4
      simp only [V] at hx hy
      obtain ⟨xs, rfl, vl, _⟩ := hx
      obtain ⟨ys, rfl, vm, _⟩ := hy
      have n1 := vl.length
      have n2 := vm.length
      simp only [Array.length_toList] at n1 n2
      obtain ⟨hst, _, hf⟩ := hK kt (memN_ok g1) fs hu
      obtain ⟨r, f, run, same⟩ := keyFs_ok (P := P) hr (xs := xs) (ys := ys) 9998 0 (fun j f hj => by rw [Nat.zero_add]; exact hf j f hj) hne (by simpa using vl) (by simpa using vm)
      have hfs : P.fieldsOf kt = fs := by simp [Program.fieldsOf, hu]
      refine ⟨r, f, fun w => ?_, fun d hd hp => ?_, fun e => ?_⟩
      · rw [equal_run hu, run_equalIn_struct w 9999 kt xs ys (by rw [hfs]; exact hu) hst, hfs]
        exact run w
      · rw [hu] at hd; cases hd; cases hp
      · have := same e
        simp only [List.drop_zero, Array.length_toList] at this
        rw [List.take_of_length_le (by simp; omega), List.take_of_length_le (by simp; omega)] at this
        rw [Array.toList_inj.1 this]
    · exact absurd rfl hne
  · obtain ⟨r, dd, hd, f, now, same, p1, p2, run⟩ := keyC_ok (P := P) hr hne hx hy
    refine ⟨r, f, fun w => ?_, fun d hd' hp => ?_, same⟩
    · rw [equal_run hd]
      exact run kt 9999 w rfl
    · rw [hd] at hd'; cases hd'; exact now
theorem sameBits_plain {v : Value} (h : plainC v) (n : Nat) : Instr.sameBits n v v = true := by
  cases v <;> first | (exact h.elim) | skip
  · cases n <;> simp [Instr.sameBits]
  · cases n <;> simp [Instr.sameBits]
  · rename_i s
    have : (s == s) = true := by rw [beq_toListBytes]; simp
    cases n <;> exact this
end
end Go.Ax
end
/- Maps. -/
noncomputable section
set_option linter.unusedVariables false
set_option linter.unusedSimpArgs false
namespace Go.Ax
inductive FR where | hit (i : Nat) (v : AV) (born : Nat) | miss | er
def find3 (ih : Nat → FR) (e : AV × AV × Nat) (i : Nat) (c : Tri) : FR := Tri.rec (motive := fun _ => FR) (.hit i e.2.1 e.2.2) (ih (Nat.succ i)) .er c
def findE (cmp : AV → Tri) (es : List (AV × AV × Nat)) : Nat → FR := List.rec (motive := fun _ => Nat → FR) (fun _ => .miss) (fun e _ ih i => find3 ih e i (cmp e.1)) es
def allK (f : AV → Bool) (es : List (AV × AV × Nat)) : Bool := List.rec (motive := fun _ => Bool) true (fun e _ ih => and (f e.1) ih) es
theorem find3_cases {ih : Nat → FR} {e : AV × AV × Nat} {i : Nat} {c : Tri} (h : find3 ih e i c ≠ .er) : (c = .t ∧ find3 ih e i c = .hit i e.2.1 e.2.2) ∨ (c = .f ∧ find3 ih e i c = ih (Nat.succ i)) := by
  cases c with
  | t => exact .inl ⟨rfl, rfl⟩
  | f => exact .inr ⟨rfl, rfl⟩
  | u => exact absurd rfl h
section
variable {C : Ctx} {ρ : Nat → Int} {μ μ' : Mu} {P : Program} {w w' : World} {h h' : AH} {rng : Rng}
/-- What is found. -/
theorem findE_hit {cmp : AV → Tri} {R : Value → Bool → Prop} (hR : ∀ x a, V ρ μ x a → cmp x ≠ .u → ∃ r, (cmp x).fits (some r) ∧ R a r) : ∀ {es : List (AV × AV × Nat)} {ents : List MapEntry} {i j : Nat} {v : AV} {born : Nat},
    findE cmp es i = .hit j v born → EL ρ μ es ents → ∃ pre e post, ents = pre ++ e :: post ∧ j = i + pre.length ∧ (∀ e' ∈ pre, R e'.key false) ∧ R e.key true ∧ V ρ μ v e.val ∧ e.born = born
  | [], ents, i, j, v, born, e, hl => by cases e
  | (k0, v0, b0) :: es, ents, i, j, v, born, e, hl => by
    simp only [EL] at hl
    obtain ⟨x, r, rfl, q1, q2, q3, q4⟩ := hl
    have e : find3 (findE cmp es) (k0, v0, b0) i (cmp k0) = .hit j v born := e
    rcases find3_cases (by rw [e]; simp) with ⟨hc, hf⟩ | ⟨hc, hf⟩ <;> rw [hf] at e
    · cases e
      obtain ⟨r', fr, hr⟩ := hR k0 x.key q1 (by rw [hc]; simp)
      rw [hc] at fr
      have : r' = true := Option.some.inj fr
      subst this
      exact ⟨[], x, r, rfl, by simp, by simp, hr, q2, q3⟩
    · obtain ⟨r', fr, hr⟩ := hR k0 x.key q1 (by rw [hc]; simp)
      rw [hc] at fr
      have : r' = false := Option.some.inj fr
      subst this
      obtain ⟨pre, e0, post, rfl, hj, hp, ht, hv, hb⟩ := findE_hit hR e q4
      exact ⟨x :: pre, e0, post, rfl, by simp only [List.length_cons]; omega, fun e' he => by rcases List.mem_cons.1 he with rfl | he; exact hr; exact hp e' he, ht, hv, hb⟩
theorem findE_miss {cmp : AV → Tri} {R : Value → Bool → Prop} (hR : ∀ x a, V ρ μ x a → cmp x ≠ .u → ∃ r, (cmp x).fits (some r) ∧ R a r) : ∀ {es : List (AV × AV × Nat)} {ents : List MapEntry} {i : Nat},
    findE cmp es i = .miss → EL ρ μ es ents → ∀ e' ∈ ents, R e'.key false
  | [], ents, i, e, hl => by simp only [EL] at hl; subst hl; simp
  | (k0, v0, b0) :: es, ents, i, e, hl => by
    simp only [EL] at hl
    obtain ⟨x, r, rfl, q1, q2, q3, q4⟩ := hl
    have e : find3 (findE cmp es) (k0, v0, b0) i (cmp k0) = .miss := e
    rcases find3_cases (by rw [e]; simp) with ⟨hc, hf⟩ | ⟨hc, hf⟩ <;> rw [hf] at e
    · cases e
    · obtain ⟨r', fr, hr⟩ := hR k0 x.key q1 (by rw [hc]; simp)
      rw [hc] at fr
      have : r' = false := Option.some.inj fr
      subst this
      have := findE_miss hR e q4
      intro e' he
      rcases List.mem_cons.1 he with rfl | he
      · exact hr
      · exact this e' he
theorem findNow_pre {d : TypeDesc} {key : Value} : ∀ (pre : List MapEntry) (l : List MapEntry) (i : Nat), (∀ e ∈ pre, Instr.sameNow d key e.key = some false) → Instr.findNow d key (pre ++ l) i = Instr.findNow d key l (i + pre.length)
  | [], l, i, h => rfl
  | e :: pre, l, i, h => by
    simp only [List.cons_append, Instr.findNow, h e List.mem_cons_self]
    rw [findNow_pre pre l (i + 1) fun e he => h e (List.mem_cons_of_mem _ he)]
    simp only [List.length_cons]
    congr 1; omega
theorem findAsk_pre {kt : TypeId} {key : Value} : ∀ (pre : List MapEntry) (l : List MapEntry) (i : Nat), (∀ e ∈ pre, (Op.equal kt key e.key).run P w = .ok false w) → (Instr.findAsking kt key (pre ++ l) i).run P w = (Instr.findAsking kt key l (i + pre.length)).run P w
  | [], l, i, h => rfl
  | e :: pre, l, i, h => by
    simp only [List.cons_append, Instr.findAsking, Sem.run_bind, h e List.mem_cons_self, Result.andThen_ok]
    simp only [Bool.false_eq_true, if_false]
    rw [findAsk_pre pre l (i + 1) fun e he => h e (List.mem_cons_of_mem _ he)]
    simp only [List.length_cons]
    rw [show i + 1 + pre.length = i + (pre.length + 1) by omega]
/-- A type that keys have. -/
def keyT (P : Program) (kt : TypeId) : Prop := plainD (P.underlying kt) = true ∨ ∃ fs, P.underlying kt = some (.struct fs)
theorem okKey_kt {K : List TypeId} {kt : TypeId} {x : AV} (h : okKey K kt (P.underlying kt) x = true) : keyT P kt := by
  unfold okKey at h
  split at h
  · exact .inr ⟨_, by assumption⟩
  · refine .inl ?_
    unfold okP at h
    split at h <;> first | (rename_i h1; rw [h1]; rfl) | (cases h)
theorem run_findKey' {kt : TypeId} {d : TypeDesc} {k : Value} {l : List MapEntry} {a : Option (Nat × Value)} (hd : P.underlying kt = some d) (h : Instr.findNow d k l 0 = some a) : (Instr.findKey kt k l).run P w = .ok a w := by
  simp [Instr.findKey, run_underlying hd, Result.andThen, h]
theorem run_findKey_hit {kt : TypeId} (hk : keyT P kt) {key : Value} {pre post : List MapEntry} {e : MapEntry} (hp : ∀ e' ∈ pre, KeyR P kt key e'.key false) (he : KeyR P kt key e.key true) (w : World) :
    (Instr.findKey kt key (pre ++ e :: post)).run P w = .ok (some (pre.length, e.val)) w := by
  rcases hk with hp' | ⟨fs, hu⟩
  · cases hu : P.underlying kt with
    | none => rw [hu] at hp'; cases hp'
    | some d =>
      rw [hu] at hp'
      refine run_findKey' hu ?_
      rw [findNow_pre pre _ 0 fun e' h => (hp e' h).now d hu hp']
      simp [Instr.findNow, he.now d hu hp']
  · rw [run_findKey_eq w (by rw [hu])]
    rw [findAsk_pre pre _ 0 fun e' h => (hp e' h).run w]
    simp [Instr.findAsking, he.run w]
theorem run_findKey_miss {kt : TypeId} (hk : keyT P kt) {key : Value} {ents : List MapEntry} (hp : ∀ e' ∈ ents, KeyR P kt key e'.key false) (w : World) : (Instr.findKey kt key ents).run P w = .ok none w := by
  have e0 : ents = ents ++ [] := by simp
  rcases hk with hp' | ⟨fs, hu⟩
  · cases hu : P.underlying kt with
    | none => rw [hu] at hp'; cases hp'
    | some d =>
      rw [hu] at hp'
      refine run_findKey' hu ?_
      rw [e0, findNow_pre ents _ 0 fun e' h => (hp e' h).now d hu hp']
      simp [Instr.findNow]
  · rw [run_findKey_eq w (by rw [hu]), e0, findAsk_pre ents _ 0 fun e' h => (hp e' h).run w]
    simp [Instr.findAsking]
/-- Entries side by side. -/
theorem EL.length : ∀ {es : List (AV × AV × Nat)} {ents : List MapEntry}, EL ρ μ es ents → es.length = ents.length
  | [], _, e => by simp only [EL] at e; rw [e]; rfl
  | (k, v, n) :: l, _, e => by
    simp only [EL] at e
    obtain ⟨x, r, rfl, _, _, _, h⟩ := e
    simp only [List.length_cons, EL.length h]
def setE (x : AV × AV × Nat) (l : List (AV × AV × Nat)) (i : Nat) : List (AV × AV × Nat) := l.set i x
theorem EL.set {k v : AV} {born : Nat} {e' : MapEntry} (h1 : V ρ μ k e'.key) (h2 : V ρ μ v e'.val) (h3 : e'.born = born) : ∀ {es : List (AV × AV × Nat)} {pre : List MapEntry} {e : MapEntry} {post : List MapEntry},
    EL ρ μ es (pre ++ e :: post) → EL ρ μ (es.set pre.length (k, v, born)) (pre ++ e' :: post)
  | [], pre, e, post, hl => by simp only [EL] at hl; simp at hl
  | (k0, v0, b0) :: es, [], e, post, hl => by
    simp only [EL, List.nil_append] at hl
    obtain ⟨x, r, q0, q1, q2, q3, q4⟩ := hl
    cases q0
    simp only [List.length_nil, List.set_cons_zero, EL, List.nil_append]
    exact ⟨e', post, rfl, h1, h2, h3, q4⟩
  | (k0, v0, b0) :: es, x0 :: pre, e, post, hl => by
    simp only [EL, List.cons_append] at hl
    obtain ⟨x, r, q0, q1, q2, q3, q4⟩ := hl
    cases q0
    simp only [List.length_cons, List.set_cons_succ, EL, List.cons_append]
    exact ⟨x0, _, rfl, q1, q2, q3, EL.set h1 h2 h3 q4⟩
theorem EL.push {k v : AV} {born : Nat} {e' : MapEntry} (h1 : V ρ μ k e'.key) (h2 : V ρ μ v e'.val) (h3 : e'.born = born) : ∀ {es : List (AV × AV × Nat)} {ents : List MapEntry}, EL ρ μ es ents → EL ρ μ (es ++ [(k, v, born)]) (ents ++ [e'])
  | [], _, e => by
    simp only [EL] at e
    subst e
    simp only [List.nil_append, EL]
    exact ⟨e', [], rfl, h1, h2, h3, rfl⟩
  | (k0, v0, b0) :: es, _, e => by
    simp only [EL] at e
    obtain ⟨x, r, rfl, q1, q2, q3, q4⟩ := e
    simp only [List.cons_append, EL]
    exact ⟨x, _, rfl, q1, q2, q3, EL.push h1 h2 h3 q4⟩
theorem EL.erase : ∀ {es : List (AV × AV × Nat)} {pre : List MapEntry} {e : MapEntry} {post : List MapEntry}, EL ρ μ es (pre ++ e :: post) → EL ρ μ (es.eraseIdx pre.length) (pre ++ post)
  | [], pre, e, post, hl => by simp only [EL] at hl; simp at hl
  | (k0, v0, b0) :: es, [], e, post, hl => by
    simp only [EL, List.nil_append] at hl
    obtain ⟨x, r, q0, q1, q2, q3, q4⟩ := hl
    cases q0
    exact q4
  | (k0, v0, b0) :: es, x0 :: pre, e, post, hl => by
    simp only [EL, List.cons_append] at hl
    obtain ⟨x, r, q0, q1, q2, q3, q4⟩ := hl
    cases q0
    simp only [List.length_cons, List.eraseIdx_cons_succ, EL, List.cons_append]
    exact ⟨x0, _, rfl, q1, q2, q3, EL.erase q4⟩
def onMapO {α : Type} (k : List (AV × AV × Nat) → Nat → Res α) (o : AObj) : Res α := AObj.rec (motive := fun _ => Res α) (.er "no map") (fun _ _ _ => .er "cells") k o
theorem onMapO_ok {α : Type} {k : List (AV × AV × Nat) → Nat → Res α} {o : AObj} {v : α} (e : onMapO k o = .ok v h) : ∃ es c, o = .map es c ∧ k es c = .ok v h := by
  cases o with
  | none => cases e
  | cells sz n c => cases e
  | map es c => exact ⟨es, c, rfl, e⟩
theorem modify_mid {α : Type} (pre post : List α) (e : α) (f : α → α) (arr : Array α) (h : arr.toList = pre ++ e :: post) : (arr.modify pre.length f).toList = pre ++ f e :: post := by
  rw [Array.toList_modify, h]
  clear h
  induction pre with
  | nil => simp
  | cons a pre ih => simp [ih]
theorem getElem_mid {α : Type} (pre post : List α) (e : α) (arr : Array α) (h : arr.toList = pre ++ e :: post) : arr[pre.length]? = some e := by
  rw [← Array.getElem?_toList, h]; simp
end
end Go.Ax
end
/- Operations on maps. -/
noncomputable section
set_option linter.unusedVariables false
set_option linter.unusedSimpArgs false
namespace Go.Ax
structure MapI where
  k : TypeId
  e : TypeId
def mapD (d : Option TypeDesc) : Option MapI := match d with | some (.map k e) => some ⟨k, e⟩ | _ => none
def mapO (P : Program) (t : TypeId) : Option MapI := mapD (P.underlying t)
def zeroAO (z : Option Value) : Option AV := Option.rec (motive := fun _ => Option AV) none (fun v => some (avOf v)) z
def zeroAV (P : Program) (t : TypeId) : Option AV := zeroAO (infoZ (P.info? t))
/-- The search for a key. -/
def searchA (P : Program) (rng : Rng) (K : List TypeId) (kt : TypeId) (k : AV) (es : List (AV × AV × Nat)) : FR :=
  Bool.rec .er (findE (keyD P rng (P.underlying kt) k) es 0) (and (okKey K kt (P.underlying kt) k) (allK (okKey K kt (P.underlying kt)) es))
def lookR (v : AV) (found ok : Bool) : AV := Bool.rec v (.tup [v, .bool found]) ok
def lookF (P : Program) (e : TypeId) (ok : Bool) (h : AH) (r : FR) : Res AV := match r with
  | .hit _ v _ => .ok (lookR v true ok) h
  | .miss => onSome (fun z => .ok (lookR z false ok) h) (zeroAV P e)
  | .er => .er "key"
def lookupA (P : Program) (rng : Rng) (K : List TypeId) (t : TypeId) (m k : AV) (ok : Bool) (h : AH) : Res AV := match m with
  | .nilm => onSome (fun q => lookF P q.e ok h (searchA P rng K q.k k [])) (mapO P t)
  | .map b => onSome (fun q => onMapO (fun es c => lookF P q.e ok (touch b h) (searchA P rng K q.k k es)) (PT.get .none b h.t)) (mapO P t)
  | _ => .er "lookup"
def updF (b : Pos) (k v : AV) (es : List (AV × AV × Nat)) (c : Nat) (h : AH) (r : FR) : Res AV := match r with
  | .hit i _ born => .ok .gone (setObj b (.map (es.set i (k, v, born)) c) (touch b h))
  | .miss => .ok .gone (setObj b (.map (es ++ [(k, v, c)]) (c + 1)) (touch b h))
  | .er => .er "key"
def updA (P : Program) (rng : Rng) (K : List TypeId) (t : TypeId) (m k v : AV) (h : AH) : Res AV := match m with
  | .map b => onSome (fun q => onMapO (fun es c => updF b k v es c h (searchA P rng K q.k k es)) (PT.get .none b h.t)) (mapO P t)
  | _ => .er "update"
def i64A (n : Nat) : AV := .int .i64 (Int.ofNat n)
def entF (P : Program) (e : TypeId) (b : Pos) (k : AV) (es : List (AV × AV × Nat)) (c : Nat) (h : AH) (r : FR) : Res AV := match r with
  | .hit i v born => .ok (.tup [v, i64A born]) (setObj b (.map (es.set i (k, v, born)) c) (touch b h))
  | .miss => onSome (fun z => .ok (.tup [z, i64A c]) (setObj b (.map (es ++ [(k, z, c)]) (c + 1)) (touch b h))) (zeroAV P e)
  | .er => .er "key"
def entryA (P : Program) (rng : Rng) (K : List TypeId) (t : TypeId) (m k : AV) (h : AH) : Res AV := match m with
  | .map b => onSome (fun q => onMapO (fun es c => entF P q.e b k es c h (searchA P rng K q.k k es)) (PT.get .none b h.t)) (mapO P t)
  | _ => .er "entry"
def delF (b : Pos) (es : List (AV × AV × Nat)) (c : Nat) (h : AH) (r : FR) : Res AV := match r with
  | .hit i _ _ => .ok (.tup []) (setObj b (.map (es.eraseIdx i) c) (touch b h))
  | .miss => .ok (.tup []) (setObj b (.map es c) (touch b h))
  | .er => .er "key"
def deleteA (P : Program) (rng : Rng) (K : List TypeId) (t : TypeId) (m k : AV) (h : AH) : Res AV := match m with
  | .map b => onSome (fun q => onMapO (fun es c => delF b es c h (searchA P rng K q.k k es)) (PT.get .none b h.t)) (mapO P t)
  | _ => .er "delete"
def stamp3 (v : AV) (e : AV × AV × Nat) (r : Option (List (AV × AV × Nat))) (rest : List (AV × AV × Nat)) (b : Bool) : Option (List (AV × AV × Nat)) := Bool.rec (optB (fun l => some (e :: l)) r) (some ((e.1, v, e.2.2) :: rest)) b
/-- The entry of a stamp gets its value. -/
def stampE (n : Nat) (v : AV) (es : List (AV × AV × Nat)) : Option (List (AV × AV × Nat)) := List.rec (motive := fun _ => Option (List (AV × AV × Nat))) none (fun e rest ih => stamp3 v e ih rest (Nat.beq e.2.2 n)) es
def entryStoreA (m s x : AV) (h : AH) : Res AV := match m with
  | .map b => onSome (fun n => onMapO (fun es c => onSome (fun es => .ok .gone (setObj b (.map es c) (touch b h))) (stampE n x es)) (PT.get .none b h.t)) (natO s)
  | _ => .er "entryStore"
section
variable {C : Ctx} {ρ : Nat → Int} {μ μ' : Mu} {P : Program} {w w' : World} {h h' : AH} {rng : Rng} {K : List TypeId}
theorem mapO_ok {t : TypeId} {q : MapI} (e : mapO P t = some q) : P.underlying t = some (.map q.k q.e) := by
  unfold mapO mapD at e
  split at e <;> cases e
  assumption
theorem zeroAV_ok {t : TypeId} {v : AV} (e : zeroAV P t = some v) : ∃ z, (∀ w : World, (zeroValue t).run P w = .ok z w) ∧ V ρ μ v z := by
  unfold zeroAV at e
  cases hi : P.info? t with
  | none => rw [hi] at e; cases e
  | some i =>
    rw [hi] at e
    cases hz : i.zero with
    | none => simp [infoZ, hz, zeroAO] at e
    | some z =>
      have e : some (avOf z) = some v := by simpa [infoZ, hz, zeroAO] using e
      cases e
      exact ⟨z, fun w => by simp [zeroValue, typeInfo, hi, hz], avOf_V z⟩
theorem allK_ok {f : AV → Bool} : ∀ {es : List (AV × AV × Nat)}, allK f es = true → ∀ e ∈ es, f e.1 = true
  | [], _, e, he => by simp at he
  | e0 :: es, hf, e, he => by
    have hf : and (f e0.1) (allK f es) = true := hf
    obtain ⟨g1, g2⟩ := and_ok hf
    rcases List.mem_cons.1 he with rfl | he
    · exact g1
    · exact allK_ok g2 e he
/-- The search, as the run has it. -/
theorem searchA_ok (hr : Ranges ρ rng) (hK : FlatK P K) {kt : TypeId} {k : AV} {key : Value} {es : List (AV × AV × Nat)} {ents : List MapEntry} (hne : searchA P rng K kt k es ≠ .er) (hk : V ρ μ k key) (hl : EL ρ μ es ents) :
    (∀ (em : Bool) (w : World), (Instr.checkKey em 10000 kt key).run P w = .ok () w) ∧ keyT P kt ∧
    ((∃ (v : AV) (born : Nat) (pre : List MapEntry) (e : MapEntry) (post : List MapEntry), searchA P rng K kt k es = .hit pre.length v born ∧ ents = pre ++ e :: post ∧ (∀ e' ∈ pre, KeyR P kt key e'.key false) ∧ KeyR P kt key e.key true ∧ V ρ μ v e.val ∧ e.born = born) ∨
     (searchA P rng K kt k es = .miss ∧ ∀ e' ∈ ents, KeyR P kt key e'.key false)) := by
  unfold searchA at hne ⊢
  cases hb : and (okKey K kt (P.underlying kt) k) (allK (okKey K kt (P.underlying kt)) es) with
  | false => rw [hb] at hne; exact absurd rfl hne
  | true =>
    rw [hb] at hne
    obtain ⟨g1, g2⟩ := and_ok hb
    refine ⟨fun em w => okKey_ok hK g1 hk em w, okKey_kt g1, ?_⟩
    have hall := allK_ok g2
    show (∃ (v : AV) (born : Nat) (pre : List MapEntry) (e : MapEntry) (post : List MapEntry), findE (keyD P rng (P.underlying kt) k) es 0 = .hit pre.length v born ∧ _) ∨ (findE (keyD P rng (P.underlying kt) k) es 0 = .miss ∧ _)
    have hne : findE (keyD P rng (P.underlying kt) k) es 0 ≠ .er := hne
    -- the comparison, with the form of the entry's key at hand
    have hR : ∀ x a, V ρ μ x a → (Bool.rec Tri.u (keyD P rng (P.underlying kt) k x) (okKey K kt (P.underlying kt) x) : Tri) ≠ .u → ∃ r, (Bool.rec Tri.u (keyD P rng (P.underlying kt) k x) (okKey K kt (P.underlying kt) x) : Tri).fits (some r) ∧ KeyR P kt key a r := by
      intro x a hx hc
      cases ho : okKey K kt (P.underlying kt) x with
      | false => rw [ho] at hc; exact absurd rfl hc
      | true =>
        rw [ho] at hc
        exact keyD_ok hr hK g1 ho hc hk hx
    have same : ∀ {es : List (AV × AV × Nat)} (i : Nat), (∀ e ∈ es, okKey K kt (P.underlying kt) e.1 = true) → findE (fun x => (Bool.rec Tri.u (keyD P rng (P.underlying kt) k x) (okKey K kt (P.underlying kt) x) : Tri)) es i = findE (keyD P rng (P.underlying kt) k) es i := by
      intro es
      induction es with
      | nil => intro i _; rfl
      | cons e es ih =>
        intro i hall
        show find3 _ e i (Bool.rec Tri.u (keyD P rng (P.underlying kt) k e.1) (okKey K kt (P.underlying kt) e.1) : Tri) = find3 _ e i (keyD P rng (P.underlying kt) k e.1)
        rw [hall e List.mem_cons_self]
        show find3 _ e i (keyD P rng (P.underlying kt) k e.1) = _
        cases keyD P rng (P.underlying kt) k e.1 with
        | t => rfl
        | f => exact ih _ fun e' he => hall e' (List.mem_cons_of_mem _ he)
        | u => rfl
    have hsame := same (es := es) 0 hall
    cases hf : findE (keyD P rng (P.underlying kt) k) es 0 with
    | hit j v born =>
      rw [hf] at hsame
      obtain ⟨pre, e, post, h1, h2, h3, h4, h5, h6⟩ := findE_hit (R := KeyR P kt key) hR hsame hl
      rw [Nat.zero_add] at h2
      subst h2
      exact .inl ⟨v, born, pre, e, post, rfl, h1, h3, h4, h5, h6⟩
    | miss =>
      rw [hf] at hsame
      exact .inr ⟨rfl, findE_miss (R := KeyR P kt key) hR hsame hl⟩
    | er => exact absurd hf hne
theorem V.i64 (n : Nat) : V ρ μ (i64A n) (goInt n) := by simp [i64A, V, goInt]
theorem lookR_V {v : AV} {a : Value} (found ok : Bool) (hv : V ρ μ v a) : V ρ μ (lookR v found ok) (if ok then .tuple #[a, .bool found] else a) := by
  cases ok with
  | true => 
    show V ρ μ (.tup [v, .bool found]) (.tuple #[a, .bool found])
    simp [V, VL, hv]
  | false => exact hv
theorem lookF_ok {e : TypeId} {ok : Bool} {r : FR} {v : AV} (E : lookF P e ok h r = .ok v h') : h' = h ∧ r ≠ .er := by
  unfold lookF at E
  split at E
  · cases E; exact ⟨rfl, by simp⟩
  · have hs := onSome_ok E; clear E; obtain ⟨z, hz, E⟩ := hs
    cases E; exact ⟨rfl, by simp⟩
  · cases E
/-- What a map's name stands for. -/
theorem map_of {b : Pos} {es : List (AV × AV × Nat)} {c : Nat} (s : St C ρ μ h w) (hA : C.A b) (hl : look h b = .map es c) : ∃ p ents, μ b = some p ∧ w.heap[p.blk]? = some (.map ents c) ∧ EL ρ μ es ents.toList := by
  obtain ⟨p, hp, hh⟩ := s.obj hA (by rw [hl]; simp)
  rw [hl] at hh
  obtain ⟨ents, h1, h2⟩ := hh
  exact ⟨p, ents, hp, h1, h2⟩
theorem setMap_ok {b : Pos} {p : Place} {es es' : List (AV × AV × Nat)} {c c' : Nat} {ents ents' : Array MapEntry} (s : St C ρ μ h w) (hA : C.A b) (hl : look h b = .map es c) (hp : μ b = some p) (hb : w.heap[p.blk]? = some (.map ents c)) (he : EL ρ μ es' ents'.toList) :
    St C ρ μ (setObj b (.map es' c') (touch b h)) { w with heap := w.heap.setIfInBounds p.blk (.map ents' c') } := by
  refine St.set (p := p) (s.touch) hA (by rw [touch_look, hl]; simp) hp (fun k hk hlt => ?_) ⟨ents', ?_, he⟩
  · show (w.heap.setIfInBounds p.blk _)[k]? = _
    simp [Ne.symm hk]
  · show (w.heap.setIfInBounds p.blk _)[p.blk]? = _
    have hlt : p.blk < w.heap.size := (Array.getElem?_eq_some_iff.1 hb).1
    simp [hlt]
theorem lookupA_ok (hr : Ranges ρ rng) (hK : FlatK P K) {t : TypeId} {m k v : AV} {ok : Bool} {a key : Value} (E : lookupA P rng K t m k ok h = .ok v h') : Grow h h' ∧ (C.covers h' → St C ρ μ h w → V ρ μ m a → V ρ μ k key →
    ∃ r, (Instr.lookup t a key ok).run P w = .ok r w ∧ Out C ρ μ h h' (fun μ' => V ρ μ' v r) w) := by
  -- the answer of a search
  have key_ : ∀ {q : MapI} {es : List (AV × AV × Nat)} {ents : Array MapEntry} {h1 : AH}, mapO P t = some q → lookF P q.e ok h1 (searchA P rng K q.k k es) = .ok v h' → V ρ μ k key → EL ρ μ es ents.toList →
      ∃ y found, (∀ em : Bool, (Instr.checkKey em 10000 q.k key).run P w = .ok () w) ∧ (∃ f, (Instr.findKey q.k key ents.toList).run P w = .ok f w ∧ ((∃ i, f = some (i, y) ∧ found = true) ∨ (f = none ∧ found = false ∧ (zeroValue q.e).run P w = .ok y w))) ∧ V ρ μ v (if ok then .tuple #[y, .bool found] else y) := by
    intro q es ents h1 hq E hk hl
    obtain ⟨_, hne⟩ := lookF_ok E
    obtain ⟨hc, hkt, hcase⟩ := searchA_ok hr hK hne hk hl
    rcases hcase with ⟨v0, born, pre, e, post, hs, hents, hp, he, hv, hb⟩ | ⟨hs, hp⟩
    · rw [hs] at E
      cases E
      exact ⟨e.val, true, fun em => hc em w, ⟨_, by rw [hents]; exact run_findKey_hit hkt hp he w, .inl ⟨_, rfl, rfl⟩⟩, lookR_V true ok hv⟩
    · rw [hs] at E
      have hs := onSome_ok E; clear E; obtain ⟨z, hz, E⟩ := hs
      cases E
      obtain ⟨y, hy, hv⟩ := zeroAV_ok (ρ := ρ) (μ := μ) hz
      exact ⟨y, false, fun em => hc em w, ⟨none, run_findKey_miss hkt hp w, .inr ⟨rfl, rfl, hy w⟩⟩, lookR_V false ok hv⟩
  unfold lookupA at E
  split at E
  · have hs := onSome_ok E; clear E; obtain ⟨q, hq, E⟩ := hs
    obtain ⟨rfl, _⟩ := lookF_ok E
    refine ⟨Grow.refl _, fun cov s ha hk => ?_⟩
    simp only [V] at ha
    subst ha
    obtain ⟨y, found, hc, ⟨f, hf, hcase⟩, hv⟩ := key_ (ents := #[]) hq E hk rfl
    have hu := mapO_ok hq
    refine ⟨_, ?_, Out.refl s hv⟩
    have hf : (Instr.findKey q.k key []).run P w = .ok f w := hf
    rcases hcase with ⟨i, rfl, rfl⟩ | ⟨rfl, rfl, hz⟩
    · cases ok <;> simp [Instr.lookup, Sem.run_bind, run_underlying hu, hc, hf]
    · cases ok <;> simp [Instr.lookup, Sem.run_bind, run_underlying hu, hc, hf, hz]
  · rename_i b
    have hs := onSome_ok E; clear E; obtain ⟨q, hq, E⟩ := hs
    have hs := onMapO_ok E; clear E; obtain ⟨es, c, ho, E⟩ := hs
    obtain ⟨rfl, _⟩ := lookF_ok E
    refine ⟨touch_grow _ _, fun cov s ha hk => ?_⟩
    simp only [V] at ha
    obtain ⟨p, hp, rfl⟩ := ha
    obtain ⟨p', ents, hp', hb, hl⟩ := map_of s (cov.acc b (touch_mem b h)) ho
    rw [hp] at hp'; cases hp'
    obtain ⟨y, found, hc, ⟨f, hf, hcase⟩, hv⟩ := key_ hq E hk hl
    have hu := mapO_ok hq
    have hg : (getObj p.blk).run P w = .ok (.map ents c) w := run_getObj_map w _ _ _ hb
    refine ⟨_, ?_, Out.touch s hv⟩
    rcases hcase with ⟨i, rfl, rfl⟩ | ⟨rfl, rfl, hz⟩
    · cases ok <;> simp [Instr.lookup, Sem.run_bind, run_underlying hu, hg, hc, hf]
    · cases ok <;> simp [Instr.lookup, Sem.run_bind, run_underlying hu, hg, hc, hf, hz]
  · cases E
end
end Go.Ax
end
/- Operations that change maps. -/
noncomputable section
set_option linter.unusedVariables false
set_option linter.unusedSimpArgs false
namespace Go.Ax
section
variable {C : Ctx} {ρ : Nat → Int} {μ μ' : Mu} {P : Program} {w w' : World} {h h' : AH} {rng : Rng} {K : List TypeId}
theorem V.pair {a b : AV} {x y : Value} (h1 : V ρ μ a x) (h2 : V ρ μ b y) : V ρ μ (.tup [a, b]) (.tuple #[x, y]) := by
  simp only [V]
  refine ⟨_, rfl, ?_⟩
  simp only [VL]
  exact ⟨x, [y], rfl, h1, y, [], rfl, h2, rfl⟩
theorem keyThatStays_same {v : Value} (hs : Instr.sameBits 10000 v v = true) : (Instr.keyThatStays v v).run P w = .ok v w := by
  simp [Instr.keyThatStays, hs]
/-- Keys that are alike in every bit. -/
theorem okKey_bits {kt : TypeId} {x : AV} {v : Value} (h : okKey K kt (P.underlying kt) x = true) (hx : V ρ μ x v) : Instr.sameBits 10000 v v = true := by
  unfold okKey at h
  split at h
  · unfold okS at h
    split at h
    · simp only [V] at hx
      obtain ⟨cs, rfl, vl, _⟩ := hx
      obtain ⟨_, g2⟩ := and_ok h
      obtain ⟨_, g3⟩ := and_ok g2
      have hp := allP_ok g3 vl
      show Instr.sameBits (9999 + 1) (.agg cs) (.agg cs) = true
      simp only [Instr.sameBits, beq_self_eq_true, Bool.true_and]
      have : ∀ l : List Value, (∀ y ∈ l, plainC y) → ((l.zip l).all fun (x, y) => Instr.sameBits 9999 x y) = true := by
        intro l
        induction l with
        | nil => intro _; rfl
        | cons a l ih =>
          intro hl
          simp only [List.zip_cons_cons, List.all_cons, sameBits_plain (hl a List.mem_cons_self), Bool.true_and]
          exact ih fun y hy => hl y (List.mem_cons_of_mem _ hy)
      exact this cs.toList hp
    · cases h
  · have hp : isPl x = true := by
      unfold okP at h
      split at h <;> first | rfl | (cases h)
    exact sameBits_plain (isPl_ok hp hx) _
theorem searchA_bits {kt : TypeId} {k : AV} {key : Value} {es : List (AV × AV × Nat)} (hne : searchA P rng K kt k es ≠ .er) (hk : V ρ μ k key) : Instr.sameBits 10000 key key = true := by
  unfold searchA at hne
  cases hb : and (okKey K kt (P.underlying kt) k) (allK (okKey K kt (P.underlying kt)) es) with
  | false => rw [hb] at hne; exact absurd rfl hne
  | true => exact okKey_bits (and_ok hb).1 hk
theorem mapGrow {b : Pos} {o : AObj} : Grow h (setObj b o (touch b h)) := (touch_grow b h).trans (set_grow (touch_mem b h))
theorem mapAcc {b : Pos} {o : AObj} (cov : C.covers (setObj b o (touch b h))) : C.A b := cov.acc b (by rw [set_acc]; exact touch_mem b h)
theorem updA_ok (hr : Ranges ρ rng) (hK : FlatK P K) {t : TypeId} {m k x v : AV} {a key u : Value} (E : updA P rng K t m k x h = .ok v h') : Grow h h' ∧ (C.covers h' → St C ρ μ h w → V ρ μ m a → V ρ μ k key → V ρ μ x u →
    ∃ w', (Instr.mapUpdate t a key u).run P w = .ok () w' ∧ Out C ρ μ h h' (fun μ' => V ρ μ' v Go.undef) w') := by
  unfold updA at E
  split at E
  · rename_i b
    have hs := onSome_ok E; clear E; obtain ⟨q, hq, E⟩ := hs
    have hs := onMapO_ok E; clear E; obtain ⟨es, c, ho, E⟩ := hs
    have hu := mapO_ok hq
    have hne : searchA P rng K q.k k es ≠ .er := fun e => by rw [e] at E; cases E
    cases hsr : searchA P rng K q.k k es with
    | er => exact absurd hsr hne
    | hit i v0 born =>
      rw [hsr] at E
      cases E
      refine ⟨mapGrow, fun cov s ha hk hx => ?_⟩
      simp only [V] at ha
      obtain ⟨p, hp, rfl⟩ := ha
      obtain ⟨p', ents, hp', hb, hl⟩ := map_of s (mapAcc cov) ho
      rw [hp] at hp'; cases hp'
      obtain ⟨hc, hkt, hcase⟩ := searchA_ok hr hK hne hk hl
      rcases hcase with ⟨v1, born1, pre, e, post, hs, hents, hpre, he, hv, hborn⟩ | ⟨hs, _⟩
      · rw [hsr] at hs; cases hs
        have hg : (getObj p.blk).run P w = .ok (.map ents c) w := run_getObj_map w _ _ _ hb
        have hf : (Instr.findKey q.k key ents.toList).run P w = .ok (some (pre.length, e.val)) w := by rw [hents]; exact run_findKey_hit hkt hpre he w
        have hmid := getElem_mid pre post e ents hents
        have hkey : e.key = key := he.same rfl
        have hst : (Instr.keyThatStays key key).run P w = .ok key w := keyThatStays_same (searchA_bits hne hk)
        have hset : (Go.setObj p.blk (Obj.map (ents.modify pre.length fun e => { e with key := key, val := u }) c)).run P w = .ok () _ := MapKept.run_setObj_map _ hb
        refine ⟨_, ?_, μ, μ.le_refl, fun _ k => .inl k, by simp only [V], setMap_ok (ents' := ents.modify pre.length fun e => { e with key := key, val := u }) s (mapAcc cov) ho hp hb ?_⟩
        · simp [Instr.mapUpdate, Sem.run_bind, run_underlying hu, hg, hc, hf, hmid, hkey, hst, hset]
        · rw [modify_mid pre post e _ ents hents]
          rw [hents] at hl
          exact EL.set (e' := { e with key := key, val := u }) hk hx hborn hl
      · rw [hsr] at hs; cases hs
    | miss =>
      rw [hsr] at E
      cases E
      refine ⟨mapGrow, fun cov s ha hk hx => ?_⟩
      simp only [V] at ha
      obtain ⟨p, hp, rfl⟩ := ha
      obtain ⟨p', ents, hp', hb, hl⟩ := map_of s (mapAcc cov) ho
      rw [hp] at hp'; cases hp'
      obtain ⟨hc, hkt, hcase⟩ := searchA_ok hr hK hne hk hl
      rcases hcase with ⟨v1, born1, pre, e, post, hs, _⟩ | ⟨hs, hpre⟩
      · rw [hsr] at hs; cases hs
      · have hg : (getObj p.blk).run P w = .ok (.map ents c) w := run_getObj_map w _ _ _ hb
        have hf : (Instr.findKey q.k key ents.toList).run P w = .ok none w := run_findKey_miss hkt hpre w
        have hset : (Go.setObj p.blk (Obj.map (ents.push { key, val := u, born := c }) (c + 1))).run P w = .ok () _ := MapKept.run_setObj_map _ hb
        refine ⟨_, ?_, μ, μ.le_refl, fun _ k => .inl k, by simp only [V], setMap_ok (ents' := ents.push { key, val := u, born := c }) s (mapAcc cov) ho hp hb ?_⟩
        · simp [Instr.mapUpdate, Sem.run_bind, run_underlying hu, hg, hc, hf, hset]
        · rw [Array.toList_push]
          exact EL.push (e' := { key, val := u, born := c }) hk hx rfl hl
  · cases E
theorem entryA_ok (hr : Ranges ρ rng) (hK : FlatK P K) {t : TypeId} {m k v : AV} {a key : Value} (E : entryA P rng K t m k h = .ok v h') : Grow h h' ∧ (C.covers h' → St C ρ μ h w → V ρ μ m a → V ρ μ k key →
    ∃ r w', (Instr.mapEntry t a key).run P w = .ok r w' ∧ Out C ρ μ h h' (fun μ' => V ρ μ' v r) w') := by
  unfold entryA at E
  split at E
  · rename_i b
    have hs := onSome_ok E; clear E; obtain ⟨q, hq, E⟩ := hs
    have hs := onMapO_ok E; clear E; obtain ⟨es, c, ho, E⟩ := hs
    have hu := mapO_ok hq
    have hne : searchA P rng K q.k k es ≠ .er := fun e => by rw [e] at E; cases E
    cases hsr : searchA P rng K q.k k es with
    | er => exact absurd hsr hne
    | hit i v0 born =>
      rw [hsr] at E
      cases E
      refine ⟨mapGrow, fun cov s ha hk => ?_⟩
      simp only [V] at ha
      obtain ⟨p, hp, rfl⟩ := ha
      obtain ⟨p', ents, hp', hb, hl⟩ := map_of s (mapAcc cov) ho
      rw [hp] at hp'; cases hp'
      obtain ⟨hc, hkt, hcase⟩ := searchA_ok hr hK hne hk hl
      rcases hcase with ⟨v1, born1, pre, e, post, hs, hents, hpre, he, hv, hborn⟩ | ⟨hs, _⟩
      · rw [hsr] at hs; cases hs
        have hg : (getObj p.blk).run P w = .ok (.map ents c) w := run_getObj_map w _ _ _ hb
        have hf : (Instr.findKey q.k key ents.toList).run P w = .ok (some (pre.length, e.val)) w := by rw [hents]; exact run_findKey_hit hkt hpre he w
        have hmid := getElem_mid pre post e ents hents
        have hkey : e.key = key := he.same rfl
        have hst : (Instr.keyThatStays key key).run P w = .ok key w := keyThatStays_same (searchA_bits hne hk)
        have hset : (Go.setObj p.blk (Obj.map (ents.modify pre.length fun e => { e with key := key }) c)).run P w = .ok () _ := MapKept.run_setObj_map _ hb
        refine ⟨.tuple #[e.val, goInt e.born], _, ?_, μ, μ.le_refl, fun _ k => .inl k, ?_, setMap_ok (ents' := ents.modify pre.length fun e => { e with key := key }) s (mapAcc cov) ho hp hb ?_⟩
        · simp [Instr.mapEntry, Sem.run_bind, run_underlying hu, hg, hc, hf, hmid, hkey, hst, hset]
        · subst hborn
          exact V.pair hv (V.i64 e.born)
        · rw [modify_mid pre post e _ ents hents]
          rw [hents] at hl
          exact EL.set (e' := { e with key := key }) hk hv hborn hl
      · rw [hsr] at hs; cases hs
    | miss =>
      rw [hsr] at E
      have hs := onSome_ok E; clear E; obtain ⟨z, hz, E⟩ := hs
      cases E
      refine ⟨mapGrow, fun cov s ha hk => ?_⟩
      simp only [V] at ha
      obtain ⟨p, hp, rfl⟩ := ha
      obtain ⟨p', ents, hp', hb, hl⟩ := map_of s (mapAcc cov) ho
      rw [hp] at hp'; cases hp'
      obtain ⟨hc, hkt, hcase⟩ := searchA_ok hr hK hne hk hl
      obtain ⟨y, hy, hv⟩ := zeroAV_ok (ρ := ρ) (μ := μ) hz
      rcases hcase with ⟨v1, born1, pre, e, post, hs, _⟩ | ⟨hs, hpre⟩
      · rw [hsr] at hs; cases hs
      · have hg : (getObj p.blk).run P w = .ok (.map ents c) w := run_getObj_map w _ _ _ hb
        have hf : (Instr.findKey q.k key ents.toList).run P w = .ok none w := run_findKey_miss hkt hpre w
        have hset : (Go.setObj p.blk (Obj.map (ents.push { key, val := y, born := c }) (c + 1))).run P w = .ok () _ := MapKept.run_setObj_map _ hb
        refine ⟨.tuple #[y, goInt c], _, ?_, μ, μ.le_refl, fun _ k => .inl k, ?_, setMap_ok (ents' := ents.push { key, val := y, born := c }) s (mapAcc cov) ho hp hb ?_⟩
        · simp [Instr.mapEntry, Sem.run_bind, run_underlying hu, hg, hc, hf, hy w, hset]
        · exact V.pair hv (V.i64 c)
        · rw [Array.toList_push]
          exact EL.push (e' := { key, val := y, born := c }) hk hv rfl hl
  · cases E
theorem deleteA_ok (hr : Ranges ρ rng) (hK : FlatK P K) {t : TypeId} {m k v : AV} {a key : Value} {ts : Array TypeId} {ty : TypeId} (ht : ts[0]? = some t) (E : deleteA P rng K t m k h = .ok v h') : Grow h h' ∧ (C.covers h' → St C ρ μ h w → V ρ μ m a → V ρ μ k key →
    ∃ r w', (Builtin.delete_ ts ty #[a, key]).run P w = .ok r w' ∧ Out C ρ μ h h' (fun μ' => V ρ μ' v r) w') := by
  unfold deleteA at E
  split at E
  · rename_i b
    have hs := onSome_ok E; clear E; obtain ⟨q, hq, E⟩ := hs
    have hs := onMapO_ok E; clear E; obtain ⟨es, c, ho, E⟩ := hs
    have hu := mapO_ok hq
    have hne : searchA P rng K q.k k es ≠ .er := fun e => by rw [e] at E; cases E
    cases hsr : searchA P rng K q.k k es with
    | er => exact absurd hsr hne
    | hit i v0 born =>
      rw [hsr] at E
      cases E
      refine ⟨mapGrow, fun cov s ha hk => ?_⟩
      simp only [V] at ha
      obtain ⟨p, hp, rfl⟩ := ha
      obtain ⟨p', ents, hp', hb, hl⟩ := map_of s (mapAcc cov) ho
      rw [hp] at hp'; cases hp'
      obtain ⟨hc, hkt, hcase⟩ := searchA_ok hr hK hne hk hl
      rcases hcase with ⟨v1, born1, pre, e, post, hs, hents, hpre, he, hv, hborn⟩ | ⟨hs, _⟩
      · rw [hsr] at hs; cases hs
        have hg : (getObj p.blk).run P w = .ok (.map ents c) w := run_getObj_map w _ _ _ hb
        have hf : (Instr.findKey q.k key ents.toList).run P w = .ok (some (pre.length, e.val)) w := by rw [hents]; exact run_findKey_hit hkt hpre he w
        have hset : (Go.setObj p.blk (Obj.map (ents.eraseIdxIfInBounds pre.length) c)).run P w = .ok () _ := MapKept.run_setObj_map _ hb
        refine ⟨.tuple #[], _, ?_, μ, μ.le_refl, fun _ k => .inl k, ?_, setMap_ok (ents' := ents.eraseIdxIfInBounds pre.length) s (mapAcc cov) ho hp hb ?_⟩
        · simp [Builtin.delete_, Sem.run_bind, ht, run_underlying hu, hg, hc, hf, hset]
        · simp [V, VL]
        · have hlt : pre.length < ents.size := by
            have := congrArg List.length hents
            simp at this; omega
          have : (ents.eraseIdxIfInBounds pre.length).toList = pre ++ post := by
            rw [Array.toList_eraseIdxIfInBounds, hents]
            simp [List.eraseIdx_append_of_length_le]
          rw [this]
          rw [hents] at hl
          exact EL.erase hl
      · rw [hsr] at hs; cases hs
    | miss =>
      rw [hsr] at E
      cases E
      refine ⟨mapGrow, fun cov s ha hk => ?_⟩
      simp only [V] at ha
      obtain ⟨p, hp, rfl⟩ := ha
      obtain ⟨p', ents, hp', hb, hl⟩ := map_of s (mapAcc cov) ho
      rw [hp] at hp'; cases hp'
      obtain ⟨hc, hkt, hcase⟩ := searchA_ok hr hK hne hk hl
      rcases hcase with ⟨v1, born1, pre, e, post, hs, _⟩ | ⟨hs, hpre⟩
      · rw [hsr] at hs; cases hs
      · have hg : (getObj p.blk).run P w = .ok (.map ents c) w := run_getObj_map w _ _ _ hb
        have hf : (Instr.findKey q.k key ents.toList).run P w = .ok none w := run_findKey_miss hkt hpre w
        have hset : (Go.setObj p.blk (Obj.map ents c)).run P w = .ok () _ := MapKept.run_setObj_map _ hb
        refine ⟨.tuple #[], _, ?_, μ, μ.le_refl, fun _ k => .inl k, ?_, setMap_ok (ents' := ents) s (mapAcc cov) ho hp hb hl⟩
        · simp [Builtin.delete_, Sem.run_bind, ht, run_underlying hu, hg, hc, hf, hset]
        · simp [V, VL]
  · cases E
theorem stampE_ok {n : Nat} {x : AV} {u : Value} (hx : V ρ μ x u) : ∀ {es es' : List (AV × AV × Nat)} {ents : List MapEntry}, stampE n x es = some es' → EL ρ μ es ents →
    ∃ i, ents.findIdx? (fun e => (e.born : Int) == (n : Int)) = some i ∧ EL ρ μ es' (ents.modify i fun e => { e with val := u })
  | [], es', ents, e, hl => by cases e
  | (k0, v0, b0) :: es, es', ents, e, hl => by
    simp only [EL] at hl
    obtain ⟨y, r, rfl, q1, q2, q3, q4⟩ := hl
    have e : stamp3 x (k0, v0, b0) (stampE n x es) es (Nat.beq b0 n) = some es' := e
    cases hb : Nat.beq b0 n with
    | true =>
      rw [hb] at e
      cases e
      have := Nat.eq_of_beq_eq_true hb
      subst this
      refine ⟨0, by simp [List.findIdx?_cons, q3], ?_⟩
      simp only [List.modify_zero_cons, EL]
      exact ⟨_, r, rfl, q1, hx, q3, q4⟩
    | false =>
      rw [hb] at e
      obtain ⟨l, hl', e⟩ := optB_some e
      cases e
      obtain ⟨i, h1, h2⟩ := stampE_ok hx hl' q4
      have hne : ¬ b0 = n := fun e => by rw [e, Nat.beq_refl] at hb; cases hb
      refine ⟨i + 1, ?_, ?_⟩
      · rw [List.findIdx?_cons]
        have : ((y.born : Int) == (n : Int)) = false := by
          rw [q3]; simp only [beq_eq_false_iff_ne, ne_eq]; omega
        simp only [this, h1]
        rfl
      · simp only [List.modify_succ_cons, EL]
        exact ⟨y, _, rfl, q1, q2, q3, h2⟩
theorem entryStoreA_ok {t : TypeId} {m s0 x v : AV} {a st u : Value} (E : entryStoreA m s0 x h = .ok v h') : Grow h h' ∧ (C.covers h' → St C ρ μ h w → V ρ μ m a → V ρ μ s0 st → V ρ μ x u →
    ∃ w', (Instr.entryStore t a st u).run P w = .ok () w' ∧ Out C ρ μ h h' (fun μ' => V ρ μ' v Go.undef) w') := by
  unfold entryStoreA at E
  split at E
  · rename_i b
    have hs := onSome_ok E; clear E; obtain ⟨n, hn, E⟩ := hs
    have hs := onMapO_ok E; clear E; obtain ⟨es, c, ho, E⟩ := hs
    have hs := onSome_ok E; clear E; obtain ⟨es', hes, E⟩ := hs
    cases E
    refine ⟨mapGrow, fun cov s ha hst hx => ?_⟩
    simp only [V] at ha
    obtain ⟨p, hp, rfl⟩ := ha
    obtain ⟨k, rfl⟩ := natO_ok hn hst
    obtain ⟨p', ents, hp', hb, hl⟩ := map_of s (mapAcc cov) ho
    rw [hp] at hp'; cases hp'
    obtain ⟨i, hfi, hel⟩ := stampE_ok hx hes hl
    have hg : (getObj p.blk).run P w = .ok (.map ents c) w := run_getObj_map w _ _ _ hb
    have hset : (Go.setObj p.blk (Obj.map (ents.modify i fun e => { e with val := u }) c)).run P w = .ok () _ := MapKept.run_setObj_map _ hb
    have hfi' : ents.findIdx? (fun e => (e.born : Int) == (n : Int)) = some i := by rw [← List.findIdx?_toArray] at hfi; simpa using hfi
    refine ⟨_, ?_, μ, μ.le_refl, fun _ k => .inl k, by simp only [V], setMap_ok (ents' := ents.modify i fun e => { e with val := u }) s (mapAcc cov) ho hp hb (by rw [Array.toList_modify]; exact hel)⟩
    simp [Instr.entryStore, Sem.run_bind, hg, asInt, asIntOf, hfi', hset]
  · cases E
end
end Go.Ax
end
/- Builtin functions. -/
noncomputable section
set_option linter.unusedVariables false
set_option linter.unusedSimpArgs false
namespace Go.Ax
def lenM (h : AH) (b : Pos) : Res AV := onMapO (fun es _ => .ok (i64A (lenL es)) (touch b h)) (PT.get .none b h.t)
def lenR (h : AH) (r : Row) : Res AV := match r with | .arr n _ => .ok (i64A n) h | .sli _ => .er "len"
def lenA (P : Program) (t : TypeId) (x : AV) (h : AH) : Res AV := match x with
  | .str s => ck (.ok (i64A (lenL s)) h) (isStrT P t)
  | .nils => ck (.ok (i64A 0) h) (isSliT P t)
  | .slice _ _ n _ _ _ => ck (.ok (i64A n) h) (isSliT P t)
  | .nilm => ck (.ok (i64A 0) h) (some? (mapO P t))
  | .map b => ck (lenM h b) (some? (mapO P t))
  | .agg _ => onSome (lenR h) (rowOf P t)
  | _ => .er "len"
def capA (P : Program) (t : TypeId) (x : AV) (h : AH) : Res AV := match x with
  | .nils => ck (.ok (i64A 0) h) (isSliT P t)
  | .slice _ _ _ c ex _ => ck (.ok (i64A c) h) (and ex (isSliT P t))
  | _ => .er "cap"
def pick2 (op : BinOp) (x y : AV) (k : AV → Op1 AV) (c : Tri) : Op1 AV := Tri.rec (motive := fun _ => Op1 AV) (k y) (k x) (.er "min") c
def isNumA (x : AV) : Bool := match x with | .int _ _ => true | .sym _ _ => true | _ => false
def minR (rng : Rng) (op : BinOp) (l : List AV) : AV → Op1 AV := List.rec (motive := fun _ => AV → Op1 AV) (fun x => .ok x) (fun y _ ih x => pick2 op x y ih (cmpA rng op y x)) l
def minA (rng : Rng) (op : BinOp) (l : List AV) (h : AH) : Res AV := match l with
  | x :: r => ofOp1 h (minR rng op r x)
  | [] => .er "min"
def truncA (d : Nat) (x : AV) : AV := match x with | .slice b o len cap ex sz => .slice b o (Nat.min len d) cap ex sz | x => x
def putEls (b : Pos) (o sz : Nat) (new : List (List AV)) (n : Nat) (v : AV) (h : AH) (sz2 m : Nat) (c : PT (List AV)) : Res AV :=
  ck (.ok v (setObj b (.cells sz2 m (setChunks new (pos (Nat.div o sz)) c)) (touch b h))) (and (Nat.beq sz2 sz) (and (Nat.beq (Nat.mod o sz) 0) (Nat.ble (o + n * sz) m)))
def putN (b : Pos) (o sz : Nat) (new : List (List AV)) (v : AV) (h : AH) (n : Nat) : Res AV := Nat.rec (motive := fun _ => Res AV) (.ok v h) (fun n _ => onCells (putEls b o sz new (Nat.succ n) v h) (PT.get .none b h.t)) n
def copyN (b : Pos) (o len sz : Nat) (new : List (List AV)) (h : AH) (n : Nat) : Res AV := ck (putN b o sz new (i64A n) h n) (Nat.ble n len)
def copyA (P : Program) (t tx : TypeId) (d s : AV) (h : AH) : Res AV := match d with
  | .slice b o len cap ex sz => onSome (fun q => ck (bindR (srcA P tx sz (truncA len s) h) fun new h => copyN b o len sz new h (lenL new)) (Nat.beq sz q.sz)) (elO P t)
  | _ => .er "copy"
def clearA (P : Program) (t : TypeId) (d : AV) (h : AH) : Res AV := match d with
  | .nils => ck (.ok (.tup []) h) (isSliT P t)
  | .slice b o len cap ex sz => onSome (fun q => onSome (fun z => ck (putN b o sz (repC z len) (.tup []) h len) (Nat.beq sz q.sz)) (zeroL P (elT P t))) (elO P t)
  | _ => .er "clear"
section
variable {C : Ctx} {ρ : Nat → Int} {μ μ' : Mu} {P : Program} {w w' : World} {h h' : AH} {rng : Rng}
theorem lenA_ok {t ty : TypeId} {ts : Array TypeId} {x v : AV} {u : Value} (ht : ts[0]? = some t) (E : lenA P t x h = .ok v h') : Grow h h' ∧ (C.covers h' → St C ρ μ h w → V ρ μ x u →
    ∃ r, (Builtin.len_ ts ty #[u]).run P w = .ok r w ∧ Out C ρ μ h h' (fun μ' => V ρ μ' v r) w) := by
  unfold lenA at E
  split at E
  · rename_i s0
    have hg := ck_ok E; clear E; obtain ⟨g, E⟩ := hg
    cases E
    refine ⟨Grow.refl _, fun cov s hx => ?_⟩
    simp only [V] at hx
    obtain ⟨bs, rfl, hbs⟩ := hx
    have hl : bs.size = s0.length := by have := congrArg List.length hbs; simpa using this
    refine ⟨goInt bs.size, by simp [Builtin.len_, ht, run_underlying (isStrT_ok g)], Out.refl s ?_⟩
    rw [lenL_eq, hl]; exact V.i64 _
  · have hg := ck_ok E; clear E; obtain ⟨g, E⟩ := hg
    cases E
    obtain ⟨e, hu⟩ := isSliT_ok g
    refine ⟨Grow.refl _, fun cov s hx => ?_⟩
    simp only [V] at hx
    subst hx
    exact ⟨goInt 0, by simp [Builtin.len_, ht, run_underlying hu], Out.refl s (V.i64 _)⟩
  · have hg := ck_ok E; clear E; obtain ⟨g, E⟩ := hg
    cases E
    obtain ⟨e, hu⟩ := isSliT_ok g
    refine ⟨Grow.refl _, fun cov s hx => ?_⟩
    simp only [V] at hx
    obtain ⟨p, c, a, _, rfl, _⟩ := hx
    exact ⟨goInt _, by simp [Builtin.len_, ht, run_underlying hu], Out.refl s (V.i64 _)⟩
  · have hg := ck_ok E; clear E; obtain ⟨g, E⟩ := hg
    cases E
    cases hq : mapO P t with
    | none => rw [hq] at g; cases g
    | some q =>
      have hu := mapO_ok hq
      refine ⟨Grow.refl _, fun cov s hx => ?_⟩
      simp only [V] at hx
      subst hx
      exact ⟨goInt 0, by simp [Builtin.len_, ht, run_underlying hu], Out.refl s (V.i64 _)⟩
  · rename_i b
    have hg := ck_ok E; clear E; obtain ⟨g, E⟩ := hg
    have hs := onMapO_ok E; clear E; obtain ⟨es, c, ho, E⟩ := hs
    cases E
    cases hq : mapO P t with
    | none => rw [hq] at g; cases g
    | some q =>
      have hu := mapO_ok hq
      refine ⟨touch_grow _ _, fun cov s hx => ?_⟩
      simp only [V] at hx
      obtain ⟨p, hp, rfl⟩ := hx
      obtain ⟨p', ents, hp', hb, hl⟩ := map_of s (cov.acc b (touch_mem b h)) ho
      rw [hp] at hp'; cases hp'
      have hg : (getObj p.blk).run P w = .ok (.map ents c) w := run_getObj_map w _ _ _ hb
      have hlen := hl.length
      simp only [Array.length_toList] at hlen
      refine ⟨goInt ents.size, by simp [Builtin.len_, ht, run_underlying hu, hg], Out.touch s ?_⟩
      rw [lenL_eq, hlen]; exact V.i64 _
  · have hs := onSome_ok E; clear E; obtain ⟨r, hr, E⟩ := hs
    have hr := rowOf_ok hr
    cases r with
    | sli e => cases E
    | arr n e =>
      cases E
      have hu : P.underlying t = some (.array n e) := hr
      refine ⟨Grow.refl _, fun cov s hx => ⟨goInt n, ?_, Out.refl s (V.i64 _)⟩⟩
      simp only [V] at hx
      obtain ⟨cs, rfl, _⟩ := hx
      simp [Builtin.len_, ht, run_underlying hu]
  · cases E
theorem capA_ok {t ty : TypeId} {ts : Array TypeId} {x v : AV} {u : Value} (ht : ts[0]? = some t) (E : capA P t x h = .ok v h') : h' = h ∧ (V ρ μ x u → ∃ r, (Builtin.cap_ ts ty #[u]).run P w = .ok r w ∧ V ρ μ v r) := by
  unfold capA at E
  split at E
  · have hg := ck_ok E; clear E; obtain ⟨g, E⟩ := hg
    cases E
    obtain ⟨e, hu⟩ := isSliT_ok g
    refine ⟨rfl, fun hx => ?_⟩
    simp only [V] at hx
    subst hx
    exact ⟨goInt 0, by simp [Builtin.cap_, ht, run_underlying hu], V.i64 _⟩
  · have hg := ck_ok E; clear E; obtain ⟨g, E⟩ := hg
    cases E
    obtain ⟨g1, g2⟩ := and_ok g
    obtain ⟨e, hu⟩ := isSliT_ok g2
    refine ⟨rfl, fun hx => ?_⟩
    simp only [V] at hx
    obtain ⟨p, c, a, _, rfl, _, h2, _⟩ := hx
    rw [← h2 g1]
    exact ⟨goInt _, by simp [Builtin.cap_, ht, run_underlying hu], V.i64 _⟩
  · cases E
theorem minR_ok (hr : Ranges ρ rng) {op : BinOp} {f : Value → Value → Sem Value} (hop : isCmp op = true) (hf : ∀ k a b (w : World), ∃ r : Bool, cmpOf op b a = some r ∧ (f (.int k a) (.int k b)).run P w = .ok (.int k (if r then b else a)) w) :
    ∀ {l : List AV} {vs : List Value} {x v : AV} {u : Value}, minR rng op l x = .ok v → VL ρ μ l vs → V ρ μ x u → ∃ r, (vs.foldlM f u).run P w = .ok r w ∧ V ρ μ v r
  | [], vs, x, v, u, e, hl, hx => by
    simp only [VL] at hl; subst hl
    cases e
    exact ⟨u, by simp, hx⟩
  | y :: l, vs, x, v, u, e, hl, hx => by
    simp only [VL] at hl
    obtain ⟨b, r, rfl, hy, hl⟩ := hl
    have e : pick2 op x y (minR rng op l) (cmpA rng op y x) = .ok v := e
    have hne : cmpA rng op y x ≠ .u := fun c => by rw [c] at e; cases e
    obtain ⟨k, n, m, rfl, rfl, fits⟩ := cmpA_ok hr op hy hx hne
    obtain ⟨r', hc, hrun⟩ := hf k m n w
    rw [hc] at fits
    cases hcc : cmpA rng op y x with
    | u => exact absurd hcc hne
    | t =>
      rw [hcc] at e fits
      have : r' = true := Option.some.inj fits
      subst this
      obtain ⟨z, hz, hv⟩ := minR_ok hr hop hf e hl hy
      exact ⟨z, by rw [List.foldlM_cons, Sem.run_bind, hrun]; exact hz, hv⟩
    | f =>
      rw [hcc] at e fits
      have : r' = false := Option.some.inj fits
      subst this
      obtain ⟨z, hz, hv⟩ := minR_ok hr hop hf e hl hx
      exact ⟨z, by rw [List.foldlM_cons, Sem.run_bind, hrun]; exact hz, hv⟩
theorem minA_ok (hr : Ranges ρ rng) {ts : Array TypeId} {ty : TypeId} {l : List AV} {v : AV} {vs : Array Value} (E : minA rng .lss l h = .ok v h') (hl : VL ρ μ l vs.toList) : h' = h ∧ ∃ r, (Builtin.min_ ts ty vs).run P w = .ok r w ∧ V ρ μ v r := by
  unfold minA at E
  split at E
  · have hs := ofOp1_ok E; clear E; obtain ⟨E, rfl⟩ := hs
    simp only [VL] at hl
    obtain ⟨b, r, hv, hx, hl⟩ := hl
    refine ⟨rfl, ?_⟩
    unfold Builtin.min_
    rw [hv]
    exact minR_ok hr (f := Builtin.min2) rfl (fun k a b w => ⟨decide (b < a), by simp [cmpOf], by simp [Builtin.min2]⟩) E hl hx
  · cases E
theorem maxA_ok (hr : Ranges ρ rng) {ts : Array TypeId} {ty : TypeId} {l : List AV} {v : AV} {vs : Array Value} (E : minA rng .gtr l h = .ok v h') (hl : VL ρ μ l vs.toList) : h' = h ∧ ∃ r, (Builtin.max_ ts ty vs).run P w = .ok r w ∧ V ρ μ v r := by
  unfold minA at E
  split at E
  · have hs := ofOp1_ok E; clear E; obtain ⟨E, rfl⟩ := hs
    simp only [VL] at hl
    obtain ⟨b, r, hv, hx, hl⟩ := hl
    refine ⟨rfl, ?_⟩
    unfold Builtin.max_
    rw [hv]
    exact minR_ok hr (f := Builtin.max2) rfl (fun k a b w => ⟨decide (b > a), by simp [cmpOf], by simp [Builtin.max2]⟩) E hl hx
  · cases E
theorem putEls_ok {b : Pos} {o sz n : Nat} {new : List (List AV)} {x v : AV} (hs : 0 < sz) (hl : new.length = n) (E : onCells (putEls b o sz new n x h) (PT.get .none b h.t) = .ok v h') : Grow h h' ∧ v = x ∧ (∀ {news : List Value}, C.covers h' → St C ρ μ h w → Els ρ μ sz new news → ∀ p, μ b = some p →
    (w.there p.blk (p.off + o) news.length) ∧ St C ρ μ h' (w.setCells p.blk (p.off + o) news)) := by
  have hx := onCells_ok E; clear E; obtain ⟨sz2, m, c, ho, E⟩ := hx
  have hg := ck_ok E; clear E; obtain ⟨g, E⟩ := hg
  cases E
  refine ⟨mapGrow, rfl, fun cov s en p hp => ?_⟩
  rename_i news
  obtain ⟨g1, g2⟩ := and_ok g
  obtain ⟨g2, g3⟩ := and_ok g2
  cases Nat.eq_of_beq_eq_true g1
  have g2 : o % sz = 0 := Nat.eq_of_beq_eq_true g2
  have g3 := Nat.le_of_ble_eq_true g3
  have hA : C.A b := mapAcc cov
  have hlook : look h b = .cells sz m c := ho
  obtain ⟨p', hp', hh⟩ := s.obj (b := b) hA (by rw [hlook]; simp)
  rw [hp] at hp'; cases hp'
  rw [hlook] at hh
  have hnl := en.len
  rw [hl] at hnl
  have ho' : o / sz * sz = o := Nat.div_mul_cancel (Nat.dvd_of_mod_eq_zero g2)
  have hq3 : (o / sz + new.length) * sz = o + n * sz := by rw [Nat.add_mul, ho', hl]
  have hst := hh.stored2 (o := o) (c' := setChunks new (pos (o / sz)) c) en.one (by rw [hnl]; omega)
    (fun j y hj => by
      have hjl : j < news.length := (List.getElem?_eq_some_iff.1 hj).1
      rw [setChunks_at hs, ho', hq3, if_pos (by omega), show o + j - o = j by omega]
      exact en.at_ j y hj)
    (fun k hk => by rw [setChunks_at hs, ho', hq3, if_neg (by omega)])
  have h2 := hh.2.1
  refine ⟨fun j hj => by have := hh.1 (p.off + o + j) (by omega); exact this, ?_⟩
  exact St.set (s.touch) hA (by rw [touch_look, hlook]; simp) hp (fun k hk _ => setCells_other _ _ _ _ _ hk) hst (Side.setCells _ _ _ _)
theorem putN_ok {b : Pos} {o len cap sz n : Nat} {ex : Bool} {new : List (List AV)} {x v : AV} (hs : 0 < sz) (hl : new.length = n) (hn : n ≤ len) (E : putN b o sz new x h n = .ok v h') : Grow h h' ∧ v = x ∧ (∀ {news : List Value} {u : Value}, C.covers h' → St C ρ μ h w → Els ρ μ sz new news → V ρ μ (.slice b o len cap ex sz) u →
    ∃ a c w', u = .slice (some a) len c ∧ (storeCells a news).run P w = .ok () w' ∧ St C ρ μ h' w') := by
  cases n with
  | zero =>
    cases E
    refine ⟨Grow.refl _, rfl, fun cov s en hx => ?_⟩
    simp only [V] at hx
    obtain ⟨p, c, a, hp, rfl, _⟩ := hx
    have := en.len
    rw [hl] at this
    rename_i news _
    have : news = [] := List.length_eq_zero_iff.1 (by omega)
    subst this
    exact ⟨a, c, w, rfl, rfl, s⟩
  | succ n =>
    obtain ⟨g, e, k⟩ := putEls_ok (C := C) (ρ := ρ) (μ := μ) (w := w) hs hl E
    refine ⟨g, e, fun cov s en hx => ?_⟩
    simp only [V] at hx
    obtain ⟨p, c, a, hp, rfl, h1, h2, h3, h4⟩ := hx
    obtain ⟨rfl, _⟩ := h3 (by omega)
    obtain ⟨ht, s'⟩ := k cov s en p hp
    refine ⟨_, c, _, rfl, ?_, s'⟩
    have := run_storeCells_cells (P := P) p.blk (p.off + o) _ 0 w (fun j hj => by simpa using (ht j hj).1) (fun j hj => by simpa using (ht j hj).2) en.one
    simpa using this
theorem firstCells_trunc {sz n len c : Nat} {a : Addr} : (Builtin.firstCells sz n (.slice (some a) len c)).run P w = (Builtin.firstCells sz n (.slice (some a) n c)).run P w := rfl
theorem copyA_ok {t tx ty : TypeId} {d s0 v : AV} {u y : Value} (E : copyA P t tx d s0 h = .ok v h') : Grow h h' ∧ (C.covers h' → St C ρ μ h w → V ρ μ d u → V ρ μ s0 y →
    ∃ r w', (Builtin.copy_ #[t, tx] ty #[u, y]).run P w = .ok r w' ∧ Out C ρ μ h h' (fun μ' => V ρ μ' v r) w') := by
  unfold copyA at E
  split at E
  · rename_i b o len cap ex sz
    have hs := onSome_ok E; clear E; obtain ⟨q, hq, E⟩ := hs
    have hg := ck_ok E; clear E; obtain ⟨g, E⟩ := hg
    cases Nat.eq_of_beq_eq_true g
    have hs := bindR_ok E; clear E; obtain ⟨new, h1, E1, E⟩ := hs
    have hg := ck_ok E; clear E; obtain ⟨g2, E⟩ := hg
    rw [lenL_eq] at g2 E
    have g2 := Nat.le_of_ble_eq_true g2
    obtain ⟨e, i, z, ht, hi, hz, hzs, hsz, hby, hpos⟩ := elO_ok hq
    have G1 := (srcA_ok (C := C) (ρ := ρ) (μ := μ) (w := w) (u := y) E1).1
    obtain ⟨G2, rfl, K2⟩ := putN_ok (C := C) (ρ := ρ) (μ := μ) (w := w) (P := P) (cap := cap) (ex := ex) hpos rfl g2 E
    refine ⟨G1.trans G2, fun cov s hd hy => ?_⟩
    have cov1 := cov.of_grow G2
    -- the source, as long as is wanted
    have src : ∃ news, (Builtin.firstCells q.sz new.length y).run P w = .ok news.toArray w ∧ Els ρ μ q.sz new news ∧ St C ρ μ h1 w ∧ ∃ m, (Builtin.lenOf y).run P w = .ok m w ∧ Nat.min m len = new.length := by
      by_cases hsl : ∃ b' o' len' cap' ex' sz', s0 = .slice b' o' len' cap' ex' sz'
      · obtain ⟨b', o', len', cap', ex', sz', rfl⟩ := hsl
        simp only [V] at hy
        obtain ⟨p, c, a, hp, rfl, q1, q2, q3, q4⟩ := hy
        have hmin : Nat.min len' len ≤ len' := Nat.min_le_left _ _
        have hv : V ρ μ (truncA len (.slice b' o' len' cap' ex' sz')) (.slice (some a) (Nat.min len' len) c) := by
          show V ρ μ (.slice b' o' (Nat.min len' len) cap' ex' sz') _
          simp only [V]
          exact ⟨p, c, a, hp, rfl, q1, q2, q3, by omega⟩
        obtain ⟨news, sn, en, s1, _⟩ := (srcA_ok (C := C) (ρ := ρ) (μ := μ) (w := w) (u := .slice (some a) (Nat.min len' len) c) E1).2 cov1 s hv
        have hlen := sn.len w
        have hll : new.length = Nat.min len' len := by
          simp [Builtin.lenOf] at hlen
          exact hlen.symm
        exact ⟨news, sn.cells, en, s1, len', by simp [Builtin.lenOf], hll.symm⟩
      · have he : truncA len s0 = s0 := by
          cases s0 <;> first | rfl | (exact absurd ⟨_, _, _, _, _, _, rfl⟩ hsl)
        rw [he] at E1
        obtain ⟨news, sn, en, s1, _⟩ := (srcA_ok (C := C) (ρ := ρ) (μ := μ) (w := w) (u := y) E1).2 cov1 s hy
        exact ⟨news, sn.cells, en, s1, new.length, sn.len w, Nat.min_eq_left g2⟩
    obtain ⟨news, hcells, en, s1, m, hm, hmin⟩ := src
    obtain ⟨a, c, w', rfl, hst, s2⟩ := K2 cov s1 en hd
    refine ⟨goInt new.length, w', ?_, μ, μ.le_refl, fun _ k => .inl k, V.i64 _, s2⟩
    have hz2 : (sizeOf e).run P w = .ok q.sz w := by simp [sizeOf, typeInfo, hi, hsz]
    simp [Builtin.copy_, run_underlying ht, hm, hmin, hz2, hcells, hst]
  · cases E
theorem clearA_ok {t ty : TypeId} {ts : Array TypeId} (ht : ts[0]? = some t) {d v : AV} {u : Value} (E : clearA P t d h = .ok v h') : Grow h h' ∧ (C.covers h' → St C ρ μ h w → V ρ μ d u →
    ∃ r w', (Builtin.clear_ ts ty #[u]).run P w = .ok r w' ∧ Out C ρ μ h h' (fun μ' => V ρ μ' v r) w') := by
  unfold clearA at E
  split at E
  · have hg := ck_ok E; clear E; obtain ⟨g, E⟩ := hg
    cases E
    obtain ⟨e, hu⟩ := isSliT_ok g
    refine ⟨Grow.refl _, fun cov s hx => ?_⟩
    simp only [V] at hx
    subst hx
    exact ⟨.tuple #[], w, by simp [Builtin.clear_, ht, run_underlying hu], Out.refl s (by simp [V, VL])⟩
  · rename_i b o len cap ex sz
    have hs := onSome_ok E; clear E; obtain ⟨q, hq, E⟩ := hs
    have hs := onSome_ok E; clear E; obtain ⟨z0, hz0, E⟩ := hs
    have hg := ck_ok E; clear E; obtain ⟨g, E⟩ := hg
    cases Nat.eq_of_beq_eq_true g
    obtain ⟨e, i, z, hu, hi, hz, hzs, hsz, hby, hpos⟩ := elO_ok hq
    rw [elT_of hu] at hz0
    obtain ⟨i', z', hi', hz', vl, one⟩ := zeroL_ok (ρ := ρ) (μ := μ) hz0
    rw [hi] at hi'; cases hi'
    rw [hz] at hz'; cases hz'
    obtain ⟨G2, rfl, K2⟩ := putN_ok (C := C) (ρ := ρ) (μ := μ) (w := w) (P := P) (cap := cap) (ex := ex) hpos (repC_length z0 len) (Nat.le_refl _) E
    refine ⟨G2, fun cov s hd => ?_⟩
    have en := madeCells_els (n := len) hzs hpos vl one
    obtain ⟨a, c, w', rfl, hst, s2⟩ := K2 cov s en hd
    refine ⟨.tuple #[], w', ?_, μ, μ.le_refl, fun _ k => .inl k, by simp [V, VL], s2⟩
    cases len with
    | zero =>
      have : w' = w := by
        simp [storeCells] at hst
        exact hst.symm
      subst this
      simp [Builtin.clear_, ht, run_underlying hu]
    | succ n =>
      have hzv : (zeroValue e).run P w = .ok z w := by simp [zeroValue, typeInfo, hi, hz]
      have hzc : Builtin.zeroCells z.cells (n + 1) = (Array.range ((n + 1) * q.sz)).map (z.cells[· % z.cells.size]!) := by simp [Builtin.zeroCells, hzs]
      generalize (Array.range ((n + 1) * q.sz)).map (z.cells[· % z.cells.size]!) = zc at hst hzc
      simp [Builtin.clear_, ht, run_underlying hu, hzv, hzc, hst]
  · cases E
end
end Go.Ax
end
