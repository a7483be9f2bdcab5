/- strings.Builder, maps.DeleteFunc: what is known of them. -/
import Derived.Test.YtmlipiegjgklcaaGreatXc
import Derived.Maps.RangeRun
/- strings.Builder, maps.DeleteFunc: what is known of them. -/
noncomputable section
set_option linter.unusedVariables false
set_option linter.unusedSimpArgs false
namespace Go.Ax
def sameP (b : Pos) (o : Nat) (h : AH) (x : AV) (z c : Nat) (t : PT (List AV)) : Res AV := match x with
  | .nilp => .ok (.tup []) (setObj b (.cells z c (setR z t o [.ptr b o])) (touch b h))
  | .ptr b' o' => ck (.ok (.tup []) (touch b h)) (and (Pos.beq1 b b') (Nat.beq o o'))
  | _ => .er "copyCheck"
def copyB (b : Pos) (o : Nat) (h : AH) (z c : Nat) (t : PT (List AV)) : Res AV := ck (sameP b o h (oneL (getR z t o 1)) z c t) (and (Nat.ble (o + 2) c) (Nat.ble (Nat.mod o z + 2) z))
def copyCheckG (E : Env) : SumT := fun args h => match args with
  | [.ptr b o] => onCells (copyB b o h) (PT.get .none b h.t)
  | _ => .er "copyCheck"
def strDone (h : AH) (s : List Nat) (b : Pos) : Res AV := .ok (.str s) (setObj b .none (touch b h))
def stringB (E : Env) (h : AH) (x : AV) : Res AV := match x with
  | .nils => .ok (.str []) h
  | .slice b o len cap ex sz => bR (fun l h => onSome (fun s => strDone h s b) (codesL l)) (srcA E.P 102 1 (.slice b o len cap ex sz) h)
  | _ => .er "String"
def stringG (E : Env) : SumT := fun args h => match args with
  | [.ptr b o] => bR (fun x h => stringB E h x) (loadA E.P 102 (.ptr b (o + 1)) h)
  | _ => .er "String"
def resetL (h : AH) : AH := h
def pureB (h : AH) (x : AV) (h1 : AH) : Option Bool := match x, h1.dirty with | .bool b, [] => some b | _, _ => none
def delK (b : Bool) (e : AV × AV × Nat) (l : List (AV × AV × Nat)) : List (AV × AV × Nat) := Bool.rec (e :: l) l b
def filtE (E : Env) (f : FuncId) (first cap : List AV) (h : AH) (es : List (AV × AV × Nat)) : Option (List (AV × AV × Nat)) := List.rec (motive := fun _ => Option (List (AV × AV × Nat))) (some []) (fun e _ ih =>
  optB (fun l => Res.rec (motive := fun _ => Option (List (AV × AV × Nat))) (fun x h1 => optB (fun b => some (delK b e l)) (pureB h x h1)) (fun _ => none) (E.call f (first ++ ([e.1, e.2.1] ++ cap)) (reset h))) ih) es
def delB (E : Env) (b : Pos) (f : FuncId) (first cap : List AV) (h : AH) (es : List (AV × AV × Nat)) (c : Nat) : Res AV := onSome (fun l => .ok (.tup []) (setObj b (.map l c) (touch b h))) (filtE E f first cap (setObj b .none h) es)
def deleteFuncG (E : Env) : SumT := fun args h => match args with
  | [.map b, .fn f first cap] => onMapO (delB E b f first cap h) (PT.get .none b h.t)
  | _ => .er "DeleteFunc"
end Go.Ax
end
/- The executor, made quick: what code says is read once; moves are names for what they move. -/
noncomputable section
set_option linter.unusedVariables false
set_option linter.unusedSimpArgs false
namespace Go.Ax
structure GQ where
  run : LL → PT AV → AV
structure AQ where
  run : LL → PT AV → List AV
structure VQ where
  run : Env → LL → PT AV → AH → Res AV
structure LQ where
  run : Env → LL → PT AV → AH → Res Ex
structure RQ where
  run : Env → LL → PT AV → AH → List Rec → Res Ex
structure CQ where
  run : Env → Tm → AH → Res Ex
def g_loc (i : Nat) : GQ := ⟨fun l _ => LL.find i l⟩
def g_fr (i : Nat) : GQ := ⟨fun _ f => PT.get .undef (pos i) f⟩
def g_val (v : AV) : GQ := ⟨fun _ _ => v⟩
def g_tmp (m i : Nat) : GQ := Bool.rec (g_loc i) (g_fr i) (isP m i)
abbrev Sg := List (Nat × GQ)
def findA (m i : Nat) (σ : Sg) : GQ := List.rec (motive := fun _ => GQ) (g_tmp m i) (fun p _ ih => Bool.rec ih p.2 (Nat.beq i p.1)) σ
def getA (m : Nat) (σ : Sg) (o : Operand) : GQ := Operand.rec (motive := fun _ => GQ) (fun i => findA m i σ) (fun v => g_val (avOf v)) (fun _ => g_val .undef) (fun f => g_val (.fn f [] [])) o
def a_cons (g : GQ) (r : AQ) : AQ := ⟨fun l f => g.run l f :: r.run l f⟩
def argsA (m : Nat) (σ : Sg) (l : List Operand) : AQ := List.rec (motive := fun _ => AQ) ⟨fun _ _ => []⟩ (fun o _ ih => a_cons (getA m σ o) ih) l
def v_move (g : GQ) : VQ := ⟨fun _ l f h => .ok (g.run l f) h⟩
def v_load (Z : Env) (ty : TypeId) (g : GQ) : VQ := ⟨fun _ l f h => loadA Z.P ty (g.run l f) h⟩
def v_store (Z : Env) (ty : TypeId) (g x : GQ) : VQ := ⟨fun _ l f h => storeA Z.P ty (g.run l f) (x.run l f) h⟩
def v_nil (g : GQ) : VQ := ⟨fun _ l f h => nilA (g.run l f) h⟩
def v_bin (Z : Env) (op : BinOp) (ty : TypeId) (x y : GQ) : VQ := ⟨fun _ l f h => binO Z op ty h (y.run l f) (x.run l f)⟩
def v_fa (Z : Env) (ty : TypeId) (g : GQ) (i : Nat) : VQ := ⟨fun _ l f h => fieldAddrA Z.P ty (g.run l f) i h⟩
def v_ia (Z : Env) (ty : TypeId) (x i : GQ) : VQ := ⟨fun _ l f h => indexAddrA Z.P ty (x.run l f) (i.run l f) h⟩
def v_ext (g : GQ) (i : Nat) : VQ := ⟨fun _ l f h => extA (g.run l f) i h⟩
def v_bi (Z : Env) (b : Builtin) (ts : Array TypeId) (as : AQ) : VQ := ⟨fun _ l f h => biA Z b ts (as.run l f) h⟩
def v_call (g : GQ) (as : AQ) : VQ := ⟨fun E l f h => callV E (as.run l f) h (g.run l f)⟩
/-- The frame, with what the moved temporaries stand for. -/
def matL (l : LL) (f : PT AV) (σ : Sg) : LL := List.rec (motive := fun _ => LL) l (fun p _ ih => .cons p.1 (p.2.run l f) ih) σ
def v_gen (Z : Env) (m : Nat) (σ : Sg) (o : Op) : VQ := ⟨fun _ l f h => opA o Z ⟨m, matL l f σ, f⟩ h⟩
def callA1 (Z : Env) (m : Nat) (σ : Sg) (c : Go.Call) (ca : Callee) : VQ := match ca with
  | .builtin b => v_bi Z b c.argTypes (argsA m σ c.args.toList)
  | .value g => v_call (getA m σ g) (argsA m σ c.args.toList)
  | .invoke _ _ => v_gen Z m σ (.call c)
def valA (Z : Env) (m : Nat) (σ : Sg) (o : Op) : VQ := match o with
  | .move x => v_move (getA m σ x)
  | .assign x => v_move (getA m σ x)
  | .load ty a => v_load Z ty (getA m σ a)
  | .store ty a x => v_store Z ty (getA m σ a) (getA m σ x)
  | .nilCheck x => v_nil (getA m σ x)
  | .binOp op ty x y _ => v_bin Z op ty (getA m σ x) (getA m σ y)
  | .fieldAddr ty x i => v_fa Z ty (getA m σ x) i
  | .indexAddr ty x i => v_ia Z ty (getA m σ x) (getA m σ i)
  | .extract x i => v_ext (getA m σ x) i
  | .call c => callA1 Z m σ c c.callee
  | o => v_gen Z m σ o
def dsts (l : List Oper) : List Nat := List.rec (motive := fun _ => List Nat) [] (fun o _ ih => Option.rec ih (fun d => d :: ih) o.dst) l
/-- What a move moves, where it stays what it is. -/
def stayT (i : Nat) (S : List Nat) (σ : Sg) : Bool := List.rec (motive := fun _ => Bool) (not (memN i S)) (fun p _ ih => Bool.rec ih true (Nat.beq i p.1)) σ
def stayX (S : List Nat) (σ : Sg) (x : Operand) : Bool := Operand.rec (motive := fun _ => Bool) (fun i => stayT i S σ) (fun _ => true) (fun _ => true) (fun _ => true) x
def movedX (o : Op) : Option Operand := match o with | .move x => some x | .assign x => some x | _ => none
def aliasD (m : Nat) (S : List Nat) (σ : Sg) (x : Operand) (d : Nat) : Option (Nat × GQ) := Bool.rec none (some (d, getA m σ x)) (and (not (isP m d)) (and (not (memN d S)) (stayX S σ x)))
def aliasX (m : Nat) (S : List Nat) (σ : Sg) (d : Option Tmp) (x : Option Operand) : Option (Nat × GQ) := Option.rec (motive := fun _ => Option (Nat × GQ)) none (fun x => Option.rec (motive := fun _ => Option (Nat × GQ)) none (fun d => aliasD m S σ x d) d) x
def aliasO (m : Nat) (S : List Nat) (σ : Sg) (o : Oper) : Option (Nat × GQ) := Option.rec (motive := fun _ => Option (Nat × GQ)) (aliasX m S σ o.dst (movedX o.op)) (fun _ => none) o.guard
-- in a row
def l_end (m : Nat) : LQ := ⟨fun _ _ f h => .ok ⟨.n, ⟨m, .nil, f⟩⟩ h⟩
def l_non (v : VQ) (r : LQ) : LQ := ⟨fun E l f h => bR (fun _ h => r.run E l f h) (v.run E l f h)⟩
def l_loc (v : VQ) (i : Nat) (r : LQ) : LQ := ⟨fun E l f h => bR (fun x h => r.run E (.cons i x l) f h) (v.run E l f h)⟩
def l_fr (v : VQ) (i : Nat) (r : LQ) : LQ := ⟨fun E l f h => bR (fun x h => forceF (fun f => r.run E l f h) (PT.set .undef x (pos i) f)) (v.run E l f h)⟩
def l_dst (m : Nat) (v : VQ) (r : LQ) (d : Option Tmp) : LQ := Option.rec (motive := fun _ => LQ) (l_non v r) (fun i => Bool.rec (l_loc v i r) (l_fr v i r) (isP m i)) d
def gone : VQ := ⟨fun _ _ _ h => .ok .gone h⟩
def l_gB (a b : LQ) (E : Env) (l : LL) (f : PT AV) (h : AH) (c : Bool) : Res Ex := Bool.rec (b.run E l f h) (a.run E l f h) c
def l_guard (g : GQ) (want : Bool) (a b : LQ) : LQ := ⟨fun E l f h => Option.rec (motive := fun _ => Res Ex) (.er "guard") (l_gB a b E l f h) (wantB want (g.run l f))⟩
def l_gd (m : Nat) (σ : Sg) (want : Bool) (a b : LQ) (d : Option Tmp) : LQ := Option.rec (motive := fun _ => LQ) ⟨fun _ _ _ _ => .er "guard"⟩ (fun d => l_guard (findA m d σ) want a b) d
def l_op (Z : Env) (m : Nat) (l0 : List Oper) (σ : Sg) (o : Oper) (r : LQ) : LQ := Option.rec (motive := fun _ => LQ) (l_dst m (valA Z m σ o.op) r o.dst) (fun g => l_gd m σ g.2 (l_dst m (valA Z m σ o.op) r o.dst) (l_dst m gone r o.dst) (nthO l0 g.1)) o.guard
def l_al (Z : Env) (m : Nat) (l0 : List Oper) (σ : Sg) (o : Oper) (ih : Sg → LQ) (a : Option (Nat × GQ)) : LQ := Option.rec (motive := fun _ => LQ) (l_op Z m l0 σ o (ih σ)) (fun p => ih (p :: σ)) a
def opsA (Z : Env) (m : Nat) (l0 l : List Oper) : Sg → LQ := List.rec (motive := fun _ => Sg → LQ) (fun _ => l_end m) (fun o r ih σ => l_al Z m l0 σ o ih (aliasO m (dsts r) σ o)) l
-- drawn
def r_end (m : Nat) : RQ := ⟨fun _ _ f h _ => .ok ⟨.n, ⟨m, .nil, f⟩⟩ h⟩
def p_non (v : VQ) (r : RQ) : RQ := ⟨fun E l f h rs => bR (fun _ _ => r.run E l f h rs) (v.run E l f h)⟩
def p_loc (v : VQ) (i : Nat) (r : RQ) : RQ := ⟨fun E l f h rs => bR (fun x _ => r.run E (.cons i x l) f h rs) (v.run E l f h)⟩
def p_fr (v : VQ) (i : Nat) (r : RQ) : RQ := ⟨fun E l f h rs => bR (fun x _ => forceF (fun f => r.run E l f h rs) (PT.set .undef x (pos i) f)) (v.run E l f h)⟩
def p_dst (m : Nat) (v : VQ) (r : RQ) (d : Option Tmp) : RQ := Option.rec (motive := fun _ => RQ) (p_non v r) (fun i => Bool.rec (p_loc v i r) (p_fr v i r) (isP m i)) d
def s_non (Z : Env) (l0 : List Oper) (j : Nat) (v : VQ) (r : RQ) : RQ := ⟨fun E l f h rs => bR (fun _ h1 => ck (r.run E l f (mergeH h1 h) (recD j h1 rs)) (allL (pairB Z l0 j h1) rs)) (v.run E l f (reset h))⟩
def s_loc (Z : Env) (l0 : List Oper) (j : Nat) (v : VQ) (i : Nat) (r : RQ) : RQ := ⟨fun E l f h rs => bR (fun x h1 => ck (r.run E (.cons i x l) f (mergeH h1 h) (recD j h1 rs)) (allL (pairB Z l0 j h1) rs)) (v.run E l f (reset h))⟩
def s_fr (Z : Env) (l0 : List Oper) (j : Nat) (v : VQ) (i : Nat) (r : RQ) : RQ := ⟨fun E l f h rs => bR (fun x h1 => ck (forceF (fun f => r.run E l f (mergeH h1 h) (recD j h1 rs)) (PT.set .undef x (pos i) f)) (allL (pairB Z l0 j h1) rs)) (v.run E l f (reset h))⟩
def s_dst (Z : Env) (m : Nat) (l0 : List Oper) (j : Nat) (v : VQ) (r : RQ) (d : Option Tmp) : RQ := Option.rec (motive := fun _ => RQ) (s_non Z l0 j v r) (fun i => Bool.rec (s_loc Z l0 j v i r) (s_fr Z l0 j v i r) (isP m i)) d
/-- Operations that do not look at the heap. -/
def pureO (o : Op) : Bool := match o with | .move _ => true | .assign _ => true | .nilCheck _ => true | .binOp _ _ _ _ _ => true | .fieldAddr _ _ _ => true | .indexAddr _ _ _ => true | .extract _ _ => true | .unOp _ _ _ => true | .makeFunc _ _ _ => true | .field _ _ _ => true | .pick _ _ _ => true | _ => false
def d_put (m : Nat) (d : Option Tmp) (k : LL → PT AV → Res Ex) (l : LL) (f : PT AV) (v : AV) : Res Ex := Option.rec (motive := fun _ => Res Ex) (k l f) (fun i => Bool.rec (k (.cons i v l) f) (forceF (fun f => k l f) (PT.set .undef v (pos i) f)) (isP m i)) d
def w_got (m : Nat) (l0 : List Oper) (j : Nat) (d : Option Tmp) (r : RQ) (E : Env) (l : LL) (f : PT AV) (h : AH) (rs : List Rec) (k : Wk) (v : AV) (_ : AH) : Res Ex := ck (d_put m d (fun l f => r.run E l f (touch k.b h) (⟨j, [], [], some ⟨k.b, k.ty, k.k, v⟩⟩ :: rs)) l f v) (allL (weakB l0 j k.b) rs)
def w_some (Z : Env) (m : Nat) (l0 : List Oper) (j : Nat) (d : Option Tmp) (r : RQ) (E : Env) (l : LL) (f : PT AV) (h : AH) (rs : List Rec) (k : Wk) : Res Ex := bR (w_got m l0 j d r E l f h rs k) (lookObj Z k.ty k.k (PT.get .none k.b h.t))
def r_weak (Z : Env) (m : Nat) (l0 : List Oper) (σ : Sg) (j : Nat) (o : Oper) (r : RQ) (s : RQ) : RQ := ⟨fun E l f h rs => Option.rec (motive := fun _ => Res Ex) (s.run E l f h rs) (w_some Z m l0 j o.dst r E l f h rs) (wkO o.op ⟨m, matL l f σ, f⟩)⟩
def isLk (o : Op) : Bool := match o with | .lookup _ _ _ _ => true | _ => false
def r_opB (Z : Env) (m : Nat) (l0 : List Oper) (σ : Sg) (j : Nat) (o : Oper) (r : RQ) (p : Bool) : RQ := Bool.rec (Bool.rec (s_dst Z m l0 j (valA Z m σ o.op) r o.dst) (r_weak Z m l0 σ j o r (s_dst Z m l0 j (valA Z m σ o.op) r o.dst)) (isLk o.op)) (p_dst m (valA Z m σ o.op) r o.dst) p
def r_gB (a b : RQ) (E : Env) (l : LL) (f : PT AV) (h : AH) (rs : List Rec) (c : Bool) : Res Ex := Bool.rec (b.run E l f h rs) (a.run E l f h rs) c
def r_guard (g : GQ) (want : Bool) (a b : RQ) : RQ := ⟨fun E l f h rs => Option.rec (motive := fun _ => Res Ex) (.er "guard") (r_gB a b E l f h rs) (wantB want (g.run l f))⟩
def r_gd (m : Nat) (σ : Sg) (want : Bool) (a b : RQ) (d : Option Tmp) : RQ := Option.rec (motive := fun _ => RQ) ⟨fun _ _ _ _ _ => .er "guard"⟩ (fun d => r_guard (findA m d σ) want a b) d
def r_op (Z : Env) (m : Nat) (l0 : List Oper) (σ : Sg) (j : Nat) (o : Oper) (r : RQ) : RQ := Option.rec (motive := fun _ => RQ) (r_opB Z m l0 σ j o r (pureO o.op)) (fun g => r_gd m σ g.2 (r_opB Z m l0 σ j o r (pureO o.op)) (p_dst m gone r o.dst) (nthO l0 g.1)) o.guard
def r_al (Z : Env) (m : Nat) (l0 : List Oper) (σ : Sg) (j : Nat) (o : Oper) (ih : Nat → Sg → RQ) (a : Option (Nat × GQ)) : RQ := Option.rec (motive := fun _ => RQ) (r_op Z m l0 σ j o (ih (Nat.succ j) σ)) (fun p => ih (Nat.succ j) (p :: σ)) a
def opsR (Z : Env) (m : Nat) (l0 l : List Oper) : Nat → Sg → RQ := List.rec (motive := fun _ => Nat → Sg → RQ) (fun _ _ => r_end m) (fun o r ih j σ => r_al Z m l0 σ j o ih (aliasO m (dsts r) σ o)) l
def q_regS (Z : Env) (m : Nat) (l : List Oper) : CQ := ⟨fun E t h => Tm.rec (motive := fun _ => Res Ex) (fun _ ll f => (opsA Z m l l []).run E ll f h) t⟩
def q_regD (Z : Env) (m : Nat) (l : List Oper) : CQ := ⟨fun E t h => Tm.rec (motive := fun _ => Res Ex) (fun _ ll f => (opsR Z m l l 0 []).run E ll f h []) t⟩
def q_reg (Z : Env) (m : Nat) (l : List Oper) (d : Bool) : CQ := Bool.rec (q_regS Z m l) (q_regD Z m l) d
def q_seq (a b : CQ) : CQ := ⟨c_seq a.run b.run⟩
def q_cond (c : GQ) (a b : CQ) : CQ := ⟨fun E t h => Tm.rec (motive := fun _ => Res Ex) (fun m l f => condB a.run b.run E ⟨m, l, f⟩ h (c.run l f)) t⟩
def q_block (id : Nat) (a : CQ) : CQ := ⟨c_block id a.run⟩
def q_loop (a : CQ) : CQ := ⟨c_loop a.run⟩
def codeQ (Z : Env) (m : Nat) (c : Code) : CQ := Code.rec (motive := fun _ => CQ) ⟨c_skip⟩ (fun _ ops d => q_reg Z m ops.toList d) (fun _ _ a b => q_seq a b) (fun c _ _ a b => q_cond (getA m [] c) a b) (fun id _ a => q_block id a) (fun _ a => q_loop a)
  (fun _ _ _ _ _ _ => ⟨c_none⟩) (fun id => ⟨c_exit id⟩) (fun _ a => a) (fun _ => ⟨c_skip⟩) (fun _ => ⟨c_none⟩) ⟨c_ret⟩ (fun _ => ⟨c_none⟩) c
def noCall : FuncId → List AV → AH → Res AV := fun _ _ _ => .er "call"
def bodyQ (Z E : Env) (x : FnA) (args : List AV) (h : AH) : Res AV := ck (bR (retK E.P x.results) ((codeQ Z x.mask x.body).run E (initT x.mask args) h)) (Nat.ble (lenL args) x.n)
def funQ (Z E : Env) (args : List AV) (h : AH) (f : Fun) : Res AV := Fun.rec (motive := fun _ => Res AV) (fun x => bodyQ Z E x args h) (fun g => g E args h) (.er "no function") f
def callQ (P : Program) (rng : Rng) (K : List TypeId) (fns : FuncId → Fun) (n : Nat) : FuncId → List AV → AH → Res AV :=
  Nat.rec (motive := fun _ => FuncId → List AV → AH → Res AV) (fun _ _ _ => .er "depth") (fun _ ih f args h => funQ ⟨P, rng, K, noCall⟩ ⟨P, rng, K, ih⟩ args h (fns f)) n
end Go.Ax
end
/- The quick executor does what the executor does: operations. -/
noncomputable section
set_option linter.unusedVariables false
set_option linter.unusedSimpArgs false
namespace Go.Ax
theorem mapO'_eq (t : Tm) : ∀ l : List Operand, mapO' t l = l.map (evalO t)
  | [] => rfl
  | x :: l => congrArg (evalO t x :: ·) (mapO'_eq t l)
theorem partO_eq (t : Tm) : ∀ l : List (Nat × Operand), partO t l = l.map fun p => (p.1, evalO t p.2)
  | [] => rfl
  | x :: l => congrArg ((x.1, evalO t x.2) :: ·) (partO_eq t l)
theorem optO_eq (t : Tm) (o : Option Operand) : optO t o = o.map (evalO t) := by cases o <;> rfl
/-- The same program, the same bounds. -/
structure SameE (Z E : Env) : Prop where
  P : Z.P = E.P
  rng : Z.rng = E.rng
  K : Z.K = E.K
def isCallO (o : Op) : Bool := match o with | .call _ => true | _ => false
theorem biA_congr {Z E : Env} (hs : SameE Z E) (b : Builtin) (ts : Array TypeId) (args : List AV) (h : AH) : biA Z b ts args h = biA E b ts args h := by
  unfold biA
  rw [hs.P, hs.rng, hs.K]
theorem binO_congr {Z E : Env} (hs : SameE Z E) (op : BinOp) (ty : TypeId) (h : AH) (y x : AV) : binO Z op ty h y x = binO E op ty h y x := by
  unfold binO eqAgg
  rw [hs.P, hs.rng, hs.K]
theorem opA_congr {Z E : Env} (hs : SameE Z E) {t t' : Tm} (ht : evalO t = evalO t') {o : Op} (hc : isCallO o = false) (h : AH) : opA o Z t h = opA o E t' h := by
  obtain ⟨hP, hr, hK⟩ := hs
  cases o <;> first | (cases hc; done) | rfl | skip
  all_goals (simp only [opA, op_move, op_pick, op_alloc, op_box, op_build, op_buildSlice, op_load, op_store, op_nilCheck, op_binOp, op_unOp, op_convert, op_makeMap, op_makeSlice, op_slice, op_fieldAddr, op_field, op_indexAddr, op_index, op_lookup, op_mapUpdate, op_mapEntry, op_entryStore, op_extract, op_makeFunc, mkFn, mapO'_eq, partO_eq, optO_eq, ht, hP, hr, hK, binO, eqAgg])
section
variable {m : Nat} {σ : Sg} {l lr : LL} {f : PT AV} {E Z : Env} {h : AH}
/-- What a getter gives does not turn under what is still to be written. -/
def StableFor (m : Nat) (S : List Nat) (g : GQ) : Prop := ∀ l f i v, i ∈ S → (isP m i = false → g.run (.cons i v l) f = g.run l f) ∧ (isP m i = true → g.run l (PT.set .undef v (pos i) f) = g.run l f)
structure Inv (m : Nat) (S : List Nat) (σ : Sg) (l lr : LL) (f : PT AV) : Prop where
  get : ∀ i, (findA m i σ).run l f = tget ⟨m, lr, f⟩ i
  stay : ∀ p ∈ σ, StableFor m S p.2
  loc : ∀ p ∈ σ, isP m p.1 = false ∧ p.1 ∉ S
theorem Inv.eval {S : List Nat} (hi : Inv m S σ l lr f) (x : Operand) : (getA m σ x).run l f = evalO ⟨m, lr, f⟩ x := by
  cases x with
  | tmp i => exact hi.get i
  | const v => rfl
  | global g => rfl
  | func g => rfl
theorem Inv.args {S : List Nat} (hi : Inv m S σ l lr f) : ∀ as : List Operand, (argsA m σ as).run l f = mapO' ⟨m, lr, f⟩ as
  | [] => rfl
  | x :: as => by
    show (getA m σ x).run l f :: (argsA m σ as).run l f = evalO ⟨m, lr, f⟩ x :: mapO' ⟨m, lr, f⟩ as
    rw [hi.eval x, hi.args as]
theorem g_tmp_eq (m i : Nat) (l : LL) (f : PT AV) : (g_tmp m i).run l f = tget ⟨m, l, f⟩ i := by
  show _ = tget1 i l f (isP m i)
  unfold g_tmp
  cases isP m i <;> rfl
theorem matL_get {S : List Nat} (hi : Inv m S σ l lr f) (i : Nat) : tget ⟨m, matL l f σ, f⟩ i = tget ⟨m, lr, f⟩ i := by
  rw [← hi.get i]
  have hloc := hi.loc
  clear hi
  show tget1 i (matL l f σ) f (isP m i) = _
  induction σ with
  | nil =>
    show tget1 i l f (isP m i) = (g_tmp m i).run l f
    rw [g_tmp_eq]; rfl
  | cons p σ ih =>
    have ih := ih (fun q hq => hloc q (List.mem_cons_of_mem _ hq))
    have hp := (hloc p List.mem_cons_self).1
    show tget1 i (.cons p.1 (p.2.run l f) (matL l f σ)) f (isP m i) = (Bool.rec (findA m i σ) p.2 (Nat.beq i p.1) : GQ).run l f
    cases hb : Nat.beq i p.1 with
    | true =>
      have e := Nat.eq_of_beq_eq_true hb
      rw [e, hp]
      show (Bool.rec (LL.find p.1 (matL l f σ)) (p.2.run l f) (Nat.beq p.1 p.1) : AV) = p.2.run l f
      rw [Nat.beq_refl]
    | false =>
      rw [← ih]
      cases isP m i with
      | true => rfl
      | false =>
        show (Bool.rec (LL.find i (matL l f σ)) (p.2.run l f) (Nat.beq i p.1) : AV) = LL.find i (matL l f σ)
        rw [hb]
theorem matL_eval {S : List Nat} (hi : Inv m S σ l lr f) : evalO ⟨m, matL l f σ, f⟩ = evalO ⟨m, lr, f⟩ := by
  funext x
  cases x with
  | tmp i => exact matL_get hi i
  | const v => rfl
  | global g => rfl
  | func g => rfl
theorem valA_eq (hs : SameE Z E) {S : List Nat} (hi : Inv m S σ l lr f) (o : Op) (h : AH) : (valA Z m σ o).run E l f h = opA o E ⟨m, lr, f⟩ h := by
  have gen : ∀ o, isCallO o = false → (v_gen Z m σ o).run E l f h = opA o E ⟨m, lr, f⟩ h := fun o hc => opA_congr hs (matL_eval hi) hc h
  cases o <;> first | exact gen _ rfl | skip
  case move x => show Res.ok ((getA m σ x).run l f) h = Res.ok (evalO _ x) h; rw [hi.eval x]
  case assign x => show Res.ok ((getA m σ x).run l f) h = Res.ok (evalO _ x) h; rw [hi.eval x]
  case load ty a => show loadA Z.P ty ((getA m σ a).run l f) h = loadA E.P ty (evalO _ a) h; rw [hi.eval a, hs.P]
  case store ty a x => show storeA Z.P ty ((getA m σ a).run l f) ((getA m σ x).run l f) h = storeA E.P ty (evalO _ a) (evalO _ x) h; rw [hi.eval a, hi.eval x, hs.P]
  case nilCheck x => show nilA ((getA m σ x).run l f) h = nilA (evalO _ x) h; rw [hi.eval x]
  case binOp op ty x y yt => show binO Z op ty h ((getA m σ y).run l f) ((getA m σ x).run l f) = binO E op ty h (evalO _ y) (evalO _ x); rw [hi.eval x, hi.eval y, binO_congr hs]
  case fieldAddr ty x i => show fieldAddrA Z.P ty ((getA m σ x).run l f) i h = fieldAddrA E.P ty (evalO _ x) i h; rw [hi.eval x, hs.P]
  case indexAddr ty x i => show indexAddrA Z.P ty ((getA m σ x).run l f) ((getA m σ i).run l f) h = indexAddrA E.P ty (evalO _ x) (evalO _ i) h; rw [hi.eval x, hi.eval i, hs.P]
  case extract x i => show extA ((getA m σ x).run l f) i h = extA (evalO _ x) i h; rw [hi.eval x]
  case call c =>
    show (callA1 Z m σ c c.callee).run E l f h = callB c.argTypes c.args c.callee E ⟨m, lr, f⟩ h
    cases hcc : c.callee with
    | builtin b => show biA Z b c.argTypes ((argsA m σ c.args.toList).run l f) h = biA E b c.argTypes (mapO' _ c.args.toList) h; rw [hi.args, biA_congr hs]
    | value g => show callV E ((argsA m σ c.args.toList).run l f) h ((getA m σ g).run l f) = callV E (mapO' _ c.args.toList) h (evalO _ g); rw [hi.args, hi.eval]
    | invoke r n =>
      show callB c.argTypes c.args c.callee Z ⟨m, matL l f σ, f⟩ h = Res.er "invoke"
      rw [hcc]; rfl
end
end Go.Ax
end
/- The quick executor: regions in a row. -/
noncomputable section
set_option linter.unusedVariables false
set_option linter.unusedSimpArgs false
namespace Go.Ax
section
variable {m : Nat} {σ : Sg} {l lr : LL} {f : PT AV} {E Z : Env} {h : AH}
theorem bR_congr {α β : Type} {k k' : α → AH → Res β} (hk : ∀ v h, k v h = k' v h) (x : Res α) : bR k x = bR k' x := by
  cases x with
  | ok v h => exact hk v h
  | er s => rfl
theorem bR_bR {α β γ : Type} (k : β → AH → Res γ) (g : α → AH → Res β) (x : Res α) : bR k (bR g x) = bR (fun v h => bR k (g v h)) x := by
  cases x <;> rfl
theorem forceF_eq {α : Type} (k : PT AV → α) (f : PT AV) : forceF k f = k f := by cases f <;> rfl
theorem memN_mem : ∀ {l : List Nat} {n : Nat}, n ∈ l → memN n l = true
  | a :: l, n, h => by
    show (Bool.rec (memN n l) true (Nat.beq n a) : Bool) = true
    cases hb : Nat.beq n a with
    | true => rfl
    | false =>
      rcases List.mem_cons.1 h with e | h
      · rw [e, Nat.beq_refl] at hb; cases hb
      · exact memN_mem h
theorem memN_not {l : List Nat} {n : Nat} (h : not (memN n l) = true) : n ∉ l := fun hm => by
  rw [memN_mem hm] at h; cases h
theorem dsts_cons (o : Oper) (r : List Oper) : dsts (o :: r) = Option.rec (dsts r) (fun d => d :: dsts r) o.dst := rfl
theorem dsts_sub {o : Oper} {r : List Oper} {i : Nat} (h : i ∈ dsts r) : i ∈ dsts (o :: r) := by
  rw [dsts_cons]
  cases o.dst with
  | none => exact h
  | some d => exact List.mem_cons_of_mem _ h
theorem dsts_head {o : Oper} {r : List Oper} {d : Nat} (h : o.dst = some d) : d ∈ dsts (o :: r) := by
  rw [dsts_cons, h]; exact List.mem_cons_self
theorem StableFor.sub {S S' : List Nat} {g : GQ} (hs : ∀ i, i ∈ S' → i ∈ S) (h : StableFor m S g) : StableFor m S' g := fun l f i v hi => h l f i v (hs i hi)
theorem Inv.sub {S S' : List Nat} (hs : ∀ i, i ∈ S' → i ∈ S) (hi : Inv m S σ l lr f) : Inv m S' σ l lr f := ⟨hi.get, fun p hp => (hi.stay p hp).sub hs, fun p hp => ⟨(hi.loc p hp).1, fun h => (hi.loc p hp).2 (hs _ h)⟩⟩
theorem find_cons (i j : Nat) (v : AV) (l : LL) : LL.find i (.cons j v l) = (Bool.rec (LL.find i l) v (Nat.beq i j) : AV) := rfl
theorem beq_ne {i j : Nat} (h : i ≠ j) : Nat.beq i j = false := by
  cases hb : Nat.beq i j with
  | true => exact absurd (Nat.eq_of_beq_eq_true hb) h
  | false => rfl
/-- A getter of an untouched temporary. -/
theorem g_tmp_stable {i : Nat} {S : List Nat} (h : i ∉ S) : StableFor m S (g_tmp m i) := by
  intro l f j v hj
  have hne : i ≠ j := fun e => h (e ▸ hj)
  refine ⟨fun hp => ?_, fun hp => ?_⟩
  · unfold g_tmp
    cases hi : isP m i with
    | true => rfl
    | false =>
      show LL.find i (.cons j v l) = LL.find i l
      rw [find_cons, beq_ne hne]
  · unfold g_tmp
    cases hi : isP m i with
    | true => exact PT.get_set_other _ _ _ (fun e => hne (pos_inj e))
    | false => rfl
theorem stayT_ok {S : List Nat} (i : Nat) : ∀ {σ : Sg}, (∀ p ∈ σ, StableFor m S p.2) → stayT i S σ = true → StableFor m S (findA m i σ)
  | [], _, h => g_tmp_stable (memN_not h)
  | p :: σ, hst, h => by
    have h : (Bool.rec (stayT i S σ) true (Nat.beq i p.1) : Bool) = true := h
    show StableFor m S (Bool.rec (findA m i σ) p.2 (Nat.beq i p.1) : GQ)
    cases hb : Nat.beq i p.1 with
    | true => exact hst p List.mem_cons_self
    | false =>
      rw [hb] at h
      exact stayT_ok i (fun q hq => hst q (List.mem_cons_of_mem _ hq)) h
theorem stayX_ok {S : List Nat} {x : Operand} (hst : ∀ p ∈ σ, StableFor m S p.2) (h : stayX S σ x = true) : StableFor m S (getA m σ x) := by
  cases x with
  | tmp i => exact stayT_ok i hst h
  | const v => exact fun _ _ _ _ _ => ⟨fun _ => rfl, fun _ => rfl⟩
  | global g => exact fun _ _ _ _ _ => ⟨fun _ => rfl, fun _ => rfl⟩
  | func g => exact fun _ _ _ _ _ => ⟨fun _ => rfl, fun _ => rfl⟩
/-- A move that is a name. -/
theorem aliasO_ok {S : List Nat} {o : Oper} {p : Nat × GQ} (e : aliasO m S σ o = some p) : o.guard = none ∧ ∃ x d, (o.op = .move x ∨ o.op = .assign x) ∧ o.dst = some d ∧ p = (d, getA m σ x) ∧ isP m d = false ∧ d ∉ S ∧ stayX S σ x = true := by
  unfold aliasO at e
  cases hg : o.guard with
  | some g => rw [hg] at e; cases e
  | none =>
    rw [hg] at e
    have e : aliasX m S σ o.dst (movedX o.op) = some p := e
    unfold aliasX at e
    cases hm : movedX o.op with
    | none => rw [hm] at e; cases e
    | some x =>
      rw [hm] at e
      cases hd : o.dst with
      | none => rw [hd] at e; cases e
      | some d =>
        rw [hd] at e
        have e : aliasD m S σ x d = some p := e
        unfold aliasD at e
        cases hb : and (not (isP m d)) (and (not (memN d S)) (stayX S σ x)) with
        | false => rw [hb] at e; cases e
        | true =>
          rw [hb] at e
          cases e
          obtain ⟨b1, b2⟩ := and_ok hb
          obtain ⟨b2, b3⟩ := and_ok b2
          refine ⟨rfl, x, d, ?_, rfl, rfl, ?_, memN_not b2, b3⟩
          · unfold movedX at hm
            split at hm <;> cases hm
            · rename_i h; exact .inl h
            · rename_i h; exact .inr h
          · cases hp : isP m d with
            | false => rfl
            | true => rw [hp] at b1; cases b1
/-- The invariant behind a move that is a name. -/
theorem Inv.alias {o : Oper} {r : List Oper} {x : Operand} {d : Nat} (hi : Inv m (dsts (o :: r)) σ l lr f) (hp : isP m d = false) (hd : d ∉ dsts r) (hx : stayX (dsts r) σ x = true) : Inv m (dsts r) ((d, getA m σ x) :: σ) l (.cons d (evalO ⟨m, lr, f⟩ x) lr) f := by
  have hi' := hi.sub (S' := dsts r) fun i h => dsts_sub h
  refine ⟨fun i => ?_, fun p hm => ?_, fun p hm => ?_⟩
  · show (Bool.rec (findA m i σ) (getA m σ x) (Nat.beq i d) : GQ).run l f = tget1 i (.cons d (evalO ⟨m, lr, f⟩ x) lr) f (isP m i)
    cases hb : Nat.beq i d with
    | true =>
      have e := Nat.eq_of_beq_eq_true hb
      rw [e, hp]
      show (getA m σ x).run l f = LL.find d (.cons d _ lr)
      rw [find_cons, Nat.beq_refl]
      exact hi.eval x
    | false =>
      show (findA m i σ).run l f = _
      rw [hi.get i]
      show tget1 i lr f (isP m i) = _
      cases isP m i with
      | true => rfl
      | false =>
        show LL.find i lr = LL.find i (.cons d _ lr)
        rw [find_cons, hb]
  · rcases List.mem_cons.1 hm with rfl | hm
    · exact stayX_ok hi'.stay hx
    · exact hi'.stay p hm
  · rcases List.mem_cons.1 hm with rfl | hm
    · exact ⟨hp, hd⟩
    · exact hi'.loc p hm
theorem findA_none {i : Nat} : ∀ {σ : Sg}, (∀ p ∈ σ, p.1 ≠ i) → findA m i σ = g_tmp m i
  | [], _ => rfl
  | p :: σ, h => by
    show (Bool.rec (findA m i σ) p.2 (Nat.beq i p.1) : GQ) = _
    rw [beq_ne (fun e => h p List.mem_cons_self e.symm)]
    exact findA_none fun q hq => h q (List.mem_cons_of_mem _ hq)
theorem findA_case (i : Nat) : ∀ (σ : Sg), findA m i σ = g_tmp m i ∨ ∃ p ∈ σ, findA m i σ = p.2
  | [] => .inl rfl
  | p :: σ => by
    show (Bool.rec (findA m i σ) p.2 (Nat.beq i p.1) : GQ) = _ ∨ ∃ q ∈ p :: σ, (Bool.rec (findA m i σ) p.2 (Nat.beq i p.1) : GQ) = q.2
    cases Nat.beq i p.1 with
    | true => exact .inr ⟨p, List.mem_cons_self, rfl⟩
    | false =>
      rcases findA_case i σ with h | ⟨q, hq, h⟩
      · exact .inl h
      · exact .inr ⟨q, List.mem_cons_of_mem _ hq, h⟩
/-- The invariant behind a value put into a local temporary. -/
theorem Inv.put_loc {S : List Nat} {d : Nat} (hi : Inv m S σ l lr f) (hd : d ∈ S) (hp : isP m d = false) (v : AV) : Inv m S σ (.cons d v l) (.cons d v lr) f := by
  refine ⟨fun i => ?_, hi.stay, hi.loc⟩
  by_cases e : i = d
  · subst e
    rw [findA_none fun p hm h => (hi.loc p hm).2 (by rw [h]; exact hd)]
    rw [g_tmp_eq]
    show tget1 i _ f (isP m i) = tget1 i _ f (isP m i)
    rw [hp]
    show LL.find i (.cons i v l) = LL.find i (.cons i v lr)
    rw [find_cons, find_cons, Nat.beq_refl]
  · have hr : tget ⟨m, .cons d v lr, f⟩ i = tget ⟨m, lr, f⟩ i := by
      show tget1 i _ f (isP m i) = tget1 i _ f (isP m i)
      cases isP m i with
      | true => rfl
      | false =>
        show LL.find i (.cons d v lr) = LL.find i lr
        rw [find_cons, beq_ne e]
    rw [hr, ← hi.get i]
    rcases findA_case (m := m) i σ with h | ⟨p, hm, h⟩
    · rw [h, g_tmp_eq, g_tmp_eq]
      show tget1 i _ f (isP m i) = tget1 i _ f (isP m i)
      cases isP m i with
      | true => rfl
      | false =>
        show LL.find i (.cons d v l) = LL.find i l
        rw [find_cons, beq_ne e]
    · rw [h]
      exact (hi.stay p hm l f d v hd).1 hp
theorem Inv.put_fr {S : List Nat} {d : Nat} (hi : Inv m S σ l lr f) (hd : d ∈ S) (hp : isP m d = true) (v : AV) : Inv m S σ l lr (PT.set .undef v (pos d) f) := by
  refine ⟨fun i => ?_, hi.stay, hi.loc⟩
  by_cases e : i = d
  · subst e
    rw [findA_none fun p hm h => (hi.loc p hm).2 (by rw [h]; exact hd)]
    rw [g_tmp_eq]
    show tget1 i _ _ (isP m i) = tget1 i _ _ (isP m i)
    rw [hp]
    rfl
  · have hr : tget ⟨m, lr, PT.set .undef v (pos d) f⟩ i = tget ⟨m, lr, f⟩ i := by
      show tget1 i _ _ (isP m i) = tget1 i _ _ (isP m i)
      cases isP m i with
      | true => exact PT.get_set_other _ _ _ (fun h => e (pos_inj h))
      | false => rfl
    rw [hr, ← hi.get i]
    rcases findA_case (m := m) i σ with h | ⟨p, hm, h⟩
    · rw [h, g_tmp_eq, g_tmp_eq]
      show tget1 i _ _ (isP m i) = tget1 i _ _ (isP m i)
      cases isP m i with
      | true => exact PT.get_set_other _ _ _ (fun h => e (pos_inj h))
      | false => rfl
    · rw [h]
      exact (hi.stay p hm l f d v hd).2 hp
/-- A node that puts a value into its place. -/
theorem l_dst_eq {o : Oper} {r : List Oper} {v : VQ} {x : Res AV} {R : LQ} {K : Tm → AH → Res Ex} (hi : Inv m (dsts (o :: r)) σ l lr f) (hv : v.run E l f h = x)
    (hR : ∀ l lr f h, Inv m (dsts r) σ l lr f → R.run E l f h = K ⟨m, lr, f⟩ h) : (l_dst m v R o.dst).run E l f h = bR (fun v h => K (putD o.dst v ⟨m, lr, f⟩) h) x := by
  subst hv
  cases hd : o.dst with
  | none =>
    show bR (fun _ h => R.run E l f h) (v.run E l f h) = bR (fun v h => K ⟨m, lr, f⟩ h) (v.run E l f h)
    exact bR_congr (fun v h => hR _ _ _ _ (hi.sub fun i hm => dsts_sub hm)) _
  | some d =>
    have hm := dsts_head (r := r) hd
    show (Bool.rec (l_loc v d R) (l_fr v d R) (isP m d) : LQ).run E l f h = bR (fun v h => K (tset ⟨m, lr, f⟩ d v) h) (v.run E l f h)
    cases hp : isP m d with
    | false =>
      show bR (fun x h => R.run E (.cons d x l) f h) (v.run E l f h) = _
      refine bR_congr (fun x h => ?_) _
      show _ = K (tset1 d x m lr f (isP m d)) h
      rw [hp]
      exact hR _ _ _ _ ((hi.put_loc hm hp x).sub fun i hm => dsts_sub hm)
    | true =>
      show bR (fun x h => forceF (fun f => R.run E l f h) (PT.set .undef x (pos d) f)) (v.run E l f h) = _
      refine bR_congr (fun x h => ?_) _
      rw [forceF_eq]
      show _ = K (tset1 d x m lr f (isP m d)) h
      rw [hp]
      exact hR _ _ _ _ ((hi.put_fr hm hp x).sub fun i hm => dsts_sub hm)
theorem opsA_eq (hs : SameE Z E) {l0 : List Oper} : ∀ {r : List Oper} {σ : Sg} {l lr : LL} {f : PT AV} {h : AH}, Inv m (dsts r) σ l lr f → (opsA Z m l0 r σ).run E l f h = bR endK (runOps E l0 r ⟨m, lr, f⟩ h)
  | [], σ, l, lr, f, h, hi => by
    show Res.ok ⟨.n, ⟨m, .nil, f⟩⟩ h = endK ⟨m, lr, f⟩ h
    unfold endK
    rw [forceT_eq]; rfl
  | o :: r, σ, l, lr, f, h, hi => by
    have ih : ∀ σ l lr f h, Inv m (dsts r) σ l lr f → (opsA Z m l0 r σ).run E l f h = bR endK (runOps E l0 r ⟨m, lr, f⟩ h) := fun σ l lr f h hi => opsA_eq hs hi
    show (l_al Z m l0 σ o (opsA Z m l0 r) (aliasO m (dsts r) σ o)).run E l f h = bR endK (runW E o (runOps E l0 r) ⟨m, lr, f⟩ h (guardA l0 ⟨m, lr, f⟩ o.guard))
    cases ha : aliasO m (dsts r) σ o with
    | some p =>
      obtain ⟨hg, x, d, hop, hd, rfl, hp, hnd, hx⟩ := aliasO_ok ha
      rw [hg]
      show (opsA Z m l0 r ((d, getA m σ x) :: σ)).run E l f h = bR endK (bR (runK o.dst ⟨m, lr, f⟩ (runOps E l0 r)) (opA o.op E ⟨m, lr, f⟩ h))
      have hopv : opA o.op E ⟨m, lr, f⟩ h = .ok (evalO ⟨m, lr, f⟩ x) h := by rcases hop with hop | hop <;> rw [hop] <;> rfl
      rw [hopv, hd]
      show _ = bR endK (forceT (fun t => runOps E l0 r t h) (tset ⟨m, lr, f⟩ d (evalO ⟨m, lr, f⟩ x)))
      rw [forceT_eq]
      have : tset ⟨m, lr, f⟩ d (evalO ⟨m, lr, f⟩ x) = ⟨m, .cons d (evalO ⟨m, lr, f⟩ x) lr, f⟩ := by
        show tset1 d _ m lr f (isP m d) = _
        rw [hp]; rfl
      rw [this]
      exact ih _ _ _ _ _ (hi.alias hp hnd hx)
    | none =>
      show (l_op Z m l0 σ o (opsA Z m l0 r σ)).run E l f h = _
      -- the node without a guard
      have plain : (l_dst m (valA Z m σ o.op) (opsA Z m l0 r σ) o.dst).run E l f h = bR endK (bR (runK o.dst ⟨m, lr, f⟩ (runOps E l0 r)) (opA o.op E ⟨m, lr, f⟩ h)) := by
        rw [l_dst_eq (K := fun t h => bR endK (runOps E l0 r t h)) hi (valA_eq hs hi o.op h) (fun l lr f h hi => ih σ l lr f h hi), bR_bR]
        refine bR_congr (fun v h => ?_) _
        show _ = bR endK (forceT (fun t => runOps E l0 r t h) (putD o.dst v ⟨m, lr, f⟩))
        rw [forceT_eq]
      have skip : (l_dst m gone (opsA Z m l0 r σ) o.dst).run E l f h = bR endK (forceT (fun t => runOps E l0 r t h) (putD o.dst .gone ⟨m, lr, f⟩)) := by
        rw [l_dst_eq (K := fun t h => bR endK (runOps E l0 r t h)) (x := .ok .gone h) hi rfl (fun l lr f h hi => ih σ l lr f h hi), forceT_eq]
        rfl
      unfold l_op
      cases hg : o.guard with
      | none => exact plain
      | some g =>
        show (l_gd m σ g.2 (l_dst m (valA Z m σ o.op) (opsA Z m l0 r σ) o.dst) (l_dst m gone (opsA Z m l0 r σ) o.dst) (nthO l0 g.1)).run E l f h = bR endK (runW E o (runOps E l0 r) ⟨m, lr, f⟩ h (guardG l0 ⟨m, lr, f⟩ g))
        unfold guardG
        cases nthO l0 g.1 with
        | none => rfl
        | some d =>
          show (Option.rec (motive := fun _ => Res Ex) (.er "guard") (l_gB (l_dst m (valA Z m σ o.op) (opsA Z m l0 r σ) o.dst) (l_dst m gone (opsA Z m l0 r σ) o.dst) E l f h) (wantB g.2 ((findA m d σ).run l f)) : Res Ex) = bR endK (runW E o (runOps E l0 r) ⟨m, lr, f⟩ h (wantB g.2 (tget ⟨m, lr, f⟩ d)))
          rw [hi.get d]
          cases wantB g.2 (tget ⟨m, lr, f⟩ d) with
          | none => rfl
          | some b =>
            cases b with
            | true => exact plain
            | false => exact skip
end
end Go.Ax
end
/- The quick executor: regions that draw; code; calls. -/
noncomputable section
set_option linter.unusedVariables false
set_option linter.unusedSimpArgs false
namespace Go.Ax
section
variable {m : Nat} {σ : Sg} {l lr : LL} {f : PT AV} {E Z : Env} {h : AH}
/-- What does not look at the heap. -/
def Pu (g : AH → Res AV) : Prop := ∃ x : Op1 AV, ∀ h, g h = ofOp1 h x
theorem Pu.ok (v : AV) : Pu fun h => .ok v h := ⟨.ok v, fun _ => rfl⟩
theorem Pu.er (s : String) : Pu fun _ => .er s := ⟨.er s, fun _ => rfl⟩
theorem Pu.op (x : Op1 AV) : Pu fun h => ofOp1 h x := ⟨x, fun _ => rfl⟩
theorem Pu.ck {g : AH → Res AV} (hg : Pu g) (b : Bool) : Pu fun h => Go.Ax.ck (g h) b := by
  cases b with
  | true => exact hg
  | false => exact Pu.er _
theorem Pu.some {α : Type} {k : α → AH → Res AV} (hk : ∀ a, Pu (k a)) (o : Option α) : Pu fun h => onSome (fun a => k a h) o := by
  cases o with
  | none => exact Pu.er _
  | some a => exact hk a
theorem partA_pu (P : Program) (t : TypeId) (l : List AV) (off : Nat) : Pu (partA P t l off) := Pu.ck (Pu.ok _) _
theorem pureO_ok (E : Env) (t : Tm) {o : Op} (hp : pureO o = true) : Pu (opA o E t) := by
  cases o <;> first | (cases hp; done) | skip
  case move x => exact Pu.ok _
  case assign x => exact Pu.ok _
  case pick c a b =>
    show Pu fun h => pickB (evalO t a) (evalO t b) h (evalO t c)
    cases evalO t c <;> first | exact Pu.er _ | exact Pu.ok _
  case nilCheck x =>
    show Pu fun h => nilA (evalO t x) h
    cases evalO t x <;> first | exact Pu.er _ | exact Pu.ok _
  case binOp op ty x y yt =>
    show Pu fun h => binO E op ty h (evalO t y) (evalO t x)
    cases evalO t x <;> first | exact Pu.op _ | skip
    rename_i l
    show Pu fun h => eqAgg E op ty (.agg l) (evalO t y) h
    refine Pu.ck ?_ _
    cases op <;> first | exact Pu.op _ | exact Pu.er _
  case unOp op ty x => exact Pu.op _
  case makeFunc g fi ca =>
    show Pu fun h => mkFn fi ca t h g
    cases g <;> first | exact Pu.ok _ | exact Pu.er _
  case fieldAddr ty x i =>
    show Pu fun h => fieldAddrA E.P ty (evalO t x) i h
    cases evalO t x <;> first | exact Pu.er _ | skip
    exact Pu.some (fun _ => Pu.ck (Pu.ok _) _) _
  case field ty x i =>
    show Pu fun h => fieldA E.P ty (evalO t x) i h
    cases evalO t x <;> first | exact Pu.er _ | skip
    exact Pu.some (fun _ => partA_pu _ _ _ _) _
  case indexAddr ty x i =>
    show Pu fun h => onSome (fun n => onSome (indexA E.P (evalO t x) n h) (rowOf E.P ty)) (natO (evalO t i))
    refine Pu.some (k := fun n h => onSome (indexA E.P (evalO t x) n h) (rowOf E.P ty)) (fun n => Pu.some (k := fun r h => indexA E.P (evalO t x) n h r) (fun r => ?_) _) _
    show Pu fun h => indexA E.P (evalO t x) n h r
    cases r <;> cases evalO t x <;> first | exact Pu.er _ | exact Pu.ck (Pu.ok _) _
  case extract x i =>
    show Pu fun h => extA (evalO t x) i h
    cases evalO t x <;> first | exact Pu.er _ | skip
    exact Pu.some (fun _ => Pu.ok _) _
theorem pureO_wk {o : Op} (hp : pureO o = true) (t : Tm) : wkO o t = none := by
  cases o <;> first | (cases hp; done) | rfl
theorem merge_reset (h : AH) : mergeH (reset h) h = h := by cases h; rfl
theorem recD_reset (j : Nat) (h : AH) (rs : List Rec) : recD j (reset h) rs = rs := by cases h; rfl
theorem disjP_nil (l : List Pos) : disjP [] l = true := rfl
theorem pairB_reset (E : Env) (l0 : List Oper) (j : Nat) (h : AH) (rs : List Rec) : allL (pairB E l0 j (reset h)) rs = true := by
  have one : ∀ r, pairB E l0 j (reset h) r = true := by
    intro r
    unfold pairB
    cases r.wk with
    | none =>
      show or (and (disjP (reset h).acc r.dirty) (disjP (reset h).dirty r.acc)) _ = true
      rw [reset_acc, reset_dirty]; rfl
    | some k =>
      show or (not (memP k.b (reset h).dirty)) _ = true
      rw [reset_dirty]; rfl
  induction rs with
  | nil => rfl
  | cons r rs ih =>
    show (Bool.rec false (allL (pairB E l0 j (reset h)) rs) (pairB E l0 j (reset h) r) : Bool) = true
    rw [one r]; exact ih
theorem lookObj_congr (hs : SameE Z E) (ty : TypeId) (k : AV) (o : AObj) : lookObj Z ty k o = lookObj E ty k o := by
  unfold lookObj lookM
  rw [hs.P, hs.rng, hs.K]
theorem pairB_congr (hs : SameE Z E) (l0 : List Oper) (j : Nat) (h : AH) : pairB Z l0 j h = pairB E l0 j h := by
  funext r
  unfold pairB
  cases r.wk with
  | none => rfl
  | some k =>
    show or _ (or _ (sameR k.v (lookObj Z k.ty k.k _))) = or _ (or _ (sameR k.v (lookObj E k.ty k.k _)))
    rw [lookObj_congr hs]
/-- A value put into its place. -/
theorem d_put_eq {o : Oper} {r : List Oper} {v : AV} {K : Tm → Res Ex} {k : LL → PT AV → Res Ex} (hi : Inv m (dsts (o :: r)) σ l lr f) (hR : ∀ l lr f, Inv m (dsts r) σ l lr f → k l f = K ⟨m, lr, f⟩) :
    d_put m o.dst k l f v = K (putD o.dst v ⟨m, lr, f⟩) := by
  cases hd : o.dst with
  | none => exact hR _ _ _ (hi.sub fun i hm => dsts_sub hm)
  | some d =>
    have hm := dsts_head (r := r) hd
    show (Bool.rec (k (.cons d v l) f) (forceF (fun f => k l f) (PT.set .undef v (pos d) f)) (isP m d) : Res Ex) = K (tset1 d v m lr f (isP m d))
    cases hp : isP m d with
    | false => exact hR _ _ _ ((hi.put_loc hm hp v).sub fun i hm => dsts_sub hm)
    | true =>
      show forceF (fun f => k l f) (PT.set .undef v (pos d) f) = _
      rw [forceF_eq]
      exact hR _ _ _ ((hi.put_fr hm hp v).sub fun i hm => dsts_sub hm)
theorem p_dst_eq {v : VQ} {R : RQ} (d : Option Tmp) (rs : List Rec) : (p_dst m v R d).run E l f h rs = bR (fun x _ => d_put m d (fun l f => R.run E l f h rs) l f x) (v.run E l f h) := by
  cases d with
  | none => rfl
  | some d =>
    show (Bool.rec (p_loc v d R) (p_fr v d R) (isP m d) : RQ).run E l f h rs = bR (fun x _ => (Bool.rec (R.run E (.cons d x l) f h rs) (forceF (fun f => R.run E l f h rs) (PT.set .undef x (pos d) f)) (isP m d) : Res Ex)) (v.run E l f h)
    cases isP m d <;> rfl
theorem s_dst_eq {v : VQ} {R : RQ} (l0 : List Oper) (j : Nat) (d : Option Tmp) (rs : List Rec) : (s_dst Z m l0 j v R d).run E l f h rs = bR (fun x h1 => ck (d_put m d (fun l f => R.run E l f (mergeH h1 h) (recD j h1 rs)) l f x) (allL (pairB Z l0 j h1) rs)) (v.run E l f (reset h)) := by
  cases d with
  | none => rfl
  | some d =>
    show (Bool.rec (s_loc Z l0 j v d R) (s_fr Z l0 j v d R) (isP m d) : RQ).run E l f h rs = bR (fun x h1 => ck (Bool.rec (R.run E (.cons d x l) f (mergeH h1 h) (recD j h1 rs)) (forceF (fun f => R.run E l f (mergeH h1 h) (recD j h1 rs)) (PT.set .undef x (pos d) f)) (isP m d) : Res Ex) (allL (pairB Z l0 j h1) rs)) (v.run E l f (reset h))
    cases isP m d <;> rfl
theorem bR_ck {α β : Type} (k : α → AH → Res β) (x : Res α) (b : Bool) : bR k (ck x b) = ck (bR k x) b := by cases b <;> rfl
theorem opsR_eq (hs : SameE Z E) {l0 : List Oper} : ∀ {r : List Oper} {j : Nat} {σ : Sg} {l lr : LL} {f : PT AV} {h : AH} {rs : List Rec}, Inv m (dsts r) σ l lr f → (opsR Z m l0 r j σ).run E l f h rs = bR endK (runD E l0 r j ⟨m, lr, f⟩ h rs)
  | [], j, σ, l, lr, f, h, rs, hi => by
    show Res.ok ⟨.n, ⟨m, .nil, f⟩⟩ h = endK ⟨m, lr, f⟩ h
    unfold endK
    rw [forceT_eq]; rfl
  | o :: r, j, σ, l, lr, f, h, rs, hi => by
    have ih : ∀ σ l lr f h rs, Inv m (dsts r) σ l lr f → (opsR Z m l0 r (Nat.succ j) σ).run E l f h rs = bR endK (runD E l0 r (Nat.succ j) ⟨m, lr, f⟩ h rs) := fun σ l lr f h rs hi => opsR_eq hs hi
    show (r_al Z m l0 σ j o (opsR Z m l0 r) (aliasO m (dsts r) σ o)).run E l f h rs = bR endK (stepD E l0 o (runD E l0 r) j ⟨m, lr, f⟩ h rs (guardA l0 ⟨m, lr, f⟩ o.guard))
    -- a step that does not look at the heap
    have pureStep : ∀ x : Op1 AV, (∀ h, opA o.op E ⟨m, lr, f⟩ h = ofOp1 h x) → wkO o.op ⟨m, lr, f⟩ = none → stepW E l0 o (runD E l0 r) j ⟨m, lr, f⟩ h rs (wkO o.op ⟨m, lr, f⟩) = bR (fun v _ => forceT (fun t => runD E l0 r (Nat.succ j) t h rs) (putD o.dst v ⟨m, lr, f⟩)) (ofOp1 h x) := by
      intro x hx hw
      rw [hw]
      show bR (stepK E l0 o (runD E l0 r) j ⟨m, lr, f⟩ h rs) (opA o.op E ⟨m, lr, f⟩ (reset h)) = _
      rw [hx]
      cases x with
      | er s => rfl
      | ok v =>
        show ck (forceT (fun t => runD E l0 r (Nat.succ j) t (mergeH (reset h) h) (recD j (reset h) rs)) (putD o.dst v ⟨m, lr, f⟩)) (allL (pairB E l0 j (reset h)) rs) = _
        rw [pairB_reset, merge_reset, recD_reset]
        rfl
    cases ha : aliasO m (dsts r) σ o with
    | some p =>
      obtain ⟨hg, x, d, hop, hd, rfl, hp, hnd, hx⟩ := aliasO_ok ha
      rw [hg]
      show (opsR Z m l0 r (Nat.succ j) ((d, getA m σ x) :: σ)).run E l f h rs = bR endK (stepW E l0 o (runD E l0 r) j ⟨m, lr, f⟩ h rs (wkO o.op ⟨m, lr, f⟩))
      have hpu : pureO o.op = true := by rcases hop with hop | hop <;> rw [hop] <;> rfl
      have hopv : ∀ h, opA o.op E ⟨m, lr, f⟩ h = ofOp1 h (.ok (evalO ⟨m, lr, f⟩ x)) := by intro h; rcases hop with hop | hop <;> rw [hop] <;> rfl
      rw [pureStep _ hopv (pureO_wk hpu _), hd]
      show _ = bR endK (forceT (fun t => runD E l0 r (Nat.succ j) t h rs) (tset ⟨m, lr, f⟩ d (evalO ⟨m, lr, f⟩ x)))
      rw [forceT_eq]
      have : tset ⟨m, lr, f⟩ d (evalO ⟨m, lr, f⟩ x) = ⟨m, .cons d (evalO ⟨m, lr, f⟩ x) lr, f⟩ := by
        show tset1 d _ m lr f (isP m d) = _
        rw [hp]; rfl
      rw [this]
      exact ih _ _ _ _ _ _ (hi.alias hp hnd hx)
    | none =>
      show (r_op Z m l0 σ j o (opsR Z m l0 r (Nat.succ j) σ)).run E l f h rs = _
      have hput : ∀ (v : AV) (h : AH) (rs : List Rec), d_put m o.dst (fun l f => (opsR Z m l0 r (Nat.succ j) σ).run E l f h rs) l f v = bR endK (forceT (fun t => runD E l0 r (Nat.succ j) t h rs) (putD o.dst v ⟨m, lr, f⟩)) := by
        intro v h rs
        rw [forceT_eq]
        exact d_put_eq (K := fun t => bR endK (runD E l0 r (Nat.succ j) t h rs)) hi fun l lr f hi => ih σ l lr f h rs hi
      -- without a guard
      have full : (s_dst Z m l0 j (valA Z m σ o.op) (opsR Z m l0 r (Nat.succ j) σ) o.dst).run E l f h rs = bR endK (stepW E l0 o (runD E l0 r) j ⟨m, lr, f⟩ h rs none) := by
        rw [s_dst_eq, valA_eq hs hi]
        show _ = bR endK (bR (stepK E l0 o (runD E l0 r) j ⟨m, lr, f⟩ h rs) (opA o.op E ⟨m, lr, f⟩ (reset h)))
        rw [bR_bR]
        refine bR_congr (fun v h1 => ?_) _
        show ck _ _ = bR endK (ck _ _)
        rw [bR_ck, pairB_congr hs, hput]
      have plain : (r_opB Z m l0 σ j o (opsR Z m l0 r (Nat.succ j) σ) (pureO o.op)).run E l f h rs = bR endK (stepW E l0 o (runD E l0 r) j ⟨m, lr, f⟩ h rs (wkO o.op ⟨m, lr, f⟩)) := by
        cases hpu : pureO o.op with
        | true =>
          show (p_dst m (valA Z m σ o.op) (opsR Z m l0 r (Nat.succ j) σ) o.dst).run E l f h rs = _
          obtain ⟨x, hx⟩ := pureO_ok E ⟨m, lr, f⟩ hpu
          rw [p_dst_eq, valA_eq hs hi, pureStep x hx (pureO_wk hpu _), hx, bR_bR]
          exact bR_congr (fun v _ => hput v h rs) _
        | false =>
          show (Bool.rec (s_dst Z m l0 j (valA Z m σ o.op) (opsR Z m l0 r (Nat.succ j) σ) o.dst) (r_weak Z m l0 σ j o (opsR Z m l0 r (Nat.succ j) σ) (s_dst Z m l0 j (valA Z m σ o.op) (opsR Z m l0 r (Nat.succ j) σ) o.dst)) (isLk o.op) : RQ).run E l f h rs = _
          cases hl : isLk o.op with
          | false =>
            have hw : wkO o.op ⟨m, lr, f⟩ = none := by
              unfold wkO
              split
              · rename_i h1; rw [h1] at hl; cases hl
              · rfl
            rw [hw]
            exact full
          | true =>
            have hw : wkO o.op ⟨m, matL l f σ, f⟩ = wkO o.op ⟨m, lr, f⟩ := by
              unfold wkO wkM
              rw [matL_eval hi]
            show (Option.rec (motive := fun _ => Res Ex) ((s_dst Z m l0 j (valA Z m σ o.op) (opsR Z m l0 r (Nat.succ j) σ) o.dst).run E l f h rs) (w_some Z m l0 j o.dst (opsR Z m l0 r (Nat.succ j) σ) E l f h rs) (wkO o.op ⟨m, matL l f σ, f⟩) : Res Ex) = _
            rw [hw]
            cases wkO o.op ⟨m, lr, f⟩ with
            | none => exact full
            | some k =>
              show bR (w_got m l0 j o.dst (opsR Z m l0 r (Nat.succ j) σ) E l f h rs k) (lookObj Z k.ty k.k (PT.get .none k.b h.t)) = bR endK (bR (weakK l0 o (runD E l0 r) j ⟨m, lr, f⟩ h rs k) (lookObj E k.ty k.k (PT.get .none k.b h.t)))
              rw [lookObj_congr hs, bR_bR]
              refine bR_congr (fun v h1 => ?_) _
              show ck _ _ = bR endK (ck _ _)
              rw [bR_ck, hput]
      have skip : (p_dst m gone (opsR Z m l0 r (Nat.succ j) σ) o.dst).run E l f h rs = bR endK (forceT (fun t => runD E l0 r (Nat.succ j) t h rs) (putD o.dst .gone ⟨m, lr, f⟩)) := by
        rw [p_dst_eq]
        exact hput _ _ _
      unfold r_op
      cases hg : o.guard with
      | none => exact plain
      | some g =>
        show (r_gd m σ g.2 (r_opB Z m l0 σ j o (opsR Z m l0 r (Nat.succ j) σ) (pureO o.op)) (p_dst m gone (opsR Z m l0 r (Nat.succ j) σ) o.dst) (nthO l0 g.1)).run E l f h rs = bR endK (stepD E l0 o (runD E l0 r) j ⟨m, lr, f⟩ h rs (guardG l0 ⟨m, lr, f⟩ g))
        unfold guardG
        cases nthO l0 g.1 with
        | none => rfl
        | some d =>
          show (Option.rec (motive := fun _ => Res Ex) (.er "guard") (r_gB (r_opB Z m l0 σ j o (opsR Z m l0 r (Nat.succ j) σ) (pureO o.op)) (p_dst m gone (opsR Z m l0 r (Nat.succ j) σ) o.dst) E l f h rs) (wantB g.2 ((findA m d σ).run l f)) : Res Ex) = bR endK (stepD E l0 o (runD E l0 r) j ⟨m, lr, f⟩ h rs (wantB g.2 (tget ⟨m, lr, f⟩ d)))
          rw [hi.get d]
          cases wantB g.2 (tget ⟨m, lr, f⟩ d) with
          | none => rfl
          | some b =>
            cases b with
            | true => exact plain
            | false => exact skip
theorem Inv.start (S : List Nat) (l : LL) (f : PT AV) : Inv m S [] l l f := ⟨fun i => g_tmp_eq m i l f, by simp, by simp⟩
end
/-- Masks stay. -/
theorem mask_tset (t : Tm) (i : Nat) (v : AV) : (tset t i v).mask = t.mask := by
  cases t with
  | mk m l f =>
    show (tset1 i v m l f (isP m i)).mask = m
    cases isP m i <;> rfl
theorem mask_putD (d : Option Tmp) (v : AV) (t : Tm) : (putD d v t).mask = t.mask := by
  cases d with
  | none => rfl
  | some i => exact mask_tset t i v
theorem mask_drop (t : Tm) : (drop t).mask = t.mask := by cases t; rfl
theorem mask_runOps {E : Env} {l0 : List Oper} : ∀ {l : List Oper} {t : Tm} {h : AH} {t' : Tm} {h' : AH}, runOps E l0 l t h = .ok t' h' → t'.mask = t.mask
  | [], t, h, t', h', e => by cases e; rfl
  | o :: l, t, h, t', h', e => by
    have e : runW E o (runOps E l0 l) t h (guardA l0 t o.guard) = .ok t' h' := e
    cases hg : guardA l0 t o.guard with
    | none => rw [hg] at e; cases e
    | some b =>
      rw [hg] at e
      cases b with
      | false =>
        have e : forceT (fun t => runOps E l0 l t h) (putD o.dst .gone t) = .ok t' h' := e
        rw [forceT_eq] at e
        rw [mask_runOps e, mask_putD]
      | true =>
        have e : bR (runK o.dst t (runOps E l0 l)) (opA o.op E t h) = .ok t' h' := e
        obtain ⟨v, h1, _, e⟩ := bR_ok e
        have e : forceT (fun t => runOps E l0 l t h1) (putD o.dst v t) = .ok t' h' := e
        rw [forceT_eq] at e
        rw [mask_runOps e, mask_putD]
theorem mask_runD {E : Env} {l0 : List Oper} : ∀ {l : List Oper} {j : Nat} {t : Tm} {h : AH} {rs : List Rec} {t' : Tm} {h' : AH}, runD E l0 l j t h rs = .ok t' h' → t'.mask = t.mask
  | [], j, t, h, rs, t', h', e => by cases e; rfl
  | o :: l, j, t, h, rs, t', h', e => by
    have e : stepD E l0 o (runD E l0 l) j t h rs (guardA l0 t o.guard) = .ok t' h' := e
    cases hg : guardA l0 t o.guard with
    | none => rw [hg] at e; cases e
    | some b =>
      rw [hg] at e
      cases b with
      | false =>
        have e : forceT (fun t => runD E l0 l (Nat.succ j) t h rs) (putD o.dst .gone t) = .ok t' h' := e
        rw [forceT_eq] at e
        rw [mask_runD e, mask_putD]
      | true =>
        have e : stepW E l0 o (runD E l0 l) j t h rs (wkO o.op t) = .ok t' h' := e
        cases hw : wkO o.op t with
        | none =>
          rw [hw] at e
          have e : bR (stepK E l0 o (runD E l0 l) j t h rs) (opA o.op E t (reset h)) = .ok t' h' := e
          obtain ⟨v, h1, _, e⟩ := bR_ok e
          have hck := ck_ok e; clear e; obtain ⟨_, e⟩ := hck
          rw [forceT_eq] at e
          rw [mask_runD e, mask_putD]
        | some k =>
          rw [hw] at e
          have e : bR (weakK l0 o (runD E l0 l) j t h rs k) (lookObj E k.ty k.k (PT.get .none k.b h.t)) = .ok t' h' := e
          obtain ⟨v, h1, _, e⟩ := bR_ok e
          have hck := ck_ok e; clear e; obtain ⟨_, e⟩ := hck
          rw [forceT_eq] at e
          rw [mask_runD e, mask_putD]
theorem codeQ_loop (Z : Env) (m : Nat) (a : Code) : codeQ Z m (.loop a) = ⟨c_loop (codeQ Z m a).run⟩ := id rfl
theorem runC_loop (a : Code) : runC (.loop a) = c_loop (runC a) := id rfl
/-- Code. -/
theorem codeQ_eq {Z E : Env} (hs : SameE Z E) {m : Nat} : ∀ (c : Code) {t : Tm} {h : AH}, t.mask = m → (codeQ Z m c).run E t h = runC c E t h ∧ ∀ x h', runC c E t h = .ok x h' → x.t.mask = m := by
  intro c
  induction c with
  | skip => intro t h ht; exact ⟨rfl, fun x h' e => by cases e; exact ht⟩
  | region id ops d =>
    intro t h ht
    obtain ⟨m', l, f⟩ := t
    have ht : m' = m := ht
    subst ht
    cases d with
    | false =>
      refine ⟨opsA_eq hs (Inv.start _ l f), fun x h' e => ?_⟩
      have e : bR endK (runOps E ops.toList ops.toList ⟨m', l, f⟩ h) = .ok x h' := e
      obtain ⟨t1, h1, e1, e⟩ := bR_ok e
      unfold endK at e
      rw [forceT_eq] at e
      cases e
      show (drop t1).mask = m'
      rw [mask_drop, mask_runOps e1]
    | true =>
      refine ⟨opsR_eq hs (Inv.start _ l f), fun x h' e => ?_⟩
      have e : bR endK (runD E ops.toList ops.toList 0 ⟨m', l, f⟩ h []) = .ok x h' := e
      obtain ⟨t1, h1, e1, e⟩ := bR_ok e
      unfold endK at e
      rw [forceT_eq] at e
      cases e
      show (drop t1).mask = m'
      rw [mask_drop, mask_runD e1]
  | seq a b iha ihb =>
    intro t h ht
    obtain ⟨ea, ma⟩ := iha (h := h) ht
    have key : ∀ x1 h1, runC a E t h = .ok x1 h1 → seqK (codeQ Z m b).run E x1 h1 = seqK (runC b) E x1 h1 ∧ ∀ x h', seqK (runC b) E x1 h1 = .ok x h' → x.t.mask = m := by
      intro x1 h1 e1
      have hm := ma x1 h1 e1
      show seqX (codeQ Z m b).run E h1 x1 x1.k = seqX (runC b) E h1 x1 x1.k ∧ ∀ x h', seqX (runC b) E h1 x1 x1.k = .ok x h' → _
      cases x1.k with
      | n => exact ihb hm
      | x id => exact ⟨rfl, fun x h' e => by cases e; exact hm⟩
      | r => exact ⟨rfl, fun x h' e => by cases e; exact hm⟩
    refine ⟨?_, fun x h' e => ?_⟩
    · show bR (seqK (codeQ Z m b).run E) ((codeQ Z m a).run E t h) = bR (seqK (runC b) E) (runC a E t h)
      rw [ea]
      cases e1 : runC a E t h with
      | er s => rfl
      | ok x1 h1 => exact (key x1 h1 e1).1
    · have e : bR (seqK (runC b) E) (runC a E t h) = .ok x h' := e
      obtain ⟨x1, h1, e1, e⟩ := bR_ok e
      exact (key x1 h1 e1).2 x h' e
  | cond c a b iha ihb =>
    intro t h ht
    obtain ⟨m', l, f⟩ := t
    have ht : m' = m := ht
    subst ht
    obtain ⟨ea, ma⟩ := iha (t := ⟨m', l, f⟩) (h := h) rfl
    obtain ⟨eb, mb⟩ := ihb (t := ⟨m', l, f⟩) (h := h) rfl
    have hc : (getA m' [] c).run l f = evalO ⟨m', l, f⟩ c := (Inv.start [] l f).eval c
    refine ⟨?_, fun x h' e => ?_⟩
    · show condB (codeQ Z m' a).run (codeQ Z m' b).run E ⟨m', l, f⟩ h ((getA m' [] c).run l f) = condB (runC a) (runC b) E ⟨m', l, f⟩ h (evalO ⟨m', l, f⟩ c)
      rw [hc]
      cases evalO ⟨m', l, f⟩ c <;> first | rfl | skip
      rename_i bb
      cases bb with
      | true => exact ea
      | false => exact eb
    · have e : condB (runC a) (runC b) E ⟨m', l, f⟩ h (evalO ⟨m', l, f⟩ c) = .ok x h' := e
      cases hv : evalO ⟨m', l, f⟩ c <;> rw [hv] at e <;> first | (cases e; done) | skip
      rename_i bb
      cases bb with
      | true => exact ma x h' e
      | false => exact mb x h' e
  | block id a iha =>
    intro t h ht
    obtain ⟨ea, ma⟩ := iha (h := h) ht
    refine ⟨?_, fun x h' e => ?_⟩
    · show bR (blockK id) ((codeQ Z m a).run E t h) = bR (blockK id) (runC a E t h)
      rw [ea]
    · have e : bR (blockK id) (runC a E t h) = .ok x h' := e
      obtain ⟨x1, h1, e1, e⟩ := bR_ok e
      have hm := ma x1 h1 e1
      have e : blockX id h1 x1 x1.k = .ok x h' := e
      cases hk : x1.k with
      | n => rw [hk] at e; cases e; exact hm
      | r => rw [hk] at e; cases e; exact hm
      | x i =>
        rw [hk] at e
        have e : (Bool.rec (.ok x1 h1) (.ok ⟨.n, x1.t⟩ h1) (Nat.beq i id) : Res Ex) = .ok x h' := e
        cases hb : Nat.beq i id <;> rw [hb] at e <;> cases e <;> exact hm
  | loop a iha =>
    intro t h ht
    have key : ∀ n {t : Tm} {h : AH}, t.mask = m → loopN ((codeQ Z m a).run E) n t h = loopN (runC a E) n t h ∧ ∀ x h', loopN (runC a E) n t h = .ok x h' → x.t.mask = m := by
      intro n
      induction n with
      | zero => intro t h ht; exact ⟨rfl, fun x h' e => by cases e⟩
      | succ n ih =>
        intro t h ht
        obtain ⟨ea, ma⟩ := iha (h := h) ht
        have step : ∀ x1 h1, runC a E t h = .ok x1 h1 → loopK (loopN ((codeQ Z m a).run E) n) x1 h1 = loopK (loopN (runC a E) n) x1 h1 ∧ ∀ x h', loopK (loopN (runC a E) n) x1 h1 = .ok x h' → x.t.mask = m := by
          intro x1 h1 e1
          have hm := ma x1 h1 e1
          show loopX (loopN ((codeQ Z m a).run E) n) h1 x1 x1.k = loopX (loopN (runC a E) n) h1 x1 x1.k ∧ ∀ x h', loopX (loopN (runC a E) n) h1 x1 x1.k = .ok x h' → _
          cases x1.k with
          | n => exact ih hm
          | x id => exact ⟨rfl, fun x h' e => by cases e; exact hm⟩
          | r => exact ⟨rfl, fun x h' e => by cases e; exact hm⟩
        refine ⟨?_, fun x h' e => ?_⟩
        · show bR (loopK (loopN ((codeQ Z m a).run E) n)) ((codeQ Z m a).run E t h) = bR (loopK (loopN (runC a E) n)) (runC a E t h)
          rw [ea]
          cases e1 : runC a E t h with
          | er s => rfl
          | ok x1 h1 => exact (step x1 h1 e1).1
        · have e : bR (loopK (loopN (runC a E) n)) (runC a E t h) = .ok x h' := e
          obtain ⟨x1, h1, e1, e⟩ := bR_ok e
          exact (step x1 h1 e1).2 x h' e
    rw [codeQ_loop, runC_loop]
    unfold c_loop
    exact key loopMax ht
  | rangeFunc f ps a b iha ihb => intro t h ht; exact ⟨rfl, fun x h' e => by cases e⟩
  | exit id => intro t h ht; exact ⟨rfl, fun x h' e => by cases e; exact ht⟩
  | scope a iha => intro t h ht; exact iha ht
  | label l => intro t h ht; exact ⟨rfl, fun x h' e => by cases e; exact ht⟩
  | goto l => intro t h ht; exact ⟨rfl, fun x h' e => by cases e⟩
  | ret => intro t h ht; exact ⟨rfl, fun x h' e => by cases e; exact ht⟩
  | refuse s => intro t h ht; exact ⟨rfl, fun x h' e => by cases e⟩
theorem bodyQ_eq {Z E : Env} (hs : SameE Z E) (x : FnA) (args : List AV) (h : AH) : bodyQ Z E x args h = bodyA E x args h := by
  unfold bodyQ bodyA
  rw [(codeQ_eq hs (m := x.mask) x.body (t := initT x.mask args) (h := h) rfl).1]
/-- The quick executor's calls are the executor's. -/
theorem callQ_eq (P : Program) (rng : Rng) (K : List TypeId) (fns : FuncId → Fun) : ∀ n, callQ P rng K fns n = callN P rng K fns n
  | 0 => rfl
  | n + 1 => by
    funext f args h
    show funQ ⟨P, rng, K, noCall⟩ ⟨P, rng, K, callQ P rng K fns n⟩ args h (fns f) = funR ⟨P, rng, K, callN P rng K fns n⟩ args h (fns f)
    rw [callQ_eq P rng K fns n]
    cases fns f with
    | code x => exact bodyQ_eq (Z := ⟨P, rng, K, noCall⟩) (E := ⟨P, rng, K, callN P rng K fns n⟩) ⟨rfl, rfl, rfl⟩ x args h
    | sum g => rfl
    | none => rfl
end Go.Ax
end
/- maps.DeleteFunc over a map of one entry, or of none. -/
noncomputable section
set_option linter.unusedVariables false
set_option linter.unusedSimpArgs false
namespace Go.Ax
open Go.ChangeMaps (setBlock)
structure DelS where
  e0 : Oper
  e1 : Oper
  n0 : Oper
  n1 : Oper
  y0 : Oper
  l2 : List Oper
  R : Code
  tyM : TypeId
def DelS.body (s : DelS) : Code := .seq (.region 0 #[s.e0, s.e1] false) (.block 0 (.loop (.seq (.region 1 #[s.n0, s.n1] false) (.seq (.cond (.tmp 9) .skip (.exit 0)) (.block 1 (.seq (.region 2 (s.y0 :: s.l2).toArray false) s.R))))))
structure DelS.Ok (s : DelS) (P : Program) (n : Nat) : Prop where
  e0 : s.e0.op = .move (.tmp 0) ∧ s.e0.dst = some 6 ∧ s.e0.guard = none
  e1 : s.e1.op = .range s.tyM (.tmp 6) ∧ s.e1.dst = some 7 ∧ s.e1.guard = none
  n0 : s.n0.op = .next (.tmp 7) false ∧ s.n0.dst = some 8 ∧ s.n0.guard = none
  n1 : s.n1.op = .extract (.tmp 8) 0 ∧ s.n1.dst = some 9 ∧ s.n1.guard = none
  y0 : s.y0.op = .entry (.tmp 7) ∧ s.y0.dst = some 10 ∧ s.y0.guard = none
  ty : ∃ k e, P.underlying s.tyM = some (.map k e)
  wf : WFc n s.R
  dst : ∀ o ∈ s.l2, ∀ d, o.dst = some d → d < n
  n11 : 11 ≤ n
def delT (q : Pos) (args : List AV) (mask : Nat) (e : AV × AV × Nat) : Tm := tset (tset (tset (tset (tset (initT mask args) 6 .undef) 7 (.ptr q 0)) 8 .undef) 9 .undef) 10 (.tup [e.1, e.2.1])
def delX (E : Env) (s : DelS) (t : Tm) (h : AH) : Res Ex := runC s.R E (drop t) h
def delP (q : Pos) (x : AV) : Bool := match x with | .ptr q' 0 => Pos.beq1 q q' | _ => false
def delZ (b : Pos) (n c : Nat) (h : AH) (es : List (AV × AV × Nat)) (c' : Nat) : Res AV := ck (.ok (.tup []) h) (allL (fun e => Nat.beq e.2.2 n) es)
def delEnd (b q : Pos) (n c : Nat) (x : Ex) (h : AH) : Res AV := XK.rec (motive := fun _ => Res AV) (ck (onMapO (delZ b n c h) (PT.get .none b h.t)) (delP q (tget x.t 7))) (fun _ => .er "del") (.er "del") x.k
def delOne (E : Env) (s : DelS) (args : List AV) (mask : Nat) (b : Pos) (h : AH) (es : List (AV × AV × Nat)) (c : Nat) : Res AV := match es with
  | [] => .ok (.tup []) (made .none (touch b h))
  | [e] => ck (bR (delEnd b h.next e.2.2 c) (bR (delX E s) (runOps E (s.y0 :: s.l2) s.l2 (delT h.next args mask e) (made .none (touch b h))))) (Nat.blt e.2.2 c)
  | _ => .er "order"
def deleteG (s : DelS) (mask : Nat) (E : Env) : SumT := fun args h => match args with
  | [.map b, f] => onMapO (delOne E s [.map b, f] mask b h) (PT.get .none b h.t)
  | _ => .er "DeleteFunc"
section
variable {E : Env} {ρ : Nat → Int} {μ μ' : Mu} {C : Ctx} {h h' : AH} {v : AV} {w w' : World} {P : Program}
/-- One block more that nobody touches. -/
def Ctx.more (C : Ctx) (r : Nat) (o : Obj) : Ctx := ⟨C.A, C.N, C.H0, ⟨fun k => C.Z.F k ∨ k = r, fun k => if k = r then some o else C.Z.W k, C.Z.w0⟩⟩
theorem more_view (C : Ctx) (r : Nat) (o : Obj) : (C.more r o).view = C.view := rfl
theorem more_covers {r : Nat} {o : Obj} : (C.more r o).covers h ↔ C.covers h := ⟨fun c => ⟨c.acc, c.next⟩, fun c => ⟨c.acc, c.next⟩⟩
theorem St.more {r : Nat} {o : Obj} (s : St C ρ μ h w) (hr : ∀ x q, C.view h x ≠ .none → μ x = some q → q.blk ≠ r) (hz : ¬ C.Z.F r) (hw : ∀ k, k ≠ r → k < w.heap.size → w'.heap[k]? = w.heap[k]?) (ho : w'.heap[r]? = some o) (hs : Side w w') : St (C.more r o) ρ μ h w' := by
  refine ⟨⟨fun k hk => ?_, fun b p hb hp => ?_, fun b hb => ?_, s.rel.apart, s.rel.side.trans hs⟩, s.agree, s.fresh⟩
  · by_cases e : k = r
    · subst e
      exact ⟨(Array.getElem?_eq_some_iff.1 ho).1, by rw [ho]; simp [Ctx.more]⟩
    · have hk : C.Z.F k := hk.resolve_right e
      obtain ⟨z1, z2⟩ := s.rel.frz k hk
      have z3 := hw k e z1
      refine ⟨?_, by rw [z3, z2]; simp [Ctx.more, e]⟩
      rw [Array.getElem?_eq_getElem z1] at z3
      exact (Array.getElem?_eq_some_iff.1 z3).1
  · intro hk
    rcases hk with hk | hk
    · exact s.rel.away b p hb hp hk
    · exact hr b p hb hp hk
  · obtain ⟨p, h1, h2⟩ := s.rel.holds b hb
    exact ⟨p, h1, h2.of_same (hw _ (hr b p hb h1) (h2.live hb))⟩
theorem St.less {r : Nat} {o : Obj} (s : St (C.more r o) ρ μ h w) (hz : ¬ C.Z.F r) : St C ρ μ h w := by
  refine ⟨⟨fun k hk => ?_, fun b p hb hp hk => s.rel.away b p hb hp (.inl hk), s.rel.holds, s.rel.apart, s.rel.side⟩, s.agree, s.fresh⟩
  obtain ⟨z1, z2⟩ := s.rel.frz k (.inl hk)
  have : k ≠ r := fun e => hz (e ▸ hk)
  exact ⟨z1, by rw [z2]; simp [Ctx.more, this]⟩
theorem slot_put {a : Act} {d : Nat} {x : Value} (i : Nat) (hd : d < a.tmps.size) : (a.put (some d) x).tmps.getD i Go.undef = if i = d then x else a.tmps.getD i Go.undef := by
  by_cases e : i = d
  · subst e; rw [if_pos rfl]; simp [Act.put, hd]
  · rw [if_neg e]; simp [Act.put, Array.getElem?_setIfInBounds_ne (Ne.symm e)]
theorem size_put {a : Act} {d : Option Nat} {x : Value} : (a.put d x).tmps.size = a.tmps.size := by cases d <;> simp [Act.put]
theorem defers_put {a : Act} {d : Option Nat} {x : Value} : (a.put d x).defers = a.defers := by cases d <;> rfl
theorem eval_tmp (a : Act) (i : Nat) : a.eval (.tmp i) = a.tmps.getD i Go.undef := rfl
end
end Go.Ax
end
/- maps.DeleteFunc: the loop's rounds. -/
noncomputable section
set_option linter.unusedVariables false
set_option linter.unusedSimpArgs false
namespace Go.Ax
open Go.ChangeMaps (setBlock)
section
variable {E : Env} {ρ : Nat → Int} {μ μ' : Mu} {C : Ctx} {h h' : AH} {v : AV} {w w' : World} {P : Program} {s : DelS} {n : Nat} {a : Act} {Q : Exit → Act → World → Prop}
def DelS.mid (s : DelS) : Code := .seq (.region 2 (s.y0 :: s.l2).toArray false) s.R
def DelS.round (s : DelS) : Code := .seq (.region 1 #[s.n0, s.n1] false) (.seq (.cond (.tmp 9) .skip (.exit 0)) (.block 1 s.mid))
theorem del_step (hs : s.Ok P n) (hn : a.tmps.size = n) {r : Nat} (h7 : a.tmps.getD 7 Go.undef = .pointer (some ⟨r, 0, none⟩)) {l : Array Value} {b : Bool} (hl : l[0]? = some (.bool b)) (hrun : ∀ ty, (Instr.next (.pointer (some ⟨r, 0, none⟩)) false ty).run P w = .ok (.tuple l) w')
    (hK : ∀ a' : Act, a'.tmps.size = n → a'.defers = a.defers → (∀ i, i ≠ 8 → i ≠ 9 → a'.tmps.getD i Go.undef = a.tmps.getD i Go.undef) → a'.tmps.getD 9 Go.undef = .bool b → Q .normal a' w') : (Code.region 1 #[s.n0, s.n1] false).wp P Q a w := by
  have hn11 := hs.n11
  obtain ⟨o1, d1, g1⟩ := hs.n0
  obtain ⟨o2, d2, g2⟩ := hs.n1
  refine wp_region_list ?_
  refine wpList_plain g1 fun K' hK' => ?_
  unfold Oper.wp
  simp only [execOp, o1, eval_tmp, h7, hrun, Result.andThen, Sem.run_bind]
  simp [Result.andThen]
  refine hK' _ _ ?_
  have e8 : (a.put s.n0.dst (.tuple l)).tmps.getD 8 Go.undef = .tuple l := by rw [d1, slot_put 8 (by omega)]; simp
  refine wpList_plain g2 fun K2 hK2 => ?_
  unfold Oper.wp
  simp [execOp, o2, eval_tmp, e8, Instr.extract, hl, Result.andThen]
  refine hK2 _ _ (wpList_nil ?_)
  refine hK _ (by rw [size_put, size_put]; exact hn) (by rw [defers_put, defers_put]) (fun i h8 h9 => ?_) ?_
  · rw [d2, slot_put i (by rw [size_put]; omega), if_neg h9, d1, slot_put i (by omega), if_neg h8]
  · rw [d2, slot_put 9 (by rw [size_put]; omega), if_pos rfl]
theorem del_last (hs : s.Ok P n) (hn : a.tmps.size = n) {r bm since c0 clock : Nat} {seen : Array Nat} {es : Array MapEntry} (h7 : a.tmps.getD 7 Go.undef = .pointer (some ⟨r, 0, none⟩))
    (hr : w.heap[r]? = some (.mapIter (some bm) since seen c0)) (hb : w.heap[bm]? = some (.map es clock)) (hold : ∀ x ∈ es.toList, x.born < since) (hsc : since ≤ c0) (hall : ∀ x ∈ es.toList, seen.contains x.born = true)
    (hQ : ∀ a' : Act, a'.defers = a.defers → Q (.exit 0) a' w) : LoopAt P s.round Q a w := by
  refine LoopAt.round (wp_seq ?_)
  have hnone : ∀ e, e ∈ (leftOf es seen).toList → False := by
    intro e he
    unfold leftOf at he
    rw [Array.toList_filter] at he
    obtain ⟨h1, h2⟩ := List.mem_filter.1 he
    rw [hall e h1] at h2
    cases h2
  have hrun : ∀ ty, (Instr.next (.pointer (some ⟨r, 0, none⟩)) false ty).run P w = .ok (.tuple #[.bool false]) w := by
    intro ty
    rcases run_next_at (P := P) w ty r bm since c0 seen es clock hr hb hold hsc with ⟨_, h⟩ | ⟨e, he, _⟩
    · exact h
    · exact (hnone e he).elim
  refine del_step hs hn h7 (l := #[.bool false]) (b := false) rfl hrun fun a' h1 h2 h3 h4 => ?_
  exact wp_seq (wp_cond_false h4 (wp_exit (hQ a' h2)))
end
end Go.Ax
end
/- maps.DeleteFunc: the contract. -/
noncomputable section
set_option linter.unusedVariables false
set_option linter.unusedSimpArgs false
namespace Go.Ax
open Go.ChangeMaps (setBlock)
section
variable {E : Env} {ρ : Nat → Int} {μ μ' : Mu} {C : Ctx} {h h' : AH} {v : AV} {w w' : World} {P : Program} {s : DelS} {n : Nat} {a : Act} {Q : Exit → Act → World → Prop} {args : List AV}
/-- The round over the one entry: the executor's. -/
theorem mid_ok (hE : EnvOk E ρ) (hm : E.P.follows .mixedOrders = true) (hs : s.Ok E.P n) {t : Tm} {e : AV × AV × Nat} {x : Ex} (e0 : bR (delX E s) (runOps E (s.y0 :: s.l2) s.l2 (tset t 10 (.tup [e.1, e.2.1])) h) = .ok x h') : Grow h h' ∧
    ∀ (C : Ctx) (μ : Mu) (w : World) (a : Act), C.covers h' → St C ρ μ h w → Fr ρ μ n t a → ∀ {r : Nat} {k1 v1 : Value}, a.tmps.getD 7 Go.undef = .pointer (some ⟨r, 0, none⟩) →
      (Instr.entry (.pointer (some ⟨r, 0, none⟩))).run E.P w = .ok (.tuple #[k1, v1]) w → V ρ μ e.1 k1 → V ρ μ e.2.1 v1 →
      ∀ Q : Exit → Act → World → Prop, (∀ a' w', Out C ρ μ h h' (fun μ' => Fr ρ μ' n x.t a') w' → Q (exitOf x.k) a' w') → s.mid.wp E.P Q a w := by
  obtain ⟨t1, h1, e1, e2⟩ := bR_ok e0
  have hl : (s.y0 :: s.l2).toArray.toList = s.y0 :: s.l2 := by simp
  obtain ⟨g1, k1⟩ := runOps_ok hE (n := n) (ops := (s.y0 :: s.l2).toArray) (by rw [hl]; exact e1)
  obtain ⟨g2, k2⟩ := runC_ok hE hm (N := n) s.R hs.wf e2
  refine ⟨g1.trans g2, fun C μ w a cov st fr r q1 q2 h7 hent hk hv Q hQ => ?_⟩
  obtain ⟨o1, d1, y1⟩ := hs.y0
  have hn11 := hs.n11
  refine wp_seq (wp_region_list ?_)
  rw [hl]
  refine wpList_plain y1 fun K' hK' => ?_
  unfold Oper.wp
  simp [execOp, o1, eval_tmp, h7, hent, Result.andThen]
  refine hK' _ _ (k1 C μ w _ (cov.of_grow g2) st ?_ hs.dst _ fun a' w' hout => ?_)
  · rw [d1]
    exact ⟨fr.rel.put (by omega) (by simp only [V, VL]; exact ⟨_, rfl, q1, [q2], rfl, hk, q2, [], rfl, hv, rfl⟩), fr.defers⟩
  · obtain ⟨μ1, le, dom, f1, s1⟩ := hout
    exact k2 C μ1 w' a' cov s1 f1.drop Q fun a2 w2 hout2 => hQ a2 w2 (Out.join g1 g2 le dom s1 hout2)
theorem touch_next (b : Pos) (h : AH) : (touch b h).next = h.next := by cases h; rfl
theorem EL_borns {f : Nat → Prop} : ∀ {es : List (AV × AV × Nat)} {xs : List MapEntry}, EL ρ μ es xs → (∀ e ∈ es, f e.2.2) → ∀ x ∈ xs, f x.born
  | [], xs, h, hf, x, hx => by simp only [EL] at h; subst h; simp at hx
  | (k, v, m) :: l, xs, h, hf, x, hx => by
    simp only [EL] at h
    obtain ⟨y, r, rfl, _, _, h3, h4⟩ := h
    rcases List.mem_cons.1 hx with rfl | hx
    · rw [h3]; exact hf _ List.mem_cons_self
    · exact EL_borns h4 (fun e he => hf e (List.mem_cons_of_mem _ he)) x hx
theorem setBlock_at {r k : Nat} {o : Obj} : (setBlock w r o).heap[k]? = if r = k then (if r < w.heap.size then some o else none) else w.heap[k]? := by
  show (w.heap.setIfInBounds r o)[k]? = _
  rw [Array.getElem?_setIfInBounds]
/-- Up to the loop. -/
theorem del_start (hs : s.Ok P n) {b : Pos} {fv : AV} {es : List (AV × AV × Nat)} {c : Nat} {mask : Nat} (hlook : look h b = .map es c) {vs : Array Value} (cov : C.covers (made .none (touch b h))) (st : St C ρ μ h w) (hl : VL ρ μ [.map b, fv] vs.toList)
    (hQ : ∀ (μ1 : Mu) (a1 : Act) (p : Place) (ents : Array MapEntry), μ.le μ1 → (∀ b, μ1 b ≠ none → μ b ≠ none ∨ (h.next.num ≤ b.num ∧ b.num < (made .none (touch b h)).next.num)) → St C ρ μ1 (made .none (touch b h)) (w.alloc (.mapIter (some p.blk) c #[] c)) →
      μ1 h.next = some ⟨w.heap.size, 0, 1⟩ → μ1 b = some p → w.heap[p.blk]? = some (.map ents c) → EL ρ μ1 es ents.toList → Fr ρ μ1 n (tset (tset (initT mask [.map b, fv]) 6 .undef) 7 (.ptr h.next 0)) a1 →
      a1.tmps.getD 7 Go.undef = .pointer (some ⟨w.heap.size, 0, none⟩) → Q .normal a1 (w.alloc (.mapIter (some p.blk) c #[] c))) :
    (Code.region 0 #[s.e0, s.e1] false).wp P Q ⟨vs ++ Array.replicate (n - vs.size) Go.undef, []⟩ w := by
  have hn11 := hs.n11
  obtain ⟨o1, d1, y1⟩ := hs.e0
  obtain ⟨o2, d2, y2⟩ := hs.e1
  have hA : C.A b := cov.acc b ((made_grow .none (touch b h)).acc b (touch_mem b h))
  obtain ⟨p, hp, hh⟩ := st.obj (b := b) hA (by rw [hlook]; simp)
  rw [hlook] at hh
  obtain ⟨ents, hw, hel⟩ := hh
  have hlen := hl.length
  simp only [Array.length_toList, List.length_cons, List.length_nil] at hlen
  have hfr : FrRel ρ μ n (initT mask [.map b, fv]) ⟨vs ++ Array.replicate (n - vs.size) Go.undef, []⟩ := FrRel.init mask hl (by omega)
  have h0 : (Act.mk (vs ++ Array.replicate (n - vs.size) Go.undef) []).tmps.getD 0 Go.undef = .map (some p.blk) := by
    simp only [VL] at hl
    obtain ⟨v0, r0, e0, hv0, _⟩ := hl
    simp only [V] at hv0
    obtain ⟨p', hp', rfl⟩ := hv0
    rw [hp] at hp'; cases hp'
    have : vs[0]? = some (.map (some p.blk)) := by rw [← Array.getElem?_toList, e0]; rfl
    have hlt : 0 < vs.size := by omega
    simp only [Array.getD_eq_getD_getElem?, Array.getElem?_append_left hlt, this, Option.getD_some]
  have hsz : (Act.mk (vs ++ Array.replicate (n - vs.size) Go.undef) []).tmps.size = n := hfr.size
  generalize hA0 : (Act.mk (vs ++ Array.replicate (n - vs.size) Go.undef) []) = a at hfr h0 hsz ⊢
  have hdf : a.defers = [] := by rw [← hA0]
  obtain ⟨k, e, hty⟩ := hs.ty
  refine wp_region_list ?_
  refine wpList_plain y1 fun K' hK' => ?_
  unfold Oper.wp
  simp [execOp, o1, eval_tmp, h0, Result.andThen]
  refine hK' _ _ ?_
  have h6 : (a.put s.e0.dst (.map (some p.blk))).tmps.getD 6 Go.undef = .map (some p.blk) := by rw [d1, slot_put 6 (by omega), if_pos rfl]
  refine wpList_plain y2 fun K2 hK2 => ?_
  unfold Oper.wp
  simp [execOp, o2, eval_tmp, h6, run_range_map w s.tyM k e p.blk ents c hty hw, Result.andThen]
  refine hK2 _ _ (wpList_nil ?_)
  have hmade : Out C ρ μ (touch b h) (made .none (touch b h)) (fun μ' => μ' (touch b h).next = some ⟨w.heap.size, 0, 1⟩) (w.alloc (.mapIter (some p.blk) c #[] c)) := by
    refine St.made (p := ⟨w.heap.size, 0, 1⟩) st.touch cov (fun hz => Nat.lt_irrefl _ (st.rel.frz _ hz).1) (fun k _ hk => alloc_other _ k hk) (fun x q hx hq => ?_) (fun μ' le hμ => trivial) (fun μ' _ h => h)
    obtain ⟨q', h1, h2⟩ := st.touch.rel.holds x hx
    rw [hq] at h1; cases h1
    exact Nat.ne_of_lt (h2.live hx)
  obtain ⟨μ1, le, dom, hq, s1⟩ := hmade
  rw [touch_next] at hq dom
  refine hQ μ1 _ p ents le dom s1 hq (le _ _ hp) hw (hel.mono le) ⟨?_, by rw [defers_put, defers_put]; exact hdf⟩ ?_
  · rw [d1, d2]
    refine ((hfr.mono le).put (by omega) (V.undef _)).put (by omega) ?_
    simp only [V]
    exact ⟨_, hq, rfl⟩
  · rw [d2, slot_put 7 (by rw [size_put]; omega), if_pos rfl]
end
end Go.Ax
end
/- maps.DeleteFunc: whole. -/
noncomputable section
set_option linter.unusedVariables false
set_option linter.unusedSimpArgs false
namespace Go.Ax
open Go.ChangeMaps (setBlock)
section
variable {E : Env} {ρ : Nat → Int} {μ μ' : Mu} {C : Ctx} {h h' : AH} {v : AV} {w w' : World} {P : Program} {s : DelS} {n : Nat} {a : Act} {Q : Exit → Act → World → Prop} {args : List AV}
theorem made_none_view (C : Ctx) (h : AH) (x : Pos) (hx : C.view (made .none h) x ≠ .none) : x ≠ h.next ∧ C.view h x ≠ .none := by
  rw [made_view] at hx
  by_cases e : x = h.next
  · rw [if_pos e] at hx; exact absurd rfl hx
  · rw [if_neg e] at hx; exact ⟨e, hx⟩
theorem round_ok (hE : EnvOk E ρ) (hm : E.P.follows .mixedOrders = true) (hs : s.Ok E.P n) {t : Tm} {e : AV × AV × Nat} {c : Nat} {b q : Pos} {h1 : AH}
    (e0 : bR (delEnd b q e.2.2 c) (bR (delX E s) (runOps E (s.y0 :: s.l2) s.l2 (tset (tset (tset t 8 .undef) 9 .undef) 10 (.tup [e.1, e.2.1])) h1)) = .ok v h') (hc : e.2.2 < c) : Grow h1 h' ∧ v = .tup [] ∧
    ∀ (C : Ctx) (μ : Mu) (w : World) (a : Act) (r : Nat) (p : Place) (ents : Array MapEntry), C.covers h' → St C ρ μ h1 w → C.A b → μ b = some p → Fr ρ μ n t a → μ q = some ⟨r, 0, 1⟩ → a.tmps.getD 7 Go.undef = .pointer (some ⟨r, 0, none⟩) →
      w.heap[r]? = some (.mapIter (some p.blk) c #[] c) → w.heap[p.blk]? = some (.map ents c) → EL ρ μ [e] ents.toList → (∀ x q, C.view h1 x ≠ .none → μ x = some q → q.blk ≠ r) → ¬ C.Z.F r →
      ∀ Q : Exit → Act → World → Prop, (∀ a' w', Out C ρ μ h1 h' (fun _ => True) w' → a'.defers = [] → Q (.exit 0) a' w') → LoopAt E.P s.round Q a w := by
  obtain ⟨x, h2, e1, e2⟩ := bR_ok e0
  obtain ⟨g, k⟩ := mid_ok hE hm hs e1
  unfold delEnd at e2
  cases hk : x.k with
  | x id => rw [hk] at e2; cases e2
  | r => rw [hk] at e2; cases e2
  | n =>
    rw [hk] at e2
    have hg := ck_ok e2; clear e2; obtain ⟨g1, e2⟩ := hg
    obtain ⟨es', c', ho, e2⟩ := onMapO_ok e2
    have hg := ck_ok e2; clear e2; obtain ⟨g2, e2⟩ := hg
    cases e2
    refine ⟨g, rfl, fun C μ w a r p ents cov st hA hp fr hq h7 hr hb hel hlive hz Q hQ => ?_⟩
    obtain ⟨y, r0, hy, k1, k2, k3, k4⟩ : ∃ y r, ents.toList = y :: r ∧ V ρ μ e.1 y.key ∧ V ρ μ e.2.1 y.val ∧ y.born = e.2.2 ∧ r = [] := by
      obtain ⟨ek, ev, en⟩ := e
      simpa only [EL] using hel
    subst k4
    have hents : ents = #[y] := by apply Array.toList_inj.1; rw [hy]
    subst hents
    have hn := fr.rel.size
    refine LoopAt.round (wp_seq ?_)
    have hmem : ∀ z ∈ (#[y] : Array MapEntry).toList, z.born < c := by intro z hz; simp at hz; subst hz; rw [k3]; exact hc
    rcases run_next_at (P := E.P) w s.n0.type r p.blk c c #[] #[y] c hr hb hmem (Nat.le_refl _) with ⟨h0, _⟩ | _
    · exact absurd h0 (by simp [leftOf])
    have hnext : ∃ w1 : World, (w1 = w ∨ w1 = w.drew) ∧ ∀ ty, (Instr.next (.pointer (some ⟨r, 0, none⟩)) false ty).run E.P w = .ok (.tuple #[.bool true, y.key, y.val]) (setBlock w1 r (.mapIter (some p.blk) c #[y.born] c)) := by
      rcases run_next_at (P := E.P) w s.n0.type r p.blk c c #[] #[y] c hr hb hmem (Nat.le_refl _) with ⟨h0, _⟩ | ⟨z, hz, w1, hw1, hrun⟩
      · exact absurd h0 (by simp [leftOf])
      · have : z = y := by simpa [leftOf] using hz
        subst this
        refine ⟨w1, hw1, fun ty => ?_⟩
        rw [← show (Instr.next (.pointer (some ⟨r, 0, none⟩)) false s.n0.type) = (Instr.next (.pointer (some ⟨r, 0, none⟩)) false ty) from rfl]
        exact hrun
    obtain ⟨w1, hw1, hrun⟩ := hnext
    have hheap : w1.heap = w.heap := by rcases hw1 with rfl | rfl <;> rfl
    have hrs : r < w.heap.size := (Array.getElem?_eq_some_iff.1 hr).1
    have hAt : ∀ k : Nat, (setBlock w1 r (.mapIter (some p.blk) c #[y.born] c)).heap[k]? = if r = k then some (.mapIter (some p.blk) c #[y.born] c) else w.heap[k]? := by
      intro k; rw [setBlock_at, hheap]
      by_cases e : r = k
      · rw [if_pos e, if_pos e, if_pos hrs]
      · rw [if_neg e, if_neg e]
    have hpr : p.blk ≠ r := by
      intro e
      rw [e, hr] at hb
      cases hb
    refine del_step hs hn h7 (l := #[.bool true, y.key, y.val]) (b := true) rfl hrun fun a2 q1 q2 q3 q4 => ?_
    refine wp_seq (wp_cond_true q4 (wp_skip (wp_block ?_)))
    have fr2 : Fr ρ μ n (tset (tset t 8 .undef) 9 .undef) a2 := by
      refine ⟨⟨q1, fun i => ?_⟩, by rw [q2]; exact fr.defers⟩
      rw [tget_tset, tget_tset]
      by_cases e9 : i = 9
      · rw [if_pos e9]; exact V.undef _
      · rw [if_neg e9]
        by_cases e8 : i = 8
        · rw [if_pos e8]; exact V.undef _
        · rw [if_neg e8, q3 i e8 e9]; exact fr.rel.at_ i
    have st2 := St.more (w' := setBlock w1 r (.mapIter (some p.blk) c #[y.born] c)) (o := .mapIter (some p.blk) c #[y.born] c) st hlive hz (fun k hk _ => by rw [hAt, if_neg (Ne.symm hk)]) (by rw [hAt, if_pos rfl]) (by rcases hw1 with rfl | rfl <;> exact ⟨rfl, rfl, rfl⟩)
    have h72 : a2.tmps.getD 7 Go.undef = .pointer (some ⟨r, 0, none⟩) := by rw [q3 7 (by decide) (by decide)]; exact h7
    refine k (C.more r _) μ _ a2 (more_covers.2 cov) st2 fr2 h72 (run_entry_at _ r p.blk c #[] #[y] c y (by rw [hAt, if_pos rfl]; rfl) (by rw [hAt, if_neg (Ne.symm hpr)]; exact hb) (by simp) (by simp)) k1 k2 _ fun a3 w3 hout => ?_
    rw [hk]
    obtain ⟨μ3, le3, dom3, f3, s3⟩ := hout
    obtain ⟨p', hp', hh⟩ := s3.obj (b := b) hA (by show PT.get _ _ _ ≠ _; rw [ho]; simp)
    rw [le3 _ _ hp] at hp'; cases hp'
    have hh : Holds ρ μ3 w3 p (.map es' c') := by have hh' := hh; unfold look at hh'; rw [ho] at hh'; exact hh'
    obtain ⟨ents', hw3, hel3⟩ := hh
    have hf3 := s3.rel.frz r (.inr rfl)
    have hr3 : w3.heap[r]? = some (.mapIter (some p.blk) c #[y.born] c) := by rw [hf3.2]; simp [Ctx.more]
    have h73 : a3.tmps.getD 7 Go.undef = .pointer (some ⟨r, 0, none⟩) := by
      have := f3.rel.at_ 7
      unfold delP at g1
      split at g1
      · rename_i q' hq'
        have e := Pos.beq1_iff.1 g1
        subst e
        rw [hq'] at this
        simp only [V] at this
        obtain ⟨p2, hp2, e⟩ := this
        rw [le3 _ _ hq] at hp2; cases hp2
        exact e
      · cases g1
    have hbe : ∀ x ∈ ents'.toList, x.born = e.2.2 := EL_borns (f := fun m => m = e.2.2) hel3 (fun z hz => Nat.eq_of_beq_eq_true (allL_ok g2 z hz))
    show LoopAt E.P s.round Q a3 w3
    refine del_last hs f3.rel.size h73 hr3 hw3 (fun z hz => by rw [hbe z hz]; exact hc) (Nat.le_refl _) (fun z hz => by rw [hbe z hz]; simp [k3]) fun a' hd => hQ a' w3 ⟨μ3, le3, dom3, trivial, St.less s3 hz⟩ (by rw [hd]; exact f3.defers)
theorem deleteG_ok (hE : EnvOk E ρ) (hm : E.P.follows .mixedOrders = true) (hs : s.Ok E.P n) {f : FuncId} {mask : Nat} (hf : ∃ fn, E.P.funcs[f]? = some fn ∧ fn.body = some s.body ∧ fn.results.toList = [] ∧ fn.ntmps = n ∧ (fn.name == "runtime.NumGoroutine") = false)
    (e : deleteG s mask E args h = .ok v h') : CallsOk E.P ρ f args h v h' := by
  unfold deleteG at e
  split at e
  · rename_i b fv
    obtain ⟨es, c, ho, e⟩ := onMapO_ok e
    obtain ⟨fn, hfn, hb, hrs, hnt, hname⟩ := hf
    have hlook : look h b = .map es c := ho
    have hent : Enters E.P f := fun args w => by
      have h1 : fn.name ≠ "runtime.NumGoroutine" := by simpa using hname
      simp [callFunc, hfn, h1, hb]
    have g0 : Grow h (made .none (touch b h)) := (touch_grow b h).trans (made_grow _ _)
    have hend : ∀ (a' : Act) (w' : World), a'.defers = [] → (results fn a'.tmps).run E.P w' = .ok (.tuple #[]) w' := fun a' w' _ => by
      have := results_run (P := E.P) (fn := fn) (tmps := a'.tmps) (us := []) (w := w') (by rw [hrs]; simp)
      simpa using this
    have hview : ∀ {C : Ctx} {μ μ1 : Mu} {w : World}, St C ρ μ h w → μ.le μ1 → ∀ x q, C.view (made .none (touch b h)) x ≠ .none → μ1 x = some q → q.blk ≠ w.heap.size := by
      intro C μ μ1 w st le x q hx hq
      obtain ⟨_, hx⟩ := made_none_view C _ x hx
      obtain ⟨q', h1, h2⟩ := st.touch.rel.holds x hx
      rw [le _ _ h1] at hq; cases hq
      exact Nat.ne_of_lt (h2.live hx)
    unfold delOne at e
    split at e
    · cases e
      refine ⟨g0, hent, fun C μ w vs cov st hl => calls_of_wp hfn hb ?_⟩
      have hsz : fn.ntmps = n := hnt
      rw [hsz]
      refine wp_seq (del_start (mask := mask) hs hlook cov st hl fun μ1 a1 p ents le dom s1 hq hp hw hel fr h7 => wp_block (LoopAt.wp ?_))
      simp only [EL] at hel
      have hents : ents = #[] := by apply Array.toList_inj.1; rw [hel]
      subst hents
      have hlt : p.blk < w.heap.size := (Array.getElem?_eq_some_iff.1 hw).1
      refine del_last hs fr.rel.size h7 (heap_alloc_new w _) (by rw [alloc_other _ _ hlt]; exact hw) (by simp) (Nat.le_refl _) (by simp) fun a' hd => ?_
      exact ⟨by rw [hd]; exact fr.defers, _, hend a' _ (by rw [hd]; exact fr.defers), _, rfl, μ1, le, dom, by simp only [V, VL]; exact ⟨_, rfl, rfl⟩, s1⟩
    · rename_i e1
      have hg := ck_ok e; clear e; obtain ⟨g, e⟩ := hg
      have hc : e1.2.2 < c := Nat.blt_eq.mp g
      obtain ⟨g1, rfl, k⟩ := round_ok (t := tset (tset (initT mask [.map b, fv]) 6 .undef) 7 (.ptr h.next 0)) hE hm hs e hc
      refine ⟨g0.trans g1, hent, fun C μ w vs cov st hl => calls_of_wp hfn hb ?_⟩
      have hsz : fn.ntmps = n := hnt
      rw [hsz]
      refine wp_seq (del_start (mask := mask) hs hlook (cov.of_grow g1) st hl fun μ1 a1 p ents le dom s1 hq hp hw hel fr h7 => wp_block (LoopAt.wp ?_))
      have hlt : p.blk < w.heap.size := (Array.getElem?_eq_some_iff.1 hw).1
      refine k C μ1 _ a1 w.heap.size p ents cov s1 (cov.acc b (g1.acc b ((made_grow .none (touch b h)).acc b (touch_mem b h)))) hp fr hq h7 (heap_alloc_new w _) (by rw [alloc_other _ _ hlt]; exact hw) hel (hview st le) (fun hz => Nat.lt_irrefl _ (st.rel.frz _ hz).1) _ fun a' w' hout hd => ?_
      obtain ⟨μ2, le2, dom2, _, s2⟩ := hout
      refine ⟨hd, _, hend a' _ hd, _, rfl, Out.join g0 g1 le dom s1 ⟨μ2, le2, dom2, by simp only [V, VL]; exact ⟨_, rfl, rfl⟩, s2⟩⟩
    · cases e
  · cases e
end
end Go.Ax
end
/- maps.DeleteFunc over a map of several entries: whatever the order. -/
noncomputable section
set_option linter.unusedVariables false
set_option linter.unusedSimpArgs false
namespace Go.Ax
open Go.ChangeMaps (setBlock)
abbrev MEn := AV × AV × Nat
def memN1 (n : Nat) (l : List Nat) : Bool := anyL (Nat.beq n) l
def unseen (seen : List Nat) (es : List MEn) : List MEn := List.rec (motive := fun _ => List MEn) [] (fun e _ ih => Bool.rec (e :: ih) ih (memN1 e.2.2 seen)) es
def roundR (E : Env) (s : DelS) (t : Tm) (h : AH) (e : MEn) : Res Ex := bR (delX E s) (runOps E (s.y0 :: s.l2) s.l2 (tset (tset (tset t 8 .undef) 9 .undef) 10 (.tup [e.1, e.2.1])) h)
abbrev DA := List Nat → Tm → AH → Option (List AH)
def endD (ih : DA) (q : Pos) (seen : List Nat) (x : Ex) (h : AH) (k : XK) : Option (List AH) := XK.rec (motive := fun _ => Option (List AH)) (Bool.rec none (ih seen x.t h) (delP q (tget x.t 7))) (fun _ => none) none k
def oneD (E : Env) (s : DelS) (ih : DA) (q : Pos) (seen : List Nat) (t : Tm) (h : AH) (e : MEn) : Option (List AH) := Res.rec (motive := fun _ => Option (List AH)) (fun x h' => endD ih q (e.2.2 :: seen) x h' x.k) (fun _ => none) (roundR E s t h e)
def joinO (a : Option (List AH)) (b : Option (List AH)) : Option (List AH) := Option.rec (motive := fun _ => Option (List AH)) none (fun l => Option.rec (motive := fun _ => Option (List AH)) none (fun m => some (l ++ m)) b) a
def restD (E : Env) (s : DelS) (ih : DA) (q : Pos) (seen : List Nat) (t : Tm) (h : AH) (un : List MEn) : Option (List AH) := List.rec (motive := fun _ => Option (List AH)) (some []) (fun e _ r => joinO (oneD E s ih q seen t h e) r) un
def allD (E : Env) (s : DelS) (ih : DA) (q : Pos) (seen : List Nat) (t : Tm) (h : AH) (un : List MEn) : Option (List AH) := List.rec (motive := fun _ => Option (List AH)) (some [h]) (fun _ _ _ => restD E s ih q seen t h un) un
def nodB (l : List MEn) : Bool := List.rec (motive := fun _ => Bool) true (fun e l ih => and (allL (fun x => not (Nat.beq e.2.2 x.2.2)) l) ih) l
def okD (c c1 : Nat) (es : List MEn) : Bool := and (allL (fun e => Nat.blt e.2.2 c) es) (and (Nat.ble c c1) (nodB es))
def mapDel (E : Env) (s : DelS) (ih : DA) (q : Pos) (c : Nat) (seen : List Nat) (t : Tm) (h : AH) (o : AObj) : Option (List AH) := AObj.rec (motive := fun _ => Option (List AH)) none (fun _ _ _ => none) (fun es c1 => Bool.rec none (allD E s ih q seen t h (unseen seen es)) (okD c c1 es)) o
/-- All ends of the loop. -/
def delAll (E : Env) (s : DelS) (b q : Pos) (c : Nat) (n : Nat) : DA := Nat.rec (motive := fun _ => DA) (fun _ _ _ => none) (fun _ ih seen t h => mapDel E s ih q c seen t h (PT.get .none b h.t)) n
def maxP (a b : Pos) : Pos := Bool.rec a b (Nat.ble (num1 a) (num1 b))
def maxNx (n : Pos) (l : List AH) : Pos := List.rec (motive := fun _ => Pos) n (fun h _ ih => maxP ih h.next) l
def accL (a : List Pos) (l : List AH) : List Pos := List.rec (motive := fun _ => List Pos) a (fun h _ ih => h.acc ++ ih) l
def dirtD (b : Pos) (n m : Nat) (y : Pos) : Bool := or (Pos.beq1 y b) (and (Nat.ble n (num1 y)) (Nat.blt (num1 y) m))
def leafD (b : Pos) (n : Nat) (o : AObj) (h : AH) : Bool := and (eqO some o (PT.get .none b h.t)) (allL (dirtD b n (num1 h.next)) h.dirty)
def finD (b : Pos) (o : AObj) (l : List AH) (h : AH) : AH := AH.rec (motive := fun _ => AH) (fun t n a d => ⟨PT.set .none o b t, maxNx n l, accL a l, b :: d⟩) h
def gotD (b : Pos) (h : AH) (l : List AH) (o : AObj) : Res AV := ck (.ok (.tup []) (finD b o l h)) (allL (leafD b (num1 h.next) o) l)
def leavesD (b : Pos) (h : AH) (l : List AH) : Res AV := List.rec (motive := fun _ => Res AV) (.er "no end") (fun x _ _ => gotD b h l (PT.get .none b x.t)) l
def startD (h : AH) (b : Pos) : AH := made .none (touch b (reset h))
def manyD (E : Env) (s : DelS) (args : List AV) (mask : Nat) (b : Pos) (h : AH) (es : List MEn) (c : Nat) : Res AV := onSome (leavesD b h) (delAll E s b (reset h).next c 6 [] (tset (tset (initT mask args) 6 .undef) 7 (.ptr (reset h).next 0)) (startD h b))
def deleteM (s : DelS) (mask : Nat) (E : Env) : SumT := fun args h => match args with
  | [.map b, f] => onMapO (manyD E s [.map b, f] mask b h) (PT.get .none b h.t)
  | _ => .er "DeleteFunc"
section
variable {E : Env} {ρ : Nat → Int} {μ μ' : Mu} {C : Ctx} {h h' : AH} {v : AV} {w w' : World} {P : Program} {s : DelS} {n : Nat} {a : Act} {Q : Exit → Act → World → Prop} {args : List AV}
theorem memN1_ok {n : Nat} {l : List Nat} (h : memN1 n l = true) : n ∈ l := by
  obtain ⟨a, ha, hb⟩ := anyL_ok h
  rw [Nat.eq_of_beq_eq_true hb]; exact ha
theorem memN1_mem {n : Nat} : ∀ {l : List Nat}, n ∈ l → memN1 n l = true
  | a :: l, h => by
    show (Bool.rec (memN1 n l) true (Nat.beq n a) : Bool) = true
    rcases List.mem_cons.1 h with e | h
    · rw [e, Nat.beq_refl]
    · cases Nat.beq n a with
      | true => rfl
      | false => exact memN1_mem h
theorem unseen_mem {seen : List Nat} : ∀ {es : List MEn} {e : MEn}, e ∈ es → e.2.2 ∉ seen → e ∈ unseen seen es
  | [], e, h, _ => by simp at h
  | a :: es, e, h, hn => by
    show e ∈ (Bool.rec (a :: unseen seen es) (unseen seen es) (memN1 a.2.2 seen) : List MEn)
    rcases List.mem_cons.1 h with rfl | h
    · cases hb : memN1 e.2.2 seen with
      | true => exact absurd (memN1_ok hb) hn
      | false => exact List.mem_cons_self
    · cases memN1 a.2.2 seen with
      | true => exact unseen_mem h hn
      | false => exact List.mem_cons_of_mem _ (unseen_mem h hn)
theorem joinO_ok {a b : Option (List AH)} {l : List AH} (h : joinO a b = some l) : ∃ x y, a = some x ∧ b = some y ∧ l = x ++ y := by
  cases a with
  | none => cases h
  | some x =>
    cases b with
    | none => cases h
    | some y => cases h; exact ⟨x, y, rfl, rfl, rfl⟩
theorem restD_mem {ih : DA} {q : Pos} {seen : List Nat} {t : Tm} : ∀ {un : List MEn} {l : List AH}, restD E s ih q seen t h un = some l → ∀ e ∈ un, ∃ m, oneD E s ih q seen t h e = some m ∧ ∀ x ∈ m, x ∈ l
  | [], l, _, e, he => by simp at he
  | a :: un, l, hl, e, he => by
    obtain ⟨x, y, h1, h2, rfl⟩ := joinO_ok (show joinO (oneD E s ih q seen t h a) (restD E s ih q seen t h un) = some l from hl)
    rcases List.mem_cons.1 he with rfl | he
    · exact ⟨x, h1, fun z hz => List.mem_append_left _ hz⟩
    · obtain ⟨m, h3, h4⟩ := restD_mem h2 e he
      exact ⟨m, h3, fun z hz => List.mem_append_right _ (h4 z hz)⟩
theorem restD_all {ih : DA} {q : Pos} {seen : List Nat} {t : Tm} {R : AH → Prop} (hR : ∀ e m, oneD E s ih q seen t h e = some m → ∀ x ∈ m, R x) : ∀ {un : List MEn} {l : List AH}, restD E s ih q seen t h un = some l → ∀ x ∈ l, R x
  | [], l, hl, x, hx => by
    have : l = [] := (Option.some.inj (show some [] = some l from hl)).symm
    subst this; simp at hx
  | a :: un, l, hl, x, hx => by
    obtain ⟨y, z, h1, h2, rfl⟩ := joinO_ok (show joinO (oneD E s ih q seen t h a) (restD E s ih q seen t h un) = some l from hl)
    rcases List.mem_append.1 hx with hx | hx
    · exact hR a y h1 x hx
    · exact restD_all hR h2 x hx
theorem EL_pick : ∀ {es : List MEn} {xs : List MapEntry} {x : MapEntry}, EL ρ μ es xs → x ∈ xs → ∃ e ∈ es, V ρ μ e.1 x.key ∧ V ρ μ e.2.1 x.val ∧ x.born = e.2.2
  | [], xs, x, h, hx => by simp only [EL] at h; subst h; simp at hx
  | (k, v, m) :: l, xs, x, h, hx => by
    simp only [EL] at h
    obtain ⟨y, r, rfl, h1, h2, h3, h4⟩ := h
    rcases List.mem_cons.1 hx with rfl | hx
    · exact ⟨(k, v, m), List.mem_cons_self, h1, h2, h3⟩
    · obtain ⟨e, he, h5⟩ := EL_pick h4 hx
      exact ⟨e, List.mem_cons_of_mem _ he, h5⟩
theorem EL_find : ∀ {es : List MEn} {xs : List MapEntry} {e : MEn}, EL ρ μ es xs → e ∈ es → ∃ x ∈ xs, x.born = e.2.2
  | [], xs, e, h, he => by simp at he
  | (k, v, m) :: l, xs, e, h, he => by
    simp only [EL] at h
    obtain ⟨y, r, rfl, h1, h2, h3, h4⟩ := h
    rcases List.mem_cons.1 he with rfl | he
    · exact ⟨y, List.mem_cons_self, h3⟩
    · obtain ⟨x, hx, h5⟩ := EL_find h4 he
      exact ⟨x, List.mem_cons_of_mem _ hx, h5⟩
theorem EL_bornsList : ∀ {es : List MEn} {xs : List MapEntry}, EL ρ μ es xs → xs.map (·.born) = es.map (·.2.2)
  | [], xs, h => by simp only [EL] at h; subst h; rfl
  | (k, v, m) :: l, xs, h => by
    simp only [EL] at h
    obtain ⟨y, r, rfl, h1, h2, h3, h4⟩ := h
    simp only [List.map_cons, h3, EL_bornsList h4]
theorem nodB_ok : ∀ {l : List MEn}, nodB l = true → (l.map (·.2.2)).Nodup
  | [], _ => List.nodup_nil
  | e :: l, h => by
    obtain ⟨h1, h2⟩ := and_ok (show and (allL (fun x : MEn => not (Nat.beq e.2.2 x.2.2)) l) (nodB l) = true from h)
    simp only [List.map_cons, List.nodup_cons]
    refine ⟨fun hm => ?_, nodB_ok h2⟩
    obtain ⟨x, hx, he⟩ := List.mem_map.1 hm
    have := allL_ok h1 x hx
    have he : x.2.2 = e.2.2 := he
    rw [he, Nat.beq_refl] at this
    cases this
theorem EL_nodup {es : List MEn} {xs : List MapEntry} (h : EL ρ μ es xs) (hn : nodB es = true) : (xs.map (·.born)).Nodup := by rw [EL_bornsList h]; exact nodB_ok hn
theorem oneD_ok {ih : DA} {q : Pos} {seen : List Nat} {t : Tm} {e : MEn} {m : List AH} (hm : oneD E s ih q seen t h e = some m) : ∃ x h1, roundR E s t h e = .ok x h1 ∧ x.k = .n ∧ delP q (tget x.t 7) = true ∧ ih (e.2.2 :: seen) x.t h1 = some m := by
  unfold oneD at hm
  cases hr : roundR E s t h e with
  | er s' => rw [hr] at hm; cases hm
  | ok x h1 =>
    rw [hr] at hm
    have hm : endD ih q (e.2.2 :: seen) x h1 x.k = some m := hm
    cases hk : x.k with
    | x id => rw [hk] at hm; cases hm
    | r => rw [hk] at hm; cases hm
    | n =>
      rw [hk] at hm
      have hm : (Bool.rec none (ih (e.2.2 :: seen) x.t h1) (delP q (tget x.t 7)) : Option (List AH)) = some m := hm
      cases hd : delP q (tget x.t 7) with
      | false => rw [hd] at hm; cases hm
      | true => rw [hd] at hm; exact ⟨x, h1, rfl, hk, hd, hm⟩
theorem rounds_ok (hE : EnvOk E ρ) (hm : E.P.follows .mixedOrders = true) (hs : s.Ok E.P n) {b q : Pos} {c : Nat} : ∀ (f : Nat) {seen : List Nat} {t : Tm} {h : AH} {L : List AH}, delAll E s b q c f seen t h = some L → (∀ x ∈ L, Grow h x) ∧
    ∀ (C : Ctx) (μ : Mu) (w : World) (a : Act) (r : Nat) (p : Place) (sa : Array Nat) (c0 : Nat), c ≤ c0 → (∀ x ∈ L, C.covers x) → St C ρ μ h w → C.A b → μ b = some p → Fr ρ μ n t a → μ q = some ⟨r, 0, 1⟩ → a.tmps.getD 7 Go.undef = .pointer (some ⟨r, 0, none⟩) →
      w.heap[r]? = some (.mapIter (some p.blk) c sa c0) → (∀ i, sa.contains i = true ↔ i ∈ seen) → (∀ x q, C.view h x ≠ .none → μ x = some q → q.blk ≠ r) → ¬ C.Z.F r →
      ∀ Q : Exit → Act → World → Prop, (∀ x ∈ L, ∀ a' w', Out C ρ μ h x (fun _ => True) w' → a'.defers = [] → Q (.exit 0) a' w') → LoopAt E.P s.round Q a w
  | 0, seen, t, h, L, e0 => by cases e0
  | f + 1, seen, t, h, L, e0 => by
    have e0 : mapDel E s (delAll E s b q c f) q c seen t h (PT.get .none b h.t) = some L := e0
    cases ho : PT.get .none b h.t with
    | none => rw [ho] at e0; cases e0
    | cells sz m cc => rw [ho] at e0; cases e0
    | map es c1 =>
      rw [ho] at e0
      have e0 : (Bool.rec none (allD E s (delAll E s b q c f) q seen t h (unseen seen es)) (okD c c1 es) : Option (List AH)) = some L := e0
      cases hlt : okD c c1 es with
      | false => rw [hlt] at e0; cases e0
      | true =>
        rw [hlt] at e0
        obtain ⟨hlt, hlt2⟩ := and_ok hlt
        obtain ⟨hc1, hnod⟩ := and_ok hlt2
        have hc1 := Nat.le_of_ble_eq_true hc1
        have e0 : allD E s (delAll E s b q c f) q seen t h (unseen seen es) = some L := e0
        have hborn : ∀ e ∈ es, e.2.2 < c := fun e he => Nat.blt_eq.mp (allL_ok hlt e he)
        cases hun : unseen seen es with
        | nil =>
          rw [hun] at e0
          have : L = [h] := (Option.some.inj (show some [h] = some L from e0)).symm
          subst this
          refine ⟨fun x hx => by rw [List.mem_singleton.1 hx]; exact Grow.refl h, fun C μ w a r p sa c0 hc0 cov st hA hp fr hq h7 hr hsa hlive hz Q hQ => ?_⟩
          obtain ⟨p', hp', hh⟩ := st.obj (b := b) hA (by show PT.get _ _ _ ≠ _; rw [ho]; simp)
          rw [hp] at hp'; cases hp'
          have hh : Holds ρ μ w p (.map es c1) := by have hh' := hh; unfold look at hh'; rw [ho] at hh'; exact hh'
          obtain ⟨ents, hw, hel⟩ := hh
          refine del_last hs fr.rel.size h7 hr hw (fun z hz => ?_) hc0 (fun z hz => ?_) fun a' hd => hQ h List.mem_cons_self a' w (Out.refl st trivial) (by rw [hd]; exact fr.defers)
          · obtain ⟨e, he, _, _, hb⟩ := EL_pick hel hz
            rw [hb]; exact hborn e he
          · obtain ⟨e, he, _, _, hb⟩ := EL_pick hel hz
            rw [hsa, hb]
            refine Classical.byContradiction fun hn => ?_
            have := unseen_mem he hn
            rw [hun] at this
            simp at this
        | cons e1 un =>
          rw [hun] at e0
          have e0 : restD E s (delAll E s b q c f) q seen t h (e1 :: un) = some L := e0
          have hgrow1 : ∀ e m, oneD E s (delAll E s b q c f) q seen t h e = some m → ∀ x ∈ m, Grow h x := fun e m hem x hx => by
            obtain ⟨x1, h1, k1, k2, k3, k4⟩ := oneD_ok hem
            exact (mid_ok hE hm hs k1).1.trans ((rounds_ok hE hm hs f k4).1 x hx)
          refine ⟨restD_all hgrow1 e0, fun C μ w a r p sa c0 hc0 cov st hA hp fr hq h7 hr hsa hlive hz Q hQ => ?_⟩
          obtain ⟨p', hp', hh⟩ := st.obj (b := b) hA (by show PT.get _ _ _ ≠ _; rw [ho]; simp)
          rw [hp] at hp'; cases hp'
          have hh : Holds ρ μ w p (.map es c1) := by have hh' := hh; unfold look at hh'; rw [ho] at hh'; exact hh'
          obtain ⟨ents, hb, hel⟩ := hh
          have hn := fr.rel.size
          refine LoopAt.round (wp_seq ?_)
          have hmem : ∀ z ∈ ents.toList, z.born < c := fun z hz => by
            obtain ⟨e, he, _, _, hb⟩ := EL_pick hel hz
            rw [hb]; exact hborn e he
          have hnext : ∃ z ∈ ents.toList, z.born ∉ seen ∧ ∃ w1 : World, (w1 = w ∨ w1 = w.drew) ∧ ∀ ty, (Instr.next (.pointer (some ⟨r, 0, none⟩)) false ty).run E.P w = .ok (.tuple #[.bool true, z.key, z.val]) (setBlock w1 r (.mapIter (some p.blk) c (sa.push z.born) c1)) := by
            rcases run_next_at (P := E.P) w s.n0.type r p.blk c c0 sa ents c1 hr hb hmem hc0 with ⟨h0, _⟩ | ⟨z, hz, w1, hw1, hrun⟩
            · exfalso
              have he1 : e1 ∈ unseen seen es := by rw [hun]; exact List.mem_cons_self
              have hsub : ∀ {l : List MEn} {e : MEn}, e ∈ unseen seen l → e ∈ l ∧ e.2.2 ∉ seen := by
                intro l e he
                induction l with
                | nil => simp [unseen] at he
                | cons x l ihl =>
                  have he : e ∈ (Bool.rec (x :: unseen seen l) (unseen seen l) (memN1 x.2.2 seen) : List MEn) := he
                  cases hbx : memN1 x.2.2 seen with
                  | true =>
                    rw [hbx] at he
                    exact ⟨List.mem_cons_of_mem _ (ihl he).1, (ihl he).2⟩
                  | false =>
                    rw [hbx] at he
                    rcases List.mem_cons.1 he with rfl | he
                    · exact ⟨List.mem_cons_self, fun hm => by rw [memN1_mem hm] at hbx; cases hbx⟩
                    · exact ⟨List.mem_cons_of_mem _ (ihl he).1, (ihl he).2⟩
              obtain ⟨he1, hns⟩ := hsub he1
              obtain ⟨x, hx, hxb⟩ := EL_find hel he1
              have : x ∈ (leftOf ents sa).toList := by
                unfold leftOf
                rw [Array.toList_filter]
                refine List.mem_filter.2 ⟨hx, ?_⟩
                cases hc : sa.contains x.born with
                | false => rfl
                | true => rw [hsa, hxb] at hc; exact absurd hc hns
              rw [Array.eq_empty_of_size_eq_zero h0] at this
              simp at this
            · unfold leftOf at hz
              have hz' : z ∈ (ents.filter fun e => !sa.contains e.born).toList := by
                have := hz
                simpa using this
              rw [Array.toList_filter] at hz'
              obtain ⟨h1, h2⟩ := List.mem_filter.1 hz'
              refine ⟨z, h1, fun hm => ?_, w1, hw1, fun ty => ?_⟩
              · rw [(hsa z.born).2 hm] at h2; cases h2
              · rw [← show (Instr.next (.pointer (some ⟨r, 0, none⟩)) false s.n0.type) = (Instr.next (.pointer (some ⟨r, 0, none⟩)) false ty) from rfl]
                exact hrun
          obtain ⟨y, hy, hyn, w1, hw1, hrun⟩ := hnext
          obtain ⟨e, hee, k1, k2, k3⟩ := EL_pick hel hy
          have hme : e ∈ e1 :: un := by rw [← hun]; exact unseen_mem hee (by rw [← k3]; exact hyn)
          obtain ⟨m, hone, hsub⟩ := restD_mem e0 e hme
          obtain ⟨x, h2, hround, hk, hdp, hnx⟩ := oneD_ok hone
          obtain ⟨g, kmid⟩ := mid_ok hE hm hs hround
          obtain ⟨gih, kih⟩ := rounds_ok hE hm hs f hnx
          have hm0 : ∃ x, x ∈ m := by
            cases m with
            | nil =>
              exfalso
              have hne : ∀ (f : Nat) {seen : List Nat} {t : Tm} {h : AH}, delAll E s b q c f seen t h ≠ some [] := by
                intro f
                induction f with
                | zero => intro seen t h hc; cases hc
                | succ f ihf =>
                  intro seen t h hc
                  have hc : mapDel E s (delAll E s b q c f) q c seen t h (PT.get .none b h.t) = some [] := hc
                  cases ho : PT.get .none b h.t with
                  | none => rw [ho] at hc; cases hc
                  | cells sz m cc => rw [ho] at hc; cases hc
                  | map es c1 =>
                    rw [ho] at hc
                    have hc : (Bool.rec none (allD E s (delAll E s b q c f) q seen t h (unseen seen es)) (okD c c1 es) : Option (List AH)) = some [] := hc
                    cases hlt : okD c c1 es with
                    | false => rw [hlt] at hc; cases hc
                    | true =>
                      rw [hlt] at hc
                      have hc : allD E s (delAll E s b q c f) q seen t h (unseen seen es) = some [] := hc
                      cases hun : unseen seen es with
                      | nil => rw [hun] at hc; cases hc
                      | cons e2 un2 =>
                        rw [hun] at hc
                        obtain ⟨u, v, q1, q2, q3⟩ := joinO_ok (show joinO (oneD E s (delAll E s b q c f) q seen t h e2) (restD E s (delAll E s b q c f) q seen t h un2) = some [] from hc)
                        obtain ⟨rfl, rfl⟩ := List.nil_eq_append_iff.1 q3
                        obtain ⟨x3, h3, _, _, _, q4⟩ := oneD_ok q1
                        exact ihf q4
              exact hne f hnx
            | cons x m => exact ⟨x, List.mem_cons_self⟩
          obtain ⟨x0, hx0⟩ := hm0
          have cov2 : C.covers h2 := (cov x0 (hsub x0 hx0)).of_grow (gih x0 hx0)
          have hheap : w1.heap = w.heap := by rcases hw1 with rfl | rfl <;> rfl
          have hrs : r < w.heap.size := (Array.getElem?_eq_some_iff.1 hr).1
          have hAt : ∀ k : Nat, (setBlock w1 r (.mapIter (some p.blk) c (sa.push y.born) c1)).heap[k]? = if r = k then some (.mapIter (some p.blk) c (sa.push y.born) c1) else w.heap[k]? := by
            intro k; rw [setBlock_at, hheap]
            by_cases e : r = k
            · rw [if_pos e, if_pos e, if_pos hrs]
            · rw [if_neg e, if_neg e]
          have hpr : p.blk ≠ r := by
            intro e
            rw [e, hr] at hb
            cases hb
          refine del_step hs hn h7 (l := #[.bool true, y.key, y.val]) (b := true) rfl hrun fun a2 q1 q2 q3 q4 => ?_
          refine wp_seq (wp_cond_true q4 (wp_skip (wp_block ?_)))
          have fr2 : Fr ρ μ n (tset (tset t 8 .undef) 9 .undef) a2 := by
            refine ⟨⟨q1, fun i => ?_⟩, by rw [q2]; exact fr.defers⟩
            rw [tget_tset, tget_tset]
            by_cases e9 : i = 9
            · rw [if_pos e9]; exact V.undef _
            · rw [if_neg e9]
              by_cases e8 : i = 8
              · rw [if_pos e8]; exact V.undef _
              · rw [if_neg e8, q3 i e8 e9]; exact fr.rel.at_ i
          have st2 := St.more (w' := setBlock w1 r (.mapIter (some p.blk) c (sa.push y.born) c1)) (o := .mapIter (some p.blk) c (sa.push y.born) c1) st hlive hz (fun k hk _ => by rw [hAt, if_neg (Ne.symm hk)]) (by rw [hAt, if_pos rfl]) (by rcases hw1 with rfl | rfl <;> exact ⟨rfl, rfl, rfl⟩)
          have h72 : a2.tmps.getD 7 Go.undef = .pointer (some ⟨r, 0, none⟩) := by rw [q3 7 (by decide) (by decide)]; exact h7
          have hent : (Instr.entry (.pointer (some ⟨r, 0, none⟩))).run E.P (setBlock w1 r (.mapIter (some p.blk) c (sa.push y.born) c1)) = .ok (.tuple #[y.key, y.val]) (setBlock w1 r (.mapIter (some p.blk) c (sa.push y.born) c1)) := by
            refine run_entry_at _ r p.blk c sa ents c1 y (by rw [hAt, if_pos rfl]) (by rw [hAt, if_neg (Ne.symm hpr)]; exact hb) hy ?_
            exact EL_nodup hel hnod
          refine kmid (C.more r _) μ _ a2 (more_covers.2 cov2) st2 fr2 h72 hent k1 k2 _ fun a3 w3 hout => ?_
          rw [hk]
          obtain ⟨μ3, le3, dom3, f3, s3⟩ := hout
          have hf3 := s3.rel.frz r (.inr rfl)
          have hr3 : w3.heap[r]? = some (.mapIter (some p.blk) c (sa.push y.born) c1) := by rw [hf3.2]; simp [Ctx.more]
          have h73 : a3.tmps.getD 7 Go.undef = .pointer (some ⟨r, 0, none⟩) := by
            have := f3.rel.at_ 7
            unfold delP at hdp
            split at hdp
            · rename_i q' hq'
              have e := Pos.beq1_iff.1 hdp
              subst e
              rw [hq'] at this
              simp only [V] at this
              obtain ⟨p2, hp2, e⟩ := this
              rw [le3 _ _ hq] at hp2; cases hp2
              exact e
            · cases hdp
          show LoopAt E.P s.round Q a3 w3
          refine kih C μ3 w3 a3 r p (sa.push y.born) c1 hc1 (fun z hz => cov z (hsub z hz)) (St.less s3 hz) hA (le3 _ _ hp) f3 (le3 _ _ hq) h73 hr3 (fun i => ?_) (fun z pz hzv hpz hzr => s3.rel.away z pz hzv hpz (.inr hzr)) hz Q fun z hz2 a' w' hout hd => hQ z (hsub z hz2) a' w' (Out.join g (gih z hz2) le3 dom3 (St.less s3 hz) hout) hd
          rw [List.mem_cons, ← k3]
          have hp : (sa.push y.born).contains i = (sa.contains i || i == y.born) := by first | exact Array.contains_push | (rw [Array.contains_push]) | (simp; rfl) | (simp [BEq.beq])
          rw [hp, Bool.or_eq_true, hsa, beq_iff_eq]
          exact Or.comm
theorem maxP_le (a b : Pos) : a.num ≤ (maxP a b).num ∧ b.num ≤ (maxP a b).num := by
  unfold maxP
  cases hb : Nat.ble (num1 a) (num1 b) with
  | true => rw [num1_eq, num1_eq] at hb; exact ⟨Nat.le_of_ble_eq_true hb, Nat.le_refl _⟩
  | false =>
    refine ⟨Nat.le_refl _, ?_⟩
    have : ¬ a.num ≤ b.num := fun h => by rw [num1_eq, num1_eq, Nat.ble_eq_true_of_le h] at hb; cases hb
    show b.num ≤ a.num
    omega
theorem maxNx_base (n : Pos) : ∀ l : List AH, n.num ≤ (maxNx n l).num
  | [] => Nat.le_refl _
  | h :: l => Nat.le_trans (maxNx_base n l) (maxP_le (maxNx n l) h.next).1
theorem maxNx_mem {n : Pos} : ∀ {l : List AH} {x : AH}, x ∈ l → x.next.num ≤ (maxNx n l).num
  | [], x, h => by simp at h
  | a :: l, x, h => by
    rcases List.mem_cons.1 h with rfl | h
    · exact (maxP_le (maxNx n l) x.next).2
    · exact Nat.le_trans (maxNx_mem h) (maxP_le (maxNx n l) a.next).1
theorem accL_base {a : List Pos} {y : Pos} (h : y ∈ a) : ∀ l : List AH, y ∈ accL a l
  | [] => h
  | x :: l => List.mem_append_right _ (accL_base h l)
theorem accL_mem {a : List Pos} {y : Pos} : ∀ {l : List AH} {x : AH}, x ∈ l → y ∈ x.acc → y ∈ accL a l
  | [], x, h, _ => by simp at h
  | z :: l, x, h, hy => by
    rcases List.mem_cons.1 h with rfl | h
    · exact List.mem_append_left _ hy
    · exact List.mem_append_right _ (accL_mem h hy)
theorem finD_look (b : Pos) (o : AObj) (l : List AH) (h : AH) (y : Pos) : look (finD b o l h) y = if y = b then o else look h y := by
  cases h; exact PT.get_set _ _ _ _ _
theorem muOf_some (μ : Mu) : muOf some μ = μ := rfl
/-- The calls of maps.DeleteFunc. -/
theorem deleteM_ok (hE : EnvOk E ρ) (hm : E.P.follows .mixedOrders = true) (hs : s.Ok E.P n) {f : FuncId} {mask : Nat} (hf : ∃ fn, E.P.funcs[f]? = some fn ∧ fn.body = some s.body ∧ fn.results.toList = [] ∧ fn.ntmps = n ∧ (fn.name == "runtime.NumGoroutine") = false)
    (e : deleteM s mask E args h = .ok v h') : CallsOk E.P ρ f args h v h' := by
  unfold deleteM at e
  split at e
  · rename_i b fv
    obtain ⟨es, c, ho, e⟩ := onMapO_ok e
    obtain ⟨fn, hfn, hb, hrs, hnt, hname⟩ := hf
    obtain ⟨L, hL, e⟩ := onSome_ok e
    have hent : Enters E.P f := fun args w => by
      have h1 : fn.name ≠ "runtime.NumGoroutine" := by simpa using hname
      simp [callFunc, hfn, h1, hb]
    have hend : ∀ (a' : Act) (w' : World), a'.defers = [] → (results fn a'.tmps).run E.P w' = .ok (.tuple #[]) w' := fun a' w' _ => by
      have := results_run (P := E.P) (fn := fn) (tmps := a'.tmps) (us := []) (w := w') (by rw [hrs]; simp)
      simpa using this
    cases hLc : L with
    | nil => rw [hLc] at e; cases e
    | cons x0 L0 =>
      have e : gotD b h L (PT.get .none b x0.t) = .ok v h' := by rw [hLc] at e ⊢; exact e
      have hx0 : x0 ∈ L := by rw [hLc]; exact List.mem_cons_self
      clear hLc
      generalize PT.get .none b x0.t = o at e
      obtain ⟨hleaf, e⟩ := ck_ok e
      have ev : v = .tup [] := by cases e; rfl
      have eh : h' = finD b o L h := by cases e; rfl
      clear e
      subst ev
      obtain ⟨hgr, hrun⟩ := rounds_ok (n := n) hE hm hs 6 hL
      have hg0 : Grow (reset h) (startD h b) := (touch_grow b (reset h)).trans (made_grow _ _)
      have hbacc : b ∈ x0.acc := (hgr x0 hx0).acc b ((made_grow .none (touch b (reset h))).acc b (touch_mem b _))
      have hacc : ∀ x ∈ L, ∀ y ∈ x.acc, y ∈ h'.acc := fun x hx y hy => by
        rw [eh]; cases h; exact accL_mem hx hy
      have hdirty : h'.dirty = b :: h.dirty := by rw [eh]; cases h; rfl
      have hnx : ∀ x ∈ L, x.next.num ≤ h'.next.num := fun x hx => by
        rw [eh]; cases h; exact maxNx_mem hx
      have hn0 : h.next.num ≤ h'.next.num := by rw [eh]; cases h; exact maxNx_base _ L
      have hlk : ∀ y, look h' y = if y = b then o else look h y := fun y => by rw [eh]; exact finD_look b o L h y
      have hgrow : Grow h h' := by
        refine ⟨fun y hy => ?_, fun y hy => ?_, fun y hy => ?_, hn0, fun y hy => ?_⟩
        · rw [eh]; cases h; exact accL_base hy L
        · rw [hdirty]; exact List.mem_cons_of_mem _ hy
        · rw [hdirty] at hy
          rcases List.mem_cons.1 hy with rfl | hy
          · exact .inr (hacc x0 hx0 _ hbacc)
          · exact .inl hy
        · rw [hdirty] at hy
          rw [hlk, if_neg (fun hyb => hy (by rw [hyb]; exact List.mem_cons_self))]
      refine ⟨hgrow, hent, fun C μ w vs cov st hl => calls_of_wp hfn hb ?_⟩
      have hsz : fn.ntmps = n := hnt
      rw [hsz]
      let C2 : Ctx := ⟨C.A, C.N, C.view h, C.Z⟩
      have hview : C2.view (reset h) = C.view h := by
        funext y
        show (if y ∈ (reset h).dirty then look (reset h) y else C.view h y) = C.view h y
        rw [reset_dirty, if_neg (by simp)]
      have st2 : St C2 ρ μ (reset h) w := by
        refine ⟨by rw [hview]; exact st.rel, fun y hy => by rw [hview, reset_look]; exact st.agree y hy, fun y h1 h2 => st.fresh y (by rw [reset_next] at h1; exact h1) h2⟩
      have cov2 : ∀ x ∈ L, C2.covers x := fun x hx => ⟨fun y hy => cov.acc y (hacc x hx y hy), Nat.le_trans (hnx x hx) cov.next⟩
      have hlook : look (reset h) b = .map es c := by rw [reset_look]; exact ho
      have hA : C.A b := cov.acc b (hacc x0 hx0 b hbacc)
      refine wp_seq (del_start (C := C2) (mask := mask) hs hlook ((cov2 x0 hx0).of_grow (hgr x0 hx0)) st2 hl fun μ1 a1 p ents le dom s1 hq hp hw hel fr h7 => wp_block (LoopAt.wp ?_))
      have hlt : p.blk < w.heap.size := (Array.getElem?_eq_some_iff.1 hw).1
      refine hrun C2 μ1 _ a1 w.heap.size p #[] c (Nat.le_refl _) cov2 s1 hA hp fr hq h7 (heap_alloc_new w _) (fun i => by simp) (fun x q hx hqx => ?_) (fun hz => Nat.lt_irrefl _ (st.rel.frz _ hz).1) _ fun x hx a' w' hout hd => ?_
      · obtain ⟨_, hx⟩ := made_none_view C2 _ x hx
        obtain ⟨q', h1, h2⟩ := st2.touch.rel.holds x hx
        rw [le _ _ h1] at hqx; cases hqx
        exact Nat.ne_of_lt (h2.live hx)
      · obtain ⟨μ2, le2, dom2, _, s2⟩ := hout
        refine ⟨hd, _, hend a' _ hd, _, rfl, μ2, Mu.le_trans le le2, fun y hy => ?_, by simp only [V, VL]; exact ⟨_, rfl, rfl⟩, ?_⟩
        · have hmade : ∀ z, (made .none (touch z (reset h))).next.num = h.next.num + 1 := fun z => by rw [made_next, touch_next, reset_next]
          have hmb := hmade b
          have hmy := hmade y
          have hge : (made .none (touch b (reset h))).next.num ≤ x.next.num := (hgr x hx).next
          have hxn := hnx x hx
          rcases dom2 y hy with hy | ⟨h1, h2⟩
          · rcases dom y hy with hy | ⟨h1, h2⟩
            · exact .inl hy
            · rw [reset_next] at h1
              exact .inr ⟨h1, by omega⟩
          · have h1 : (made .none (touch b (reset h))).next.num ≤ y.num := h1
            exact .inr ⟨by omega, by omega⟩
        · obtain ⟨hl1, hl2⟩ := and_ok (allL_ok hleaf x hx)
          have hvb : C2.view x b = look x b := s2.agree b hA
          have hob : eqO some o (look x b) = true := hl1
          have hne := eqO_ne hob
          have hvx : ∀ y, y ≠ b → C.view h y ≠ .none → C2.view x y = C.view h y := fun y hyb hy => by
            unfold Ctx.view
            by_cases hd2 : y ∈ x.dirty
            · exfalso
              have := allL_ok hl2 y hd2
              unfold dirtD at this
              rcases or_ok this with h1 | h1
              · exact hyb (Pos.beq1_iff.1 h1)
              · obtain ⟨h1, h2⟩ := and_ok h1
                rw [num1_eq, num1_eq] at h1 h2
                have h1 := Nat.le_of_ble_eq_true h1
                have h2 := Nat.blt_eq.mp h2
                obtain ⟨q, hq, _⟩ := st.rel.holds y hy
                have hxn := hnx x hx
                have hcn := cov.next
                rw [st.fresh y h1 (by omega)] at hq
                cases hq
            · rw [if_neg hd2]; rfl
          have hv' : ∀ y, C.view h' y = if y = b then o else C.view h y := fun y => by
            unfold Ctx.view
            rw [hdirty, hlk]
            by_cases hyb : y = b
            · rw [if_pos hyb, if_pos (by rw [hyb]; exact List.mem_cons_self), if_pos hyb]
            · rw [if_neg hyb, if_neg hyb]
              by_cases hd2 : y ∈ h.dirty
              · rw [if_pos hd2, if_pos (List.mem_cons_of_mem _ hd2)]
              · rw [if_neg hd2, if_neg (fun hm => by rcases List.mem_cons.1 hm with hm | hm; exact hyb hm; exact hd2 hm)]
          have hlive : ∀ y, C.view h' y ≠ .none → C2.view x y ≠ .none := fun y hy => by
            rw [hv'] at hy
            by_cases hyb : y = b
            · rw [hyb, hvb]; exact hne.2
            · rw [if_neg hyb] at hy
              rw [hvx y hyb hy]; exact hy
          refine ⟨⟨s2.rel.frz, fun y p hy hp => s2.rel.away y p (hlive y hy) hp, fun y hy => ?_, fun y y' p p' hy hy' hp hp' hn => s2.rel.apart y y' p p' (hlive y hy) (hlive y' hy') hp hp' hn, s2.rel.side⟩, fun y hy => ?_, fun y h1 h2 => s2.fresh y (Nat.le_trans (hnx x hx) h1) h2⟩
          · obtain ⟨p, hp, hh⟩ := s2.rel.holds y (hlive y hy)
            refine ⟨p, hp, ?_⟩
            rw [hv'] at hy ⊢
            by_cases hyb : y = b
            · rw [if_pos hyb]
              subst hyb
              rw [hvb] at hh
              have := eqO_holds hob hh
              rwa [muOf_some] at this
            · rw [if_neg hyb] at hy ⊢
              rw [hvx y hyb hy] at hh
              exact hh
          · rw [hv', hlk]
            by_cases hyb : y = b
            · rw [if_pos hyb, if_pos hyb]
            · rw [if_neg hyb, if_neg hyb]
              exact st.agree y hy
  · cases e
end
end Go.Ax
end
/- Static checks of code. -/
noncomputable section
set_option linter.unusedVariables false
set_option linter.unusedSimpArgs false
namespace Go.Ax
def dstB (N : Nat) (o : Oper) : Bool := Option.rec (motive := fun _ => Bool) true (fun d => Nat.ble (d + 1) N) o.dst
def edgeOk (j : Nat) (e : Edge) : Bool := or (not (Region.binds .any e)) (Nat.ble (e.on + 1) j)
def edgesB (l : List Oper) : Nat → Bool := List.rec (motive := fun _ => Nat → Bool) (fun _ => true) (fun o _ ih j => and (allL (edgeOk j) o.after.toList) (ih (Nat.succ j))) l
def pairT (l0 : List Oper) (ops : Array Oper) (y : Oper) (j : Nat) (p : Oper × Nat) : Bool := or (Oper.apart ops p.1 y) (befB l0 p.2 64 j)
def pairsB (l0 : List Oper) (ops : Array Oper) (l : List Oper) : Nat → List (Oper × Nat) → Bool := List.rec (motive := fun _ => Nat → List (Oper × Nat) → Bool) (fun _ _ => true) (fun o _ ih j ps => and (allL (pairT l0 ops o j) ps) (ih (Nat.succ j) ((o, j) :: ps))) l
def regB (ops : Array Oper) : Bool := and (edgesB ops.toList 0) (pairsB ops.toList ops ops.toList 0 [])
def wfR (N : Nat) (ops : Array Oper) (d : Bool) : Bool := and (allL (dstB N) ops.toList) (Bool.rec true (regB ops) d)
def wfB (N : Nat) (c : Code) : Bool := Code.rec (motive := fun _ => Bool) true (fun _ ops d => wfR N ops d) (fun _ _ a b => and a b) (fun _ _ _ a b => and a b) (fun _ _ a => a) (fun _ a => a) (fun _ _ _ _ _ _ => true) (fun _ => true) (fun _ a => a) (fun _ => true) (fun _ => true) true (fun _ => true) c
theorem edgesB_ok : ∀ {l : List Oper} {j : Nat}, edgesB l j = true → ∀ (m : Nat) (o : Oper), l[m]? = some o → ∀ e ∈ o.after, Region.binds .any e = true → e.on < j + m
  | [], j, h, m, o, ho => by simp at ho
  | x :: l, j, h, m, o, ho => by
    have h : and (allL (edgeOk j) x.after.toList) (edgesB l (Nat.succ j)) = true := h
    obtain ⟨h1, h2⟩ := and_ok h
    cases m with
    | zero =>
      simp at ho; subst ho
      intro e he hb
      have := allL_ok h1 e (by simpa using he)
      rcases or_ok this with h3 | h3
      · rw [hb] at h3; cases h3
      · have := Nat.le_of_ble_eq_true h3; omega
    | succ m =>
      intro e he hb
      have := edgesB_ok h2 m o (by simpa using ho) e he hb
      omega
theorem pairsB_ok {l0 : List Oper} {ops : Array Oper} : ∀ {l : List Oper} {j : Nat} {ps : List (Oper × Nat)}, pairsB l0 ops l j ps = true →
    (∀ p ∈ ps, ∀ (m : Nat) (y : Oper), l[m]? = some y → Oper.apart ops p.1 y = true ∨ Bef l0 p.2 (j + m)) ∧ ∀ (i m : Nat) (x y : Oper), i < m → l[i]? = some x → l[m]? = some y → Oper.apart ops x y = true ∨ Bef l0 (j + i) (j + m)
  | [], j, ps, h => ⟨fun p hp m y hy => by simp at hy, fun i m x y hlt hx => by simp at hx⟩
  | o :: l, j, ps, h => by
    have h : and (allL (pairT l0 ops o j) ps) (pairsB l0 ops l (Nat.succ j) ((o, j) :: ps)) = true := h
    obtain ⟨h1, h2⟩ := and_ok h
    obtain ⟨k1, k2⟩ := pairsB_ok h2
    refine ⟨fun p hp m y hy => ?_, fun i m x y hlt hx hy => ?_⟩
    · cases m with
      | zero =>
        simp at hy; subst hy
        exact or_ok (allL_ok h1 p hp)
      | succ m =>
        have := k1 p (List.mem_cons_of_mem _ hp) m y (by simpa using hy)
        rwa [show Nat.succ j + m = j + (m + 1) by omega] at this
    · cases m with
      | zero => omega
      | succ m =>
        cases i with
        | zero =>
          simp at hx; subst hx
          have := k1 (o, j) List.mem_cons_self m y (by simpa using hy)
          rwa [show Nat.succ j + m = j + (m + 1) by omega] at this
        | succ i =>
          have := k2 i m x y (by omega) (by simpa using hx) (by simpa using hy)
          rwa [show Nat.succ j + m = j + (m + 1) by omega, show Nat.succ j + i = j + (i + 1) by omega] at this
theorem regB_ok {ops : Array Oper} (h : regB ops = true) : RegOk ops := by
  obtain ⟨h1, h2⟩ := and_ok h
  refine ⟨fun j o ho e he hb => ?_, fun i j x y hlt hx hy => ?_⟩
  · have := edgesB_ok h1 j o (by rw [Array.getElem?_toList]; exact ho) e he hb
    omega
  · have := (pairsB_ok h2).2 i j x y hlt (by rw [Array.getElem?_toList]; exact hx) (by rw [Array.getElem?_toList]; exact hy)
    simp only [Nat.zero_add] at this
    rcases this with h | h
    · obtain ⟨q1, q2, q3⟩ := Oper.apart_spec h
      exact .inr ⟨fun d hd => ⟨q1 d hd, q2 d hd⟩, q3⟩
    · exact .inl h
theorem wfB_ok {N : Nat} : ∀ {c : Code}, wfB N c = true → WFc N c := by
  intro c
  induction c with
  | region id ops d =>
    intro h
    obtain ⟨h1, h2⟩ := and_ok (show and (allL (dstB N) ops.toList) (Bool.rec true (regB ops) d) = true from h)
    refine ⟨fun o ho i hi => ?_, fun hd => ?_⟩
    · have := allL_ok h1 o (by simpa using ho)
      unfold dstB at this
      rw [hi] at this
      exact Nat.le_of_ble_eq_true this
    · subst hd; exact regB_ok h2
  | seq a b iha ihb =>
    intro h
    obtain ⟨h1, h2⟩ := and_ok (show and (wfB N a) (wfB N b) = true from h)
    exact ⟨iha h1, ihb h2⟩
  | cond c a b iha ihb =>
    intro h
    obtain ⟨h1, h2⟩ := and_ok (show and (wfB N a) (wfB N b) = true from h)
    exact ⟨iha h1, ihb h2⟩
  | block id a iha => intro h; exact iha h
  | loop a iha => intro h; exact iha h
  | scope a iha => intro h; exact iha h
  | _ => intro _; trivial
def flatF (P : Program) (l : List Field) : Nat → Bool := List.rec (motive := fun _ => Nat → Bool) (fun _ => true) (fun f _ ih i => and (f.name != "_") (and (Nat.beq f.offset i) (and (plainD (P.underlying f.type)) (ih (Nat.succ i))))) l
def flatT (P : Program) (t : TypeId) : Bool := match P.underlying t with
  | some (.struct fs) => and (not (P.stoodInHeld t)) (and (not (P.eqGuardType P.depth t)) (flatF P fs.toList 0))
  | _ => true
theorem flatF_ok {P : Program} : ∀ {l : List Field} {i : Nat}, flatF P l i = true → ∀ (j : Nat) (f : Field), l[j]? = some f → f.name ≠ "_" ∧ f.offset = i + j ∧ plainD (P.underlying f.type) = true
  | [], i, h, j, f, hf => by simp at hf
  | x :: l, i, h, j, f, hf => by
    have h : and (x.name != "_") (and (Nat.beq x.offset i) (and (plainD (P.underlying x.type)) (flatF P l (Nat.succ i)))) = true := h
    obtain ⟨h1, h2⟩ := and_ok h
    obtain ⟨h2, h3⟩ := and_ok h2
    obtain ⟨h3, h4⟩ := and_ok h3
    cases j with
    | zero =>
      simp at hf; subst hf
      exact ⟨by simpa using h1, by rw [Nat.eq_of_beq_eq_true h2]; omega, h3⟩
    | succ j =>
      have := flatF_ok h4 j f (by simpa using hf)
      exact ⟨this.1, by rw [this.2.1]; omega, this.2.2⟩
theorem flatK_of {P : Program} {K : List TypeId} (h : allL (flatT P) K = true) : FlatK P K := by
  intro t ht fs hu
  have := allL_ok h t ht
  unfold flatT at this
  rw [hu] at this
  obtain ⟨h1, h2⟩ := and_ok (show and (not (P.stoodInHeld t)) (and (not (P.eqGuardType P.depth t)) (flatF P fs.toList 0)) = true from this)
  obtain ⟨h2, h3⟩ := and_ok h2
  refine ⟨?_, ?_, fun i f hf => ?_⟩
  · cases hb : P.stoodInHeld t with
    | false => rfl
    | true => rw [hb] at h1; cases h1
  · cases hb : P.eqGuardType P.depth t with
    | false => rfl
    | true => rw [hb] at h2; cases h2
  · have := flatF_ok h3 i f hf
    simpa using this
/-- Trees of functions. -/
def AllT (ok : FuncId → Fun → Prop) : (Pos → Pos) → PT Fun → Prop
  | _, .leaf => True
  | k, .node l v r => (∀ f, pos f = k .H → ok f v) ∧ AllT ok (fun p => k (.O p)) l ∧ AllT ok (fun p => k (.I p)) r
theorem AllT_ok {ok : FuncId → Fun → Prop} (h0 : ∀ f, ok f .none) : ∀ {t : PT Fun} {k : Pos → Pos} (p : Pos), AllT ok k t → ∀ f, pos f = k p → ok f (PT.get .none p t)
  | .leaf, k, p, _, f, _ => by rw [PT.get_leaf]; exact h0 f
  | .node l v r, k, .H, h, f, hf => h.1 f hf
  | .node l v r, k, .O p, h, f, hf => AllT_ok h0 (k := fun p => k (.O p)) p h.2.1 f hf
  | .node l v r, k, .I p, h, f, hf => AllT_ok h0 (k := fun p => k (.I p)) p h.2.2 f hf
theorem at_pos {ok : FuncId → Fun → Prop} {n : FuncId} {q : Pos} {v : Fun} (hn : pos n = q) (h : ok n v) : ∀ f, pos f = q → ok f v := fun f hf => by
  rw [pos_inj (hf.trans hn.symm)]; exact h
theorem at_none {ok : FuncId → Fun → Prop} {q : Pos} (h0 : ∀ f, ok f .none) : ∀ f, pos f = q → ok f .none := fun f _ => h0 f
end Go.Ax
end
