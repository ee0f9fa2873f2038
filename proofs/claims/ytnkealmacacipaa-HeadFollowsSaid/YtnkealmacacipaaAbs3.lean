/-
  Lists of abstract values against lists of concrete ones; soundness of the operations that look at temporaries alone.
-/
import Derived.Test.YtnkealmacacipaaAbs2
namespace Go.Pa
set_option linter.unusedSectionVars false
variable [GTab]

inductive RepL (G : Gh) : List AV → List Value → Prop
  | nil : RepL G [] []
  | cons {x : AV} {v : Value} {xs : List AV} {vs : List Value} : Rep G x v → RepL G xs vs → RepL G (x :: xs) (v :: vs)

namespace RepL
variable {G : Gh}
theorem length {xs : List AV} {vs : List Value} (h : RepL G xs vs) : xs.length = vs.length := by
  induction h with
  | nil => rfl
  | cons _ _ ih => simp [ih]
theorem get {xs : List AV} {vs : List Value} (h : RepL G xs vs) : ∀ (i : Nat) x, xs[i]? = some x → ∃ v, vs[i]? = some v ∧ Rep G x v := by
  induction h with
  | nil => intro i x hx; simp at hx
  | cons hr _ ih =>
    intro i x hx
    cases i with
    | zero => simp at hx; subst hx; exact ⟨_, by simp, hr⟩
    | succ i => simp at hx; simpa using ih i x hx
theorem of_get : ∀ {xs : List AV} {vs : List Value}, xs.length = vs.length → (∀ (i : Nat) x, xs[i]? = some x → ∃ v, vs[i]? = some v ∧ Rep G x v) → RepL G xs vs
  | [], [], _, _ => .nil
  | x :: xs, v :: vs, hl, h => by
    refine .cons ?_ (of_get (by simpa using hl) fun i y hy => by simpa using h (i + 1) y (by simpa using hy))
    obtain ⟨u, hu, hr⟩ := h 0 x (by simp)
    simp at hu; subst hu; exact hr
theorem append {xs ys : List AV} {vs us : List Value} (h : RepL G xs vs) (k : RepL G ys us) : RepL G (xs ++ ys) (vs ++ us) := by
  induction h with
  | nil => exact k
  | cons hr _ ih => exact .cons hr ih
theorem drop {xs : List AV} {vs : List Value} (h : RepL G xs vs) (n : Nat) : RepL G (xs.drop n) (vs.drop n) := by
  induction n generalizing xs vs with
  | zero => simpa using h
  | succ n ih => cases h with
    | nil => exact .nil
    | cons _ k => simpa using ih k
theorem take {xs : List AV} {vs : List Value} (h : RepL G xs vs) (n : Nat) : RepL G (xs.take n) (vs.take n) := by
  induction n generalizing xs vs with
  | zero => simpa using RepL.nil
  | succ n ih => cases h with
    | nil => exact .nil
    | cons hr k => simpa using RepL.cons hr (ih k)
theorem set {xs : List AV} {vs : List Value} (h : RepL G xs vs) (i : Nat) {x : AV} {v : Value} (hr : Rep G x v) : RepL G (xs.set i x) (vs.set i v) := by
  induction h generalizing i with
  | nil => exact .nil
  | cons hq k ih => cases i with
    | zero => exact .cons hr k
    | succ i => exact .cons hq (ih i)
theorem mono {G' : Gh} (hg : G.le G') {xs : List AV} {vs : List Value} (h : RepL G xs vs) : RepL G' xs vs := by
  induction h with
  | nil => exact .nil
  | cons hr _ ih => exact .cons (hr.mono hg) ih
theorem ints (k : IntKind) (l : List Int) : RepL G (l.map (AV.int k)) (l.map (Value.int k)) := by
  induction l with
  | nil => exact .nil
  | cons a l ih => exact .cons (.int k a) ih
/-- A function for the values. -/
theorem fn {xs : List AV} {vs : List Value} (h : RepL G xs vs) : (∀ (i : Nat) x, xs[i]? = some x → vs[i]? = some (vs.getD i (.bool false)) ∧ Rep G x (vs.getD i (.bool false))) := by
  intro i x hx
  obtain ⟨v, hv, hr⟩ := h.get i x hx
  simp only [List.getD, hv, Option.getD_some]
  exact ⟨trivial, hr⟩
end RepL

theorem Rep.agg_of {G : Gh} {cs : List AV} {vs : Array Value} (h : RepL G cs vs.toList) : Rep G (.agg cs) (.agg vs) := by
  refine .agg cs vs (fun i => vs.toList.getD i (.bool false)) (by simpa using h.length) (fun i x hx => ?_) (fun i x hx => (h.fn i x hx).2)
  simpa using (h.fn i x hx).1
theorem Rep.agg_inv {G : Gh} {cs : List AV} {v : Value} (h : Rep G (.agg cs) v) : ∃ vs : Array Value, v = .agg vs ∧ RepL G cs vs.toList := by
  cases h with
  | agg _ vs f hl h hr => exact ⟨vs, rfl, RepL.of_get (by simpa using hl) fun i x hx => ⟨f i, by simpa using h i x hx, hr i x hx⟩⟩
theorem Rep.tup_of {G : Gh} {cs : List AV} {vs : Array Value} (h : RepL G cs vs.toList) : Rep G (.tup cs) (.tuple vs) := by
  refine .tup cs vs (fun i => vs.toList.getD i (.bool false)) (by simpa using h.length) (fun i x hx => ?_) (fun i x hx => (h.fn i x hx).2)
  simpa using (h.fn i x hx).1
theorem Rep.tup_inv {G : Gh} {cs : List AV} {v : Value} (h : Rep G (.tup cs) v) : ∃ vs : Array Value, v = .tuple vs ∧ RepL G cs vs.toList := by
  cases h with
  | tup _ vs f hl h hr => exact ⟨vs, rfl, RepL.of_get (by simpa using hl) fun i x hx => ⟨f i, by simpa using h i x hx, hr i x hx⟩⟩
theorem Rep.fn_of {G : Gh} {f : FuncId} {fs cs : List AV} {gs hs : Array Value} (h : RepL G fs gs.toList) (k : RepL G cs hs.toList) : Rep G (.fn f fs cs) (.func (.func f) gs hs) := by
  refine .fn f fs cs gs hs (fun i => gs.toList.getD i (.bool false)) (fun i => hs.toList.getD i (.bool false)) (by simpa using h.length) (by simpa using k.length)
    (fun i x hx => ?_) (fun i x hx => (h.fn i x hx).2) (fun i x hx => ?_) (fun i x hx => (k.fn i x hx).2)
  · simpa using (h.fn i x hx).1
  · simpa using (k.fn i x hx).1
theorem Rep.fn_inv {G : Gh} {f : FuncId} {fs cs : List AV} {v : Value} (h : Rep G (.fn f fs cs) v) : ∃ gs hs : Array Value, v = .func (.func f) gs hs ∧ RepL G fs gs.toList ∧ RepL G cs hs.toList := by
  cases h with
  | fn _ _ _ gs hs p q hl hl' h hr h' hr' =>
    exact ⟨gs, hs, rfl, RepL.of_get (by simpa using hl) fun i x hx => ⟨p i, by simpa using h i x hx, hr i x hx⟩, RepL.of_get (by simpa using hl') fun i x hx => ⟨q i, by simpa using h' i x hx, hr' i x hx⟩⟩
/-- Cells of what never turns. -/
theorem Rep.iptr_inv {G : Gh} {cs : List AV} {v : Value} (h : Rep G (.iptr cs) v) : ∃ b o vs, v = .pointer (some ⟨b, o, none⟩) ∧ RepL G cs vs ∧ ∀ (i : Nat) c, vs[i]? = some c → G.imm b (o + i) = some c := by
  cases h with
  | iptr _ b o f h hr =>
    refine ⟨b, o, (List.range cs.length).map f, rfl, RepL.of_get (by simp) fun i x hx => ⟨f i, ?_, hr i x hx⟩, fun i c hc => ?_⟩
    · have : i < cs.length := (List.getElem?_eq_some_iff.1 hx).1
      simp [this]
    · rcases Nat.lt_or_ge i cs.length with hi | hi
      · simp [hi] at hc
        subst hc
        exact h i _ (List.getElem?_eq_getElem hi)
      · simp [Nat.not_lt.2 hi] at hc
theorem Rep.iptr_of {G : Gh} {cs : List AV} {vs : List Value} {b o : Nat} (h : RepL G cs vs) (hi : ∀ (i : Nat) c, vs[i]? = some c → G.imm b (o + i) = some c) : Rep G (.iptr cs) (.pointer (some ⟨b, o, none⟩)) :=
  .iptr cs b o (fun i => vs.getD i (.bool false)) (fun i x hx => hi i _ (h.fn i x hx).1) (fun i x hx => (h.fn i x hx).2)
/-- A value that may be stored, as cells. -/
theorem cellsOf_rep {G : Gh} {x : AV} {v : Value} {cs : List AV} (h : Rep G x v) (hc : x.cellsOf = some cs) : RepL G cs v.cells.toList ∧ ∀ c ∈ v.cells.toList, c.oneCell' = true := by
  have one : ∀ {x : AV} {v : Value}, Rep G x v → x.cell = true → v.oneCell' = true := by
    intro x v h hx
    cases h <;> first | rfl | (simp [AV.cell] at hx)
  cases x with
  | agg ds =>
    simp only [AV.cellsOf] at hc
    split at hc
    · rename_i hall
      cases hc
      obtain ⟨vs, rfl, hl⟩ := h.agg_inv
      refine ⟨hl, fun c hcm => ?_⟩
      obtain ⟨i, hi⟩ := List.mem_iff_getElem?.1 hcm
      have hlt : i < cs.length := by rw [hl.length]; exact (List.getElem?_eq_some_iff.1 hi).1
      obtain ⟨u, hu, hr⟩ := hl.get i _ (List.getElem?_eq_getElem hlt)
      rw [show vs.toList = (Value.agg vs).cells.toList from rfl, hi] at hu
      cases hu
      exact one hr (List.all_eq_true.1 hall _ (List.getElem_mem hlt))
    · cases hc
  | any => simp [AV.cellsOf] at hc
  | tup _ => simp [AV.cellsOf] at hc
  | _ =>
    simp only [AV.cellsOf, Option.some.injEq] at hc
    subst hc
    have hv := one h rfl
    cases v <;> simp [Value.oneCell'] at hv <;> exact ⟨.cons h .nil, by simp [Value.cells, Value.oneCell']⟩

theorem Rep.oneCell {G : Gh} {x : AV} {v : Value} (h : Rep G x v) (hx : x.cell = true) : v.oneCell' = true := by
  cases h <;> first | rfl | (simp [AV.cell] at hx)

/-! ### What is said of one operation -/

/-- In whatever store, operation 'o' yields what 'v' says. -/
def PureJ (P : Program) (N : Nat) (o : Oper) (env : Env) (v : AV) : Prop :=
  ∀ G σ a w, ERel G N env a → WRel G σ w → ∃ c w' G', (execOp a.eval o).run P w = .ok (.value c) w' ∧ G.le G' ∧ WRel G' σ w' ∧ Rep G' v c

theorem PureJ.of_still {P : Program} {N : Nat} {o : Oper} {env : Env} {v : AV}
    (h : ∀ G σ a w, ERel G N env a → WRel G σ w → ∃ c, (execOp a.eval o).run P w = .ok (.value c) w ∧ Rep G v c) : PureJ P N o env v :=
  fun G σ a w he hw => let ⟨c, hr, hp⟩ := h G σ a w he hw; ⟨c, w, G, hr, .refl G, hw, hp⟩

theorem run_sizeOf {P : Program} {t : TypeId} (h : 0 < P.cellsOf t) (w : World) : (sizeOf t).run P w = .ok (P.cellsOf t) w := by
  unfold Program.cellsOf at *
  cases hi : P.info? t with
  | none => simp [hi] at h
  | some i => simp [sizeOf, typeInfo, hi]

theorem run_isAgg {P : Program} {t : TypeId} {d : TypeDesc} (h : P.underlying t = some d) (w : World) : (isAgg t).run P w = .ok (Agg P t) w := by
  unfold isAgg Agg
  rw [Sem.run_bind, run_underlying h w, h]
  cases d <;> simp

theorem beqInt (a b : Int) : (a == b) = decide (a = b) := rfl

theorem intOp_sound {op : BinOp} {k : IntKind} {a b : Int} {v : AV} (h : (intOp op k a b).says v) (h1 : op ≠ .shl) (h2 : op ≠ .shr) (P : Program) (t : TypeId) (G : Gh) (w : World) :
    ∃ c, (binOp op t (.int k a) (.int k b)).run P w = .ok c w ∧ Rep G v c := by
  cases op <;> simp only [intOp, ERA.says] at h
  case add => subst h; exact ⟨_, by simp only [binOp, ne_eq, not_true_eq_false, if_false]; rfl, .int _ _⟩
  case sub => subst h; exact ⟨_, by simp only [binOp, ne_eq, not_true_eq_false, if_false]; rfl, .int _ _⟩
  case mul => subst h; exact ⟨_, by simp only [binOp, ne_eq, not_true_eq_false, if_false]; rfl, .int _ _⟩
  case quo => obtain ⟨h0, rfl⟩ := h; exact ⟨.int k (k.wrap (a.tdiv b)), by simp [binOp, Op.intDiv, h0], .int _ _⟩
  case rem => obtain ⟨h0, rfl⟩ := h; exact ⟨.int k (a.tmod b), by simp [binOp, Op.intDiv, h0], .int _ _⟩
  case and => subst h; exact ⟨_, by simp only [binOp, ne_eq, not_true_eq_false, if_false]; rfl, .int _ _⟩
  case or => subst h; exact ⟨_, by simp only [binOp, ne_eq, not_true_eq_false, if_false]; rfl, .int _ _⟩
  case xor => subst h; exact ⟨_, by simp only [binOp, ne_eq, not_true_eq_false, if_false]; rfl, .int _ _⟩
  case andNot => subst h; exact ⟨_, by simp only [binOp, ne_eq, not_true_eq_false, if_false]; rfl, .int _ _⟩
  case eql => subst h; exact ⟨_, by simp only [binOp, ne_eq, not_true_eq_false, if_false]; rfl, .bool _⟩
  case neq => subst h; exact ⟨_, by simp only [binOp, ne_eq, not_true_eq_false, if_false]; rfl, .bool _⟩
  case lss => subst h; exact ⟨_, by simp only [binOp, ne_eq, not_true_eq_false, if_false]; rfl, .bool _⟩
  case leq => subst h; exact ⟨_, by simp only [binOp, ne_eq, not_true_eq_false, if_false]; rfl, .bool _⟩
  case gtr => subst h; exact ⟨_, by simp only [binOp, ne_eq, not_true_eq_false, if_false]; rfl, .bool _⟩
  case geq => subst h; exact ⟨_, by simp only [binOp, ne_eq, not_true_eq_false, if_false]; rfl, .bool _⟩
  all_goals exact h.elim

end Go.Pa
