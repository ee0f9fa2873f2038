/-
  Soundness of the operations that look at temporaries alone, one by one.
-/
import Derived.Test.YtnkealmacacipaaAbs3
namespace Go.Pa
set_option linter.unusedSectionVars false
variable [GTab]
variable {P : Program} {G : Gh}

theorem says_val {v u : AV} (h : (ERA.val v).says u) : u = v := h
theorem says_need {p : Prop} {v u : AV} (h : (ERA.need p v).says u) : p ∧ u = v := h

theorem run_eqGuard_plain (op : BinOp) (t : TypeId) (x y : Operand) {a b : Value} (ha : (∀ cs, a ≠ .agg cs) ∧ a ≠ .nilIface) (w : World) :
    (eqGuard op t x y a b).run P w = .ok () w := by
  cases a <;> first | exact absurd rfl (ha.1 _) | exact absurd rfl ha.2 | (unfold eqGuard; (repeat' split) <;> first | rfl | (rename_i h; cases h) | simp_all)

theorem str_eq {a b : List Int} {s1 s2 : ByteArray} (e1 : s1.data.toList.map (fun b => (b.toNat : Int)) = a) (e2 : s2.data.toList.map (fun b => (b.toNat : Int)) = b) :
    (s1.toList == s2.toList) = decide (a = b) := by
  rw [ByteArray.toList_eq, ByteArray.toList_eq, ← e1, ← e2]
  generalize s1.data.toList = l1
  generalize s2.data.toList = l2
  have key : l1 = l2 ↔ l1.map (fun b => (b.toNat : Int)) = l2.map (fun b => (b.toNat : Int)) :=
    ⟨fun h => by rw [h], fun h => (List.map_inj_right (fun x y hxy => by have : x.toNat = y.toNat := by omega
                                                                         exact UInt8.toNat_inj.1 this)).1 h⟩
  have h2 : decide (l1 = l2) = decide (l1.map (fun b => (b.toNat : Int)) = l2.map (fun b => (b.toNat : Int))) := decide_eq_decide.2 key
  rw [← h2]
  by_cases h : l1 = l2
  · simp [h]
  · simp [h]

theorem str_len {a : List Int} {s : ByteArray} (e : s.data.toList.map (fun b => (b.toNat : Int)) = a) : s.size = a.length := by
  rw [← e, List.length_map]; rfl

theorem str_append {a b : List Int} {s1 s2 : ByteArray} (e1 : s1.data.toList.map (fun b => (b.toNat : Int)) = a) (e2 : s2.data.toList.map (fun b => (b.toNat : Int)) = b) :
    (s1 ++ s2).data.toList.map (fun b => (b.toNat : Int)) = a ++ b := by
  rw [← e1, ← e2, ← List.map_append]
  simp

theorem eqCells_run {xs ys : List AV} {us vs : Array Value} (hx : RepL G xs us.toList) (hy : RepL G ys vs.toList) (d : Nat) :
    ∀ (fs : List Field) (r : Bool), eqCells P xs ys fs = some r → ∀ w, (Op.eqFields (d + 1) us vs fs).run P w = .ok r w
  | [], r, h, w => by simp only [eqCells, Option.some.injEq] at h; subst h; rfl
  | f :: fs, r, h, w => by
    simp only [eqCells] at h
    split at h
    · cases h
    · rename_i hn
      have agg (d : TypeDesc) (hd : P.underlying f.type = some d) (hq : (match d with | .struct _ | .array _ _ => true | _ => false) = false) : ∀ w, (isAgg f.type).run P w = .ok false w := by
        intro w
        rw [run_isAgg hd, Agg, hd]
        cases d <;> simp_all
      have part (d : TypeDesc) (hd : P.underlying f.type = some d) (hq : (match d with | .struct _ | .array _ _ => true | _ => false) = false) {zs : List AV} {ws : Array Value} (hz : RepL G zs ws.toList) {x : AV} (hx : zs[f.offset]? = some x) :
          ∃ v, Rep G x v ∧ ∀ w, (part f.type ws f.offset).run P w = .ok v w := by
        obtain ⟨v, hv, hr⟩ := hz.get _ _ hx
        have hv' : ws[f.offset]? = some v := by simpa using hv
        exact ⟨v, hr, fun w => by simp [Go.part, agg d hd hq, hv']⟩
      split at h <;> try cases h
      · rename_i k a k' b r' h1 h2 h3 h4
        split at h
        · rename_i hk; subst hk; cases h
          obtain ⟨v1, hr1, hp1⟩ := part _ h1 rfl hx h2
          obtain ⟨v2, hr2, hp2⟩ := part _ h1 rfl hy h3
          cases hr1; cases hr2
          have ih := eqCells_run hx hy d fs r' h4
          simp only [Op.eqFields, hn, ne_eq, not_false_eq_true, if_true, Sem.run_bind, hp1, hp2, Result.andThen_ok, run_equalIn_int w d f.type k _ a b h1]
          by_cases hab : a = b
          · subst hab; simp [ih]
          · simp [hab]
        · cases h
      · rename_i a b r' h1 h2 h3 h4
        obtain ⟨v1, hr1, hp1⟩ := part _ h1 rfl hx h2
        obtain ⟨v2, hr2, hp2⟩ := part _ h1 rfl hy h3
        cases hr1; cases hr2
        have ih := eqCells_run hx hy d fs r' h4
        simp only [Op.eqFields, hn, ne_eq, not_false_eq_true, if_true, Sem.run_bind, hp1, hp2, Result.andThen_ok, run_equalIn_bool' w d f.type a b h1]
        by_cases hab : a = b
        · subst hab; simp [ih]
        · simp [hab]
      · rename_i a b r' h1 h2 h3 h4
        obtain ⟨v1, hr1, hp1⟩ := part _ h1 rfl hx h2
        obtain ⟨v2, hr2, hp2⟩ := part _ h1 rfl hy h3
        cases hr1; rename_i s1 e1; cases hr2; rename_i s2 e2
        have ih := eqCells_run hx hy d fs r' h4
        have hs := str_eq e1 e2
        simp only [Op.eqFields, hn, ne_eq, not_false_eq_true, if_true, Sem.run_bind, hp1, hp2, Result.andThen_ok, run_equalIn_string w d f.type s1 s2 h1, hs]
        by_cases hab : a = b
        · subst hab; simp [ih]
        · simp [hab]

theorem nil_runIn (d : Nat) {t : TypeId} {x y : AV} {p : Prop} {b : Bool} (h : nilOf P t x y = some (p, b)) (hp : p) {u1 u2 : Value} (h1 : Rep G x u1) (h2 : Rep G y u2) (w : World) : (Op.equalIn (d + 1) t u1 u2).run P w = .ok b w := by
  unfold nilOf at h
  split at h
  all_goals first
    | (cases h; done)
    | (rename_i hu
       cases h
       cases h2
       cases h1 <;> first
         | exact absurd rfl hp
         | simp [Op.equalIn, run_underlying hu])

theorem nil_run {t : TypeId} {x y : AV} {p : Prop} {b : Bool} (h : nilOf P t x y = some (p, b)) (hp : p) {u1 u2 : Value} (h1 : Rep G x u1) (h2 : Rep G y u2) (w : World) :
    (binOp .eql t u1 u2).run P w = .ok (.bool b) w ∧ (binOp .neq t u1 u2).run P w = .ok (.bool (!b)) w ∧ (∀ cs, u1 ≠ .agg cs) ∧ u1 ≠ .nilIface := by
  have hq : (Op.equal t u1 u2).run P w = .ok b w := nil_runIn 9999 h hp h1 h2 w
  unfold nilOf at h
  split at h
  all_goals first
    | (cases h; done)
    | (cases h
       cases h2
       cases h1 <;> exact ⟨by simp only [binOp, Sem.run_bind, hq, Result.andThen_ok, Sem.run_pure], by simp only [binOp, Sem.run_bind, hq, Result.andThen_ok, Sem.run_pure], fun _ => Value.noConfusion, Value.noConfusion⟩)

theorem bin_sound {op : BinOp} {t : TypeId} {x y : AV} {v : AV} (h : (evBin P op t x y).says v) {u1 u2 : Value} (h1 : Rep G x u1) (h2 : Rep G y u2) (xo yo : Operand) (w : World) :
    ∃ c, (do eqGuard op t xo yo u1 u2; binOp op t u1 u2 : Sem Value).run P w = .ok c w ∧ Rep G v c := by
  unfold evBin at h
  split at h
  · -- ints
    rename_i k a k' b
    cases h1; cases h2
    simp only [Sem.run_bind, run_eqGuard_plain op t xo yo (a := .int k a) (b := .int k' b) ⟨fun _ => Value.noConfusion, Value.noConfusion⟩ w, Result.andThen_ok]
    split at h
    · obtain ⟨hb, rfl⟩ := says_need h
      exact ⟨.int k (ishl k a b), by simp [binOp, Op.shift, Int.not_lt.2 hb, ishl], .int _ _⟩
    · obtain ⟨hb, rfl⟩ := says_need h
      exact ⟨.int k (ishr k a b), by simp [binOp, Op.shift, Int.not_lt.2 hb, ishr], .int _ _⟩
    · rename_i h3 h4
      split at h
      · rename_i hk; subst hk
        exact intOp_sound h (fun e => h3 (e ▸ rfl)) (fun e => h4 (e ▸ rfl)) P t G w
      · exact h.elim
  · -- bools
    rename_i a b
    cases h1; cases h2
    simp only [Sem.run_bind, run_eqGuard_plain op t xo yo (a := .bool a) (b := .bool b) ⟨fun _ => Value.noConfusion, Value.noConfusion⟩ w, Result.andThen_ok]
    split at h
    · rename_i hu; have := says_val h; subst this
      exact ⟨.bool (a == b), by simp [binOp, Op.equal, Op.maxDepth, run_equalIn_bool' w 9999 t a b hu], .bool _⟩
    · rename_i hu; have := says_val h; subst this
      exact ⟨.bool (!(a == b)), by simp [binOp, Op.equal, Op.maxDepth, run_equalIn_bool' w 9999 t a b hu], .bool _⟩
    · exact h.elim
  · -- strings
    rename_i a b
    cases h1; rename_i s1 e1; cases h2; rename_i s2 e2
    simp only [Sem.run_bind, run_eqGuard_plain op t xo yo (a := .string s1) (b := .string s2) ⟨fun _ => Value.noConfusion, Value.noConfusion⟩ w, Result.andThen_ok]
    unfold strOp at h
    split at h
    · obtain ⟨hb, rfl⟩ := says_need h
      refine ⟨.string (s1 ++ s2), ?_, .str _ _ (str_append e1 e2)⟩
      have h1 := str_len e1
      have h2 := str_len e2
      have : ¬ ((s1.size + s2.size : Nat) : Int) > IntKind.i64.max := by
        have hm : IntKind.i64.max = 9223372036854775807 := by decide
        rw [hm]; omega
      simp only [binOp, Op.stringOp, this, if_false, Sem.run_pure]
    · have := says_val h; subst this
      exact ⟨.bool (decide (a = b)), by simp only [binOp, Op.stringOp, Sem.run_pure, str_eq e1 e2], .bool _⟩
    · have := says_val h; subst this
      exact ⟨.bool (!decide (a = b)), by simp only [binOp, Op.stringOp, Sem.run_pure, str_eq e1 e2], .bool _⟩
    · exact h.elim
  · -- structs
    rename_i xs ys
    obtain ⟨us, rfl, hx⟩ := h1.agg_inv
    obtain ⟨vs, rfl, hy⟩ := h2.agg_inv
    unfold eqAgg at h
    cases hu : P.underlying t with
    | none => simp [hu] at h; exact h.elim
    | some d =>
      cases d with
      | struct fs =>
        simp only [hu] at h
        by_cases hc : P.stoodInHeld t = false ∧ P.eqGuardType P.depth t = false
        · simp only [hc, and_self, if_true] at h
          have hf : P.fieldsOf t = fs := by simp [Program.fieldsOf, hu]
          have he := run_equalIn_struct (P := P) w 9999 t us vs (by rw [hf]; exact hu) hc.1
          rw [hf] at he
          split at h
          · rename_i r' hq
            have := says_val h; subst this
            have hrun := eqCells_run (P := P) hx hy 9998 fs.toList r' hq w
            refine ⟨.bool r', ?_, .bool _⟩
            simp only [Sem.run_bind, run_eqGuard_agg w .eql t xo yo us vs hc.2, Result.andThen_ok, run_eql_struct, he, hrun]
          · rename_i r' hq
            have := says_val h; subst this
            have hrun := eqCells_run (P := P) hx hy 9998 fs.toList r' hq w
            refine ⟨.bool (!r'), ?_, .bool _⟩
            simp only [Sem.run_bind, run_eqGuard_agg w .neq t xo yo us vs hc.2, Result.andThen_ok, run_neq_struct, he, hrun]
          · exact h.elim
        · simp only [hc, if_false] at h; exact h.elim
      | _ => simp [hu] at h; exact h.elim
  · -- nil
    unfold nilA at h
    split at h
    · rename_i p b hq
      obtain ⟨hp, rfl⟩ := says_need h
      obtain ⟨q1, _, q2⟩ := nil_run hq hp h1 h2 w
      exact ⟨.bool b, by simp only [Sem.run_bind, run_eqGuard_plain _ t xo yo q2 w, Result.andThen_ok, q1], .bool _⟩
    · rename_i p b hq
      obtain ⟨hp, rfl⟩ := says_need h
      obtain ⟨_, q1, q2⟩ := nil_run hq hp h1 h2 w
      exact ⟨.bool (!b), by simp only [Sem.run_bind, run_eqGuard_plain _ t xo yo q2 w, Result.andThen_ok, q1], .bool _⟩
    · exact h.elim

end Go.Pa
