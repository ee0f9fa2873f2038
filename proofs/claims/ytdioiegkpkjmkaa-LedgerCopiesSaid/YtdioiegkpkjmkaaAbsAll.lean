/-
  All of the own layer; the reckoning's equations in few words.
-/
import Derived.Test.YtdioiegkpkjmkaaAbsD
namespace Go.Pa
set_option linter.unusedSectionVars false
set_option linter.unusedVariables false
variable [GTab]
theorem VB0 : (∀ {P : Program} {N : Nat} (a b : Code) (K : Exit → Env → Store → Prop) (e : Env) (s : Store), vc P N (.seq a b) K e s = vc P N a (seqK P N b K) e s) ∧
  (∀ {P : Program} {N : Nat} (id : Nat) (b : Code) (K : Exit → Env → Store → Prop) (e : Env) (s : Store), vc P N (.block id b) K e s = vc P N b (blkK id K) e s) ∧
  (∀ {P : Program} {N : Nat} (id : Nat) (K : Exit → Env → Store → Prop) (e : Env) (s : Store), vc P N (.exit id) K e s = K (.exit id) e s) ∧
  (∀ {P : Program} {N : Nat} (K : Exit → Env → Store → Prop) (e : Env) (s : Store), vc P N .ret K e s = K .ret e s) ∧
  (∀ {P : Program} {N : Nat} (K : Exit → Env → Store → Prop) (e : Env) (s : Store), vc P N .skip K e s = K .normal e s) ∧
  (∀ {P : Program} {N : Nat} (id : Nat) (l : List Oper) (K : Exit → Env → Store → Prop) (e : Env) (s : Store), vc P N (.region id l.toArray false) K e s = vcOps P l l e s (K .normal)) ∧
  (∀ {P : Program} {N : Nat} (id : Nat) (l : List Oper) (K : Exit → Env → Store → Prop) (e : Env) (s : Store), vc P N (.region id l.toArray true) K e s = AWp P N (.region id l.toArray true) K e s) ∧
  (∀ {P : Program} {N : Nat} (b : Code) (K : Exit → Env → Store → Prop) (e : Env) (s : Store), vc P N (.loop b) K e s = AWp P N (.loop b) K e s) ∧
  (∀ {P : Program} {N : Nat} (f : Operand) (ps : Array Tmp) (a b : Code) (K : Exit → Env → Store → Prop) (e : Env) (s : Store), vc P N (.rangeFunc f ps a b) K e s = AWp P N (.rangeFunc f ps a b) K e s) ∧
  (∀ {P : Program} {N : Nat} (c : Operand) (a b : Code) (K : Exit → Env → Store → Prop) (e : Env) (s : Store), vc P N (.cond c a b) K e s = condV P N a b K e s (evO e c)) ∧
  (∀ {P : Program} {N : Nat} (a b : Code) (K : Exit → Env → Store → Prop) (e : Env) (s : Store), condV P N a b K e s (.bool true) = vc P N a K e s) ∧
  (∀ {P : Program} {N : Nat} (a b : Code) (K : Exit → Env → Store → Prop) (e : Env) (s : Store), condV P N a b K e s (.bool false) = vc P N b K e s) ∧
  (∀ {P : Program} {N : Nat} (b : Code) (K : Exit → Env → Store → Prop) (e : Env) (s : Store), seqK P N b K .normal e s = vc P N b K e s) := ⟨vc_seq, vc_block, vc_exit, vc_ret, vc_skip, vc_region, vc_draw, vc_loop, vc_range, vc_cond, condV_true, condV_false, seqK_normal⟩
theorem VB1 : (∀ {P : Program} {N : Nat} (b : Code) (K : Exit → Env → Store → Prop) (e : Env) (s : Store), seqK P N b K .ret e s = K .ret e s) ∧
  (∀ {P : Program} {N : Nat} (i : Nat) (b : Code) (K : Exit → Env → Store → Prop) (e : Env) (s : Store), seqK P N b K (.exit i) e s = K (.exit i) e s) ∧
  (∀ (id : Nat) (K : Exit → Env → Store → Prop) (e : Env) (s : Store), blkK id K .normal e s = K .normal e s) ∧
  (∀ (id : Nat) (K : Exit → Env → Store → Prop) (e : Env) (s : Store), blkK id K .ret e s = K .ret e s) ∧
  (∀ (id i : Nat) (K : Exit → Env → Store → Prop) (e : Env) (s : Store), blkK id K (.exit i) e s = if i = id then K .normal e s else K (.exit i) e s) ∧
  (∀ {S : Type} (st : S → Env) (Inv : S → Store → Prop) (μ : S → Nat) (s : S) (K : Exit → Env → Store → Prop) (e : Env) (σ : Store), loopK st Inv μ s K .ret e σ = K .ret e σ) ∧
  (∀ {S : Type} (st : S → Env) (Inv : S → Store → Prop) (μ : S → Nat) (s : S) (K : Exit → Env → Store → Prop) (i : Nat) (e : Env) (σ : Store), loopK st Inv μ s K (.exit i) e σ = K (.exit i) e σ) ∧
  (∀ {S : Type} (st : S → Env) (Inv : S → Store → Prop) (μ : S → Nat) (s : S) (K : Exit → Env → Store → Prop) (e : Env) (σ : Store), loopK st Inv μ s K .normal e σ = ∃ s', (st s').sub e ∧ Inv s' σ ∧ μ s' < μ s) ∧
  (∀ {P : Program} (all : List Oper) (e : Env) (s : Store) (K : Env → Store → Prop), vcOps P all [] e s K = K e s) ∧
  (∀ {P : Program} (all os : List Oper) (d : Option Tmp) (op : Op) (ty : TypeId) (pos : String) (af : Array Edge) (e : Env) (s : Store) (K : Env → Store → Prop), vcOps P all (⟨d, op, ty, pos, af, none⟩ :: os) e s K = vcOp P e s (opK P all os d e K) op) ∧
  (∀ {P : Program} (all os : List Oper) (d : Option Tmp) (op : Op) (ty : TypeId) (pos : String) (af : Array Edge) (j : Nat) (want : Bool) (e : Env) (s : Store) (K : Env → Store → Prop), vcOps P all (⟨d, op, ty, pos, af, some (j, want)⟩ :: os) e s K = guardM P all os d op want e s K (dstAt all j)) ∧
  (∀ {P : Program} (all os : List Oper) (d : Option Tmp) (op : Op) (want : Bool) (e : Env) (s : Store) (K : Env → Store → Prop) (t : Tmp), guardM P all os d op want e s K (some t) = guardV P all os d op want e s K t (lookA e t)) ∧
  (∀ {P : Program} (all os : List Oper) (d : Option Tmp) (op : Op) (want : Bool) (e : Env) (s : Store) (K : Env → Store → Prop) (t : Tmp), guardV P all os d op want e s K t (.tup []) = vcOps P all os (Env.put e d (.tup [])) s K) := ⟨seqK_ret, seqK_exit, blkK_normal, blkK_ret, blkK_exit, loopK_ret, loopK_exit, loopK_normal, vcOps_nil, vcOps_cons, vcOps_guardM, guardM_some, guardV_und⟩
theorem VB2 : (∀ {P : Program} (all os : List Oper) (d : Option Tmp) (op : Op) (e : Env) (s : Store) (K : Env → Store → Prop) (t : Tmp) (b : Bool), guardV P all os d op b e s K t (.bool b) = vcOp P ((t, .bool b) :: e) s (opK P all os d ((t, .bool b) :: e) K) op) ∧
  (∀ {P : Program} (all os : List Oper) (d : Option Tmp) (op : Op) (e : Env) (s : Store) (K : Env → Store → Prop) (t : Tmp), guardV P all os d op true e s K t (.bool false) = vcOps P all os (Env.put ((t, .bool false) :: e) d (.tup [])) s K) ∧
  (∀ {P : Program} (all os : List Oper) (d : Option Tmp) (op : Op) (e : Env) (s : Store) (K : Env → Store → Prop) (t : Tmp), guardV P all os d op false e s K t (.bool true) = vcOps P all os (Env.put ((t, .bool true) :: e) d (.tup [])) s K) ∧
  (∀ {P : Program} (e : Env) (s : Store) (R : AV → Store → Prop) (op : Op), vcOp P e s R op = outV P e s R op (evA P e op)) ∧
  (∀ {P : Program} (e : Env) (s : Store) (R : AV → Store → Prop) (op : Op) (v : AV), outV P e s R op (.val v) = R v s) ∧
  (∀ {P : Program} (e : Env) (s : Store) (R : AV → Store → Prop) (op : Op) (p : Prop) (v : AV), outV P e s R op (.need p v) = (p ∧ R v s)) ∧
  (∀ {P : Program} (e : Env) (s : Store) (R : AV → Store → Prop) (op : Op), outV P e s R op .no = vcS P e s R op) ∧
  (∀ {P : Program} (all os : List Oper) (d : Tmp) (e : Env) (K : Env → Store → Prop) (v : AV) (s : Store), opK P all os (some d) e K v s = vcOps P all os ((d, v) :: e) s K) ∧
  (∀ {P : Program} (all os : List Oper) (e : Env) (K : Env → Store → Prop) (v : AV) (s : Store), opK P all os none e K v s = vcOps P all os e s K) ∧
  (∀ (k : IntKind) (n : Int), AV.cellsOf (.int k n) = some [.int k n]) ∧
  (∀ (b : Bool), AV.cellsOf (.bool b) = some [.bool b]) ∧
  (∀ (l : List Int), AV.cellsOf (.str l) = some [.str l]) ∧
  (AV.cellsOf (.nils) = some [.nils]) := ⟨guardV_same, guardV_tf, guardV_ft, vcOp_out, outV_val, outV_need, outV_no, opK_run, opK_none, cO_int, cO_bool, cO_str, cO_nils⟩
theorem VB3 : (AV.cellsOf (.emp) = some [.emp]) ∧
  (∀ (k : IntKind) (l : List Int), AV.cellsOf (.ints k l) = some [.ints k l]) ∧
  (∀ (z : Nat) (l : List (List AV)), AV.cellsOf (.rows z l) = some [.rows z l]) ∧
  (∀ (a b c d : Nat), AV.cellsOf (.mvec a b c d) = some [.mvec a b c d]) ∧
  (∀ (a b : Nat), AV.cellsOf (.ptr a b) = some [.ptr a b]) ∧
  (∀ (a b c d : Nat), AV.cellsOf (.eptr a b c d) = some [.eptr a b c d]) ∧
  (∀ (l : List AV), AV.cellsOf (.iptr l) = some [.iptr l]) ∧
  (AV.cellsOf (.nilp) = some [.nilp]) ∧
  (∀ (f : FuncId) (a b : List AV), AV.cellsOf (.fn f a b) = some [.fn f a b]) ∧
  (AV.cellsOf (.nilf) = some [.nilf]) ∧
  (∀ (a : Nat), AV.cellsOf (.mp a) = some [.mp a]) ∧
  (AV.cellsOf (.nilm) = some [.nilm]) ∧
  (∀ (a : Nat), AV.cellsOf (.glob a) = some [.glob a]) := ⟨cO_emp, cO_ints, cO_rows, cO_mvec, cO_ptr, cO_eptr, cO_iptr, cO_nilp, cO_fn, cO_nilf, cO_mp, cO_nilm, cO_glob⟩
theorem VB4 : (∀ (cs : List AV), AV.cellsOf (.agg cs) = if cs.all AV.cell then some cs else none) ∧
  (∀ {P : Program} (es : List Nat) (all : List Oper) (i : Nat) (e : Env) (s : Store) (K : Env → Store → Prop), vcE P es all i [] e s K = K e s) ∧
  (∀ {P : Program} (es : List Nat) (all os : List Oper) (i : Nat) (d : Option Tmp) (op : Op) (ty : TypeId) (pos : String) (af : Array Edge) (e : Env) (s : Store) (K : Env → Store → Prop), vcE P es all i (⟨d, op, ty, pos, af, none⟩ :: os) e s K = dOp P (cl es i op) e s (dK P es all i os d e K) op) ∧
  (∀ {P : Program} (es : List Nat) (all os : List Oper) (i : Nat) (d : Option Tmp) (op : Op) (ty : TypeId) (pos : String) (af : Array Edge) (j : Nat) (want : Bool) (e : Env) (s : Store) (K : Env → Store → Prop), vcE P es all i (⟨d, op, ty, pos, af, some (j, want)⟩ :: os) e s K = guardME P es all os i d op want e s K (dstAt all j)) ∧
  (∀ {P : Program} (es : List Nat) (all os : List Oper) (i : Nat) (d : Option Tmp) (op : Op) (want : Bool) (e : Env) (s : Store) (K : Env → Store → Prop) (t : Tmp), guardME P es all os i d op want e s K (some t) = guardD P es all os i d op want e s K t (lookA e t)) ∧
  (∀ {P : Program} (es : List Nat) (all os : List Oper) (i : Nat) (d : Option Tmp) (op : Op) (want : Bool) (e : Env) (s : Store) (K : Env → Store → Prop) (t : Tmp), guardD P es all os i d op want e s K t (.tup []) = vcE P es all (i + 1) os (Env.put e d (.tup [])) s K) ∧
  (∀ {P : Program} (es : List Nat) (all os : List Oper) (i : Nat) (d : Option Tmp) (op : Op) (e : Env) (s : Store) (K : Env → Store → Prop) (t : Tmp) (b : Bool), guardD P es all os i d op b e s K t (.bool b) = dOp P (cl es i op) ((t, .bool b) :: e) s (dK P es all i os d ((t, .bool b) :: e) K) op) ∧
  (∀ {P : Program} (es : List Nat) (all os : List Oper) (i : Nat) (d : Option Tmp) (op : Op) (e : Env) (s : Store) (K : Env → Store → Prop) (t : Tmp), guardD P es all os i d op true e s K t (.bool false) = vcE P es all (i + 1) os (Env.put ((t, .bool false) :: e) d (.tup [])) s K) ∧
  (∀ {P : Program} (es : List Nat) (all os : List Oper) (i : Nat) (d : Option Tmp) (op : Op) (e : Env) (s : Store) (K : Env → Store → Prop) (t : Tmp), guardD P es all os i d op false e s K t (.bool true) = vcE P es all (i + 1) os (Env.put ((t, .bool true) :: e) d (.tup [])) s K) ∧
  (∀ {P : Program} (es : List Nat) (all : List Oper) (i : Nat) (os : List Oper) (d : Tmp) (e : Env) (K : Env → Store → Prop) (v : AV) (s : Store), dK P es all i os (some d) e K v s = vcE P es all (i + 1) os ((d, v) :: e) s K) ∧
  (∀ {P : Program} (es : List Nat) (all : List Oper) (i : Nat) (os : List Oper) (e : Env) (K : Env → Store → Prop) (v : AV) (s : Store), dK P es all i os none e K v s = vcE P es all (i + 1) os e s K) ∧
  (∀ {P : Program} (c : Nat) (e : Env) (s : Store) (K : AV → Store → Prop) (f : Operand) (xs : Array Operand) (ts : Array TypeId), dOp P c e s K (.call { callee := .value f, args := xs, argTypes := ts }) = callA P c (xs.toList.map (evO e)) s K (evO e f)) ∧
  (∀ {P : Program} (c : Nat) (xas : List AV) (s : Store) (K : AV → Store → Prop) (g : FuncId) (fs cs : List AV), callA P c xas s K (.fn g fs cs) = dCall P c g (fs ++ xas ++ cs) s K) := ⟨cO_agg, vcE_nil, vcE_cons, vcE_guardM, guardME_some, guardD_und, guardD_same, guardD_tf, guardD_ft, dK_run, dK_none, dOp_call, callA_fn⟩
theorem VB5 : (∀ (s : Store) (K : AV → Store → Prop) (v : AV), outA s K (.val v) = K v s) ∧
  (∀ (s : Store) (K : AV → Store → Prop) (p : Prop) (v : AV), outA s K (.need p v) = (p ∧ K v s)) ∧
  (∀ (e : Env) (t : Nat), evO e (.tmp t) = lookA e t) ∧
  (∀ (e : Env) (k : IntKind) (n : Int), evO e (.const (.int k n)) = .int k n) ∧
  (∀ (e : Env) (b : Bool), evO e (.const (.bool b)) = .bool b) ∧
  (∀ (e : Env), evO e (.const (.slice none 0 0)) = .nils) ∧
  (∀ (e : Env), evO e (.const (.pointer none)) = .nilp) ∧
  (∀ (e : Env), evO e (.const .nilFunc) = .nilf) ∧
  (∀ (e : Env), evO e (.const (.map none)) = .nilm) ∧
  (∀ (e : Env) (l : List UInt8), evO e (.const (.string ⟨l.toArray⟩)) = .str (l.map fun b => (b.toNat : Int))) ∧
  (∀ (e : Env) (f : FuncId), evO e (.func f) = .fn f [] []) ∧
  (∀ (e : Env) (g : Nat), evO e (.global g) = globA g) ∧
  (∀ (t u : Nat) (v : AV) (e : Env), lookA ((t, v) :: e) u = if t = u then v else lookA e u) := ⟨outA_val, outA_need, evO_tmp, evO_int, evO_bool, evO_nils, evO_nilp, evO_nilf, evO_nilm, evO_str, evO_func, evO_glob, lookA_cons⟩
theorem VB6 : (∀ (t u : Nat) (v : AV) (e : Env), Env.get ((t, v) :: e) u = if t = u then some v else Env.get e u) ∧
  (∀ (t : Nat) (v : AV) (e f : Env), Env.sub ((t, v) :: e) f = (f.get t = some v ∧ Env.sub e f)) ∧
  (∀ (f : Env), Env.sub [] f = True) ∧
  (∀ {P : Program} (rs : List ResultVar) (R : AV → Store → Prop) (e : Env) (s : Store), retK P rs R .ret e s = (match retA P e s rs with | some v => R v s | none => False)) ∧
  (∀ {P : Program} (rs : List ResultVar) (R : AV → Store → Prop) (e : Env) (s : Store), retK P rs R .normal e s = (match retA P e s rs with | some v => R v s | none => False)) ∧
  (∀ {P : Program} {N : Nat} (K : Exit → Env → Store → Prop) (e : Env) (s : Store), vcR P N .skip K e s = K .normal e s) ∧
  (∀ {P : Program} {N : Nat} (a b : Code) (K : Exit → Env → Store → Prop) (e : Env) (s : Store), vcR P N (.seq a b) K e s = vcR P N a (seqR P N b K) e s) ∧
  (∀ {P : Program} {N : Nat} (id : Nat) (b : Code) (K : Exit → Env → Store → Prop) (e : Env) (s : Store), vcR P N (.block id b) K e s = vcR P N b (blkK id K) e s) ∧
  (∀ {P : Program} {N : Nat} (id : Nat) (K : Exit → Env → Store → Prop) (e : Env) (s : Store), vcR P N (.exit id) K e s = K (.exit id) e s) ∧
  (∀ {P : Program} {N : Nat} (K : Exit → Env → Store → Prop) (e : Env) (s : Store), vcR P N .ret K e s = K .ret e s) ∧
  (∀ {P : Program} {N : Nat} (id : Nat) (l : List Oper) (K : Exit → Env → Store → Prop) (e : Env) (s : Store), vcR P N (.region id l.toArray false) K e s = vcOps P l l e s (K .normal)) ∧
  (∀ {P : Program} {N : Nat} (id : Nat) (l : List Oper) (K : Exit → Env → Store → Prop) (e : Env) (s : Store), vcR P N (.region id l.toArray true) K e s = AWpR P N (.region id l.toArray true) K e s) ∧
  (∀ {P : Program} {N : Nat} (c : Operand) (a b : Code) (K : Exit → Env → Store → Prop) (e : Env) (s : Store), vcR P N (.cond c a b) K e s = condR P N a b K e s (evO e c)) := ⟨get_cons, sub_cons, sub_nil, retK_ret, retK_normal, vcR_skip, vcR_seq, vcR_block, vcR_exit, vcR_ret, vcR_region, vcR_draw, vcR_cond⟩
theorem VB7 : (∀ {P : Program} {N : Nat} (a b : Code) (K : Exit → Env → Store → Prop) (e : Env) (s : Store), condR P N a b K e s (.bool true) = vcR P N a K e s) ∧
  (∀ {P : Program} {N : Nat} (a b : Code) (K : Exit → Env → Store → Prop) (e : Env) (s : Store), condR P N a b K e s (.bool false) = vcR P N b K e s) ∧
  (∀ {P : Program} {N : Nat} (b : Code) (K : Exit → Env → Store → Prop) (e : Env) (s : Store), seqR P N b K .normal e s = vcR P N b K e s) ∧
  (∀ {P : Program} {N : Nat} (b : Code) (K : Exit → Env → Store → Prop) (e : Env) (s : Store), seqR P N b K .ret e s = K .ret e s) ∧
  (∀ {P : Program} {N : Nat} (i : Nat) (b : Code) (K : Exit → Env → Store → Prop) (e : Env) (s : Store), seqR P N b K (.exit i) e s = K (.exit i) e s) ∧
  (∀ (a b c : List AObj), a ++ b ++ c = a ++ (b ++ c)) ∧
  (∀ (a b : List AObj), (a ++ b).length = a.length + b.length) ∧
  (∀ (a b : List AObj) (k : Nat), (a ++ b)[a.length + k]? = b[k]?) ∧
  (∀ (a b : List AObj), (a ++ b)[a.length]? = b[0]?) ∧
  (∀ (a b : List AObj) (k : Nat) (x : AObj), (a ++ b).set (a.length + k) x = a ++ b.set k x) ∧
  (∀ (a b : List AObj) (x : AObj), (a ++ b).set a.length x = a ++ b.set 0 x) ∧
  (∀ (v : AV) (ok : Bool), ansL true v ok = .tup [v, .bool ok]) ∧
  (∀ (v : AV) (ok : Bool), ansL false v ok = v) := ⟨condR_true, condR_false, seqR_normal, seqR_ret, seqR_exit, sto_assoc, sto_len, sto_at, sto_at0, sto_set, sto_set0, ansL_t, ansL_f⟩
theorem VB8 : (∀ p : Prop, (p ∧ True) = p) ∧ (∀ p : Prop, (True ∧ p) = p) ∧ (∀ p : Prop, (p ∧ p) = p) ∧ (∀ p : Prop, (True → p) ↔ p) ∧ (∀ p : Prop, (False → p) ↔ True) ∧ ((¬True) = False) ∧ ((¬False) = True) ∧
  (∀ (_ : Decidable True), decide True = true) ∧ (∀ (_ : Decidable False), decide False = false) :=
  ⟨and_true, true_and, and_self, fun _ => true_imp_iff, false_imp_iff, not_true_eq_false, not_false_eq_true, decide_true, decide_false⟩
universe u
theorem VB9 : (∀ {α : Sort u} {_ : Decidable True} (t e : α), (if True then t else e) = t) ∧ (∀ {α : Sort u} {_ : Decidable False} (t e : α), (if False then t else e) = e) ∧ (∀ {α : Sort u} (a : α), (a = a) = True) ∧
  (∀ {α : Sort u} (a b : α), (a ≠ b) = ¬(a = b)) := ⟨if_true, if_false, eq_self, fun _ _ => ne_eq _ _⟩
end Go.Pa
