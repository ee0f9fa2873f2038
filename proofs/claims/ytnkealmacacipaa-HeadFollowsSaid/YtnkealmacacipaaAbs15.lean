/-
  The steps of the reckoning, as equations.
-/
import Derived.Test.YtnkealmacacipaaAbs14
namespace Go.Pa
set_option linter.unusedSectionVars false
variable [GTab]
variable {P : Program} {N : Nat}

theorem vc_skip (K : Exit → Env → Store → Prop) (e : Env) (s : Store) : vc P N .skip K e s = K .normal e s := rfl
theorem vc_seq (a b : Code) (K : Exit → Env → Store → Prop) (e : Env) (s : Store) : vc P N (.seq a b) K e s = vc P N a (seqK P N b K) e s := rfl
theorem vc_block (id : Nat) (b : Code) (K : Exit → Env → Store → Prop) (e : Env) (s : Store) : vc P N (.block id b) K e s = vc P N b (blkK id K) e s := rfl
theorem vc_exit (id : Nat) (K : Exit → Env → Store → Prop) (e : Env) (s : Store) : vc P N (.exit id) K e s = K (.exit id) e s := rfl
theorem vc_ret (K : Exit → Env → Store → Prop) (e : Env) (s : Store) : vc P N .ret K e s = K .ret e s := rfl
theorem vc_region (id : Nat) (l : List Oper) (K : Exit → Env → Store → Prop) (e : Env) (s : Store) : vc P N (.region id l.toArray false) K e s = vcOps P l l e s (K .normal) := by
  unfold vc; simp
theorem vc_draw (id : Nat) (l : List Oper) (K : Exit → Env → Store → Prop) (e : Env) (s : Store) : vc P N (.region id l.toArray true) K e s = AWp P N (.region id l.toArray true) K e s := by
  unfold vc; simp
theorem vc_loop (b : Code) (K : Exit → Env → Store → Prop) (e : Env) (s : Store) : vc P N (.loop b) K e s = AWp P N (.loop b) K e s := rfl
theorem vc_range (f : Operand) (ps : Array Tmp) (a b : Code) (K : Exit → Env → Store → Prop) (e : Env) (s : Store) : vc P N (.rangeFunc f ps a b) K e s = AWp P N (.rangeFunc f ps a b) K e s := rfl

def condV (P : Program) (N : Nat) (a b : Code) (K : Exit → Env → Store → Prop) (e : Env) (s : Store) : AV → Prop
  | .bool t => (t = true → vc P N a K e s) ∧ (t = false → vc P N b K e s)
  | _ => False
theorem vc_cond (c : Operand) (a b : Code) (K : Exit → Env → Store → Prop) (e : Env) (s : Store) : vc P N (.cond c a b) K e s = condV P N a b K e s (evO e c) := by
  unfold vc condV; split <;> simp_all
theorem condV_true (a b : Code) (K : Exit → Env → Store → Prop) (e : Env) (s : Store) : condV P N a b K e s (.bool true) = vc P N a K e s := by simp [condV]
theorem condV_false (a b : Code) (K : Exit → Env → Store → Prop) (e : Env) (s : Store) : condV P N a b K e s (.bool false) = vc P N b K e s := by simp [condV]
theorem condV_bool (t : Bool) (a b : Code) (K : Exit → Env → Store → Prop) (e : Env) (s : Store) : condV P N a b K e s (.bool t) = ((t = true → vc P N a K e s) ∧ (t = false → vc P N b K e s)) := rfl

theorem seqK_normal (b : Code) (K : Exit → Env → Store → Prop) (e : Env) (s : Store) : seqK P N b K .normal e s = vc P N b K e s := rfl
theorem seqK_ret (b : Code) (K : Exit → Env → Store → Prop) (e : Env) (s : Store) : seqK P N b K .ret e s = K .ret e s := rfl
theorem seqK_exit (i : Nat) (b : Code) (K : Exit → Env → Store → Prop) (e : Env) (s : Store) : seqK P N b K (.exit i) e s = K (.exit i) e s := rfl
theorem blkK_normal (id : Nat) (K : Exit → Env → Store → Prop) (e : Env) (s : Store) : blkK id K .normal e s = K .normal e s := rfl
theorem blkK_ret (id : Nat) (K : Exit → Env → Store → Prop) (e : Env) (s : Store) : blkK id K .ret e s = K .ret e s := rfl
theorem blkK_exit (id i : Nat) (K : Exit → Env → Store → Prop) (e : Env) (s : Store) : blkK id K (.exit i) e s = if i = id then K .normal e s else K (.exit i) e s := rfl
theorem loopK_ret {S : Type} (st : S → Env) (Inv : S → Store → Prop) (μ : S → Nat) (s : S) (K : Exit → Env → Store → Prop) (e : Env) (σ : Store) : loopK st Inv μ s K .ret e σ = K .ret e σ := rfl
theorem loopK_exit {S : Type} (st : S → Env) (Inv : S → Store → Prop) (μ : S → Nat) (s : S) (K : Exit → Env → Store → Prop) (i : Nat) (e : Env) (σ : Store) : loopK st Inv μ s K (.exit i) e σ = K (.exit i) e σ := rfl
theorem loopK_normal {S : Type} (st : S → Env) (Inv : S → Store → Prop) (μ : S → Nat) (s : S) (K : Exit → Env → Store → Prop) (e : Env) (σ : Store) : loopK st Inv μ s K .normal e σ = ∃ s', (st s').sub e ∧ Inv s' σ ∧ μ s' < μ s := rfl

theorem vcOps_nil (all : List Oper) (e : Env) (s : Store) (K : Env → Store → Prop) : vcOps P all [] e s K = K e s := rfl
theorem vcOps_cons (all os : List Oper) (d : Option Tmp) (op : Op) (ty : TypeId) (pos : String) (af : Array Edge) (e : Env) (s : Store) (K : Env → Store → Prop) :
    vcOps P all (⟨d, op, ty, pos, af, none⟩ :: os) e s K = vcOp P e s (opK P all os d e K) op := rfl
def guardV (P : Program) (all os : List Oper) (d : Option Tmp) (op : Op) (want : Bool) (e : Env) (s : Store) (K : Env → Store → Prop) (t : Tmp) : AV → Prop
  | .bool c => (c = want → vcOp P ((t, .bool want) :: e) s (opK P all os d ((t, .bool want) :: e) K) op) ∧ (c = (!want) → vcOps P all os (Env.put ((t, .bool (!want)) :: e) d (.tup [])) s K)
  | .tup [] => vcOps P all os (Env.put e d (.tup [])) s K
  | _ => False
def lookA : Env → Nat → AV
  | [], _ => .any
  | (t, v) :: e, u => if t = u then v else lookA e u
theorem lookA_get (e : Env) (t : Nat) : (match e.get t with | some x => x | none => .any) = lookA e t := by
  induction e with
  | nil => rfl
  | cons p e ih =>
    obtain ⟨u, v⟩ := p
    simp only [Env.get, lookA]
    by_cases hu : u = t
    · simp only [hu, if_true]
    · simp only [hu, if_false]; exact ih
theorem lookA_bool {e : Env} {t : Nat} {c : Bool} (h : lookA e t = .bool c) : e.get t = some (.bool c) := by
  rw [← lookA_get] at h
  cases hg : e.get t with
  | none => rw [hg] at h; cases h
  | some x => rw [hg] at h; simp only at h; rw [h]
def guardT (all : List Oper) (j : Nat) : Tmp := match (all[j]?).bind (·.dst) with | some t => t | none => 0
theorem vcOps_guard (all os : List Oper) (d : Option Tmp) (op : Op) (ty : TypeId) (pos : String) (af : Array Edge) (j : Nat) (want : Bool) (e : Env) (s : Store) (K : Env → Store → Prop) (t : Tmp) (ht : (all[j]?).bind (·.dst) = some t) :
    vcOps P all (⟨d, op, ty, pos, af, some (j, want)⟩ :: os) e s K = guardV P all os d op want e s K t (lookA e t) := by
  unfold vcOps guardV
  simp only [ht]
  rw [← lookA_get]
  cases hg : e.get t with
  | none => rfl
  | some x =>
    cases x with
    | tup l => cases l <;> rfl
    | _ => rfl
theorem guardV_und (all os : List Oper) (d : Option Tmp) (op : Op) (want : Bool) (e : Env) (s : Store) (K : Env → Store → Prop) (t : Tmp) :
    guardV P all os d op want e s K t (.tup []) = vcOps P all os (Env.put e d (.tup [])) s K := rfl
theorem guardV_bool (all os : List Oper) (d : Option Tmp) (op : Op) (want : Bool) (e : Env) (s : Store) (K : Env → Store → Prop) (t : Tmp) (c : Bool) :
    guardV P all os d op want e s K t (.bool c) = ((c = want → vcOp P ((t, .bool want) :: e) s (opK P all os d ((t, .bool want) :: e) K) op) ∧ (c = (!want) → vcOps P all os (Env.put ((t, .bool (!want)) :: e) d (.tup [])) s K)) := rfl
theorem guardV_same (all os : List Oper) (d : Option Tmp) (op : Op) (e : Env) (s : Store) (K : Env → Store → Prop) (t : Tmp) (b : Bool) :
    guardV P all os d op b e s K t (.bool b) = vcOp P ((t, .bool b) :: e) s (opK P all os d ((t, .bool b) :: e) K) op := by
  cases b <;> simp [guardV]
theorem guardV_tf (all os : List Oper) (d : Option Tmp) (op : Op) (e : Env) (s : Store) (K : Env → Store → Prop) (t : Tmp) :
    guardV P all os d op true e s K t (.bool false) = vcOps P all os (Env.put ((t, .bool false) :: e) d (.tup [])) s K := by simp [guardV]
theorem guardV_ft (all os : List Oper) (d : Option Tmp) (op : Op) (e : Env) (s : Store) (K : Env → Store → Prop) (t : Tmp) :
    guardV P all os d op false e s K t (.bool true) = vcOps P all os (Env.put ((t, .bool true) :: e) d (.tup [])) s K := by simp [guardV]

def outV (P : Program) (e : Env) (s : Store) (R : AV → Store → Prop) (op : Op) : ERA → Prop
  | .val v => R v s
  | .need p v => p ∧ R v s
  | .no => vcS P e s R op
theorem vcOp_out (e : Env) (s : Store) (R : AV → Store → Prop) (op : Op) : vcOp P e s R op = outV P e s R op (evA P e op) := by
  unfold vcOp outV; split <;> simp_all
theorem outV_val (e : Env) (s : Store) (R : AV → Store → Prop) (op : Op) (v : AV) : outV P e s R op (.val v) = R v s := rfl
theorem outV_need (e : Env) (s : Store) (R : AV → Store → Prop) (op : Op) (p : Prop) (v : AV) : outV P e s R op (.need p v) = (p ∧ R v s) := rfl
theorem outV_no (e : Env) (s : Store) (R : AV → Store → Prop) (op : Op) : outV P e s R op .no = vcS P e s R op := rfl
theorem opK_run (all os : List Oper) (d : Tmp) (e : Env) (K : Env → Store → Prop) (v : AV) (s : Store) : opK P all os (some d) e K v s = vcOps P all os ((d, v) :: e) s K := rfl
theorem opK_none (all os : List Oper) (e : Env) (K : Env → Store → Prop) (v : AV) (s : Store) : opK P all os none e K v s = vcOps P all os e s K := rfl

theorem evO_tmp (e : Env) (t : Nat) : evO e (.tmp t) = lookA e t := lookA_get e t
theorem evO_int (e : Env) (k : IntKind) (n : Int) : evO e (.const (.int k n)) = .int k n := rfl
theorem evO_bool (e : Env) (b : Bool) : evO e (.const (.bool b)) = .bool b := rfl
theorem evO_nils (e : Env) : evO e (.const (.slice none 0 0)) = .nils := rfl
theorem evO_nilp (e : Env) : evO e (.const (.pointer none)) = .nilp := rfl
theorem evO_nilf (e : Env) : evO e (.const .nilFunc) = .nilf := rfl
theorem evO_nilm (e : Env) : evO e (.const (.map none)) = .nilm := rfl
theorem evO_str (e : Env) (l : List UInt8) : evO e (.const (.string ⟨l.toArray⟩)) = .str (l.map fun b => (b.toNat : Int)) := rfl
theorem evO_func (e : Env) (f : FuncId) : evO e (.func f) = .fn f [] [] := rfl
theorem evO_glob (e : Env) (g : Nat) : evO e (.global g) = globA g := rfl

theorem lookA_cons (t u : Nat) (v : AV) (e : Env) : lookA ((t, v) :: e) u = if t = u then v else lookA e u := rfl
theorem get_cons (t u : Nat) (v : AV) (e : Env) : Env.get ((t, v) :: e) u = if t = u then some v else Env.get e u := rfl
theorem sub_cons (t : Nat) (v : AV) (e f : Env) : Env.sub ((t, v) :: e) f = (f.get t = some v ∧ Env.sub e f) := rfl
theorem sub_nil (f : Env) : Env.sub [] f = True := rfl

theorem retK_ret (rs : List ResultVar) (R : AV → Store → Prop) (e : Env) (s : Store) : retK P rs R .ret e s = (match retA P e s rs with | some v => R v s | none => False) := rfl
theorem retK_normal (rs : List ResultVar) (R : AV → Store → Prop) (e : Env) (s : Store) : retK P rs R .normal e s = (match retA P e s rs with | some v => R v s | none => False) := rfl
theorem sto_assoc (a b c : List AObj) : a ++ b ++ c = a ++ (b ++ c) := List.append_assoc a b c
theorem sto_len (a b : List AObj) : (a ++ b).length = a.length + b.length := List.length_append
theorem sto_at (a b : List AObj) (k : Nat) : (a ++ b)[a.length + k]? = b[k]? := by rw [List.getElem?_append_right (by omega), Nat.add_sub_cancel_left]
theorem sto_at0 (a b : List AObj) : (a ++ b)[a.length]? = b[0]? := by rw [List.getElem?_append_right (by omega), Nat.sub_self]
theorem sto_set (a b : List AObj) (k : Nat) (x : AObj) : (a ++ b).set (a.length + k) x = a ++ b.set k x := by rw [List.set_append_right _ _ (by omega), Nat.add_sub_cancel_left]
theorem sto_set0 (a b : List AObj) (x : AObj) : (a ++ b).set a.length x = a ++ b.set 0 x := by rw [List.set_append_right _ _ (by omega), Nat.sub_self]
theorem cO_int (k : IntKind) (n : Int) : AV.cellsOf (.int k n) = some [.int k n] := rfl
theorem cO_bool (b : Bool) : AV.cellsOf (.bool b) = some [.bool b] := rfl
theorem cO_str (l : List Int) : AV.cellsOf (.str l) = some [.str l] := rfl
theorem cO_nils  : AV.cellsOf (.nils) = some [.nils] := rfl
theorem cO_emp  : AV.cellsOf (.emp) = some [.emp] := rfl
theorem cO_ints (k : IntKind) (l : List Int) : AV.cellsOf (.ints k l) = some [.ints k l] := rfl
theorem cO_rows (z : Nat) (l : List (List AV)) : AV.cellsOf (.rows z l) = some [.rows z l] := rfl
theorem cO_mvec (a b c d : Nat) : AV.cellsOf (.mvec a b c d) = some [.mvec a b c d] := rfl
theorem cO_ptr (a b : Nat) : AV.cellsOf (.ptr a b) = some [.ptr a b] := rfl
theorem cO_eptr (a b c d : Nat) : AV.cellsOf (.eptr a b c d) = some [.eptr a b c d] := rfl
theorem cO_iptr (l : List AV) : AV.cellsOf (.iptr l) = some [.iptr l] := rfl
theorem cO_nilp  : AV.cellsOf (.nilp) = some [.nilp] := rfl
theorem cO_fn (f : FuncId) (a b : List AV) : AV.cellsOf (.fn f a b) = some [.fn f a b] := rfl
theorem cO_nilf  : AV.cellsOf (.nilf) = some [.nilf] := rfl
theorem cO_mp (a : Nat) : AV.cellsOf (.mp a) = some [.mp a] := rfl
theorem cO_nilm  : AV.cellsOf (.nilm) = some [.nilm] := rfl
theorem cO_glob (a : Nat) : AV.cellsOf (.glob a) = some [.glob a] := rfl
theorem cO_agg (cs : List AV) : AV.cellsOf (.agg cs) = if cs.all AV.cell then some cs else none := rfl
end Go.Pa
