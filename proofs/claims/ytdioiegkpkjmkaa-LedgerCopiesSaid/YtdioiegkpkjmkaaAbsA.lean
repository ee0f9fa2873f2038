/-
  Abstract values over the model's memory: slices with their content embedded, mutable objects by number, and the relation that ties them to a world.
  Nothing of the program stands here: it holds over any program. Operations that look at temporaries alone, on abstract values; soundness. Lists of abstract values against lists of concrete ones; soundness of the operations that look at temporaries alone. Soundness of the operations that look at temporaries alone, one by one. Soundness of the operations that look at temporaries alone, continued. Soundness of conversions, slicing, literals. Soundness of slicing and of literals; all operations that look at temporaries alone. Literals; all operations that look at temporaries alone, in one theorem. The store: objects are made, read, written; soundness. Operations on the store: what is asked; soundness.
-/
import Derived.WalkKit
import Derived.WalkSpells
import Derived.WalkLawsBesides
import Derived.Orders
import Derived.Below
import Derived.Laws.BytesArg
import Derived.Laws.IdiomStrings
import Derived.RangeFuncOwn
import Derived.RangeFuncWrites
import Derived.RangeFuncLeaves
import Derived.RangeFuncCalls
import Derived.TacticsIn
import Derived.OrdersIn
/-! Abstract values over the model's memory: slices with their content embedded, mutable objects by number, and the relation that ties them to a world.
  Nothing of the program stands here: it holds over any program. -/
namespace Go.Pa

/-- What package-level variables hold that nobody writes: one table for the whole program. -/
class GTab where
  gl : Nat → List Value
set_option linter.unusedSectionVars false
variable [GTab]

/-- Abstract values. -/
inductive AV where
  | any
  | int (k : IntKind) (n : Int)
  | bool (b : Bool)
  | str (l : List Int)
  | nils
  | emp
  | ints (k : IntKind) (l : List Int)
  | rows (sz : Nat) (rs : List (List AV))
  | mvec (id off len sz : Nat)
  | agg (cs : List AV)
  | ptr (id off : Nat)
  | eptr (id i sz off : Nat)
  | iptr (cs : List AV)
  | nilp
  | fn (f : FuncId) (fs cs : List AV)
  | nilf
  | mp (id : Nat)
  | nilm
  | tup (vs : List AV)
  | glob (g : Nat)

instance : Inhabited AV := ⟨.any⟩

/-- A map: its entries, each with its stamp, and the next stamp; or what holds of each of its entries. -/
inductive MapA where
  | kv (l : List (AV × AV × Nat)) (clock : Nat)
  | memo (Q : AV → AV → Prop)

/-- Objects of the store. -/
inductive AObj where
  | dead
  | box (cs : List AV)
  | vecI (k : IntKind) (l : List Int)
  | vecR (sz : Nat) (rs : List (List AV))
  | mp (m : MapA)

abbrev Store := List AObj

/-- The cells of an object that is a row of cells. -/
def AObj.cells : AObj → Option (List AV)
  | .box cs => some cs
  | .vecI k l => some (l.map (AV.int k))
  | .vecR sz rs => if ∀ r ∈ rs, r.length = sz then some rs.flatten else none
  | _ => none

def AObj.live : AObj → Bool
  | .dead => false
  | _ => true

/-- The ghost: what is known never to turn (imm), where the objects lie (block, cells), what lay before the call. -/
structure Gh where
  base : Nat
  w0 : World
  imm : Nat → Nat → Option Value
  obj : List (Nat × Nat)
  lo : Nat
  mark : Nat → Obj → Prop

/-- A concrete value is what an abstract one says. -/
inductive Rep (G : Gh) : AV → Value → Prop
  | any (v : Value) : Rep G .any v
  | int (k : IntKind) (n : Int) : Rep G (.int k n) (.int k n)
  | bool (b : Bool) : Rep G (.bool b) (.bool b)
  | str (l : List Int) (s : ByteArray) (h : s.data.toList.map (fun b => (b.toNat : Int)) = l) : Rep G (.str l) (.string s)
  | nils : Rep G .nils (.slice none 0 0)
  | emp (a : Addr) : Rep G .emp (.slice (some a) 0 0)
  | ints0 (k : IntKind) (a : Option Addr) (cap : Nat) : Rep G (.ints k []) (.slice a 0 cap)
  | ints (k : IntKind) (l : List Int) (b o cap : Nat) (hc : l.length ≤ cap) (h : ∀ i x, l[i]? = some x → G.imm b (o + i) = some (.int k x)) :
      Rep G (.ints k l) (.slice (some ⟨b, o, none⟩) l.length cap)
  | rows0 (sz : Nat) (a : Option Addr) (cap : Nat) : Rep G (.rows sz []) (.slice a 0 cap)
  | rows (sz : Nat) (rs : List (List AV)) (b o cap : Nat) (f : Nat → Value) (hc : rs.length ≤ cap) (hs : ∀ r ∈ rs, r.length = sz)
      (h : ∀ i x, rs.flatten[i]? = some x → G.imm b (o + i) = some (f i)) (hr : ∀ i x, rs.flatten[i]? = some x → Rep G x (f i)) :
      Rep G (.rows sz rs) (.slice (some ⟨b, o, none⟩) rs.length cap)
  | mvec (id off len sz cap b n : Nat) (ho : G.obj[id]? = some (b, n)) (hc : len ≤ cap) (hf : (off + cap) * sz ≤ n) :
      Rep G (.mvec id off len sz) (.slice (some ⟨b, off * sz, none⟩) len cap)
  | agg (cs : List AV) (vs : Array Value) (f : Nat → Value) (hl : cs.length = vs.size) (h : ∀ i x, cs[i]? = some x → vs[i]? = some (f i))
      (hr : ∀ i x, cs[i]? = some x → Rep G x (f i)) : Rep G (.agg cs) (.agg vs)
  | ptr (id off b n : Nat) (ho : G.obj[id]? = some (b, n)) : Rep G (.ptr id off) (.pointer (some ⟨b, off, none⟩))
  | eptr (id i sz off b n : Nat) (ho : G.obj[id]? = some (b, n)) : Rep G (.eptr id i sz off) (.pointer (some ⟨b, i * sz + off, none⟩))
  | iptr (cs : List AV) (b o : Nat) (f : Nat → Value) (h : ∀ i x, cs[i]? = some x → G.imm b (o + i) = some (f i)) (hr : ∀ i x, cs[i]? = some x → Rep G x (f i)) :
      Rep G (.iptr cs) (.pointer (some ⟨b, o, none⟩))
  | nilp : Rep G .nilp (.pointer none)
  | fn (f : FuncId) (fs cs : List AV) (gs hs : Array Value) (p q : Nat → Value) (hl : fs.length = gs.size) (hl' : cs.length = hs.size)
      (h : ∀ i x, fs[i]? = some x → gs[i]? = some (p i)) (hr : ∀ i x, fs[i]? = some x → Rep G x (p i))
      (h' : ∀ i x, cs[i]? = some x → hs[i]? = some (q i)) (hr' : ∀ i x, cs[i]? = some x → Rep G x (q i)) :
      Rep G (.fn f fs cs) (.func (.func f) gs hs)
  | nilf : Rep G .nilf .nilFunc
  | mp (id b n : Nat) (ho : G.obj[id]? = some (b, n)) : Rep G (.mp id) (.map (some b))
  | nilm : Rep G .nilm (.map none)
  | tup (cs : List AV) (vs : Array Value) (f : Nat → Value) (hl : cs.length = vs.size) (h : ∀ i x, cs[i]? = some x → vs[i]? = some (f i))
      (hr : ∀ i x, cs[i]? = some x → Rep G x (f i)) : Rep G (.tup cs) (.tuple vs)
  | glob (g : Nat) : Rep G (.glob g) (.pointer (some ⟨g, 0, none⟩))

/-- One ghost goes on from another. -/
structure Gh.le (G G' : Gh) : Prop where
  base : G'.base = G.base
  w0 : G'.w0 = G.w0
  imm : ∀ b o c, G.imm b o = some c → G'.imm b o = some c
  obj : ∀ (i : Nat) x, G.obj[i]? = some x → G'.obj[i]? = some x
  lo : G'.lo = G.lo
  mark : ∀ D o, G.mark D o → G'.mark D o

theorem Gh.le.refl (G : Gh) : G.le G := ⟨rfl, rfl, fun _ _ _ h => h, fun _ _ h => h, rfl, fun _ _ h => h⟩
theorem Gh.le.trans {A B C : Gh} (h : A.le B) (k : B.le C) : A.le C :=
  ⟨k.base.trans h.base, k.w0.trans h.w0, fun b o c x => k.imm b o c (h.imm b o c x), fun i x y => k.obj i x (h.obj i x y), k.lo.trans h.lo, fun D o x => k.mark D o (h.mark D o x)⟩

theorem Rep.over {G G' : Gh} (hi : ∀ b o c, G.imm b o = some c → G'.imm b o = some c) (ho' : ∀ (i : Nat) x, G.obj[i]? = some x → G'.obj[i]? = some x) {x : AV} {v : Value} (h : Rep G x v) : Rep G' x v := by
  induction h with
  | any v => exact .any v
  | int k n => exact .int k n
  | bool b => exact .bool b
  | str l s h => exact .str l s h
  | nils => exact .nils
  | emp a => exact .emp a
  | ints0 k a cap => exact .ints0 k a cap
  | ints k l b o cap hc h => exact .ints k l b o cap hc fun i x hx => hi _ _ _ (h i x hx)
  | rows0 sz a cap => exact .rows0 sz a cap
  | rows sz rs b o cap f hc hs h _ ih => exact .rows sz rs b o cap f hc hs (fun i x hx => hi _ _ _ (h i x hx)) ih
  | mvec id off len sz cap b n ho hc hf => exact .mvec id off len sz cap b n (ho' _ _ ho) hc hf
  | agg cs vs f hl h _ ih => exact .agg cs vs f hl h ih
  | ptr id off b n ho => exact .ptr id off b n (ho' _ _ ho)
  | eptr id i sz off b n ho => exact .eptr id i sz off b n (ho' _ _ ho)
  | iptr cs b o f h _ ih => exact .iptr cs b o f (fun i x hx => hi _ _ _ (h i x hx)) ih
  | nilp => exact .nilp
  | fn f fs cs gs hs p q hl hl' h _ h' _ ih ih' => exact .fn f fs cs gs hs p q hl hl' h ih h' ih'
  | nilf => exact .nilf
  | mp id b n ho => exact .mp id b n (ho' _ _ ho)
  | nilm => exact .nilm
  | tup cs vs f hl h _ ih => exact .tup cs vs f hl h ih
  | glob g => exact .glob g

theorem Rep.mono {G G' : Gh} (hg : G.le G') {x : AV} {v : Value} (h : Rep G x v) : Rep G' x v := h.over hg.imm hg.obj

/-- A key that is plain to see: an integer, or a row of integers. -/
def flatKey : AV → Bool
  | .int _ _ => true
  | .agg cs => cs.all fun x => match x with | .int _ _ => true | _ => false
  | _ => false

theorem Rep.flatKey {G G' : Gh} {x : AV} {v : Value} (h : Rep G x v) (hx : Go.Pa.flatKey x = true) : Rep G' x v := by
  cases h <;> first | (simp [Go.Pa.flatKey] at hx; done) | skip
  · exact .int _ _
  · rename_i cs vs f hl h1 h2
    refine .agg cs vs f hl h1 fun i y hy => ?_
    have hm := h2 i y hy
    simp only [Go.Pa.flatKey, List.all_eq_true] at hx
    have := hx y (List.mem_of_getElem? hy)
    revert hm
    generalize f i = z
    intro hm
    cases y with
    | int q n => cases hm; exact .int _ _
    | _ => cases this

/-- A map's entries. -/
def MapRel (G : Gh) (es : Array MapEntry) (clock : Nat) : MapA → Prop
  | .kv l c => clock = c ∧ es.size = l.length ∧ ∀ (i : Nat) (p : AV × AV × Nat), l[i]? = some p → ∃ e : MapEntry, es[i]? = some e ∧ Rep G p.1 e.key ∧ Rep G p.2.1 e.val ∧ e.born = p.2.2
  | .memo Q => ∀ e ∈ es.toList, ∃ k v, Q k v ∧ flatKey k = true ∧ flatKey v = true ∧ Rep G k e.key ∧ Rep G v e.val

def MapA.has : MapA → AV → Prop
  | .kv l _, x => ∃ (i : Nat) (p : AV × AV × Nat), l[i]? = some p ∧ (x = p.1 ∨ x = p.2.1)
  | .memo _, _ => False

theorem MapRel.to {G G' : Gh} {es : Array MapEntry} {c : Nat} {m : MapA} (h : MapRel G es c m) (hr : ∀ x v, m.has x → Rep G x v → Rep G' x v) : MapRel G' es c m := by
  cases m with
  | kv l c' => exact ⟨h.1, h.2.1, fun i p hp => let ⟨e, he, hk, hv, hb⟩ := h.2.2 i p hp; ⟨e, he, hr _ _ ⟨i, p, hp, .inl rfl⟩ hk, hr _ _ ⟨i, p, hp, .inr rfl⟩ hv, hb⟩⟩
  | memo Q => exact fun e he => let ⟨k, v, h1, h2, h3, h4, h5⟩ := h e he; ⟨k, v, h1, h2, h3, h4.flatKey h2, h5.flatKey h3⟩

/-- No key stands twice. -/
def Apart (es : Array MapEntry) : Prop := ∀ (i j : Nat) (a b : MapEntry), es[i]? = some a → es[j]? = some b → a.key = b.key → i = j

/-- An object in memory. -/
def ObjRel (G : Gh) (w : World) (id : Nat) : AObj → Prop
  | .dead => True
  | .mp m => ∃ b n es clock, G.obj[id]? = some (b, n) ∧ w.heap[b]? = some (.map es clock) ∧ G.base ≤ b ∧ (∀ o, G.imm b o = none) ∧ (∀ D o, G.mark D o → D ≠ b) ∧ Apart es ∧ MapRel G es clock m
  | ob => ∃ b n arr ty, ∃ cs : List AV, ob.cells = some cs ∧ G.obj[id]? = some (b, n) ∧ w.heap[b]? = some (.cells arr ty (0, 0)) ∧ arr.size = n ∧ cs.length ≤ n ∧ G.base ≤ b ∧
      (∀ o, G.imm b o = none) ∧ (∀ (i : Nat) (x : AV), cs[i]? = some x → ∃ c, arr[i]? = some c ∧ Rep G x c) ∧ (∀ c ∈ arr.toList, c.oneCell' = true)

/-- The ghost knows the table of the package-level variables. -/
def GlobOk (G : Gh) : Prop := ∀ b o c, (GTab.gl b)[o]? = some c → G.imm b o = some c

theorem GlobOk.mono {G G' : Gh} (hi : ∀ b o c, G.imm b o = some c → G'.imm b o = some c) (h : GlobOk G) : GlobOk G' := fun b o c hc => hi b o c (h b o c hc)

/-- The world and the store. -/
structure WRel (G : Gh) (σ : Store) (w : World) : Prop where
  len : G.obj.length = σ.length
  imm : ∀ b o c, G.imm b o = some c → w.cell? ⟨b, o, none⟩ = some c ∧ c.oneCell' = true
  objs : ∀ (id : Nat) ob, σ[id]? = some ob → ObjRel G w id ob
  inj : ∀ (i j : Nat) oi oj bi bj, σ[i]? = some oi → σ[j]? = some oj → oi.live = true → oj.live = true → G.obj[i]? = some bi → G.obj[j]? = some bj → bi.1 = bj.1 → i = j
  frame : ∀ b, b < G.base → w.heap[b]? = G.w0.heap[b]?
  sz : G.base ≤ w.heap.size
  os : w.os = G.w0.os
  tape : w.tape = G.w0.tape
  output : w.output = G.w0.output
  marks : ∀ D o, G.mark D o → G.base ≤ D ∧ w.heap[D]? = some o ∧ o.isCells = false
  grew : G.lo ≤ w.heap.size
  globs : GlobOk G

theorem WRel.below {G : Gh} {σ : Store} {w : World} (h : WRel G σ w) (hs : G.w0.heap.size = G.base) : RowKit.Below G.base G.w0 w :=
  ⟨h.os, h.tape, h.output, by rw [hs]; exact h.sz, h.frame⟩

/-- The frame's temporaries, as far as they are known. -/
abbrev Env := List (Nat × AV)

def Env.get : Env → Nat → Option AV
  | [], _ => none
  | (t, v) :: e, u => if t = u then some v else Env.get e u

/-- The frame's deferred calls: the marks of its loops over functions alone. -/
def markOf (D : Nat) : Deferred := { target := .collected D, args := #[] }
def DRel (G : Gh) (ds : List Deferred) : Prop := GlobOk G ∧ ∃ Ds : List Nat, ds = Ds.map markOf ∧ Ds.Nodup ∧ ∀ D ∈ Ds, G.lo ≤ D ∧ G.mark D (.deferred (some []))

theorem DRel.nil {G : Gh} (h : GlobOk G) : DRel G [] := ⟨h, [], rfl, .nil, by simp⟩

theorem DRel.mono {G G' : Gh} {ds : List Deferred} (hg : G.le G') (h : DRel G ds) : DRel G' ds :=
  let ⟨h0, Ds, h1, h2, h3⟩ := h; ⟨h0.mono hg.imm, Ds, h1, h2, fun D hD => ⟨by rw [hg.lo]; exact (h3 D hD).1, hg.mark D _ (h3 D hD).2⟩⟩

def ERel (G : Gh) (N : Nat) (env : Env) (a : Act) : Prop :=
  a.tmps.size = N ∧ DRel G a.defers ∧ ∀ t x, env.get t = some x → ∃ v, a.tmps[t]? = some v ∧ Rep G x v

/-- One environment says no more than another. -/
def Env.sub : Env → Env → Prop
  | [], _ => True
  | (t, v) :: e, f => f.get t = some v ∧ Env.sub e f

theorem Env.sub_get {e f : Env} (h : e.sub f) : ∀ t x, e.get t = some x → f.get t = some x := by
  induction e with
  | nil => intro t x hx; simp [Env.get] at hx
  | cons p e ih =>
    obtain ⟨u, v⟩ := p
    intro t x hx
    simp only [Env.get] at hx
    split at hx
    · rename_i hu; subst hu; cases hx; exact h.1
    · exact ih h.2 t x hx

theorem ERel.sub {G : Gh} {N : Nat} {e f : Env} {a : Act} (h : ERel G N f a) (hs : e.sub f) : ERel G N e a :=
  ⟨h.1, h.2.1, fun t x hx => h.2.2 t x (Env.sub_get hs t x hx)⟩

theorem ERel.mono {G G' : Gh} {N : Nat} {e : Env} {a : Act} (hg : G.le G') (h : ERel G N e a) : ERel G' N e a :=
  ⟨h.1, h.2.1.mono hg, fun t x hx => let ⟨v, hv, hr⟩ := h.2.2 t x hx; ⟨v, hv, hr.mono hg⟩⟩

/-- A temporary is written. -/
def Env.put (e : Env) : Option Tmp → AV → Env
  | some d, v => (d, v) :: e
  | none, _ => e

theorem ERel.put {G : Gh} {N : Nat} {e : Env} {a : Act} (h : ERel G N e a) (d : Option Tmp) (hd : ∀ t, d = some t → t < N) {x : AV} {v : Value} (hr : Rep G x v) :
    ERel G N (e.put d x) (a.put d v) := by
  cases d with
  | none => exact h
  | some d =>
    refine ⟨by simp [Act.put, h.1], h.2.1, fun t y hy => ?_⟩
    simp only [Env.put, Env.get] at hy
    by_cases ht : d = t
    · subst ht
      simp only [if_true, Option.some.injEq] at hy
      subst hy
      exact ⟨v, by have := hd d rfl; simp [Act.put, h.1, this], hr⟩
    · rw [if_neg ht] at hy
      obtain ⟨u, hu, hru⟩ := h.2.2 t y hy
      exact ⟨u, by simp [Act.put, Array.getElem?_setIfInBounds_ne ht, hu], hru⟩

/-! ### Constants and operands -/

def ofCell : Value → AV
  | .bool b => .bool b
  | .int k n => .int k n
  | .string s => .str (s.data.toList.map fun b => (b.toNat : Int))
  | .slice none 0 0 => .nils
  | .pointer none => .nilp
  | .nilFunc => .nilf
  | .map none => .nilm
  | _ => .any

theorem rep_ofCell (G : Gh) (v : Value) : Rep G (ofCell v) v := by
  unfold ofCell
  split <;> first | exact .bool _ | exact .int _ _ | exact .str _ _ rfl | exact .nils | exact .nilp | exact .nilf | exact .nilm | exact .any _

theorem rep_undef (G : Gh) : Rep G (.tup []) undef := .tup [] #[] (fun _ => undef) rfl (by simp) (by simp)

def ofVal : Value → AV
  | .agg cs => .agg (cs.toList.map ofCell)
  | v => ofCell v

theorem rep_ofVal (G : Gh) (v : Value) : Rep G (ofVal v) v := by
  unfold ofVal
  split
  · rename_i cs
    refine .agg _ cs (fun i => cs.getD i (.bool false)) (by simp) (fun i x hx => ?_) (fun i x hx => ?_)
    · have : i < cs.size := by
        rcases Nat.lt_or_ge i cs.size with h | h
        · exact h
        · simp [Array.getElem?_eq_none h] at hx
      simp [this]
    · rcases Nat.lt_or_ge i cs.size with h | h
      · simp [h] at hx
        subst hx
        simp [h]
        exact rep_ofCell G _
      · simp [Array.getElem?_eq_none h] at hx
  · exact rep_ofCell G _

/-- What is known of a package-level variable's address. -/
def globA (g : Nat) : AV := match GTab.gl g with
  | [] => .glob g
  | c :: cs => .iptr ((c :: cs).map ofCell)

theorem rep_globA {G : Gh} (h : GlobOk G) (g : Nat) : Rep G (globA g) (.pointer (some ⟨g, 0, none⟩)) := by
  unfold globA
  split
  · exact .glob g
  · rename_i c cs hg
    refine .iptr _ g 0 (fun i => (c :: cs).getD i (.bool false)) (fun i x hx => ?_) (fun i x hx => ?_)
    · rw [List.getElem?_map] at hx
      cases hc : (c :: cs)[i]? with
      | none => simp [hc] at hx
      | some v =>
        rw [Nat.zero_add, List.getD_eq_getElem?_getD, hc]
        exact h g i v (by rw [hg]; exact hc)
    · rw [List.getElem?_map] at hx
      cases hc : (c :: cs)[i]? with
      | none => simp [hc] at hx
      | some v =>
        rw [List.getD_eq_getElem?_getD, hc]
        rw [hc] at hx
        cases hx
        exact rep_ofCell G v

def evO (env : Env) : Operand → AV
  | .tmp t => match env.get t with | some x => x | none => .any
  | .const v => ofVal v
  | .func f => .fn f [] []
  | .global g => globA g

theorem rep_evO {G : Gh} {N : Nat} {env : Env} {a : Act} (h : ERel G N env a) (x : Operand) : Rep G (evO env x) (a.eval x) := by
  cases x with
  | tmp t =>
    simp only [evO]
    cases hx : env.get t with
    | none => exact .any _
    | some x =>
      obtain ⟨v, hv, hr⟩ := h.2.2 t x hx
      simpa [Act.eval, hv] using hr
  | const v => exact rep_ofVal G v
  | func f => exact .fn f [] [] #[] #[] (fun _ => .nilFunc) (fun _ => .nilFunc) rfl rfl (by simp) (by simp) (by simp) (by simp)
  | global g => exact rep_globA h.2.1.1 g

end Go.Pa

/-! Operations that look at temporaries alone, on abstract values; soundness. -/
namespace Go.Pa
set_option linter.unusedSectionVars false
variable [GTab]

inductive ERA where
  | no
  | val (v : AV)
  | need (p : Prop) (v : AV)

/-- What holds of a yes. -/
def ERA.says : ERA → AV → Prop
  | .no, _ => False
  | .val v, u => u = v
  | .need p v, u => p ∧ u = v

def iand (k : IntKind) (a b : Int) : Int := k.wrap ((BitVec.ofInt k.bits a &&& BitVec.ofInt k.bits b).toNat : Nat)
def ior (k : IntKind) (a b : Int) : Int := k.wrap ((BitVec.ofInt k.bits a ||| BitVec.ofInt k.bits b).toNat : Nat)
def ixor (k : IntKind) (a b : Int) : Int := k.wrap ((BitVec.ofInt k.bits a ^^^ BitVec.ofInt k.bits b).toNat : Nat)
def iandnot (k : IntKind) (a b : Int) : Int := k.wrap ((BitVec.ofInt k.bits a &&& ~~~BitVec.ofInt k.bits b).toNat : Nat)
def ishl (k : IntKind) (a b : Int) : Int := k.wrap (a * 2 ^ (min b.toNat k.bits))
def ishr (k : IntKind) (a b : Int) : Int := a.fdiv (2 ^ (min b.toNat k.bits))
def inot (k : IntKind) (a : Int) : Int := ixor k (if k.signed then -1 else k.max) a

def intOp (op : BinOp) (k : IntKind) (a b : Int) : ERA :=
  match op with
  | .add => .val (.int k (k.wrap (a + b)))
  | .sub => .val (.int k (k.wrap (a - b)))
  | .mul => .val (.int k (k.wrap (a * b)))
  | .quo => .need (b ≠ 0) (.int k (k.wrap (a.tdiv b)))
  | .rem => .need (b ≠ 0) (.int k (a.tmod b))
  | .and => .val (.int k (iand k a b))
  | .or => .val (.int k (ior k a b))
  | .xor => .val (.int k (ixor k a b))
  | .andNot => .val (.int k (iandnot k a b))
  | .eql => .val (.bool (decide (a = b)))
  | .neq => .val (.bool (!decide (a = b)))
  | .lss => .val (.bool (decide (a < b)))
  | .leq => .val (.bool (decide (a ≤ b)))
  | .gtr => .val (.bool (decide (b < a)))
  | .geq => .val (.bool (decide (b ≤ a)))
  | _ => .no

def eqCells (P : Program) (xs ys : List AV) : List Field → Option Bool
  | [] => some true
  | f :: fs =>
    if f.name = "_" then none else
    match P.underlying f.type, xs[f.offset]?, ys[f.offset]?, eqCells P xs ys fs with
    | some (.int _), some (.int k a), some (.int k' b), some r => if k = k' then some (decide (a = b) && r) else none
    | some .bool, some (.bool a), some (.bool b), some r => some (decide (a = b) && r)
    | some .string, some (.str a), some (.str b), some r => some (decide (a = b) && r)
    | _, _, _, _ => none

def eqAgg (P : Program) (t : TypeId) (xs ys : List AV) : Option Bool :=
  match P.underlying t with
  | some (.struct fs) => if P.stoodInHeld t = false ∧ P.eqGuardType P.depth t = false then eqCells P xs ys fs.toList else none
  | _ => none

/-- The order of texts. -/
def lessI : List Int → List Int → Bool
  | _, [] => false
  | [], _ :: _ => true
  | a :: x, b :: y => decide (a < b) || (decide (a = b) && lessI x y)

def strOp (op : BinOp) (a b : List Int) : ERA :=
  match op with
  | .lss => .val (.bool (lessI a b))
  | .add => .need (a.length + b.length ≤ 9223372036854775807) (.str (a ++ b))
  | .eql => .val (.bool (decide (a = b)))
  | .neq => .val (.bool (!decide (a = b)))
  | _ => .no

/-- A comparison with nil: on what condition, and how it falls out. -/
def nilOf (P : Program) (t : TypeId) (x y : AV) : Option (Prop × Bool) :=
  match P.underlying t, x, y with
  | some (.pointer _), .nilp, .nilp => some (True, true)
  | some (.pointer _), .ptr _ _, .nilp => some (True, false)
  | some (.pointer _), .eptr _ _ _ _, .nilp => some (True, false)
  | some (.pointer _), .iptr _, .nilp => some (True, false)
  | some (.slice _), .nils, .nils => some (True, true)
  | some (.slice _), .emp, .nils => some (True, false)
  | some (.slice _), .mvec _ _ _ _, .nils => some (True, false)
  | some (.slice _), .ints _ l, .nils => some (l ≠ [], false)
  | some (.slice _), .rows _ l, .nils => some (l ≠ [], false)
  | some (.map _ _), .nilm, .nilm => some (True, true)
  | some (.map _ _), .mp _, .nilm => some (True, false)
  | some (.func _ _ _), .nilf, .nilf => some (True, true)
  | some (.func _ _ _), .fn _ _ _, .nilf => some (True, false)
  | _, _, _ => none

def nilA (P : Program) (op : BinOp) (t : TypeId) (x y : AV) : ERA :=
  match nilOf P t x y, op with
  | some (p, b), .eql => .need p (.bool b)
  | some (p, b), .neq => .need p (.bool (!b))
  | _, _ => .no

def evBin (P : Program) (op : BinOp) (t : TypeId) (x y : AV) : ERA :=
  match x, y with
  | .int k a, .int k' b =>
    match op with
    | .shl => .need (0 ≤ b) (.int k (ishl k a b))
    | .shr => .need (0 ≤ b) (.int k (ishr k a b))
    | op => if k = k' then intOp op k a b else .no
  | .bool a, .bool b =>
    match P.underlying t, op with
    | some .bool, .eql => .val (.bool (a == b))
    | some .bool, .neq => .val (.bool (!(a == b)))
    | _, _ => .no
  | .str a, .str b => strOp op a b
  | .agg xs, .agg ys =>
    match eqAgg P t xs ys, op with
    | some r, .eql => .val (.bool r)
    | some r, .neq => .val (.bool (!r))
    | _, _ => .no
  | x, y => nilA P op t x y

def evUn (op : UnOp) (x : AV) : ERA :=
  match op, x with
  | .neg, .int k n => .val (.int k (k.wrap (0 - n)))
  | .xor, .int k n => .val (.int k (inot k n))
  | .not, .bool b => .val (.bool (!b))
  | _, _ => .no

/-- All are bytes. -/
def U8s (l : List Int) : Prop := ∀ x ∈ l, 0 ≤ x ∧ x < 256

def evConv (P : Program) (src dst : TypeId) (x : AV) : ERA :=
  match P.underlying src, P.underlying dst, x with
  | some _, some (.int k), .int _ n => .val (.int k (k.wrap n))
  | some _, some .string, .str l => .val (.str l)
  | some .string, some (.slice e), .str l =>
    match P.underlying e with
    | some (.int .u8) => .need (l.length ≤ 9223372036854775807) (.ints .u8 l)
    | _ => .no
  | some (.slice e), some .string, .ints .u8 l =>
    match P.underlying e with
    | some (.int .u8) => .need (U8s l) (.str l)
    | _ => .no
  | some (.slice e), some .string, .nils =>
    match P.underlying e with
    | some (.int .u8) => .val (.str [])
    | _ => .no
  | _, _, _ => .no

def Agg (P : Program) (t : TypeId) : Bool :=
  match P.underlying t with
  | some (.struct _) | some (.array _ _) => true
  | _ => false

/-- A part of a list of cells, as a value of a type. -/
def partA (P : Program) (t : TypeId) (cs : List AV) : Option AV :=
  match P.underlying t with
  | none => none
  | some (.struct _) | some (.array _ _) => if (cs.take (P.cellsOf t)).length = P.cellsOf t ∧ 0 < P.cellsOf t then some (.agg (cs.take (P.cellsOf t))) else none
  | some _ => match cs with
    | [] => none
    | c :: _ => some c

def fieldOff (P : Program) (t : TypeId) (f : Nat) : Option (Nat × TypeId) :=
  match P.underlying t with
  | some (.struct fs) => match fs[f]? with
    | some x => if P.cellsOf x.type = 0 then none else some (x.offset, x.type)
    | none => none
  | _ => none

def evField (P : Program) (t : TypeId) (x : AV) (f : Nat) : ERA :=
  match x, fieldOff P t f with
  | .agg cs, some (o, ft) => match partA P ft (cs.drop o) with
    | some v => .val v
    | none => .no
  | _, _ => .no

def evFieldAddr (P : Program) (t : TypeId) (x : AV) (f : Nat) : ERA :=
  match x, fieldOff P t f with
  | .iptr cs, some (o, _) => .val (.iptr (cs.drop o))
  | .ptr id a, some (o, _) => .val (.ptr id (a + o))
  | .eptr id i sz a, some (o, _) => .val (.eptr id i sz (a + o))
  | _, _ => .no

/-- The type has a zero value of the right size. -/
def zeroOk (P : Program) (t : TypeId) : Bool :=
  match P.info? t with
  | some i => match i.zero with
    | some z => z.cells.size == i.size && z.cells.toList.all (·.oneCell')
    | none => false
  | none => false

def sliceElem (P : Program) (t : TypeId) : Option (TypeId × Nat) :=
  match P.underlying t with
  | some (.slice e) => if P.cellsOf e = 0 ∨ zeroOk P e = false then none else some (e, P.cellsOf e)
  | _ => none

/-- An array's type. -/
def arrElem (P : Program) (t : TypeId) : Option (Nat × Nat) :=
  match P.underlying t with
  | some (.array m e) => if P.cellsOf e = 0 then none else some (m, P.cellsOf e)
  | _ => none

def evIndexArr (P : Program) (t : TypeId) (x : AV) (n : Int) : ERA :=
  match arrElem P t, x with
  | some (m, sz), .iptr cs => .need (0 ≤ n ∧ n < m) (.iptr (cs.drop (n.toNat * sz)))
  | some (m, sz), .ptr id off => .need (0 ≤ n ∧ n < m) (.ptr id (off + n.toNat * sz))
  | some (m, sz), .eptr id j s off => .need (0 ≤ n ∧ n < m) (.eptr id j s (off + n.toNat * sz))
  | _, _ => .no

def evIndexAddr (P : Program) (t : TypeId) (x i : AV) : ERA :=
  match i with
  | .int _ n =>
    match sliceElem P t, x with
    | some (_, sz), .ints k l => if sz = 1 then .need (0 ≤ n ∧ n < l.length) (.iptr [.int k (l.getD n.toNat 0)]) else .no
    | some (_, sz), .rows sz' rs => if sz = sz' then .need (0 ≤ n ∧ n < rs.length) (.iptr (rs.getD n.toNat [])) else .no
    | some (_, sz), .mvec id off len sz' => if sz = sz' then .need (0 ≤ n ∧ n < len) (.eptr id (off + n.toNat) sz 0) else .no
    | none, x => evIndexArr P t x n
    | _, _ => .no
  | _ => .no

def evIndexA (P : Program) (e : TypeId) (m : Nat) (cs : List AV) (n : Int) : ERA :=
  match partA P e (cs.drop (n.toNat * P.cellsOf e)) with
  | some v => if 0 < P.cellsOf e then .need (0 ≤ n ∧ n < m) v else .no
  | none => .no

def evIndex (P : Program) (t : TypeId) (x i : AV) : ERA :=
  match i, P.underlying t, x with
  | .int _ n, some .string, .str l => .need (0 ≤ n ∧ n < l.length) (.int .u8 (l.getD n.toNat 0))
  | .int _ n, some (.array m e), .agg cs => evIndexA P e m cs n
  | _, _, _ => .no

def bnd (d : Int) : Option AV → Option Int
  | none => some d
  | some (.int _ n) => some n
  | _ => none

def evSlice (P : Program) (t : TypeId) (x : AV) (lo hi mx : Option AV) : ERA :=
  match mx with
  | some (.int _ 0) =>
    match lo, hi, sliceElem P t, x with
    | none, some (.int _ 0), some _, .ints _ l => .need (l ≠ []) .emp
    | none, some (.int _ 0), some _, .rows _ l => .need (l ≠ []) .emp
    | none, some (.int _ 0), some _, .mvec .. => .val .emp
    | none, some (.int _ 0), some _, .nils => .val .nils
    | none, some (.int _ 0), some _, .emp => .val .emp
    | _, _, _, _ => .no
  | some _ => .no
  | none =>
    match P.underlying t, x with
    | some .string, .str l => match bnd 0 lo, bnd l.length hi with
      | some a, some b => .need (0 ≤ a ∧ a ≤ b ∧ b ≤ l.length) (.str ((l.drop a.toNat).take (b.toNat - a.toNat)))
      | _, _ => .no
    | some (.slice e), .ints k l => match bnd 0 lo, bnd l.length hi with
      | some a, some b => if P.cellsOf e = 1 then .need (0 ≤ a ∧ a ≤ b ∧ b ≤ l.length) (.ints k ((l.drop a.toNat).take (b.toNat - a.toNat))) else .no
      | _, _ => .no
    | some (.slice e), .rows sz l => match bnd 0 lo, bnd l.length hi with
      | some a, some b => if P.cellsOf e = sz ∧ 0 < sz then .need (0 ≤ a ∧ a ≤ b ∧ b ≤ l.length) (.rows sz ((l.drop a.toNat).take (b.toNat - a.toNat))) else .no
      | _, _ => .no
    | some (.slice e), .mvec id off len sz => match bnd 0 lo, bnd len hi with
      | some a, some b => if P.cellsOf e = sz ∧ 0 < sz then .need (0 ≤ a ∧ a ≤ b ∧ b ≤ len ∧ a < len) (.mvec id (off + a.toNat) (b.toNat - a.toNat) sz) else .no
      | _, _ => .no
    | _, _ => .no

def lenA : AV → Option Int
  | .str l | .ints _ l => some l.length
  | .rows _ l => some l.length
  | .mvec _ _ n _ => some n
  | .nils | .emp => some 0
  | _ => none

def evLen (P : Program) (t : TypeId) (x : AV) : ERA :=
  match P.underlying t, x with
  | some (.array n _), _ => .val (.int .i64 n)
  | some .string, .str l => .val (.int .i64 l.length)
  | some (.slice _), .ints _ l => .val (.int .i64 l.length)
  | some (.slice _), .rows _ l => .val (.int .i64 l.length)
  | some (.slice _), .mvec _ _ n _ => .val (.int .i64 n)
  | some (.slice _), .nils => .val (.int .i64 0)
  | some (.slice _), .emp => .val (.int .i64 0)
  | _, _ => .no

def evPick (c a b : AV) : ERA :=
  match c with
  | .bool true => .val a
  | .bool false => .val b
  | _ => .no

def evExtract (x : AV) (i : Nat) : ERA :=
  match x with
  | .tup cs => match cs[i]? with
    | some v => .val v
    | none => .no
  | _ => .no

def evNilCheck (x : AV) : ERA :=
  match x with
  | .ptr a b => .val (.ptr a b)
  | .eptr a b c d => .val (.eptr a b c d)
  | .iptr cs => .val (.iptr cs)
  | .glob g => .val (.glob g)
  | .fn f a b => .val (.fn f a b)
  | _ => .no

def evMin (x y : AV) : ERA :=
  match x, y with
  | .int k a, .int _ b => .val (.int k (min a b))
  | _, _ => .no
def evMax (x y : AV) : ERA :=
  match x, y with
  | .int k a, .int _ b => .val (.int k (max a b))
  | _, _ => .no

/-- A load through a pointer into what never turns. -/
def evLoadI (P : Program) (t : TypeId) (x : AV) : ERA :=
  match x with
  | .iptr cs => match partA P t cs with
    | some v => .val v
    | none => .no
  | _ => .no

/-- One cell. -/
def AV.cell : AV → Bool
  | .any | .agg _ | .tup _ => false
  | _ => true

/-- The cells of a value that may be stored. -/
def AV.cellsOf : AV → Option (List AV)
  | .agg cs => if cs.all AV.cell then some cs else none
  | .any | .tup _ => none
  | v => some [v]

def partsOne (sz : Nat) : List (Nat × AV) → Nat → Option (List (List AV))
  | [], _ => some []
  | (i, v) :: r, k => if i = k then match v.cellsOf, partsOne sz r (k + 1) with
      | some cs, some rest => if cs.length = sz then some (cs :: rest) else none
      | _, _ => none
    else none

def intsOf (k : IntKind) : List (List AV) → Option (List Int)
  | [] => some []
  | [.int k' n] :: r => if k = k' then (match intsOf k r with | some l => some (n :: l) | none => none) else none
  | _ => none

/-- The rows of a literal slice, as integers if they are. -/
def rowsAV (sz : Nat) (rs : List (List AV)) : AV :=
  match rs with
  | [.int k _] :: _ => match intsOf k rs with
    | some l => .ints k l
    | none => .rows sz rs
  | _ => .rows sz rs

def evBuildSlice (P : Program) (t : TypeId) (len : Nat) (ps : List (Nat × AV)) : ERA :=
  match sliceElem P t with
  | some (_, sz) =>
    if len = 0 then (if ps.length = 0 then .val .emp else .no)
    else if ps.length = len ∧ len * sz ≤ 16777216 then match partsOne sz ps 0 with
      | some rs => .val (rowsAV sz rs)
      | none => .no
    else .no
  | none => .no

/-- The zero value's cells. -/
def zeroA (P : Program) (t : TypeId) : Option (List AV) :=
  match P.info? t with
  | some i => match i.zero with
    | some z => some (z.cells.toList.map ofCell)
    | none => none
  | none => none

def splice (cs : List AV) (o : Nat) (xs : List AV) : List AV := cs.take o ++ xs ++ cs.drop (o + xs.length)

/-- Where a part of a composite literal goes. -/
def placesA (P : Program) (t : TypeId) : Option (List (Nat × Nat)) :=
  match P.underlying t with
  | some (.struct fs) => some (fs.toList.map fun f => (f.offset, P.cellsOf f.type))
  | some (.array n e) => if P.cellsOf e = 0 then none else some ((List.range n).map fun i => (i * P.cellsOf e, P.cellsOf e))
  | _ => none

def fillA (pl : List (Nat × Nat)) : List AV → List (Nat × AV) → Option (List AV)
  | cs, [] => some cs
  | cs, (i, v) :: r => match pl[i]?, v.cellsOf with
    | some (o, sz), some xs => if xs.length = sz ∧ o + sz ≤ cs.length then fillA pl (splice cs o xs) r else none
    | _, _ => none

def evBuild (P : Program) (t : TypeId) (ps : List (Nat × AV)) : ERA :=
  match placesA P t, zeroA P t with
  | some pl, some z => if pl.all (fun p => decide (0 < p.2)) then match fillA pl z ps with
      | some cs => .val (.agg cs)
      | none => .no
    else .no
  | _, _ => .no

def evBuiltin (P : Program) (b : Builtin) (ts : List TypeId) (xs : List AV) : ERA :=
  match b, ts, xs with
  | .len, [t], [x] => evLen P t x
  | .min, [_, _], [x, y] => evMin x y
  | .max, [_, _], [x, y] => evMax x y
  | _, _, _ => .no

/-- Operations that look at temporaries alone. -/
def evA (P : Program) (env : Env) : Op → ERA
  | .move x => .val (evO env x)
  | .assign x => .val (evO env x)
  | .pick c a b => evPick (evO env c) (evO env a) (evO env b)
  | .nilCheck x => evNilCheck (evO env x)
  | .binOp op t x y _ => evBin P op t (evO env x) (evO env y)
  | .unOp op _ x => evUn op (evO env x)
  | .convert s d x => evConv P s d (evO env x)
  | .field t x f => evField P t (evO env x) f
  | .fieldAddr t x f => evFieldAddr P t (evO env x) f
  | .indexAddr t x i => evIndexAddr P t (evO env x) (evO env i)
  | .index t x i => evIndex P t (evO env x) (evO env i)
  | .slice t x lo hi mx => evSlice P t (evO env x) (lo.map (evO env)) (hi.map (evO env)) (mx.map (evO env))
  | .extract x i => evExtract (evO env x) i
  | .load t x => evLoadI P t (evO env x)
  | .makeFunc (.func f) fs cs => .val (.fn f (fs.toList.map (evO env)) (cs.toList.map (evO env)))
  | .build t ps => evBuild P t (ps.toList.map fun p => (p.1, evO env p.2))
  | .buildSlice t n ps => evBuildSlice P t n (ps.toList.map fun p => (p.1, evO env p.2))
  | .call { callee := .builtin b, args := xs, argTypes := ts } => evBuiltin P b ts.toList (xs.toList.map (evO env))
  | _ => .no

end Go.Pa

/-! Lists of abstract values against lists of concrete ones; soundness of the operations that look at temporaries alone. -/
namespace Go.Pa
set_option linter.unusedSectionVars false
variable [GTab]

inductive RepL (G : Gh) : List AV → List Value → Prop
  | nil : RepL G [] []
  | cons {x : AV} {v : Value} {xs : List AV} {vs : List Value} : Rep G x v → RepL G xs vs → RepL G (x :: xs) (v :: vs)

namespace RepL
variable {G : Gh}
theorem length {xs : List AV} {vs : List Value} (h : RepL G xs vs) : xs.length = vs.length := by
  induction h with
  | nil => rfl
  | cons _ _ ih => simp [ih]
theorem get {xs : List AV} {vs : List Value} (h : RepL G xs vs) : ∀ (i : Nat) x, xs[i]? = some x → ∃ v, vs[i]? = some v ∧ Rep G x v := by
  induction h with
  | nil => intro i x hx; simp at hx
  | cons hr _ ih =>
    intro i x hx
    cases i with
    | zero => simp at hx; subst hx; exact ⟨_, by simp, hr⟩
    | succ i => simp at hx; simpa using ih i x hx
theorem of_get : ∀ {xs : List AV} {vs : List Value}, xs.length = vs.length → (∀ (i : Nat) x, xs[i]? = some x → ∃ v, vs[i]? = some v ∧ Rep G x v) → RepL G xs vs
  | [], [], _, _ => .nil
  | x :: xs, v :: vs, hl, h => by
    refine .cons ?_ (of_get (by simpa using hl) fun i y hy => by simpa using h (i + 1) y (by simpa using hy))
    obtain ⟨u, hu, hr⟩ := h 0 x (by simp)
    simp at hu; subst hu; exact hr
theorem append {xs ys : List AV} {vs us : List Value} (h : RepL G xs vs) (k : RepL G ys us) : RepL G (xs ++ ys) (vs ++ us) := by
  induction h with
  | nil => exact k
  | cons hr _ ih => exact .cons hr ih
theorem drop {xs : List AV} {vs : List Value} (h : RepL G xs vs) (n : Nat) : RepL G (xs.drop n) (vs.drop n) := by
  induction n generalizing xs vs with
  | zero => simpa using h
  | succ n ih => cases h with
    | nil => exact .nil
    | cons _ k => simpa using ih k
theorem take {xs : List AV} {vs : List Value} (h : RepL G xs vs) (n : Nat) : RepL G (xs.take n) (vs.take n) := by
  induction n generalizing xs vs with
  | zero => simpa using RepL.nil
  | succ n ih => cases h with
    | nil => exact .nil
    | cons hr k => simpa using RepL.cons hr (ih k)
theorem set {xs : List AV} {vs : List Value} (h : RepL G xs vs) (i : Nat) {x : AV} {v : Value} (hr : Rep G x v) : RepL G (xs.set i x) (vs.set i v) := by
  induction h generalizing i with
  | nil => exact .nil
  | cons hq k ih => cases i with
    | zero => exact .cons hr k
    | succ i => exact .cons hq (ih i)
theorem mono {G' : Gh} (hg : G.le G') {xs : List AV} {vs : List Value} (h : RepL G xs vs) : RepL G' xs vs := by
  induction h with
  | nil => exact .nil
  | cons hr _ ih => exact .cons (hr.mono hg) ih
theorem ints (k : IntKind) (l : List Int) : RepL G (l.map (AV.int k)) (l.map (Value.int k)) := by
  induction l with
  | nil => exact .nil
  | cons a l ih => exact .cons (.int k a) ih
/-- A function for the values. -/
theorem fn {xs : List AV} {vs : List Value} (h : RepL G xs vs) : (∀ (i : Nat) x, xs[i]? = some x → vs[i]? = some (vs.getD i (.bool false)) ∧ Rep G x (vs.getD i (.bool false))) := by
  intro i x hx
  obtain ⟨v, hv, hr⟩ := h.get i x hx
  simp only [List.getD, hv, Option.getD_some]
  exact ⟨trivial, hr⟩
end RepL

theorem Rep.agg_of {G : Gh} {cs : List AV} {vs : Array Value} (h : RepL G cs vs.toList) : Rep G (.agg cs) (.agg vs) := by
  refine .agg cs vs (fun i => vs.toList.getD i (.bool false)) (by simpa using h.length) (fun i x hx => ?_) (fun i x hx => (h.fn i x hx).2)
  simpa using (h.fn i x hx).1
theorem Rep.agg_inv {G : Gh} {cs : List AV} {v : Value} (h : Rep G (.agg cs) v) : ∃ vs : Array Value, v = .agg vs ∧ RepL G cs vs.toList := by
  cases h with
  | agg _ vs f hl h hr => exact ⟨vs, rfl, RepL.of_get (by simpa using hl) fun i x hx => ⟨f i, by simpa using h i x hx, hr i x hx⟩⟩
theorem Rep.tup_of {G : Gh} {cs : List AV} {vs : Array Value} (h : RepL G cs vs.toList) : Rep G (.tup cs) (.tuple vs) := by
  refine .tup cs vs (fun i => vs.toList.getD i (.bool false)) (by simpa using h.length) (fun i x hx => ?_) (fun i x hx => (h.fn i x hx).2)
  simpa using (h.fn i x hx).1
theorem Rep.tup_inv {G : Gh} {cs : List AV} {v : Value} (h : Rep G (.tup cs) v) : ∃ vs : Array Value, v = .tuple vs ∧ RepL G cs vs.toList := by
  cases h with
  | tup _ vs f hl h hr => exact ⟨vs, rfl, RepL.of_get (by simpa using hl) fun i x hx => ⟨f i, by simpa using h i x hx, hr i x hx⟩⟩
theorem Rep.fn_of {G : Gh} {f : FuncId} {fs cs : List AV} {gs hs : Array Value} (h : RepL G fs gs.toList) (k : RepL G cs hs.toList) : Rep G (.fn f fs cs) (.func (.func f) gs hs) := by
  refine .fn f fs cs gs hs (fun i => gs.toList.getD i (.bool false)) (fun i => hs.toList.getD i (.bool false)) (by simpa using h.length) (by simpa using k.length)
    (fun i x hx => ?_) (fun i x hx => (h.fn i x hx).2) (fun i x hx => ?_) (fun i x hx => (k.fn i x hx).2)
  · simpa using (h.fn i x hx).1
  · simpa using (k.fn i x hx).1
theorem Rep.fn_inv {G : Gh} {f : FuncId} {fs cs : List AV} {v : Value} (h : Rep G (.fn f fs cs) v) : ∃ gs hs : Array Value, v = .func (.func f) gs hs ∧ RepL G fs gs.toList ∧ RepL G cs hs.toList := by
  cases h with
  | fn _ _ _ gs hs p q hl hl' h hr h' hr' =>
    exact ⟨gs, hs, rfl, RepL.of_get (by simpa using hl) fun i x hx => ⟨p i, by simpa using h i x hx, hr i x hx⟩, RepL.of_get (by simpa using hl') fun i x hx => ⟨q i, by simpa using h' i x hx, hr' i x hx⟩⟩
/-- Cells of what never turns. -/
theorem Rep.iptr_inv {G : Gh} {cs : List AV} {v : Value} (h : Rep G (.iptr cs) v) : ∃ b o vs, v = .pointer (some ⟨b, o, none⟩) ∧ RepL G cs vs ∧ ∀ (i : Nat) c, vs[i]? = some c → G.imm b (o + i) = some c := by
  cases h with
  | iptr _ b o f h hr =>
    refine ⟨b, o, (List.range cs.length).map f, rfl, RepL.of_get (by simp) fun i x hx => ⟨f i, ?_, hr i x hx⟩, fun i c hc => ?_⟩
    · have : i < cs.length := (List.getElem?_eq_some_iff.1 hx).1
      simp [this]
    · rcases Nat.lt_or_ge i cs.length with hi | hi
      · simp [hi] at hc
        subst hc
        exact h i _ (List.getElem?_eq_getElem hi)
      · simp [Nat.not_lt.2 hi] at hc
theorem Rep.iptr_of {G : Gh} {cs : List AV} {vs : List Value} {b o : Nat} (h : RepL G cs vs) (hi : ∀ (i : Nat) c, vs[i]? = some c → G.imm b (o + i) = some c) : Rep G (.iptr cs) (.pointer (some ⟨b, o, none⟩)) :=
  .iptr cs b o (fun i => vs.getD i (.bool false)) (fun i x hx => hi i _ (h.fn i x hx).1) (fun i x hx => (h.fn i x hx).2)
/-- A value that may be stored, as cells. -/
theorem cellsOf_rep {G : Gh} {x : AV} {v : Value} {cs : List AV} (h : Rep G x v) (hc : x.cellsOf = some cs) : RepL G cs v.cells.toList ∧ ∀ c ∈ v.cells.toList, c.oneCell' = true := by
  have one : ∀ {x : AV} {v : Value}, Rep G x v → x.cell = true → v.oneCell' = true := by
    intro x v h hx
    cases h <;> first | rfl | (simp [AV.cell] at hx)
  cases x with
  | agg ds =>
    simp only [AV.cellsOf] at hc
    split at hc
    · rename_i hall
      cases hc
      obtain ⟨vs, rfl, hl⟩ := h.agg_inv
      refine ⟨hl, fun c hcm => ?_⟩
      obtain ⟨i, hi⟩ := List.mem_iff_getElem?.1 hcm
      have hlt : i < cs.length := by rw [hl.length]; exact (List.getElem?_eq_some_iff.1 hi).1
      obtain ⟨u, hu, hr⟩ := hl.get i _ (List.getElem?_eq_getElem hlt)
      rw [show vs.toList = (Value.agg vs).cells.toList from rfl, hi] at hu
      cases hu
      exact one hr (List.all_eq_true.1 hall _ (List.getElem_mem hlt))
    · cases hc
  | any => simp [AV.cellsOf] at hc
  | tup _ => simp [AV.cellsOf] at hc
  | _ =>
    simp only [AV.cellsOf, Option.some.injEq] at hc
    subst hc
    have hv := one h rfl
    cases v <;> simp [Value.oneCell'] at hv <;> exact ⟨.cons h .nil, by simp [Value.cells, Value.oneCell']⟩

theorem Rep.oneCell {G : Gh} {x : AV} {v : Value} (h : Rep G x v) (hx : x.cell = true) : v.oneCell' = true := by
  cases h <;> first | rfl | (simp [AV.cell] at hx)

/-! ### What is said of one operation -/

/-- In whatever store, operation 'o' yields what 'v' says. -/
def PureJ (P : Program) (N : Nat) (o : Oper) (env : Env) (v : AV) : Prop :=
  ∀ G σ a w, ERel G N env a → WRel G σ w → ∃ c w' G', (execOp a.eval o).run P w = .ok (.value c) w' ∧ G.le G' ∧ WRel G' σ w' ∧ Rep G' v c

theorem PureJ.of_still {P : Program} {N : Nat} {o : Oper} {env : Env} {v : AV}
    (h : ∀ G σ a w, ERel G N env a → WRel G σ w → ∃ c, (execOp a.eval o).run P w = .ok (.value c) w ∧ Rep G v c) : PureJ P N o env v :=
  fun G σ a w he hw => let ⟨c, hr, hp⟩ := h G σ a w he hw; ⟨c, w, G, hr, .refl G, hw, hp⟩

theorem run_sizeOf {P : Program} {t : TypeId} (h : 0 < P.cellsOf t) (w : World) : (sizeOf t).run P w = .ok (P.cellsOf t) w := by
  unfold Program.cellsOf at *
  cases hi : P.info? t with
  | none => simp [hi] at h
  | some i => simp [sizeOf, typeInfo, hi]

theorem run_isAgg {P : Program} {t : TypeId} {d : TypeDesc} (h : P.underlying t = some d) (w : World) : (isAgg t).run P w = .ok (Agg P t) w := by
  unfold isAgg Agg
  rw [Sem.run_bind, run_underlying h w, h]
  cases d <;> simp

theorem beqInt (a b : Int) : (a == b) = decide (a = b) := rfl

theorem intOp_sound {op : BinOp} {k : IntKind} {a b : Int} {v : AV} (h : (intOp op k a b).says v) (h1 : op ≠ .shl) (h2 : op ≠ .shr) (P : Program) (t : TypeId) (G : Gh) (w : World) :
    ∃ c, (binOp op t (.int k a) (.int k b)).run P w = .ok c w ∧ Rep G v c := by
  cases op <;> simp only [intOp, ERA.says] at h
  case add => subst h; exact ⟨_, by simp only [binOp, ne_eq, not_true_eq_false, if_false]; rfl, .int _ _⟩
  case sub => subst h; exact ⟨_, by simp only [binOp, ne_eq, not_true_eq_false, if_false]; rfl, .int _ _⟩
  case mul => subst h; exact ⟨_, by simp only [binOp, ne_eq, not_true_eq_false, if_false]; rfl, .int _ _⟩
  case quo => obtain ⟨h0, rfl⟩ := h; exact ⟨.int k (k.wrap (a.tdiv b)), by simp [binOp, Op.intDiv, h0], .int _ _⟩
  case rem => obtain ⟨h0, rfl⟩ := h; exact ⟨.int k (a.tmod b), by simp [binOp, Op.intDiv, h0], .int _ _⟩
  case and => subst h; exact ⟨_, by simp only [binOp, ne_eq, not_true_eq_false, if_false]; rfl, .int _ _⟩
  case or => subst h; exact ⟨_, by simp only [binOp, ne_eq, not_true_eq_false, if_false]; rfl, .int _ _⟩
  case xor => subst h; exact ⟨_, by simp only [binOp, ne_eq, not_true_eq_false, if_false]; rfl, .int _ _⟩
  case andNot => subst h; exact ⟨_, by simp only [binOp, ne_eq, not_true_eq_false, if_false]; rfl, .int _ _⟩
  case eql => subst h; exact ⟨_, by simp only [binOp, ne_eq, not_true_eq_false, if_false]; rfl, .bool _⟩
  case neq => subst h; exact ⟨_, by simp only [binOp, ne_eq, not_true_eq_false, if_false]; rfl, .bool _⟩
  case lss => subst h; exact ⟨_, by simp only [binOp, ne_eq, not_true_eq_false, if_false]; rfl, .bool _⟩
  case leq => subst h; exact ⟨_, by simp only [binOp, ne_eq, not_true_eq_false, if_false]; rfl, .bool _⟩
  case gtr => subst h; exact ⟨_, by simp only [binOp, ne_eq, not_true_eq_false, if_false]; rfl, .bool _⟩
  case geq => subst h; exact ⟨_, by simp only [binOp, ne_eq, not_true_eq_false, if_false]; rfl, .bool _⟩
  all_goals exact h.elim

end Go.Pa

/-! Soundness of the operations that look at temporaries alone, one by one. -/
namespace Go.Pa
set_option linter.unusedSectionVars false
variable [GTab]
variable {P : Program} {G : Gh}

theorem says_val {v u : AV} (h : (ERA.val v).says u) : u = v := h
theorem says_need {p : Prop} {v u : AV} (h : (ERA.need p v).says u) : p ∧ u = v := h

theorem run_eqGuard_plain (op : BinOp) (t : TypeId) (x y : Operand) {a b : Value} (ha : (∀ cs, a ≠ .agg cs) ∧ a ≠ .nilIface) (w : World) :
    (eqGuard op t x y a b).run P w = .ok () w := by
  cases a <;> first | exact absurd rfl (ha.1 _) | exact absurd rfl ha.2 | (unfold eqGuard; (repeat' split) <;> first | rfl | (rename_i h; cases h) | simp_all)

theorem str_eq {a b : List Int} {s1 s2 : ByteArray} (e1 : s1.data.toList.map (fun b => (b.toNat : Int)) = a) (e2 : s2.data.toList.map (fun b => (b.toNat : Int)) = b) :
    (s1.toList == s2.toList) = decide (a = b) := by
  rw [ByteArray.toList_eq, ByteArray.toList_eq, ← e1, ← e2]
  generalize s1.data.toList = l1
  generalize s2.data.toList = l2
  have key : l1 = l2 ↔ l1.map (fun b => (b.toNat : Int)) = l2.map (fun b => (b.toNat : Int)) :=
    ⟨fun h => by rw [h], fun h => (List.map_inj_right (fun x y hxy => by have : x.toNat = y.toNat := by omega
                                                                         exact UInt8.toNat_inj.1 this)).1 h⟩
  have h2 : decide (l1 = l2) = decide (l1.map (fun b => (b.toNat : Int)) = l2.map (fun b => (b.toNat : Int))) := decide_eq_decide.2 key
  rw [← h2]
  by_cases h : l1 = l2
  · simp [h]
  · simp [h]

theorem str_less {a b : List Int} {s1 s2 : ByteArray} (e1 : s1.data.toList.map (fun b => (b.toNat : Int)) = a) (e2 : s2.data.toList.map (fun b => (b.toNat : Int)) = b) :
    Op.bytesLess s1.toList s2.toList = lessI a b := by
  rw [ByteArray.toList_eq, ByteArray.toList_eq, ← e1, ← e2]
  generalize s1.data.toList = l1
  generalize s2.data.toList = l2
  induction l1 generalizing l2 with
  | nil => cases l2 <;> rfl
  | cons x l1 ih =>
    cases l2 with
    | nil => rfl
    | cons y l2 =>
      simp only [Op.bytesLess, List.map_cons, lessI, ih]
      have h1 : decide (x < y) = decide ((x.toNat : Int) < (y.toNat : Int)) := decide_eq_decide.2 (by rw [UInt8.lt_iff_toNat_lt]; omega)
      have h2 : (x == y) = decide ((x.toNat : Int) = (y.toNat : Int)) := by
        by_cases h : x = y
        · subst h; simp
        · have : ¬ (x.toNat : Int) = (y.toNat : Int) := fun e => h (UInt8.toNat_inj.1 (by omega))
          simp [h, this]
      rw [h1, h2]

theorem str_len {a : List Int} {s : ByteArray} (e : s.data.toList.map (fun b => (b.toNat : Int)) = a) : s.size = a.length := by
  rw [← e, List.length_map]; rfl

theorem str_append {a b : List Int} {s1 s2 : ByteArray} (e1 : s1.data.toList.map (fun b => (b.toNat : Int)) = a) (e2 : s2.data.toList.map (fun b => (b.toNat : Int)) = b) :
    (s1 ++ s2).data.toList.map (fun b => (b.toNat : Int)) = a ++ b := by
  rw [← e1, ← e2, ← List.map_append]
  simp

theorem eqCells_run {xs ys : List AV} {us vs : Array Value} (hx : RepL G xs us.toList) (hy : RepL G ys vs.toList) (d : Nat) :
    ∀ (fs : List Field) (r : Bool), eqCells P xs ys fs = some r → ∀ w, (Op.eqFields (d + 1) us vs fs).run P w = .ok r w
  | [], r, h, w => by simp only [eqCells, Option.some.injEq] at h; subst h; rfl
  | f :: fs, r, h, w => by
    simp only [eqCells] at h
    split at h
    · cases h
    · rename_i hn
      have agg (d : TypeDesc) (hd : P.underlying f.type = some d) (hq : (match d with | .struct _ | .array _ _ => true | _ => false) = false) : ∀ w, (isAgg f.type).run P w = .ok false w := by
        intro w
        rw [run_isAgg hd, Agg, hd]
        cases d <;> simp_all
      have part (d : TypeDesc) (hd : P.underlying f.type = some d) (hq : (match d with | .struct _ | .array _ _ => true | _ => false) = false) {zs : List AV} {ws : Array Value} (hz : RepL G zs ws.toList) {x : AV} (hx : zs[f.offset]? = some x) :
          ∃ v, Rep G x v ∧ ∀ w, (part f.type ws f.offset).run P w = .ok v w := by
        obtain ⟨v, hv, hr⟩ := hz.get _ _ hx
        have hv' : ws[f.offset]? = some v := by simpa using hv
        exact ⟨v, hr, fun w => by simp [Go.part, agg d hd hq, hv']⟩
      split at h <;> try cases h
      · rename_i k a k' b r' h1 h2 h3 h4
        split at h
        · rename_i hk; subst hk; cases h
          obtain ⟨v1, hr1, hp1⟩ := part _ h1 rfl hx h2
          obtain ⟨v2, hr2, hp2⟩ := part _ h1 rfl hy h3
          cases hr1; cases hr2
          have ih := eqCells_run hx hy d fs r' h4
          simp only [Op.eqFields, hn, ne_eq, not_false_eq_true, if_true, Sem.run_bind, hp1, hp2, Result.andThen_ok, run_equalIn_int w d f.type k _ a b h1]
          by_cases hab : a = b
          · subst hab; simp [ih]
          · simp [hab]
        · cases h
      · rename_i a b r' h1 h2 h3 h4
        obtain ⟨v1, hr1, hp1⟩ := part _ h1 rfl hx h2
        obtain ⟨v2, hr2, hp2⟩ := part _ h1 rfl hy h3
        cases hr1; cases hr2
        have ih := eqCells_run hx hy d fs r' h4
        simp only [Op.eqFields, hn, ne_eq, not_false_eq_true, if_true, Sem.run_bind, hp1, hp2, Result.andThen_ok, run_equalIn_bool' w d f.type a b h1]
        by_cases hab : a = b
        · subst hab; simp [ih]
        · simp [hab]
      · rename_i a b r' h1 h2 h3 h4
        obtain ⟨v1, hr1, hp1⟩ := part _ h1 rfl hx h2
        obtain ⟨v2, hr2, hp2⟩ := part _ h1 rfl hy h3
        cases hr1; rename_i s1 e1; cases hr2; rename_i s2 e2
        have ih := eqCells_run hx hy d fs r' h4
        have hs := str_eq e1 e2
        simp only [Op.eqFields, hn, ne_eq, not_false_eq_true, if_true, Sem.run_bind, hp1, hp2, Result.andThen_ok, run_equalIn_string w d f.type s1 s2 h1, hs]
        by_cases hab : a = b
        · subst hab; simp [ih]
        · simp [hab]

theorem nil_runIn (d : Nat) {t : TypeId} {x y : AV} {p : Prop} {b : Bool} (h : nilOf P t x y = some (p, b)) (hp : p) {u1 u2 : Value} (h1 : Rep G x u1) (h2 : Rep G y u2) (w : World) : (Op.equalIn (d + 1) t u1 u2).run P w = .ok b w := by
  unfold nilOf at h
  split at h
  all_goals first
    | (cases h; done)
    | (rename_i hu
       cases h
       cases h2
       cases h1 <;> first
         | exact absurd rfl hp
         | simp [Op.equalIn, run_underlying hu])

theorem nil_run {t : TypeId} {x y : AV} {p : Prop} {b : Bool} (h : nilOf P t x y = some (p, b)) (hp : p) {u1 u2 : Value} (h1 : Rep G x u1) (h2 : Rep G y u2) (w : World) :
    (binOp .eql t u1 u2).run P w = .ok (.bool b) w ∧ (binOp .neq t u1 u2).run P w = .ok (.bool (!b)) w ∧ (∀ cs, u1 ≠ .agg cs) ∧ u1 ≠ .nilIface := by
  have hq : (Op.equal t u1 u2).run P w = .ok b w := nil_runIn 9999 h hp h1 h2 w
  unfold nilOf at h
  split at h
  all_goals first
    | (cases h; done)
    | (cases h
       cases h2
       cases h1 <;> exact ⟨by simp only [binOp, Sem.run_bind, hq, Result.andThen_ok, Sem.run_pure], by simp only [binOp, Sem.run_bind, hq, Result.andThen_ok, Sem.run_pure], fun _ => Value.noConfusion, Value.noConfusion⟩)

theorem bin_sound {op : BinOp} {t : TypeId} {x y : AV} {v : AV} (h : (evBin P op t x y).says v) {u1 u2 : Value} (h1 : Rep G x u1) (h2 : Rep G y u2) (xo yo : Operand) (w : World) :
    ∃ c, (do eqGuard op t xo yo u1 u2; binOp op t u1 u2 : Sem Value).run P w = .ok c w ∧ Rep G v c := by
  unfold evBin at h
  split at h
  · -- ints
    rename_i k a k' b
    cases h1; cases h2
    simp only [Sem.run_bind, run_eqGuard_plain op t xo yo (a := .int k a) (b := .int k' b) ⟨fun _ => Value.noConfusion, Value.noConfusion⟩ w, Result.andThen_ok]
    split at h
    · obtain ⟨hb, rfl⟩ := says_need h
      exact ⟨.int k (ishl k a b), by simp [binOp, Op.shift, Int.not_lt.2 hb, ishl], .int _ _⟩
    · obtain ⟨hb, rfl⟩ := says_need h
      exact ⟨.int k (ishr k a b), by simp [binOp, Op.shift, Int.not_lt.2 hb, ishr], .int _ _⟩
    · rename_i h3 h4
      split at h
      · rename_i hk; subst hk
        exact intOp_sound h (fun e => h3 (e ▸ rfl)) (fun e => h4 (e ▸ rfl)) P t G w
      · exact h.elim
  · -- bools
    rename_i a b
    cases h1; cases h2
    simp only [Sem.run_bind, run_eqGuard_plain op t xo yo (a := .bool a) (b := .bool b) ⟨fun _ => Value.noConfusion, Value.noConfusion⟩ w, Result.andThen_ok]
    split at h
    · rename_i hu; have := says_val h; subst this
      exact ⟨.bool (a == b), by simp [binOp, Op.equal, Op.maxDepth, run_equalIn_bool' w 9999 t a b hu], .bool _⟩
    · rename_i hu; have := says_val h; subst this
      exact ⟨.bool (!(a == b)), by simp [binOp, Op.equal, Op.maxDepth, run_equalIn_bool' w 9999 t a b hu], .bool _⟩
    · exact h.elim
  · -- strings
    rename_i a b
    cases h1; rename_i s1 e1; cases h2; rename_i s2 e2
    simp only [Sem.run_bind, run_eqGuard_plain op t xo yo (a := .string s1) (b := .string s2) ⟨fun _ => Value.noConfusion, Value.noConfusion⟩ w, Result.andThen_ok]
    unfold strOp at h
    split at h
    · have := says_val h; subst this
      exact ⟨.bool (lessI a b), by simp only [binOp, Op.stringOp, Sem.run_pure, str_less e1 e2], .bool _⟩
    · obtain ⟨hb, rfl⟩ := says_need h
      refine ⟨.string (s1 ++ s2), ?_, .str _ _ (str_append e1 e2)⟩
      have h1 := str_len e1
      have h2 := str_len e2
      have : ¬ ((s1.size + s2.size : Nat) : Int) > IntKind.i64.max := by
        have hm : IntKind.i64.max = 9223372036854775807 := by decide
        rw [hm]; omega
      simp only [binOp, Op.stringOp, this, if_false, Sem.run_pure]
    · have := says_val h; subst this
      exact ⟨.bool (decide (a = b)), by simp only [binOp, Op.stringOp, Sem.run_pure, str_eq e1 e2], .bool _⟩
    · have := says_val h; subst this
      exact ⟨.bool (!decide (a = b)), by simp only [binOp, Op.stringOp, Sem.run_pure, str_eq e1 e2], .bool _⟩
    · exact h.elim
  · -- structs
    rename_i xs ys
    obtain ⟨us, rfl, hx⟩ := h1.agg_inv
    obtain ⟨vs, rfl, hy⟩ := h2.agg_inv
    unfold eqAgg at h
    cases hu : P.underlying t with
    | none => simp [hu] at h; exact h.elim
    | some d =>
      cases d with
      | struct fs =>
        simp only [hu] at h
        by_cases hc : P.stoodInHeld t = false ∧ P.eqGuardType P.depth t = false
        · simp only [hc, and_self, if_true] at h
          have hf : P.fieldsOf t = fs := by simp [Program.fieldsOf, hu]
          have he := run_equalIn_struct (P := P) w 9999 t us vs (by rw [hf]; exact hu) hc.1
          rw [hf] at he
          split at h
          · rename_i r' hq
            have := says_val h; subst this
            have hrun := eqCells_run (P := P) hx hy 9998 fs.toList r' hq w
            refine ⟨.bool r', ?_, .bool _⟩
            simp only [Sem.run_bind, run_eqGuard_agg w .eql t xo yo us vs hc.2, Result.andThen_ok, run_eql_struct, he, hrun]
          · rename_i r' hq
            have := says_val h; subst this
            have hrun := eqCells_run (P := P) hx hy 9998 fs.toList r' hq w
            refine ⟨.bool (!r'), ?_, .bool _⟩
            simp only [Sem.run_bind, run_eqGuard_agg w .neq t xo yo us vs hc.2, Result.andThen_ok, run_neq_struct, he, hrun]
          · exact h.elim
        · simp only [hc, if_false] at h; exact h.elim
      | _ => simp [hu] at h; exact h.elim
  · -- nil
    unfold nilA at h
    split at h
    · rename_i p b hq
      obtain ⟨hp, rfl⟩ := says_need h
      obtain ⟨q1, _, q2⟩ := nil_run hq hp h1 h2 w
      exact ⟨.bool b, by simp only [Sem.run_bind, run_eqGuard_plain _ t xo yo q2 w, Result.andThen_ok, q1], .bool _⟩
    · rename_i p b hq
      obtain ⟨hp, rfl⟩ := says_need h
      obtain ⟨_, q1, q2⟩ := nil_run hq hp h1 h2 w
      exact ⟨.bool (!b), by simp only [Sem.run_bind, run_eqGuard_plain _ t xo yo q2 w, Result.andThen_ok, q1], .bool _⟩
    · exact h.elim

end Go.Pa

/-! Soundness of the operations that look at temporaries alone, continued. -/
namespace Go.Pa
set_option linter.unusedSectionVars false
variable [GTab]
variable {P : Program} {G : Gh}

theorem un_sound {op : UnOp} {x v : AV} (h : (evUn op x).says v) {u : Value} (hx : Rep G x u) (w : World) : ∃ c, (Op.unary op u).run P w = .ok c w ∧ Rep G v c := by
  unfold evUn at h
  split at h
  · rename_i k n; have := says_val h; subst this; cases hx
    exact ⟨_, rfl, .int _ _⟩
  · rename_i k n; have := says_val h; subst this; cases hx
    exact ⟨_, rfl, .int _ _⟩
  · rename_i b; have := says_val h; subst this; cases hx
    exact ⟨_, rfl, .bool _⟩
  · exact h.elim

theorem pick_sound {c x y v : AV} (h : (evPick c x y).says v) {uc ux uy : Value} (hc : Rep G c uc) (hx : Rep G x ux) (hy : Rep G y uy) (w : World) :
    ∃ b, (asBool uc).run P w = .ok b w ∧ Rep G v (if b then ux else uy) := by
  unfold evPick at h
  split at h
  · have := says_val h; subst this; cases hc; exact ⟨true, rfl, by simpa using hx⟩
  · have := says_val h; subst this; cases hc; exact ⟨false, rfl, by simpa using hy⟩
  · exact h.elim

theorem extract_sound {x v : AV} {i : Nat} (h : (evExtract x i).says v) {u : Value} (hx : Rep G x u) (w : World) : ∃ c, (Instr.extract u i).run P w = .ok c w ∧ Rep G v c := by
  unfold evExtract at h
  split at h
  · rename_i cs
    split at h
    · rename_i hy
      have := says_val h; subst this
      obtain ⟨vs, rfl, hl⟩ := hx.tup_inv
      obtain ⟨c, hc, hr⟩ := hl.get i _ hy
      refine ⟨c, ?_, hr⟩
      have hc' : vs[i]? = some c := by simpa using hc
      simp [Instr.extract, hc']
    · exact h.elim
  · exact h.elim

theorem add_lit (b o n : Nat) : (⟨b, o, none⟩ : Addr).add n = ⟨b, o + n, none⟩ := by
  unfold Addr.add; split <;> simp_all

/-- Cells that never turn are loaded. -/
theorem run_loadCells_imm {σ : Store} {w : World} (hw : WRel G σ w) {b o : Nat} {vs : List Value} (h : ∀ (i : Nat) c, vs[i]? = some c → G.imm b (o + i) = some c) :
    (loadCells ⟨b, o, none⟩ vs.length).run P w = .ok vs.toArray w :=
  run_loadCells_list w _ vs fun j v hv => by rw [add_lit]; exact (hw.imm _ _ _ (h j v hv)).1

theorem run_load_cell {w : World} {a : Addr} {v : Value} (h : w.cell? a = some v) : (load a).run P w = .ok v w := by simp [h]

theorem partA_cases {t : TypeId} {cs : List AV} {v : AV} (h : partA P t cs = some v) : ∃ d, P.underlying t = some d ∧
    ((Agg P t = true ∧ (cs.take (P.cellsOf t)).length = P.cellsOf t ∧ 0 < P.cellsOf t ∧ v = .agg (cs.take (P.cellsOf t))) ∨ (Agg P t = false ∧ cs[0]? = some v)) := by
  unfold partA at h
  cases hd : P.underlying t with
  | none => simp [hd] at h
  | some d =>
    refine ⟨d, rfl, ?_⟩
    unfold Agg
    simp only [hd] at h ⊢
    cases d
    case struct fs =>
      simp only at h ⊢
      split at h
      · rename_i hc; cases h; exact .inl (by simp [hc.1, hc.2])
      · cases h
    case array n e =>
      simp only at h ⊢
      split at h
      · rename_i hc; cases h; exact .inl (by simp [hc.1, hc.2])
      · cases h
    all_goals
      simp only at h ⊢
      cases cs with
      | nil => cases h
      | cons c cs => cases h; exact .inr (by simp)

/-- A part of cells that lie in memory. -/
theorem part_load {t : TypeId} {cs : List AV} {vs : List Value} (hl : RepL G cs vs) {v : AV} (hv : partA P t cs = some v) {w : World} {b o : Nat}
    (hc : ∀ (i : Nat) c, vs[i]? = some c → w.cell? ⟨b, o + i, none⟩ = some c) : ∃ c, (loadVar t ⟨b, o, none⟩).run P w = .ok c w ∧ Rep G v c := by
  obtain ⟨d, hd, ⟨hagg, hlen, hpos, rfl⟩ | ⟨hagg, h0⟩⟩ := partA_cases hv
  · have htk := hl.take (P.cellsOf t)
    refine ⟨.agg (vs.take (P.cellsOf t)).toArray, ?_, Rep.agg_of (by simpa using htk)⟩
    have h1 : (loadCells ⟨b, o, none⟩ (vs.take (P.cellsOf t)).length).run P w = .ok (vs.take (P.cellsOf t)).toArray w :=
      run_loadCells_list w _ _ fun j u hu => by
        rw [add_lit]
        refine hc j u ?_
        rw [List.getElem?_take] at hu
        split at hu
        · exact hu
        · cases hu
    rw [← htk.length, hlen] at h1
    simp only [loadVar, Sem.run_bind, run_isAgg hd, hagg, Result.andThen_ok, if_true, run_sizeOf hpos, h1, Sem.run_pure]
  · obtain ⟨u, hu, hr⟩ := hl.get 0 v h0
    refine ⟨u, ?_, hr⟩
    have hcell := hc 0 u hu
    simp only [loadVar, Sem.run_bind, run_isAgg hd, hagg, Result.andThen_ok, Bool.false_eq_true, if_false]
    exact run_load_cell hcell

theorem part_run {t : TypeId} {cs : List AV} {vs : Array Value} (hl : RepL G cs vs.toList) {o : Nat} {v : AV} (hv : partA P t (cs.drop o) = some v) (w : World) :
    ∃ c, (part t vs o).run P w = .ok c w ∧ Rep G v c := by
  obtain ⟨d, hd, ⟨hagg, hlen, hpos, rfl⟩ | ⟨hagg, h0⟩⟩ := partA_cases hv
  · refine ⟨.agg (vs.extract o (o + P.cellsOf t)), ?_, Rep.agg_of ?_⟩
    · simp only [part, Sem.run_bind, run_isAgg hd, hagg, Result.andThen_ok, if_true, run_sizeOf hpos, Sem.run_pure]
    · have := (hl.drop o).take (P.cellsOf t)
      simpa [Array.toList_extract, List.extract_eq_take_drop] using this
  · have hget : cs[o]? = some v := by simpa using h0
    obtain ⟨u, hu', hr⟩ := hl.get _ _ hget
    have hu'' : vs[o]? = some u := by simpa using hu'
    exact ⟨u, by simp only [part, Sem.run_bind, run_isAgg hd, hagg, Result.andThen_ok, Bool.false_eq_true, if_false, hu'', Sem.run_pure], hr⟩

theorem loadI_sound {t : TypeId} {x v : AV} (h : (evLoadI P t x).says v) {u : Value} (hx : Rep G x u) {σ : Store} {w : World} (hw : WRel G σ w) :
    ∃ c, (Instr.loadAt t u).run P w = .ok c w ∧ Rep G v c := by
  unfold evLoadI at h
  split at h
  · rename_i cs
    split at h
    · rename_i y hy
      have := says_val h; subst this
      obtain ⟨b, o, vs, rfl, hl, hi⟩ := hx.iptr_inv
      obtain ⟨c, hc, hr⟩ := part_load hl hy (w := w) (b := b) (o := o) fun i c hc => (hw.imm _ _ _ (hi i c hc)).1
      exact ⟨c, by simp only [Instr.loadAt, Instr.sureAddr, Sem.run_bind, Sem.run_pure, Result.andThen_ok, hc], hr⟩
    · exact h.elim
  · exact h.elim

theorem fieldOff_spec {t : TypeId} {f o : Nat} {ft : TypeId} (h : fieldOff P t f = some (o, ft)) : ∃ fs fd, P.underlying t = some (.struct fs) ∧ fs[f]? = some fd ∧ fd.offset = o ∧ fd.type = ft ∧ 0 < P.cellsOf fd.type := by
  unfold fieldOff at h
  split at h
  · rename_i fs hu
    split at h
    · rename_i fd hf
      split at h
      · cases h
      · simp only [Option.some.injEq, Prod.mk.injEq] at h
        exact ⟨fs, fd, hu, hf, h.1, h.2, by omega⟩
    · cases h
  · cases h

theorem field_sound {t : TypeId} {x v : AV} {f : Nat} (h : (evField P t x f).says v) {u : Value} (hx : Rep G x u) (w : World) : ∃ c, (Instr.field t u f).run P w = .ok c w ∧ Rep G v c := by
  unfold evField at h
  split at h
  · rename_i cs o ft ho
    split at h
    · rename_i y hy
      have := says_val h; subst this
      obtain ⟨vs, rfl, hl⟩ := hx.agg_inv
      obtain ⟨fs, fd, hu, hf, rfl, rfl, _⟩ := fieldOff_spec ho
      obtain ⟨c, hc, hr⟩ := part_run hl hy w
      exact ⟨c, by simp only [Instr.field, Sem.run_bind, run_underlying hu, Result.andThen_ok, hf, asAgg, Sem.run_pure, hc], hr⟩
    · exact h.elim
  · exact h.elim

theorem run_fieldAt {t : TypeId} {f o : Nat} {ft : TypeId} (h : fieldOff P t f = some (o, ft)) (b a : Nat) (w : World) :
    (Instr.fieldAt t (.pointer (some ⟨b, a, none⟩)) f).run P w = .ok (.pointer (some ⟨b, a + o, none⟩)) w := by
  obtain ⟨fs, fd, hu, hf, rfl, rfl, hp⟩ := fieldOff_spec h
  have h0 : ¬ (P.cellsOf fd.type = 0) := by omega
  simp only [Instr.fieldAt, Sem.run_bind, run_underlying hu, Result.andThen_ok, hf, Instr.sureAddr, Sem.run_pure, fieldPlace, run_sizeOf hp, h0, if_false, Sem.run_ite, add_lit]

theorem fieldAddr_sound {t : TypeId} {x v : AV} {f : Nat} (h : (evFieldAddr P t x f).says v) {u : Value} (hx : Rep G x u) (w : World) : ∃ c, (Instr.fieldAt t u f).run P w = .ok c w ∧ Rep G v c := by
  unfold evFieldAddr at h
  split at h
  · rename_i cs o ft ho
    have := says_val h; subst this
    obtain ⟨b, a, vs, rfl, hl, hi⟩ := hx.iptr_inv
    exact ⟨_, run_fieldAt ho b a w, Rep.iptr_of (hl.drop o) fun i c hc => by
      rw [List.getElem?_drop] at hc; rw [Nat.add_assoc]; exact hi _ _ hc⟩
  · rename_i id a o ft ho
    have := says_val h; subst this
    cases hx with
    | ptr _ _ b n hob => exact ⟨_, run_fieldAt ho b a w, .ptr _ _ b n hob⟩
  · rename_i id i sz a o ft ho
    have := says_val h; subst this
    cases hx with
    | eptr _ _ _ _ b n hob => exact ⟨_, run_fieldAt ho b _ w, by rw [Nat.add_assoc]; exact .eptr _ _ _ _ b n hob⟩
  · exact h.elim

theorem sliceElem_zero {t e : TypeId} {sz : Nat} (h : sliceElem P t = some (e, sz)) : P.underlying t = some (.slice e) ∧ P.cellsOf e = sz ∧ 0 < sz ∧
    ∃ it zv, P.info? e = some it ∧ it.zero = some zv ∧ it.size = sz ∧ zv.cells.size = sz ∧ ∀ c ∈ zv.cells.toList, c.oneCell' = true := by
  unfold sliceElem at h
  split at h
  · rename_i e' hu
    split at h
    · cases h
    · rename_i hc
      simp only [Option.some.injEq, Prod.mk.injEq] at h
      obtain ⟨rfl, rfl⟩ := h
      refine ⟨hu, rfl, by omega, ?_⟩
      have hz : zeroOk P e' = true := by
        cases hz : zeroOk P e' with
        | true => rfl
        | false => exact absurd (.inr hz) hc
      unfold zeroOk at hz
      unfold Program.cellsOf
      cases hi : P.info? e' with
      | none => simp [hi] at hz
      | some it =>
        cases hzv : it.zero with
        | none => simp [hi, hzv] at hz
        | some zv =>
          simp only [hi, hzv, Bool.and_eq_true, beq_iff_eq] at hz
          exact ⟨it, zv, rfl, hzv, by simp, by simp [hz.1], fun c hc => List.all_eq_true.1 hz.2 c hc⟩
  · cases h

theorem sliceElem_spec {t e : TypeId} {sz : Nat} (h : sliceElem P t = some (e, sz)) : P.underlying t = some (.slice e) ∧ P.cellsOf e = sz ∧ 0 < sz :=
  ⟨(sliceElem_zero h).1, (sliceElem_zero h).2.1, (sliceElem_zero h).2.2.1⟩

theorem flatten_get {α : Type} (sz : Nat) : ∀ (rs : List (List α)) (i j : Nat) (r : List α) (x : α), (∀ r ∈ rs, r.length = sz) → rs[i]? = some r → r[j]? = some x → rs.flatten[i * sz + j]? = some x
  | [], i, j, r, x, _, h, _ => by simp at h
  | r0 :: rs, i, j, r, x, hs, h, hx => by
    have h0 : r0.length = sz := hs r0 (by simp)
    cases i with
    | zero =>
      simp at h; subst h
      have hj : j < r0.length := (List.getElem?_eq_some_iff.1 hx).1
      simp [List.getElem?_append_left hj, hx]
    | succ i =>
      simp at h
      have ih := flatten_get sz rs i j r x (fun r hr => hs r (by simp [hr])) h hx
      rw [List.flatten_cons, List.getElem?_append_right (by rw [h0, Nat.succ_mul]; omega)]
      rw [h0, show (i + 1) * sz + j - sz = i * sz + j by rw [Nat.succ_mul]; omega]
      exact ih

theorem run_indexAt {t e : TypeId} {sz : Nat} (h : sliceElem P t = some (e, sz)) (k : IntKind) (n : Int) (b o len cap : Nat) (h0 : 0 ≤ n) (h1 : n < len) (w : World) :
    (Instr.indexAt t (.slice (some ⟨b, o, none⟩) len cap) (.int k n)).run P w = .ok (.pointer (some ⟨b, o + n.toNat * sz, none⟩)) w := by
  obtain ⟨hu, rfl, hp⟩ := sliceElem_spec h
  simp only [Instr.indexAt, Sem.run_bind, asIntOf, Sem.run_pure, Result.andThen_ok, run_underlying hu, h0, h1, and_self, if_true, run_sizeOf hp, add_lit]

theorem run_indexArr {t : TypeId} {m sz : Nat} (h : arrElem P t = some (m, sz)) (k : IntKind) (n : Int) (b o : Nat) (h0 : 0 ≤ n) (h1 : n < m) (w : World) :
    (Instr.indexAt t (.pointer (some ⟨b, o, none⟩)) (.int k n)).run P w = .ok (.pointer (some ⟨b, o + n.toNat * sz, none⟩)) w := by
  unfold arrElem at h
  split at h
  · rename_i m' e hu
    split at h
    · cases h
    · rename_i hp
      cases h
      simp only [Instr.indexAt, Instr.sureAddr, Sem.run_bind, asIntOf, Sem.run_pure, Result.andThen_ok, run_underlying hu, h0, h1, and_self, if_true, run_sizeOf (Nat.pos_of_ne_zero hp), add_lit]
  · cases h

theorem indexAddr_sound {t : TypeId} {x i v : AV} (h : (evIndexAddr P t x i).says v) {u ui : Value} (hx : Rep G x u) (hi : Rep G i ui) (w : World) : ∃ c, (Instr.indexAt t u ui).run P w = .ok c w ∧ Rep G v c := by
  unfold evIndexAddr at h
  split at h
  · rename_i k n
    cases hi
    split at h
    · rename_i e sz k' l hse
      split at h
      · rename_i hsz; subst hsz
        obtain ⟨⟨h0, h1⟩, rfl⟩ := says_need h
        cases hx with
        | ints0 => simp at h1; omega
        | ints _ _ b o cap hc hm =>
          refine ⟨_, run_indexAt hse k n b o l.length cap h0 h1 w, Rep.iptr_of (.cons (.int k' _) .nil) fun j c hj => ?_⟩
          cases j with
          | zero =>
            simp at hj; subst hj
            have hlt : n.toNat < l.length := by omega
            simp only [Nat.mul_one, Nat.add_zero]
            refine hm n.toNat _ ?_
            simp [hlt]
          | succ j => simp at hj
      · exact h.elim
    · rename_i e sz sz' rs hse
      split at h
      · rename_i hsz; subst hsz
        obtain ⟨⟨h0, h1⟩, rfl⟩ := says_need h
        cases hx with
        | rows0 => simp at h1; omega
        | rows _ _ b o cap f hc hs hm hr =>
          have hlt : n.toNat < rs.length := by omega
          refine ⟨_, run_indexAt hse k n b o rs.length cap h0 h1 w, ?_⟩
          refine .iptr _ b _ (fun j => f (n.toNat * sz + j)) (fun j y hy => ?_) (fun j y hy => ?_)
          · rw [Nat.add_assoc]
            exact hm _ _ (flatten_get sz rs n.toNat j _ y hs (List.getElem?_eq_getElem hlt) (by simpa [List.getD, hlt] using hy))
          · exact hr _ _ (flatten_get sz rs n.toNat j _ y hs (List.getElem?_eq_getElem hlt) (by simpa [List.getD, hlt] using hy))
      · exact h.elim
    · rename_i e sz id off len sz' hse
      split at h
      · rename_i hsz; subst hsz
        obtain ⟨⟨h0, h1⟩, rfl⟩ := says_need h
        cases hx with
        | mvec _ _ _ _ cap b nn ho hc hf =>
          refine ⟨_, run_indexAt hse k n b _ len cap h0 h1 w, ?_⟩
          rw [← Nat.add_mul]
          exact .eptr _ _ _ 0 b nn ho
      · exact h.elim
    · unfold evIndexArr at h
      split at h
      · rename_i m sz cs ha
        obtain ⟨⟨h0, h1⟩, rfl⟩ := says_need h
        cases hx with
        | iptr _ b o f hm hr =>
          refine ⟨_, run_indexArr ha k n b o h0 h1 w, .iptr _ b _ (fun j => f (n.toNat * sz + j)) (fun j y hy => ?_) (fun j y hy => ?_)⟩
          · rw [List.getElem?_drop] at hy
            rw [Nat.add_assoc]; exact hm _ _ hy
          · rw [List.getElem?_drop] at hy
            exact hr _ _ hy
      · rename_i m sz id off ha
        obtain ⟨⟨h0, h1⟩, rfl⟩ := says_need h
        cases hx with
        | ptr _ _ b nn ho => exact ⟨_, run_indexArr ha k n b off h0 h1 w, .ptr _ _ b nn ho⟩
      · rename_i m sz id j s off ha
        obtain ⟨⟨h0, h1⟩, rfl⟩ := says_need h
        cases hx with
        | eptr _ _ _ _ b nn ho =>
          refine ⟨_, run_indexArr ha k n b _ h0 h1 w, ?_⟩
          rw [Nat.add_assoc]
          exact .eptr _ _ _ _ b nn ho
      · exact h.elim
    · exact h.elim
  · exact h.elim

theorem index_sound {t : TypeId} {x i v : AV} (h : (evIndex P t x i).says v) {u ui : Value} (hx : Rep G x u) (hi : Rep G i ui) (w : World) : ∃ c, (Instr.index t u ui).run P w = .ok c w ∧ Rep G v c := by
  unfold evIndex at h
  split at h
  · rename_i k n l hu
    obtain ⟨⟨h0, h1⟩, rfl⟩ := says_need h
    cases hi; cases hx; rename_i s e
    have hlt : n.toNat < s.data.toList.length := by rw [← e] at h1; simp at h1 ⊢; omega
    have hsz : n.toNat < s.size := by have h2 := hlt; rw [Array.length_toList] at h2; exact h2
    refine ⟨.int .u8 (l.getD n.toNat 0), ?_, .int _ _⟩
    have hval : l.getD n.toNat 0 = ((s[n.toNat]'hsz).toNat : Int) := by
      rw [← e]
      simp only [List.getD, List.getElem?_map, List.getElem?_eq_getElem hlt, Option.map_some, Option.getD_some]
      rfl
    rw [hval]
    simp [Instr.index, asIntOf, run_underlying hu, h0, hsz]
  · rename_i k n m e cs hu
    unfold evIndexA at h
    split at h
    · rename_i y hy
      split at h
      · rename_i hp
        obtain ⟨⟨h0, h1⟩, rfl⟩ := says_need h
        cases hi
        obtain ⟨vs, rfl, hl⟩ := hx.agg_inv
        obtain ⟨c, hc, hr⟩ := part_run hl hy w
        refine ⟨c, ?_, hr⟩
        simp only [Instr.index, asIntOf, Sem.run_bind, Sem.run_pure, Result.andThen_ok, run_underlying hu, h0, h1, and_self, if_true, Sem.run_ite, run_sizeOf hp, hc]
      · exact h.elim
    · exact h.elim
  · exact h.elim

theorem len_sound {t : TypeId} {x v : AV} (h : (evLen P t x).says v) {u : Value} (hx : Rep G x u) (ts : Array TypeId) (ty : TypeId) (hts : ts[0]? = some t) (w : World) :
    ∃ c, (Builtin.len_ ts ty #[u]).run P w = .ok c w ∧ Rep G v c := by
  unfold evLen at h
  split at h
  · rename_i hu; have := says_val h; subst this
    exact ⟨_, by simp only [Builtin.len_, hts, List.getElem?_toArray, List.getElem?_cons_zero, Sem.run_bind, run_underlying hu, Result.andThen_ok, Sem.run_pure]; rfl, .int _ _⟩
  · rename_i hu; have := says_val h; subst this
    cases hx; rename_i l s e
    refine ⟨.int .i64 l.length, ?_, .int _ _⟩
    simp only [Builtin.len_, hts, List.getElem?_toArray, List.getElem?_cons_zero, Sem.run_bind, run_underlying hu, Result.andThen_ok, Sem.run_pure, str_len e]; rfl
  all_goals try (exact h.elim)
  all_goals
    rename_i hu; have := says_val h; subst this
    cases hx
    all_goals exact ⟨_, by simp only [Builtin.len_, hts, List.getElem?_toArray, List.getElem?_cons_zero, Sem.run_bind, run_underlying hu, Result.andThen_ok, Sem.run_pure]; rfl, .int _ _⟩

theorem nilCheck_sound {x v : AV} (h : (evNilCheck x).says v) {u : Value} (hx : Rep G x u) : v = x ∧ ((∃ a, u = .pointer (some a)) ∨ (∃ f gs hs, u = .func (.func f) gs hs)) := by
  unfold evNilCheck at h
  split at h
  · have := says_val h; subst this; cases hx; exact ⟨rfl, .inl ⟨_, rfl⟩⟩
  · have := says_val h; subst this; cases hx; exact ⟨rfl, .inl ⟨_, rfl⟩⟩
  · have := says_val h; subst this; cases hx; exact ⟨rfl, .inl ⟨_, rfl⟩⟩
  · have := says_val h; subst this; cases hx; exact ⟨rfl, .inl ⟨_, rfl⟩⟩
  · have := says_val h; subst this; cases hx; exact ⟨rfl, .inr ⟨_, _, _, rfl⟩⟩
  · exact h.elim

theorem min_sound {x y v : AV} (h : (evMin x y).says v) {u1 u2 : Value} (hx : Rep G x u1) (hy : Rep G y u2) (ts : Array TypeId) (ty : TypeId) (w : World) :
    ∃ c, (Builtin.min_ ts ty #[u1, u2]).run P w = .ok c w ∧ Rep G v c := by
  unfold evMin at h
  split at h
  · rename_i k a k' b; have := says_val h; subst this; cases hx; cases hy
    refine ⟨.int k (min a b), ?_, .int _ _⟩
    simp only [Builtin.min_, List.foldlM, Builtin.min2, Sem.run_bind, Sem.run_pure, Result.andThen_ok]
    congr 2
    rw [Int.min_def]; split <;> split <;> omega
  · exact h.elim

theorem max_sound {x y v : AV} (h : (evMax x y).says v) {u1 u2 : Value} (hx : Rep G x u1) (hy : Rep G y u2) (ts : Array TypeId) (ty : TypeId) (w : World) :
    ∃ c, (Builtin.max_ ts ty #[u1, u2]).run P w = .ok c w ∧ Rep G v c := by
  unfold evMax at h
  split at h
  · rename_i k a k' b; have := says_val h; subst this; cases hx; cases hy
    refine ⟨.int k (max a b), ?_, .int _ _⟩
    simp only [Builtin.max_, List.foldlM, Builtin.max2, Sem.run_bind, Sem.run_pure, Result.andThen_ok]
    congr 2
    rw [Int.max_def]; split <;> split <;> omega
  · exact h.elim

end Go.Pa

/-! Soundness of conversions, slicing, literals. -/
namespace Go.Pa
set_option linter.unusedSectionVars false
variable [GTab]
variable {P : Program} {G : Gh}

/-- The ghost learns of a new block whose first cells never turn. -/
def Gh.learn (G : Gh) (b : Nat) (vs : List Value) : Gh := { G with imm := fun b' o => if b' = b then vs[o]? else G.imm b' o }

theorem Gh.le_learn {σ : Store} {w : World} (hw : WRel G σ w) (vs : List Value) : G.le (G.learn w.heap.size vs) := by
  refine ⟨rfl, rfl, fun b o c h => ?_, fun _ _ h => h, rfl, fun _ _ h => h⟩
  have hlt := World.block_lt_of_cell? w _ (hw.imm b o c h).1
  have : b ≠ w.heap.size := Nat.ne_of_lt hlt
  simp [Gh.learn, this, h]

theorem objRel_mono {G' : Gh} (hg : G.le G') {w w' : World} {id : Nat} {ob : AObj} (h : ObjRel G w id ob)
    (hh : ∀ b n, G.obj[id]? = some (b, n) → w'.heap[b]? = w.heap[b]?) (hi : ∀ b n, G.obj[id]? = some (b, n) → b < w.heap.size → (∀ o, G.imm b o = none) → ∀ o, G'.imm b o = none) (hmk : ∀ D o, G'.mark D o → G.mark D o := by exact fun _ _ h => h) : ObjRel G' w' id ob := by
  have cellsCase : (∃ b n arr ty, ∃ cs : List AV, ob.cells = some cs ∧ G.obj[id]? = some (b, n) ∧ w.heap[b]? = some (.cells arr ty (0, 0)) ∧ arr.size = n ∧ cs.length ≤ n ∧ G.base ≤ b ∧
      (∀ o, G.imm b o = none) ∧ (∀ (i : Nat) (x : AV), cs[i]? = some x → ∃ c, arr[i]? = some c ∧ Rep G x c) ∧ (∀ c ∈ arr.toList, c.oneCell' = true)) →
      (∃ b n arr ty, ∃ cs : List AV, ob.cells = some cs ∧ G'.obj[id]? = some (b, n) ∧ w'.heap[b]? = some (.cells arr ty (0, 0)) ∧ arr.size = n ∧ cs.length ≤ n ∧ G'.base ≤ b ∧
      (∀ o, G'.imm b o = none) ∧ (∀ (i : Nat) (x : AV), cs[i]? = some x → ∃ c, arr[i]? = some c ∧ Rep G' x c) ∧ (∀ c ∈ arr.toList, c.oneCell' = true)) := by
    rintro ⟨b, n, arr, ty, cs, h1, h2, h3, h4, h5, h6, h7, h8, h9⟩
    have hlt : b < w.heap.size := (Array.getElem?_eq_some_iff.1 h3).1
    exact ⟨b, n, arr, ty, cs, h1, hg.obj _ _ h2, by rw [hh b n h2]; exact h3, h4, h5, by rw [hg.base]; exact h6, hi b n h2 hlt h7,
      fun i x hx => let ⟨c, hc, hr⟩ := h8 i x hx; ⟨c, hc, hr.mono hg⟩, h9⟩
  cases ob with
  | dead => trivial
  | mp kv =>
    obtain ⟨b, n, es, clock, h1, h2, h3, h4, h4m, h5, h6⟩ := h
    have hlt : b < w.heap.size := (Array.getElem?_eq_some_iff.1 h2).1
    exact ⟨b, n, es, clock, hg.obj _ _ h1, by rw [hh b n h1]; exact h2, by rw [hg.base]; exact h3, hi b n h1 hlt h4, (fun D o hD => h4m D o (hmk D o hD)), h5, h6.to fun _ _ _ h => h.mono hg⟩
  | box cs => exact cellsCase h
  | vecI k l => exact cellsCase h
  | vecR sz rs => exact cellsCase h

theorem ObjRel.block {w : World} {id : Nat} {ob : AObj} (h : ObjRel G w id ob) (hl : ob.live = true) : ∃ b n, G.obj[id]? = some (b, n) ∧ b < w.heap.size ∧ G.base ≤ b ∧ ∀ o, G.imm b o = none := by
  cases ob with
  | dead => cases hl
  | mp kv => obtain ⟨b, n, es, clock, h1, h2, h3, h4, _⟩ := h; exact ⟨b, n, h1, (Array.getElem?_eq_some_iff.1 h2).1, h3, h4⟩
  | box cs => obtain ⟨b, n, arr, ty, cs, _, h2, h3, _, _, h6, h7, _⟩ := h; exact ⟨b, n, h2, (Array.getElem?_eq_some_iff.1 h3).1, h6, h7⟩
  | vecI k l => obtain ⟨b, n, arr, ty, cs, _, h2, h3, _, _, h6, h7, _⟩ := h; exact ⟨b, n, h2, (Array.getElem?_eq_some_iff.1 h3).1, h6, h7⟩
  | vecR sz rs => obtain ⟨b, n, arr, ty, cs, _, h2, h3, _, _, h6, h7, _⟩ := h; exact ⟨b, n, h2, (Array.getElem?_eq_some_iff.1 h3).1, h6, h7⟩

/-- A world that goes on from another: new blocks alone; what is learnt lies in new blocks. -/
theorem WRel.grow {σ : Store} {w w' : World} (hw : WRel G σ w) {G' : Gh} (hg : G.le G') (hm : G'.mark = G.mark) (ho : G'.obj = G.obj)
    (hh : ∀ b, b < w.heap.size → w'.heap[b]? = w.heap[b]?) (hs : w.heap.size ≤ w'.heap.size) (h1 : w'.os = w.os) (h2 : w'.tape = w.tape) (h3 : w'.output = w.output)
    (hi : ∀ b o, b < w.heap.size → G'.imm b o = G.imm b o) (hn : ∀ b o c, w.heap.size ≤ b → G'.imm b o = some c → w'.cell? ⟨b, o, none⟩ = some c ∧ c.oneCell' = true) : WRel G' σ w' := by
  refine ⟨by rw [ho]; exact hw.len, fun b o c h => ?_, fun id ob h => ?_, fun i j oi oj bi bj a1 a2 a3 a4 a5 a6 a7 => hw.inj i j oi oj bi bj a1 a2 a3 a4 (by rw [← ho]; exact a5) (by rw [← ho]; exact a6) a7,
    fun b hb => ?_, by rw [hg.base]; exact Nat.le_trans hw.sz hs, by rw [h1, hg.w0]; exact hw.os, by rw [h2, hg.w0]; exact hw.tape, by rw [h3, hg.w0]; exact hw.output, fun D o hD => ?_, by rw [hg.lo]; exact Nat.le_trans hw.grew hs, hw.globs.mono hg.imm⟩
  · rcases Nat.lt_or_ge b w.heap.size with hb | hb
    · rw [hi b o hb] at h
      have := hw.imm b o c h
      exact ⟨by rw [World.cell?_of_block (w := w) (hh b hb)]; exact this.1, this.2⟩
    · exact hn b o c hb h
  · cases hl : ob.live with
    | false => cases ob <;> first | trivial | cases hl
    | true =>
      obtain ⟨b, n, e1, e2, e3, e4⟩ := (hw.objs id ob h).block hl
      refine objRel_mono hg (hw.objs id ob h) (fun b' n' e => ?_) (fun b' n' e hlt h0 o => ?_) (by rw [hm]; exact fun _ _ h => h)
      · rw [e1] at e; cases e; exact hh _ e2
      · rw [hi b' o hlt]; exact h0 o
  · rw [hg.base] at hb
    rw [hg.w0, hh b (Nat.lt_of_lt_of_le hb hw.sz)]
    exact hw.frame b hb
  · rw [hm] at hD
    obtain ⟨q1, q2, q3⟩ := hw.marks D o hD
    exact ⟨by rw [hg.base]; exact q1, by rw [hh D (Array.getElem?_eq_some_iff.1 q2).1]; exact q2, q3⟩

/-- A new block that never turns. -/
theorem WRel.learn {σ : Store} {w : World} (hw : WRel G σ w) (w1 : World) (e1 : w1.heap = w.heap) (e2 : w1.os = w.os) (e3 : w1.tape = w.tape) (e4 : w1.output = w.output)
    {arr : Array Value} {ty : TypeId} {fr : Nat × Nat} {vs : List Value} (hv : ∀ (i : Nat) c, vs[i]? = some c → arr[i]? = some c) (h1 : ∀ c ∈ vs, c.oneCell' = true) :
    WRel (G.learn w.heap.size vs) σ (w1.alloc (.cells arr ty fr)) := by
  refine hw.grow (Gh.le_learn hw vs) rfl rfl (fun b hb => ?_) ?_ e2 e3 e4 (fun b o hb => ?_) (fun b o c hb h => ?_)
  · show (w1.heap.push _)[b]? = _
    rw [e1, Array.getElem?_push, if_neg (Nat.ne_of_lt hb)]
  · show _ ≤ (w1.heap.push _).size
    rw [e1]; simp
  · simp [Gh.learn, Nat.ne_of_lt hb]
  · simp only [Gh.learn] at h
    split at h
    · rename_i hb'; subst hb'
      refine ⟨?_, h1 c (List.mem_of_getElem? h)⟩
      have : (w1.alloc (.cells arr ty fr)).heap[w.heap.size]? = some (.cells arr ty fr) := by
        show (w1.heap.push _)[w.heap.size]? = _
        rw [e1]; simp
      simp [World.cell?, this, hv o c h]
    · have hlt := World.block_lt_of_cell? w _ (hw.imm b o c h).1
      simp only at hlt
      omega

/-! ### Conversions -/

theorem map_u8 (s : ByteArray) : (s.data.map fun b => Value.int .u8 b.toNat).toList = (s.data.toList.map (fun b => (b.toNat : Int))).map (Value.int .u8) := by
  simp

theorem conv_sound {src dst : TypeId} {x v : AV} (h : (evConv P src dst x).says v) {u : Value} (hx : Rep G x u) {σ : Store} {w : World} (hw : WRel G σ w) :
    ∃ c w' G', (convert src dst u).run P w = .ok c w' ∧ G.le G' ∧ WRel G' σ w' ∧ Rep G' v c := by
  unfold evConv at h
  split at h
  · rename_i d1 k kk n h1 h2
    have := says_val h; subst this; cases hx
    refine ⟨.int k (k.wrap n), w, G, ?_, .refl G, hw, .int _ _⟩
    simp only [convert, Sem.run_bind, run_underlying h1, run_underlying h2, Result.andThen_ok]
    rfl
  · rename_i d1 l h1 h2
    have := says_val h; subst this; cases hx; rename_i s e
    refine ⟨.string s, w, G, ?_, .refl G, hw, .str _ _ e⟩
    simp only [convert, Sem.run_bind, run_underlying h1, run_underlying h2, Result.andThen_ok]
    cases d1 <;> rfl
  · rename_i e l h1 h2
    split at h
    · rename_i h3
      obtain ⟨hlen, rfl⟩ := says_need h
      cases hx; rename_i s hs
      have hsz := str_len hs
      have hcap : s.size ≤ grownCap w s.size 0 e := grownCap_ge w _ _ _
      have hrun := run_bytes_of_string (P := P) w src dst e s h1 h2 h3
      refine ⟨_, _, _, hrun, Gh.le_learn hw (l.map (Value.int .u8)), hw.learn w.drew rfl rfl rfl rfl (fun i c hc => ?_) (fun c hc => ?_), ?_⟩
      · have hlt : i < l.length := by
          have := (List.getElem?_eq_some_iff.1 hc).1; simpa using this
        have h4 : (bytesRow s (grownCap w s.size 0 e))[i]? = (s.data.map fun b => Value.int .u8 b.toNat)[i]? := by
          simp only [bytesRow]
          rw [Array.getElem?_append_left]
          have : s.data.size = s.size := rfl
          simp [this]; omega
        rw [h4, ← Array.getElem?_toList, map_u8, hs]
        exact hc
      · simp at hc; obtain ⟨n, _, rfl⟩ := hc; rfl
      · rw [hsz]
        refine .ints .u8 l _ 0 _ (grownCap_ge w _ _ _) fun i x hx => ?_
        simp [Gh.learn, hx]
    · exact h.elim
  · rename_i e l h1 h2
    split at h
    · rename_i h3
      obtain ⟨hu8, rfl⟩ := says_need h
      have hback : (strOfNums l).data.toList.map (fun b => (b.toNat : Int)) = l := by
        rw [strOfNums_data, List.map_map]
        conv => rhs; rw [← List.map_id l]
        refine List.map_congr_left fun x hx => ?_
        have := hu8 x hx
        simp only [Function.comp, id, UInt8.toNat_ofNat']
        omega
      cases hx with
      | ints0 _ a cap =>
        refine ⟨.string (strOfNums []), w, G, ?_, .refl G, hw, .str _ _ hback⟩
        cases a with
        | none => exact run_convert_bytes_nil w src e h1 h3 0 cap dst h2
        | some a =>
          have := run_convert_bytes_back (P := P) w src dst e a cap [] h1 h3 h2 (fun j hj => by simp at hj)
          exact this
      | ints _ _ b o cap hc hm =>
        refine ⟨.string (strOfNums l), w, G, ?_, .refl G, hw, .str _ _ hback⟩
        refine run_convert_bytes_arg w src e h1 h3 b o l.length cap l rfl (fun i hi => ?_) dst h2
        exact (hw.imm _ _ _ (hm i (l.getD i 0) (by simp [List.getD, hi]))).1
    · exact h.elim
  · rename_i e h1 h2
    split at h
    · rename_i h3
      have := says_val h; subst this; cases hx
      refine ⟨.string .empty, w, G, ?_, .refl G, hw, .str _ _ rfl⟩
      simp only [convert, Sem.run_bind, run_underlying h1, run_underlying h2, run_underlying h3, Result.andThen_ok]
      rfl
    · exact h.elim
  · exact h.elim

end Go.Pa

/-! Soundness of slicing and of literals; all operations that look at temporaries alone. -/
namespace Go.Pa
set_option linter.unusedSectionVars false
variable [GTab]
variable {P : Program} {G : Gh}

theorem bnd_rep {d n : Int} {x : Option AV} (h : bnd d x = some n) {u : Option Value} (hu : ∀ y, x = some y → ∃ c, u = some c ∧ Rep G y c) (hn : x = none → u = none) :
    (x = none ∧ u = none ∧ n = d) ∨ ∃ k, u = some (.int k n) := by
  unfold bnd at h
  split at h
  · cases h; exact .inl ⟨rfl, hn rfl, rfl⟩
  · cases h
    obtain ⟨c, rfl, hc⟩ := hu _ rfl
    cases hc
    exact .inr ⟨_, rfl⟩
  · cases h

/-- The bounds of a slice without a third index. -/
theorem run_sliceBounds (isS : Bool) {len cap : Nat} {a b : Int} (h0 : 0 ≤ a) (h1 : a ≤ b) (h2 : b ≤ cap) {lo hi : Option Value}
    (hlo : (lo = none ∧ a = 0) ∨ ∃ k, lo = some (.int k a)) (hhi : (hi = none ∧ b = len) ∨ ∃ k, hi = some (.int k b)) (w : World) :
    (Instr.sliceBounds isS len cap lo hi none).run P w = .ok (a.toNat, b.toNat, cap) w := by
  unfold Instr.sliceBounds
  simp only [Sem.run_bind, Sem.run_pure, Result.andThen_ok]
  rcases hhi with ⟨rfl, rfl⟩ | ⟨k, rfl⟩
  · rcases hlo with ⟨rfl, rfl⟩ | ⟨k', rfl⟩
    · simp
    · simp [Instr.sliceBound, asIntOf, h0, h1]
  · rcases hlo with ⟨rfl, rfl⟩ | ⟨k', rfl⟩
    · simp [Instr.sliceBound, asIntOf, h2, show 0 ≤ b by omega]
    · have hb : (b.toNat : Int) = b := Int.toNat_of_nonneg (by omega)
      have hb0 : 0 ≤ b := by omega
      simp only [Instr.sliceBound, asIntOf, Sem.run_bind, Sem.run_pure, Result.andThen_ok, Sem.run_ite, h0, h2, hb0, and_self, if_true, hb, h1]

theorem run_sliceAt {t e : TypeId} (hu : P.underlying t = some (.slice e)) (hp : 0 < P.cellsOf e) (ad : Option Addr) {len cap : Nat} {a b : Int} (h0 : 0 ≤ a) (h1 : a ≤ b) (h2 : b ≤ cap) {lo hi : Option Value}
    (hlo : (lo = none ∧ a = 0) ∨ ∃ k, lo = some (.int k a)) (hhi : (hi = none ∧ b = len) ∨ ∃ k, hi = some (.int k b)) (w : World) :
    (Instr.sliceAt t (.slice ad len cap) lo hi none).run P w = .ok (.slice (if cap = a.toNat then ad else ad.map (·.add (a.toNat * P.cellsOf e))) (b.toNat - a.toNat) (cap - a.toNat)) w := by
  have hb := run_sliceBounds (P := P) true h0 h1 h2 hlo hhi w
  simp only [Instr.sliceAt, Sem.run_bind, run_underlying hu, Result.andThen_ok, Instr.slice, hb, run_sizeOf hp, Sem.run_pure]

theorem slice_sound {t : TypeId} {x v : AV} {lo hi mx : Option AV} (h : (evSlice P t x lo hi mx).says v) {u : Value} (hx : Rep G x u) {ul uh um : Option Value}
    (hl : ∀ y, lo = some y → ∃ c, ul = some c ∧ Rep G y c) (hl' : lo = none → ul = none) (hh : ∀ y, hi = some y → ∃ c, uh = some c ∧ Rep G y c) (hh' : hi = none → uh = none)
    (hm : ∀ y, mx = some y → ∃ c, um = some c ∧ Rep G y c) (hm' : mx = none → um = none) (w : World) : ∃ c, (Instr.sliceAt t u ul uh um).run P w = .ok c w ∧ Rep G v c := by
  unfold evSlice at h
  split at h
  · -- s[:0:0]
    obtain ⟨cm, rfl, hcm⟩ := hm _ rfl
    cases hcm
    rename_i km
    have emp : lo = none → (∃ k, hi = some (AV.int k 0)) → (∃ e sz, sliceElem P t = some (e, sz)) → (∃ a n c, u = .slice (some a) n c) → ∃ c, (Instr.sliceAt t u ul uh (some (.int km 0))).run P w = .ok c w ∧ Rep G .emp c := by
      rintro e1 ⟨k, e2⟩ ⟨e, sz, hse⟩ ⟨a, n, c, rfl⟩
      obtain ⟨hu, hsz, hp⟩ := sliceElem_spec hse
      obtain rfl := hl' e1
      obtain ⟨ch, rfl, hch⟩ := hh _ e2
      cases hch
      refine ⟨.slice (some a) 0 0, ?_, .emp a⟩
      have hsz' : 0 < P.cellsOf e := by omega
      simp [Instr.sliceAt, run_underlying hu, Instr.slice, Instr.sliceBounds, Instr.sliceBound, asIntOf, run_sizeOf hsz']
    split at h
    all_goals first
      | exact h.elim
      | (obtain ⟨hne, rfl⟩ := says_need h
         refine emp rfl ⟨_, rfl⟩ ⟨_, _, by assumption⟩ ?_
         cases hx <;> first | exact absurd rfl hne | exact ⟨_, _, _, rfl⟩)
      | (have := says_val h; subst this
         refine emp rfl ⟨_, rfl⟩ ⟨_, _, by assumption⟩ ?_
         cases hx <;> exact ⟨_, _, _, rfl⟩)
      | (have := says_val h; subst this
         rename_i hse
         cases hx
         obtain ⟨hu, hsz, hp⟩ := sliceElem_spec hse
         obtain rfl := hl' rfl
         obtain ⟨ch, rfl, hch⟩ := hh _ rfl
         cases hch
         refine ⟨.slice none 0 0, ?_, .nils⟩
         have hsz' := hp
         rw [← hsz] at hsz'
         simp [Instr.sliceAt, run_underlying hu, Instr.slice, Instr.sliceBounds, Instr.sliceBound, asIntOf, run_sizeOf hsz'])
  · exact h.elim
  · obtain rfl := hm' rfl
    split at h
    · -- strings
      rename_i l hu
      split at h
      · rename_i a b ha hb
        obtain ⟨⟨h0, h1, h2⟩, rfl⟩ := says_need h
        cases hx; rename_i s hs
        have hsz := str_len hs
        have hlo : (ul = none ∧ a = 0) ∨ ∃ k, ul = some (.int k a) := by
          rcases bnd_rep ha hl hl' with ⟨_, e1, e2⟩ | ⟨k, e⟩
          · exact .inl ⟨e1, e2⟩
          · exact .inr ⟨k, e⟩
        have hhi : (uh = none ∧ b = s.size) ∨ ∃ k, uh = some (.int k b) := by
          rcases bnd_rep hb hh hh' with ⟨_, e1, e2⟩ | ⟨k, e⟩
          · exact .inl ⟨e1, by rw [hsz]; exact e2⟩
          · exact .inr ⟨k, e⟩
        have hb' := run_sliceBounds (P := P) false h0 h1 (show b ≤ (s.size : Int) by rw [hsz]; exact h2) hlo hhi w
        refine ⟨.string (s.extract a.toNat b.toNat), ?_, .str _ _ ?_⟩
        · simp only [Instr.sliceAt, Sem.run_bind, run_underlying hu, Result.andThen_ok, Instr.slice, Option.isSome_none, Bool.false_eq_true, if_false, hb', Sem.run_pure]
        · rw [← hs]
          simp [ByteArray.data_extract, Array.toList_extract, List.extract_eq_take_drop]
      · exact h.elim
    · -- ints
      rename_i e k l hu
      split at h
      · rename_i a b ha hb
        split at h
        · rename_i hsz
          obtain ⟨⟨h0, h1, h2⟩, rfl⟩ := says_need h
          have hlo : (ul = none ∧ a = 0) ∨ ∃ k, ul = some (.int k a) := by
            rcases bnd_rep ha hl hl' with ⟨_, e1, e2⟩ | ⟨k, e⟩
            · exact .inl ⟨e1, e2⟩
            · exact .inr ⟨k, e⟩
          have hhi : (uh = none ∧ b = (l.length : Nat)) ∨ ∃ k, uh = some (.int k b) := by
            rcases bnd_rep hb hh hh' with ⟨_, e1, e2⟩ | ⟨k, e⟩
            · exact .inl ⟨e1, e2⟩
            · exact .inr ⟨k, e⟩
          have hp : 0 < P.cellsOf e := by omega
          cases hx with
          | ints0 _ ad cap =>
            simp only [List.length_nil] at h2 hhi
            have ea : a = 0 := by simp at h2; omega
            have eb : b = 0 := by simp at h2; omega
            have hb' := run_sliceAt (P := P) hu hp ad (len := 0) (cap := cap) h0 h1 (by omega) hlo (by simpa using hhi) w
            subst ea; subst eb
            refine ⟨_, hb', ?_⟩
            · simp only [Int.toNat_zero, Nat.sub_self, List.take_zero]
              exact .ints0 k _ _
          | ints _ _ bb o cap hc hmm =>
            have hb' := run_sliceAt (P := P) hu hp (some ⟨bb, o, none⟩) (len := l.length) (cap := cap) h0 h1 (by omega) hlo hhi w
            refine ⟨_, hb', ?_⟩
            · have hlen : ((l.drop a.toNat).take (b.toNat - a.toNat)).length = b.toNat - a.toNat := by
                simp only [List.length_take, List.length_drop]; omega
              by_cases hz : b.toNat - a.toNat = 0
              · rw [hz, List.take_zero]
                exact .ints0 k _ _
              · rw [if_neg (by omega), hsz, Nat.mul_one]
                simp only [Option.map_some, add_lit]
                have key : Rep G (.ints k ((l.drop a.toNat).take (b.toNat - a.toNat))) (.slice (some ⟨bb, o + a.toNat, none⟩) ((l.drop a.toNat).take (b.toNat - a.toNat)).length (cap - a.toNat)) := by
                  refine .ints k _ bb _ _ (by omega) fun i y hy => ?_
                  rw [Nat.add_assoc]
                  refine hmm _ _ ?_
                  rw [List.getElem?_take] at hy
                  split at hy
                  · rwa [List.getElem?_drop] at hy
                  · cases hy
                rw [hlen] at key
                exact key
        · exact h.elim
      · exact h.elim
    · -- rows
      rename_i e sz l hu
      split at h
      · rename_i a b ha hb
        split at h
        · rename_i hsz
          obtain ⟨⟨h0, h1, h2⟩, rfl⟩ := says_need h
          have hlo : (ul = none ∧ a = 0) ∨ ∃ k, ul = some (.int k a) := by
            rcases bnd_rep ha hl hl' with ⟨_, e1, e2⟩ | ⟨k, e⟩
            · exact .inl ⟨e1, e2⟩
            · exact .inr ⟨k, e⟩
          have hhi : (uh = none ∧ b = (l.length : Nat)) ∨ ∃ k, uh = some (.int k b) := by
            rcases bnd_rep hb hh hh' with ⟨_, e1, e2⟩ | ⟨k, e⟩
            · exact .inl ⟨e1, e2⟩
            · exact .inr ⟨k, e⟩
          obtain ⟨hsz, hpos⟩ := hsz
          have hp : 0 < P.cellsOf e := by omega
          cases hx with
          | rows0 _ ad cap =>
            simp only [List.length_nil] at h2 hhi
            have ea : a = 0 := by simp at h2; omega
            have eb : b = 0 := by simp at h2; omega
            have hb' := run_sliceAt (P := P) hu hp ad (len := 0) (cap := cap) h0 h1 (by omega) hlo (by simpa using hhi) w
            subst ea; subst eb
            refine ⟨_, hb', ?_⟩
            · simp only [Int.toNat_zero, Nat.sub_self, List.take_zero]
              exact .rows0 sz _ _
          | rows _ _ bb o cap f hc hs hmm hrr =>
            have hb' := run_sliceAt (P := P) hu hp (some ⟨bb, o, none⟩) (len := l.length) (cap := cap) h0 h1 (by omega) hlo hhi w
            refine ⟨_, hb', ?_⟩
            · have hlen : ((l.drop a.toNat).take (b.toNat - a.toNat)).length = b.toNat - a.toNat := by
                simp only [List.length_take, List.length_drop]; omega
              by_cases hz : b.toNat - a.toNat = 0
              · rw [hz, List.take_zero]
                exact .rows0 sz _ _
              · rw [if_neg (by omega), hsz]
                simp only [Option.map_some, add_lit]
                have hfl : ∀ (i : Nat) y, ((l.drop a.toNat).take (b.toNat - a.toNat)).flatten[i]? = some y → l.flatten[a.toNat * sz + i]? = some y := by
                  intro i y hy
                  have e1 : (l.take a.toNat).flatten.length = a.toNat * sz := by
                    rw [List.length_flatten, show (l.take a.toNat).map List.length = List.replicate a.toNat sz from ?_, List.sum_replicate_nat]
                    apply List.ext_getElem?
                    intro j
                    simp only [List.getElem?_map, List.getElem?_take, List.getElem?_replicate]
                    split
                    · rename_i hj
                      have hjl : j < l.length := by omega
                      simp [hjl, hs _ (List.getElem_mem hjl)]
                    · rfl
                  have e2 : l.flatten = (l.take a.toNat).flatten ++ (((l.drop a.toNat).take (b.toNat - a.toNat)).flatten ++ ((l.drop a.toNat).drop (b.toNat - a.toNat)).flatten) := by
                    rw [← List.flatten_append, List.take_append_drop, ← List.flatten_append, List.take_append_drop]
                  rw [e2, List.getElem?_append_right (by omega), e1, Nat.add_sub_cancel_left]
                  rw [List.getElem?_append_left (List.getElem?_eq_some_iff.1 hy).1]
                  exact hy
                have key : Rep G (.rows sz ((l.drop a.toNat).take (b.toNat - a.toNat))) (.slice (some ⟨bb, o + a.toNat * sz, none⟩) ((l.drop a.toNat).take (b.toNat - a.toNat)).length (cap - a.toNat)) := by
                  refine .rows sz _ bb _ _ (fun i => f (a.toNat * sz + i)) (by omega) (fun r hr => hs r (List.mem_of_mem_drop (List.mem_of_mem_take hr))) (fun i y hy => ?_) (fun i y hy => hrr _ _ (hfl i y hy))
                  rw [Nat.add_assoc]
                  exact hmm _ _ (hfl i y hy)
                rw [hlen] at key
                exact key
        · exact h.elim
      · exact h.elim
    · -- a mutable one
      rename_i e id off len sz hu
      split at h
      · rename_i a b ha hb
        split at h
        · rename_i hsz
          obtain ⟨⟨h0, h1, h2, h3⟩, rfl⟩ := says_need h
          have hlo : (ul = none ∧ a = 0) ∨ ∃ k, ul = some (.int k a) := by
            rcases bnd_rep ha hl hl' with ⟨_, e1, e2⟩ | ⟨k, e⟩
            · exact .inl ⟨e1, e2⟩
            · exact .inr ⟨k, e⟩
          have hhi : (uh = none ∧ b = (len : Nat)) ∨ ∃ k, uh = some (.int k b) := by
            rcases bnd_rep hb hh hh' with ⟨_, e1, e2⟩ | ⟨k, e⟩
            · exact .inl ⟨e1, e2⟩
            · exact .inr ⟨k, e⟩
          obtain ⟨hsz, hpos⟩ := hsz
          have hp : 0 < P.cellsOf e := by omega
          cases hx with
          | mvec _ _ _ _ cap bb n ho hc hf =>
            have hb' := run_sliceAt (P := P) hu hp (some ⟨bb, off * sz, none⟩) (len := len) (cap := cap) h0 h1 (by omega) hlo hhi w
            refine ⟨_, hb', ?_⟩
            · rw [if_neg (by omega), hsz]
              simp only [Option.map_some, add_lit]
              rw [← Nat.add_mul]
              refine .mvec _ _ _ _ _ bb n ho (by omega) ?_
              have : off + a.toNat + (cap - a.toNat) = off + cap := by omega
              rw [this]; exact hf
        · exact h.elim
      · exact h.elim
    · exact h.elim

end Go.Pa

/-! Literals; all operations that look at temporaries alone, in one theorem. -/
namespace Go.Pa
set_option linter.unusedSectionVars false
variable [GTab]
variable {P : Program} {G : Gh}

inductive RepP (G : Gh) : List (Nat × AV) → List (Nat × Value) → Prop
  | nil : RepP G [] []
  | cons {i : Nat} {x : AV} {v : Value} {ps : List (Nat × AV)} {qs : List (Nat × Value)} : Rep G x v → RepP G ps qs → RepP G ((i, x) :: ps) ((i, v) :: qs)

theorem fold_set (o : Nat) : ∀ (l : List Value) (k : Nat) (cells : Array Value), o + k + l.length ≤ cells.size →
    ((l.zipIdx k).foldl (fun cs (p : Value × Nat) => cs.setIfInBounds (o + p.2) p.1) cells).toList = cells.toList.take (o + k) ++ l ++ cells.toList.drop (o + k + l.length)
  | [], k, cells, _ => by simp
  | v :: l, k, cells, h => by
    simp only [List.zipIdx_cons, List.foldl_cons]
    rw [fold_set o l (k + 1) _ (by simp at h ⊢; omega)]
    simp only [Array.toList_setIfInBounds]
    have := list_seg_step cells.toList (o + k) v l (by simp at h ⊢; omega)
    simpa [Nat.add_assoc] using this

theorem fold_set_array (o : Nat) (vs cells : Array Value) (h : o + vs.size ≤ cells.size) :
    (vs.zipIdx.foldl (fun cs (p : Value × Nat) => cs.setIfInBounds (o + p.2) p.1) cells).toList = cells.toList.take o ++ vs.toList ++ cells.toList.drop (o + vs.size) := by
  have h1 := fold_set o vs.toList 0 cells (by simpa using h)
  rw [← Array.foldl_toList]
  simpa using h1

theorem fill_sound (pl : List (Nat × Nat)) (place : Nat → Option (Nat × Nat)) (hp : ∀ i, place i = pl[i]?) : ∀ {ps : List (Nat × AV)} {qs : List (Nat × Value)} {cs r : List AV} {us : Array Value},
    RepP G ps qs → fillA pl cs ps = some r → RepL G cs us.toList → ∃ us', Instr.fill place us qs = some us' ∧ RepL G r us'.toList := by
  intro ps qs cs r us hps
  induction hps generalizing cs us with
  | nil => intro h hl; simp only [fillA, Option.some.injEq] at h; subst h; exact ⟨us, rfl, hl⟩
  | @cons i x v ps qs hr _ ih =>
    intro h hl
    simp only [fillA] at h
    split at h
    · rename_i o sz xs h1 h2
      split at h
      · rename_i hc
        obtain ⟨hlen, hfit⟩ := hc
        obtain ⟨hv, _⟩ := cellsOf_rep hr h2
        have hvl : v.cells.size = sz := by have := hv.length; simp at this; omega
        have hus : us.size = cs.length := by have := hl.length; simp at this; omega
        have hnew : RepL G (splice cs o xs) ((v.cells.zipIdx.foldl (fun cs (p : Value × Nat) => cs.setIfInBounds (o + p.2) p.1) us)).toList := by
          rw [fold_set_array o v.cells us (by omega)]
          unfold splice
          have : xs.length = v.cells.size := by omega
          rw [this]
          exact ((hl.take o).append hv).append (hl.drop _)
        obtain ⟨us', hu, hrr⟩ := ih h hnew
        refine ⟨us', ?_, hrr⟩
        simp only [Instr.fill, hp, h1]
        rw [if_neg]
        · exact hu
        · simp only [ne_eq, Bool.or_eq_true, decide_eq_true_eq]; omega
      · cases h
    · cases h

theorem fill_more (p q : Nat → Option (Nat × Nat)) (h : ∀ i x, p i = some x → q i = some x) : ∀ (qs : List (Nat × Value)) (us r : Array Value), Instr.fill p us qs = some r → Instr.fill q us qs = some r
  | [], us, r, hr => hr
  | (i, v) :: qs, us, r, hr => by
    simp only [Instr.fill] at hr ⊢
    cases hp : p i with
    | none => simp [hp] at hr
    | some x =>
      simp only [hp, h i x hp] at hr ⊢
      split at hr
      · cases hr
      · rename_i hc
        rw [if_neg hc]
        exact fill_more p q h qs _ r hr

theorem info_of_cells {t : TypeId} (h : 0 < P.cellsOf t) : ∃ i, P.info? t = some i ∧ i.size = P.cellsOf t := by
  unfold Program.cellsOf at *
  cases hi : P.info? t with
  | none => simp [hi] at h
  | some i => exact ⟨i, rfl, by simp⟩

theorem places_struct : ∀ (fs : List Field), (∀ p ∈ fs.map (fun f => (f.offset, P.cellsOf f.type)), 0 < p.2) →
    fs.mapM (fun f => (P.info? f.type).map fun i => (f.offset, i.size)) = some (fs.map fun f => (f.offset, P.cellsOf f.type))
  | [], _ => rfl
  | f :: fs, h => by
    obtain ⟨i, hi, hs⟩ := info_of_cells (P := P) (t := f.type) (h (f.offset, P.cellsOf f.type) (by simp))
    have ih := places_struct fs fun p hp => h p (by simp at hp ⊢; exact .inr hp)
    simp [List.mapM_cons, hi, ih, hs]

theorem build_sound {t : TypeId} {ps : List (Nat × AV)} {v : AV} (h : (evBuild P t ps).says v) {qs : Array (Nat × Value)} (hq : RepP G ps qs.toList) (w : World) :
    ∃ c, (Instr.build t qs).run P w = .ok c w ∧ Rep G v c := by
  unfold evBuild at h
  split at h
  · rename_i pl z hpl hz
    split at h
    · rename_i hpos
      split at h
      · rename_i cs hcs
        have := says_val h; subst this
        unfold zeroA at hz
        split at hz
        · rename_i it hit
          split at hz
          · rename_i zv hzv
            cases hz
            have hz0 : RepL G (zv.cells.toList.map ofCell) zv.cells.toList := by
              generalize zv.cells.toList = l
              induction l with
              | nil => exact .nil
              | cons a l ih => exact .cons (rep_ofCell G a) ih
            have hpos' : ∀ p ∈ pl, 0 < p.2 := fun p hp => by have := List.all_eq_true.1 hpos p hp; simpa using this
            unfold placesA at hpl
            split at hpl
            · rename_i fs hu
              cases hpl
              obtain ⟨us', hf, hr⟩ := fill_sound (G := G) _ (fun i => (fs.toList.map fun f => (f.offset, P.cellsOf f.type)).toArray[i]?) (fun i => by simp) hq hcs hz0
              refine ⟨.agg us', run_build w t qs us' ?_, Rep.agg_of hr⟩
              unfold Program.built
              simp only [hit, hu, hzv, places_struct fs.toList hpos']
              exact hf
            · rename_i n e hu
              split at hpl
              · cases hpl
              · rename_i he
                cases hpl
                obtain ⟨ie, hie, hsz⟩ := info_of_cells (P := P) (t := e) (by omega)
                have hpl' : ∀ i, (fun i => if i < n then some (i * ie.size, ie.size) else none) i = ((List.range n).map fun i => (i * P.cellsOf e, P.cellsOf e))[i]? := by
                  intro i
                  simp only [hsz, List.getElem?_map]
                  split
                  · rename_i hi; simp [hi]
                  · rename_i hi; simp [hi]
                obtain ⟨us', hf, hr⟩ := fill_sound (G := G) _ _ hpl' hq hcs hz0
                refine ⟨.agg us', run_build w t qs us' ?_, Rep.agg_of hr⟩
                unfold Program.built
                simp only [hit, hu, hzv, hie]
                exact fill_more _ _ (fun i p hp => by split at hp <;> first | exact hp | cases hp) _ _ _ hf
            · cases hpl
          · cases hz
        · cases hz
      · exact h.elim
    · exact h.elim
  · exact h.elim

/-! ### Slice literals -/

theorem drop_app {α : Type} (A B : List α) (m n : Nat) (h : A.length = m) : (A ++ B).drop (m + n) = B.drop n := by
  subst h
  induction A with
  | nil => simp
  | cons a A ih => simp [Nat.succ_add, ih]

theorem partsOne_sound {sz : Nat} (hsz : 0 < sz) : ∀ {ps : List (Nat × AV)} {qs : List (Nat × Value)} {rs : List (List AV)} {k : Nat}, RepP G ps qs → partsOne sz ps k = some rs →
    ∀ (cells : Array Value), (k + ps.length) * sz ≤ cells.size →
    (∀ r ∈ rs, r.length = sz) ∧ rs.length = ps.length ∧ ∃ us vs, Instr.fill (fun i => some (i * sz, sz)) cells qs = some us ∧ RepL G rs.flatten vs ∧ (∀ c ∈ vs, c.oneCell' = true) ∧
      us.toList = cells.toList.take (k * sz) ++ vs ++ cells.toList.drop (k * sz + vs.length) := by
  intro ps qs rs k hps
  induction hps generalizing rs k with
  | nil => intro h cells _; simp only [partsOne, Option.some.injEq] at h; subst h; exact ⟨by simp, rfl, cells, [], rfl, .nil, by simp, by simp⟩
  | @cons i x v ps qs hr _ ih =>
    intro h cells hc
    simp only [partsOne] at h
    split at h
    · rename_i hk; subst hk
      split at h
      · rename_i cs rest h1 h2
        split at h
        · rename_i hlen
          cases h
          obtain ⟨hv, hone⟩ := cellsOf_rep hr h1
          have hvl : v.cells.size = sz := by have := hv.length; simp at this; omega
          have hfit : i * sz + v.cells.size ≤ cells.size := by
            simp only [List.length_cons] at hc
            have : (i + (ps.length + 1)) * sz = i * sz + sz + ps.length * sz := by rw [Nat.add_mul, Nat.add_mul]; omega
            omega
          have hset := fold_set_array (i * sz) v.cells cells hfit
          have hsize : (v.cells.zipIdx.foldl (fun cs (p : Value × Nat) => cs.setIfInBounds (i * sz + p.2) p.1) cells).size = cells.size := by
            rw [← Array.length_toList, hset]
            simp only [List.length_append, List.length_take, List.length_drop, Array.length_toList]
            omega
          obtain ⟨ha, hb, us, vs, hf, hrl, hone', htl⟩ := ih h2 (v.cells.zipIdx.foldl (fun cs (p : Value × Nat) => cs.setIfInBounds (i * sz + p.2) p.1) cells) (by
            rw [hsize]; simp only [List.length_cons] at hc; rw [show i + 1 + ps.length = i + (ps.length + 1) by omega]; exact hc)
          refine ⟨fun r hr => ?_, by simp [hb], us, v.cells.toList ++ vs, ?_, ?_, fun c hcm => ?_, ?_⟩
          · rcases List.mem_cons.1 hr with rfl | hr
            · exact hlen
            · exact ha r hr
          · simp only [Instr.fill]
            rw [if_neg]
            · exact hf
            · simp only [ne_eq, Bool.or_eq_true, decide_eq_true_eq]; omega
          · rw [List.flatten_cons]; exact hv.append hrl
          · rcases List.mem_append.1 hcm with hcm | hcm
            · exact hone c hcm
            · exact hone' c hcm
          · have hA : (cells.toList.take (i * sz) ++ v.cells.toList).length = (i + 1) * sz := by
              rw [List.length_append, List.length_take, Array.length_toList, Array.length_toList, hvl, Nat.succ_mul]; omega
            rw [htl, hset, List.take_left' hA, drop_app _ _ _ _ hA, List.drop_drop]
            simp only [List.append_assoc, List.length_append, Array.length_toList, hvl]
            congr 4
            omega
        · cases h
      · cases h
    · cases h

theorem intsOf_spec (k : IntKind) : ∀ (rs : List (List AV)) (l : List Int), intsOf k rs = some l → rs = l.map fun n => [AV.int k n]
  | [], l, h => by simp only [intsOf, Option.some.injEq] at h; subst h; rfl
  | r :: rs, l, h => by
    unfold intsOf at h
    split at h
    · cases h; rename_i h0; cases h0
    · rename_i k' n r' h0
      cases h0
      split at h
      · rename_i hk; subst hk
        split at h
        · rename_i l' hl'
          cases h
          rw [intsOf_spec k rs l' hl']; rfl
        · cases h
      · cases h
    · cases h

theorem rep_rowsAV {sz : Nat} {rs : List (List AV)} {b o cap : Nat} {vs : List Value} (hc : rs.length ≤ cap) (hs : ∀ r ∈ rs, r.length = sz) (hl : RepL G rs.flatten vs)
    (hi : ∀ (i : Nat) c, vs[i]? = some c → G.imm b (o + i) = some c) : Rep G (rowsAV sz rs) (.slice (some ⟨b, o, none⟩) rs.length cap) := by
  have gen : Rep G (.rows sz rs) (.slice (some ⟨b, o, none⟩) rs.length cap) :=
    .rows sz rs b o cap (fun i => vs.getD i (.bool false)) hc hs (fun i x hx => hi i _ (hl.fn i x hx).1) (fun i x hx => (hl.fn i x hx).2)
  unfold rowsAV
  split
  · rename_i k n rs'
    split
    · rename_i l hl'
      have e := intsOf_spec k _ l hl'
      rw [e] at hl hc ⊢
      have hfl : ∀ l : List Int, (l.map fun n => [AV.int k n]).flatten = l.map (AV.int k) := by
        intro l
        induction l with
        | nil => rfl
        | cons a l ih => simp [ih]
      rw [hfl] at hl
      have hll : (l.map fun n => [AV.int k n]).length = l.length := by simp
      rw [hll] at hc ⊢
      refine .ints k l b o cap hc fun i x hx => ?_
      obtain ⟨v, hv, hr⟩ := hl.get i (.int k x) (by simp [hx])
      cases hr
      exact hi i _ hv
    · exact gen
  · exact gen

theorem buildSlice_sound {t : TypeId} {len : Nat} {ps : List (Nat × AV)} {v : AV} (h : (evBuildSlice P t len ps).says v) {qs : Array (Nat × Value)} (hq : RepP G ps qs.toList) {σ : Store} {w : World} (hw : WRel G σ w) :
    ∃ c w' G', (Instr.buildSlice t len qs).run P w = .ok c w' ∧ G.le G' ∧ WRel G' σ w' ∧ Rep G' v c := by
  unfold evBuildSlice at h
  split at h
  · rename_i e sz hse
    obtain ⟨hu, hsz, hpos⟩ := sliceElem_spec hse
    obtain ⟨_, _, _, it, zv, hit, hzv, _, hcs, _⟩ := sliceElem_zero hse
    have hzr : (zeroValue e).run P w = .ok zv w := by simp [zeroValue, typeInfo, hit, hzv]
    have hps : 0 < P.cellsOf e := by omega
    have hpq : ps.length = qs.size := by
      have : ∀ {ps : List (Nat × AV)} {qs : List (Nat × Value)}, RepP G ps qs → ps.length = qs.length := by
        intro ps qs h; induction h with
        | nil => rfl
        | cons _ _ ih => simp [ih]
      simpa using this hq
    have go : ∀ (cells : Array Value) (us : Array Value) (vs : List Value), Instr.fill (fun i => some (i * sz, sz)) cells qs.toList = some us → cells = (Array.range (len * sz)).map (fun i => zv.cells[i % zv.cells.size]!) → len * sz ≤ 16777216 → (0 < len * sz) →
        (Instr.buildSlice t len qs).run P w = .ok (.slice (some ⟨w.heap.size, 0, none⟩) len len) (w.alloc (.cells us e)) := by
      intro cells us vs hf hc hle hpos2
      have h1 : ¬ (len * sz > 2 ^ 24) := by omega
      have h2 : ¬ (len * sz = 0) := by omega
      subst hc
      simp only [Instr.buildSlice, Sem.run_bind, run_underlying hu, Result.andThen_ok, run_sizeOf hps, hsz, h1, if_false, Sem.run_pure, Sem.run_ite, h2, hzr]
      rw [hf]
      simp [newRow]
    split at h
    · rename_i hl0; subst hl0
      split at h
      · rename_i hp0
        have := says_val h; subst this
        have hq0 : qs = #[] := by
          have : qs.size = 0 := by omega
          exact Array.eq_empty_of_size_eq_zero this
        subst hq0
        refine ⟨.slice (some ⟨w.heap.size, 0, none⟩) 0 0, w.alloc (.cells #[] e), _, ?_, Gh.le_learn hw [], hw.learn w rfl rfl rfl rfl (by simp) (by simp), .emp _⟩
        have hr0 : ∀ f : Nat → Value, (Array.range 0).map f = #[] := fun f => by simp [Array.range]
        simp [Instr.buildSlice, run_underlying hu, run_sizeOf hps, Instr.fill, newRow, hr0]
      · exact h.elim
    · rename_i hl0
      split at h
      · rename_i hc
        obtain ⟨hlen, hle⟩ := hc
        split at h
        · rename_i rs hrs
          have := says_val h; subst this
          have hp2 : 0 < len * sz := Nat.mul_pos (by omega) hpos
          obtain ⟨ha, hb, us, vs, hf, hrl, hone, htl⟩ := partsOne_sound hpos hq hrs ((Array.range (len * sz)).map (fun i => zv.cells[i % zv.cells.size]!)) (by simp [hlen])
          have hrun := go _ us vs hf rfl hle hp2
          have hvl : vs.length = len * sz := by
            rw [← hrl.length, List.length_flatten]
            have : rs.map List.length = List.replicate len sz := by
              rw [← hlen, ← hb]
              apply List.ext_getElem?
              intro j
              simp only [List.getElem?_map, List.getElem?_replicate]
              split
              · rename_i hj; simp [hj, ha _ (List.getElem_mem hj)]
              · rename_i hj; simp [Nat.not_lt.1 hj]
            rw [this, List.sum_replicate_nat]
          have hus : us.toList = vs := by
            rw [htl]
            simp only [Nat.zero_mul, List.take_zero, List.nil_append, Nat.zero_add]
            rw [List.drop_of_length_le (by simp; omega), List.append_nil]
          refine ⟨_, _, _, hrun, Gh.le_learn hw vs, hw.learn w rfl rfl rfl rfl (fun i c hc => ?_) hone, ?_⟩
          · rw [← hus] at hc; simpa using hc
          · have hlen' : rs.length = len := by omega
            rw [← hlen']
            exact rep_rowsAV (G := G.learn w.heap.size vs) (Nat.le_refl _) ha (hrl.mono (Gh.le_learn hw vs)) fun i c hc => by simp [Gh.learn, hc]
        · exact h.elim
      · exact h.elim
  · exact h.elim

/-! ### All of them -/

theorem RepL.one {x : AV} {vs : List Value} (h : RepL G [x] vs) : ∃ v, vs = [v] ∧ Rep G x v := by
  cases h with
  | cons h1 h2 => cases h2; exact ⟨_, rfl, h1⟩
theorem RepL.two {x y : AV} {vs : List Value} (h : RepL G [x, y] vs) : ∃ u v, vs = [u, v] ∧ Rep G x u ∧ Rep G y v := by
  cases h with
  | cons h1 h2 => cases h2 with
    | cons h3 h4 => cases h4; exact ⟨_, _, rfl, h1, h3⟩

theorem builtin_sound {b : Builtin} {ts : Array TypeId} {xs : List AV} {v : AV} (h : (evBuiltin P b ts.toList xs).says v) {us : Array Value} (hx : RepL G xs us.toList) (ty : TypeId) (cs : Array Bool) (w : World) :
    ∃ c, (builtin b ts ty cs us).run P w = .ok (.value c) w ∧ Rep G v c := by
  have arr : ∀ {α : Type} {x : Array α} {l : List α}, x.toList = l → x = l.toArray := fun h => by rw [← h]
  unfold evBuiltin at h
  split at h
  · rename_i t x ht
    obtain ⟨u, hu, h1⟩ := RepL.one hx
    obtain rfl := arr hu
    obtain rfl := arr ht
    obtain ⟨c, hc, hr⟩ := len_sound h h1 #[t] ty (by simp) w
    exact ⟨c, by simp only [builtin, Sem.run_bind, hc, Result.andThen_ok, Sem.run_pure], hr⟩
  · rename_i t1 t2 x y ht
    obtain ⟨u1, u2, hu, h1, h3⟩ := RepL.two hx
    obtain rfl := arr hu
    obtain ⟨c, hc, hr⟩ := min_sound (P := P) h h1 h3 ts ty w
    exact ⟨c, by simp only [builtin, Sem.run_bind, hc, Result.andThen_ok, Sem.run_pure], hr⟩
  · rename_i t1 t2 x y ht
    obtain ⟨u1, u2, hu, h1, h3⟩ := RepL.two hx
    obtain rfl := arr hu
    obtain ⟨c, hc, hr⟩ := max_sound (P := P) h h1 h3 ts ty w
    exact ⟨c, by simp only [builtin, Sem.run_bind, hc, Result.andThen_ok, Sem.run_pure], hr⟩
  · exact h.elim

theorem repL_evO {N : Nat} {env : Env} {a : Act} (h : ERel G N env a) : ∀ (xs : List Operand), RepL G (xs.map (evO env)) (xs.map a.eval)
  | [] => .nil
  | x :: xs => .cons (rep_evO h x) (repL_evO h xs)

theorem repP_evO {N : Nat} {env : Env} {a : Act} (h : ERel G N env a) : ∀ (xs : List (Nat × Operand)), RepP G (xs.map fun p => (p.1, evO env p.2)) (xs.map fun p => (p.1, a.eval p.2))
  | [] => .nil
  | x :: xs => .cons (rep_evO h x.2) (repP_evO h xs)

theorem opt_evO {N : Nat} {env : Env} {a : Act} (h : ERel G N env a) (x : Option Operand) : (∀ y, x.map (evO env) = some y → ∃ c, x.map a.eval = some c ∧ Rep G y c) ∧ (x.map (evO env) = none → x.map a.eval = none) := by
  cases x with
  | none => exact ⟨by simp, by simp⟩
  | some x => exact ⟨fun y hy => by simp at hy; subst hy; exact ⟨_, rfl, rep_evO h x⟩, by simp⟩

/-- Every operation that looks at temporaries alone. -/
theorem evA_sound {P : Program} {N : Nat} {env : Env} {o : Oper} {v : AV} (h : (evA P env o.op).says v) : PureJ P N o env v := by
  have still : ∀ {s : Act → Sem Value}, (∀ a, execOp a.eval o = (do pure (.value (← s a)) : Sem Next)) → (∀ G σ a w, ERel G N env a → WRel G σ w → ∃ c, (s a).run P w = .ok c w ∧ Rep G v c) → PureJ P N o env v := by
    intro s hs hh
    refine PureJ.of_still fun G σ a w he hw => ?_
    obtain ⟨c, hc, hr⟩ := hh G σ a w he hw
    exact ⟨c, by rw [hs]; simp [hc], hr⟩
  obtain ⟨dst, op, ty, pos, after, guard⟩ := o
  simp only at h
  unfold evA at h
  split at h
  · rename_i x; have := says_val h; subst this
    exact PureJ.of_still fun G σ a w he hw => ⟨a.eval x, rfl, rep_evO he x⟩
  · rename_i x; have := says_val h; subst this
    exact PureJ.of_still fun G σ a w he hw => ⟨a.eval x, rfl, rep_evO he x⟩
  · rename_i c x y
    refine PureJ.of_still fun G σ a w he hw => ?_
    obtain ⟨b, hb, hr⟩ := pick_sound (P := P) h (rep_evO he c) (rep_evO he x) (rep_evO he y) w
    exact ⟨_, by simp only [execOp, Sem.run_bind, hb, Result.andThen_ok, Sem.run_pure], hr⟩
  · rename_i x
    refine PureJ.of_still fun G σ a w he hw => ?_
    obtain ⟨rfl, hs⟩ := nilCheck_sound h (rep_evO he x)
    rcases hs with ⟨ad, hu⟩ | ⟨f, gs, hs, hu⟩
    · exact ⟨a.eval x, by simp only [execOp, hu]; rfl, rep_evO he x⟩
    · exact ⟨a.eval x, by simp only [execOp, hu]; rfl, rep_evO he x⟩
  · rename_i bop t x y yt
    exact still (s := fun a => do eqGuard bop t x y (a.eval x) (a.eval y); binOp bop t (a.eval x) (a.eval y)) (fun a => rfl) fun G σ a w he hw => bin_sound h (rep_evO he x) (rep_evO he y) x y w
  · rename_i uop t x
    exact still (s := fun a => Op.unary uop (a.eval x)) (fun a => rfl) fun G σ a w he hw => un_sound h (rep_evO he x) w
  · rename_i s d x
    intro G σ a w he hw
    obtain ⟨c, w', G', hc, h1, h2, h3⟩ := conv_sound h (rep_evO he x) hw
    exact ⟨c, w', G', by simp only [execOp, Sem.run_bind, hc, Result.andThen_ok, Sem.run_pure], h1, h2, h3⟩
  · rename_i t x f
    exact still (s := fun a => Instr.field t (a.eval x) f) (fun a => rfl) fun G σ a w he hw => field_sound h (rep_evO he x) w
  · rename_i t x f
    exact still (s := fun a => Instr.fieldAt t (a.eval x) f) (fun a => rfl) fun G σ a w he hw => fieldAddr_sound h (rep_evO he x) w
  · rename_i t x i
    exact still (s := fun a => Instr.indexAt t (a.eval x) (a.eval i)) (fun a => rfl) fun G σ a w he hw => indexAddr_sound h (rep_evO he x) (rep_evO he i) w
  · rename_i t x i
    exact still (s := fun a => Instr.index t (a.eval x) (a.eval i)) (fun a => rfl) fun G σ a w he hw => index_sound h (rep_evO he x) (rep_evO he i) w
  · rename_i t x lo hi mx
    exact still (s := fun a => Instr.sliceAt t (a.eval x) (lo.map a.eval) (hi.map a.eval) (mx.map a.eval)) (fun a => rfl) fun G σ a w he hw =>
      slice_sound h (rep_evO he x) (opt_evO he lo).1 (opt_evO he lo).2 (opt_evO he hi).1 (opt_evO he hi).2 (opt_evO he mx).1 (opt_evO he mx).2 w
  · rename_i x i
    exact still (s := fun a => Instr.extract (a.eval x) i) (fun a => rfl) fun G σ a w he hw => extract_sound h (rep_evO he x) w
  · rename_i t x
    exact still (s := fun a => Instr.loadAt t (a.eval x)) (fun a => rfl) fun G σ a w he hw => loadI_sound h (rep_evO he x) hw
  · rename_i f fs cs
    have := says_val h; subst this
    refine PureJ.of_still fun G σ a w he hw => ⟨.func (.func f) (fs.map a.eval) (cs.map a.eval), rfl, Rep.fn_of ?_ ?_⟩
    · simpa using repL_evO he fs.toList
    · simpa using repL_evO he cs.toList
  · rename_i t ps
    exact still (s := fun a => Instr.build t (ps.map fun (i, x) => (i, a.eval x))) (fun a => rfl) fun G σ a w he hw => build_sound h (by simpa using repP_evO he ps.toList) w
  · rename_i t n ps
    intro G σ a w he hw
    obtain ⟨c, w', G', hc, h1, h2, h3⟩ := buildSlice_sound (qs := ps.map fun (i, x) => (i, a.eval x)) h (by simpa using repP_evO he ps.toList) hw
    exact ⟨c, w', G', by simp only [execOp, Sem.run_bind, hc, Result.andThen_ok, Sem.run_pure], h1, h2, h3⟩
  · rename_i b xs ts
    refine PureJ.of_still fun G σ a w he hw => ?_
    obtain ⟨c, hc, hr⟩ := builtin_sound (us := xs.map a.eval) h (by simpa using repL_evO he xs.toList) ty (xs.map fun | .const _ => true | _ => false) w
    exact ⟨c, by simp only [execOp, resolve, Sem.run_bind, Sem.run_pure, Result.andThen_ok, invoke]; exact hc, hr⟩
  · exact h.elim

end Go.Pa

/-! The store: objects are made, read, written; soundness. -/
namespace Go.Pa
set_option linter.unusedSectionVars false
variable [GTab]
variable {P : Program} {G : Gh}

/-- The ghost learns of a new object. -/
def Gh.add (G : Gh) (b n : Nat) : Gh := { G with obj := G.obj ++ [(b, n)] }

theorem Gh.le_add (G : Gh) (b n : Nat) : G.le (G.add b n) :=
  ⟨rfl, rfl, fun _ _ _ h => h, fun i x h => by
    have hlt : i < G.obj.length := (List.getElem?_eq_some_iff.1 h).1
    simp only [Gh.add]; rw [List.getElem?_append_left hlt]; exact h, rfl, fun _ _ h => h⟩

/-- The cells of an object: what they are in memory. -/
theorem ObjRel.get {w : World} {id : Nat} {ob : AObj} (h : ObjRel G w id ob) {cs : List AV} (hc : ob.cells = some cs) : ∃ b n arr ty, G.obj[id]? = some (b, n) ∧ w.heap[b]? = some (.cells arr ty (0, 0)) ∧ arr.size = n ∧
    cs.length ≤ n ∧ G.base ≤ b ∧ (∀ o, G.imm b o = none) ∧ RepL G cs (arr.toList.take cs.length) ∧ (∀ c ∈ arr.toList, c.oneCell' = true) := by
  have main : (∃ b n arr ty, ∃ cs : List AV, ob.cells = some cs ∧ G.obj[id]? = some (b, n) ∧ w.heap[b]? = some (.cells arr ty (0, 0)) ∧ arr.size = n ∧ cs.length ≤ n ∧ G.base ≤ b ∧
      (∀ o, G.imm b o = none) ∧ (∀ (i : Nat) (x : AV), cs[i]? = some x → ∃ c, arr[i]? = some c ∧ Rep G x c) ∧ (∀ c ∈ arr.toList, c.oneCell' = true)) →
      ∃ b n arr ty, G.obj[id]? = some (b, n) ∧ w.heap[b]? = some (.cells arr ty (0, 0)) ∧ arr.size = n ∧ cs.length ≤ n ∧ G.base ≤ b ∧ (∀ o, G.imm b o = none) ∧ RepL G cs (arr.toList.take cs.length) ∧ (∀ c ∈ arr.toList, c.oneCell' = true) := by
    rintro ⟨b, n, arr, ty, cs', h1, h2, h3, h4, h5, h6, h7, h8, h9⟩
    rw [hc] at h1; cases h1
    refine ⟨b, n, arr, ty, h2, h3, h4, h5, h6, h7, RepL.of_get (by simp; omega) fun i x hx => ?_, h9⟩
    obtain ⟨c, hc', hr⟩ := h8 i x hx
    have hi : i < cs.length := (List.getElem?_eq_some_iff.1 hx).1
    exact ⟨c, by rw [List.getElem?_take, if_pos hi]; simpa using hc', hr⟩
  cases ob with
  | dead => cases hc
  | mp kv => cases hc
  | box cs' => exact main h
  | vecI k l => exact main h
  | vecR sz rs => exact main h

theorem objRel_mk {w : World} {id : Nat} {ob : AObj} {cs : List AV} (hc : ob.cells = some cs) {b n : Nat} {arr : Array Value} {ty : TypeId} (h2 : G.obj[id]? = some (b, n)) (h3 : w.heap[b]? = some (.cells arr ty (0, 0)))
    (h4 : arr.size = n) (h6 : G.base ≤ b) (h7 : ∀ o, G.imm b o = none) (vs : List Value) (h8 : RepL G cs vs) (hv : ∀ (i : Nat) c, vs[i]? = some c → arr[i]? = some c) (h9 : ∀ c ∈ arr.toList, c.oneCell' = true) : ObjRel G w id ob := by
  have h5 : cs.length ≤ n := by
    rcases Nat.lt_or_ge n cs.length with h | h
    · exfalso
      have hlt : n < vs.length := by rw [← h8.length]; exact h
      have := hv n _ (List.getElem?_eq_getElem hlt)
      rw [Array.getElem?_eq_none (by omega)] at this
      cases this
    · exact h
  have main : ∃ b n arr ty, ∃ cs : List AV, ob.cells = some cs ∧ G.obj[id]? = some (b, n) ∧ w.heap[b]? = some (.cells arr ty (0, 0)) ∧ arr.size = n ∧ cs.length ≤ n ∧ G.base ≤ b ∧
      (∀ o, G.imm b o = none) ∧ (∀ (i : Nat) (x : AV), cs[i]? = some x → ∃ c, arr[i]? = some c ∧ Rep G x c) ∧ (∀ c ∈ arr.toList, c.oneCell' = true) :=
    ⟨b, n, arr, ty, cs, hc, h2, h3, h4, h5, h6, h7, fun i x hx => let ⟨c, hcc, hr⟩ := h8.get i x hx; ⟨c, hv i c hcc, hr⟩, h9⟩
  cases ob with
  | dead => cases hc
  | mp kv => cases hc
  | box cs' => exact main
  | vecI k l => exact main
  | vecR sz rs => exact main

/-- The new block of a world that is 'w' but for draws. -/
theorem WRel.push {σ : Store} {w w1 : World} (hw : WRel G σ w) (e1 : w1.heap = w.heap) (e2 : w1.os = w.os) (e3 : w1.tape = w.tape) (e4 : w1.output = w.output)
    {arr : Array Value} {ty : TypeId} {ob : AObj} {cs : List AV} (hc : ob.cells = some cs) (vs : List Value) (hl : RepL G cs vs) (hv : ∀ (i : Nat) c, vs[i]? = some c → arr[i]? = some c) (h9 : ∀ c ∈ arr.toList, c.oneCell' = true) :
    WRel (G.add w.heap.size arr.size) (σ ++ [ob]) (w1.alloc (.cells arr ty)) := by
  have hg := Gh.le_add G w.heap.size arr.size
  have hnew : (w1.alloc (.cells arr ty)).heap[w.heap.size]? = some (.cells arr ty (0, 0)) := by
    show (w1.heap.push _)[w.heap.size]? = _
    rw [e1]; simp
  have hold : ∀ b, b < w.heap.size → (w1.alloc (.cells arr ty)).heap[b]? = w.heap[b]? := fun b hb => by
    show (w1.heap.push _)[b]? = _
    rw [e1, Array.getElem?_push, if_neg (Nat.ne_of_lt hb)]
  have himm : ∀ b o c, G.imm b o = some c → b < w.heap.size := fun b o c h => World.block_lt_of_cell? w _ (hw.imm b o c h).1
  have hlast : ∀ i x, (G.obj ++ [(w.heap.size, arr.size)])[i]? = some x → (i < G.obj.length ∧ G.obj[i]? = some x) ∨ (i = G.obj.length ∧ x = (w.heap.size, arr.size)) := by
    intro i x h
    rcases Nat.lt_or_ge i G.obj.length with hi | hi
    · rw [List.getElem?_append_left hi] at h; exact .inl ⟨hi, h⟩
    · rw [List.getElem?_append_right hi] at h
      have : i - G.obj.length = 0 := by
        rcases Nat.eq_zero_or_pos (i - G.obj.length) with h0 | h0
        · exact h0
        · rw [List.getElem?_eq_none (by simp; omega)] at h; cases h
      rw [this] at h; simp at h
      exact .inr ⟨by omega, h.symm⟩
  have slast : ∀ i x, (σ ++ [ob])[i]? = some x → (i < σ.length ∧ σ[i]? = some x) ∨ (i = σ.length ∧ x = ob) := by
    intro i x h
    rcases Nat.lt_or_ge i σ.length with hi | hi
    · rw [List.getElem?_append_left hi] at h; exact .inl ⟨hi, h⟩
    · rw [List.getElem?_append_right hi] at h
      have : i - σ.length = 0 := by
        rcases Nat.eq_zero_or_pos (i - σ.length) with h0 | h0
        · exact h0
        · rw [List.getElem?_eq_none (by simp; omega)] at h; cases h
      rw [this] at h; simp at h
      exact .inr ⟨by omega, h.symm⟩
  refine ⟨by simp [Gh.add, hw.len], fun b o c h => ?_, fun id x hx => ?_, fun i j oi oj bi bj a1 a2 a3 a4 a5 a6 a7 => ?_, fun b hb => ?_, ?_, e2.trans hw.os, e3.trans hw.tape, e4.trans hw.output, fun D o hD => ⟨(hw.marks D o hD).1, by rw [hold D (Array.getElem?_eq_some_iff.1 (hw.marks D o hD).2.1).1]; exact (hw.marks D o hD).2.1, (hw.marks D o hD).2.2⟩, by
    show _ ≤ (w1.heap.push _).size
    rw [e1]; simp; exact Nat.le_succ_of_le hw.grew, hw.globs⟩
  · have hlt := himm b o c h
    have := hw.imm b o c h
    exact ⟨by rw [World.cell?_of_block (w := w) (hold b hlt)]; exact this.1, this.2⟩
  · rcases slast id x hx with ⟨hi, hx⟩ | ⟨rfl, rfl⟩
    · cases hlv : x.live with
      | false => cases x <;> first | trivial | cases hlv
      | true =>
        obtain ⟨b, n, q1, q2, q3, q4⟩ := (hw.objs id x hx).block hlv
        refine objRel_mono hg (hw.objs id x hx) (fun b' n' e => ?_) (fun b' n' e hlt h0 o => h0 o)
        rw [q1] at e; cases e; exact hold _ q2
    · refine objRel_mk hc (b := w.heap.size) (n := arr.size) (arr := arr) (ty := ty) ?_ hnew rfl hw.sz (fun o => ?_) vs (hl.mono hg) hv h9
      · simp only [Gh.add]; rw [← hw.len]; simp
      · cases hq : G.imm w.heap.size o with
        | none => exact hq
        | some c => exact absurd (himm _ _ _ hq) (Nat.lt_irrefl _)
  · have hblk : ∀ (i : Nat) oi bi, σ[i]? = some oi → oi.live = true → G.obj[i]? = some bi → bi.1 < w.heap.size := fun i oi bi q1 q2 q3 => by
      obtain ⟨b, n, p1, p2, _⟩ := (hw.objs i oi q1).block q2
      rw [p1] at q3; cases q3; exact p2
    rcases slast i oi a1 with ⟨hi, b1⟩ | ⟨hi, rfl⟩
    · rcases slast j oj a2 with ⟨hj, b2⟩ | ⟨hj, rfl⟩
      · rcases hlast i bi a5 with ⟨_, c1⟩ | ⟨hi', _⟩
        · rcases hlast j bj a6 with ⟨_, c2⟩ | ⟨hj', _⟩
          · exact hw.inj i j oi oj bi bj b1 b2 a3 a4 c1 c2 a7
          · rw [hw.len] at hj'; omega
        · rw [hw.len] at hi'; omega
      · rcases hlast i bi a5 with ⟨_, c1⟩ | ⟨hi', _⟩
        · rcases hlast j bj a6 with ⟨hj', _⟩ | ⟨_, rfl⟩
          · rw [hw.len] at hj'; omega
          · have := hblk i oi bi b1 a3 c1
            simp only at a7; omega
        · rw [hw.len] at hi'; omega
    · rcases slast j oj a2 with ⟨hj, b2⟩ | ⟨hj, rfl⟩
      · rcases hlast j bj a6 with ⟨_, c2⟩ | ⟨hj', _⟩
        · rcases hlast i bi a5 with ⟨hi', _⟩ | ⟨_, rfl⟩
          · rw [hw.len] at hi'; omega
          · have := hblk j oj bj b2 a4 c2
            simp only at a7; omega
        · rw [hw.len] at hj'; omega
      · omega
  · show _ = G.w0.heap[b]?
    rw [hold b (Nat.lt_of_lt_of_le hb hw.sz)]
    exact hw.frame b hb
  · show G.base ≤ (w1.heap.push _).size
    rw [e1]; have := hw.sz; simp; omega

/-- A block that lies there becomes an object. -/
theorem WRel.adopt {σ : Store} {w : World} (hw : WRel G σ w) {b : Nat} {arr : Array Value} {ty : TypeId} {ob : AObj} {cs : List AV} (hc : ob.cells = some cs) (hb : w.heap[b]? = some (.cells arr ty (0, 0))) (hbase : G.base ≤ b)
    (himm : ∀ o, G.imm b o = none) (hdis : ∀ (i : Nat) oi bi, σ[i]? = some oi → oi.live = true → G.obj[i]? = some bi → bi.1 ≠ b) {vs : List Value} (hl : RepL G cs vs) (hv : ∀ (i : Nat) c, vs[i]? = some c → arr[i]? = some c) (h9 : ∀ c ∈ arr.toList, c.oneCell' = true) :
    WRel (G.add b arr.size) (σ ++ [ob]) w := by
  have hg := Gh.le_add G b arr.size
  have hlast : ∀ (i : Nat) x, (G.obj ++ [(b, arr.size)])[i]? = some x → (i < G.obj.length ∧ G.obj[i]? = some x) ∨ (i = G.obj.length ∧ x = (b, arr.size)) := by
    intro i x h
    rcases Nat.lt_or_ge i G.obj.length with hi | hi
    · rw [List.getElem?_append_left hi] at h; exact .inl ⟨hi, h⟩
    · rw [List.getElem?_append_right hi] at h
      have : i - G.obj.length = 0 := by
        rcases Nat.eq_zero_or_pos (i - G.obj.length) with h0 | h0
        · exact h0
        · rw [List.getElem?_eq_none (by simp; omega)] at h; cases h
      rw [this] at h; simp at h
      exact .inr ⟨by omega, h.symm⟩
  have slast : ∀ (i : Nat) x, (σ ++ [ob])[i]? = some x → (i < σ.length ∧ σ[i]? = some x) ∨ (i = σ.length ∧ x = ob) := by
    intro i x h
    rcases Nat.lt_or_ge i σ.length with hi | hi
    · rw [List.getElem?_append_left hi] at h; exact .inl ⟨hi, h⟩
    · rw [List.getElem?_append_right hi] at h
      have : i - σ.length = 0 := by
        rcases Nat.eq_zero_or_pos (i - σ.length) with h0 | h0
        · exact h0
        · rw [List.getElem?_eq_none (by simp; omega)] at h; cases h
      rw [this] at h; simp at h
      exact .inr ⟨by omega, h.symm⟩
  have hlen := hw.len
  refine ⟨by simp [Gh.add, hw.len], hw.imm, fun id x hx => ?_, fun i j oi oj bi bj a1 a2 a3 a4 a5 a6 a7 => ?_, hw.frame, hw.sz, hw.os, hw.tape, hw.output, hw.marks, hw.grew, hw.globs⟩
  · rcases slast id x hx with ⟨hi, hx⟩ | ⟨rfl, rfl⟩
    · exact objRel_mono hg (hw.objs id x hx) (fun _ _ _ => rfl) (fun _ _ _ _ h0 => h0)
    · refine objRel_mk hc (b := b) (n := arr.size) (arr := arr) (ty := ty) ?_ hb rfl hbase himm vs (hl.mono hg) hv h9
      simp only [Gh.add]; rw [← hlen]; simp
  · rcases slast i oi a1 with ⟨hi, b1⟩ | ⟨hi, rfl⟩
    · rcases hlast i bi a5 with ⟨_, c1⟩ | ⟨hi', _⟩
      · rcases slast j oj a2 with ⟨hj, b2⟩ | ⟨hj, rfl⟩
        · rcases hlast j bj a6 with ⟨_, c2⟩ | ⟨hj', _⟩
          · exact hw.inj i j oi oj bi bj b1 b2 a3 a4 c1 c2 a7
          · omega
        · rcases hlast j bj a6 with ⟨hj', _⟩ | ⟨_, rfl⟩
          · omega
          · exact absurd a7 (hdis i oi bi b1 a3 c1)
      · omega
    · rcases hlast i bi a5 with ⟨hi', _⟩ | ⟨_, rfl⟩
      · omega
      · rcases slast j oj a2 with ⟨hj, b2⟩ | ⟨hj, rfl⟩
        · rcases hlast j bj a6 with ⟨_, c2⟩ | ⟨hj', _⟩
          · exact absurd a7.symm (hdis j oj bj b2 a4 c2)
          · omega
        · omega

/-- An object is let go. -/
theorem WRel.kill {σ : Store} {w : World} (hw : WRel G σ w) (id : Nat) : WRel G (σ.set id .dead) w := by
  have hset : ∀ (i : Nat) (x : AObj), (σ.set id AObj.dead)[i]? = some x → x.live = true → σ[i]? = some x := by
    intro i x h hl
    rw [List.getElem?_set] at h
    split at h
    · split at h
      · cases h; cases hl
      · cases h
    · exact h
  refine ⟨by simp [hw.len], hw.imm, fun i x hx => ?_, fun i j oi oj bi bj a1 a2 a3 a4 a5 a6 a7 => hw.inj i j oi oj bi bj (hset i oi a1 a3) (hset j oj a2 a4) a3 a4 a5 a6 a7, hw.frame, hw.sz, hw.os, hw.tape, hw.output, hw.marks, hw.grew, hw.globs⟩
  cases hl : x.live with
  | false => cases x <;> first | trivial | cases hl
  | true => exact hw.objs i x (hset i x hx hl)

/-- A row is written. -/
theorem WRel.write {σ : Store} {w : World} (hw : WRel G σ w) {id : Nat} {ob ob' : AObj} (ho : σ[id]? = some ob) (hl : ob.live = true) {b n : Nat} {arr arr' : Array Value} {ty : TypeId} (h2 : G.obj[id]? = some (b, n))
    (h3 : w.heap[b]? = some (.cells arr ty (0, 0))) (h4 : arr'.size = n) {cs : List AV} (hc : ob'.cells = some cs) (vs : List Value) (h8 : RepL G cs vs) (hv : ∀ (i : Nat) c, vs[i]? = some c → arr'[i]? = some c)
    (h9 : ∀ c ∈ arr'.toList, c.oneCell' = true) : WRel G (σ.set id ob') (w.setRow b arr') := by
  obtain ⟨b', n', q1, q2, q3, q4⟩ := (hw.objs id ob ho).block hl
  rw [h2] at q1; cases q1
  have hid : id < σ.length := (List.getElem?_eq_some_iff.1 ho).1
  have hother : ∀ k, k ≠ b → (w.setRow b arr').heap[k]? = w.heap[k]? := fun k hk => setRow_other w b k arr' hk
  have hset : ∀ (i : Nat) (x : AObj), (σ.set id ob')[i]? = some x → (i = id ∧ x = ob') ∨ (i ≠ id ∧ σ[i]? = some x) := by
    intro i x h
    rw [List.getElem?_set] at h
    split at h
    · rename_i e
      first
        | (cases h; exact .inl ⟨e.symm, rfl⟩)
        | (rw [if_pos hid] at h; cases h; exact .inl ⟨e.symm, rfl⟩)
    · rename_i e; exact .inr ⟨fun e' => e e'.symm, h⟩
  have hback : ∀ (i : Nat) (x : AObj), (σ.set id ob')[i]? = some x → x.live = true → ∃ y, σ[i]? = some y ∧ y.live = true := by
    intro i x h hx
    rcases hset i x h with ⟨rfl, rfl⟩ | ⟨_, h⟩
    · exact ⟨ob, ho, hl⟩
    · exact ⟨x, h, hx⟩
  refine ⟨by simp [hw.len], fun b' o c h => ?_, fun i x hx => ?_, fun i j oi oj bi bj a1 a2 a3 a4 a5 a6 a7 => ?_, fun k hk => ?_, by simp; exact hw.sz, hw.os, hw.tape, hw.output, fun D o hD => ⟨(hw.marks D o hD).1, by
    obtain ⟨_, h0, h0'⟩ := hw.marks D o hD
    have hne : D ≠ b := fun e => by subst e; rw [h3] at h0; cases h0; cases h0'
    rw [hother D hne]; exact h0, (hw.marks D o hD).2.2⟩, by simp; exact hw.grew, hw.globs⟩
  · have := hw.imm b' o c h
    have hne : b' ≠ b := fun e => by subst e; rw [q4 o] at h; cases h
    exact ⟨by rw [World.cell?_of_block (w := w) (hother b' hne)]; exact this.1, this.2⟩
  · rcases hset i x hx with ⟨rfl, rfl⟩ | ⟨hne, hx⟩
    · exact objRel_mk hc h2 (setRow_heap w b arr arr' ty _ h3) h4 q3 q4 vs h8 hv h9
    · cases hlx : x.live with
      | false => cases x <;> first | trivial | cases hlx
      | true =>
        refine objRel_mono (.refl G) (hw.objs i x hx) (fun b' n' e => hother b' fun hb => ?_) (fun _ _ _ _ h0 => h0)
        subst hb
        exact hne (hw.inj i id x ob _ _ hx ho hlx hl e h2 rfl)
  · obtain ⟨yi, p1, p2⟩ := hback i oi a1 a3
    obtain ⟨yj, p3, p4⟩ := hback j oj a2 a4
    exact hw.inj i j yi yj bi bj p1 p3 p2 p4 a5 a6 a7
  · rw [hother k (by omega)]; exact hw.frame k hk

end Go.Pa

/-! Operations on the store: what is asked; soundness. -/
namespace Go.Pa
set_option linter.unusedSectionVars false
variable [GTab]
variable {P : Program} {G : Gh}

/-- A call, on abstract values: it comes back, and what it hands back and leaves is as R says. -/
def ACalls (P : Program) (f : FuncId) (args : List AV) (σ : Store) (R : AV → Store → Prop) : Prop :=
  (∀ (vs : Array Value) w, (callFunc f vs).run P w = .ok (.enter f vs) w) ∧
  ∀ G w (vs : Array Value), WRel G σ w → RepL G args vs.toList → Calls P f vs w fun e w' => ∃ v r σ' G', e = .returned v ∧ G.le G' ∧ WRel G' σ' w' ∧ Rep G' r v ∧ R r σ'

theorem ACalls.mono {f : FuncId} {args : List AV} {σ : Store} {R R' : AV → Store → Prop} (h : ACalls P f args σ R) (hr : ∀ r σ', R r σ' → R' r σ') : ACalls P f args σ R' :=
  ⟨h.1, fun G w vs hw hl => (h.2 G w vs hw hl).mono fun _ _ ⟨v, r, σ', G', h1, h2, h3, h4, h5⟩ => ⟨v, r, σ', G', h1, h2, h3, h4, hr _ _ h5⟩⟩

/-- What is said of one operation that may call, or turn the store. -/
def OpJ (P : Program) (N : Nat) (o : Oper) (env : Env) (σ : Store) (R : AV → Store → Prop) : Prop :=
  ∀ G a w, ERel G N env a → WRel G σ w →
    (∃ c w' v σ' G', ((execOp a.eval o).run P w = .ok (.value c) w' ∨ ((execOp a.eval o).run P w = .ok .skip w' ∧ c = undef)) ∧ G.le G' ∧ WRel G' σ' w' ∧ Rep G' v c ∧ R v σ') ∨
    (∃ f vs, (execOp a.eval o).run P w = .ok (.enter f vs) w ∧ Calls P f vs w fun e w' => ∃ c v σ' G', e = .returned c ∧ G.le G' ∧ WRel G' σ' w' ∧ Rep G' v c ∧ R v σ')

theorem OpJ.of_run {N : Nat} {o : Oper} {env : Env} {σ : Store} {R : AV → Store → Prop}
    (h : ∀ G a w, ERel G N env a → WRel G σ w → ∃ c w' v σ' G', ((execOp a.eval o).run P w = .ok (.value c) w' ∨ ((execOp a.eval o).run P w = .ok .skip w' ∧ c = undef)) ∧ G.le G' ∧ WRel G' σ' w' ∧ Rep G' v c ∧ R v σ') : OpJ P N o env σ R :=
  fun G a w he hw => .inl (h G a w he hw)

theorem OpJ.wp {N : Nat} {o : Oper} {env : Env} {σ : Store} {R : AV → Store → Prop} (h : OpJ P N o env σ R) (G : Gh) (a : Act) (w : World) (Q : Exit → Act → World → Prop) (he : ERel G N env a) (hw : WRel G σ w) :
    o.wp P a w (fun a' w' => ∃ c v σ' G', a' = a.put o.dst c ∧ G.le G' ∧ WRel G' σ' w' ∧ Rep G' v c ∧ R v σ') Q := by
  unfold Oper.wp
  rcases h G a w he hw with ⟨c, w', v, σ', G', hrun, h1, h2, h3, h4⟩ | ⟨f, vs, hrun, hcall⟩
  · rcases hrun with hrun | ⟨hrun, rfl⟩
    · rw [hrun]; exact ⟨c, v, σ', G', rfl, h1, h2, h3, h4⟩
    · rw [hrun]; exact ⟨undef, v, σ', G', rfl, h1, h2, h3, h4⟩
  · rw [hrun, Oper.upon_enter]
    refine hcall.mono fun en w' hen => ?_
    obtain ⟨v, r, σ', G', rfl, q1, q2, q3, q4⟩ := hen
    exact ⟨v, r, σ', G', rfl, q1, q2, q3, q4⟩

/-- The same in a round of a loop over a function. -/
theorem OpJ.wpIn {N : Nat} {o : Oper} {env : Env} {σ : Store} {R : AV → Store → Prop} (h : OpJ P N o env σ R) (hd : ∀ c, o.op ≠ .defer c) (l n : Nat) (G : Gh) (a : Act) (w : World) (Q : Exit → Act → World → Prop) (he : ERel G N env a) (hw : WRel G σ w) :
    o.wpIn (Fence.wide.inRound l) n P a w (fun a' w' => ∃ c v σ' G', a' = a.put o.dst c ∧ G.le G' ∧ WRel G' σ' w' ∧ Rep G' v c ∧ R v σ') Q := by
  unfold Oper.wpIn
  refine ⟨fun _ _ => trivial, ?_⟩
  rw [Oper.semAt_eq _ _ _ hd]
  rcases h G a w he hw with ⟨c, w', v, σ', G', hrun, h1, h2, h3, h4⟩ | ⟨f, vs, hrun, hcall⟩
  · rcases hrun with hrun | ⟨hrun, rfl⟩
    · rw [hrun]; exact ⟨c, v, σ', G', rfl, h1, h2, h3, h4⟩
    · rw [hrun]; exact ⟨undef, v, σ', G', rfl, h1, h2, h3, h4⟩
  · rw [hrun, Oper.uponIn_enter]
    refine ⟨fun hn => by simp [Fence.wide] at hn, (CallsIn.inRound l (callsIn_wide.2 hcall)).mono fun en w' hen => ?_⟩
    obtain ⟨v, r, σ', G', rfl, q1, q2, q3, q4⟩ := hen
    exact ⟨v, r, σ', G', rfl, q1, q2, q3, q4⟩

theorem OpJ.of_pure {N : Nat} {o : Oper} {env : Env} {σ : Store} {R : AV → Store → Prop} {v : AV} (h : PureJ P N o env v) (hr : R v σ) : OpJ P N o env σ R :=
  .of_run fun G a w he hw => let ⟨c, w', G', h1, h2, h3, h4⟩ := h G σ a w he hw; ⟨c, w', v, σ, G', .inl h1, h2, h3, h4, hr⟩

/-- What a slice (or a string) holds. -/
inductive Cont where
  | E
  | I (k : IntKind) (l : List Int)
  | R (sz : Nat) (rs : List (List AV))

def Cont.len : Cont → Nat
  | .E => 0
  | .I _ l => l.length
  | .R _ rs => rs.length

def Cont.cells : Cont → List AV
  | .E => []
  | .I k l => l.map (AV.int k)
  | .R _ rs => rs.flatten

def Cont.fits (sz : Nat) : Cont → Prop
  | .E => True
  | .I _ _ => sz = 1
  | .R sz' rs => sz = sz' ∧ ∀ r ∈ rs, r.length = sz

def contA (s : Store) : AV → Option Cont
  | .nils => some .E
  | .emp => some .E
  | .ints k l => some (.I k l)
  | .rows sz rs => some (.R sz rs)
  | .str l => some (.I .u8 l)
  | .mvec id off len sz => match s[id]? with
    | some (.vecI k l) => if sz = 1 ∧ off + len ≤ l.length then some (.I k ((l.drop off).take len)) else none
    | some (.vecR sz' rs) => if sz = sz' ∧ off + len ≤ rs.length then some (.R sz ((rs.drop off).take len)) else none
    | _ => none
  | _ => none

theorem Cont.cells_length {sz : Nat} {c : Cont} (h : c.fits sz) : c.cells.length = c.len * sz := by
  cases c with
  | E => simp [Cont.cells, Cont.len]
  | I k l => simp only [Cont.fits] at h; subst h; simp [Cont.cells, Cont.len]
  | R sz' rs =>
    obtain ⟨rfl, hs⟩ := h
    simp only [Cont.cells, Cont.len, List.length_flatten]
    have : rs.map List.length = List.replicate rs.length sz := by
      apply List.ext_getElem?
      intro j
      simp only [List.getElem?_map, List.getElem?_replicate]
      split
      · rename_i hj; simp [hj, hs _ (List.getElem_mem hj)]
      · rename_i hj; simp [Nat.not_lt.1 hj]
    rw [this, List.sum_replicate_nat]

theorem sub_flatten {rs : List (List AV)} {sz : Nat} (hs : ∀ r ∈ rs, r.length = sz) (a n : Nat) : ∀ (i : Nat) y, ((rs.drop a).take n).flatten[i]? = some y → rs.flatten[a * sz + i]? = some y := by
  intro i y hy
  rcases Nat.lt_or_ge rs.length a with ha | ha
  · rw [List.drop_of_length_le (by omega)] at hy; simp at hy
  have e1 : (rs.take a).flatten.length = a * sz := by
    rw [List.length_flatten, show (rs.take a).map List.length = List.replicate a sz from ?_, List.sum_replicate_nat]
    apply List.ext_getElem?
    intro j
    simp only [List.getElem?_map, List.getElem?_take, List.getElem?_replicate]
    split
    · rename_i hj
      have hjl : j < rs.length := by omega
      simp [hjl, hs _ (List.getElem_mem hjl)]
    · rfl
  have e2 : rs.flatten = (rs.take a).flatten ++ (((rs.drop a).take n).flatten ++ ((rs.drop a).drop n).flatten) := by
    rw [← List.flatten_append, List.take_append_drop, ← List.flatten_append, List.take_append_drop]
  rw [e2, List.getElem?_append_right (by omega), e1, Nat.add_sub_cancel_left]
  rw [List.getElem?_append_left (List.getElem?_eq_some_iff.1 hy).1]
  exact hy

/-- What a slice holds is read. -/
theorem cont_read {σ : Store} {w : World} (hw : WRel G σ w) {x : AV} {u : Value} (hx : Rep G x u) {c : Cont} (hc : contA σ x = some c) {sz : Nat} (hf : c.fits sz) :
    (∀ w', (Builtin.lenOf u).run P w' = .ok c.len w') ∧ ∃ vs, RepL G c.cells vs ∧ (∀ v ∈ vs, v.oneCell' = true) ∧ ∀ w', w'.heap = w.heap → (Builtin.firstCells sz c.len u).run P w' = .ok vs.toArray w' := by
  have some_ : ∀ {ad : Addr} {n cap : Nat} {vs : List Value}, vs.length = n * sz → (∀ (j : Nat) v, vs[j]? = some v → w.cell? (ad.add j) = some v) → ∀ w', w'.heap = w.heap → (Builtin.firstCells sz n (.slice (some ad) n cap)).run P w' = .ok vs.toArray w' := by
    intro ad n cap vs hl hv w' hh
    exact run_firstCells_some w' sz n ad n cap vs hl fun j v hj => by
      have := hv j v hj
      rw [← this]; simp [World.cell?, hh]
  cases x with
  | nils => simp only [contA, Option.some.injEq] at hc; subst hc; cases hx; exact ⟨fun _ => rfl, [], .nil, by simp, fun w' _ => by simp [Builtin.firstCells]⟩
  | emp =>
    simp only [contA, Option.some.injEq] at hc; subst hc; cases hx; rename_i a
    exact ⟨fun _ => rfl, [], .nil, by simp, fun w' hh => some_ (n := 0) (vs := []) (by simp) (by simp) w' hh⟩
  | ints k l =>
    simp only [contA, Option.some.injEq] at hc; subst hc
    simp only [Cont.fits] at hf; subst hf
    cases hx with
    | ints0 _ a cap =>
      refine ⟨fun _ => rfl, [], .nil, by simp, fun w' hh => ?_⟩
      cases a with
      | none => simp [Builtin.firstCells]
      | some a => exact some_ (n := 0) (vs := []) (by simp) (by simp) w' hh
    | ints _ _ b o cap hcap hm =>
      refine ⟨fun _ => rfl, l.map (Value.int k), RepL.ints k l, by simp [Value.oneCell'], some_ (by simp [Cont.len]) fun j v hj => ?_⟩
      rw [add_lit]
      rw [List.getElem?_map] at hj
      cases hl : l[j]? with
      | none => simp [hl] at hj
      | some y => simp [hl] at hj; subst hj; exact (hw.imm _ _ _ (hm j y hl)).1
  | rows sz' rs =>
    simp only [contA, Option.some.injEq] at hc; subst hc
    obtain ⟨rfl, hs⟩ := hf
    cases hx with
    | rows0 _ a cap =>
      refine ⟨fun _ => rfl, [], .nil, by simp, fun w' hh => ?_⟩
      cases a with
      | none => simp [Builtin.firstCells]
      | some a => exact some_ (n := 0) (vs := []) (by simp) (by simp) w' hh
    | rows _ _ b o cap f hcap _ hm hr =>
      have hlen : rs.flatten.length = rs.length * sz := Cont.cells_length (c := .R sz rs) ⟨rfl, hs⟩
      refine ⟨fun _ => rfl, (List.range rs.flatten.length).map f, RepL.of_get (by simp [Cont.cells]) fun i x hx => ⟨f i, ?_, hr i x hx⟩, fun v hv => ?_, some_ (by simp [hlen, Cont.len]) fun j v hj => ?_⟩
      · have : i < rs.flatten.length := (List.getElem?_eq_some_iff.1 hx).1
        rw [List.getElem?_map, List.getElem?_range this]; rfl
      · simp only [List.mem_map, List.mem_range] at hv
        obtain ⟨i, hi, rfl⟩ := hv
        exact (hw.imm _ _ _ (hm i _ (List.getElem?_eq_getElem hi))).2
      · rw [add_lit]
        have hj' : j < rs.flatten.length := by have := (List.getElem?_eq_some_iff.1 hj).1; simpa using this
        rw [List.getElem?_map, List.getElem?_range hj'] at hj
        cases hj
        exact (hw.imm _ _ _ (hm j _ (List.getElem?_eq_getElem hj'))).1
  | str l =>
    simp only [contA, Option.some.injEq] at hc; subst hc
    simp only [Cont.fits] at hf; subst hf
    cases hx; rename_i s e
    have hlen := str_len e
    refine ⟨fun w' => by simp only [Builtin.lenOf, Cont.len, ← hlen, Sem.run_pure], l.map (Value.int .u8), RepL.ints .u8 l, by simp [Value.oneCell'], fun w' _ => ?_⟩
    simp only [Builtin.firstCells, Cont.len, Sem.run_pure]
    congr 1
    have : s.extract 0 l.length = s := by
      rw [← hlen]
      apply ByteArray.ext
      simp
    rw [this]
    apply Array.ext'
    rw [map_u8, e]
  | mvec id off len sz' =>
    unfold contA at hc
    cases hx with
    | mvec _ _ _ _ cap b n ho hcap hfit =>
    have rd : ∀ {ob : AObj} {cs : List AV}, σ[id]? = some ob → ob.cells = some cs → ∃ arr ty, w.heap[b]? = some (.cells arr ty (0, 0)) ∧ RepL G cs (arr.toList.take cs.length) ∧ (∀ c ∈ arr.toList, c.oneCell' = true) := by
      intro ob cs h1 h2
      obtain ⟨b', n', arr, ty, q1, q2, _, _, _, _, q3, q4⟩ := (hw.objs id ob h1).get h2
      rw [ho] at q1; cases q1
      exact ⟨arr, ty, q2, q3, q4⟩
    have fin : ∀ {cs ds : List AV} {arr : Array Value} {ty : TypeId}, w.heap[b]? = some (.cells arr ty (0, 0)) → RepL G cs (arr.toList.take cs.length) → (∀ c ∈ arr.toList, c.oneCell' = true) → ds.length = len * sz' →
        (∀ (i : Nat) y, ds[i]? = some y → cs[off * sz' + i]? = some y) →
        ∃ vs, RepL G ds vs ∧ (∀ v ∈ vs, v.oneCell' = true) ∧ vs.length = len * sz' ∧ ∀ (j : Nat) v, vs[j]? = some v → w.cell? ((⟨b, off * sz', none⟩ : Addr).add j) = some v := by
      intro cs ds arr ty h1 h2 h3 h4 h5
      have hget : ∀ (i : Nat) y, ds[i]? = some y → ∃ v, (arr.toList.take cs.length)[off * sz' + i]? = some v ∧ Rep G y v := fun i y hy => h2.get _ y (h5 i y hy)
      have hrep : RepL G ds (((arr.toList.take cs.length).drop (off * sz')).take ds.length) := by
        refine RepL.of_get ?_ fun i y hy => ?_
        · rcases Nat.eq_zero_or_pos ds.length with h0 | h0
          · simp [h0]
          · have hlt : ds.length - 1 < ds.length := by omega
            obtain ⟨v, hv, _⟩ := hget (ds.length - 1) _ (List.getElem?_eq_getElem hlt)
            have := (List.getElem?_eq_some_iff.1 hv).1
            simp only [List.length_take, List.length_drop] at this ⊢
            omega
        · obtain ⟨v, hv, hr⟩ := hget i y hy
          have hi : i < ds.length := (List.getElem?_eq_some_iff.1 hy).1
          exact ⟨v, by rw [List.getElem?_take, if_pos hi, List.getElem?_drop]; exact hv, hr⟩
      refine ⟨_, hrep, fun v hv => h3 v (List.mem_of_mem_take (List.mem_of_mem_drop (List.mem_of_mem_take hv))), by rw [← hrep.length, h4], fun j v hj => ?_⟩
      rw [add_lit, cell_of_row w b _ arr ty _ h1]
      rw [List.getElem?_take] at hj
      split at hj
      · rw [List.getElem?_drop, List.getElem?_take] at hj
        split at hj
        · simpa using hj
        · cases hj
      · cases hj
    cases hσ : σ[id]? with
    | none => simp [hσ] at hc
    | some ob =>
      simp only [hσ] at hc
      cases ob with
      | vecI k l =>
        simp only at hc
        split at hc
        · rename_i hcnd
          cases hc
          obtain ⟨rfl, hle⟩ := hcnd
          simp only [Cont.fits] at hf; subst hf
          obtain ⟨arr, ty, h1, h2, h3⟩ := rd hσ rfl
          have hlen : ((l.drop off).take len).length = len := by simp; omega
          obtain ⟨vs, g1, g2, g3, g4⟩ := fin (ds := ((l.drop off).take len).map (AV.int k)) h1 h2 h3 (by simp; omega) (fun i y hy => by
            rw [List.getElem?_map] at hy ⊢
            rw [List.getElem?_take] at hy
            split at hy
            · rw [List.getElem?_drop] at hy; rw [Nat.mul_one]; exact hy
            · cases hy)
          refine ⟨fun w' => by simp only [Builtin.lenOf, Cont.len, hlen, Sem.run_pure], vs, g1, g2, ?_⟩
          simp only [Cont.len, hlen]
          exact some_ g3 g4
        · cases hc
      | vecR sz'' rs =>
        simp only at hc
        split at hc
        · rename_i hcnd
          cases hc
          obtain ⟨rfl, hle⟩ := hcnd
          obtain ⟨rfl, hs⟩ := hf
          obtain ⟨cs0, hcs0⟩ : ∃ cs, (AObj.vecR sz rs).cells = some cs := by
            obtain ⟨_, _, _, _, cs0, q, _⟩ := hw.objs id _ hσ
            exact ⟨cs0, q⟩
          have hall : ∀ r ∈ rs, r.length = sz := by
            simp only [AObj.cells] at hcs0
            split at hcs0
            · assumption
            · cases hcs0
          obtain ⟨arr, ty, h1, h2, h3⟩ := rd hσ (cs := rs.flatten) (by simp only [AObj.cells]; rw [if_pos hall])
          have hlen : ((rs.drop off).take len).length = len := by simp; omega
          obtain ⟨vs, g1, g2, g3, g4⟩ := fin (ds := ((rs.drop off).take len).flatten) h1 h2 h3 (by
              have := Cont.cells_length (c := .R sz ((rs.drop off).take len)) ⟨rfl, hs⟩
              simpa [Cont.cells, Cont.len, hlen] using this) (sub_flatten hall off len)
          refine ⟨fun w' => by simp only [Builtin.lenOf, Cont.len, hlen, Sem.run_pure], vs, g1, g2, ?_⟩
          simp only [Cont.len, hlen]
          exact some_ g3 g4
        · cases hc
      | dead => simp at hc
      | box _ => simp at hc
      | mp _ => simp at hc
  | _ => simp [contA] at hc

end Go.Pa
