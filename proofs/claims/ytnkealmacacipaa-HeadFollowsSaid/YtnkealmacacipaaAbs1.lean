/-
  Abstract values over the model's memory: slices with their content embedded, mutable objects by number, and the relation that ties them to a world.
  Nothing of the program stands here: it holds over any program.
-/
import Derived.WalkKit
import Derived.WalkSpells
import Derived.WalkLawsBesides
import Derived.Orders
import Derived.Below
import Derived.Laws.BytesArg
import Derived.Laws.IdiomStrings
import Derived.RangeFuncOwn
namespace Go.Pa

/-- What package-level variables hold that nobody writes: one table for the whole program. -/
class GTab where
  gl : Nat → List Value
set_option linter.unusedSectionVars false
variable [GTab]

/-- Abstract values. -/
inductive AV where
  | any
  | int (k : IntKind) (n : Int)
  | bool (b : Bool)
  | str (l : List Int)
  | nils
  | emp
  | ints (k : IntKind) (l : List Int)
  | rows (sz : Nat) (rs : List (List AV))
  | mvec (id off len sz : Nat)
  | agg (cs : List AV)
  | ptr (id off : Nat)
  | eptr (id i sz off : Nat)
  | iptr (cs : List AV)
  | nilp
  | fn (f : FuncId) (fs cs : List AV)
  | nilf
  | mp (id : Nat)
  | nilm
  | tup (vs : List AV)
  | glob (g : Nat)

instance : Inhabited AV := ⟨.any⟩

/-- Objects of the store. -/
inductive AObj where
  | dead
  | box (cs : List AV)
  | vecI (k : IntKind) (l : List Int)
  | vecR (sz : Nat) (rs : List (List AV))
  | mp (kv : List (AV × AV))

abbrev Store := List AObj

/-- The cells of an object that is a row of cells. -/
def AObj.cells : AObj → Option (List AV)
  | .box cs => some cs
  | .vecI k l => some (l.map (AV.int k))
  | .vecR sz rs => if ∀ r ∈ rs, r.length = sz then some rs.flatten else none
  | _ => none

def AObj.live : AObj → Bool
  | .dead => false
  | _ => true

/-- The ghost: what is known never to turn (imm), where the objects lie (block, cells), what lay before the call. -/
structure Gh where
  base : Nat
  w0 : World
  imm : Nat → Nat → Option Value
  obj : List (Nat × Nat)
  lo : Nat
  mark : Nat → Obj → Prop

/-- A concrete value is what an abstract one says. -/
inductive Rep (G : Gh) : AV → Value → Prop
  | any (v : Value) : Rep G .any v
  | int (k : IntKind) (n : Int) : Rep G (.int k n) (.int k n)
  | bool (b : Bool) : Rep G (.bool b) (.bool b)
  | str (l : List Int) (s : ByteArray) (h : s.data.toList.map (fun b => (b.toNat : Int)) = l) : Rep G (.str l) (.string s)
  | nils : Rep G .nils (.slice none 0 0)
  | emp (a : Addr) : Rep G .emp (.slice (some a) 0 0)
  | ints0 (k : IntKind) (a : Option Addr) (cap : Nat) : Rep G (.ints k []) (.slice a 0 cap)
  | ints (k : IntKind) (l : List Int) (b o cap : Nat) (hc : l.length ≤ cap) (h : ∀ i x, l[i]? = some x → G.imm b (o + i) = some (.int k x)) :
      Rep G (.ints k l) (.slice (some ⟨b, o, none⟩) l.length cap)
  | rows0 (sz : Nat) (a : Option Addr) (cap : Nat) : Rep G (.rows sz []) (.slice a 0 cap)
  | rows (sz : Nat) (rs : List (List AV)) (b o cap : Nat) (f : Nat → Value) (hc : rs.length ≤ cap) (hs : ∀ r ∈ rs, r.length = sz)
      (h : ∀ i x, rs.flatten[i]? = some x → G.imm b (o + i) = some (f i)) (hr : ∀ i x, rs.flatten[i]? = some x → Rep G x (f i)) :
      Rep G (.rows sz rs) (.slice (some ⟨b, o, none⟩) rs.length cap)
  | mvec (id off len sz cap b n : Nat) (ho : G.obj[id]? = some (b, n)) (hc : len ≤ cap) (hf : (off + cap) * sz ≤ n) :
      Rep G (.mvec id off len sz) (.slice (some ⟨b, off * sz, none⟩) len cap)
  | agg (cs : List AV) (vs : Array Value) (f : Nat → Value) (hl : cs.length = vs.size) (h : ∀ i x, cs[i]? = some x → vs[i]? = some (f i))
      (hr : ∀ i x, cs[i]? = some x → Rep G x (f i)) : Rep G (.agg cs) (.agg vs)
  | ptr (id off b n : Nat) (ho : G.obj[id]? = some (b, n)) : Rep G (.ptr id off) (.pointer (some ⟨b, off, none⟩))
  | eptr (id i sz off b n : Nat) (ho : G.obj[id]? = some (b, n)) : Rep G (.eptr id i sz off) (.pointer (some ⟨b, i * sz + off, none⟩))
  | iptr (cs : List AV) (b o : Nat) (f : Nat → Value) (h : ∀ i x, cs[i]? = some x → G.imm b (o + i) = some (f i)) (hr : ∀ i x, cs[i]? = some x → Rep G x (f i)) :
      Rep G (.iptr cs) (.pointer (some ⟨b, o, none⟩))
  | nilp : Rep G .nilp (.pointer none)
  | fn (f : FuncId) (fs cs : List AV) (gs hs : Array Value) (p q : Nat → Value) (hl : fs.length = gs.size) (hl' : cs.length = hs.size)
      (h : ∀ i x, fs[i]? = some x → gs[i]? = some (p i)) (hr : ∀ i x, fs[i]? = some x → Rep G x (p i))
      (h' : ∀ i x, cs[i]? = some x → hs[i]? = some (q i)) (hr' : ∀ i x, cs[i]? = some x → Rep G x (q i)) :
      Rep G (.fn f fs cs) (.func (.func f) gs hs)
  | nilf : Rep G .nilf .nilFunc
  | mp (id b n : Nat) (ho : G.obj[id]? = some (b, n)) : Rep G (.mp id) (.map (some b))
  | nilm : Rep G .nilm (.map none)
  | tup (cs : List AV) (vs : Array Value) (f : Nat → Value) (hl : cs.length = vs.size) (h : ∀ i x, cs[i]? = some x → vs[i]? = some (f i))
      (hr : ∀ i x, cs[i]? = some x → Rep G x (f i)) : Rep G (.tup cs) (.tuple vs)
  | glob (g : Nat) : Rep G (.glob g) (.pointer (some ⟨g, 0, none⟩))

/-- One ghost goes on from another. -/
structure Gh.le (G G' : Gh) : Prop where
  base : G'.base = G.base
  w0 : G'.w0 = G.w0
  imm : ∀ b o c, G.imm b o = some c → G'.imm b o = some c
  obj : ∀ (i : Nat) x, G.obj[i]? = some x → G'.obj[i]? = some x
  lo : G'.lo = G.lo
  mark : ∀ D o, G.mark D o → G'.mark D o

theorem Gh.le.refl (G : Gh) : G.le G := ⟨rfl, rfl, fun _ _ _ h => h, fun _ _ h => h, rfl, fun _ _ h => h⟩
theorem Gh.le.trans {A B C : Gh} (h : A.le B) (k : B.le C) : A.le C :=
  ⟨k.base.trans h.base, k.w0.trans h.w0, fun b o c x => k.imm b o c (h.imm b o c x), fun i x y => k.obj i x (h.obj i x y), k.lo.trans h.lo, fun D o x => k.mark D o (h.mark D o x)⟩

theorem Rep.over {G G' : Gh} (hi : ∀ b o c, G.imm b o = some c → G'.imm b o = some c) (ho' : ∀ (i : Nat) x, G.obj[i]? = some x → G'.obj[i]? = some x) {x : AV} {v : Value} (h : Rep G x v) : Rep G' x v := by
  induction h with
  | any v => exact .any v
  | int k n => exact .int k n
  | bool b => exact .bool b
  | str l s h => exact .str l s h
  | nils => exact .nils
  | emp a => exact .emp a
  | ints0 k a cap => exact .ints0 k a cap
  | ints k l b o cap hc h => exact .ints k l b o cap hc fun i x hx => hi _ _ _ (h i x hx)
  | rows0 sz a cap => exact .rows0 sz a cap
  | rows sz rs b o cap f hc hs h _ ih => exact .rows sz rs b o cap f hc hs (fun i x hx => hi _ _ _ (h i x hx)) ih
  | mvec id off len sz cap b n ho hc hf => exact .mvec id off len sz cap b n (ho' _ _ ho) hc hf
  | agg cs vs f hl h _ ih => exact .agg cs vs f hl h ih
  | ptr id off b n ho => exact .ptr id off b n (ho' _ _ ho)
  | eptr id i sz off b n ho => exact .eptr id i sz off b n (ho' _ _ ho)
  | iptr cs b o f h _ ih => exact .iptr cs b o f (fun i x hx => hi _ _ _ (h i x hx)) ih
  | nilp => exact .nilp
  | fn f fs cs gs hs p q hl hl' h _ h' _ ih ih' => exact .fn f fs cs gs hs p q hl hl' h ih h' ih'
  | nilf => exact .nilf
  | mp id b n ho => exact .mp id b n (ho' _ _ ho)
  | nilm => exact .nilm
  | tup cs vs f hl h _ ih => exact .tup cs vs f hl h ih
  | glob g => exact .glob g

theorem Rep.mono {G G' : Gh} (hg : G.le G') {x : AV} {v : Value} (h : Rep G x v) : Rep G' x v := h.over hg.imm hg.obj

/-- An object in memory. -/
def ObjRel (G : Gh) (w : World) (id : Nat) : AObj → Prop
  | .dead => True
  | .mp kv => ∃ b n es clock, G.obj[id]? = some (b, n) ∧ w.heap[b]? = some (.map es clock) ∧ G.base ≤ b ∧ (∀ o, G.imm b o = none) ∧ es.size = kv.length ∧
      ∀ (i : Nat) (p : AV × AV), kv[i]? = some p → ∃ e : MapEntry, es[i]? = some e ∧ Rep G p.1 e.key ∧ Rep G p.2 e.val ∧ e.born < clock
  | ob => ∃ b n arr ty, ∃ cs : List AV, ob.cells = some cs ∧ G.obj[id]? = some (b, n) ∧ w.heap[b]? = some (.cells arr ty (0, 0)) ∧ arr.size = n ∧ cs.length ≤ n ∧ G.base ≤ b ∧
      (∀ o, G.imm b o = none) ∧ (∀ (i : Nat) (x : AV), cs[i]? = some x → ∃ c, arr[i]? = some c ∧ Rep G x c) ∧ (∀ c ∈ arr.toList, c.oneCell' = true)

/-- The ghost knows the table of the package-level variables. -/
def GlobOk (G : Gh) : Prop := ∀ b o c, (GTab.gl b)[o]? = some c → G.imm b o = some c

theorem GlobOk.mono {G G' : Gh} (hi : ∀ b o c, G.imm b o = some c → G'.imm b o = some c) (h : GlobOk G) : GlobOk G' := fun b o c hc => hi b o c (h b o c hc)

/-- The world and the store. -/
structure WRel (G : Gh) (σ : Store) (w : World) : Prop where
  len : G.obj.length = σ.length
  imm : ∀ b o c, G.imm b o = some c → w.cell? ⟨b, o, none⟩ = some c ∧ c.oneCell' = true
  objs : ∀ (id : Nat) ob, σ[id]? = some ob → ObjRel G w id ob
  inj : ∀ (i j : Nat) oi oj bi bj, σ[i]? = some oi → σ[j]? = some oj → oi.live = true → oj.live = true → G.obj[i]? = some bi → G.obj[j]? = some bj → bi.1 = bj.1 → i = j
  frame : ∀ b, b < G.base → w.heap[b]? = G.w0.heap[b]?
  sz : G.base ≤ w.heap.size
  os : w.os = G.w0.os
  tape : w.tape = G.w0.tape
  output : w.output = G.w0.output
  marks : ∀ D o, G.mark D o → G.base ≤ D ∧ w.heap[D]? = some o ∧ o.isCells = false
  grew : G.lo ≤ w.heap.size
  globs : GlobOk G

theorem WRel.below {G : Gh} {σ : Store} {w : World} (h : WRel G σ w) (hs : G.w0.heap.size = G.base) : RowKit.Below G.base G.w0 w :=
  ⟨h.os, h.tape, h.output, by rw [hs]; exact h.sz, h.frame⟩

/-- The frame's temporaries, as far as they are known. -/
abbrev Env := List (Nat × AV)

def Env.get : Env → Nat → Option AV
  | [], _ => none
  | (t, v) :: e, u => if t = u then some v else Env.get e u

/-- The frame's deferred calls: the marks of its loops over functions alone. -/
def markOf (D : Nat) : Deferred := { target := .collected D, args := #[] }
def DRel (G : Gh) (ds : List Deferred) : Prop := GlobOk G ∧ ∃ Ds : List Nat, ds = Ds.map markOf ∧ Ds.Nodup ∧ ∀ D ∈ Ds, G.lo ≤ D ∧ G.mark D (.deferred (some []))

theorem DRel.nil {G : Gh} (h : GlobOk G) : DRel G [] := ⟨h, [], rfl, .nil, by simp⟩

theorem DRel.mono {G G' : Gh} {ds : List Deferred} (hg : G.le G') (h : DRel G ds) : DRel G' ds :=
  let ⟨h0, Ds, h1, h2, h3⟩ := h; ⟨h0.mono hg.imm, Ds, h1, h2, fun D hD => ⟨by rw [hg.lo]; exact (h3 D hD).1, hg.mark D _ (h3 D hD).2⟩⟩

def ERel (G : Gh) (N : Nat) (env : Env) (a : Act) : Prop :=
  a.tmps.size = N ∧ DRel G a.defers ∧ ∀ t x, env.get t = some x → ∃ v, a.tmps[t]? = some v ∧ Rep G x v

/-- One environment says no more than another. -/
def Env.sub : Env → Env → Prop
  | [], _ => True
  | (t, v) :: e, f => f.get t = some v ∧ Env.sub e f

theorem Env.sub_get {e f : Env} (h : e.sub f) : ∀ t x, e.get t = some x → f.get t = some x := by
  induction e with
  | nil => intro t x hx; simp [Env.get] at hx
  | cons p e ih =>
    obtain ⟨u, v⟩ := p
    intro t x hx
    simp only [Env.get] at hx
    split at hx
    · rename_i hu; subst hu; cases hx; exact h.1
    · exact ih h.2 t x hx

theorem ERel.sub {G : Gh} {N : Nat} {e f : Env} {a : Act} (h : ERel G N f a) (hs : e.sub f) : ERel G N e a :=
  ⟨h.1, h.2.1, fun t x hx => h.2.2 t x (Env.sub_get hs t x hx)⟩

theorem ERel.mono {G G' : Gh} {N : Nat} {e : Env} {a : Act} (hg : G.le G') (h : ERel G N e a) : ERel G' N e a :=
  ⟨h.1, h.2.1.mono hg, fun t x hx => let ⟨v, hv, hr⟩ := h.2.2 t x hx; ⟨v, hv, hr.mono hg⟩⟩

/-- A temporary is written. -/
def Env.put (e : Env) : Option Tmp → AV → Env
  | some d, v => (d, v) :: e
  | none, _ => e

theorem ERel.put {G : Gh} {N : Nat} {e : Env} {a : Act} (h : ERel G N e a) (d : Option Tmp) (hd : ∀ t, d = some t → t < N) {x : AV} {v : Value} (hr : Rep G x v) :
    ERel G N (e.put d x) (a.put d v) := by
  cases d with
  | none => exact h
  | some d =>
    refine ⟨by simp [Act.put, h.1], h.2.1, fun t y hy => ?_⟩
    simp only [Env.put, Env.get] at hy
    by_cases ht : d = t
    · subst ht
      simp only [if_true, Option.some.injEq] at hy
      subst hy
      exact ⟨v, by have := hd d rfl; simp [Act.put, h.1, this], hr⟩
    · rw [if_neg ht] at hy
      obtain ⟨u, hu, hru⟩ := h.2.2 t y hy
      exact ⟨u, by simp [Act.put, Array.getElem?_setIfInBounds_ne ht, hu], hru⟩

/-! ### Constants and operands -/

def ofCell : Value → AV
  | .bool b => .bool b
  | .int k n => .int k n
  | .string s => .str (s.data.toList.map fun b => (b.toNat : Int))
  | .slice none 0 0 => .nils
  | .pointer none => .nilp
  | .nilFunc => .nilf
  | .map none => .nilm
  | _ => .any

theorem rep_ofCell (G : Gh) (v : Value) : Rep G (ofCell v) v := by
  unfold ofCell
  split <;> first | exact .bool _ | exact .int _ _ | exact .str _ _ rfl | exact .nils | exact .nilp | exact .nilf | exact .nilm | exact .any _

theorem rep_undef (G : Gh) : Rep G (.tup []) undef := .tup [] #[] (fun _ => undef) rfl (by simp) (by simp)

def ofVal : Value → AV
  | .agg cs => .agg (cs.toList.map ofCell)
  | v => ofCell v

theorem rep_ofVal (G : Gh) (v : Value) : Rep G (ofVal v) v := by
  unfold ofVal
  split
  · rename_i cs
    refine .agg _ cs (fun i => cs.getD i (.bool false)) (by simp) (fun i x hx => ?_) (fun i x hx => ?_)
    · have : i < cs.size := by
        rcases Nat.lt_or_ge i cs.size with h | h
        · exact h
        · simp [Array.getElem?_eq_none h] at hx
      simp [this]
    · rcases Nat.lt_or_ge i cs.size with h | h
      · simp [h] at hx
        subst hx
        simp [h]
        exact rep_ofCell G _
      · simp [Array.getElem?_eq_none h] at hx
  · exact rep_ofCell G _

/-- What is known of a package-level variable's address. -/
def globA (g : Nat) : AV := match GTab.gl g with
  | [] => .glob g
  | c :: cs => .iptr ((c :: cs).map ofCell)

theorem rep_globA {G : Gh} (h : GlobOk G) (g : Nat) : Rep G (globA g) (.pointer (some ⟨g, 0, none⟩)) := by
  unfold globA
  split
  · exact .glob g
  · rename_i c cs hg
    refine .iptr _ g 0 (fun i => (c :: cs).getD i (.bool false)) (fun i x hx => ?_) (fun i x hx => ?_)
    · rw [List.getElem?_map] at hx
      cases hc : (c :: cs)[i]? with
      | none => simp [hc] at hx
      | some v =>
        rw [Nat.zero_add, List.getD_eq_getElem?_getD, hc]
        exact h g i v (by rw [hg]; exact hc)
    · rw [List.getElem?_map] at hx
      cases hc : (c :: cs)[i]? with
      | none => simp [hc] at hx
      | some v =>
        rw [List.getD_eq_getElem?_getD, hc]
        rw [hc] at hx
        cases hx
        exact rep_ofCell G v

def evO (env : Env) : Operand → AV
  | .tmp t => match env.get t with | some x => x | none => .any
  | .const v => ofVal v
  | .func f => .fn f [] []
  | .global g => globA g

theorem rep_evO {G : Gh} {N : Nat} {env : Env} {a : Act} (h : ERel G N env a) (x : Operand) : Rep G (evO env x) (a.eval x) := by
  cases x with
  | tmp t =>
    simp only [evO]
    cases hx : env.get t with
    | none => exact .any _
    | some x =>
      obtain ⟨v, hv, hr⟩ := h.2.2 t x hx
      simpa [Act.eval, hv] using hr
  | const v => exact rep_ofVal G v
  | func f => exact .fn f [] [] #[] #[] (fun _ => .nilFunc) (fun _ => .nilFunc) rfl rfl (by simp) (by simp) (by simp) (by simp)
  | global g => exact rep_globA h.2.1.1 g

end Go.Pa
