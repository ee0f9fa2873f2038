/-
  From the contract of a law to its row: arguments that are integers, strings and slices of integers.
-/
import Derived.Test.YtnkealmacacipaaAbs27
import Derived.ProofKit
import Derived.OpenShut
namespace Go.Pa
set_option linter.unusedSectionVars false
variable [GTab]
open Go.ChangeShapes Go.WideShapes Go.RowKit
open Go.ChangeMaps (open_string)

/-- The kinds of a law's parameters. -/
inductive PK where
  | int (k : IntKind)
  | str
  | ints (k : IntKind)

/-- A number of its kind. -/
def Okk (k : IntKind) (n : Int) : Prop := k.min ≤ n ∧ n ≤ k.max

def PK.fits (P : Program) (t : TypeId) : PK → Prop
  | .int k => P.underlying t = some (.int k)
  | .str => P.underlying t = some .string
  | .ints k => ∃ e, P.underlying t = some (.slice e) ∧ P.underlying e = some (.int k) ∧ P.cellsOf e = 1

/-- What is known of an argument. -/
def PK.says : PK → AV → Prop
  | .int k, x => ∃ n, x = .int k n ∧ Okk k n
  | .str, x => ∃ l, x = .str l ∧ U8s l ∧ l.length ≤ 9223372036854775807
  | .ints k, x => ∃ l, x = .ints k l ∧ (∀ n ∈ l, Okk k n) ∧ l.length ≤ 9223372036854775807

def fitsAll (P : Program) : List PK → List TypeId → Prop
  | [], [] => True
  | p :: ps, t :: ts => p.fits P t ∧ fitsAll P ps ts
  | _, _ => False

def saysAll : List PK → List AV → Prop
  | [], [] => True
  | p :: ps, x :: xs => p.says x ∧ saysAll ps xs
  | _, _ => False

theorem saysAll_cons {p : PK} {ps : List PK} {xs : List AV} (h : saysAll (p :: ps) xs) : ∃ x r, xs = x :: r ∧ p.says x ∧ saysAll ps r := by
  cases xs with
  | nil => exact h.elim
  | cons x r => exact ⟨x, r, rfl, h.1, h.2⟩
theorem saysAll_nil {xs : List AV} (h : saysAll [] xs) : xs = [] := by
  cases xs with
  | nil => rfl
  | cons x r => exact h.elim

theorem okk_u8s {l : List Int} (h : ∀ n ∈ l, Okk .u8 n) : U8s l := fun n hn => by
  have := h n hn
  simp [Okk, IntKind.min, IntKind.max, IntKind.signed, IntKind.bits] at this
  omega
theorem okk_i64 {n : Int} (h : Okk .i64 n) : -9223372036854775808 ≤ n ∧ n < 9223372036854775808 := by
  simp [Okk, IntKind.min, IntKind.max, IntKind.signed, IntKind.bits] at h
  omega
theorem okk_u64 {n : Int} (h : Okk .u64 n) : 0 ≤ n ∧ n < 18446744073709551616 := by
  simp [Okk, IntKind.min, IntKind.max, IntKind.signed, IntKind.bits] at h
  omega
theorem okk_u8 {n : Int} (h : Okk .u8 n) : 0 ≤ n ∧ n < 256 := by
  simp [Okk, IntKind.min, IntKind.max, IntKind.signed, IntKind.bits] at h
  omega

section
variable {H : Type} {enc : TypeId × Value → H} {P : Program} {W : World}

theorem okk_wf {k : IntKind} {n : Int} (h : (Lit.int k n).wf = true) : Okk k n := by
  simpa [Lit.wf, Okk] using h

theorem now_cell {b o : Nat} {c : Value} (h : W.cell? ⟨b, o, none⟩ = some c) (h1 : c.oneCell' = true) : (Gh.now W).imm b o = some c := by
  simp [Gh.now, h, h1]

theorem open_arg {r : Reach} {b0 : Nat} {pk : PK} {t : TypeId} {v : Value} {d : DataW H} {ps : List MemPlace} (hf : pk.fits P t) (hval : Value.okWide P W r b0 t v)
    (hd : DataW.Trod enc P W 0 (fun _ => true) true t v d ps) : ∃ x, pk.says x ∧ Rep (Gh.now W) x v := by
  cases pk with
  | int k =>
    obtain ⟨n, rfl, _, _, hw⟩ := open_int hf hval hd
    exact ⟨.int k n, ⟨n, rfl, okk_wf hw⟩, .int k n⟩
  | str =>
    obtain ⟨s, rfl, _, _, hs⟩ := open_string hf hval hd
    refine ⟨.str (s.data.toList.map fun b => (b.toNat : Int)), ⟨_, rfl, ?_, ?_⟩, .str _ s rfl⟩
    · intro x hx
      simp only [List.mem_map] at hx
      obtain ⟨b, _, rfl⟩ := hx
      have := b.toNat_lt
      omega
    · have : s.data.toList.length = s.size := by rw [Array.length_toList]; rfl
      rw [List.length_map, this]
      have h2 := hs
      unfold maxLen at h2
      omega
  | ints k =>
    obtain ⟨e, h1, h2, h3⟩ := hf
    obtain ⟨a, len, cap, rfl⟩ := okWide_slice h1 hval
    obtain ⟨fuel, hq⟩ := hd
    rcases open_ints h1 h2 h3 hq with ⟨hcs, _⟩ | ⟨a', len', cap', zs, hcs, _, hl, hm, hz, _, hcell, hw⟩
    · simp [Value.cells] at hcs
      obtain ⟨rfl, rfl, rfl⟩ := hcs
      exact ⟨.ints k [], ⟨[], rfl, by simp, by simp⟩, .ints0 k none 0⟩
    · simp [Value.cells] at hcs
      obtain ⟨rfl, rfl, rfl⟩ := hcs
      simp only [if_true] at hz
      have hlen : (zs.take len).length = len := by rw [List.length_take]; omega
      refine ⟨.ints k (zs.take len), ⟨_, rfl, fun n hn => okk_wf (hw n (List.mem_of_mem_take hn)), by rw [hlen]; simp only [maxLen] at hm; omega⟩, ?_⟩
      rcases Nat.eq_zero_or_pos len with h0 | h0
      · subst h0
        exact .ints0 k _ _
      · have hs : a'.spot = none := by
          have := hcell 0 (by omega)
          simp only [Addr.add, if_true, World.cell?] at this
          split at this
          · split at this
            · cases this
            · rename_i hsp; simpa using hsp
          · cases this
        obtain ⟨b, o, sp⟩ := a'
        simp only at hs
        subst hs
        have key : Rep (Gh.now W) (.ints k (zs.take len)) (.slice (some ⟨b, o, none⟩) (zs.take len).length cap) := by
          refine .ints k _ b o cap (by omega) fun i x hx => ?_
          rw [List.getElem?_take] at hx
          split at hx
          · have hi : i < zs.length := (List.getElem?_eq_some_iff.1 hx).1
            have := hcell i hi
            rw [add_lit] at this
            refine now_cell (c := .int k x) ?_ rfl
            rw [this]
            simp [List.getD, hx]
          · cases hx
        rw [hlen] at key
        exact key

theorem open_args : ∀ {ks : List PK} {ts : List TypeId} {vs : List Value} {ds : List (DataW H)} {ps : List MemPlace}, fitsAll P ks ts → (∀ (j : Nat) t v, ts[j]? = some t → vs[j]? = some v → ∃ r b, Value.okWide P W r b t v) →
    DataW.TrodAll enc P W 0 (fun _ => true) true ts vs ds ps → ∃ xs, saysAll ks xs ∧ RepL (Gh.now W) xs vs
  | [], [], vs, ds, ps, _, _, h => by
    obtain ⟨rfl, _, _⟩ := trodAll_nil h
    exact ⟨[], trivial, .nil⟩
  | k :: ks, t :: ts, vs, ds, ps, hf, hv, h => by
    obtain ⟨v, vs', d, ds', p, q, rfl, rfl, rfl, h1, h2⟩ := trodAll_cons h
    obtain ⟨r, b, hok⟩ := hv 0 t v rfl rfl
    obtain ⟨x, hx, hr⟩ := open_arg hf.1 hok h1
    obtain ⟨xs, hxs, hrs⟩ := open_args hf.2 (fun j t' v' a b => hv (j + 1) t' v' (by simpa using a) (by simpa using b)) h2
    exact ⟨x :: xs, ⟨hx, hxs⟩, .cons hr hrs⟩
  | [], _ :: _, _, _, _, hf, _, _ => hf.elim
  | _ :: _, [], _, _, _, hf, _, _ => hf.elim

theorem trod_len : ∀ {ts : List TypeId} {vs : List Value} {ds : List (DataW H)} {ps : List MemPlace} {sp : Nat → Bool} {hd : Bool} {b : Nat}, DataW.TrodAll enc P W b sp hd ts vs ds ps → ds.length = ts.length
  | [], _, _, _, _, _, _, h => by obtain ⟨_, rfl, _⟩ := trodAll_nil h; rfl
  | t :: ts, _, _, _, _, _, _, h => by
    obtain ⟨v, vs', d, ds', p, q, rfl, rfl, rfl, h1, h2⟩ := trodAll_cons h
    simp [trod_len h2]

theorem args_stay (hl : laidOutB P = true) {W' : World} (hb : Below W.heap.size W W') {sp : Nat → Bool} : ∀ {ts : List TypeId} {vs : List Value} {ds : List (DataW H)} {ps : List MemPlace}, (∀ t ∈ ts, P.readableRec t = true ∧ t < P.types.size) →
    DataW.TrodAll enc P W 0 (fun _ => true) true ts vs ds ps → (∀ p ∈ ps, p.block < W.heap.size) → (∀ p ∈ ps, sp p.block = true) → DataW.TrodAll enc P W' 0 sp true ts vs ds ps
  | [], vs, ds, ps, _, h, _, _ => by
    obtain ⟨rfl, rfl, rfl⟩ := trodAll_nil h
    exact rfl
  | t :: ts, vs, ds, ps, hr, h, hlt, hsp => by
    obtain ⟨v, vs', d, ds', p, q, rfl, rfl, rfl, h1, h2⟩ := trodAll_cons h
    obtain ⟨r1, r2⟩ := hr t (by simp)
    exact ⟨p, q, WideElems.Trod_stays hl r1 r2 h1 (fun x hx => hb.same (hlt x (by simp [hx]))) (fun x hx => hsp x (by simp [hx])),
      args_stay hl hb (fun t ht => hr t (by simp [ht])) h2 (fun x hx => hlt x (by simp [hx])) (fun x hx => hsp x (by simp [hx])), rfl⟩

/-- **A law's contract gives what its row asks.** -/
theorem law_contract {f : FuncId} {fn : Func} {s : ChangeSpec} {ks : List PK} {tb : TypeId} (hl : laidOutB P = true) (hfit : fitsAll P ks fn.params.toList)
    (hread : ∀ t ∈ fn.params.toList, P.readableRec t = true ∧ t < P.types.size) (hres : fn.resultTypes = #[tb]) (hbool : P.underlying tb = some .bool) (hvars : s.vars = [])
    (hs : ∀ ds : List (DataW H), ds.length = fn.params.toList.length → s.fn H ds = { results := [.lit (.bool true)], args := ds })
    (h : ∀ xs, saysAll ks xs → ACalls P f xs [] fun r _ => r = .bool true) {fresh handsOn : Bool} {base : Nat} {args : Array Value} {ds gs : List (DataW H)} {before : List MemPlace}
    (hglob : GlobOk (Gh.now W)) (hval : ∀ (j : Nat) t v, fn.params[j]? = some t → args[j]? = some v → Value.okWide P W .any base t v)
    (hW : DataW.Whole enc P fn.params.toList s.vars false W args.toList ds gs before) :
    Calls P f args W fun e W' => ∃ v, e = .returned v ∧ s.post enc P fn false fresh handsOn false W args v W' := by
  have hW' := hW
  obtain ⟨p, q, hA, hV, rfl, hfz, hnd⟩ := hW
  rw [hvars] at hV
  obtain ⟨rfl, rfl⟩ := trodVars_none hV
  obtain ⟨xs, hxs, hrs⟩ := open_args hfit (fun j t v a b => ⟨.any, base, hval j t v (by simpa using a) (by simpa using b)⟩) hA
  have hlen := trod_len hA
  refine ((h xs hxs).2 (Gh.now W) W args (WRel.now hglob) hrs).mono fun e W' ⟨v, r, σ', G', he, hle, hw', hr, hrb⟩ => ?_
  subst hrb
  cases hr
  refine ⟨.bool true, he, ?_⟩
  have hb : Below W.heap.size W W' := by
    have hw0 : G'.w0 = W := hle.w0
    have hbase : G'.base = W.heap.size := hle.base
    have := hw'.below (by rw [hw0, hbase])
    rw [hw0, hbase] at this
    exact this
  have hlt : ∀ x ∈ p, x.block < W.heap.size := fun x hx => by simpa using hW'.lt x (by simpa using hx)
  have hfn := hs ds hlen
  refine ⟨ds, [], p ++ [], [], p, [], by simpa [hvars] using hW', ?_, ?_, ?_, hb.frame _, fun h => by cases h⟩
  · rw [List.append_nil, hfn, hres]
    exact trodAll_mk1 (shut_bool hbool true)
  · rw [List.append_nil, hfn]
    exact args_stay hl hb hread hA hlt fun x hx => by simpa using hlt x hx
  · rw [List.append_nil, hfn, hvars]
    exact rfl
end
end Go.Pa
