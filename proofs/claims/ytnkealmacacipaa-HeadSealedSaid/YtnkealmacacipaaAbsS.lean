/-
  From the contract of a law to its row, where slices are no longer than a machine can hold.
-/
import Derived.Test.YtnkealmacacipaaAbsAll
import Derived.SizedLaws
namespace Go.Pa
set_option linter.unusedSectionVars false
variable [GTab]
open Go.ChangeShapes Go.WideShapes Go.RowKit
open Go.ChangeMaps (open_string)
section
variable {H : Type} {enc : TypeId × Value → H} {P : Program} {W : World}

/-- Every slice among the types has elements of at least one byte. -/
def sizedB (P : Program) (ts : List TypeId) : Bool := ts.all fun t => match P.underlying t with
  | some (.slice e) => decide (1 ≤ P.bytesOf e)
  | _ => true

theorem sizedB_slice {ts : List TypeId} (h : sizedB P ts = true) : ∀ t ∈ ts, ∀ e, P.underlying t = some (.slice e) → 1 ≤ P.bytesOf e := by
  intro t ht e he
  have := List.all_eq_true.1 h t ht
  simp only [he] at this
  exact of_decide_eq_true this

theorem lits_len (k : IntKind) (l : List Int) : (lits (H := H) k l).length = l.length := by simp [lits]

theorem open_argS {r : Reach} {b0 : Nat} {pk : PK} {t : TypeId} {v : Value} {d : DataW H} {ps : List MemPlace} (hf : pk.fits P t) (hby : ∀ e, P.underlying t = some (.slice e) → 1 ≤ P.bytesOf e) (hval : Value.okWide P W r b0 t v)
    (hd : DataW.Trod enc P W 0 (fun _ => true) true t v d ps) (hw : ∀ n ∈ d.weights P t, n ≤ reachBytes) : ∃ x, pk.says x ∧ (∀ k l, x = .ints k l → l.length ≤ reachBytes) ∧ Rep (Gh.now W) x v := by
  obtain ⟨x, hx, hr⟩ := open_arg hf hval hd
  cases pk with
  | int k => exact ⟨x, hx, (fun k l h => by obtain ⟨n, h1, _⟩ := hx; rw [h1] at h; exact absurd h (by intro h; injection h)), hr⟩
  | str => exact ⟨x, hx, (fun k l h => by obtain ⟨n, h1, _⟩ := hx; rw [h1] at h; exact absurd h (by intro h; injection h)), hr⟩
  | ints k =>
    obtain ⟨e, h1, h2, h3⟩ := hf
    obtain ⟨l, rfl, hk, hl⟩ := hx
    obtain ⟨fuel, hq⟩ := hd
    obtain ⟨a, len, cap, rfl⟩ := okWide_slice h1 hval
    have hlen : l.length = len := by
      generalize hv : Value.slice a len cap = v at hr
      cases hr with
      | ints0 _ _ _ => cases hv; rfl
      | ints _ _ _ _ _ _ _ => cases hv; rfl
    refine ⟨_, ⟨l, rfl, hk, hl⟩, fun k' l' h => ?_, hr⟩
    cases h
    rcases open_ints h1 h2 h3 hq with ⟨hcs, _⟩ | ⟨a', len', cap', zs, hcs, _, hlc, hm, hz, hx, _, _⟩
    · simp [Value.cells] at hcs
      omega
    · simp [Value.cells] at hcs
      obtain ⟨rfl, rfl, rfl⟩ := hcs
      simp only [if_true] at hz
      have hd : d = .slice (lits k (zs.take len)) (lits k (zs.drop len)) := congrArg Prod.fst hx
      have := hw (((lits (H := H) k (zs.take len)).length + (lits (H := H) k (zs.drop len)).length) * P.bytesOf e) (by rw [hd]; simp [DataW.weights, h1])
      rw [lits_len, lits_len, List.length_take, List.length_drop] at this
      have hb := hby e h1
      have hge : min len zs.length + (zs.length - len) ≤ (min len zs.length + (zs.length - len)) * P.bytesOf e := Nat.le_mul_of_pos_right _ hb
      omega

theorem open_argsS : ∀ {ks : List PK} {ts : List TypeId} {vs : List Value} {ds : List (DataW H)} {ps : List MemPlace}, fitsAll P ks ts → (∀ t ∈ ts, ∀ e, P.underlying t = some (.slice e) → 1 ≤ P.bytesOf e) →
    (∀ (j : Nat) t v, ts[j]? = some t → vs[j]? = some v → ∃ r b, Value.okWide P W r b t v) → (∀ (j : Nat) t d, ts[j]? = some t → ds[j]? = some d → ∀ n ∈ DataW.weights P t d, n ≤ reachBytes) →
    DataW.TrodAll enc P W 0 (fun _ => true) true ts vs ds ps → ∃ xs, saysAll ks xs ∧ (∀ k l, AV.ints k l ∈ xs → l.length ≤ reachBytes) ∧ RepL (Gh.now W) xs vs
  | [], [], vs, ds, ps, _, _, _, _, h => by
    obtain ⟨rfl, _, _⟩ := trodAll_nil h
    exact ⟨[], trivial, by simp, .nil⟩
  | k :: ks, t :: ts, vs, ds, ps, hf, hby, hv, hw, h => by
    obtain ⟨v, vs', d, ds', p, q, rfl, rfl, rfl, h1, h2⟩ := trodAll_cons h
    obtain ⟨r, b, hok⟩ := hv 0 t v rfl rfl
    obtain ⟨x, hx, hxs0, hr⟩ := open_argS hf.1 (hby t (by simp)) hok h1 (hw 0 t d rfl rfl)
    obtain ⟨xs, hxs, hxs1, hrs⟩ := open_argsS hf.2 (fun t ht => hby t (by simp [ht])) (fun j t' v' a b => hv (j + 1) t' v' (by simpa using a) (by simpa using b)) (fun j t' d' a b => hw (j + 1) t' d' (by simpa using a) (by simpa using b)) h2
    refine ⟨x :: xs, ⟨hx, hxs⟩, fun k l hm => ?_, .cons hr hrs⟩
    rcases List.mem_cons.1 hm with h | h
    · exact hxs0 k l h.symm
    · exact hxs1 k l h
  | [], _ :: _, _, _, _, hf, _, _, _, _ => hf.elim
  | _ :: _, [], _, _, _, hf, _, _, _, _ => hf.elim

/-- **A law's contract gives what its row asks**, where slices are told to be no longer than a machine can hold. -/
theorem law_contractS {f : FuncId} {fn : Func} {s : ChangeSpec} {ks : List PK} {tb : TypeId} (hl : laidOutB P = true) (hfit : fitsAll P ks fn.params.toList) (hby : sizedB P fn.params.toList = true)
    (hread : ∀ t ∈ fn.params.toList, P.readableRec t = true ∧ t < P.types.size) (hres : fn.resultTypes = #[tb]) (hbool : P.underlying tb = some .bool) (hvars : s.vars = [])
    (hs : ∀ ds : List (DataW H), ds.length = fn.params.toList.length → s.fn H ds = { results := [.lit (.bool true)], args := ds })
    (h : ∀ xs, saysAll ks xs → (∀ k l, AV.ints k l ∈ xs → l.length ≤ reachBytes) → ACalls P f xs [] fun r _ => r = .bool true) {fresh handsOn : Bool} {base : Nat} {args : Array Value} {ds gs : List (DataW H)} {before : List MemPlace}
    (hglob : GlobOk (Gh.now W)) (hval : ∀ (j : Nat) t v, fn.params[j]? = some t → args[j]? = some v → Value.okWide P W .any base t v)
    (hW : DataW.Whole enc P fn.params.toList s.vars false W args.toList ds gs before)
    (hsz : (DataW.weightsEach P (fn.params.toList ++ s.plain.varTypes P) (ds ++ gs)).all (· ≤ reachBytes) = true) :
    Calls P f args W fun e W' => ∃ v, e = .returned v ∧ s.post enc P fn false fresh handsOn false W args v W' := by
  have hW' := hW
  obtain ⟨p, q, hA, hV, rfl, hfz, hnd⟩ := hW
  rw [hvars] at hV
  obtain ⟨rfl, rfl⟩ := trodVars_none hV
  have hlen := trod_len hA
  obtain ⟨xs, hxs, hxl, hrs⟩ := open_argsS hfit (sizedB_slice hby) (fun j t v a b => ⟨.any, base, hval j t v (by simpa using a) (by simpa using b)⟩) (fun j t d a b n hn => by
    have hj := (List.getElem?_eq_some_iff.1 a).1
    have h1 : (fn.params.toList ++ s.plain.varTypes P)[j]? = some t := by rw [List.getElem?_append_left hj]; exact a
    have h2 : (ds ++ [])[j]? = some d := by rw [List.append_nil]; exact b
    have := List.all_eq_true.1 hsz _ (DataW.weights_mem_each h1 h2 n hn)
    simpa using this) hA
  refine ((h xs hxs hxl).2 (Gh.now W) W args (WRel.now hglob) hrs).mono fun e W' ⟨v, r, σ', G', he, hle, hw', hr, hrb⟩ => ?_
  subst hrb
  cases hr
  refine ⟨.bool true, he, ?_⟩
  have hb : Below W.heap.size W W' := by
    have hw0 : G'.w0 = W := hle.w0
    have hbase : G'.base = W.heap.size := hle.base
    have := hw'.below (by rw [hw0, hbase])
    rw [hw0, hbase] at this
    exact this
  have hlt : ∀ x ∈ p, x.block < W.heap.size := fun x hx => by simpa using hW'.lt x (by simpa using hx)
  have hfn := hs ds hlen
  refine ⟨ds, [], p ++ [], [], p, [], by simpa [hvars] using hW', ?_, ?_, ?_, hb.frame _, fun h => by cases h⟩
  · rw [List.append_nil, hfn, hres]
    exact trodAll_mk1 (shut_bool hbool true)
  · rw [List.append_nil, hfn]
    exact args_stay hl hb hread hA hlt fun x hx => by simpa using hlt x hx
  · rw [List.append_nil, hfn, hvars]
    exact rfl
end
end Go.Pa
