/-
  The ledger: what scripts keep; balances together; plain laws.
-/
import Derived.Test.YtdioiegkpkjmkaaJs
namespace Go.Proofs
open Go.Pa
set_option linter.unusedSimpArgs false
set_option linter.unusedVariables false
set_option maxRecDepth 20000
set_option maxHeartbeats 4000000

/-- What the laws' ledgers keep. -/
structure LOk (B : Nat) (es : List Ent) : Prop where
  len : es.length ≤ B
  val : ∀ e ∈ es, Val e
  snd : Snd es
  acc : ∀ e ∈ es, e.fr ≤ 4 ∧ e.to ≤ 4

theorem LOk.nil : LOk 0 [] := ⟨by simp, by simp, snd_nil, by simp⟩
theorem LOk.up {B C : Nat} {es : List Ent} (h : LOk B es) (hc : B ≤ C) : LOk C es := ⟨by have := h.len; omega, h.val, h.snd, h.acc⟩

theorem snd_of {l : List Ent} (h : ¬ sndB l = false) : Snd l := by
  by_cases hs : Snd l
  · exact hs
  · exact absurd (sndB_f hs) h

theorem addR_cases (es e : List Ent) : ((addR es e).1 = 4 ∧ 16384 < (es ++ e).length ∧ (addR es e).2 = es) ∨ ((addR es e).1 = 16 ∧ ¬ Snd (es ++ e) ∧ (addR es e).2 = es) ∨ ((addR es e).1 = 0 ∧ Snd (es ++ e) ∧ (addR es e).2 = es ++ e) := by
  unfold addR
  split
  · exact .inl ⟨rfl, by assumption, rfl⟩
  · split
    · rename_i h
      refine .inr (.inl ⟨rfl, fun hs => ?_, rfl⟩)
      rw [sndB_t hs] at h; cases h
    · rename_i h
      exact .inr (.inr ⟨rfl, snd_of h, rfl⟩)

theorem postR_cases (es e : List Ent) : ((postR es e).1 = 1 ∧ (e.any fun x => !valB x) = true ∧ (postR es e).2 = es) ∨ ((∀ x ∈ e, Val x) ∧ (postR es e) = addR es e) := by
  unfold postR
  split
  · exact .inl ⟨rfl, by assumption, rfl⟩
  · rename_i h
    exact .inr ⟨any_val (by simpa using h), rfl⟩

theorem LOk.post {B : Nat} {es e : List Ent} (h : LOk B es) {k : Nat} (he : e.length ≤ k) (ha : ∀ x ∈ e, x.fr ≤ 4 ∧ x.to ≤ 4) : LOk (B + k) (postR es e).2 := by
  rcases postR_cases es e with ⟨_, _, h1⟩ | ⟨hv, h1⟩
  · rw [h1]; exact h.up (by omega)
  · rw [h1]
    rcases addR_cases es e with ⟨_, _, h2⟩ | ⟨_, _, h2⟩ | ⟨_, hs, h2⟩
    · rw [h2]; exact h.up (by omega)
    · rw [h2]; exact h.up (by omega)
    · rw [h2]
      refine ⟨by rw [List.length_append]; have := h.len; omega, fun x hx => ?_, hs, fun x hx => ?_⟩
      · rcases List.mem_append.1 hx with hx | hx
        · exact h.val x hx
        · exact hv x hx
      · rcases List.mem_append.1 hx with hx | hx
        · exact h.acc x hx
        · exact ha x hx

theorem voidR_cases (es : List Ent) (dn : List Int) (idx day : Int) : ((voidR es dn idx day).2 = (es, dn)) ∨ (0 ≤ idx ∧ idx < es.length ∧ (es.getD idx.toNat default).day ≤ day ∧ day ≤ 131072 ∧ idx ∉ dn ∧ Snd (es ++ [oppE (es.getD idx.toNat default) idx day]) ∧ (voidR es dn idx day) = (0, es ++ [oppE (es.getD idx.toNat default) idx day], dn ++ [idx, (es.length : Int)])) := by
  unfold voidR
  split
  · exact .inl rfl
  · rename_i h1
    split
    · exact .inl rfl
    · rename_i h2
      split
      · exact .inl rfl
      · rename_i h3
        split
        · exact .inl rfl
        · rename_i h4
          have h5 := inB_iff.1 (by simpa using h1 : inB idx 0 ((es.length : Int) - 1) = true)
          have h6 := inB_iff.1 (by simpa using h2 : inB day (es.getD idx.toNat default).day 131072 = true)
          refine .inr ⟨h5.1, by omega, h6.1, h6.2, h3, ?_, rfl⟩
          have h7 : (addR es [oppE (es.getD idx.toNat default) idx day]).1 = 0 := by simpa using h4
          rcases addR_cases es [oppE (es.getD idx.toNat default) idx day] with ⟨h8, _⟩ | ⟨h8, _⟩ | ⟨_, hs, _⟩
          · rw [h8] at h7; cases h7
          · rw [h8] at h7; cases h7
          · exact hs

theorem LOk.void {B : Nat} {es : List Ent} (h : LOk B es) (hB : B ≤ 16000) {k : Nat} (hk : 1 ≤ k) (dn : List Int) (idx day : Int) : LOk (B + k) (voidR es dn idx day).2.1 := by
  have hl := h.len
  rcases voidR_cases es dn idx day with h1 | ⟨h1, h2, h3, h4, _, hs, h5⟩
  · rw [h1]; exact h.up (by omega)
  · rw [h5]
    have hm : es.getD idx.toNat default ∈ es := getD_mem (by omega)
    have hv := h.val _ hm
    have ha := h.acc _ hm
    generalize es.getD idx.toNat default = e at *
    have hvo := opp_val hv (idx := idx) (day := day) (by omega) ⟨h3, h4⟩
    refine ⟨by simp only [List.length_append, List.length_cons, List.length_nil]; omega, fun x hx => ?_, hs, fun x hx => ?_⟩
    · rcases List.mem_append.1 hx with hx | hx
      · exact h.val x hx
      · simp at hx; subst hx; exact hvo
    · rcases List.mem_append.1 hx with hx | hx
      · exact h.acc x hx
      · simp at hx; subst hx; exact ⟨ha.2, ha.1⟩

/-- What the generator's entries are like. -/
structure GenE (e : Ent) : Prop where
  day : 100 ≤ e.day ∧ e.day ≤ 109
  fr : 0 ≤ e.fr ∧ e.fr ≤ 3
  to : 1 ≤ e.to ∧ e.to ≤ 4
  cur : 0 ≤ e.cur ∧ e.cur ≤ 1
  amt : 1 ≤ e.amt ∧ e.amt ≤ 119
  note : 0 ≤ e.note ∧ e.note ≤ 2

structure GenO (o : Opn) : Prop where
  len : o.es.length ≤ 3
  es : ∀ e ∈ o.es, GenE e
  ix : 0 ≤ o.ix ∧ o.ix ≤ 8
  dy : 100 ≤ o.dy ∧ o.dy ≤ 111

theorem opG_gen {n m : Int} (hn : 0 ≤ n) (hm : 0 ≤ m) : GenO (opG n m) := by
  have t8 := td_b hn (k := 8) (by decide)
  have t9 := tm_b t8.1 (k := 9) (by decide)
  have t3 := tm_b t8.1 (k := 3) (by decide)
  have t12 := tm_b hm (k := 12) (by decide)
  have hmany : manyG n ≤ 3 := by unfold manyG; split <;> omega
  refine ⟨by simpa [opG] using hmany, fun e he => ?_, by simp only [opG]; omega, by simp only [opG]; omega⟩
  simp only [opG, List.mem_map, List.mem_range] at he
  obtain ⟨k, hk, rfl⟩ := he
  have u32 := td_b hn (k := 32) (by decide)
  have u128 := td_b hn (k := 128) (by decide)
  have u16 := td_b hm (k := 16) (by decide)
  have u64 := td_b hm (k := 64) (by decide)
  have v10 := tm_b (n := m + 5 * (k : Int)) (by omega) (k := 10) (by decide)
  have v4 := tm_b (n := n.tdiv 32 + m.tdiv 16 + (k : Int)) (by omega) (k := 4) (by decide)
  have v4' := tm_b u32.1 (k := 4) (by decide)
  have v2 := tm_b u128.1 (k := 2) (by decide)
  have v50 := tm_b u64.1 (k := 50) (by decide)
  have v100 := tm_b u64.1 (k := 100) (by decide)
  unfold entG
  refine ⟨by simp only; omega, ?_, by simp only; omega, by simp only; omega, ?_, by simp only; omega⟩
  · simp only; split <;> omega
  · simp only; split <;> omega

theorem scr_gen {l : List Int} (hl : ∀ x ∈ l, Okk .i64 x) (most : Nat) : ∀ o ∈ scrI l most, GenO o := by
  intro o ho
  simp only [scrI, List.mem_map, List.mem_range] at ho
  obtain ⟨k, hk, rfl⟩ := ho
  have ok1 : Okk .i64 (l.getD (2 * k) 0) := by rw [getD_get (by omega : 2 * k < l.length)]; exact hl _ (List.getElem_mem _)
  have ok2 : Okk .i64 (l.getD (2 * k + 1) 0) := by rw [getD_get (by omega : 2 * k + 1 < l.length)]; exact hl _ (List.getElem_mem _)
  exact opG_gen (aroundI_bound ok1 (m := 1048576) (by decide)).1 (aroundI_bound ok2 (m := 1048576) (by decide)).1

theorem GenO.acc {o : Opn} (h : GenO o) : ∀ x ∈ o.es, x.fr ≤ 4 ∧ x.to ≤ 4 := fun x hx => by have := h.es x hx; have := this.fr; have := (h.es x hx).to; omega

/-! ### Balances -/

theorem bal_in {es : List Ent} (hV : ∀ e ∈ es, Val e) (a c d : Int) : sumL (inF a c 0 d) es - sumL (outF a c 0 d) es = bal es a c d := by
  induction es with
  | nil => rfl
  | cons e es ih =>
    have ih := ih fun x hx => hV x (List.mem_cons_of_mem _ hx)
    have hv := (hV e (List.mem_cons_self ..)).day
    rw [bal_cons, ← ih]
    simp only [sumL]
    have : inF a c 0 d e - outF a c 0 d e = if e.day ≤ d then net e a c else 0 := by
      unfold inF outF net
      by_cases hd : e.day ≤ d
      · have h1 : inB e.day 0 d = true := inB_iff.2 ⟨by omega, hd⟩
        rw [if_pos hd]
        by_cases hc : e.cur = c
        · have h3 : e.cur = c ∧ inB e.day 0 d = true := ⟨hc, h1⟩
          simp only [if_pos h3, if_pos hc]
        · have h3 : ¬ (e.cur = c ∧ inB e.day 0 d = true) := fun h => hc h.1
          simp only [if_neg h3, if_neg hc]; rfl
      · have h1 : ¬ inB e.day 0 d = true := fun h => hd (inB_iff.1 h).2
        have h3 : ¬ (e.cur = c ∧ inB e.day 0 d = true) := fun h => h1 h.2
        simp only [if_neg hd, if_neg h3]; rfl
    omega

def accS (es : List Ent) (c d : Int) : Nat → Int
  | 0 => 0
  | a + 1 => accS es c d a + bal es (a : Int) c d

theorem net_six {e : Ent} (h : Val e) (ha : e.fr ≤ 4 ∧ e.to ≤ 4) (c : Int) : net e 0 c + net e 1 c + net e 2 c + net e 3 c + net e 4 c + net e 5 c = 0 := by
  have h1 := h.fr
  have h2 := h.to
  obtain ⟨d, fr, to, cu, am, no⟩ := e
  simp only at *
  by_cases hc : cu = c
  · subst hc
    have f : fr = 0 ∨ fr = 1 ∨ fr = 2 ∨ fr = 3 ∨ fr = 4 := by omega
    have t : to = 0 ∨ to = 1 ∨ to = 2 ∨ to = 3 ∨ to = 4 := by omega
    rcases f with rfl | rfl | rfl | rfl | rfl <;> rcases t with rfl | rfl | rfl | rfl | rfl <;> simp [net] <;> omega
  · simp [net, hc]

theorem accS_six {es : List Ent} (hV : ∀ e ∈ es, Val e) (hA : ∀ e ∈ es, e.fr ≤ 4 ∧ e.to ≤ 4) (c d : Int) : accS es c d 6 = 0 := by
  have key : bal es 0 c d + bal es 1 c d + bal es 2 c d + bal es 3 c d + bal es 4 c d + bal es 5 c d = 0 := by
    induction es with
    | nil => rfl
    | cons e es ih =>
      have ih := ih (fun x hx => hV x (List.mem_cons_of_mem _ hx)) (fun x hx => hA x (List.mem_cons_of_mem _ hx))
      have h6 := net_six (hV e (List.mem_cons_self ..)) (hA e (List.mem_cons_self ..)) c
      simp only [bal_cons]
      split <;> omega
  simp only [accS]
  simp only [Int.zero_add]
  exact key

theorem bad_no {a c d : Int} (ha : 0 ≤ a ∧ a ≤ 1048576) (hc : 0 ≤ c ∧ c ≤ 7) (hd : 0 ≤ d ∧ d ≤ 131072) : badQ a c [d] = false := by
  unfold badQ
  simp [inB_iff.2 ha, inB_iff.2 hc, inB_iff.2 hd]
theorem bad_no2 {a c d e : Int} (ha : 0 ≤ a ∧ a ≤ 1048576) (hc : 0 ≤ c ∧ c ≤ 7) (hd : 0 ≤ d ∧ d ≤ 131072) (he : 0 ≤ e ∧ e ≤ 131072) : badQ a c [d, e] = false := by
  unfold badQ
  simp [inB_iff.2 ha, inB_iff.2 hc, inB_iff.2 hd, inB_iff.2 he]

theorem balQ_ok {es : List Ent} (hV : ∀ e ∈ es, Val e) {a c d : Int} (ha : 0 ≤ a ∧ a ≤ 1048576) (hc : 0 ≤ c ∧ c ≤ 7) (hd : 0 ≤ d ∧ d ≤ 131072) : balQ es a c d = (bal es a c d, 0) := by
  unfold balQ
  rw [bad_no ha hc hd, if_neg (by decide), bal_in hV]
theorem turnQ_ok {es : List Ent} {a c lo hi : Int} (ha : 0 ≤ a ∧ a ≤ 1048576) (hc : 0 ≤ c ∧ c ≤ 7) (hd : 0 ≤ lo ∧ lo ≤ 131072) (he : lo ≤ hi ∧ hi ≤ 131072) : turnQ es a c lo hi = (sumL (inF a c lo hi) es, sumL (outF a c lo hi) es, 0) := by
  unfold turnQ
  rw [bad_no2 ha hc hd ⟨by omega, he.2⟩, if_neg]
  rintro (h | h)
  · cases h
  · omega

end Go.Proofs
