/- A region that draws its order, in which every operation yields what it yields whatever order is drawn: each operation is looked at once. No function of the program here. -/
import Derived.WalkKit
import Derived.Orders
import Derived.Deep.Draws
set_option linter.unusedSimpArgs false
set_option linter.unusedVariables false
namespace Go.Proofs.YthhallnkpbgomaaDoor.Free
open Go

/-- What is asked of an operation that has yielded this. -/
def Yields (P : Program) (K : Value → World → Prop) : Result Next → Prop
  | .ok (.value v) w' => K v w'
  | .ok .skip w' => K undef w'
  | .ok (.enter f args) w' => Calls P f args w' fun e w'' => ∃ v, e = .returned v ∧ K v w''
  | _ => False

theorem wp_of_yields {P : Program} {o : Oper} {a : Act} {w : World} {K : Value → World → Prop} {next : Act → World → Prop} {Q : Exit → Act → World → Prop}
    (h : Yields P K ((execOp a.eval o).run P w)) (hn : ∀ v w', K v w' → next (a.put o.dst v) w') : o.wp P a w next Q := by
  unfold Oper.wp
  generalize (execOp a.eval o).run P w = r at h ⊢
  cases r with
  | ok n w' =>
    cases n <;> simp only [Yields] at h <;> simp only [Oper.upon]
    · exact hn _ _ h
    · exact hn _ _ h
    · exact Calls.mono h fun e w'' ⟨v, he, hk⟩ => by subst he; exact hn _ _ hk
  | halt x w' => simp only [Yields] at h

abbrev VT := Value → World → Prop
def At (Vs : List VT) (i : Nat) (v : Value) (w : World) : Prop :=
  match Vs[i]? with
  | some V => V v w
  | none => True

/-- The operations that this one waits for, with their slots. -/
def deps (ops : Array Oper) (o : Oper) : List (Nat × Tmp) :=
  o.after.toList.filterMap fun e => if Region.binds .any e then ((ops[e.on]?).bind (·.dst)).map fun d => (e.on, d) else none
def isDst (ops : Array Oper) (t : Tmp) : Bool := ops.any fun o => o.dst == some t
/-- The slots that it looks at and that no operation of the region writes. -/
def outs (ops : Array Oper) (o : Oper) : List Tmp := (o.looksAt ops).filter fun t => !isDst ops t
def AllDeps (Vs : List VT) (ev : Operand → Value) (w : World) : List (Nat × Tmp) → Prop
  | [] => True
  | p :: r => At Vs p.1 (ev (.tmp p.2)) w ∧ AllDeps Vs ev w r
def AllOuts (a0 : Act) (ev : Operand → Value) : List Tmp → Prop
  | [] => True
  | t :: r => ev (.tmp t) = a0.tmps.getD t undef ∧ AllOuts a0 ev r
def Base (ev : Operand → Value) : Prop := (∀ v, ev (.const v) = v) ∧ (∀ g, ev (.global g) = .pointer (some ⟨g, 0, none⟩)) ∧ ∀ f, ev (.func f) = .func (.func f) #[] #[]
/-- Whether it is wanted. -/
def wantedEv (ops : Array Oper) (o : Oper) (ev : Operand → Value) : Bool :=
  match o.guard with
  | none => true
  | some (j, want) => match (ops[j]?).bind (·.dst) with
    | some d => (match ev (.tmp d) with | .bool b => b == want | _ => false)
    | none => false

def OpOk (P : Program) (R : World → World → Prop) (w0 : World) (a0 : Act) (ops : Array Oper) (o : Oper) (Vs : List VT) (V : VT) : Prop :=
  ∀ ev w, Base ev → R w0 w → AllOuts a0 ev (outs ops o) → AllDeps Vs ev w (deps ops o) →
    (wantedEv ops o ev = true → Yields P (fun v w' => R w w' ∧ V v w') ((execOp ev o).run P w)) ∧ (wantedEv ops o ev = false → V undef w)
def Stable (R : World → World → Prop) (V : VT) : Prop := ∀ v w w', R w w' → V v w → V v w'

def Chain (P : Program) (R : World → World → Prop) (w0 : World) (a0 : Act) (ops : Array Oper) (Fin : List VT → Prop) : List Oper → List VT → Prop
  | [], Vs => Fin Vs
  | o :: rest, Vs => ∃ V, Stable R V ∧ OpOk P R w0 a0 ops o Vs V ∧ Chain P R w0 a0 ops Fin rest (Vs ++ [V])

/-- That the region is as the theorem wants it. -/
def wfB (ops : Array Oper) (n : Nat) : Bool :=
  (List.range ops.size).all fun i =>
    match ops[i]? with
    | none => false
    | some o =>
      (o.after.all fun e => !Region.binds .any e || decide (e.on < i)) &&
      ((o.looksAt ops).all fun t => !isDst ops t || (deps ops o).any fun p => p.2 == t) &&
      (match o.dst with
        | none => true
        | some d => decide (d < n) && (List.range ops.size).all fun j => j == i || ((ops[j]?).bind (·.dst)) != some d)

def putsFrom (xs : Nat → Value) : List Oper → Nat → Act → Act
  | [], _, a => a
  | o :: r, k, a => putsFrom xs r (k + 1) (a.put o.dst (xs k))
def AllV (Vs : List VT) (xs : Nat → Value) (w : World) : Nat → Prop
  | 0 => True
  | n + 1 => AllV Vs xs w n ∧ At Vs n (xs n) w

section
variable {P : Program} {R : World → World → Prop} {w0 : World} {a0 : Act} {ops : Array Oper} {Fin : List VT → Prop}

theorem At_append {Vs Us : List VT} {i : Nat} (h : i < Vs.length) {v : Value} {w : World} : At (Vs ++ Us) i v w ↔ At Vs i v w := by
  simp [At, List.getElem?_append_left h]

theorem AllDeps.of {Vs Us : List VT} {ev : Operand → Value} {w : World} : ∀ {l : List (Nat × Tmp)}, (∀ p ∈ l, p.1 < Vs.length) → (∀ p ∈ l, At (Vs ++ Us) p.1 (ev (.tmp p.2)) w) → AllDeps Vs ev w l
  | [], _, _ => trivial
  | p :: r, h1, h2 => ⟨(At_append (h1 p (by simp))).1 (h2 p (by simp)), AllDeps.of (fun q hq => h1 q (by simp [hq])) fun q hq => h2 q (by simp [hq])⟩
theorem AllOuts.of {ev : Operand → Value} : ∀ {l : List Tmp}, (∀ t ∈ l, ev (.tmp t) = a0.tmps.getD t undef) → AllOuts a0 ev l
  | [], _ => trivial
  | t :: r, h => ⟨h t (by simp), AllOuts.of fun q hq => h q (by simp [hq])⟩

/-- What the chain gives: a list of what holds of every value. -/
theorem Chain.all : ∀ (rest : List Oper) (Vs : List VT), Chain P R w0 a0 ops Fin rest Vs →
    (∀ V ∈ Vs, Stable R V) → (∃ Us, Fin (Vs ++ Us) ∧ Us.length = rest.length ∧ (∀ V ∈ Vs ++ Us, Stable R V) ∧
      ∀ i o, rest[i]? = some o → ∃ V, (Vs ++ Us)[Vs.length + i]? = some V ∧ OpOk P R w0 a0 ops o ((Vs ++ Us).take (Vs.length + i)) V)
  | [], Vs, h, hs => ⟨[], by simpa [Chain] using h, rfl, by simpa using hs, by simp⟩
  | o :: rest, Vs, ⟨V, h1, h2, h3⟩, hs => by
    obtain ⟨Us, g1, g2, g3, g4⟩ := Chain.all rest (Vs ++ [V]) h3 (by
      intro U hU
      rcases List.mem_append.1 hU with hU | hU
      · exact hs U hU
      · simp at hU; subst hU; exact h1)
    refine ⟨V :: Us, by simpa using g1, by simp [g2], by simpa using g3, ?_⟩
    intro i o' hi
    cases i with
    | zero =>
      simp at hi
      subst hi
      refine ⟨V, by simp, ?_⟩
      have : (Vs ++ V :: Us).take (Vs.length + 0) = Vs := by simp
      rw [this]
      exact h2
    | succ i =>
      have := g4 i o' (by simpa using hi)
      simp only [List.length_append, List.length_singleton, List.append_assoc, List.singleton_append] at this
      rw [show Vs.length + (i + 1) = Vs.length + 1 + i by omega]
      exact this

structure Inv (R : World → World → Prop) (w0 : World) (a0 : Act) (ops : Array Oper) (Vs : List VT) (listed : Array Bool) (a : Act) (w : World) : Prop where
  hd : a.defers = a0.defers
  hsz : a.tmps.size = a0.tmps.size
  hls : listed.size = ops.size
  hR : R w0 w
  hout : ∀ t, (∀ (i : Nat) o, ops[i]? = some o → o.dst = some t → listed.getD i true = false) → a.tmps.getD t undef = a0.tmps.getD t undef
  hval : ∀ (i : Nat) o, ops[i]? = some o → listed.getD i true = true → (match o.dst with | some d => At Vs i (a.tmps.getD d undef) w | none => ∃ v, At Vs i v w)

theorem wanted_eq (o : Oper) (a : Act) : wantedEv ops o a.eval = Region.wanted o (yielded ops a.tmps) := by
  unfold wantedEv Region.wanted
  cases o.guard with
  | none => rfl
  | some g =>
    obtain ⟨j, want⟩ := g
    simp only [yielded]
    cases h : (ops[j]?).bind (·.dst) with
    | none => simp
    | some d =>
      simp only [Option.bind_some, Act.eval, Array.getD_eq_getD_getElem?]
      cases ht : a.tmps[d]? with
      | none => simp [undef]
      | some v => cases v <;> simp

theorem getD_put (a : Act) (d t : Tmp) (v : Value) : (a.put (some d) v).tmps.getD t undef = if d = t ∧ d < a.tmps.size then v else a.tmps.getD t undef := by
  simp only [Act.put, Array.getD_eq_getD_getElem?, Array.getElem?_setIfInBounds]
  by_cases h : d = t
  · subst h
    by_cases h2 : d < a.tmps.size
    · simp [h2]
    · simp [h2]
  · simp [h]
theorem put_size (a : Act) (d : Option Tmp) (v : Value) : (a.put d v).tmps.size = a.tmps.size := by cases d <;> simp [Act.put]
theorem put_defers (a : Act) (d : Option Tmp) (v : Value) : (a.put d v).defers = a.defers := by cases d <;> rfl

theorem wf_spec {n : Nat} (hwf : wfB ops n = true) {i : Nat} {o : Oper} (ho : ops[i]? = some o) :
    (∀ e ∈ o.after, Region.binds .any e = true → e.on < i) ∧ (∀ t ∈ o.looksAt ops, isDst ops t = true → ∃ p ∈ deps ops o, p.2 = t) ∧
    (∀ d, o.dst = some d → d < n ∧ ∀ j o', ops[j]? = some o' → o'.dst = some d → j = i) := by
  have hi : i < ops.size := (Array.getElem?_eq_some_iff.1 ho).1
  have h := List.all_eq_true.1 hwf i (List.mem_range.2 hi)
  simp only [ho, Bool.and_eq_true] at h
  obtain ⟨⟨h1, h2⟩, h3⟩ := h
  refine ⟨fun e he hb => ?_, fun t ht hd => ?_, fun d hd => ?_⟩
  · have := Array.all_eq_true_iff_forall_mem.1 h1 e he
    simpa [hb] using this
  · have := List.all_eq_true.1 h2 t ht
    simp only [hd, Bool.not_true, Bool.false_or, List.any_eq_true, beq_iff_eq] at this
    exact this
  · simp only [hd, Bool.and_eq_true, decide_eq_true_eq] at h3
    refine ⟨h3.1, fun j o' hj hd' => ?_⟩
    have hjl : j < ops.size := (Array.getElem?_eq_some_iff.1 hj).1
    have := List.all_eq_true.1 h3.2 j (List.mem_range.2 hjl)
    simpa [hj, hd'] using this

theorem getD_set_same {l : Array Bool} {i : Nat} (h : i < l.size) : (l.setIfInBounds i true).getD i true = true := by simp [h]
theorem getD_set_other {l : Array Bool} {i j : Nat} (h : i ≠ j) : (l.setIfInBounds i true).getD j true = l.getD j true := by
  simp [Array.getD_eq_getD_getElem?, Array.getElem?_setIfInBounds_ne h]

theorem Inv.step {Vs : List VT} {Q : Exit → Act → World → Prop} (hwf : wfB ops a0.tmps.size = true) (hre : ∀ a, R a a) (htr : ∀ a b c, R a b → R b c → R a c)
    (hst : ∀ V ∈ Vs, Stable R V) (hob : ∀ (i : Nat) o, ops[i]? = some o → ∃ V, Vs[i]? = some V ∧ OpOk P R w0 a0 ops o (Vs.take i) V)
    {listed : Array Bool} {a : Act} {w : World} (h : Inv R w0 a0 ops Vs listed a w) {i : Nat} (hi : i ∈ Region.ready .any ops listed) :
    wpOp P ops Q i (Inv R w0 a0 ops Vs (listed.setIfInBounds i true)) a w := by
  obtain ⟨hun, o, ho, hall⟩ := mem_ready.1 hi
  have hil : i < ops.size := (Array.getElem?_eq_some_iff.1 ho).1
  obtain ⟨hb, hlook, hdst⟩ := wf_spec hwf ho
  obtain ⟨V, hV, hok⟩ := hob i o ho
  have houts : AllOuts a0 a.eval (outs ops o) := AllOuts.of fun t ht => by
    simp only [outs, List.mem_filter, Bool.not_eq_true'] at ht
    refine h.hout t fun j o' hj hd => ?_
    have := ht.2
    simp only [isDst, Array.any_eq_false'] at this
    have := this o' (Array.mem_of_getElem? hj)
    simp [hd] at this
  have hdeps : AllDeps (Vs.take i) a.eval w (deps ops o) := by
    have hmem : ∀ p ∈ deps ops o, p.1 < i ∧ ∃ o', ops[p.1]? = some o' ∧ o'.dst = some p.2 ∧ listed.getD p.1 true = true := by
      intro p hp
      simp only [deps, List.mem_filterMap] at hp
      obtain ⟨e, he, hp⟩ := hp
      by_cases hbe : Region.binds .any e = true
      · simp only [hbe, if_true, Option.map_eq_some_iff, Option.bind_eq_some_iff] at hp
        obtain ⟨d, ⟨o', ho', hd'⟩, rfl⟩ := hp
        have hel := hall e (by simpa using he) hbe
        refine ⟨hb e (by simpa using he) hbe, o', ho', hd', ?_⟩
        have hlt : e.on < listed.size := by rw [h.hls]; exact (Array.getElem?_eq_some_iff.1 ho').1
        simpa [hlt] using hel
      · simp [hbe] at hp
    have hVl : i < Vs.length := (List.getElem?_eq_some_iff.1 hV).1
    have hlen : (Vs.take i).length = i := by simp; omega
    refine AllDeps.of (Us := Vs.drop i) (fun p hp => by rw [hlen]; exact (hmem p hp).1) fun p hp => ?_
    rw [List.take_append_drop]
    obtain ⟨_, o', ho', hd', hl⟩ := hmem p hp
    have := h.hval p.1 o' ho' hl
    rw [hd'] at this
    exact this
  obtain ⟨h1, h2⟩ := hok a.eval w ⟨fun _ => rfl, fun _ => rfl, fun _ => rfl⟩ h.hR houts hdeps
  have done : ∀ v w', R w w' → V v w' → Inv R w0 a0 ops Vs (listed.setIfInBounds i true) (a.put o.dst v) w' := by
    intro v w' hr hv
    refine ⟨by rw [put_defers, h.hd], by rw [put_size, h.hsz], by simp [h.hls], htr _ _ _ h.hR hr, ?_, ?_⟩
    · intro t ht
      have ht0 : o.dst ≠ some t := fun e => by
        have := ht i o ho e
        rw [getD_set_same (by rw [h.hls]; exact hil)] at this
        cases this
      have := h.hout t fun j o' hj hd => by
        by_cases hji : i = j
        · subst hji; exact hun
        · have := ht j o' hj hd
          rwa [getD_set_other hji] at this
      rw [← this]
      cases hd : o.dst with
      | none => rfl
      | some d =>
        rw [getD_put, if_neg]
        rintro ⟨rfl, _⟩
        exact ht0 hd
    · intro j o' hj hl
      by_cases hji : i = j
      · subst hji
        rw [ho] at hj
        cases hj
        cases hd : o.dst with
        | none => exact ⟨v, by unfold At; rw [hV]; exact hv⟩
        | some d =>
          simp only
          rw [getD_put, if_pos ⟨rfl, by rw [h.hsz]; exact (hdst d hd).1⟩]
          unfold At; rw [hV]; exact hv
      · rw [getD_set_other hji] at hl
        have h0 := h.hval j o' hj hl
        have keep : ∀ v, At Vs j v w → At Vs j v w' := by
          intro v h0
          unfold At at h0 ⊢
          cases hVj : Vs[j]? with
          | none => trivial
          | some U => rw [hVj] at h0; exact hst U (List.mem_of_getElem? hVj) _ _ _ hr h0
        cases hd' : o'.dst with
        | none =>
          rw [hd'] at h0
          obtain ⟨v0, hv0⟩ := h0
          exact ⟨v0, keep _ hv0⟩
        | some d' =>
          rw [hd'] at h0
          simp only at h0 ⊢
          have h0' := keep _ h0
          cases hd : o.dst with
          | none => exact h0'
          | some d =>
            rw [getD_put, if_neg]
            · exact h0'
            · rintro ⟨rfl, _⟩
              exact hji ((hdst d hd).2 j o' hj hd').symm
  unfold wpOp
  simp only [ho]
  rw [← wanted_eq]
  cases hw : wantedEv ops o a.eval with
  | true =>
    simp only [if_true]
    exact .inl (wp_of_yields (h1 hw) fun v w' ⟨hr, hv⟩ => done v w' hr hv)
  | false =>
    simp only [Bool.false_eq_true, if_false]
    exact done undef w (hre w) (h2 hw)

theorem wpAny_of_inv {Vs : List VT} {Q : Exit → Act → World → Prop} (hstep : ∀ listed a w, Inv R w0 a0 ops Vs listed a w → ∀ i ∈ Region.ready .any ops listed, wpOp P ops Q i (Inv R w0 a0 ops Vs (listed.setIfInBounds i true)) a w)
    (hend : ∀ listed a w, Inv R w0 a0 ops Vs listed a w → Region.ready .any ops listed = [] → Q .normal a w) :
    ∀ (fuel : Nat) (listed : Array Bool) (a : Act) (w : World), (listed.toList.filter (! ·)).length ≤ fuel → Inv R w0 a0 ops Vs listed a w → wpAny P .any ops Q fuel listed a w
  | 0, listed, a, w, hf, h => by
    have hr : Region.ready .any ops listed = [] := by
      rw [List.eq_nil_iff_forall_not_mem]
      intro i hi
      have hun := (mem_ready.1 hi).1
      have h0 : (listed.toList.filter (! ·)) = [] := List.length_eq_zero_iff.1 (by omega)
      rcases Nat.lt_or_ge i listed.size with hl | hl
      · have hg : listed[i] = false := by simpa [hl] using hun
        have : false ∈ listed.toList.filter (! ·) := List.mem_filter.2 ⟨by rw [← hg]; simp, rfl⟩
        rw [h0] at this; cases this
      · simp [Array.getElem?_eq_none hl] at hun
    exact ⟨hr, hend _ _ _ h hr⟩
  | fuel + 1, listed, a, w, hf, h => by
    refine ⟨fun hr => hend _ _ _ h hr, fun i hi => wpOp_mono (fun a' w' h' => wpAny_of_inv hstep hend fuel _ a' w' ?_ h') (hstep _ _ _ h i hi)⟩
    have hun := (mem_ready.1 hi).1
    have hl : i < listed.size := by
      rcases Nat.lt_or_ge i listed.size with hl | hl
      · exact hl
      · simp [Array.getElem?_eq_none hl] at hun
    have hg : listed[i] = false := by simpa [hl] using hun
    have hg' : listed.toList[i]? = some false := by simp [hl, hg]
    have key : ∀ (l : List Bool) (i : Nat), l[i]? = some false → ((l.set i true).filter (! ·)).length + 1 = (l.filter (! ·)).length := by
      intro l
      induction l with
      | nil => intro i h; simp at h
      | cons x r ih =>
        intro i h
        cases i with
        | zero => simp at h; subst h; simp
        | succ i =>
          have := ih i (by simpa using h)
          cases x <;> simp [List.filter_cons] <;> omega
    have := key listed.toList i hg'
    rw [Array.toList_setIfInBounds]
    omega

theorem putsFrom_getD (xs : Nat → Value) : ∀ (l : List Oper) (k : Nat) (a : Act) (t : Tmp), t < a.tmps.size →
    (∀ (i j : Nat) (o o' : Oper) d, l[i]? = some o → l[j]? = some o' → o.dst = some d → o'.dst = some d → i = j) →
    (putsFrom xs l k a).tmps.getD t undef = match l.findIdx? (fun o => o.dst == some t) with | some i => xs (k + i) | none => a.tmps.getD t undef
  | [], _, _, _, _, _ => rfl
  | o :: r, k, a, t, ht, hu => by
    rw [putsFrom, putsFrom_getD xs r (k + 1) (a.put o.dst (xs k)) t (by rw [put_size]; exact ht) (fun i j o1 o2 d h1 h2 h3 h4 => by
      have := hu (i + 1) (j + 1) o1 o2 d (by simpa using h1) (by simpa using h2) h3 h4; omega)]
    by_cases hd : o.dst = some t
    · have hnone : r.findIdx? (fun o => o.dst == some t) = none := by
        rw [List.findIdx?_eq_none_iff]
        intro o' ho'
        obtain ⟨j, hj, hj'⟩ := List.mem_iff_getElem.1 ho'
        rw [Bool.eq_false_iff]
        intro e
        have := hu 0 (j + 1) o o' t rfl (by simp [← hj', List.getElem?_eq_getElem hj]) hd (by simpa using e)
        omega
      rw [hnone, List.findIdx?_cons]
      have h2 := getD_put a t t (xs k)
      rw [if_pos ⟨rfl, ht⟩] at h2
      rw [hd]
      simpa using h2
    · rw [List.findIdx?_cons]
      have : (o.dst == some t) = false := by simpa using hd
      rw [this]
      cases hf : r.findIdx? (fun o => o.dst == some t) with
      | some i => simp; congr 1; omega
      | none =>
        simp
        cases hd' : o.dst with
        | none => rfl
        | some d =>
          have h2 := getD_put a d t (xs k)
          rw [if_neg (by rintro ⟨rfl, _⟩; exact hd hd')] at h2
          simpa using h2
theorem putsFrom_size (xs : Nat → Value) : ∀ (l : List Oper) (k : Nat) (a : Act), (putsFrom xs l k a).tmps.size = a.tmps.size
  | [], _, _ => rfl
  | o :: r, k, a => by rw [putsFrom, putsFrom_size xs r, put_size]
theorem putsFrom_defers (xs : Nat → Value) : ∀ (l : List Oper) (k : Nat) (a : Act), (putsFrom xs l k a).defers = a.defers
  | [], _, _ => rfl
  | o :: r, k, a => by rw [putsFrom, putsFrom_defers xs r, put_defers]

theorem AllV.of {Vs : List VT} {xs : Nat → Value} {w : World} : ∀ n, (∀ i, i < n → At Vs i (xs i) w) → AllV Vs xs w n
  | 0, _ => trivial
  | n + 1, h => ⟨AllV.of n fun i hi => h i (by omega), h n (by omega)⟩

/-- What is asked behind the region. -/
def Behind (R : World → World → Prop) (w0 : World) (a0 : Act) (l : List Oper) (Q : Exit → Act → World → Prop) (Vs : List VT) : Prop :=
  ∀ xs w', R w0 w' → AllV Vs xs w' l.length → Q .normal (putsFrom xs l 0 a0) w'

theorem wp_free {id : Nat} {l : List Oper} {Q : Exit → Act → World → Prop} {w : World} (hm : P.follows .mixedOrders = true) (hwf : wfB l.toArray a0.tmps.size = true)
    (hre : ∀ a, R a a) (htr : ∀ a b c, R a b → R b c → R a c)
    (h : Chain P R w.drew a0 l.toArray (Behind R w.drew a0 l Q) l []) : (Code.region id l.toArray true).wp P Q a0 w := by
  obtain ⟨Us, h1, h2, h3, h4⟩ := Chain.all l [] h (by simp)
  simp only [List.nil_append, List.length_nil, Nat.zero_add] at h1 h3 h4
  refine wp_region_any hm ?_
  refine wpAny_of_inv (R := R) (w0 := w.drew) (a0 := a0) (Vs := Us) (fun listed a w' hI i hi => hI.step hwf hre htr h3 (fun i o ho => h4 i o (by simpa using ho)) hi) ?_ _ _ _ _ (by
    simp [List.filter_replicate]) ⟨rfl, rfl, by simp, hre _, fun _ _ => rfl, fun i o ho hl => by
      have hil := (Array.getElem?_eq_some_iff.1 ho).1
      have hil' : i < l.length := by simpa using hil
      simp [hil'] at hl⟩
  intro listed a w' hI hr
  have hall : ∀ i, i < l.length → listed.getD i true = true := by
    intro i
    induction i using Nat.strongRecOn with
    | _ i ih =>
      intro hi
      by_cases hl : listed.getD i true = true
      · exact hl
      · exfalso
        have ho : l.toArray[i]? = some l[i] := by simp [hi]
        have hmem : i ∈ Region.ready .any l.toArray listed := by
          refine mem_ready.2 ⟨by simpa using hl, l[i], ho, fun e he hb => ?_⟩
          have hlt := (wf_spec hwf ho).1 e he hb
          have := ih e.on hlt (by omega)
          have hs : e.on < listed.size := by rw [hI.hls]; simp; omega
          simpa [hs] using this
        rw [hr] at hmem
        cases hmem
  have hval : ∀ (i : Nat) (o : Oper), l[i]? = some o → (match o.dst with | some d => At Us i (a.tmps.getD d undef) w' | none => ∃ v, At Us i v w') := by
    intro i o ho
    exact hI.hval i o (by simpa using ho) (hall i (List.getElem?_eq_some_iff.1 ho).1)
  have hxs : ∀ i : Nat, ∃ v, ∀ o : Oper, l[i]? = some o → At Us i v w' ∧ ∀ d, o.dst = some d → v = a.tmps.getD d undef := by
    intro i
    cases ho : l[i]? with
    | none => exact ⟨undef, by simp⟩
    | some o =>
      have := hval i o ho
      cases hd : o.dst with
      | none =>
        rw [hd] at this
        obtain ⟨v, hv⟩ := this
        exact ⟨v, fun o' ho' => by cases ho'; exact ⟨hv, fun d hd' => by rw [hd] at hd'; cases hd'⟩⟩
      | some d =>
        rw [hd] at this
        exact ⟨_, fun o' ho' => by cases ho'; exact ⟨this, fun d' hd' => by rw [hd] at hd'; cases hd'; rfl⟩⟩
  obtain ⟨xs, hxs⟩ := Classical.axiomOfChoice hxs
  have hfin := h1 xs w' hI.hR (AllV.of _ fun i hi => (hxs i l[i] (List.getElem?_eq_getElem hi)).1)
  have huniq : ∀ (i j : Nat) (o o' : Oper) d, l[i]? = some o → l[j]? = some o' → o.dst = some d → o'.dst = some d → i = j := by
    intro i j o o' d h1 h2 h3 h4
    exact (((wf_spec hwf (i := i) (o := o) (by simpa using h1)).2.2 d h3).2 j o' (by simpa using h2) h4).symm
  have ha : a = putsFrom xs l 0 a0 := by
    have htm : a.tmps = (putsFrom xs l 0 a0).tmps := by
      refine Array.ext_getElem? fun t => ?_
      by_cases ht : t < a0.tmps.size
      · have e1 := putsFrom_getD xs l 0 a0 t ht huniq
        have key : a.tmps.getD t undef = (putsFrom xs l 0 a0).tmps.getD t undef := by
          rw [e1]
          cases hf : l.findIdx? (fun o => o.dst == some t) with
          | some i =>
            obtain ⟨hi, hp, _⟩ := List.findIdx?_eq_some_iff_getElem.1 hf
            have := (hxs i l[i] (List.getElem?_eq_getElem hi)).2 t (by simpa using hp)
            simp [this]
          | none =>
            rw [List.findIdx?_eq_none_iff] at hf
            refine hI.hout t fun i o ho hd => ?_
            have := hf o (List.mem_of_getElem? (by simpa using ho))
            simp [hd] at this
        have s1 : t < a.tmps.size := by rw [hI.hsz]; exact ht
        have s2 : t < (putsFrom xs l 0 a0).tmps.size := by rw [putsFrom_size]; exact ht
        simpa [s1, s2] using key
      · rw [Array.getElem?_eq_none (by rw [hI.hsz]; omega), Array.getElem?_eq_none (by rw [putsFrom_size]; omega)]
    have hdf : a.defers = (putsFrom xs l 0 a0).defers := by rw [putsFrom_defers, hI.hd]
    cases a
    simp only at htm hdf
    rw [htm, hdf]
  rw [ha]
  exact hfin

theorem wantedEv_none {o : Oper} {ev : Operand → Value} (h : o.guard = none) : wantedEv ops o ev = true := by simp [wantedEv, h]
theorem wantedEv_some {o : Oper} {ev : Operand → Value} {j : Nat} {want : Bool} {d : Tmp} (h : o.guard = some (j, want)) (hd : (ops[j]?).bind (·.dst) = some d) {b : Bool} (hv : ev (.tmp d) = .bool b) :
    wantedEv ops o ev = (b == want) := by simp [wantedEv, h, hd, hv]
theorem wantedEv_undef {o : Oper} {ev : Operand → Value} {j : Nat} {want : Bool} {d : Tmp} (h : o.guard = some (j, want)) (hd : (ops[j]?).bind (·.dst) = some d) (hv : ev (.tmp d) = undef) :
    wantedEv ops o ev = false := by simp [wantedEv, h, hd, hv, undef]

/-- One value, in whatever world. -/
theorem Chain.ex {o : Oper} {rest : List Oper} {Vs : List VT} (c : Value) (D : List (Nat × Tmp)) (T : List Tmp) (hD : deps ops o = D) (hT : outs ops o = T) (hg : o.guard = none) (hre : ∀ a, R a a)
    (hrun : ∀ ev W, Base ev → R w0 W → AllOuts a0 ev T → AllDeps Vs ev W D → (execOp ev o).run P W = .ok (.value c) W)
    (h : Chain P R w0 a0 ops Fin rest (Vs ++ [fun v _ => v = c])) : Chain P R w0 a0 ops Fin (o :: rest) Vs :=
  ⟨_, fun _ _ _ _ h => h, fun ev W hb hR hO hDs => by
    subst hD hT
    refine ⟨fun _ => ?_, fun hw => by rw [wantedEv_none hg] at hw; cases hw⟩
    rw [hrun ev W hb hR hO hDs]
    exact ⟨hre W, rfl⟩, h⟩
/-- A value of which something holds; the operation may make memory, or be a call. -/
theorem Chain.pr {o : Oper} {rest : List Oper} {Vs : List VT} (V : VT) (D : List (Nat × Tmp)) (T : List Tmp) (hD : deps ops o = D) (hT : outs ops o = T) (hg : o.guard = none) (hs : Stable R V)
    (hrun : ∀ ev W, Base ev → R w0 W → AllOuts a0 ev T → AllDeps Vs ev W D → Yields P (fun v W' => R W W' ∧ V v W') ((execOp ev o).run P W))
    (h : Chain P R w0 a0 ops Fin rest (Vs ++ [V])) : Chain P R w0 a0 ops Fin (o :: rest) Vs :=
  ⟨_, hs, fun ev W hb hR hO hDs => by
    subst hD hT
    exact ⟨fun _ => hrun ev W hb hR hO hDs, fun hw => by rw [wantedEv_none hg] at hw; cases hw⟩, h⟩
/-- The same two behind a guard that says yes. -/
theorem Chain.exG {o : Oper} {rest : List Oper} {Vs : List VT} (c : Value) (D : List (Nat × Tmp)) (T : List Tmp) (j : Nat) (want : Bool) (d : Tmp) (hD : deps ops o = D) (hT : outs ops o = T) (hg : o.guard = some (j, want)) (hd : (ops[j]?).bind (·.dst) = some d) (hre : ∀ a, R a a)
    (hrun : ∀ ev W, Base ev → R w0 W → AllOuts a0 ev T → AllDeps Vs ev W D → ev (.tmp d) = .bool want ∧ (execOp ev o).run P W = .ok (.value c) W)
    (h : Chain P R w0 a0 ops Fin rest (Vs ++ [fun v _ => v = c])) : Chain P R w0 a0 ops Fin (o :: rest) Vs :=
  ⟨_, fun _ _ _ _ h => h, fun ev W hb hR hO hDs => by
    subst hD hT
    obtain ⟨h1, h2⟩ := hrun ev W hb hR hO hDs
    refine ⟨fun _ => ?_, fun hw => by rw [wantedEv_some hg hd h1] at hw; simp at hw⟩
    rw [h2]
    exact ⟨hre W, rfl⟩, h⟩
theorem Chain.prG {o : Oper} {rest : List Oper} {Vs : List VT} (V : VT) (D : List (Nat × Tmp)) (T : List Tmp) (j : Nat) (want : Bool) (d : Tmp) (hD : deps ops o = D) (hT : outs ops o = T) (hg : o.guard = some (j, want)) (hd : (ops[j]?).bind (·.dst) = some d) (hs : Stable R V)
    (hrun : ∀ ev W, Base ev → R w0 W → AllOuts a0 ev T → AllDeps Vs ev W D → ev (.tmp d) = .bool want ∧ Yields P (fun v W' => R W W' ∧ V v W') ((execOp ev o).run P W))
    (h : Chain P R w0 a0 ops Fin rest (Vs ++ [V])) : Chain P R w0 a0 ops Fin (o :: rest) Vs :=
  ⟨_, hs, fun ev W hb hR hO hDs => by
    subst hD hT
    obtain ⟨h1, h2⟩ := hrun ev W hb hR hO hDs
    exact ⟨fun _ => h2, fun hw => by rw [wantedEv_some hg hd h1] at hw; simp at hw⟩, h⟩
/-- A guard that says no. -/
theorem Chain.no {o : Oper} {rest : List Oper} {Vs : List VT} (D : List (Nat × Tmp)) (T : List Tmp) (j : Nat) (want : Bool) (d : Tmp) (hD : deps ops o = D) (hT : outs ops o = T) (hg : o.guard = some (j, want)) (hd : (ops[j]?).bind (·.dst) = some d)
    (hrun : ∀ ev W, R w0 W → AllDeps Vs ev W D → ev (.tmp d) = .bool (!want) ∨ ev (.tmp d) = undef)
    (h : Chain P R w0 a0 ops Fin rest (Vs ++ [fun v _ => v = undef])) : Chain P R w0 a0 ops Fin (o :: rest) Vs :=
  ⟨fun v _ => v = undef, fun _ _ _ _ h => h, (fun ev W hb hR hO hDs => by
    subst hD hT
    refine ⟨fun hw => ?_, fun _ => rfl⟩
    rcases hrun ev W hR hDs with h1 | h1
    · rw [wantedEv_some hg hd h1] at hw; simp at hw
    · rw [wantedEv_undef hg hd h1] at hw
      simp at hw), h⟩
end

/-- Nothing that was there has turned. -/
def Bel (a b : World) : Prop := RowKit.Below a.heap.size a b
theorem Bel.refl (a : World) : Bel a a := RowKit.Below.refl _ _
theorem Bel.trans (a b c : World) (h : Bel a b) (k : Bel b c) : Bel a c := RowKit.Below.trans h (RowKit.Below.mono k h.size)
theorem Bel.behind {B : Nat} {a w w' : World} (h0 : RowKit.Below B a w) (hs : B ≤ w.heap.size) (h : Bel w.drew w') : RowKit.Below B a w' :=
  RowKit.Below.trans (RowKit.Below.drew h0) (RowKit.Below.mono h hs)
theorem Bel.first {w w' : World} (h : Bel w.drew w') : RowKit.Below w.heap.size w w' := Bel.behind (RowKit.Below.refl _ w) (Nat.le_refl _) h
end Go.Proofs.YthhallnkpbgomaaDoor.Free
