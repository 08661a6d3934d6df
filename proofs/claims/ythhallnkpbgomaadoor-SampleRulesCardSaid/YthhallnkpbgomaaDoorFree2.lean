/- A region that draws its order, in which besides the values something holds that ties several of them to the memory: J. No function of the program here. -/
import Derived.Test.YthhallnkpbgomaaDoorFree
set_option linter.unusedSimpArgs false
set_option linter.unusedVariables false
namespace Go.Proofs.YthhallnkpbgomaaDoor.Free2
open Go Free

abbrev XT := Nat → Option Value
abbrev JT := XT → World → Prop
/-- What the operations have yielded, and one more. -/
def upd (X : XT) (i : Nat) (v : Value) : XT := fun j => if j = i then some v else X j
theorem upd_same (X : XT) (i : Nat) (v : Value) : upd X i v i = some v := by simp [upd]
theorem upd_other (X : XT) {i j : Nat} (v : Value) (h : j ≠ i) : upd X i v j = X j := by simp [upd, h]
def AllX (X : XT) (ev : Operand → Value) : List (Nat × Tmp) → Prop
  | [] => True
  | p :: r => X p.1 = some (ev (.tmp p.2)) ∧ AllX X ev r
theorem AllX.of {X : XT} {ev : Operand → Value} : ∀ {l : List (Nat × Tmp)}, (∀ p ∈ l, X p.1 = some (ev (.tmp p.2))) → AllX X ev l
  | [], _ => trivial
  | p :: r, h => ⟨h p (by simp), AllX.of fun q hq => h q (by simp [hq])⟩

/-- Whether each operation that writes this slot waits for operation i. -/
def later (ops : Array Oper) (i : Nat) (t : Tmp) : Bool :=
  (List.range ops.size).all fun j => match ops[j]? with
    | some o => !(o.dst == some t) || o.after.any fun e => Region.binds .any e && e.on == i
    | none => true
/-- The slots that operation i looks at and that no operation writes ahead of it. -/
def outs2 (ops : Array Oper) (i : Nat) (o : Oper) : List Tmp := (o.looksAt ops).filter fun t => later ops i t
def wfB2 (ops : Array Oper) (n : Nat) : Bool :=
  (List.range ops.size).all fun i =>
    match ops[i]? with
    | none => false
    | some o =>
      (o.after.all fun e => !Region.binds .any e || decide (e.on < i)) &&
      (match o.dst with
        | none => true
        | some d => decide (d < n) && (List.range ops.size).all fun j => j == i || ((ops[j]?).bind (·.dst)) != some d)
theorem wf_spec2 {ops : Array Oper} {n : Nat} (hwf : wfB2 ops n = true) {i : Nat} {o : Oper} (ho : ops[i]? = some o) :
    (∀ e ∈ o.after, Region.binds .any e = true → e.on < i) ∧
    (∀ d, o.dst = some d → d < n ∧ ∀ j o', ops[j]? = some o' → o'.dst = some d → j = i) := by
  have hi : i < ops.size := (Array.getElem?_eq_some_iff.1 ho).1
  have h := List.all_eq_true.1 hwf i (List.mem_range.2 hi)
  simp only [ho, Bool.and_eq_true] at h
  obtain ⟨h1, h3⟩ := h
  refine ⟨fun e he hb => ?_, fun d hd => ?_⟩
  · have := Array.all_eq_true_iff_forall_mem.1 h1 e he
    simpa [hb] using this
  · simp only [hd, Bool.and_eq_true, decide_eq_true_eq] at h3
    refine ⟨h3.1, fun j o' hj hd' => ?_⟩
    have hjl : j < ops.size := (Array.getElem?_eq_some_iff.1 hj).1
    have := List.all_eq_true.1 h3.2 j (List.mem_range.2 hjl)
    simpa [hj, hd'] using this
theorem later_spec {ops : Array Oper} {i : Nat} {t : Tmp} (h : later ops i t = true) {j : Nat} {o : Oper} (ho : ops[j]? = some o) (hd : o.dst = some t) : ∃ e ∈ o.after, Region.binds .any e = true ∧ e.on = i := by
  have hj : j < ops.size := (Array.getElem?_eq_some_iff.1 ho).1
  have := List.all_eq_true.1 h j (List.mem_range.2 hj)
  simp only [ho, hd, beq_self_eq_true, Bool.not_true, Bool.false_or] at this
  rw [Array.any_eq_true] at this
  obtain ⟨k, hk, hb⟩ := this
  simp only [Bool.and_eq_true, beq_iff_eq] at hb
  exact ⟨_, Array.getElem_mem hk, hb.1, hb.2⟩

def OpOk (P : Program) (R : World → World → Prop) (J : JT) (w0 : World) (a0 : Act) (ops : Array Oper) (i : Nat) (o : Oper) (Vs : List VT) (V : VT) : Prop :=
  ∀ ev w X, Base ev → R w0 w → AllOuts a0 ev (outs2 ops i o) → AllDeps Vs ev w (deps ops o) → J X w → X i = none → AllX X ev (deps ops o) →
    (wantedEv ops o ev = true → Free.Yields P (fun v w' => R w w' ∧ V v w' ∧ J (upd X i v) w') ((execOp ev o).run P w)) ∧ (wantedEv ops o ev = false → V undef w ∧ J (upd X i undef) w)

def Chain (P : Program) (R : World → World → Prop) (J : JT) (w0 : World) (a0 : Act) (ops : Array Oper) (Fin : List VT → Prop) : List Oper → List VT → Prop
  | [], Vs => Fin Vs
  | o :: rest, Vs => ∃ V, Stable R V ∧ OpOk P R J w0 a0 ops Vs.length o Vs V ∧ Chain P R J w0 a0 ops Fin rest (Vs ++ [V])

section
variable {P : Program} {R : World → World → Prop} {J : JT} {w0 : World} {a0 : Act} {ops : Array Oper} {Fin : List VT → Prop}
/-- What the chain gives: a list of what holds of every value. -/
theorem Chain.all : ∀ (rest : List Oper) (Vs : List VT), Chain P R J w0 a0 ops Fin rest Vs →
    (∀ V ∈ Vs, Stable R V) → (∃ Us, Fin (Vs ++ Us) ∧ Us.length = rest.length ∧ (∀ V ∈ Vs ++ Us, Stable R V) ∧
      ∀ i o, rest[i]? = some o → ∃ V, (Vs ++ Us)[Vs.length + i]? = some V ∧ OpOk P R J w0 a0 ops (Vs.length + i) o ((Vs ++ Us).take (Vs.length + i)) V)
  | [], Vs, h, hs => ⟨[], by simpa [Chain] using h, rfl, by simpa using hs, by simp⟩
  | o :: rest, Vs, ⟨V, h1, h2, h3⟩, hs => by
    obtain ⟨Us, g1, g2, g3, g4⟩ := Chain.all rest (Vs ++ [V]) h3 (by
      intro U hU
      rcases List.mem_append.1 hU with hU | hU
      · exact hs U hU
      · simp at hU; subst hU; exact h1)
    refine ⟨V :: Us, by simpa using g1, by simp [g2], by simpa using g3, ?_⟩
    intro i o' hi
    cases i with
    | zero =>
      simp at hi
      subst hi
      refine ⟨V, by simp, ?_⟩
      have : (Vs ++ V :: Us).take (Vs.length + 0) = Vs := by simp
      rw [this]
      simpa using h2
    | succ i =>
      have := g4 i o' (by simpa using hi)
      simp only [List.length_append, List.length_singleton, List.append_assoc, List.singleton_append] at this
      rw [show Vs.length + (i + 1) = Vs.length + 1 + i by omega]
      exact this

structure Inv (R : World → World → Prop) (J : JT) (w0 : World) (a0 : Act) (ops : Array Oper) (Vs : List VT) (X : XT) (listed : Array Bool) (a : Act) (w : World) : Prop where
  hd : a.defers = a0.defers
  hsz : a.tmps.size = a0.tmps.size
  hls : listed.size = ops.size
  hR : R w0 w
  hJ : J X w
  hX : ∀ i, i < ops.size → (listed.getD i true = true ↔ ∃ v, X i = some v)
  hout : ∀ t, (∀ (i : Nat) o, ops[i]? = some o → o.dst = some t → listed.getD i true = false) → a.tmps.getD t undef = a0.tmps.getD t undef
  hcl : ∀ (i : Nat) o, ops[i]? = some o → listed.getD i true = true → ∀ e ∈ o.after, Region.binds .any e = true → listed.getD e.on true = true
  hval : ∀ (i : Nat) o v, ops[i]? = some o → X i = some v → At Vs i v w ∧ ∀ d, o.dst = some d → a.tmps.getD d undef = v
def InvE (R : World → World → Prop) (J : JT) (w0 : World) (a0 : Act) (ops : Array Oper) (Vs : List VT) (listed : Array Bool) (a : Act) (w : World) : Prop := ∃ X, Inv R J w0 a0 ops Vs X listed a w

theorem Inv.step {Vs : List VT} {X : XT} {Q : Exit → Act → World → Prop} (hwf : wfB2 ops a0.tmps.size = true) (hre : ∀ a, R a a) (htr : ∀ a b c, R a b → R b c → R a c)
    (hst : ∀ V ∈ Vs, Stable R V) (hob : ∀ (i : Nat) o, ops[i]? = some o → ∃ V, Vs[i]? = some V ∧ OpOk P R J w0 a0 ops i o (Vs.take i) V)
    {listed : Array Bool} {a : Act} {w : World} (h : Inv R J w0 a0 ops Vs X listed a w) {i : Nat} (hi : i ∈ Region.ready .any ops listed) :
    wpOp P ops Q i (InvE R J w0 a0 ops Vs (listed.setIfInBounds i true)) a w := by
  obtain ⟨hun, o, ho, hall⟩ := mem_ready.1 hi
  have hil : i < ops.size := (Array.getElem?_eq_some_iff.1 ho).1
  obtain ⟨hb, hdst⟩ := wf_spec2 hwf ho
  obtain ⟨V, hV, hok⟩ := hob i o ho
  have hXi : X i = none := by
    cases hx : X i with
    | none => rfl
    | some v => have := (h.hX i hil).2 ⟨v, hx⟩; rw [hun] at this; cases this
  have houts : AllOuts a0 a.eval (outs2 ops i o) := AllOuts.of fun t ht => by
    simp only [outs2, List.mem_filter] at ht
    refine h.hout t fun j o' hj hd => ?_
    obtain ⟨e, he, hbe, hei⟩ := later_spec ht.2 hj hd
    cases hl : listed.getD j true with
    | false => rfl
    | true =>
      have := h.hcl j o' hj hl e he hbe
      rw [hei] at this
      rw [hun] at this
      cases this
  have hmem : ∀ p ∈ deps ops o, p.1 < i ∧ ∃ o', ops[p.1]? = some o' ∧ o'.dst = some p.2 ∧ ∃ v, X p.1 = some v := by
    intro p hp
    simp only [deps, List.mem_filterMap] at hp
    obtain ⟨e, he, hp⟩ := hp
    by_cases hbe : Region.binds .any e = true
    · simp only [hbe, if_true, Option.map_eq_some_iff, Option.bind_eq_some_iff] at hp
      obtain ⟨d, ⟨o', ho', hd'⟩, rfl⟩ := hp
      have hel := hall e (by simpa using he) hbe
      have hlt0 : e.on < ops.size := (Array.getElem?_eq_some_iff.1 ho').1
      refine ⟨hb e (by simpa using he) hbe, o', ho', hd', (h.hX e.on hlt0).1 ?_⟩
      have hlt : e.on < listed.size := by rw [h.hls]; exact hlt0
      simpa [hlt] using hel
    · simp [hbe] at hp
  have hdx : AllX X a.eval (deps ops o) := AllX.of fun p hp => by
    obtain ⟨_, o', ho', hd', v, hv⟩ := hmem p hp
    rw [hv]
    exact congrArg some ((h.hval p.1 o' v ho' hv).2 p.2 hd').symm
  have hdeps : AllDeps (Vs.take i) a.eval w (deps ops o) := by
    have hVl : i < Vs.length := (List.getElem?_eq_some_iff.1 hV).1
    have hlen : (Vs.take i).length = i := by simp; omega
    refine AllDeps.of (Us := Vs.drop i) (fun p hp => by rw [hlen]; exact (hmem p hp).1) fun p hp => ?_
    rw [List.take_append_drop]
    obtain ⟨_, o', ho', hd', v, hv⟩ := hmem p hp
    have := h.hval p.1 o' v ho' hv
    show At Vs p.1 (a.tmps.getD p.2 undef) w
    rw [this.2 p.2 hd']
    exact this.1
  obtain ⟨h1, h2⟩ := hok a.eval w X ⟨fun _ => rfl, fun _ => rfl, fun _ => rfl⟩ h.hR houts hdeps h.hJ hXi hdx
  have done : ∀ v w', R w w' → V v w' → J (upd X i v) w' → InvE R J w0 a0 ops Vs (listed.setIfInBounds i true) (a.put o.dst v) w' := by
    intro v w' hr hv hj
    refine ⟨upd X i v, by rw [put_defers, h.hd], by rw [put_size, h.hsz], by simp [h.hls], htr _ _ _ h.hR hr, hj, ?_, ?_, ?_, ?_⟩
    · intro j hjs
      by_cases hji : i = j
      · subst hji
        rw [getD_set_same (by rw [h.hls]; exact hil), upd_same]
        simp
      · rw [getD_set_other hji, upd_other _ _ (Ne.symm hji)]
        exact h.hX j hjs
    · intro t ht
      have ht0 : o.dst ≠ some t := fun e => by
        have := ht i o ho e
        rw [getD_set_same (by rw [h.hls]; exact hil)] at this
        cases this
      have := h.hout t fun j o' hj hd => by
        by_cases hji : i = j
        · subst hji; exact hun
        · have := ht j o' hj hd
          rwa [getD_set_other hji] at this
      rw [← this]
      cases hd : o.dst with
      | none => rfl
      | some d =>
        rw [getD_put, if_neg]
        rintro ⟨rfl, _⟩
        exact ht0 hd
    · intro j o' hj hl e he hbe
      by_cases hei : i = e.on
      · rw [← hei, getD_set_same (by rw [h.hls]; exact hil)]
      · rw [getD_set_other hei]
        by_cases hji : i = j
        · subst hji
          rw [ho] at hj
          cases hj
          have hel := hall e (by simpa using he) hbe
          by_cases hlt : e.on < listed.size
          · simpa [hlt] using hel
          · simp [Array.getD_eq_getD_getElem?, Array.getElem?_eq_none (Nat.le_of_not_lt hlt)]
        · rw [getD_set_other hji] at hl
          exact h.hcl j o' hj hl e he hbe
    · intro j o' u hj hu
      by_cases hji : i = j
      · subst hji
        rw [ho] at hj
        cases hj
        rw [upd_same] at hu
        cases hu
        refine ⟨by unfold At; rw [hV]; exact hv, fun d hd => ?_⟩
        rw [hd, getD_put, if_pos ⟨rfl, by rw [h.hsz]; exact (hdst d hd).1⟩]
      · rw [upd_other _ _ (Ne.symm hji)] at hu
        obtain ⟨h0, h0'⟩ := h.hval j o' u hj hu
        refine ⟨?_, fun d' hd' => ?_⟩
        · unfold At at h0 ⊢
          cases hVj : Vs[j]? with
          | none => trivial
          | some U => rw [hVj] at h0; exact hst U (List.mem_of_getElem? hVj) _ _ _ hr h0
        · rw [← h0' d' hd']
          cases hd : o.dst with
          | none => rfl
          | some d =>
            rw [getD_put, if_neg]
            rintro ⟨rfl, _⟩
            exact hji ((hdst d hd).2 j o' hj hd').symm
  unfold wpOp
  simp only [ho]
  rw [← wanted_eq]
  cases hw : wantedEv ops o a.eval with
  | true =>
    simp only [if_true]
    exact .inl (wp_of_yields (h1 hw) fun v w' ⟨hr, hv, hj⟩ => done v w' hr hv hj)
  | false =>
    simp only [Bool.false_eq_true, if_false]
    exact done undef w (hre w) (h2 hw).1 (h2 hw).2

theorem wpAny_of_inv {I : Array Bool → Act → World → Prop} {Q : Exit → Act → World → Prop} (hstep : ∀ listed a w, I listed a w → ∀ i ∈ Region.ready .any ops listed, wpOp P ops Q i (I (listed.setIfInBounds i true)) a w)
    (hend : ∀ listed a w, I listed a w → Region.ready .any ops listed = [] → Q .normal a w) :
    ∀ (fuel : Nat) (listed : Array Bool) (a : Act) (w : World), (listed.toList.filter (! ·)).length ≤ fuel → I listed a w → wpAny P .any ops Q fuel listed a w
  | 0, listed, a, w, hf, h => by
    have hr : Region.ready .any ops listed = [] := by
      rw [List.eq_nil_iff_forall_not_mem]
      intro i hi
      have hun := (mem_ready.1 hi).1
      have h0 : (listed.toList.filter (! ·)) = [] := List.length_eq_zero_iff.1 (by omega)
      rcases Nat.lt_or_ge i listed.size with hl | hl
      · have hg : listed[i] = false := by simpa [hl] using hun
        have : false ∈ listed.toList.filter (! ·) := List.mem_filter.2 ⟨by rw [← hg]; simp, rfl⟩
        rw [h0] at this; cases this
      · simp [Array.getElem?_eq_none hl] at hun
    exact ⟨hr, hend _ _ _ h hr⟩
  | fuel + 1, listed, a, w, hf, h => by
    refine ⟨fun hr => hend _ _ _ h hr, fun i hi => wpOp_mono (fun a' w' h' => wpAny_of_inv hstep hend fuel _ a' w' ?_ h') (hstep _ _ _ h i hi)⟩
    have hun := (mem_ready.1 hi).1
    have hl : i < listed.size := by
      rcases Nat.lt_or_ge i listed.size with hl | hl
      · exact hl
      · simp [Array.getElem?_eq_none hl] at hun
    have hg : listed[i] = false := by simpa [hl] using hun
    have hg' : listed.toList[i]? = some false := by simp [hl, hg]
    have key : ∀ (l : List Bool) (i : Nat), l[i]? = some false → ((l.set i true).filter (! ·)).length + 1 = (l.filter (! ·)).length := by
      intro l
      induction l with
      | nil => intro i h; simp at h
      | cons x r ih =>
        intro i h
        cases i with
        | zero => simp at h; subst h; simp
        | succ i =>
          have := ih i (by simpa using h)
          cases x <;> simp [List.filter_cons] <;> omega
    have := key listed.toList i hg'
    rw [Array.toList_setIfInBounds]
    omega

/-- What is asked behind the region. -/
def Behind (R : World → World → Prop) (J : JT) (w0 : World) (a0 : Act) (l : List Oper) (Q : Exit → Act → World → Prop) (Vs : List VT) : Prop :=
  ∀ xs w', R w0 w' → AllV Vs xs w' l.length → (∃ X, J X w' ∧ ∀ i, i < l.length → X i = some (xs i)) → Q .normal (putsFrom xs l 0 a0) w'

theorem wp_free {id : Nat} {l : List Oper} {Q : Exit → Act → World → Prop} {w : World} (hm : P.follows .mixedOrders = true) (hwf : wfB2 l.toArray a0.tmps.size = true)
    (hre : ∀ a, R a a) (htr : ∀ a b c, R a b → R b c → R a c) (hJ0 : J (fun _ => none) w.drew)
    (h : Chain P R J w.drew a0 l.toArray (Behind R J w.drew a0 l Q) l []) : (Code.region id l.toArray true).wp P Q a0 w := by
  obtain ⟨Us, h1, h2, h3, h4⟩ := Chain.all l [] h (by simp)
  simp only [List.nil_append, List.length_nil, Nat.zero_add] at h1 h3 h4
  refine wp_region_any hm ?_
  refine wpAny_of_inv (I := InvE R J w.drew a0 l.toArray Us) (fun listed a w' ⟨X, hI⟩ i hi => hI.step hwf hre htr h3 (fun i o ho => h4 i o (by simpa using ho)) hi) ?_ _ _ _ _ (by
    simp [List.filter_replicate]) ⟨fun _ => none, rfl, rfl, by simp, hre _, hJ0, fun i hi => by
      have hi' : i < l.length := by simpa using hi
      simp [hi'], fun _ _ => rfl, fun i o ho hl => (by
      have hil := (Array.getElem?_eq_some_iff.1 ho).1
      have hil' : i < l.length := by simpa using hil
      simp [hil'] at hl), fun i o v ho hv => by cases hv⟩
  rintro listed a w' ⟨X, hI⟩ hr
  have hall : ∀ i, i < l.length → listed.getD i true = true := by
    intro i
    induction i using Nat.strongRecOn with
    | _ i ih =>
      intro hi
      by_cases hl : listed.getD i true = true
      · exact hl
      · exfalso
        have ho : l.toArray[i]? = some l[i] := by simp [hi]
        have hmem : i ∈ Region.ready .any l.toArray listed := by
          refine mem_ready.2 ⟨by simpa using hl, l[i], ho, fun e he hb => ?_⟩
          have hlt := (wf_spec2 hwf ho).1 e he hb
          have := ih e.on hlt (by omega)
          have hs : e.on < listed.size := by rw [hI.hls]; simp; omega
          simpa [hs] using this
        rw [hr] at hmem
        cases hmem
  have hXs : ∀ i, i < l.length → X i = some ((X i).getD undef) := by
    intro i hi
    obtain ⟨v, hv⟩ := (hI.hX i (by simpa using hi)).1 (hall i hi)
    rw [hv]; rfl
  let xs : Nat → Value := fun i => (X i).getD undef
  have hxs : ∀ i (hi : i < l.length), At Us i (xs i) w' ∧ ∀ d, l[i].dst = some d → xs i = a.tmps.getD d undef := by
    intro i hi
    have := hI.hval i l[i] _ (by simp [hi]) (hXs i hi)
    exact ⟨this.1, fun d hd => (this.2 d hd).symm⟩
  have hfin := h1 xs w' hI.hR (AllV.of _ fun i hi => (hxs i hi).1) ⟨X, hI.hJ, hXs⟩
  have huniq : ∀ (i j : Nat) (o o' : Oper) d, l[i]? = some o → l[j]? = some o' → o.dst = some d → o'.dst = some d → i = j := by
    intro i j o o' d h1 h2 h3 h4
    exact (((wf_spec2 hwf (i := i) (o := o) (by simpa using h1)).2 d h3).2 j o' (by simpa using h2) h4).symm
  have ha : a = putsFrom xs l 0 a0 := by
    have htm : a.tmps = (putsFrom xs l 0 a0).tmps := by
      refine Array.ext_getElem? fun t => ?_
      by_cases ht : t < a0.tmps.size
      · have e1 := putsFrom_getD xs l 0 a0 t ht huniq
        have key : a.tmps.getD t undef = (putsFrom xs l 0 a0).tmps.getD t undef := by
          rw [e1]
          cases hf : l.findIdx? (fun o => o.dst == some t) with
          | some i =>
            obtain ⟨hi, hp, _⟩ := List.findIdx?_eq_some_iff_getElem.1 hf
            have := (hxs i hi).2 t (by simpa using hp)
            simp [this]
          | none =>
            rw [List.findIdx?_eq_none_iff] at hf
            refine hI.hout t fun i o ho hd => ?_
            have := hf o (List.mem_of_getElem? (by simpa using ho))
            simp [hd] at this
        have s1 : t < a.tmps.size := by rw [hI.hsz]; exact ht
        have s2 : t < (putsFrom xs l 0 a0).tmps.size := by rw [putsFrom_size]; exact ht
        simpa [s1, s2] using key
      · rw [Array.getElem?_eq_none (by rw [hI.hsz]; omega), Array.getElem?_eq_none (by rw [putsFrom_size]; omega)]
    have hdf : a.defers = (putsFrom xs l 0 a0).defers := by rw [putsFrom_defers, hI.hd]
    cases a
    simp only at htm hdf
    rw [htm, hdf]
  rw [ha]
  exact hfin

/-- One value, in whatever world; J does not look at this operation. -/
theorem Chain.ex {o : Oper} {rest : List Oper} {Vs : List VT} (c : Value) (n : Nat) (hn : Vs.length = n) (D : List (Nat × Tmp)) (T : List Tmp) (hD : deps ops o = D) (hT : outs2 ops n o = T) (hg : o.guard = none) (hre : ∀ a, R a a)
    (hJ : ∀ X W v, J X W → J (upd X Vs.length v) W)
    (hrun : ∀ ev W, Base ev → R w0 W → AllOuts a0 ev T → AllDeps Vs ev W D → (execOp ev o).run P W = .ok (.value c) W)
    (h : Chain P R J w0 a0 ops Fin rest (Vs ++ [fun v _ => v = c])) : Chain P R J w0 a0 ops Fin (o :: rest) Vs :=
  ⟨_, fun _ _ _ _ h => h, fun ev W X hb hR hO hDs hj hx hax => by
    subst hn hD hT
    refine ⟨fun _ => ?_, fun hw => by rw [wantedEv_none hg] at hw; cases hw⟩
    rw [hrun ev W hb hR hO hDs]
    exact ⟨hre W, rfl, hJ X W c hj⟩, h⟩
/-- A value of which something holds; J is told anew. -/
theorem Chain.pr {o : Oper} {rest : List Oper} {Vs : List VT} (V : VT) (n : Nat) (hn : Vs.length = n) (D : List (Nat × Tmp)) (T : List Tmp) (hD : deps ops o = D) (hT : outs2 ops n o = T) (hg : o.guard = none) (hs : Stable R V)
    (hrun : ∀ ev W X, Base ev → R w0 W → AllOuts a0 ev T → AllDeps Vs ev W D → J X W → X Vs.length = none → AllX X ev D → Free.Yields P (fun v W' => R W W' ∧ V v W' ∧ J (upd X Vs.length v) W') ((execOp ev o).run P W))
    (h : Chain P R J w0 a0 ops Fin rest (Vs ++ [V])) : Chain P R J w0 a0 ops Fin (o :: rest) Vs :=
  ⟨_, hs, fun ev W X hb hR hO hDs hj hx hax => by
    subst hn hD hT
    exact ⟨fun _ => hrun ev W X hb hR hO hDs hj hx hax, fun hw => by rw [wantedEv_none hg] at hw; cases hw⟩, h⟩
end
end Go.Proofs.YthhallnkpbgomaaDoor.Free2
