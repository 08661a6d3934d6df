/- A region that draws its order in a round: as Free2. No function of the program here. -/
import Derived.Test.YtknpglgpkkhhiaaDoorD4
import Derived.OrdersIn
import Derived.OwnWalkIn
import Derived.RangeFuncCalls
import Derived.Deep.DeepCutAuto
import Derived.Deep.OwnRows
set_option linter.unusedSimpArgs false
set_option linter.unusedVariables false
namespace Go.Proofs.YtknpglgpkkhhiaaDoor.Free2R
open Go Free
open Free2 (XT JT upd upd_same upd_other AllX AllX.of later outs2 wfB2 wf_spec2 later_spec)

def isDefer (o : Oper) : Bool := match o.op with | .defer _ => true | _ => false
theorem wpIn_of_yields {m lr : Nat} {P : Program} {o : Oper} {a : Act} {w : World} {K : Value → World → Prop} {next : Act → World → Prop} {Q : Exit → Act → World → Prop} (hnd : isDefer o = false)
    (h : Free.Yields P K ((execOp a.eval o).run P w)) (hn : ∀ v w', K v w' → next (a.put o.dst v) w') : o.wpIn (Fence.wide.inRound lr) m P a w next Q := by
  refine ⟨fun _ _ => trivial, ?_⟩
  rw [Oper.semAt_eq _ _ _ (fun c hc => by rw [isDefer, hc] at hnd; cases hnd)]
  generalize (execOp a.eval o).run P w = r at h ⊢
  cases r with
  | ok n w' =>
    cases n <;> simp only [Free.Yields] at h <;> simp only [Oper.uponIn]
    · exact hn _ _ h
    · exact hn _ _ h
    · exact ⟨fun h => by simp [Fence.wide, Fence.inRound] at h, CallsIn.inRound lr (callsIn_wide.2 (Calls.mono h fun e w'' ⟨v, he, hk⟩ => by subst he; exact hn _ _ hk))⟩
  | halt x w' => simp only [Free.Yields] at h

def OpOk (P : Program) (R : World → World → Prop) (J : JT) (w0 : World) (a0 : Act) (ops : Array Oper) (i : Nat) (o : Oper) (Vs : List VT) (V : VT) : Prop :=
  ∀ ev w X, Base ev → R w0 w → AllOuts a0 ev (outs2 ops i o) → AllDeps Vs ev w (deps ops o) → J X w → X i = none → AllX X ev (deps ops o) →
    (wantedEv ops o ev = true → Free.Yields P (fun v w' => R w w' ∧ V v w' ∧ J (upd X i v) w') ((execOp ev o).run P w)) ∧ (wantedEv ops o ev = false → V undef w ∧ J (upd X i undef) w)

def Chain (P : Program) (R : World → World → Prop) (J : JT) (w0 : World) (a0 : Act) (ops : Array Oper) (Fin : List VT → Prop) : List Oper → List VT → Prop
  | [], Vs => Fin Vs
  | o :: rest, Vs => ∃ V, Stable R V ∧ OpOk P R J w0 a0 ops Vs.length o Vs V ∧ Chain P R J w0 a0 ops Fin rest (Vs ++ [V])

section
variable {m lr : Nat} {P : Program} {R : World → World → Prop} {J : JT} {w0 : World} {a0 : Act} {ops : Array Oper} {Fin : List VT → Prop}
/-- What the chain gives: a list of what holds of every value. -/
theorem Chain.all : ∀ (rest : List Oper) (Vs : List VT), Chain P R J w0 a0 ops Fin rest Vs →
    (∀ V ∈ Vs, Stable R V) → (∃ Us, Fin (Vs ++ Us) ∧ Us.length = rest.length ∧ (∀ V ∈ Vs ++ Us, Stable R V) ∧
      ∀ i o, rest[i]? = some o → ∃ V, (Vs ++ Us)[Vs.length + i]? = some V ∧ OpOk P R J w0 a0 ops (Vs.length + i) o ((Vs ++ Us).take (Vs.length + i)) V)
  | [], Vs, h, hs => ⟨[], by simpa [Chain] using h, rfl, by simpa using hs, by simp⟩
  | o :: rest, Vs, ⟨V, h1, h2, h3⟩, hs => by
    obtain ⟨Us, g1, g2, g3, g4⟩ := Chain.all rest (Vs ++ [V]) h3 (by
      intro U hU
      rcases List.mem_append.1 hU with hU | hU
      · exact hs U hU
      · simp at hU; subst hU; exact h1)
    refine ⟨V :: Us, by simpa using g1, by simp [g2], by simpa using g3, ?_⟩
    intro i o' hi
    cases i with
    | zero =>
      simp at hi
      subst hi
      refine ⟨V, by simp, ?_⟩
      have : (Vs ++ V :: Us).take (Vs.length + 0) = Vs := by simp
      rw [this]
      simpa using h2
    | succ i =>
      have := g4 i o' (by simpa using hi)
      simp only [List.length_append, List.length_singleton, List.append_assoc, List.singleton_append] at this
      rw [show Vs.length + (i + 1) = Vs.length + 1 + i by omega]
      exact this

structure Inv (R : World → World → Prop) (J : JT) (w0 : World) (a0 : Act) (ops : Array Oper) (Vs : List VT) (X : XT) (listed : Array Bool) (a : Act) (w : World) : Prop where
  hd : a.defers = a0.defers
  hsz : a.tmps.size = a0.tmps.size
  hls : listed.size = ops.size
  hR : R w0 w
  hJ : J X w
  hX : ∀ i, i < ops.size → (listed.getD i true = true ↔ ∃ v, X i = some v)
  hout : ∀ t, (∀ (i : Nat) o, ops[i]? = some o → o.dst = some t → listed.getD i true = false) → a.tmps.getD t undef = a0.tmps.getD t undef
  hcl : ∀ (i : Nat) o, ops[i]? = some o → listed.getD i true = true → ∀ e ∈ o.after, Region.binds .any e = true → listed.getD e.on true = true
  hval : ∀ (i : Nat) o v, ops[i]? = some o → X i = some v → At Vs i v w ∧ ∀ d, o.dst = some d → a.tmps.getD d undef = v
def InvE (R : World → World → Prop) (J : JT) (w0 : World) (a0 : Act) (ops : Array Oper) (Vs : List VT) (listed : Array Bool) (a : Act) (w : World) : Prop := ∃ X, Inv R J w0 a0 ops Vs X listed a w

theorem Inv.step {Vs : List VT} (hnd : ∀ (i : Nat) o, ops[i]? = some o → isDefer o = false) {X : XT} {Q : Exit → Act → World → Prop} (hwf : wfB2 ops a0.tmps.size = true) (hre : ∀ a, R a a) (htr : ∀ a b c, R a b → R b c → R a c)
    (hst : ∀ V ∈ Vs, Stable R V) (hob : ∀ (i : Nat) o, ops[i]? = some o → ∃ V, Vs[i]? = some V ∧ OpOk P R J w0 a0 ops i o (Vs.take i) V)
    {listed : Array Bool} {a : Act} {w : World} (h : Inv R J w0 a0 ops Vs X listed a w) {i : Nat} (hi : i ∈ Region.ready .any ops listed) :
    wpOpIn (Fence.wide.inRound lr) m P ops Q i (InvE R J w0 a0 ops Vs (listed.setIfInBounds i true)) a w := by
  obtain ⟨hun, o, ho, hall⟩ := mem_ready.1 hi
  have hil : i < ops.size := (Array.getElem?_eq_some_iff.1 ho).1
  obtain ⟨hb, hdst⟩ := wf_spec2 hwf ho
  obtain ⟨V, hV, hok⟩ := hob i o ho
  have hXi : X i = none := by
    cases hx : X i with
    | none => rfl
    | some v => have := (h.hX i hil).2 ⟨v, hx⟩; rw [hun] at this; cases this
  have houts : AllOuts a0 a.eval (outs2 ops i o) := AllOuts.of fun t ht => by
    simp only [outs2, List.mem_filter] at ht
    refine h.hout t fun j o' hj hd => ?_
    obtain ⟨e, he, hbe, hei⟩ := later_spec ht.2 hj hd
    cases hl : listed.getD j true with
    | false => rfl
    | true =>
      have := h.hcl j o' hj hl e he hbe
      rw [hei] at this
      rw [hun] at this
      cases this
  have hmem : ∀ p ∈ deps ops o, p.1 < i ∧ ∃ o', ops[p.1]? = some o' ∧ o'.dst = some p.2 ∧ ∃ v, X p.1 = some v := by
    intro p hp
    simp only [deps, List.mem_filterMap] at hp
    obtain ⟨e, he, hp⟩ := hp
    by_cases hbe : Region.binds .any e = true
    · simp only [hbe, if_true, Option.map_eq_some_iff, Option.bind_eq_some_iff] at hp
      obtain ⟨d, ⟨o', ho', hd'⟩, rfl⟩ := hp
      have hel := hall e (by simpa using he) hbe
      have hlt0 : e.on < ops.size := (Array.getElem?_eq_some_iff.1 ho').1
      refine ⟨hb e (by simpa using he) hbe, o', ho', hd', (h.hX e.on hlt0).1 ?_⟩
      have hlt : e.on < listed.size := by rw [h.hls]; exact hlt0
      simpa [hlt] using hel
    · simp [hbe] at hp
  have hdx : AllX X a.eval (deps ops o) := AllX.of fun p hp => by
    obtain ⟨_, o', ho', hd', v, hv⟩ := hmem p hp
    rw [hv]
    exact congrArg some ((h.hval p.1 o' v ho' hv).2 p.2 hd').symm
  have hdeps : AllDeps (Vs.take i) a.eval w (deps ops o) := by
    have hVl : i < Vs.length := (List.getElem?_eq_some_iff.1 hV).1
    have hlen : (Vs.take i).length = i := by simp; omega
    refine AllDeps.of (Us := Vs.drop i) (fun p hp => by rw [hlen]; exact (hmem p hp).1) fun p hp => ?_
    rw [List.take_append_drop]
    obtain ⟨_, o', ho', hd', v, hv⟩ := hmem p hp
    have := h.hval p.1 o' v ho' hv
    show At Vs p.1 (a.tmps.getD p.2 undef) w
    rw [this.2 p.2 hd']
    exact this.1
  obtain ⟨h1, h2⟩ := hok a.eval w X ⟨fun _ => rfl, fun _ => rfl, fun _ => rfl⟩ h.hR houts hdeps h.hJ hXi hdx
  have done : ∀ v w', R w w' → V v w' → J (upd X i v) w' → InvE R J w0 a0 ops Vs (listed.setIfInBounds i true) (a.put o.dst v) w' := by
    intro v w' hr hv hj
    refine ⟨upd X i v, by rw [put_defers, h.hd], by rw [put_size, h.hsz], by simp [h.hls], htr _ _ _ h.hR hr, hj, ?_, ?_, ?_, ?_⟩
    · intro j hjs
      by_cases hji : i = j
      · subst hji
        rw [getD_set_same (by rw [h.hls]; exact hil), upd_same]
        simp
      · rw [getD_set_other hji, upd_other _ _ (Ne.symm hji)]
        exact h.hX j hjs
    · intro t ht
      have ht0 : o.dst ≠ some t := fun e => by
        have := ht i o ho e
        rw [getD_set_same (by rw [h.hls]; exact hil)] at this
        cases this
      have := h.hout t fun j o' hj hd => by
        by_cases hji : i = j
        · subst hji; exact hun
        · have := ht j o' hj hd
          rwa [getD_set_other hji] at this
      rw [← this]
      cases hd : o.dst with
      | none => rfl
      | some d =>
        rw [getD_put, if_neg]
        rintro ⟨rfl, _⟩
        exact ht0 hd
    · intro j o' hj hl e he hbe
      by_cases hei : i = e.on
      · rw [← hei, getD_set_same (by rw [h.hls]; exact hil)]
      · rw [getD_set_other hei]
        by_cases hji : i = j
        · subst hji
          rw [ho] at hj
          cases hj
          have hel := hall e (by simpa using he) hbe
          by_cases hlt : e.on < listed.size
          · simpa [hlt] using hel
          · simp [Array.getD_eq_getD_getElem?, Array.getElem?_eq_none (Nat.le_of_not_lt hlt)]
        · rw [getD_set_other hji] at hl
          exact h.hcl j o' hj hl e he hbe
    · intro j o' u hj hu
      by_cases hji : i = j
      · subst hji
        rw [ho] at hj
        cases hj
        rw [upd_same] at hu
        cases hu
        refine ⟨by unfold At; rw [hV]; exact hv, fun d hd => ?_⟩
        rw [hd, getD_put, if_pos ⟨rfl, by rw [h.hsz]; exact (hdst d hd).1⟩]
      · rw [upd_other _ _ (Ne.symm hji)] at hu
        obtain ⟨h0, h0'⟩ := h.hval j o' u hj hu
        refine ⟨?_, fun d' hd' => ?_⟩
        · unfold At at h0 ⊢
          cases hVj : Vs[j]? with
          | none => trivial
          | some U => rw [hVj] at h0; exact hst U (List.mem_of_getElem? hVj) _ _ _ hr h0
        · rw [← h0' d' hd']
          cases hd : o.dst with
          | none => rfl
          | some d =>
            rw [getD_put, if_neg]
            rintro ⟨rfl, _⟩
            exact hji ((hdst d hd).2 j o' hj hd').symm
  unfold wpOpIn
  simp only [ho]
  rw [← wanted_eq]
  cases hw : wantedEv ops o a.eval with
  | true =>
    simp only [if_true]
    exact wpIn_of_yields (hnd i o ho) (h1 hw) fun v w' ⟨hr, hv, hj⟩ => done v w' hr hv hj
  | false =>
    simp only [Bool.false_eq_true, if_false]
    exact ⟨fun _ _ => trivial, done undef w (hre w) (h2 hw).1 (h2 hw).2⟩

theorem wpAny_of_inv {I : Array Bool → Act → World → Prop} {Q : Exit → Act → World → Prop} (hstep : ∀ listed a w, I listed a w → ∀ i ∈ Region.ready .any ops listed, wpOpIn (Fence.wide.inRound lr) m P ops Q i (I (listed.setIfInBounds i true)) a w)
    (hend : ∀ listed a w, I listed a w → Region.ready .any ops listed = [] → Q .normal a w) :
    ∀ (fuel : Nat) (listed : Array Bool) (a : Act) (w : World), (listed.toList.filter (! ·)).length ≤ fuel → I listed a w → wpAnyIn (Fence.wide.inRound lr) m P .any ops Q fuel listed a w
  | 0, listed, a, w, hf, h => by
    have hr : Region.ready .any ops listed = [] := by
      rw [List.eq_nil_iff_forall_not_mem]
      intro i hi
      have hun := (mem_ready.1 hi).1
      have h0 : (listed.toList.filter (! ·)) = [] := List.length_eq_zero_iff.1 (by omega)
      rcases Nat.lt_or_ge i listed.size with hl | hl
      · have hg : listed[i] = false := by simpa [hl] using hun
        have : false ∈ listed.toList.filter (! ·) := List.mem_filter.2 ⟨by rw [← hg]; simp, rfl⟩
        rw [h0] at this; cases this
      · simp [Array.getElem?_eq_none hl] at hun
    exact ⟨hr, hend _ _ _ h hr⟩
  | fuel + 1, listed, a, w, hf, h => by
    refine ⟨fun hr => hend _ _ _ h hr, fun i hi => wpOpIn_mono (fun a' w' h' => wpAny_of_inv hstep hend fuel _ a' w' ?_ h') (hstep _ _ _ h i hi)⟩
    have hun := (mem_ready.1 hi).1
    have hl : i < listed.size := by
      rcases Nat.lt_or_ge i listed.size with hl | hl
      · exact hl
      · simp [Array.getElem?_eq_none hl] at hun
    have hg : listed[i] = false := by simpa [hl] using hun
    have hg' : listed.toList[i]? = some false := by simp [hl, hg]
    have key : ∀ (l : List Bool) (i : Nat), l[i]? = some false → ((l.set i true).filter (! ·)).length + 1 = (l.filter (! ·)).length := by
      intro l
      induction l with
      | nil => intro i h; simp at h
      | cons x r ih =>
        intro i h
        cases i with
        | zero => simp at h; subst h; simp
        | succ i =>
          have := ih i (by simpa using h)
          cases x <;> simp [List.filter_cons] <;> omega
    have := key listed.toList i hg'
    rw [Array.toList_setIfInBounds]
    omega

/-- What is asked behind the region. -/
def Behind (R : World → World → Prop) (J : JT) (w0 : World) (a0 : Act) (l : List Oper) (Q : Exit → Act → World → Prop) (Vs : List VT) : Prop :=
  ∀ xs w', R w0 w' → AllV Vs xs w' l.length → (∃ X, J X w' ∧ ∀ i, i < l.length → X i = some (xs i)) → Q .normal (putsFrom xs l 0 a0) w'

theorem wp_free {id : Nat} {l : List Oper} {Q : Exit → Act → World → Prop} {w : World} (hm : P.follows .mixedOrders = true) (hdf : (l.all fun o => !isDefer o) = true) (hwf : wfB2 l.toArray a0.tmps.size = true)
    (hre : ∀ a, R a a) (htr : ∀ a b c, R a b → R b c → R a c) (hJ0 : J (fun _ => none) w.drew)
    (h : Chain P R J w.drew a0 l.toArray (Behind R J w.drew a0 l Q) l []) : (Code.region id l.toArray true).wpIn (Fence.wide.inRound lr) m P Q a0 w := by
  obtain ⟨Us, h1, h2, h3, h4⟩ := Chain.all l [] h (by simp)
  simp only [List.nil_append, List.length_nil, Nat.zero_add] at h1 h3 h4
  refine wpIn_region_any hm ?_
  refine wpAny_of_inv (I := InvE R J w.drew a0 l.toArray Us) (fun listed a w' ⟨X, hI⟩ i hi => hI.step (fun i o ho => by have := List.all_eq_true.1 hdf o (List.mem_of_getElem? (by simpa using ho)); simpa using this) hwf hre htr h3 (fun i o ho => h4 i o (by simpa using ho)) hi) ?_ _ _ _ _ (by
    simp [List.filter_replicate]) ⟨fun _ => none, rfl, rfl, by simp, hre _, hJ0, fun i hi => by
      have hi' : i < l.length := by simpa using hi
      simp [hi'], fun _ _ => rfl, fun i o ho hl => (by
      have hil := (Array.getElem?_eq_some_iff.1 ho).1
      have hil' : i < l.length := by simpa using hil
      simp [hil'] at hl), fun i o v ho hv => by cases hv⟩
  rintro listed a w' ⟨X, hI⟩ hr
  have hall : ∀ i, i < l.length → listed.getD i true = true := by
    intro i
    induction i using Nat.strongRecOn with
    | _ i ih =>
      intro hi
      by_cases hl : listed.getD i true = true
      · exact hl
      · exfalso
        have ho : l.toArray[i]? = some l[i] := by simp [hi]
        have hmem : i ∈ Region.ready .any l.toArray listed := by
          refine mem_ready.2 ⟨by simpa using hl, l[i], ho, fun e he hb => ?_⟩
          have hlt := (wf_spec2 hwf ho).1 e he hb
          have := ih e.on hlt (by omega)
          have hs : e.on < listed.size := by rw [hI.hls]; simp; omega
          simpa [hs] using this
        rw [hr] at hmem
        cases hmem
  have hXs : ∀ i, i < l.length → X i = some ((X i).getD undef) := by
    intro i hi
    obtain ⟨v, hv⟩ := (hI.hX i (by simpa using hi)).1 (hall i hi)
    rw [hv]; rfl
  let xs : Nat → Value := fun i => (X i).getD undef
  have hxs : ∀ i (hi : i < l.length), At Us i (xs i) w' ∧ ∀ d, l[i].dst = some d → xs i = a.tmps.getD d undef := by
    intro i hi
    have := hI.hval i l[i] _ (by simp [hi]) (hXs i hi)
    exact ⟨this.1, fun d hd => (this.2 d hd).symm⟩
  have hfin := h1 xs w' hI.hR (AllV.of _ fun i hi => (hxs i hi).1) ⟨X, hI.hJ, hXs⟩
  have huniq : ∀ (i j : Nat) (o o' : Oper) d, l[i]? = some o → l[j]? = some o' → o.dst = some d → o'.dst = some d → i = j := by
    intro i j o o' d h1 h2 h3 h4
    exact (((wf_spec2 hwf (i := i) (o := o) (by simpa using h1)).2 d h3).2 j o' (by simpa using h2) h4).symm
  have ha : a = putsFrom xs l 0 a0 := by
    have htm : a.tmps = (putsFrom xs l 0 a0).tmps := by
      refine Array.ext_getElem? fun t => ?_
      by_cases ht : t < a0.tmps.size
      · have e1 := putsFrom_getD xs l 0 a0 t ht huniq
        have key : a.tmps.getD t undef = (putsFrom xs l 0 a0).tmps.getD t undef := by
          rw [e1]
          cases hf : l.findIdx? (fun o => o.dst == some t) with
          | some i =>
            obtain ⟨hi, hp, _⟩ := List.findIdx?_eq_some_iff_getElem.1 hf
            have := (hxs i hi).2 t (by simpa using hp)
            simp [this]
          | none =>
            rw [List.findIdx?_eq_none_iff] at hf
            refine hI.hout t fun i o ho hd => ?_
            have := hf o (List.mem_of_getElem? (by simpa using ho))
            simp [hd] at this
        have s1 : t < a.tmps.size := by rw [hI.hsz]; exact ht
        have s2 : t < (putsFrom xs l 0 a0).tmps.size := by rw [putsFrom_size]; exact ht
        simpa [s1, s2] using key
      · rw [Array.getElem?_eq_none (by rw [hI.hsz]; omega), Array.getElem?_eq_none (by rw [putsFrom_size]; omega)]
    have hdf : a.defers = (putsFrom xs l 0 a0).defers := by rw [putsFrom_defers, hI.hd]
    cases a
    simp only at htm hdf
    rw [htm, hdf]
  rw [ha]
  exact hfin

/-- One value, in whatever world; J does not look at this operation. -/
theorem Chain.ex {o : Oper} {rest : List Oper} {Vs : List VT} (c : Value) (n : Nat) (hn : Vs.length = n) (D : List (Nat × Tmp)) (T : List Tmp) (hD : deps ops o = D) (hT : outs2 ops n o = T) (hg : o.guard = none) (hre : ∀ a, R a a)
    (hJ : ∀ X W v, J X W → J (upd X Vs.length v) W)
    (hrun : ∀ ev W, Base ev → R w0 W → AllOuts a0 ev T → AllDeps Vs ev W D → (execOp ev o).run P W = .ok (.value c) W)
    (h : Chain P R J w0 a0 ops Fin rest (Vs ++ [fun v _ => v = c])) : Chain P R J w0 a0 ops Fin (o :: rest) Vs :=
  ⟨_, fun _ _ _ _ h => h, fun ev W X hb hR hO hDs hj hx hax => by
    subst hn hD hT
    refine ⟨fun _ => ?_, fun hw => by rw [wantedEv_none hg] at hw; cases hw⟩
    rw [hrun ev W hb hR hO hDs]
    exact ⟨hre W, rfl, hJ X W c hj⟩, h⟩
/-- A value of which something holds; J is told anew. -/
theorem Chain.pr {o : Oper} {rest : List Oper} {Vs : List VT} (V : VT) (n : Nat) (hn : Vs.length = n) (D : List (Nat × Tmp)) (T : List Tmp) (hD : deps ops o = D) (hT : outs2 ops n o = T) (hg : o.guard = none) (hs : Stable R V)
    (hrun : ∀ ev W X, Base ev → R w0 W → AllOuts a0 ev T → AllDeps Vs ev W D → J X W → X Vs.length = none → AllX X ev D → Free.Yields P (fun v W' => R W W' ∧ V v W' ∧ J (upd X Vs.length v) W') ((execOp ev o).run P W))
    (h : Chain P R J w0 a0 ops Fin rest (Vs ++ [V])) : Chain P R J w0 a0 ops Fin (o :: rest) Vs :=
  ⟨_, hs, fun ev W X hb hR hO hDs hj hx hax => by
    subst hn hD hT
    exact ⟨fun _ => hrun ev W X hb hR hO hDs hj hx hax, fun hw => by rw [wantedEv_none hg] at hw; cases hw⟩, h⟩
end
end Go.Proofs.YtknpglgpkkhhiaaDoor.Free2R

/- The lead and the round. -/
namespace Go.Proofs.YtknpglgpkkhhiaaDoor
set_option linter.unusedSimpArgs false
set_option linter.unusedVariables false
open Go.RowKit Go.Proofs.YtknpglgpkkhhiaaDoor.Free2 Go.Proofs.YtknpglgpkkhhiaaDoor.ML RR
attribute [local go_sem] Oper.semAt_some

theorem bel_same {W : World} {b : Nat} {v : Value} {t : TypeId} {f : Nat × Nat} (h : W.heap[b]? = some (.cells #[v] t f)) : Free.Bel W (W.setCell ⟨b, 0, none⟩ v) :=
  ⟨rfl, rfl, rfl, by simp, fun k hk => by
    by_cases e : k = b
    · subst e
      have := heap_setCell_same (o := 0) v h
      rw [this, h]
      simp
    · exact Below.heap_setCell _ _ _ _ (by simpa using e)⟩
/-- Several blocks, each stored once, by an operation of its own. -/
def JHL (L : List (Nat × Nat × Obj × Obj)) (X : XT) (W : World) : Prop := ∀ e ∈ L, (X e.1 = none → W.heap[e.2.1]? = some e.2.2.1) ∧ (X e.1 ≠ none → W.heap[e.2.1]? = some e.2.2.2)
theorem JHL.start {L : List (Nat × Nat × Obj × Obj)} {W : World} (h : ∀ e ∈ L, W.heap[e.2.1]? = some e.2.2.1) : JHL L (fun _ => none) W := fun e he => ⟨fun _ => h e he, fun h => absurd rfl h⟩
theorem JHL.skip {L : List (Nat × Nat × Obj × Obj)} {X : XT} {W : World} (h : JHL L X W) (n : Nat) (v : Value) (hn : ∀ e ∈ L, e.1 ≠ n) : JHL L (upd X n v) W := fun e he => by rw [upd_other _ _ (hn e he)]; exact h e he
theorem JHL.put {L : List (Nat × Nat × Obj × Obj)} {X : XT} {W W' : World} (h : JHL L X W) (e0 : Nat × Nat × Obj × Obj) (v : Value) (hd : ∀ e ∈ L, e = e0 ∨ (e.1 ≠ e0.1 ∧ e.2.1 ≠ e0.2.1)) (hb : W'.heap[e0.2.1]? = some e0.2.2.2) (ho : ∀ k, k ≠ e0.2.1 → W'.heap[k]? = W.heap[k]?) : JHL L (upd X e0.1 v) W' := fun e he => by
  rcases hd e he with rfl | ⟨h1, h2⟩
  · rw [upd_same]
    exact ⟨fun h => (by cases h), fun _ => hb⟩
  · rw [upd_other _ _ h1, ho _ h2]
    exact h e he
/-- All blocks but some stay. -/
structure RX (s0 : Nat) (bs : List Nat) (a b : World) : Prop where
  os : b.os = a.os
  tape : b.tape = a.tape
  output : b.output = a.output
  size : a.heap.size ≤ b.heap.size
  block : ∀ k, k < s0 → k ∉ bs → b.heap[k]? = a.heap[k]?
theorem RX.refl (s0 : Nat) (bs : List Nat) (a : World) : RX s0 bs a a := ⟨rfl, rfl, rfl, Nat.le_refl _, fun _ _ _ => rfl⟩
theorem RX.trans {s0 : Nat} {bs : List Nat} (a b c : World) (h : RX s0 bs a b) (k : RX s0 bs b c) : RX s0 bs a c := ⟨k.os.trans h.os, k.tape.trans h.tape, k.output.trans h.output, Nat.le_trans h.size k.size, fun i h1 h2 => (k.block i h1 h2).trans (h.block i h1 h2)⟩
theorem RX.set {s0 b o : Nat} {bs : List Nat} {a : World} {v : Value} (hb : b ∈ bs) : RX s0 bs a (a.setCell ⟨b, o, none⟩ v) := ⟨rfl, rfl, rfl, by simp, fun k _ h2 => Below.heap_setCell _ _ _ _ (by rintro rfl; exact h2 hb)⟩
theorem RX.cell {s0 : Nat} {bs : List Nat} {a b : World} (h : RX s0 bs a b) {p : Addr} {v : Value} (hv : a.cell? p = some v) (hs : p.block < s0) (hb : p.block ∉ bs) : b.cell? p = some v := (World.cell?_of_block (h.block _ hs hb)).trans hv
/-- What Round tells. -/
def RoundPost (h : Int) (xs : List Rk) (c : Int) (w : World) (e : Ending) (w' : World) : Prop :=
  (c ≠ 0 ∧ e = .returned (.tuple #[.slice none 0 0, .slice none 0 0, .int .i64 c])) ∨ (c = 0 ∧ ∃ i j vl vr, RoundIs h xs i j ∧ e = .returned (.tuple #[vl, vr, .int .i64 0]) ∧ DZ (planL h xs i) vl w' ∧ DZ ((planL h xs j).drop i) vr w')
set_option maxRecDepth 100000 in
set_option maxHeartbeats 16000000 in
theorem round_a (h : Int) (xs : List Rk) (u : Value) (w : World) (hT : TabR w) (hu : RL xs u w) (c : Int) (hc : Hid (goE h xs = c)) (hc0 : c ≠ 0) :
    Calls Tryd.prog 41 #[.agg #[.int .i64 h, u]] w fun e w' => e = .returned (.tuple #[.slice none 0 0, .slice none 0 0, .int .i64 c]) ∧ Below w.heap.size w w' := by
  have HU := Lib.hid hu
  obtain ⟨p, cp, rfl, _, _⟩ := hu
  have KB : Free.Bel w ((((w.alloc (.cells #[.int .i64 h, .slice p xs.length cp] 24)).alloc (.cells #[.slice none 0 0] 25)).alloc (.cells #[.slice none 0 0] 25)).alloc (.cells #[.int .i64 0] 31)) := bt (bt (bt (belAlloc _ _) (belAlloc _ _)) (belAlloc _ _)) (belAlloc _ _)
  have m0 : ((((w.alloc (.cells #[.int .i64 h, .slice p xs.length cp] 24)).alloc (.cells #[.slice none 0 0] 25)).alloc (.cells #[.slice none 0 0] 25)).alloc (.cells #[.int .i64 0] 31)).heap[w.heap.size]? = some (.cells #[.int .i64 h, .slice p xs.length cp] 24 (0, 0)) := heap_old (heap_old (heap_old (World.alloc_heap_new w _)))
  have m1 : ((((w.alloc (.cells #[.int .i64 h, .slice p xs.length cp] 24)).alloc (.cells #[.slice none 0 0] 25)).alloc (.cells #[.slice none 0 0] 25)).alloc (.cells #[.int .i64 0] 31)).heap[w.heap.size + 1]? = some (.cells #[.slice none 0 0] 25 (0, 0)) := heap_old (heap_old (by
    have := World.alloc_heap_new (w.alloc (.cells #[.int .i64 h, .slice p xs.length cp] 24)) (.cells #[.slice none 0 0] 25)
    simpa using this))
  have m2 : ((((w.alloc (.cells #[.int .i64 h, .slice p xs.length cp] 24)).alloc (.cells #[.slice none 0 0] 25)).alloc (.cells #[.slice none 0 0] 25)).alloc (.cells #[.int .i64 0] 31)).heap[w.heap.size + 1 + 1]? = some (.cells #[.slice none 0 0] 25 (0, 0)) := heap_old (by
    have := World.alloc_heap_new ((w.alloc (.cells #[.int .i64 h, .slice p xs.length cp] 24)).alloc (.cells #[.slice none 0 0] 25)) (.cells #[.slice none 0 0] 25)
    simpa using this)
  have m3 : ((((w.alloc (.cells #[.int .i64 h, .slice p xs.length cp] 24)).alloc (.cells #[.slice none 0 0] 25)).alloc (.cells #[.slice none 0 0] 25)).alloc (.cells #[.int .i64 0] 31)).heap[w.heap.size + 1 + 1 + 1]? = some (.cells #[.int .i64 0] 31 (0, 0)) := by
    have := World.alloc_heap_new (((w.alloc (.cells #[.int .i64 h, .slice p xs.length cp] 24)).alloc (.cells #[.slice none 0 0] 25)).alloc (.cells #[.slice none 0 0] 25)) (.cells #[.int .i64 0] 31)
    simpa using this
  have FA : ∀ W, Free.Bel ((((w.alloc (.cells #[.int .i64 h, .slice p xs.length cp] 24)).alloc (.cells #[.slice none 0 0] 25)).alloc (.cells #[.slice none 0 0] 25)).alloc (.cells #[.int .i64 0] 31)) W → W.cell? ⟨w.heap.size, 0, none⟩ = some (.int .i64 h) ∧ W.cell? ⟨w.heap.size, 1, none⟩ = some (.slice p xs.length cp) := fun W hW => ⟨keepsB hW (cell_of_heap m0 rfl), keepsB hW (cell_of_heap m0 rfl)⟩
  have KE : Free.Bel ((((w.alloc (.cells #[.int .i64 h, .slice p xs.length cp] 24)).alloc (.cells #[.slice none 0 0] 25)).alloc (.cells #[.slice none 0 0] 25)).alloc (.cells #[.int .i64 0] 31)) ((((w.alloc (.cells #[.int .i64 h, .slice p xs.length cp] 24)).alloc (.cells #[.slice none 0 0] 25)).alloc (.cells #[.slice none 0 0] 25)).alloc (.cells #[.int .i64 0] 31)) := Free.Bel.refl _
  have HGO := Lib.hid (going_v h xs _ ((((w.alloc (.cells #[.int .i64 h, .slice p xs.length cp] 24)).alloc (.cells #[.slice none 0 0] 25)).alloc (.cells #[.slice none 0 0] 25)).alloc (.cells #[.int .i64 0] 31)) (hT.bel KB) (HU.out.keeps KB) c hc)
  have HKB := Lib.hid (And.intro KB (And.intro m1 (And.intro m2 m3)))
  have HC0 := Lib.hid hc0
  clear hT m0 m1 m2 m3 hc hc0
  go_enter Tryd.func41, Tryd.ntmps41
  go_wp2_with fail
  refine HGO.out.mono ?_
  rintro e w1 ⟨hG, hB1⟩
  obtain rfl : e = .returned (.tuple #[.pointer none, .int .i64 c]) := by
    rcases hG with ⟨_, h9⟩ | ⟨h9, _⟩
    · exact h9
    · exact absurd h9 HC0.out
  have g0 : (c != 0) = true := by simp [HC0.out]
  have K1 : Free.Bel ((((w.alloc (.cells #[.int .i64 h, .slice p xs.length cp] 24)).alloc (.cells #[.slice none 0 0] 25)).alloc (.cells #[.slice none 0 0] 25)).alloc (.cells #[.int .i64 0] 31)) w1 := hB1
  have n1 := (K1.block _ (lt_of_heap HKB.out.2.1)).trans HKB.out.2.1
  have n2 := (K1.block _ (lt_of_heap HKB.out.2.2.1)).trans HKB.out.2.2.1
  have n3 := (K1.block _ (lt_of_heap HKB.out.2.2.2)).trans HKB.out.2.2.2
  have y0 := cell_of_heap (o := 0) n3 rfl
  have y1 := frozen_of_heap (o := 0) n3
  have hs1 : w.heap.size + 4 ≤ w1.heap.size := by have := K1.size; simp at this; omega
  have HN := Lib.hid (And.intro n1 (And.intro n2 (And.intro n3 (And.intro K1 hs1))))
  clear hG hB1 n1 n2 n3 KE FA K1 KB hs1
  go_wp2_with fail
  refine with_world ?_
  intro w2 hw2
  have HF : Hid (∀ W, Free.Bel w2.drew W → W.heap[w.heap.size + 1]? = some (.cells #[.slice none 0 0] 25 (0, 0)) ∧ W.heap[w.heap.size + 1 + 1]? = some (.cells #[.slice none 0 0] 25 (0, 0)) ∧ W.heap[w.heap.size + 1 + 1 + 1]? = some (.cells #[.int .i64 c] 31 (0, 0)) ∧ Below w.heap.size w W) := fun W hW => by
    obtain ⟨n1, n2, n3, K1, hs1⟩ := HN.out
    have q1 : w2.heap[w.heap.size + 1]? = some (.cells #[.slice none 0 0] 25 (0, 0)) := by rw [hw2]; exact heap_other n1 (by simp)
    have q2 : w2.heap[w.heap.size + 1 + 1]? = some (.cells #[.slice none 0 0] 25 (0, 0)) := by rw [hw2]; exact heap_other n2 (by simp)
    have q3 : w2.heap[w.heap.size + 1 + 1 + 1]? = some (.cells #[.int .i64 c] 31 (0, 0)) := by rw [hw2]; have := heap_setCell_same (o := 0) (.int .i64 c) n3; simpa using this
    have q4 : Below w.heap.size w w2 := by rw [hw2]; exact (Below.trans (show Below w.heap.size w _ from HKB.out.1) (Below.mono K1 HKB.out.1.size)).setCell (by simp; omega) _
    have hd : Free.Bel w2 W := bt (Bel.drewT (Free.Bel.refl _)) hW
    exact ⟨(hd.block _ (lt_of_heap q1)).trans q1, (hd.block _ (lt_of_heap q2)).trans q2, (hd.block _ (lt_of_heap q3)).trans q3, q4.trans (Below.mono hd q4.size)⟩
  clear hw2 y0 y1
  have hF : ∀ W, Free.Bel w2.drew W → (W.cell? ⟨w.heap.size + 1, 0, none⟩ = some (.slice none 0 0) ∧ W.cell? ⟨w.heap.size + 1 + 1, 0, none⟩ = some (.slice none 0 0) ∧ W.cell? ⟨w.heap.size + 1 + 1 + 1, 0, none⟩ = some (.int .i64 c)) ∧ (W.frozen? ⟨w.heap.size + 1, 0, none⟩ = false ∧ W.frozen? ⟨w.heap.size + 1 + 1, 0, none⟩ = false ∧ W.frozen? ⟨w.heap.size + 1 + 1 + 1, 0, none⟩ = false) := fun W hW => by
    obtain ⟨q1, q2, q3, _⟩ := HF.out W hW
    exact ⟨⟨cell_of_heap q1 rfl, cell_of_heap q2 rfl, cell_of_heap q3 rfl⟩, frozen_of_heap q1, frozen_of_heap q2, frozen_of_heap q3⟩
  refine Free.wp_free (R := Free.Bel) (by kernel_rfl) (by kernel_rfl) Free.Bel.refl Free.Bel.trans ?_
  refine Free.Chain.ex ?_ [] [4] (by kernel_rfl) (by kernel_rfl) rfl Free.Bel.refl ?_ ?_
  rotate_left
  · (intro ev W hb hR hO hD; have hS := hF W hR; obtain ⟨hb1, hb2, hb3⟩ := hb; simp only [Free.AllDeps, Free.AllOuts, Free.At, al1, al2, al3, al4, al5, and_true] at hO hD; go_simp; rfl)
  simp only [an1, an2]
  refine Free.Chain.pr (fun _ _ => True) [] [2] (by kernel_rfl) (by kernel_rfl) rfl (fun _ _ _ _ h => h) ?_ ?_
  · (intro ev W hb hR hO hD; have hS := hF W hR; obtain ⟨hb1, hb2, hb3⟩ := hb; simp only [Free.AllDeps, Free.AllOuts, Free.At, al1, al2, al3, al4, al5, and_true] at hO hD; have hq := HF.out W hR; go_simp; exact bel_same hq.1)
  simp only [an1, an2]
  refine Free.Chain.pr (fun _ _ => True) [] [3] (by kernel_rfl) (by kernel_rfl) rfl (fun _ _ _ _ h => h) ?_ ?_
  · (intro ev W hb hR hO hD; have hS := hF W hR; obtain ⟨hb1, hb2, hb3⟩ := hb; simp only [Free.AllDeps, Free.AllOuts, Free.At, al1, al2, al3, al4, al5, and_true] at hO hD; have hq := HF.out W hR; go_simp; exact bel_same hq.2.1)
  simp only [an1, an2]
  refine Free.Chain.pr (fun _ _ => True) [(0, 19), (0, 19)] [4] (by kernel_rfl) (by kernel_rfl) rfl (fun _ _ _ _ h => h) ?_ ?_
  · (intro ev W hb hR hO hD; have hS := hF W hR; obtain ⟨hb1, hb2, hb3⟩ := hb; simp only [Free.AllDeps, Free.AllOuts, Free.At, al1, al2, al3, al4, al5, and_true] at hO hD; have hq := HF.out W hR; go_simp; exact bel_same hq.2.2.1)
  simp only [an1, an2]
  intro ys w3 hR hV
  simp only [Free.AllV, Free.At, List.length_cons, List.length_nil, Nat.reduceAdd, List.getElem?_cons_succ, List.getElem?_cons_zero, true_and, and_true] at hV
  simp only [Free.putsFrom, Act.put, Nat.zero_add, Nat.reduceAdd, hV, List.setIfInBounds_toArray, List.set_cons_succ, List.set_cons_zero]
  obtain ⟨⟨q1, q2, q3⟩, _⟩ := hF w3 hR
  have HB := Lib.hid (HF.out w3 hR).2.2.2
  clear hR hV hF
  go_wp2_with fail
  exact bodyPost_ret (v := .tuple #[.slice none 0 0, .slice none 0 0, .int .i64 c]) (by simp [results, Tryd.results41, go_sem, q1, q2, q3]) rfl ⟨rfl, HB.out⟩
end Go.Proofs.YtknpglgpkkhhiaaDoor

/- Rows of numbers whose base is told; rows of such rows. -/
namespace Go.Proofs.YtknpglgpkkhhiaaDoor
set_option linter.unusedSimpArgs false
set_option linter.unusedVariables false
open Go.RowKit Go.Proofs.YtknpglgpkkhhiaaDoor.Free2 Go.Proofs.YtknpglgpkkhhiaaDoor.ML RR

theorem own_le7 {base : Nat} {e : TypeId} {size n : Nat} {v : Value} {xs : List Value} {W : World} (h : W.ownsRow base e size v n xs) : n ≤ maxLen := by
  rcases h.2 with ⟨_, rfl⟩ | ⟨g, cap, cur, _, _, _, h1, h2, _⟩
  · exact Nat.zero_le _
  · omega
def DayB (b : Nat) (d : List Int) (v : Value) (W : World) : Prop := W.ownsRow b 3 1 v d.length (d.map (Value.int .i64))
def DOB (base b : Nat) (ds : List (List Int)) (v : Value) (W : World) : Prop := ∃ vs : List Value, vs.length = ds.length ∧ W.ownsRow base 58 1 v ds.length vs ∧ ∀ (i : Nat) (h : i < ds.length) u, vs[i]? = some u → DayB b ds[i] u W
theorem DayR.il {d : List Int} {v : Value} {W : World} (h : DayR d v W) : IL d v W := let ⟨_, h1⟩ := h; IL.of_own (own_le7 h1) h1
theorem DayB.day {b : Nat} {d : List Int} {v : Value} {W : World} (h : DayB b d v W) : DayR d v W := ⟨b, h⟩
theorem DayB.il {b : Nat} {d : List Int} {v : Value} {W : World} (h : DayB b d v W) : IL d v W := h.day.il
theorem DOB.do {base b : Nat} {ds : List (List Int)} {v : Value} {W : World} (h : DOB base b ds v W) : DO base ds v W := let ⟨vs, h1, h2, h3⟩ := h; ⟨vs, h1, h2, fun i hi u hu => (h3 i hi u hu).day⟩
theorem DayB.stay {b : Nat} {d : List Int} {v : Value} {W W' : World} (h : DayB b d v W) (hk : ∀ (k : Nat) c f, W.heap[k]? = some (.cells c 3 f) → W'.heap[k]? = some (.cells c 3 f)) : DayB b d v W' := own_typed h hk
theorem DayB.mono {b b' : Nat} {d : List Int} {v : Value} {W : World} (h : DayB b d v W) (hb : b' ≤ b) : DayB b' d v W := row_mono h hb
theorem DayB.rx {s0 g b : Nat} {d : List Int} {v : Value} {W W' : World} (h : DayB b d v W) (hR : RX s0 [g] W W') (hs : W.heap.size ≤ s0) (hg : ∃ c f, W.heap[g]? = some (.cells c 58 f)) : DayB b d v W' :=
  h.stay fun k c f hk => (hR.block k (Nat.lt_of_lt_of_le (lt_of_heap hk) hs) (by
    intro hm
    simp at hm
    subst hm
    obtain ⟨c', f', h9⟩ := hg
    rw [h9] at hk
    cases hk)).trans hk
theorem DOB.stay {base b : Nat} {ds : List (List Int)} {v : Value} {W W' : World} (h : DOB base b ds v W) (h1 : ∀ (k : Nat) c f, W.heap[k]? = some (.cells c 58 f) → W'.heap[k]? = some (.cells c 58 f)) (h2 : ∀ (k : Nat) c f, W.heap[k]? = some (.cells c 3 f) → W'.heap[k]? = some (.cells c 3 f)) : DOB base b ds v W' :=
  let ⟨vs, a, q, c⟩ := h
  ⟨vs, a, own_typed q h1, fun i hi u hu => (c i hi u hu).stay h2⟩
theorem DOB.bel {base b : Nat} {ds : List (List Int)} {v : Value} {W W' : World} (h : DOB base b ds v W) (hB : Free.Bel W W') : DOB base b ds v W' :=
  h.stay (fun k c f hk => (hB.block k (lt_of_heap hk)).trans hk) fun k c f hk => (hB.block k (lt_of_heap hk)).trans hk
theorem DayB.grown {base b n : Nat} {d : List Int} {u v : Value} {vs : List Value} {W W' : World} (h : DayB b d u W) (ho : W.ownsRow base 58 1 v n vs) (hg : W.grownBy W' v.ownBlock) : DayB b d u W' :=
  h.stay fun k c f hk => heap_grown hk hg fun q => by
    rcases ho.2 with ⟨rfl, _⟩ | ⟨g, cap, cur, rfl, _, hg2, _⟩
    · simp [Value.ownBlock] at q
    · simp [Value.ownBlock] at q
      subst q
      rw [hk] at hg2
      cases hg2
theorem DOB.nil (base b : Nat) (W : World) : DOB base b [] (.slice none 0 0) W := ⟨[], rfl, World.ownsRow_nil _ _ _ _, fun i h => by simp at h⟩
theorem DOB.snoc {base b : Nat} {ds : List (List Int)} {d : List Int} {v v' u : Value} {vs : List Value} {W W' : World} (hl : vs.length = ds.length) (ho : W.ownsRow base 58 1 v ds.length vs) (hd : ∀ (i : Nat) (h : i < ds.length) u, vs[i]? = some u → DayB b ds[i] u W) (hu : DayB b d u W) (hg : W.grownBy W' v.ownBlock) (ho' : W'.ownsRow base 58 1 v' (ds.length + 1) (vs ++ [u])) : DOB base b (ds ++ [d]) v' W' := by
  refine ⟨vs ++ [u], by simp [hl], by simpa using ho', fun i hi u' hu' => ?_⟩
  by_cases h : i < ds.length
  · rw [List.getElem?_append_left (by omega)] at hu'
    rw [List.getElem_append_left h]
    exact (hd i h u' hu').grown ho hg
  · have e : i = ds.length := by simp at hi; omega
    subst e
    rw [List.getElem?_append_right (by omega), hl, Nat.sub_self] at hu'
    simp at hu'
    subst hu'
    rw [List.getElem_append_right (Nat.le_refl _)]
    simpa using hu.grown ho hg
end Go.Proofs.YtknpglgpkkhhiaaDoor

/- Before, and SameInts at any lists. -/
namespace Go.Proofs.YtknpglgpkkhhiaaDoor
set_option linter.unusedSimpArgs false
set_option linter.unusedVariables false
open Go.RowKit Go.Proofs.YtknpglgpkkhhiaaDoor.Free2

set_option maxRecDepth 100000 in
set_option maxHeartbeats 4000000 in
theorem bef_v (a b : List Int) (u v : Value) (w : World) (hu : IL a u w) (hv : IL b v w) (r : Bool) (hr : Hid (beforeL a b = r)) :
    Calls Tryd.prog 60 #[u, v] w fun e w' => e = .returned (.bool r) ∧ Below w.heap.size w w' := by
  obtain ⟨p, cp, rfl, hm, hp⟩ := hu
  obtain ⟨q, cq, rfl, hm2, hq⟩ := hv
  unfold maxLen at hm hm2
  have HP := Lib.hid hp
  have HQ := Lib.hid hq
  clear hp hq
  by_cases hl : a.length = b.length
  · have HL := Lib.hid hl
    have hne : ((a.length : Int) != (b.length : Int)) = false := by rw [hl]; simp
    have HX : Hid (lexB a b = r) := by have h9 := hr.out; unfold beforeL at h9; rw [if_pos hl] at h9; exact h9
    clear hl
    go_enter Tryd.func60, Tryd.ntmps60
    go_wp2_with fail
    go_loopw [5] (fun i wr => ∃ k : Nat, k ≤ a.length ∧ i = .int .i64 k ∧ Below w.heap.size w wr ∧ lexB (a.drop k) (b.drop k) = r) (fun i _ => a.length - (intOf i).toNat)
    case atStart => exact ⟨0, Nat.zero_le _, rfl, Below.refl _ _, HX.out⟩
    case round =>
      obtain ⟨k, hk, rfl, hB, hlx⟩ := hrel
      by_cases hlt : k < a.length
      · have hx : a ≠ [] := by intro e; simp [e] at hlt
        have hlt2 : k < b.length := by rw [← HL.out]; exact hlt
        have hx2 : b ≠ [] := by intro e; simp [e] at hlt2
        obtain ⟨b1, off, rfl, hcp⟩ := HP.out hx
        obtain ⟨b2, off2, rfl, hcq⟩ := HQ.out hx2
        have e1 := keepsB hB (hcp k hlt)
        have e2 := keepsB hB (hcq k hlt2)
        have hklt : (k : Int) < a.length := by omega
        have hklt2 : (k : Int) < b.length := by omega
        have hkw : IntKind.i64.wrap ((k : Int) + 1) = (k : Int) + 1 := IntWalk.i64_in _ (by omega)
        have hkn : ¬ ((k : Int) < 0) := by omega
        rw [List.drop_eq_getElem_cons hlt, List.drop_eq_getElem_cons hlt2] at hlx
        simp only [lexB] at hlx
        have HLX := Lib.hid hlx
        have HB := Lib.hid hB
        clear hcp hcq hlx hB hx hx2
        generalize a[k] = x at *
        generalize b[k] = y at *
        by_cases hxy : x = y
        · have hb1 : (x != y) = false := by simp [hxy]
          have HXY := Lib.hid hxy
          clear hxy
          go_wp2_with fail
          go_quiet (fail)
          generalize hqe : World.drewN wr _ = w9 at *
          have K9 : Free.Bel wr w9 := by rw [← hqe]; exact belN _ _
          clear hqe
          have HB9 := Lib.hid (HB.out.trans (K9.mono HB.out.size))
          clear K9
          go_wp2_with fail
          go_roundw
          case rel => exact ⟨k + 1, by omega, by go_num, HB9.out, by have h9 := HLX.out; rw [if_pos HXY.out] at h9; exact h9⟩
          case measure => simp [intOf]; omega
        · have hb1 : (x != y) = true := by simp [hxy]
          have HXY := Lib.hid hxy
          clear hxy
          obtain rfl : decide (x < y) = r := by have h9 := HLX.out; rw [if_neg HXY.out] at h9; exact h9
          go_wp2_with fail
          go_quiet (fail)
          generalize hqe : World.drewN wr _ = w9 at *
          have K9 : Free.Bel wr w9 := by rw [← hqe]; exact belN _ _
          clear hqe
          have HB9 := Lib.hid (HB.out.trans (K9.mono HB.out.size))
          have e3 := keepsB K9 e1
          have e4 := keepsB K9 e2
          clear K9 e1 e2
          go_wp2_with fail
          go_quiet (fail)
          generalize hqe : World.drewN w9 _ = w8 at *
          have K8 : Free.Bel w9 w8 := by rw [← hqe]; exact belN _ _
          clear hqe
          have HB8 := Lib.hid (HB9.out.trans (K8.mono HB9.out.size))
          clear K8
          go_wp2_with fail
          go_ret
          exact ⟨rfl, HB8.out⟩
      · obtain rfl : k = a.length := by omega
        obtain rfl : false = r := by
          rw [List.drop_length, List.drop_eq_nil_of_le (by rw [HL.out]; exact Nat.le_refl _)] at hlx
          exact hlx
        go_wp2_with fail
        go_ret
        exact ⟨rfl, hB⟩
  · have hne : ((a.length : Int) != (b.length : Int)) = true := by simp; omega
    obtain rfl : decide (a.length < b.length) = r := by
      have h9 := hr.out
      unfold beforeL at h9
      rw [if_neg hl] at h9
      exact h9
    clear hl
    go_enter Tryd.func60, Tryd.ntmps60
    go_wp2_with fail
    go_ret
    exact ⟨rfl, Below.refl _ _⟩
end Go.Proofs.YtknpglgpkkhhiaaDoor

/- The reference's played. -/
namespace Go.Proofs.YtknpglgpkkhhiaaDoor
set_option linter.unusedSimpArgs false
set_option linter.unusedVariables false
open Go.RowKit Go.Proofs.YtknpglgpkkhhiaaDoor.Free2

/-- What a slice points to is not in the row. -/
def OffS (v u : Value) : Prop := ∀ a n c, u = .slice (some a) n c → Off v a.block
theorem RL.rowK {xs : List Rk} {u v v' : Value} {a b : World} (h : RL xs u a) (ho : xs ≠ [] → OffS v u) (hR : RowK v a v' b) : RL xs u b := by
  obtain ⟨p, cap, rfl, h2, h3⟩ := h
  refine ⟨p, cap, rfl, h2, fun hx => ?_⟩
  obtain ⟨g, off, rfl, h5⟩ := h3 hx
  have ho2 := ho hx _ _ _ rfl
  exact ⟨g, off, rfl, fun k hk => ⟨hR.cell ho2 (h5 k hk).1, hR.cell ho2 (h5 k hk).2.1, hR.cell ho2 (h5 k hk).2.2⟩⟩
theorem RL.set {xs : List (Int × Int × Int)} {u x : Value} {a : World} {b o : Nat} (h : RL xs u a) (ho : xs ≠ [] → ∀ ad n c, u = .slice (some ad) n c → ad.block ≠ b) : RL xs u (a.setCell ⟨b, o, none⟩ x) := by
  obtain ⟨p, cap, rfl, h2, h3⟩ := h
  refine ⟨p, cap, rfl, h2, fun hx => ?_⟩
  obtain ⟨g, off, rfl, h5⟩ := h3 hx
  have ho2 := ho hx _ _ _ rfl
  have hk : ∀ j v, a.cell? ⟨g, j, none⟩ = some v → (a.setCell ⟨b, o, none⟩ x).cell? ⟨g, j, none⟩ = some v := fun j v hv => (World.cell?_of_block (heap_setCell_other (by simpa using ho2))).trans hv
  exact ⟨g, off, rfl, fun k hk2 => ⟨hk _ _ (h5 k hk2).1, hk _ _ (h5 k hk2).2.1, hk _ _ (h5 k hk2).2.2⟩⟩
theorem OffS.new {base base' e e' size size' n n' : Nat} {v u : Value} {xs ys : List Value} {a b : World} (h : a.ownsRow base e size v n xs) (hu : b.ownsRow base' e' size' u n' ys) (hb : a.heap.size ≤ base') : OffS v u := by
  intro ad m c he
  rcases hu.2 with ⟨rfl, _⟩ | ⟨g, cap, cur, rfl, hg, _⟩
  · cases he
  · cases he; exact off_new h (by simp; omega)
end Go.Proofs.YtknpglgpkkhhiaaDoor

/- The reference's TwinDays. -/
namespace Go.Proofs.YtknpglgpkkhhiaaDoor
set_option linter.unusedSimpArgs false
set_option linter.unusedVariables false
open Go.RowKit Go.Proofs.YtknpglgpkkhhiaaDoor.Free2

theorem T.infoSl : (Tryd.prog.info? 58).map (fun i => (i.zero, i.size, i.bytes)) = some (some (.slice none 0 0), 1, 24) := by kernel_rfl
theorem IL.rowK {xs : List Int} {u v v' : Value} {a b : World} (h : IL xs u a) (ho : xs ≠ [] → OffS v u) (hR : RowK v a v' b) : IL xs u b := by
  obtain ⟨p, cap, rfl, h2, h3⟩ := h
  refine ⟨p, cap, rfl, h2, fun hx => ?_⟩
  obtain ⟨g, off, rfl, h5⟩ := h3 hx
  have ho2 : Off v g := ho hx ⟨g, off, none⟩ _ _ rfl
  exact ⟨g, off, rfl, fun k hk => hR.cell ho2 (h5 k hk)⟩
/-- Slices of these lists, none of which lies in the row v. -/
def Elts (v : Value) (ds : List (List Int)) (us : List Value) (W : World) : Prop := us.length = ds.length ∧ ∀ i (h : i < ds.length) (h' : i < us.length), IL ds[i] us[i] W ∧ (ds[i] ≠ [] → ∀ a n c, us[i] = .slice (some a) n c → Off v a.block ∧ a.block < W.heap.size)
theorem Elts.rowK {v v' : Value} {ds : List (List Int)} {us : List Value} {a b : World} (h : Elts v ds us a) (hR : RowK v a v' b) : Elts v' ds us b :=
  ⟨h.1, fun i h1 h2 => by
    obtain ⟨h3, h4⟩ := h.2 i h1 h2
    refine ⟨h3.rowK (fun hx a' n c he => (h4 hx a' n c he).1) hR, fun hx a' n c he => ?_⟩
    obtain ⟨o1, o2⟩ := h4 hx a' n c he
    exact ⟨hR.off o1 o2, Nat.lt_of_lt_of_le o2 hR.size⟩⟩
theorem Elts.snoc {v : Value} {ds : List (List Int)} {us : List Value} {W : World} {d : List Int} {u : Value} (h : Elts v ds us W) (hd : IL d u W) (ho : d ≠ [] → ∀ a n c, u = .slice (some a) n c → Off v a.block ∧ a.block < W.heap.size) : Elts v (ds ++ [d]) (us ++ [u]) W :=
  ⟨by simp [h.1], fun i h1 h2 => by
    by_cases hi : i < ds.length
    · have hi2 : i < us.length := by rw [h.1]; exact hi
      simp only [List.getElem_append_left hi, List.getElem_append_left hi2]
      exact h.2 i hi hi2
    · have e : i = ds.length := by simp at h1; omega
      subst e
      have e2 : us.length = ds.length := h.1
      simp only [List.getElem_append_right (Nat.le_refl _), Nat.sub_self, List.getElem_cons_zero]
      have : (us ++ [u])[ds.length] = u := by simp [List.getElem_append, e2]
      rw [this]
      exact ⟨hd, ho⟩⟩
theorem Elts.dl {v : Value} {ds : List (List Int)} {us : List Value} {W : World} {base : Nat} {e : TypeId} (h : Elts v ds us W) (hr : W.ownsRow base e 1 v ds.length us) (hm : ds.length ≤ maxLen) : DL ds v W := by
  rcases hr.2 with ⟨rfl, h0⟩ | ⟨g, cap, cur, rfl, _, hg, _⟩
  · have : ds = [] := List.eq_nil_of_length_eq_zero h0
    subst this
    exact DL.nil W
  · refine ⟨_, cap, rfl, hm, fun _ => ⟨g, 0, rfl, fun k hk => ?_⟩⟩
    have hk2 : k < us.length := by rw [h.1]; exact hk
    have hc := hr.cells (g := g) rfl k us[k] (by simp [hk2])
    exact ⟨us[k], by simpa [Addr.add_lit] using hc, (h.2 k hk hk2).1⟩

end Go.Proofs.YtknpglgpkkhhiaaDoor

/- What settle tells: the states that are good for 0 days, 1 day and so on, in a row of maps. -/
namespace Go.Proofs.YtknpglgpkkhhiaaDoor
set_option linter.unusedSimpArgs false
set_option linter.unusedVariables false
open Go.RowKit Go.Proofs.YtknpglgpkkhhiaaDoor.Free2 Go.Proofs.YtknpglgpkkhhiaaDoor.ML RR

abbrev mapV (g : Nat) : Value := .map (some g)
theorem T.infoMT : (Tryd.prog.info? 139).map (fun i => (i.zero, i.size, i.bytes)) = some (some (.map none), 1, 8) := by kernel_rfl
theorem RX.of_grown {s0 g : Nat} {bs : List Nat} {a b : World} (h : a.grownBy b (some g)) (hg : s0 ≤ g ∨ g ∈ bs) (hs : s0 ≤ a.heap.size) : RX s0 bs a b :=
  ⟨h.os, h.tape, h.output, h.size, fun k hk hn => h.block k (by omega) (fun e => by
    cases e
    rcases hg with h1 | h1
    · omega
    · exact hn h1)⟩
theorem RX.of_bel {s0 : Nat} {bs : List Nat} {a b : World} (h : Free.Bel a b) (hs : s0 ≤ a.heap.size) : RX s0 bs a b := ⟨h.os, h.tape, h.output, h.size, fun k hk _ => h.block k (by omega)⟩
/-- A row of maps: the states that are good for 0 days, 1 day and so on. -/
structure TellI (lb base : Nat) (h : Int) (xs : List Rk) (n : Nat) (gs : List Nat) (v : Value) (W : World) : Prop where
  box : W.heap[lb]? = some (.cells #[v] 137 (0, 0))
  len : gs.length = n
  row : W.ownsRow base 139 1 v n (gs.map mapV)
  maps : ∀ (i : Nat) (hi : i < gs.length), base ≤ gs[i] ∧ ∃ L, GoodIs h xs i L ∧ MapIs quadV gs[i] (setK L) W
theorem TellI.rx {lb base s0 gb n1 : Nat} {h : Int} {xs : List Rk} {n : Nat} {gs : List Nat} {v : Value} {A B : World} (H : TellI lb base h xs n gs v A) (hR : RX s0 [gb, n1] A B) (hs : s0 = A.heap.size) (h1 : gb < base) (h2 : n1 < base) (h3 : lb ≠ gb) (h4 : lb ≠ n1) : TellI lb base h xs n gs v B := by
  subst hs
  refine ⟨(hR.block _ (lt_of_heap H.box) (by simp; exact ⟨h3, h4⟩)).trans H.box, H.len, row_block H.row fun k hk hl => hR.block k hl ?_, fun i hi => ?_⟩
  · rcases H.row.2 with ⟨rfl, _⟩ | ⟨g, cap, cur, rfl, hb, _⟩
    · simp [Value.ownBlock] at hk
    · simp [Value.ownBlock] at hk
      simp; omega
  · obtain ⟨hb, L, hL, hM⟩ := H.maps i hi
    exact ⟨hb, L, hL, hM.of_block (hR.block _ hM.lt (by simp; omega))⟩
theorem TellI.bel {lb base : Nat} {h : Int} {xs : List Rk} {n : Nat} {gs : List Nat} {v : Value} {A B : World} (H : TellI lb base h xs n gs v A) (hB : Free.Bel A B) : TellI lb base h xs n gs v B :=
  ⟨(hB.block _ (lt_of_heap H.box)).trans H.box, H.len, bel_row H.row hB, fun i hi => let ⟨hb, L, hL, hM⟩ := H.maps i hi; ⟨hb, L, hL, hM.bel hB⟩⟩
theorem box_grownM {base n lb : Nat} {v : Value} {vs : List Value} {W W' : World} {o : Obj} {q : Obj} (hl : W.heap[lb]? = some q) (how : W.ownsRow base 139 1 v n vs) (hlb : lb < base) (hg : World.grownBy (W.alloc o) W' v.ownBlock) : W'.heap[lb]? = some q := by
  refine heap_grown (heap_old hl) hg fun e => ?_
  rcases how.2 with ⟨h9, _⟩ | ⟨g, cap, cur, h9, hb9, hg2, _⟩
  · rw [h9] at e; simp [Value.ownBlock] at e
  · rw [h9] at e
    simp [Value.ownBlock] at e
    omega
theorem keepM {base n : Nat} {v : Value} {vs : List Value} {W W' : World} {o : Obj} (how : W.ownsRow base 139 1 v n vs) (hg : World.grownBy (W.alloc o) W' v.ownBlock) : ∀ (k : Nat) (q : Obj), W.heap[k]? = some q → (∀ c f, q ≠ .cells c 139 f) → W'.heap[k]? = some q := fun k q hk ho => heap_grown (heap_old hk) hg (fun e => by
  rcases how.2 with ⟨h9, _⟩ | ⟨g2, cap, cur, h9, hb9, hg2, _⟩
  · rw [h9] at e; simp [Value.ownBlock] at e
  · rw [h9] at e
    simp [Value.ownBlock] at e
    subst e
    rw [hk] at hg2
    cases hg2
    exact ho _ _ rfl)
set_option maxRecDepth 100000 in
set_option maxHeartbeats 4000000 in
theorem tell1_any (lb base g n : Nat) (h : Int) (xs : List Rk) (gs : List Nat) (v : Value) (L : List Q4) (W : World) (H : TellI lb base h xs n gs v W) (hL : GoodIs h xs n L) (hM : MapIs quadV g (setK L) W) (hg : base ≤ g) (hb : base ≤ W.heap.size) (hlb : lb < base) (hn : n ≤ 10000) :
    Calls Tryd.prog 91 #[.map (some g), .pointer (some ⟨lb, 0, none⟩)] W fun e w' => (∃ x, e = .returned x) ∧ ∃ v', TellI lb base h xs (n + 1) (gs ++ [g]) v' w' ∧ (∀ (k : Nat) (o : Obj), W.heap[k]? = some o → k ≠ lb → (∀ c f, o ≠ .cells c 139 f) → w'.heap[k]? = some o) ∧ RX base [lb] W w' := by
  have HH := Lib.hid H
  have z0 := cell_of_heap (o := 0) H.box rfl
  have how := H.row
  obtain ⟨pv, cv, rfl⟩ := row_slice how
  obtain ⟨i0, hi0, hz0, hz1, hz2⟩ := info_parts Go.Proofs.YtknpglgpkkhhiaaDoor.T.infoMT
  have HZ := Lib.hid (And.intro hi0 (And.intro hz0 (And.intro hz1 hz2)))
  have HB := Lib.hid (And.intro hL (And.intro hM (And.intro hg (And.intro hb hlb))))
  clear hi0 hz0 hz1 hz2 H hL hM hg
  go_enter Tryd.func91, Tryd.ntmps91
  go_wp2_with (first | (at_builtin; go_loud (refine wpList_append_own _ rfl _ _ 137 rfl base 139 i0 (.map none) 1 8 Tryd.underlying137 HZ.out.1 HZ.out.2.1 HZ.out.2.2.1 HZ.out.2.2.2 rfl (by decide) _ _ _ rfl (how.alloc _) ⟨W.heap.size, 0, none⟩ 1 1 [mapV g] rfl rfl (cell_one_new _ _ _) (fun x hx => by simp at hx; subst hx; rfl) (by unfold maxLen; omega) (by omega) (by simp; omega) ?_); intro v9 w9 hown9 hgrow9 hnil9; obtain ⟨q9, c9, rfl⟩ := row_slice hown9; have hbx := box_grownM HH.out.box how hlb hgrow9; have y0 := cell_of_heap (o := 0) hbx rfl; have y1 := frozen_of_heap (o := 0) hbx; have HG := Lib.hid (And.intro hown9 (And.intro hgrow9 hbx)); clear hown9 hgrow9 hnil9 hbx z0) | fail)
  go_end0
  obtain ⟨hown9, hgrow9, hbx⟩ := HG.out
  obtain ⟨hL, hM, hg, hb, hlb⟩ := HB.out
  have key := keepM how hgrow9
  have key2 : ∀ (k : Nat) (o : Obj), W.heap[k]? = some o → k ≠ lb → (∀ c f, o ≠ .cells c 139 f) → (w9.setCell ⟨lb, 0, none⟩ (.slice q9 (n + 1) c9)).heap[k]? = some o := fun k o hk hne ho => heap_other (key k o hk ho) (by simpa using hne)
  have hmp : ∀ {g : Nat} {L : List Q4}, MapIs quadV g (setK L) W → MapIs quadV g (setK L) (w9.setCell ⟨lb, 0, none⟩ (.slice q9 (n + 1) c9)) := fun {g L} hm => hm.of_block (by
    obtain ⟨o, h1, h2⟩ := hm.obj
    rw [h1]
    exact key2 g o h1 (fun e => by subst e; rw [HH.out.box] at h1; cases h1; cases h2) (fun c f e => by subst e; cases h2))
  refine ⟨⟨_, rfl⟩, .slice q9 (n + 1) c9, ⟨?_, by simp [HH.out.len], ?_, fun i hi => ?_⟩, key2, ?_⟩
  · have := heap_setCell_same (o := 0) (.slice q9 (n + 1) c9) hbx
    simpa using this
  · rw [List.map_append]
    exact row_block hown9 fun k hk _ => heap_setCell_other (by
      rintro rfl
      exact off_base hown9 hlb hk)
  · by_cases h9 : i < gs.length
    · rw [List.getElem_append_left h9]
      obtain ⟨hb9, L9, hL9, hM9⟩ := HH.out.maps i h9
      exact ⟨hb9, L9, hL9, hmp hM9⟩
    · have e : i = gs.length := by simp at hi; omega
      subst e
      rw [List.getElem_append_right (Nat.le_refl _)]
      simp only [Nat.sub_self, List.getElem_cons_zero]
      exact ⟨hg, L, by rw [HH.out.len]; exact hL, hmp hM⟩
  · have h1 : Below base W w9 := ((Below.refl _ W).alloc hb _).trans (grown_belR (how.alloc _) hgrow9 (by simp; omega))
    exact ⟨h1.os, h1.tape, h1.output, by have := h1.size; simpa using this, fun k hk hn => (heap_setCell_other (by simpa using hn)).trans (h1.block k hk)⟩
end Go.Proofs.YtknpglgpkkhhiaaDoor

/- The reference's lists: all turnings of a day, in order. -/
namespace Go.Proofs.YtknpglgpkkhhiaaDoor
set_option linter.unusedSimpArgs false
set_option linter.unusedVariables false
open Go.RowKit Go.Proofs.YtknpglgpkkhhiaaDoor.Free2 Go.Proofs.YtknpglgpkkhhiaaDoor.ML RR

theorem and_one7 (i : Nat) (hi : i < 9223372036854775808) : bits BinOp.and IntKind.i64 (i : Int) 1 = ((i % 2 : Nat) : Int) := by
  have h := bits_mask .i64 63 (by decide) (fun n h0 h1 => by rw [show (2 : Int) ^ 63 = 9223372036854775808 by decide] at h1; rw [IntKind.wrap_i64]; omega) 1 (by decide) (i : Int) (by omega) (by rw [show (2 : Int) ^ 63 = 9223372036854775808 by decide]; omega)
  have e : ((2 : Int) ^ 1 - 1) = 1 := by decide
  rw [e] at h
  rw [h]
  omega
set_option maxRecDepth 100000 in
set_option maxHeartbeats 16000000 in
theorem lists_any (h : Int) (xs : List Rk) (u : Value) (w : World) (hu : RL xs u w) (hw : watchB h xs = true) :
    Calls Tryd.prog 98 #[.agg #[.int .i64 h, u]] w fun e w' => (∃ v, e = .returned v ∧ DOB (w.heap.size + 1) (w.heap.size + 1) (daysL h xs) v w') ∧ Below w.heap.size w w' := by
  obtain ⟨p, cp, rfl, hm, hp⟩ := hu
  unfold maxLen at hm
  have HP := Lib.hid hp
  have HW := Lib.hid hw
  have hh0 := (watchB_iff.1 hw).1
  have h4 := (watchB_iff.1 hw).2.1
  clear hp hw
  obtain ⟨i0, hi0, hz0, hz1, hz2⟩ := info_parts T.infoInt
  have HZ := Lib.hid (And.intro hi0 (And.intro hz0 (And.intro hz1 hz2)))
  clear hi0 hz0 hz1 hz2
  obtain ⟨i1, hi1, hy0, hy1, hy2⟩ := info_parts T.infoSl
  have HY := Lib.hid (And.intro hi1 (And.intro hy0 (And.intro hy1 hy2)))
  clear hi1 hy0 hy1 hy2
  obtain ⟨hn, rfl⟩ : ∃ n : Nat, h = n := ⟨h.toNat, by omega⟩
  have hh3 : hn ≤ 3 := by omega
  clear hh0
  have hb0 : Free.Bel w (w.alloc (.cells #[.int .i64 hn, .slice p xs.length cp] 24)) := belAlloc _ _
  have m0 : (w.alloc (.cells #[.int .i64 hn, .slice p xs.length cp] 24)).heap[w.heap.size]? = some (.cells #[.int .i64 hn, .slice p xs.length cp] 24 (0, 0)) := World.alloc_heap_new w _
  obtain ⟨M, hM⟩ : ∃ M : Nat, 2 ^ xs.length = M := ⟨_, rfl⟩
  have hM16 : M ≤ 16 := by
    rw [← hM]
    rcases (show xs.length = 0 ∨ xs.length = 1 ∨ xs.length = 2 ∨ xs.length = 3 ∨ xs.length = 4 by omega) with e | e | e | e | e <;> rw [e] <;> decide
  have hsh : wrap64 ((2 : Int) ^ xs.length) = (M : Int) := by
    have e : ((2 : Int) ^ xs.length) = (M : Int) := by rw [← hM]; simp
    rw [e]
    exact IntWalk.wrap64_in (M : Int) (by omega)
  have HM := Lib.hid hM
  clear hM
  go_enter Tryd.func98, Tryd.ntmps98
  go_wp2_with fail
  go_loopw [4, 3] (fun i v wr => ∃ n : Nat, n ≤ hn + 1 ∧ i = .int .i64 n ∧ Below w.heap.size w wr ∧ wr.heap[w.heap.size]? = some (.cells #[.int .i64 hn, .slice p xs.length cp] 24 (0, 0)) ∧ DOB (w.heap.size + 1) (w.heap.size + 1) (outN xs n) v wr) (fun i _ _ => hn + 1 - (intOf i).toNat)
  case atStart => exact ⟨0, by omega, rfl, hb0, m0, DOB.nil _ _ _⟩
  case round =>
    obtain ⟨n, hn1, rfl, hB, hT, hdo⟩ := hrel
    have c0 : wr.cell? ⟨w.heap.size, 0, none⟩ = some (.int .i64 hn) := cell_of_heap (o := 0) hT rfl
    by_cases hlt : n < hn + 1
    · have hle : (n : Int) ≤ (hn : Int) := by omega
      have hnw : IntKind.i64.wrap ((n : Int) + 1) = (n : Int) + 1 := IntWalk.i64_in _ (by omega)
      have HTO := Lib.hid (And.intro hB (And.intro hT hdo))
      clear hB hT hdo hb0 m0
      go_wp2_with fail
      obtain ⟨wo, hwo⟩ : ∃ x, x = wr := ⟨_, rfl⟩
      subst hwo
      clear c0
      go_loopw [5, 3] (fun i v wr => ∃ s : Nat, s ≤ M ∧ i = .int .i64 s ∧ Below w.heap.size w wr ∧ wr.heap[w.heap.size]? = some (.cells #[.int .i64 hn, .slice p xs.length cp] 24 (0, 0)) ∧ DOB (w.heap.size + 1) (w.heap.size + 1) (outS xs n s) v wr) (fun i _ _ => M - (intOf i).toNat)
      case atStart => exact ⟨0, Nat.zero_le _, rfl, HTO.out.1, HTO.out.2.1, HTO.out.2.2⟩
      case round =>
        obtain ⟨s, hs, rfl, hB, hT, hdo⟩ := hrel
        have c0 : wr.cell? ⟨w.heap.size, 0, none⟩ = some (.int .i64 hn) := cell_of_heap (o := 0) hT rfl
        have c1 : wr.cell? ⟨w.heap.size, 1, none⟩ = some (.slice p xs.length cp) := cell_of_heap (o := 1) hT rfl
        by_cases hls : s < M
        · have hlsi : (s : Int) < (M : Int) := by omega
          have hsw : IntKind.i64.wrap ((s : Int) + 1) = (s : Int) + 1 := IntWalk.i64_in _ (by omega)
          have HTS := Lib.hid (And.intro hB (And.intro hT hdo))
          clear hB hT hdo
          go_wp2_with fail
          obtain ⟨ws, hws⟩ : ∃ x, x = wr := ⟨_, rfl⟩
          subst hws
          obtain ⟨v3, hv3⟩ : ∃ x, x = u3 := ⟨_, rfl⟩
          subst hv3
          have hszs : w.heap.size + 1 ≤ ws.heap.size := by have := lt_of_heap HTS.out.2.1; omega
          have HI := Lib.hid (World.ownsRow_nil ws ws.heap.size 3 1)
          clear c0 c1
          go_loopw [7, 6] (fun i v wr => ∃ k : Nat, k ≤ xs.length ∧ i = .int .i64 k ∧ Free.Bel ws wr ∧ wr.ownsRow ws.heap.size 3 1 v (idsOf xs (bitsP k s)).length ((idsOf xs (bitsP k s)).map (Value.int .i64))) (fun i _ _ => xs.length - (intOf i).toNat)
          case atStart => exact ⟨0, Nat.zero_le _, rfl, Free.Bel.refl _, HI.out⟩
          case round =>
            obtain ⟨k, hk, rfl, hB, how⟩ := hrel
            have c1 : wr.cell? ⟨w.heap.size, 1, none⟩ = some (.slice p xs.length cp) := keepsB hB (cell_of_heap (o := 1) HTS.out.2.1 rfl)
            have hbs := hB.size
            have hLl : (idsOf xs (bitsP k s)).length ≤ 4 := by simp only [idsOf, List.length_map]; have := bitsP_len k s; omega
            obtain ⟨q6, c6, rfl⟩ := row_slice how
            by_cases hlt2 : k < xs.length
            · have hx : xs ≠ [] := by intro e; simp [e] at hlt2
              obtain ⟨b0, off, rfl, hcp⟩ := HP.out hx
              obtain ⟨d1, _, _⟩ := hcp k hlt2
              have e1 := keepsB (show Free.Bel w wr from HTS.out.1.trans (hB.mono HTS.out.1.size)) d1
              have hklt : (k : Int) < xs.length := by omega
              have hkw : IntKind.i64.wrap ((k : Int) + 1) = (k : Int) + 1 := IntWalk.i64_in _ (by omega)
              have hkn : ¬ ((k : Int) < 0) := by omega
              have hid := idsP_succ hlt2 s
              have hbits : bits BinOp.and IntKind.i64 ((s : Int) / 2 ^ k) 1 = ((s / 2 ^ k % 2 : Nat) : Int) := by
                have h8 := and_one7 (s / 2 ^ k) (by have : s / 2 ^ k ≤ s := Nat.div_le_self _ _; omega)
                rw [← h8]
                congr 1
              obtain ⟨L, hL⟩ : ∃ y, idsOf xs (bitsP k s) = y := ⟨_, rfl⟩
              rw [hL] at how hid hLl
              simp only [hL]
              have HID := Lib.hid hid
              have HB := Lib.hid hB
              clear hid hcp hx d1 hB hL
              generalize xs[k].1 = x1 at *
              by_cases hbit : s / 2 ^ k % 2 = 1
              · rw [hbit] at hbits
                have HBT := Lib.hid hbit
                clear hbit
                go_wp2_with (first | (at_builtin; go_loud (refine wpList_append_own _ rfl _ _ 58 rfl ws.heap.size 3 i0 (.int .i64 0) 1 8 Tryd.underlying58 HZ.out.1 HZ.out.2.1 HZ.out.2.2.1 HZ.out.2.2.2 rfl (by decide) _ _ _ rfl (how.alloc _) ⟨wr.heap.size, 0, none⟩ 1 1 [.int .i64 x1] rfl rfl (cell_one_new _ _ _) (fun x hx => by simp at hx; subst hx; rfl) (by unfold maxLen; omega) (by omega) (by simp; omega) ?_); intro v9 w9 hown9 hgrow9 hnil9) | fail)
                have HG := Lib.hid (show Below ws.heap.size wr w9 from ((Below.refl _ wr).alloc hbs _).trans (grown_belR (how.alloc _) hgrow9 (by simp; omega)))
                have HO9 := Lib.hid hown9
                clear hown9 hgrow9 hnil9 how
                go_roundw
                case rel => exact ⟨k + 1, by omega, by go_num, show Free.Bel ws w9 from Below.trans (show Below ws.heap.size ws wr from HB.out) HG.out, by rw [HID.out, if_pos HBT.out]; simpa using HO9.out⟩
                case measure => simp [intOf]; omega
              · have h0 : s / 2 ^ k % 2 = 0 := by omega
                rw [h0] at hbits
                have HBT := Lib.hid hbit
                have HO9 := Lib.hid how
                clear hbit h0 how
                go_wp2_with fail
                go_roundw
                case rel => exact ⟨k + 1, by omega, by go_num, HB.out, by rw [HID.out, if_neg HBT.out]; exact HO9.out⟩
                case measure => simp [intOf]; omega
            · obtain rfl : k = xs.length := by omega
              have hge : ¬ (xs.length : Int) < xs.length := by omega
              obtain ⟨wt, hwt⟩ : ∃ x, x = wr := ⟨_, rfl⟩
              subst hwt
              have hst : outS xs n (s + 1) = if (bitsP xs.length s).length = n then (sinkR beforeL (idsOf xs (bitsP xs.length s)) (outS xs n s).reverse).reverse else outS xs n s := by rw [outS_succ]; rfl
              have hol := out_small (xs := xs) h4 (n := n) (s := s) (by omega) (by omega)
              have hbl : (idsOf xs (bitsP xs.length s)).length = (bitsP xs.length s).length := by simp [idsOf]
              rw [← hbl] at hst
              obtain ⟨L, hL⟩ : ∃ y, idsOf xs (bitsP xs.length s) = y := ⟨_, rfl⟩
              obtain ⟨L0, hL0⟩ : ∃ y, outS xs n s = y := ⟨_, rfl⟩
              have hdo := HTS.out.2.2.bel hB
              rw [hL] at how hLl hst
              rw [hL0] at hst hol hdo
              simp only [hL]
              have HST := Lib.hid hst
              have HBt := Lib.hid (show Below w.heap.size w wt from HTS.out.1.trans (hB.mono HTS.out.1.size))
              have HTt := Lib.hid ((hB.block _ (lt_of_heap HTS.out.2.1)).trans HTS.out.2.1)
              have hszt : w.heap.size + 1 ≤ wt.heap.size := by have := lt_of_heap HTt.out; omega
              clear hst hbl hL hL0 hB HTS HI
              by_cases hln : L.length = n
              · have hlnb : ((L.length : Int) != (n : Int)) = false := by rw [hln]; simp
                have HLN := Lib.hid hln
                clear hln
                have HDR := Lib.hid (show DayB (w.heap.size + 1) L (.slice q6 L.length c6) wt from row_mono how (by have := hszs; have := hbs; omega))
                obtain ⟨vs, hvl, ho3, hd3⟩ := hdo
                obtain ⟨q3, c3, rfl⟩ := row_slice ho3
                have HD3 := Lib.hid (And.intro hvl (And.intro ho3 hd3))
                have KA : Free.Bel wt (wt.alloc (.cells #[.slice q6 L.length c6] 58)) := belAlloc _ _
                have hNw : IntKind.i64.wrap (L0.length : Int) = (L0.length : Int) := IntWalk.i64_in _ (by omega)
                clear how hvl hd3
                go_wp2_with (first | (at_builtin; go_loud (refine wpList_append_own _ rfl _ _ 25 rfl (w.heap.size + 1) 58 i1 (.slice none 0 0) 1 24 Tryd.underlying25 HY.out.1 HY.out.2.1 HY.out.2.2.1 HY.out.2.2.2 rfl (by decide) _ _ _ rfl (bel_row ho3 KA) ⟨wt.heap.size, 0, none⟩ 1 1 [.slice q6 L.length c6] rfl rfl (cell_one_new _ _ _) (fun x hx => by simp at hx; subst hx; rfl) (by unfold maxLen; omega) (by omega) (by simp; omega) ?_); intro v9 w9 hown9 hgrow9 hnil9; have HG9 := Lib.hid (And.intro hown9 hgrow9); obtain ⟨q9, c9, rfl⟩ := row_slice hown9; clear hown9 hgrow9 hnil9) | fail)
                have hdn := DOB.snoc (d := L) HD3.out.1 (bel_row HD3.out.2.1 KA) (fun i hi u hu => (HD3.out.2.2 i hi u hu).stay fun k c f hk => heap_old hk) (HDR.out.stay fun k c f hk => heap_old hk) HG9.out.2 HG9.out.1
                have HB9 := Lib.hid (show Below (w.heap.size + 1) wt w9 from ((show Below wt.heap.size wt _ from KA).mono hszt).trans (grown_belR (bel_row HD3.out.2.1 KA) HG9.out.2 (by simp; omega)))
                have HT9 := Lib.hid ((HB9.out.block _ (by omega)).trans HTt.out)
                have HW9 := Lib.hid (HBt.out.trans (HB9.out.mono (by omega)))
                obtain ⟨vz, hzl, hzo, hzd⟩ := hdn
                obtain ⟨va, ua, hval, rfl⟩ : ∃ va ua, va.length = L0.length ∧ vz = va ++ [ua] := ⟨vz.dropLast, vz.getLast (by intro e; simp [e] at hzl), by simp at hzl ⊢; omega, (List.dropLast_concat_getLast _).symm⟩
                have HA : Hid (∀ i (hi : i < L0.length) v, va[i]? = some v → DayB (w.heap.size + 1) L0[i] v w9) := fun i hi v hv => by
                  have h9 := hzd i (by simp; omega) v (by rw [List.getElem?_append_left (by omega)]; exact hv)
                  rwa [List.getElem_append_left (by omega)] at h9
                have HUA : Hid (DayB (w.heap.size + 1) L ua w9) := by
                  have h9 := hzd L0.length (by simp) ua (by rw [← hval]; simp)
                  show DayB (w.heap.size + 1) L ua w9
                  simpa using h9
                have hru := HUA.out
                obtain ⟨pu, cu, rfl⟩ := row_slice hru
                clear hru
                have hzo2 : w9.ownsRow (w.heap.size + 1) 58 1 (.slice q9 (L0.length + 1) c9) (L0.length + 1) (insL (.slice pu L.length cu) va va.length) := by rw [insL_end]; simpa using hzo
                obtain ⟨g, hq9, hgl, hgc⟩ : ∃ g, q9 = some ⟨g, 0, none⟩ ∧ w.heap.size + 1 ≤ g ∧ ∃ c f, w9.heap[g]? = some (.cells c 58 f) := by
                  rcases hzo2.2 with ⟨_, h8⟩ | ⟨g, cap, cur, h8, hb8, hg8, _⟩
                  · omega
                  · simp only [Value.slice.injEq] at h8
                    exact ⟨g, h8.1, hb8, _, _, hg8⟩
                subst hq9
                have HVL := Lib.hid hval
                have HZO := Lib.hid hzo2
                have HGC := Lib.hid (And.intro hgl hgc)
                clear hzo hzd hzl hzo2 hval ho3 hgc hgl KA HG9 HDR HD3 HBt HTt
                go_loopw [8] (fun i wr => ∃ k : Nat, k ≤ L0.length ∧ i = .int .i64 k ∧ RX w9.heap.size [g] w9 wr ∧ wr.ownsRow (w.heap.size + 1) 58 1 (.slice (some ⟨g, 0, none⟩) (L0.length + 1) c9) (L0.length + 1) (insL (.slice pu L.length cu) va k) ∧ finL beforeL L L0 L0.length = finL beforeL L L0 k) (fun i _ => (intOf i).toNat)
                case atStart => exact ⟨L0.length, Nat.le_refl _, rfl, RX.refl _ _ _, by have h9 := HZO.out; rwa [HVL.out] at h9, rfl⟩
                case round =>
                  obtain ⟨k, hk, rfl, hR, how, hfin⟩ := hrel
                  obtain ⟨wo9, hwo9⟩ : ∃ x, x = wr := ⟨_, rfl⟩
                  subst hwo9
                  have HRo := Lib.hid hR
                  have HOo := Lib.hid how
                  have HFo := Lib.hid hfin
                  have hfinal : ∀ (W : World), Free.Bel wo9 W → insL L L0 k = finL beforeL L L0 k → Below w.heap.size w W ∧ W.heap[w.heap.size]? = some (.cells #[.int .i64 hn, .slice p xs.length cp] 24 (0, 0)) ∧ DOB (w.heap.size + 1) (w.heap.size + 1) (outS xs n (s + 1)) (.slice (some ⟨g, 0, none⟩) (L0.length + 1) c9) W := fun W hW hin => by
                    have hsz9 := lt_of_heap HT9.out
                    have hgl := HGC.out.1
                    refine ⟨?_, ?_, ?_⟩
                    · refine HW9.out.trans (Below.trans ⟨HRo.out.os, HRo.out.tape, HRo.out.output, HRo.out.size, fun j hj => HRo.out.block j (by omega) (by simp; omega)⟩ (hW.mono (by have := HRo.out.size; omega)))
                    · exact (hW.block _ (by have := HRo.out.size; omega)).trans ((HRo.out.block _ hsz9 (by simp; omega)).trans HT9.out)
                    · have hlen : (insL (.slice pu L.length cu) va k).length = (insL L L0 k).length := by rw [insL_len _ _ _ (by rw [HVL.out]; exact hk), insL_len _ _ _ hk, HVL.out]
                      have hl2 : (insL L L0 k).length = L0.length + 1 := insL_len _ _ _ hk
                      rw [HST.out, if_pos HLN.out, ← finL_all, HFo.out, ← hin]
                      refine ⟨insL (.slice pu L.length cu) va k, hlen, by rw [hl2]; exact bel_row HOo.out hW, ?_⟩
                      exact insL_all (P := fun d v => DayB (w.heap.size + 1) d v W) HVL.out hk (fun i hi v hv => ((HA.out i hi v hv).rx HRo.out (Nat.le_refl _) HGC.out.2).stay fun j c f hj => (hW.block j (lt_of_heap hj)).trans hj) ((HUA.out.rx HRo.out (Nat.le_refl _) HGC.out.2).stay fun j c f hj => (hW.block j (lt_of_heap hj)).trans hj)
                  have HFIN := Lib.hid hfinal
                  clear hR hfin hfinal
                  by_cases hk0 : k = 0
                  · subst hk0
                    clear how
                    go_wp2_with fail
                    go_quiet (fail)
                    generalize hqe : World.drewN wo9 _ = w7 at *
                    have K9 : Free.Bel wo9 w7 := by rw [← hqe]; exact belN _ _
                    have HKZ := Lib.hid (HFIN.out w7 K9 (finL_zero _ _ _).symm)
                    clear hqe K9
                    go_wp2_with fail
                    go_roundw
                    case rel => exact ⟨s + 1, by omega, by go_num, HKZ.out⟩
                    case measure => simp [intOf]; omega
                  · obtain ⟨j, hj⟩ : ∃ j, k = j + 1 := ⟨k - 1, by omega⟩
                    have hjl : j < L0.length := by omega
                    have hk1 : (k : Int) - 1 = (j : Int) := by omega
                    have hjw : IntKind.i64.wrap (j : Int) = (j : Int) := IntWalk.i64_in _ (by omega)
                    have hkp : (0 : Int) < (k : Int) := by omega
                    have hkn : ¬ ((k : Int) < 0) := by omega
                    have hk0p : 0 < k := by omega
                    have hkb : decide (0 < k) = true := decide_eq_true hk0p
                    have hjn : ¬ ((j : Int) < 0) := by omega
                    have hkl : (k : Int) < (L0.length : Int) + 1 := by omega
                    have hjl2 : (j : Int) < (L0.length : Int) + 1 := by omega
                    have hvj : j < va.length := by rw [HVL.out]; exact hjl
                    obtain ⟨uj, huj⟩ : ∃ y, va[j] = y := ⟨_, rfl⟩
                    have hrj := HA.out j hjl uj (by rw [List.getElem?_eq_getElem hvj, huj])
                    obtain ⟨pj, cj, rfl⟩ := row_slice hrj
                    clear hrj
                    have d0 : wo9.cell? ⟨g, k, none⟩ = some (.slice pu L.length cu) := (how.cellAt k (by omega)).trans (insL_at (.slice pu L.length cu) va k (by rw [HVL.out]; exact hk))
                    have d1 : wo9.cell? ⟨g, j, none⟩ = some (.slice pj L0[j].length cj) := (how.cellAt j (by omega)).trans (by rw [hj, insL_before (.slice pu L.length cu) va j hvj, huj])
                    have f0 : wo9.frozen? ⟨g, k, none⟩ = false := how.frozenAt k
                    have f1 : wo9.frozen? ⟨g, j, none⟩ = false := how.frozenAt j
                    obtain ⟨r, hr⟩ : ∃ y, beforeL L L0[j] = y := ⟨_, rfl⟩
                    have HRR := Lib.hid hr
                    have HBF : Hid (∀ W, Free.Bel wo9 W → Calls Tryd.prog 60 #[.slice pu L.length cu, .slice pj L0[j].length cj] W fun e W' => e = .returned (.bool r) ∧ Below W.heap.size W W') := fun W hW => bef_v L L0[j] (.slice pu L.length cu) (.slice pj L0[j].length cj) W ((HUA.out.rx HRo.out (Nat.le_refl _) HGC.out.2).il.keeps hW) ((((HA.out j hjl (.slice pj L0[j].length cj) (by rw [List.getElem?_eq_getElem hvj, huj])).rx HRo.out (Nat.le_refl _) HGC.out.2).il).keeps hW) r (by exact hr)
                    have HSW : Hid (((insL (.slice pu L.length cu) va k).set k (.slice pj L0[j].length cj)).set j (.slice pu L.length cu) = insL (.slice pu L.length cu) va j) := by show _ = _; rw [hj, ← huj]; exact insL_swap (.slice pu L.length cu) va j hvj
                    have HJ := Lib.hid hj
                    have hF : ∀ W, Free.Bel wo9.drew W → W.cell? ⟨g, k, none⟩ = some (.slice pu L.length cu) ∧ W.cell? ⟨g, j, none⟩ = some (.slice pj L0[j].length cj) ∧ Free.Bel wo9 W := fun W hW => ⟨keepsB (show Free.Bel wo9 W from bt (Bel.drewT (Free.Bel.refl _)) hW) d0, keepsB (show Free.Bel wo9 W from bt (Bel.drewT (Free.Bel.refl _)) hW) d1, bt (Bel.drewT (Free.Bel.refl _)) hW⟩
                    clear how hj hr huj hk0
                    go_wp2_with fail
                    refine Free.wp_free (R := Free.Bel) (by kernel_rfl) (by kernel_rfl) Free.Bel.refl Free.Bel.trans ?_
                    refine Free.Chain.ex ?_ [] [8] (by kernel_rfl) (by kernel_rfl) rfl Free.Bel.refl ?_ ?_
                    rotate_left 2
                    simp only [an1, an2]
                    refine Free.Chain.ex ?_ [(0, 56)] [] (by kernel_rfl) (by kernel_rfl) rfl Free.Bel.refl ?_ ?_
                    rotate_left 2
                    simp only [an1, an2]
                    refine Free.Chain.ex ?_ [(1, 57)] [] (by kernel_rfl) (by kernel_rfl) rfl Free.Bel.refl ?_ ?_
                    rotate_left 2
                    simp only [an1, an2]
                    rotate_left
                    iterate 3 (rotate_left; intro ev W hb hR hO hD; have hS := hF W hR; obtain ⟨hb1, hb2, hb3⟩ := hb; simp only [Free.AllDeps, Free.AllOuts, Free.At, al1, al2, al3, al4, al5, and_true] at hO hD; go_simp; rfl)
                    refine Free.Chain.exG ?_ [(2, 58)] [3] 2 true 58 (by kernel_rfl) (by kernel_rfl) rfl (by kernel_rfl) Free.Bel.refl ?_ ?_
                    rotate_left 2
                    simp only [an1, an2]
                    refine Free.Chain.exG ?_ [(2, 58)] [8] 2 true 58 (by kernel_rfl) (by kernel_rfl) rfl (by kernel_rfl) Free.Bel.refl ?_ ?_
                    rotate_left 2
                    simp only [an1, an2]
                    refine Free.Chain.exG ?_ [(3, 59), (4, 60), (2, 58)] [] 2 true 58 (by kernel_rfl) (by kernel_rfl) rfl (by kernel_rfl) Free.Bel.refl ?_ ?_
                    rotate_left 2
                    simp only [an1, an2]
                    refine Free.Chain.exG ?_ [(5, 61), (2, 58)] [] 2 true 58 (by kernel_rfl) (by kernel_rfl) rfl (by kernel_rfl) Free.Bel.refl ?_ ?_
                    rotate_left 2
                    simp only [an1, an2]
                    refine Free.Chain.exG ?_ [(2, 58)] [3] 2 true 58 (by kernel_rfl) (by kernel_rfl) rfl (by kernel_rfl) Free.Bel.refl ?_ ?_
                    rotate_left 2
                    simp only [an1, an2]
                    refine Free.Chain.exG ?_ [(2, 58)] [8] 2 true 58 (by kernel_rfl) (by kernel_rfl) rfl (by kernel_rfl) Free.Bel.refl ?_ ?_
                    rotate_left 2
                    simp only [an1, an2]
                    refine Free.Chain.exG ?_ [(8, 64), (2, 58)] [] 2 true 58 (by kernel_rfl) (by kernel_rfl) rfl (by kernel_rfl) Free.Bel.refl ?_ ?_
                    rotate_left 2
                    simp only [an1, an2]
                    refine Free.Chain.exG ?_ [(7, 63), (9, 65), (2, 58)] [] 2 true 58 (by kernel_rfl) (by kernel_rfl) rfl (by kernel_rfl) Free.Bel.refl ?_ ?_
                    rotate_left 2
                    simp only [an1, an2]
                    refine Free.Chain.exG ?_ [(10, 66), (2, 58)] [] 2 true 58 (by kernel_rfl) (by kernel_rfl) rfl (by kernel_rfl) Free.Bel.refl ?_ ?_
                    rotate_left 2
                    simp only [an1, an2]
                    rotate_left
                    iterate 9 (rotate_left; intro ev W hb hR hO hD; have hS := hF W hR; obtain ⟨hb1, hb2, hb3⟩ := hb; simp only [Free.AllDeps, Free.AllOuts, Free.At, al1, al2, al3, al4, al5, and_true] at hO hD; refine ⟨by (first | (simp [hD]; done) | (simp [hD]; omega)), ?_⟩; go_simp; rfl)
                    refine Free.Chain.prG (fun v _ => v = .bool r) [(6, 62), (11, 67), (2, 58), (2, 58)] [] 2 true 58 (by kernel_rfl) (by kernel_rfl) rfl (by kernel_rfl) (fun _ _ _ _ h => h) ?_ ?_
                    · (intro ev W hb hR hO hD; have hS := hF W hR; obtain ⟨hb1, hb2, hb3⟩ := hb; simp only [Free.AllDeps, Free.AllOuts, Free.At, al1, al2, al3, al4, al5, and_true] at hO hD; refine ⟨by (first | (simp [hD]; done) | (simp [hD]; omega)), ?_⟩; go_simp; refine yields_enter ?_; (with_reducible refine (HBF.out W hS.2.2).mono ?_); rintro e W2 ⟨rfl, hB2⟩; exact ⟨_, rfl, hB2, rfl⟩)
                    simp only [an1, an2]
                    refine Free.Chain.ex ?_ [(2, 58), (12, 68)] [] (by kernel_rfl) (by kernel_rfl) rfl Free.Bel.refl ?_ ?_
                    rotate_left 2
                    simp only [an1, an2]
                    rotate_left
                    rotate_left
                    · (intro ev W hb hR hO hD; have hS := hF W hR; obtain ⟨hb1, hb2, hb3⟩ := hb; simp only [Free.AllDeps, Free.AllOuts, Free.At, al1, al2, al3, al4, al5, and_true] at hO hD; go_simp; rfl)
                    intro ys w7 hR hV
                    simp only [Free.AllV, Free.At, List.length_cons, List.length_nil, Nat.reduceAdd, List.getElem?_cons_succ, List.getElem?_cons_zero, true_and, and_true] at hV
                    simp only [Free.putsFrom, Act.put, Nat.zero_add, Nat.reduceAdd, hV, List.setIfInBounds_toArray, List.set_cons_succ, List.set_cons_zero]
                    obtain ⟨e0, e1, K7⟩ := hF w7 hR
                    have g0 : w7.frozen? ⟨g, k, none⟩ = false := frozB K7 d0 f0
                    have g1 : w7.frozen? ⟨g, j, none⟩ = false := frozB K7 d1 f1
                    have HK7 := Lib.hid K7
                    clear hR hV hF d0 d1 f0 f1 K7
                    cases r
                    · have HKZ := Lib.hid (HFIN.out w7 HK7.out (by rw [HJ.out]; exact (finL_stop hjl HRR.out).symm))
                      go_wp2_with fail
                      go_roundw
                      case rel => exact ⟨s + 1, by omega, by go_num, HKZ.out⟩
                      case measure => simp [intOf]; omega
                    · go_wp2_with fail
                      go_roundw
                      case rel =>
                        refine ⟨j, by omega, by go_num, RX.trans _ _ _ (RX.trans _ _ _ HRo.out (RX.of_bel HK7.out HRo.out.size)) (RX.trans _ _ _ (RX.set (by simp)) (RX.set (by simp))), ?_, ?_⟩
                        · have h9 := (((bel_row HOo.out HK7.out).stored k (.slice pj L0[j].length cj)).1.stored j (.slice pu L.length cu)).1
                          rw [HSW.out] at h9
                          exact h9
                        · rw [HFo.out, HJ.out]; exact finL_step hjl HRR.out
                      case measure => have := HJ.out; simp [intOf]; omega
              · have hlnb : ((L.length : Int) != (n : Int)) = true := by simp; omega
                have HLN := Lib.hid hln
                have HD3 := Lib.hid hdo
                clear hln hdo how
                go_wp2_with fail
                go_roundw
                case rel => exact ⟨s + 1, by omega, by go_num, HBt.out, HTt.out, by rw [HST.out, if_neg HLN.out]; exact HD3.out⟩
                case measure => simp [intOf]; omega
        · obtain rfl : s = M := by omega
          have hge : ¬ (s : Int) < (s : Int) := by omega
          have HTS := Lib.hid (And.intro hB (And.intro hT hdo))
          clear hB hT hdo
          go_wp2_with fail
          go_roundw
          case rel => exact ⟨n + 1, by omega, by go_num, HTS.out.1, HTS.out.2.1, by rw [outN_succ, HM.out]; exact HTS.out.2.2⟩
          case measure => simp [intOf]; omega
    · obtain rfl : n = hn + 1 := by omega
      have hle : ¬ ((hn + 1 : Nat) : Int) ≤ (hn : Int) := by omega
      rw [show outN xs (hn + 1) = daysL (hn : Int) xs from by have := outN_last HW.out; rwa [Int.toNat_natCast] at this] at hdo
      have HF := Lib.hid (And.intro hB hdo)
      clear hB hT hdo hb0 m0
      go_wp2_with fail
      go_ret
      exact ⟨⟨_, rfl, HF.out.2⟩, HF.out.1⟩
end Go.Proofs.YtknpglgpkkhhiaaDoor

/- The reference's code and at. -/
namespace Go.Proofs.YtknpglgpkkhhiaaDoor
set_option linter.unusedSimpArgs false
set_option linter.unusedVariables false
open Go.RowKit Go.Proofs.YtknpglgpkkhhiaaDoor.Free2 Go.Proofs.YtknpglgpkkhhiaaDoor.ML RR

/-- Ricks that have waited less than they may. -/
def OkS (ys : List Rk) : Prop := ys.length ≤ 4 ∧ ∀ y ∈ ys, 0 ≤ y.2.2 ∧ y.2.2 < y.2.1 ∧ y.2.1 ≤ 6
theorem OkS.of_st {h : Int} {xs ys : List Rk} (hw : watchB h xs = true) (hy : StOf xs ys) : OkS ys := by
  refine ⟨by rw [hy.1.length]; exact (watchB_iff.1 hw).2.1, fun y hm => ?_⟩
  have h1 := hy.2 y hm
  have h2 : (y.1, y.2.1) ∈ ys.map (fun x => (x.1, x.2.1)) := List.mem_map.2 ⟨y, hm, rfl⟩
  rw [hy.1] at h2
  obtain ⟨x', h3, h4⟩ := List.mem_map.1 h2
  simp only [Prod.mk.injEq] at h4
  have h5 := watchB_ok hw x' h3
  unfold okR at h5
  omega
theorem codeF_snoc (x : Rk) : ∀ (l : List Rk) (n : Int), codeF n (l ++ [x]) = codeF n l * x.2.1 + x.2.2
  | [], n => rfl
  | y :: r, n => by simp only [List.cons_append, codeF, codeF_snoc x r]
theorem code_take {ys : List Rk} (h : OkS ys) (k : Nat) : 0 ≤ codeR (ys.take k) ∧ codeR (ys.take k) ≤ 1296 := by
  have h1 := code_bound (ys := ys.take k) fun y hy => ⟨(h.2 y (List.mem_of_mem_take hy)).1, (h.2 y (List.mem_of_mem_take hy)).2.1⟩
  have h2 := prodE_bound (xs := ys.take k) fun y hy => by have := h.2 y (List.mem_of_mem_take hy); omega
  have h3 : (6 : Int) ^ (ys.take k).length ≤ 1296 := by
    have : (ys.take k).length ≤ 4 := by have := h.1; simp; omega
    rcases (show (ys.take k).length = 0 ∨ (ys.take k).length = 1 ∨ (ys.take k).length = 2 ∨ (ys.take k).length = 3 ∨ (ys.take k).length = 4 by omega) with e | e | e | e | e <;> rw [e] <;> decide
  omega
set_option maxRecDepth 100000 in
set_option maxHeartbeats 4000000 in
theorem code_v (h : Int) (ys : List Rk) (u : Value) (w : World) (hu : RL ys u w) (ho : OkS ys) :
    Calls Tryd.prog 77 #[.agg #[.int .i64 h, u]] w fun e w' => e = .returned (.int .i64 (codeR ys)) ∧ Below w.heap.size w w' := by
  obtain ⟨p, cp, rfl, hm, hp⟩ := hu
  unfold maxLen at hm
  have HP := Lib.hid hp
  have HO := Lib.hid ho
  have KB : Free.Bel w (w.alloc (.cells #[.int .i64 h, .slice p ys.length cp] 24)) := belAlloc _ _
  have hl4 := ho.1
  clear hp ho
  go_enter Tryd.func77, Tryd.ntmps77
  go_wp2_with fail
  go_loopw [9, 3] (fun i v wr => ∃ k : Nat, k ≤ ys.length ∧ i = .int .i64 k ∧ v = .int .i64 (codeR (ys.take k)) ∧ Free.Bel w wr) (fun i _ _ => ys.length - (intOf i).toNat)
  case atStart => exact ⟨0, Nat.zero_le _, rfl, rfl, KB⟩
  case round =>
    obtain ⟨k, hk, rfl, rfl, hB⟩ := hrel
    by_cases hlt : k < ys.length
    · have hx : ys ≠ [] := by intro e; simp [e] at hlt
      obtain ⟨b9, off, rfl, hcp⟩ := HP.out hx
      obtain ⟨d0, d1, d2⟩ := hcp k hlt
      have e0 := keepsB hB d0
      have e1 := keepsB hB d1
      have e2 := keepsB hB d2
      have hklt : (k : Int) < ys.length := by omega
      have hkw : IntKind.i64.wrap ((k : Int) + 1) = (k : Int) + 1 := IntWalk.i64_in _ (by omega)
      have hcd : Hid (codeR (ys.take (k + 1)) = codeR (ys.take k) * ys[k].2.1 + ys[k].2.2) := by show _ = _; rw [take_step ys k hlt]; exact codeF_snoc _ _ _
      have hb0 := code_take HO.out k
      have hb1 := code_take HO.out (k + 1)
      rw [hcd.out] at hb1
      have hok := HO.out.2 ys[k] (List.getElem_mem hlt)
      have HKB := Lib.hid hB
      clear hcp hx d0 d1 d2 KB
      generalize codeR (ys.take k) = PP at *
      generalize ys[k] = x at *
      obtain ⟨x1, x2, x3⟩ := x
      simp only at e0 e1 e2 hb1 hok
      have hml : PP * x2 ≤ PP * 6 := Int.mul_le_mul_of_nonneg_left hok.2.2 (by omega)
      have hm0 : 0 ≤ PP * x2 := Int.mul_nonneg (by omega) (by omega)
      have hpw : IntKind.i64.wrap (PP * x2) = PP * x2 := IntWalk.i64_in _ (by omega)
      have hqw : IntKind.i64.wrap (PP * x2 + x3) = PP * x2 + x3 := IntWalk.i64_in _ (by omega)
      have KA : Free.Bel wr (wr.alloc (.cells #[.int .i64 x1, .int .i64 x2, .int .i64 x3] 47)) := belAlloc _ _
      have hx1 : (wr.alloc (.cells #[.int .i64 x1, .int .i64 x2, .int .i64 x3] 47)).cell? ⟨wr.heap.size, 1, none⟩ = some (.int .i64 x2) := by simp [go_sem]
      have hx2 : (wr.alloc (.cells #[.int .i64 x1, .int .i64 x2, .int .i64 x3] 47)).cell? ⟨wr.heap.size, 2, none⟩ = some (.int .i64 x3) := by simp [go_sem]
      have HKA := Lib.hid (bt hB KA)
      clear hok hml hm0 hb0 hb1 hB
      go_wp2_with fail
      go_roundw
      case rel => exact ⟨k + 1, by omega, by go_num, by rw [hcd.out], HKA.out⟩
      case measure => simp [intOf]; omega
    · obtain rfl : k = ys.length := by omega
      rw [List.take_length]
      go_wp2_with fail
      go_ret
      exact ⟨rfl, hB⟩
/-- What at has done when k ricks are left. -/
def mixA (xs : List Rk) (n : Int) (k : Nat) : List Rk := xs.take k ++ (atF n (xs.drop k)).1
theorem atF_len (n : Int) : ∀ xs : List Rk, (atF n xs).1.length = xs.length
  | [] => rfl
  | x :: r => by simp [atF, atF_len n r]
theorem mixA_length (xs : List Rk) (n : Int) (k : Nat) (h : k ≤ xs.length) : (mixA xs n k).length = xs.length := by simp [mixA, atF_len]; omega
theorem mixA_get (xs : List Rk) (n : Int) (k : Nat) (h : k < xs.length) (h' : k < (mixA xs n (k + 1)).length) : (mixA xs n (k + 1))[k] = xs[k] := by
  have hm : min (k + 1) xs.length = k + 1 := Nat.min_eq_left (by omega)
  simp [mixA, List.getElem_append, hm]
theorem mixA_step (xs : List Rk) (n : Int) (k : Nat) (h : k < xs.length) : (mixA xs n (k + 1)).set k (xs[k].1, xs[k].2.1, (atF n (xs.drop (k + 1))).2 % xs[k].2.1) = mixA xs n k ∧ (atF n (xs.drop k)).2 = (atF n (xs.drop (k + 1))).2 / xs[k].2.1 := by
  have hm : min k xs.length = k := Nat.min_eq_left (Nat.le_of_lt h)
  constructor
  · unfold mixA
    rw [take_step xs k h, List.drop_eq_getElem_cons h, List.append_assoc, List.set_append_right _ _ (by simp; omega), List.length_take, hm, Nat.sub_self]
    rfl
  · rw [List.drop_eq_getElem_cons h]; rfl
theorem atF_le (n : Int) (hn : 0 ≤ n) : ∀ xs : List Rk, (∀ x ∈ xs, 1 ≤ x.2.1) → 0 ≤ (atF n xs).2 ∧ (atF n xs).2 ≤ n
  | [], _ => ⟨hn, Int.le_refl _⟩
  | x :: r, hx => by
    obtain ⟨h1, h2⟩ := atF_le n hn r fun y hy => hx y (by simp [hy])
    have h3 := hx x (by simp)
    exact ⟨Int.ediv_nonneg h1 (by omega), Int.le_trans (Int.ediv_le_self _ h1) h2⟩
set_option maxRecDepth 100000 in
set_option maxHeartbeats 8000000 in
theorem at_any (h : Int) (xs : List Rk) (n : Nat) (u : Value) (w : World) (hu : RL xs u w) (hz : NZ u) (hl : xs.length ≤ 4) (hx : ∀ x ∈ xs, 1 ≤ x.2.1 ∧ x.2.1 ≤ 6) (hn : n ≤ 1000000) :
    Calls Tryd.prog 99 #[.agg #[.int .i64 h, u], .int .i64 n] w fun e w' => (∃ v', e = .returned (.agg #[.int .i64 h, v']) ∧ w'.ownsRow w.heap.size 47 3 v' xs.length (cellsR (atR xs n))) ∧ Below w.heap.size w w' := by
  have HU := Lib.hid hu
  obtain ⟨p, cp, rfl, _, _⟩ := hu
  have HX := Lib.hid hx
  clear hx
  have hb0 : Free.Bel w ((w.alloc (.cells #[.int .i64 h, .slice p xs.length cp] 24)).alloc (.cells #[.int .i64 0, .slice none 0 0] 24)) := Bel.allocT (Bel.allocT (Free.Bel.refl _) _) _
  have hs0 : ((w.alloc (.cells #[.int .i64 h, .slice p xs.length cp] 24)).alloc (.cells #[.int .i64 0, .slice none 0 0] 24)).heap.size = w.heap.size + 1 + 1 := by simp
  have m1 : ((w.alloc (.cells #[.int .i64 h, .slice p xs.length cp] 24)).alloc (.cells #[.int .i64 0, .slice none 0 0] 24)).heap[w.heap.size + 1]? = some (.cells #[.int .i64 0, .slice none 0 0] 24 (0, 0)) := by
    have := World.alloc_heap_new (w.alloc (.cells #[.int .i64 h, .slice p xs.length cp] 24)) (.cells #[.int .i64 0, .slice none 0 0] 24)
    simpa using this
  have HTW := Lib.hid (twin_any h xs _ ((w.alloc (.cells #[.int .i64 h, .slice p xs.length cp] 24)).alloc (.cells #[.int .i64 0, .slice none 0 0] 24)) (HU.out.keeps hb0) hz (by omega))
  have HM := Lib.hid (And.intro hb0 (And.intro hs0 m1))
  clear hb0 hs0 m1 hz
  go_enter Tryd.func99, Tryd.ntmps99
  go_wp2_with fail
  refine HTW.out.mono ?_
  rintro e w1 ⟨v1, rfl, hr1, hB1⟩
  obtain ⟨p1, c1, rfl⟩ := row_slice hr1
  have hlw : IntKind.i64.wrap ((xs.length : Int) - 1) = (xs.length : Int) - 1 := IntWalk.i64_in _ (by omega)
  go_wp2_with fail
  have hg0 : 0 < xs.length → ∃ g, p1 = some ⟨g, 0, none⟩ ∧ w.heap.size + 1 + 1 ≤ g ∧ g < w1.heap.size := by
    intro h9
    rcases hr1.2 with ⟨_, h8⟩ | ⟨g, cap, cur, h8, hb8, hg8, _⟩
    · omega
    · simp only [Value.slice.injEq] at h8
      exact ⟨g, h8.1, by rw [HM.out.2.1] at hb8; exact hb8, lt_of_heap hg8⟩
  have hi0 : ∀ o, o = w1.alloc (.cells #[.int .i64 h, .slice p1 xs.length c1] 24) → Below w.heap.size w o ∧ o.heap[w.heap.size + 1]? = some (.cells #[.int .i64 0, .slice none 0 0] 24 (0, 0)) ∧ o.heap[w1.heap.size]? = some (.cells #[.int .i64 h, .slice p1 xs.length c1] 24 (0, 0)) ∧ o.ownsRow (w.heap.size + 1 + 1) 47 3 (.slice p1 xs.length c1) xs.length (cellsR xs) := by
    intro o ho
    subst ho
    exact ⟨(bt HM.out.1 hB1).alloc (bt HM.out.1 hB1).size _, heap_old ((hB1.block _ (lt_of_heap HM.out.2.2)).trans HM.out.2.2), World.alloc_heap_new _ _, bel_row (row_mono hr1 (by rw [HM.out.2.1]; exact Nat.le_refl _)) (belAlloc _ _)⟩
  have hob : w.heap.size + 1 + 1 ≤ w1.heap.size := by have := hB1.size; rw [HM.out.2.1] at this; exact this
  obtain ⟨ob, hob0⟩ : ∃ x, w1.heap.size = x := ⟨_, rfl⟩
  rw [hob0] at hg0 hob
  have hi1 := hi0 _ rfl
  rw [hob0] at hi1 ⊢
  have HG := Lib.hid hg0
  have HI0 := Lib.hid hi1
  clear hg0 hi0 hi1 hr1 hB1 HTW HM hob0
  generalize w1.alloc _ = w2 at *
  go_loopw [6, 1] (fun i c wr => ∃ k : Nat, k ≤ xs.length ∧ i = .int .i64 ((k : Int) - 1) ∧ c = .int .i64 (atF n (xs.drop k)).2 ∧ Below w.heap.size w wr ∧ wr.heap[w.heap.size + 1]? = some (.cells #[.int .i64 0, .slice none 0 0] 24 (0, 0)) ∧ wr.heap[ob]? = some (.cells #[.int .i64 h, .slice p1 xs.length c1] 24 (0, 0)) ∧ wr.ownsRow (w.heap.size + 1 + 1) 47 3 (.slice p1 xs.length c1) xs.length (cellsR (mixA xs n k))) (fun i _ _ => (intOf i + 1).toNat)
  case atStart => exact ⟨xs.length, Nat.le_refl _, rfl, by simp [atF], HI0.out.1, HI0.out.2.1, HI0.out.2.2.1, by simpa [mixA, atF] using HI0.out.2.2.2⟩
  case round =>
    obtain ⟨k, hk, rfl, rfl, hB, hrz, hbx, hrow⟩ := hrel
    obtain ⟨wo, hwo⟩ : ∃ x, x = wr := ⟨_, rfl⟩
    subst hwo
    have b1 := cell_of_heap (o := 1) hbx rfl
    have b0 := cell_of_heap (o := 0) hbx rfl
    cases k with
    | succ k =>
      obtain ⟨g, rfl, hg1, hg2⟩ := HG.out (by omega)
      have hlt : k < xs.length := by omega
      have hlm := mixA_length xs n (k + 1) hk
      have hkm : k < (mixA xs n (k + 1)).length := by omega
      have hgk := mixA_get xs n k hlt hkm
      obtain ⟨c0, c2, c3, c4⟩ := rick_row hrow hlm k hkm
      rw [hgk] at c0 c2 c3
      have hki : (((k + 1 : Nat) : Int) - 1) = (k : Int) := by omega
      rw [hki]
      have hk0 : (0 : Int) ≤ (k : Int) := by omega
      have hkn : ¬ ((k : Int) < 0) := by omega
      have hklt : (k : Int) < xs.length := by omega
      have hkw : IntKind.i64.wrap ((k : Int) - 1) = (k : Int) - 1 := IntWalk.i64_in _ (by omega)
      have hbd := HX.out xs[k] (List.getElem_mem hlt)
      have hat := atF_le n (by omega) (xs.drop (k + 1)) fun x hx => (HX.out x (List.mem_of_mem_drop hx)).1
      have hst := mixA_step xs n k hlt
      have hst0 := rick_store hrow k hkm ((atF n (xs.drop (k + 1))).2 % xs[k].2.1)
      rw [hgk, hst.1] at hst0
      have HST := Lib.hid hst0
      have hat2 : Hid ((atF n (xs.drop k)).2 = (atF n (xs.drop (k + 1))).2 / xs[k].2.1) := hst.2
      have HB := Lib.hid hB
      have HRZ := Lib.hid hrz
      have HBX := Lib.hid hbx
      have hne : g ≠ ob := by omega
      have hne2 : ob ≠ g := by omega
      clear hst0 hst hrow hB hrz hbx hgk hlm hkm hk
      generalize (atF n (xs.drop (k + 1))).2 = a at *
      generalize hx1 : xs[k].1 = x1 at *
      generalize hx2 : xs[k].2.1 = x2 at *
      generalize hx3 : xs[k].2.2 = x3 at *
      clear hx1 hx2 hx3
      have ha0 : 0 ≤ a % x2 := Int.emod_nonneg _ (by omega)
      have ha1 : a % x2 < x2 := Int.emod_lt_of_pos _ (by omega)
      have ha2 : a.tmod x2 = a % x2 := Int.tmod_eq_emod_of_nonneg (by omega)
      have ha3 : a.tdiv x2 = a / x2 := Int.tdiv_eq_ediv_of_nonneg (by omega)
      have ha4 : IntKind.i64.wrap (a % x2) = a % x2 := IntWalk.i64_in _ (by omega)
      have ha5 : 0 ≤ a / x2 := Int.ediv_nonneg (by omega) (by omega)
      have ha6 : a / x2 ≤ a := Int.ediv_le_self _ (by omega)
      have ha7 : IntKind.i64.wrap (a / x2) = a / x2 := IntWalk.i64_in _ (by omega)
      have ha8 : ¬ (x2 = 0) := by omega
      have ha9 : (x2 == 0) = false := by simp; omega
      have hxm : ¬ x2 = -1 := by omega
      generalize a % x2 = r at *
      generalize a / x2 = d at *
      go_wp2_with fail
      go_region
      have hs1 : ∀ o, o = (wo.setCell ⟨g, k * 3 + 2, none⟩ (.int .i64 r)).drew → Below w.heap.size w o ∧ o.heap[w.heap.size + 1]? = some (.cells #[.int .i64 0, .slice none 0 0] 24 (0, 0)) ∧ o.heap[ob]? = some (.cells #[.int .i64 h, .slice (some ⟨g, 0, none⟩) xs.length c1] 24 (0, 0)) ∧ o.ownsRow (w.heap.size + 1 + 1) 47 3 (.slice (some ⟨g, 0, none⟩) xs.length c1) xs.length (cellsR (mixA xs n k)) ∧ o.cell? ⟨g, k * 3 + 1, none⟩ = some (.int .i64 x2) := by
        intro o ho
        subst ho
        exact ⟨(HB.out.setCell (by simp; omega) _).drew, heap_other HRZ.out (by simp; omega), heap_other HBX.out (by simp; omega), bel_row HST.out (Below.drew (Free.Bel.refl _)), by
          show (wo.setCell ⟨g, k * 3 + 2, none⟩ (.int .i64 r)).cell? _ = _
          simp [go_sem, c2]⟩
      obtain ⟨s1, s2, s3, s4, s5⟩ := hs1 _ rfl
      have s6 := cell_of_heap (o := 1) s3 rfl
      have HS := Lib.hid (And.intro s1 (And.intro s2 (And.intro s3 s4)))
      clear hs1 s1 s2 s3 s4 c0 c2 c3 c4 b0 b1 HST HB HRZ HBX
      generalize World.drew _ = wa at *
      go_wp2_with fail
      go_roundw
      case rel => exact ⟨k, by omega, rfl, by rw [hat2.out], HS.out.1, HS.out.2.1, HS.out.2.2.1, HS.out.2.2.2⟩
      case measure => simp [intOf]
    | zero =>
      have hr9 : mixA xs n 0 = atR xs n := by simp [mixA, atR]
      rw [hr9] at hrow
      have z0 := cell_of_heap (o := 0) hrz rfl
      have z1 := cell_of_heap (o := 1) hrz rfl
      have z2 := frozen_of_heap (o := 0) hrz
      have z3 := frozen_of_heap (o := 1) hrz
      have HROW := Lib.hid hrow
      have hki : (((0 : Nat) : Int) - 1) = -1 := by omega
      clear hrow hrz hr9
      go_wp2_with fail
      have hst := two_stores (.int .i64 h) (.slice p1 xs.length c1) z0 z1
      exact bodyPost_ret (v := .agg #[.int .i64 h, .slice p1 xs.length c1]) (by simp [results, Tryd.results99, go_sem, hst]) rfl ⟨⟨_, rfl, row_mono (ownsRow_setCell_below (ownsRow_setCell_below HROW.out (by simp) _) (by simp) _) (by omega)⟩, (hB.setCell (by simp) _).setCell (by simp) _⟩
end Go.Proofs.YtknpglgpkkhhiaaDoor

/- Turnings are few. -/
namespace Go.Proofs.YtknpglgpkkhhiaaDoor
open Go.RowKit

end Go.Proofs.YtknpglgpkkhhiaaDoor

/- The reference's longest. -/
namespace Go.Proofs.YtknpglgpkkhhiaaDoor
set_option linter.unusedSimpArgs false
set_option linter.unusedVariables false
open Go.RowKit Go.Proofs.YtknpglgpkkhhiaaDoor.Free2 Go.Proofs.YtknpglgpkkhhiaaDoor.ML RR

theorem toD_snoc (ys : List Rk) (ds : List (List Int)) (d : List Int) : toD ys (ds ++ [d]) = if coolB (dayR d ys) = true then toD ys ds ++ [codeR (dayR d ys)] else toD ys ds := by
  simp only [toD, List.filter_append, List.filter_cons, List.filter_nil]
  split <;> simp
theorem lastsB_snoc (O L : List Int) (t : Int) : lastsB O (L ++ [t]) = (lastsB O L || O[t.toNat]? == some 1000000) := by simp [lastsB]
theorem rowIs_bel {w w' : World} {b n : Nat} {t : TypeId} {f : Nat → Value} (h : w.rowIs b t n f) (hB : Free.Bel w w') : w'.rowIs b t n f := h.of_block (hB.block b h.lt)
theorem rowIs_rx {w w' : World} {b n s0 : Nat} {bs : List Nat} {t : TypeId} {f : Nat → Value} (h : w.rowIs b t n f) (hR : RX s0 bs w w') (hs : b < s0) (hb : b ∉ bs) : w'.rowIs b t n f := h.of_block (hR.block b hs hb)
theorem RX.rowK {v v' : Value} {s0 tb : Nat} {a b : World} (h : RowK v a v' b) (hs : s0 ≤ a.heap.size) : RX s0 (tb :: v.ownBlock.toList) a b :=
  ⟨h.os, h.tape, h.output, h.size, fun k hk hn => (h.keep k (by omega) (fun e => hn (by simp [e]))).2⟩
theorem lit_cells {W : World} {b : Nat} {c : Value} (h : W.cell? ⟨b, 0, none⟩ = some c) : ∀ ad, (some (⟨b, 0, none⟩ : Addr)) = some ad → ∀ (j : Nat) u, [c][j]? = some u → W.cell? (ad.add j) = some u := by
  intro ad he j u hu
  cases he
  cases j with
  | zero => simp at hu; subst hu; simpa [Addr.add] using h
  | succ j => simp at hu
theorem own_rx {base : Nat} {e : TypeId} {sz n s0 : Nat} {bs : List Nat} {v : Value} {xs : List Value} {a b : World} (h : a.ownsRow base e sz v n xs) (hR : RX s0 bs a b) (hs : a.heap.size ≤ s0) (hb : ∀ k ∈ bs, k < base ∨ Off v k) : b.ownsRow base e sz v n xs :=
  row_block h fun k hk hl => hR.block k (by omega) fun hm => by
    have h1 := h.lt k hk
    rcases hb k hm with h2 | h2
    · omega
    · exact h2 hk
theorem RX.weak {s0 s1 : Nat} {bs bs' : List Nat} {a b : World} (h : RX s0 bs a b) (hs : s1 ≤ s0) (hb : ∀ k ∈ bs, k ∈ bs' ∨ s1 ≤ k) : RX s1 bs' a b :=
  ⟨h.os, h.tape, h.output, h.size, fun k hk hn => h.block k (by omega) fun hm => by rcases hb k hm with h9 | h9; exact hn h9; omega⟩
theorem RX.undrew {s0 : Nat} {bs : List Nat} {a b : World} (h : RX s0 bs a.drew b) : RX s0 bs a b := ⟨h.os, h.tape, h.output, h.size, h.block⟩
theorem RX.belowt {s0 s : Nat} {bs : List Nat} {w0 a b : World} (h0 : Below s w0 a) (h : RX s0 bs a b) (hs : s ≤ s0) (hb : ∀ k ∈ bs, s ≤ k) : Below s w0 b :=
  h0.trans ⟨h.os, h.tape, h.output, h.size, fun k hk => h.block k (by omega) fun hm => by have := hb k hm; omega⟩
theorem DayR.of_rowIs {O : List Int} {b N : Nat} {W : World} (h : W.rowIs b 3 N (fun i => .int .i64 (O.getD i 0))) (hl : O.length = N) (hm : N ≤ maxLen) : DayR O (.slice (some ⟨b, 0, none⟩) N N) W := by
  subst hl
  obtain ⟨c, hb, hc, hf⟩ := h
  refine ⟨0, by simp, .inr ⟨b, O.length, c, rfl, Nat.zero_le _, hb, Nat.le_refl _, hm, by rw [hc]; simp, ?_⟩⟩
  apply List.ext_getElem?
  intro i
  rw [List.getElem?_take]
  by_cases hi : i < O.length
  · rw [if_pos (by omega)]
    have h9 := hf i hi
    rw [List.getElem?_map, List.getElem?_eq_getElem hi]
    simpa [hi] using h9
  · rw [if_neg (by omega), List.getElem?_eq_none (by simp; omega)]
/-- A region that appends to a row which lies in another row, and puts it back. -/
structure JQ (nb tb N s : Nat) (TV : Nat → Value) (v : Value) (L : List Int) (c : Int) (X : XT) (W : World) : Prop where
  sz : nb ≤ W.heap.size
  htb : tb < nb
  old : X 9 = none → W.ownsRow nb 3 1 v L.length (L.map (Value.int .i64))
  lit : X 9 = none → ∀ u, X 8 = some u → ∃ b, u = .slice (some ⟨b, 0, none⟩) 1 1 ∧ W.cell? ⟨b, 0, none⟩ = some (.int .i64 c)
  new : ∀ u, X 9 = some u → W.ownsRow nb 3 1 u (L.length + 1) (L.map (Value.int .i64) ++ [.int .i64 c])
  st0 : X 11 = none → W.rowIs tb 58 N (fun i => if i = s then v else TV i)
  st1 : X 11 ≠ none → ∃ u, X 9 = some u ∧ W.rowIs tb 58 N (fun i => if i = s then u else TV i)
  n9 : X 5 = none → X 9 = none
  n11 : X 9 = none → X 11 = none
section
variable {nb tb N s : Nat} {TV : Nat → Value} {v v' : Value} {c : Int} {L : List Int} {X : XT} {W W' : World}
theorem JQ.start (hs : nb ≤ W.heap.size) (ht : tb < nb) (ho : W.ownsRow nb 3 1 v L.length (L.map (Value.int .i64))) (hr : W.rowIs tb 58 N (fun i => if i = s then v else TV i)) : JQ nb tb N s TV v L c (fun _ => none) W :=
  ⟨hs, ht, fun _ => ho, fun _ _ h => (by cases h), fun _ h => (by cases h), fun _ => hr, fun h => absurd rfl h, fun _ => rfl, fun _ => rfl⟩
theorem JQ.skip (h : JQ nb tb N s TV v L c X W) (n : Nat) (u : Value) (h8 : n ≠ 8) (h9 : n ≠ 9) (h11 : n ≠ 11) : JQ nb tb N s TV v L c (upd X n u) W := by
  refine ⟨h.sz, h.htb, ?_, ?_, ?_, ?_, ?_, ?_, ?_⟩
  · rw [upd_other _ _ h9.symm]; exact h.old
  · rw [upd_other _ _ h9.symm, upd_other _ _ h8.symm]; exact h.lit
  · rw [upd_other _ _ h9.symm]; exact h.new
  · rw [upd_other _ _ h11.symm]; exact h.st0
  · rw [upd_other _ _ h11.symm, upd_other _ _ h9.symm]; exact h.st1
  · rw [upd_other _ _ h9.symm]
    intro h5
    by_cases e : n = 5
    · rw [e, upd_same] at h5; cases h5
    · rw [upd_other _ _ (fun e' => e e'.symm)] at h5; exact h.n9 h5
  · rw [upd_other _ _ h9.symm, upd_other _ _ h11.symm]; exact h.n11
theorem JQ.bel (h : JQ nb tb N s TV v L c X W) (hB : Free.Bel W W') : JQ nb tb N s TV v L c X W' :=
  ⟨Nat.le_trans h.sz hB.size, h.htb, fun hx => bel_row (h.old hx) hB, (fun hx u hu => let ⟨b, h1, h2⟩ := h.lit hx u hu; ⟨b, h1, keepsB hB h2⟩), fun u hu => bel_row (h.new u hu) hB, fun hx => rowIs_bel (h.st0 hx) hB, (fun hx => let ⟨u, h1, h2⟩ := h.st1 hx; ⟨u, h1, rowIs_bel h2 hB⟩), h.n9, h.n11⟩
theorem JQ.build (h : JQ nb tb N s TV v L c X W) : JQ nb tb N s TV v L c (upd X 8 (.slice (some ⟨W.heap.size, 0, none⟩) 1 1)) (W.alloc (.cells #[.int .i64 c] 3)) := by
  have k := h.bel (belAlloc W (.cells #[.int .i64 c] 3))
  refine ⟨k.sz, k.htb, ?_, ?_, ?_, ?_, ?_, ?_, ?_⟩
  · rw [upd_other _ _ (by decide)]; exact k.old
  · intro _ u hu
    rw [upd_same] at hu
    cases hu
    exact ⟨_, rfl, by simp [go_sem]⟩
  · rw [upd_other _ _ (by decide)]; exact k.new
  · rw [upd_other _ _ (by decide)]; exact k.st0
  · rw [upd_other _ _ (by decide), upd_other _ _ (by decide)]; exact k.st1
  · rw [upd_other _ _ (by decide), upd_other _ _ (by decide)]; exact k.n9
  · rw [upd_other _ _ (by decide), upd_other _ _ (by decide)]; exact k.n11
theorem JQ.app (h : JQ nb tb N s TV v L c X W) (hx : X 9 = none) (h5 : X 5 ≠ none) (hk : RowK v W v' W') (ho : W'.ownsRow nb 3 1 v' (L.length + 1) (L.map (Value.int .i64) ++ [.int .i64 c])) : JQ nb tb N s TV v L c (upd X 9 v') W' := by
  have h11 := h.n11 hx
  have hb : W'.heap[tb]? = W.heap[tb]? := (hk.keep tb (by have := h.sz; have := h.htb; omega) (off_base (h.old hx) h.htb)).2
  refine ⟨Nat.le_trans h.sz hk.size, h.htb, ?_, ?_, ?_, ?_, ?_, ?_, ?_⟩
  · intro h9; rw [upd_same] at h9; cases h9
  · intro h9; rw [upd_same] at h9; cases h9
  · intro u hu; rw [upd_same] at hu; cases hu; exact ho
  · intro _; exact (h.st0 h11).of_block hb
  · intro h9; rw [upd_other _ _ (by decide)] at h9; exact absurd h11 h9
  · intro h9; rw [upd_other _ _ (by decide)] at h9; exact absurd h9 h5
  · intro h9; rw [upd_same] at h9; cases h9
theorem JQ.store (h : JQ nb tb N s TV v L c X W) {u y : Value} (hu : X 9 = some u) (hx : X 11 = none) : JQ nb tb N s TV v L c (upd X 11 y) (W.setCell ⟨tb, s, none⟩ u) := by
  refine ⟨by simpa using h.sz, h.htb, ?_, ?_, ?_, ?_, ?_, ?_, ?_⟩
  · rw [upd_other _ _ (by decide)]; intro h9; rw [hu] at h9; cases h9
  · rw [upd_other _ _ (by decide)]; intro h9; rw [hu] at h9; cases h9
  · rw [upd_other _ _ (by decide)]; intro u' hu'; exact ownsRow_setCell_below (h.new u' hu') h.htb _
  · intro h9; rw [upd_same] at h9; cases h9
  · intro _
    rw [upd_other _ _ (by decide)]
    refine ⟨u, hu, ((h.st0 hx).set s u).congr fun i _ => ?_⟩
    by_cases e : i = s
    · simp [e]
    · simp [e]
  · rw [upd_other _ _ (by decide), upd_other _ _ (by decide)]; exact h.n9
  · rw [upd_other _ _ (by decide)]; intro h9; rw [hu] at h9; cases h9
end
set_option maxRecDepth 100000 in
set_option maxHeartbeats 32000000 in
theorem longest_any (h : Int) (xs : List Rk) (u : Value) (w : World) (hu : RL xs u w) (hz : NZ u) (hw : watchB h xs = true) :
    Calls Tryd.prog 76 #[.agg #[.int .i64 h, u]] w fun e w' => (∃ v O, e = .returned v ∧ LongT h xs O ∧ DayR O v w') ∧ Below w.heap.size w w' := by
  have HUX := Lib.hid (fun (W : World) (hW : Below w.heap.size w W) => hu.keeps hW)
  have HNZ := Lib.hid hz
  obtain ⟨p, cp, rfl, hm, hp⟩ := hu
  have HP := Lib.hid hp
  have HW := Lib.hid hw
  have h4 := (watchB_iff.1 hw).2.1
  have HX : Hid (∀ x ∈ xs, 1 ≤ x.2.1 ∧ x.2.1 ≤ 6) := fun x hx => by have := watchB_ok hw x hx; unfold okR at this; omega
  clear hp hw hm hz
  obtain ⟨i0, hi0, hz0, hz1, hz2⟩ := info_parts T.infoInt
  have HZ := Lib.hid (And.intro hi0 (And.intro hz0 (And.intro hz1 hz2)))
  clear hi0 hz0 hz1 hz2
  have hb0 : Free.Bel w (w.alloc (.cells #[.int .i64 h, .slice p xs.length cp] 24)) := belAlloc _ _
  have c0 : (w.alloc (.cells #[.int .i64 h, .slice p xs.length cp] 24)).cell? ⟨w.heap.size, 0, none⟩ = some (.int .i64 h) := by simp [go_sem]
  have c1 : (w.alloc (.cells #[.int .i64 h, .slice p xs.length cp] 24)).cell? ⟨w.heap.size, 1, none⟩ = some (.slice p xs.length cp) := by simp [go_sem]
  have hbs0 : w.heap.size + 1 ≤ (w.alloc (.cells #[.int .i64 h, .slice p xs.length cp] 24)).heap.size := by simp
  have HB0 := Lib.hid hb0
  go_enter Tryd.func76, Tryd.ntmps76
  go_wp2_with fail
  clear hb0
  generalize (w.alloc (.cells #[.int .i64 h, .slice p xs.length cp] 24)) = w0 at *
  go_loopw [26, 3] (fun i v wr => ∃ k : Nat, k ≤ xs.length ∧ i = .int .i64 k ∧ v = .int .i64 (prodE (xs.take k)) ∧ Free.Bel w0 wr) (fun i _ _ => xs.length - (intOf i).toNat)
  case atStart => exact ⟨0, Nat.zero_le _, rfl, rfl, Free.Bel.refl _⟩
  case round =>
    obtain ⟨k, hk, rfl, rfl, hB⟩ := hrel
    by_cases hlt : k < xs.length
    · have hx : xs ≠ [] := by intro e; simp [e] at hlt
      obtain ⟨b9, off, rfl, hcp⟩ := HP.out hx
      obtain ⟨d0, d1, d2⟩ := hcp k hlt
      have hB2 : Free.Bel w wr := bt HB0.out hB
      have e0 := keepsB hB2 d0
      have e1 := keepsB hB2 d1
      have e2 := keepsB hB2 d2
      have hklt : (k : Int) < xs.length := by omega
      have hkw : IntKind.i64.wrap ((k : Int) + 1) = (k : Int) + 1 := IntWalk.i64_in _ (by omega)
      have htk : Hid (prodE (xs.take (k + 1)) = prodE (xs.take k) * xs[k].2.1) := by show _ = _; rw [take_step xs k hlt, prodE_snoc7]
      have hpk := prodE_small7 (xs := xs.take k) (fun x hx => HX.out x (List.mem_of_mem_take hx)) (by simp; omega)
      have h2a := HX.out xs[k] (List.getElem_mem hlt)
      clear hcp hx d0 d1 d2 hB2
      generalize prodE (xs.take k) = PP at *
      generalize xs[k] = x at *
      obtain ⟨x1, x2, x3⟩ := x
      simp only at e0 e1 e2 h2a
      have hml : PP * x2 ≤ PP * 6 := Int.mul_le_mul_of_nonneg_left h2a.2 (by omega)
      have hm0 : 0 ≤ PP * x2 := Int.mul_nonneg (by omega) (by omega)
      have hpw : IntKind.i64.wrap (PP * x2) = PP * x2 := IntWalk.i64_in _ (by omega)
      have KA : Free.Bel wr (wr.alloc (.cells #[.int .i64 x1, .int .i64 x2, .int .i64 x3] 47)) := belAlloc _ _
      have hx1 : (wr.alloc (.cells #[.int .i64 x1, .int .i64 x2, .int .i64 x3] 47)).cell? ⟨wr.heap.size, 1, none⟩ = some (.int .i64 x2) := by simp [go_sem]
      have HKA := Lib.hid (bt hB KA)
      clear h2a hml hm0 hpk hB
      go_wp2_with fail
      go_roundw
      case rel => exact ⟨k + 1, by omega, by go_num, by rw [htk.out], HKA.out⟩
      case measure => simp [intOf]; omega
    · obtain rfl : k = xs.length := by omega
      rw [List.take_length]
      obtain ⟨wa, hwa⟩ : ∃ x, x = wr := ⟨_, rfl⟩
      subst hwa
      have hpb := prodE_small7 (xs := xs) HX.out h4
      obtain ⟨N, hN⟩ : ∃ N : Nat, prodE xs = (N : Int) := ⟨(prodE xs).toNat, by omega⟩
      rw [hN] at hpb
      rw [hN]
      have HN := Lib.hid hN
      have HBA := Lib.hid (bt HB0.out hB)
      have a0 := keepsB hB c0
      have a1 := keepsB hB c1
      have hbsa : w.heap.size + 1 ≤ wa.heap.size := Nat.le_trans hbs0 hB.size
      clear hN hB c0 c1 hbs0 HB0
      go_wp2_with fail
      refine (lists_any h xs _ wa (HUX.out wa HBA.out) HW.out).mono ?_
      rintro e wl ⟨⟨vl, rfl, hdo⟩, hBl⟩
      obtain ⟨DLs, hDLs⟩ : ∃ y, daysL h xs = y := ⟨_, rfl⟩
      rw [hDLs] at hdo
      have HDS := Lib.hid hDLs
      have hds64 : DLs.length ≤ 64 := by rw [← hDLs]; exact daysL_small HW.out
      have HDT : Hid (∀ d ∈ DLs, d.length ≤ maxLen) := fun d hd => by
        rw [← HDS.out] at hd
        have h9 := (mem_daysL HW.out).1 hd
        unfold turnB at h9
        rw [Bool.and_eq_true, decide_eq_true_eq] at h9
        have := (watchB_iff.1 HW.out).1
        unfold maxLen
        omega
      have hdl := hdo.do.dz (by unfold maxLen; omega) HDT.out
      obtain ⟨vs9, hvl9, ho9, _⟩ := hdo
      obtain ⟨ql, cl, rfl⟩ := row_slice ho9
      have HDL := Lib.hid (fun (W : World) (hW : Below wl.heap.size wl W) => (hdl.keeps hW).dl)
      have HBL := Lib.hid (bt HBA.out hBl)
      have l0 := keepsB hBl a0
      have l1 := keepsB hBl a1
      have hbsl : w.heap.size + 1 ≤ wl.heap.size := Nat.le_trans hbsa hBl.size
      clear a0 a1 hbsa HBA hBl hdl ho9 hvl9 hDLs
      have hmk1 := run_make_row' (P := Tryd.prog) 25 58 (.slice none 0 0) 24 Tryd.underlying25 T.infoSl rfl .i64 .i64 N (by omega) (by omega)
      have hmk2 := run_make_row' (P := Tryd.prog) 58 3 (.int .i64 0) 8 Tryd.underlying58 T.infoInt rfl .i64 .i64 N (by omega) (by omega)
      go_wp2_with fail
      have hw3 : ∀ W, W = (wl.alloc (.cells (madeCells #[.slice none 0 0] N) 58)).alloc (.cells (madeCells #[.int .i64 0] N) 3) → Free.Bel wl W ∧ W.rowIs wl.heap.size 58 N (fun _ => .slice none 0 0) ∧ W.rowIs (wl.heap.size + 1) 3 N (fun _ => .int .i64 0) := fun W hW => by
        subst hW
        refine ⟨Bel.allocT (belAlloc _ _) _, (World.rowIs_made wl _ N _).alloc _, ?_⟩
        have h9 := World.rowIs_made (wl.alloc (.cells (madeCells #[.slice none 0 0] N) 58)) (.int .i64 0) N 3
        simpa using h9
      have hw4 := hw3 _ rfl
      obtain ⟨tb, htb⟩ : ∃ x, wl.heap.size = x := ⟨_, rfl⟩
      rw [htb] at hw4 ⊢
      have HTBL := Lib.hid htb
      have HW3 := Lib.hid hw4
      have hbst : w.heap.size + 1 ≤ tb := by rw [← htb]; exact hbsl
      clear hw3 hw4 htb hmk1 hmk2 hbsl
      generalize (wl.alloc (.cells (madeCells #[.slice none 0 0] N) 58)).alloc (.cells (madeCells #[.int .i64 0] N) 3) = w3 at *
      have FB : Hid (∀ W, Below tb wl W → W.cell? ⟨w.heap.size, 0, none⟩ = some (.int .i64 h) ∧ W.cell? ⟨w.heap.size, 1, none⟩ = some (.slice p xs.length cp)) := fun W hW => ⟨(World.cell?_of_block (hW.block w.heap.size (by omega))).trans l0, (World.cell?_of_block (hW.block w.heap.size (by omega))).trans l1⟩
      have HUC := Lib.hid (fun (W : World) (hW : Below tb wl W) => HUX.out W (Below.trans (show Below w.heap.size w wl from HBL.out) (hW.mono (by omega))))
      have HDC := Lib.hid (fun (W : World) (hW : Below tb wl W) => HDL.out W (by rw [HTBL.out]; exact hW))
      have HBW := Lib.hid (fun (W : World) (hW : Below tb wl W) => Below.trans (show Below w.heap.size w wl from HBL.out) (hW.mono (show w.heap.size ≤ tb by omega)))
      have hsz3 : tb + 1 < w3.heap.size := HW3.out.2.2.lt
      have HB3 : Hid (Below tb wl w3) := by have h9 := HW3.out.1; rw [← HTBL.out]; exact h9
      clear l0 l1 HUX HBL HDL
      go_loopw [9] (fun i wr => ∃ (s : Nat) (TV : Nat → Value), s ≤ N ∧ i = .int .i64 s ∧ RX w3.heap.size [tb, tb + 1] w3 wr ∧ wr.rowIs tb 58 N TV ∧ wr.rowIs (tb + 1) 3 N (fun i => .int .i64 (if i < s then 1000000 else 0)) ∧ (∀ i, i < s → wr.ownsRow w3.heap.size 3 1 (TV i) (toL h xs i).length ((toL h xs i).map (Value.int .i64))) ∧ (∀ i, s ≤ i → TV i = .slice none 0 0)) (fun i _ => N - (intOf i).toNat)
      case atStart => exact ⟨0, fun _ => .slice none 0 0, Nat.zero_le _, rfl, RX.refl _ _ _, HW3.out.2.1, by simpa using HW3.out.2.2, fun i hi => absurd hi (by omega), fun _ _ => rfl⟩
      case round =>
        obtain ⟨s, TV, hs, rfl, hR, hto, hout, hday, hnil⟩ := hrel
        obtain ⟨wo, hwo⟩ : ∃ x, x = wr := ⟨_, rfl⟩
        subst hwo
        have hBo := RX.belowt HB3.out hR (by omega) (by simp)
        by_cases hsN : s < N
        · have hslt : (s : Int) < (N : Int) := by omega
          have hsw : IntKind.i64.wrap ((s : Int) + 1) = (s : Int) + 1 := IntWalk.i64_in _ (by omega)
          have hsn : ¬ ((s : Int) < 0) := by omega
          have q0 : wo.cell? ⟨tb + 1, s, none⟩ = some (.int .i64 0) := by have := hout.cell hsN; simpa using this
          have f0 : wo.frozen? ⟨tb + 1, s, none⟩ = false := hout.frozen s
          have hBs := hBo.setCell (p := ⟨tb + 1, s, none⟩) (by simp) (.int .i64 1000000)
          obtain ⟨b0, b1⟩ := FB.out _ hBs
          have HATC := Lib.hid (at_any h xs s _ (wo.setCell ⟨tb + 1, s, none⟩ (.int .i64 1000000)) (HUC.out _ hBs) HNZ.out h4 HX.out (by omega))
          have HBs := Lib.hid hBs
          have HR1 := Lib.hid hR
          have HTO := Lib.hid hto
          have HOUT := Lib.hid hout
          have HDAY := Lib.hid hday
          have HNIL := Lib.hid hnil
          have hwos : w3.heap.size ≤ wo.heap.size := hR.size
          clear hBs hBo hR hto hout hday hnil
          go_wp2_with fail
          refine HATC.out.mono ?_
          rintro e w5 ⟨⟨v4, rfl, ho4⟩, hB5⟩
          obtain ⟨q4, c4, rfl⟩ := row_slice ho4
          have HO4 := Lib.hid ho4
          have HB5 := Lib.hid hB5
          clear HATC b0 b1 q0 f0 ho4 hB5
          go_wp2_with fail
          have hz : ∀ W, W = w5.alloc (.cells #[.int .i64 h, .slice q4 xs.length c4] 24) → Free.Bel (wo.setCell ⟨tb + 1, s, none⟩ (.int .i64 1000000)) W ∧ W.ownsRow w3.heap.size 47 3 (.slice q4 xs.length c4) xs.length (cellsR (atR xs s)) ∧ W.heap[w5.heap.size]? = some (.cells #[.int .i64 h, .slice q4 xs.length c4] 24 (0, 0)) ∧ w5.heap.size < W.heap.size := fun W hW => by
            subst hW
            exact ⟨bt (show Free.Bel _ w5 from HB5.out) (belAlloc _ _), bel_row (row_mono HO4.out (by simpa using hwos)) (belAlloc _ _), World.alloc_heap_new _ _, by simp⟩
          have hz1 := hz _ rfl
          have HZ1 := Lib.hid hz1
          have hg5 : w3.heap.size ≤ w5.heap.size := by have := HB5.out.size; simp at this; omega
          obtain ⟨g5, hg5e⟩ : ∃ x, w5.heap.size = x := ⟨_, rfl⟩
          rw [hg5e] at HZ1 hg5 ⊢
          clear hz hz1 HB5 HO4
          generalize w5.alloc (.cells #[.int .i64 h, .slice q4 xs.length c4] 24) = wz at *
          clear hg5e
          have HZB : Hid (Below tb wl wz) := HBs.out.trans (HZ1.out.1.mono (by simp; omega))
          have HZT : Hid (wz.rowIs tb 58 N TV) := rowIs_bel (HTO.out.setOther (by simp) _) HZ1.out.1
          have HZO : Hid (wz.rowIs (tb + 1) 3 N (fun i => .int .i64 (if i < s + 1 then 1000000 else 0))) := (rowIs_bel (HOUT.out.set s (.int .i64 1000000)) HZ1.out.1).congr fun i hi => by
            by_cases e : i = s
            · simp [e]
            · by_cases e2 : i < s
              · simp [e, e2, show i < s + 1 by omega]
              · simp [e, e2, show ¬ i < s + 1 by omega]
          have HZD : Hid (∀ i, i < s → wz.ownsRow w3.heap.size 3 1 (TV i) (toL h xs i).length ((toL h xs i).map (Value.int .i64))) := fun i hi => bel_row (ownsRow_setCell_below (HDAY.out i hi) (by simp; omega) _) HZ1.out.1
          have HZR : Hid (RX w3.heap.size [tb, tb + 1] w3 wz) := RX.trans _ _ _ HR1.out (RX.trans _ _ _ (RX.set (by simp)) (RX.of_bel HZ1.out.1 (by simpa using hwos)))
          have hnz : w3.heap.size ≤ wz.heap.size := HZR.out.size
          have hgz : g5 < wz.heap.size := HZ1.out.2.2.2
          have HZ2 := Lib.hid HZ1.out.2
          obtain ⟨ys, hys⟩ : ∃ y, atR xs s = y := ⟨_, rfl⟩
          rw [hys] at HZ2
          have HYS := Lib.hid hys
          have hyl : Hid (ys.length = xs.length) := by show _ = _; rw [← hys]; exact (atR_st (fun x hx => (HX.out x hx).1) s).1.length
          have HST : Hid (StOf xs ys) := by show StOf xs ys; rw [← hys]; exact atR_st (fun x hx => (HX.out x hx).1) s
          clear hys HZ1 HBs HR1 HTO HOUT HDAY hwos
          go_loopw [54] (fun i wr => ∃ (k : Nat) (v : Value), k ≤ DLs.length ∧ i = .int .i64 k ∧ RX wz.heap.size [tb] wz wr ∧ wr.rowIs tb 58 N (fun i => if i = s then v else TV i) ∧ wr.ownsRow wz.heap.size 3 1 v (toD ys (DLs.take k)).length ((toD ys (DLs.take k)).map (Value.int .i64))) (fun i _ => DLs.length - (intOf i).toNat)
          case atStart => exact ⟨0, .slice none 0 0, Nat.zero_le _, rfl, RX.refl _ _ _, HZT.out.congr (fun i _ => by by_cases e : i = s; simp [e, HNIL.out s (Nat.le_refl _)]; simp [e]), World.ownsRow_nil _ _ _ _⟩
          case round =>
            obtain ⟨k, v, hk, rfl, hR, hto, hrow⟩ := hrel
            obtain ⟨qv, cv, rfl⟩ := row_slice hrow
            have hBr := RX.belowt HZB.out hR (by omega) (by simp)
            by_cases hlt2 : k < DLs.length
            · obtain ⟨py, cy, hey, hmy, hcy⟩ := HDC.out wr hBr
              cases hey
              obtain ⟨b5, off5, rfl, hc5⟩ := hcy (by intro e; simp [e] at hlt2)
              obtain ⟨u5, e1, il1⟩ := hc5 k hlt2
              have HIL := Lib.hid il1
              obtain ⟨p5, d5, rfl, _, _⟩ := il1
              have hklt : (k : Int) < DLs.length := by omega
              have hkw : IntKind.i64.wrap ((k : Int) + 1) = (k : Int) + 1 := IntWalk.i64_in _ (by omega)
              have hbx := (hR.block g5 hgz (by simp; omega)).trans HZ2.out.2.1
              have z0 : wr.cell? ⟨g5, 0, none⟩ = some (.int .i64 h) := cell_of_heap (o := 0) hbx rfl
              have z1 : wr.cell? ⟨g5, 1, none⟩ = some (.slice q4 xs.length c4) := cell_of_heap (o := 1) hbx rfl
              have hr4 := own_rx HZ2.out.1 hR (Nat.le_refl _) (by simp; omega)
              have HDN := Lib.hid (doneR_any h ys DLs[k] _ _ wr (RL.of_row hyl.out (by unfold maxLen; omega) hr4) (NZ.row hr4) HIL.out (by rw [hyl.out]; omega) (fun x hx => by have := (OkS.of_st HW.out HST.out).2 x hx; omega))
              have hts := toD_snoc ys (DLs.take k) DLs[k]
              rw [← take_step DLs k hlt2] at hts
              have HTS := Lib.hid hts
              clear hts hcy hc5 hmy hbx hr4
              generalize hdk : DLs[k] = d at *
              obtain ⟨cb, hcb⟩ : ∃ y, coolB (dayR d ys) = y := ⟨_, rfl⟩
              rw [hcb] at HDN HTS
              have HCB := Lib.hid hcb
              have HR2 := Lib.hid hR
              have HT2 := Lib.hid hto
              have HW2 := Lib.hid hrow
              have hnr : wz.heap.size ≤ wr.heap.size := hR.size
              clear hcb hdk hR hto hBr
              obtain ⟨L, hL⟩ : ∃ y, toD ys (DLs.take k) = y := ⟨_, rfl⟩
              rw [hL] at HTS HW2 HT2 hrow
              try simp only [hL]
              have hLl : Hid (L.length ≤ 64) := by show L.length ≤ 64; rw [← hL]; simp only [toD, List.length_map]; exact Nat.le_trans (List.length_filter_le _ _) (by simp; omega)
              have hvb := hrow.lt
              clear hL hrow
              go_wp2_with fail
              refine HDN.out.mono ?_
              rintro e w6 ⟨⟨v6, rfl, ho6⟩, hB6⟩
              obtain ⟨q6, c6, rfl⟩ := row_slice ho6
              have HO6 := Lib.hid ho6
              have HB6 := Lib.hid hB6
              clear HDN e1 z0 z1 ho6 hB6
              cases cb with
              | false =>
                go_wp2_with fail
                go_roundw
                case rel =>
                  have K8 : Free.Bel wr (w6.alloc (.cells #[.int .i64 h, .slice q6 ys.length c6] 24)) := bt HB6.out (belAlloc _ _)
                  have e9 : toD ys (DLs.take (k + 1)) = L := by rw [HTS.out]; rfl
                  exact ⟨k + 1, .slice qv L.length cv, by omega, by go_num, RX.trans _ _ _ HR2.out (RX.of_bel K8 hnr), rowIs_bel HT2.out K8, by rw [e9]; exact bel_row HW2.out K8⟩
                case measure => simp [intOf]; omega
              | true =>
                go_upto_region 20 with fail
                have K8 : Hid (Free.Bel wr (w6.alloc (.cells #[.int .i64 h, .slice q6 ys.length c6] 24))) := bt HB6.out (belAlloc _ _)
                have HX8 : Hid ((w6.alloc (.cells #[.int .i64 h, .slice q6 ys.length c6] 24)).heap[w6.heap.size]? = some (.cells #[.int .i64 h, .slice q6 ys.length c6] 24 (0, 0)) ∧ w6.heap.size < (w6.alloc (.cells #[.int .i64 h, .slice q6 ys.length c6] 24)).heap.size) := ⟨World.alloc_heap_new _ _, by simp⟩
                have HO8 : Hid ((w6.alloc (.cells #[.int .i64 h, .slice q6 ys.length c6] 24)).ownsRow wr.heap.size 47 3 (.slice q6 ys.length c6) ys.length (cellsR (dayR d ys))) := bel_row HO6.out (belAlloc _ _)
                have hg6 : wr.heap.size ≤ w6.heap.size := HB6.out.size
                obtain ⟨g6, hg6e⟩ : ∃ x, w6.heap.size = x := ⟨_, rfl⟩
                rw [hg6e] at HX8 hg6 ⊢
                clear HB6 HO6
                generalize w6.alloc (.cells #[.int .i64 h, .slice q6 ys.length c6] 24) = w8 at *
                clear hg6e
                obtain ⟨nb, hnb⟩ : ∃ x, wz.heap.size = x := ⟨_, rfl⟩
                rw [hnb] at hnr hnz hvb HW2
                have htbn : tb < nb := by omega
                have hnb9 : nb ≤ w8.heap.size := Nat.le_trans hnr K8.out.size
                have hrow9 := bel_row HW2.out K8.out
                have hto9 := rowIs_bel HT2.out K8.out
                have hgb : g6 ∉ tb :: (Value.slice qv L.length cv).ownBlock.toList := by
                  intro hm
                  simp only [List.mem_cons, Option.mem_toList] at hm
                  rcases hm with h9 | h9
                  · omega
                  · have := (hvb g6 h9).2; omega
                have hF : ∀ W, RX w8.heap.size (tb :: (Value.slice qv L.length cv).ownBlock.toList) w8.drew W → W.cell? ⟨g6, 0, none⟩ = some (.int .i64 h) ∧ W.cell? ⟨g6, 1, none⟩ = some (.slice q6 ys.length c6) ∧ RX w8.heap.size (tb :: (Value.slice qv L.length cv).ownBlock.toList) w8 W := fun W hW => by
                  have k9 : RX w8.heap.size (tb :: (Value.slice qv L.length cv).ownBlock.toList) w8 W := hW.undrew
                  have h9 := (k9.block g6 HX8.out.2 hgb).trans HX8.out.1
                  exact ⟨cell_of_heap (o := 0) h9 rfl, cell_of_heap (o := 1) h9 rfl, k9⟩
                obtain ⟨cc, hcc⟩ : ∃ y, codeR (dayR d ys) = y := ⟨_, rfl⟩
                have HCC := Lib.hid hcc
                have HCD : Hid (∀ W, RX w8.heap.size (tb :: (Value.slice qv L.length cv).ownBlock.toList) w8 W → Calls Tryd.prog 77 #[.agg #[.int .i64 h, .slice q6 ys.length c6]] W fun e W' => e = .returned (.int .i64 cc) ∧ Below W.heap.size W W') := fun W hW => by
                  have hr := own_rx HO8.out hW (Nat.le_refl _) (by
                    intro k hk
                    simp only [List.mem_cons, Option.mem_toList] at hk
                    rcases hk with h9 | h9
                    · exact .inl (by omega)
                    · exact .inl (hvb k h9).2)
                  have h8 := code_v h (dayR d ys) (.slice q6 ys.length c6) W (RL.of_row (by simp [dayR]) (by have := hyl.out; unfold maxLen; omega) hr) (OkS.of_st HW.out (HST.out.day d HCB.out))
                  rw [HCC.out] at h8
                  exact h8
                have HNB := Lib.hid hnb
                have hLq := hLl.out
                clear hcc hgb hnb
                refine Free2.wp_free (R := RX w8.heap.size (tb :: (Value.slice qv L.length cv).ownBlock.toList)) (J := JQ nb tb N s TV (.slice qv L.length cv) L cc) (by kernel_rfl) (by kernel_rfl) (RX.refl _ _) RX.trans (JQ.start hnb9 htbn hrow9 hto9) ?_
                refine Free2.Chain.ex ?_ 0 rfl [] [7] (by kernel_rfl) (by kernel_rfl) rfl (RX.refl _ _) (fun X W v h => JQ.skip h 0 v (by decide) (by decide) (by decide)) ?_ ?_
                rotate_left
                · (intro ev W hb hR hO hD; have hS := hF W hR; obtain ⟨hb1, hb2, hb3⟩ := hb; simp only [Free.AllDeps, Free.AllOuts, Free.At, al1, al2, al3, al4, al5, and_true] at hO hD; go_simp; rfl)
                simp only [an1, an2]
                refine Free2.Chain.ex ?_ 1 rfl [] [9] (by kernel_rfl) (by kernel_rfl) rfl (RX.refl _ _) (fun X W v h => JQ.skip h 1 v (by decide) (by decide) (by decide)) ?_ ?_
                rotate_left
                · (intro ev W hb hR hO hD; have hS := hF W hR; obtain ⟨hb1, hb2, hb3⟩ := hb; simp only [Free.AllDeps, Free.AllOuts, Free.At, al1, al2, al3, al4, al5, and_true] at hO hD; go_simp; rfl)
                simp only [an1, an2]
                refine Free2.Chain.ex ?_ 2 rfl [] [7] (by kernel_rfl) (by kernel_rfl) rfl (RX.refl _ _) (fun X W v h => JQ.skip h 2 v (by decide) (by decide) (by decide)) ?_ ?_
                rotate_left
                · (intro ev W hb hR hO hD; have hS := hF W hR; obtain ⟨hb1, hb2, hb3⟩ := hb; simp only [Free.AllDeps, Free.AllOuts, Free.At, al1, al2, al3, al4, al5, and_true] at hO hD; go_simp; rfl)
                simp only [an1, an2]
                refine Free2.Chain.ex ?_ 3 rfl [] [9] (by kernel_rfl) (by kernel_rfl) rfl (RX.refl _ _) (fun X W v h => JQ.skip h 3 v (by decide) (by decide) (by decide)) ?_ ?_
                rotate_left
                · (intro ev W hb hR hO hD; have hS := hF W hR; obtain ⟨hb1, hb2, hb3⟩ := hb; simp only [Free.AllDeps, Free.AllOuts, Free.At, al1, al2, al3, al4, al5, and_true] at hO hD; go_simp; rfl)
                simp only [an1, an2]
                refine Free2.Chain.ex ?_ 4 rfl [(2, 67), (3, 68)] [] (by kernel_rfl) (by kernel_rfl) rfl (RX.refl _ _) (fun X W v h => JQ.skip h 4 v (by decide) (by decide) (by decide)) ?_ ?_
                rotate_left
                · (intro ev W hb hR hO hD; have hS := hF W hR; obtain ⟨hb1, hb2, hb3⟩ := hb; simp only [Free.AllDeps, Free.AllOuts, Free.At, al1, al2, al3, al4, al5, and_true] at hO hD; go_simp; rfl)
                simp only [an1, an2]
                refine Free2.Chain.pr (fun u _ => u = .slice qv L.length cv) 5 rfl [(4, 69)] [] (by kernel_rfl) (by kernel_rfl) rfl (fun _ _ _ _ h => h) ?_ ?_
                · (intro ev W X hb hR hO hD hj hx hax; have hS := hF W hR; obtain ⟨hb1, hb2, hb3⟩ := hb; simp only [Free.AllDeps, Free.AllOuts, Free.At, al1, al2, al3, al4, al5, and_true] at hO hD; simp only [Free2.AllX, and_true] at hax; have q5 : W.cell? ⟨tb, s, none⟩ = some (.slice qv L.length cv) := (by simpa using (hj.st0 (hj.n11 (hj.n9 hx))).cell hsN); go_simp; exact ⟨RX.refl _ _ _, rfl, JQ.skip hj 5 _ (by decide) (by decide) (by decide)⟩)
                simp only [an1, an2]
                refine Free2.Chain.ex ?_ 6 rfl [] [13] (by kernel_rfl) (by kernel_rfl) rfl (RX.refl _ _) (fun X W v h => JQ.skip h 6 v (by decide) (by decide) (by decide)) ?_ ?_
                rotate_left
                · (intro ev W hb hR hO hD; have hS := hF W hR; obtain ⟨hb1, hb2, hb3⟩ := hb; simp only [Free.AllDeps, Free.AllOuts, Free.At, al1, al2, al3, al4, al5, and_true] at hO hD; go_simp; rfl)
                simp only [an1, an2]
                refine Free2.Chain.pr (fun u _ => u = .int .i64 cc) 7 rfl [(6, 71)] [] (by kernel_rfl) (by kernel_rfl) rfl (fun _ _ _ _ h => h) ?_ ?_
                · (intro ev W X hb hR hO hD hj hx hax; have hS := hF W hR; obtain ⟨hb1, hb2, hb3⟩ := hb; simp only [Free.AllDeps, Free.AllOuts, Free.At, al1, al2, al3, al4, al5, and_true] at hO hD; simp only [Free2.AllX, and_true] at hax; go_simp; refine yields_enter ?_; (with_reducible refine (HCD.out W hS.2.2).mono ?_); rintro e W2 ⟨rfl, hB2⟩; exact ⟨_, rfl, RX.of_bel hB2 hR.size, rfl, JQ.skip (hj.bel hB2) 7 _ (by decide) (by decide) (by decide)⟩)
                simp only [an1, an2]
                refine Free2.Chain.pr (fun u _ => ∃ b, u = .slice (some ⟨b, 0, none⟩) 1 1) 8 rfl [(7, 72)] [] (by kernel_rfl) (by kernel_rfl) rfl (fun _ _ _ _ h => h) ?_ ?_
                · (intro ev W X hb hR hO hD hj hx hax; have hS := hF W hR; obtain ⟨hb1, hb2, hb3⟩ := hb; simp only [Free.AllDeps, Free.AllOuts, Free.At, al1, al2, al3, al4, al5, and_true] at hO hD; simp only [Free2.AllX, and_true] at hax; go_simp; exact ⟨RX.of_bel (belAlloc _ _) hR.size, ⟨_, rfl⟩, JQ.build hj⟩)
                simp only [an1, an2]
                refine Free2.Chain.pr (fun _ _ => True) 9 rfl [(5, 70), (8, 73), (7, 72)] [] (by kernel_rfl) (by kernel_rfl) rfl (fun _ _ _ _ h => h) ?_ ?_
                · (intro ev W X hb hR hO hD hj hx hax; have hS := hF W hR; obtain ⟨hb1, hb2, hb3⟩ := hb; simp only [Free.AllDeps, Free.AllOuts, Free.At, al1, al2, al3, al4, al5, and_true] at hO hD; simp only [Free2.AllX, and_true] at hax; obtain ⟨hd5, -⟩ := hD; obtain ⟨b8, hb8, hc8⟩ := hj.lit hx _ hax.2.1; refine yields_append_row W _ (.tmp 70) (.tmp 73) 58 rfl nb 3 i0 (.int .i64 0) 1 8 Tryd.underlying58 HZ.out.1 HZ.out.2.1 HZ.out.2.2.1 HZ.out.2.2.2 rfl (by decide) _ L.length (L.map (Value.int .i64)) hd5 (hj.old hx) (some ⟨b8, 0, none⟩) 1 1 [.int .i64 cc] hb8 rfl (lit_cells hc8) (fun he => (by cases he)) (fun u hu => by simp at hu; subst hu; rfl) (by unfold maxLen; omega) (by omega) hj.sz ?_; intro v9 w9 ho9 hk9; exact ⟨RX.rowK hk9 hR.size, trivial, JQ.app hj hx (by rw [hax.1]; simp) hk9 ho9⟩)
                simp only [an1, an2]
                refine Free2.Chain.ex ?_ 10 rfl [(0, 65), (1, 66), (0, 65), (1, 66), (2, 67), (3, 68), (4, 69), (5, 70), (6, 71), (7, 72), (8, 73), (9, 74)] [] (by kernel_rfl) (by kernel_rfl) rfl (RX.refl _ _) (fun X W v h => JQ.skip h 10 v (by decide) (by decide) (by decide)) ?_ ?_
                rotate_left
                · (intro ev W hb hR hO hD; have hS := hF W hR; obtain ⟨hb1, hb2, hb3⟩ := hb; simp only [Free.AllDeps, Free.AllOuts, Free.At, al1, al2, al3, al4, al5, and_true] at hO hD; go_simp; rfl)
                simp only [an1, an2]
                refine Free2.Chain.pr (fun _ _ => True) 11 rfl [(10, 75), (9, 74), (9, 74), (0, 65), (1, 66), (2, 67), (3, 68), (4, 69), (5, 70), (6, 71), (7, 72), (8, 73), (9, 74)] [] (by kernel_rfl) (by kernel_rfl) rfl (fun _ _ _ _ h => h) ?_ ?_
                · (intro ev W X hb hR hO hD hj hx hax; have hS := hF W hR; obtain ⟨hb1, hb2, hb3⟩ := hb; simp only [Free.AllDeps, Free.AllOuts, Free.At, al1, al2, al3, al4, al5, and_true] at hO hD; simp only [Free2.AllX, and_true] at hax; have hX9 := hax.2.1; have hz := hj.st0 hx; obtain ⟨q9, c9, e9⟩ := row_slice (hj.new _ hX9); have q1 := hz.cell (i := s) hsN; have f1 := hz.frozen s; rw [e9] at hX9; go_simp; exact ⟨RX.set (by simp), JQ.store hj hX9 hx⟩)
                simp only [an1, an2]
                intro zs w9 hR9 hV hX9
                obtain ⟨X, hj, hxx⟩ := hX9
                simp only [Free.AllV, Free.At, List.length_cons, List.length_nil, Nat.reduceAdd, List.getElem?_cons_succ, List.getElem?_cons_zero, true_and, and_true] at hV
                simp only [Free.putsFrom, Act.put, Nat.zero_add, Nat.reduceAdd, hV, List.setIfInBounds_toArray, List.set_cons_succ, List.set_cons_zero]
                obtain ⟨u9, hu9, hto10⟩ := hj.st1 (by rw [hxx 11 (by decide)]; simp)
                have HJ := Lib.hid (And.intro (hj.new u9 hu9) hto10)
                have HR9 := Lib.hid (show RX w8.heap.size (tb :: (Value.slice qv L.length cv).ownBlock.toList) w8 w9 from hR9.undrew)
                clear hV hj hxx hF hR9 hto10 hto9 hrow9
                go_wp2_with fail
                go_roundw
                case rel =>
                  have e9 : toD ys (DLs.take (k + 1)) = L ++ [cc] := by rw [HTS.out, HCC.out]; rfl
                  have k9 : RX nb [tb] w8 w9 := HR9.out.weak hnb9 (fun k hk => by
                    simp only [List.mem_cons, Option.mem_toList] at hk
                    rcases hk with h9 | h9
                    · exact .inl (by simp [h9])
                    · exact .inr (hvb k h9).1)
                  have k8 : RX nb [tb] wr w8 := RX.of_bel K8.out hnr
                  exact ⟨k + 1, u9, by omega, by go_num, by rw [HNB.out]; exact RX.trans _ _ _ (by have h9 := HR2.out; rw [HNB.out] at h9; exact h9) (RX.trans _ _ _ k8 k9), HJ.out.2, by rw [e9, HNB.out]; simpa using HJ.out.1⟩
                case measure => simp [intOf]; omega
            · obtain rfl : k = DLs.length := by omega
              have hge : ¬ (DLs.length : Int) < DLs.length := by omega
              rw [List.take_length] at hrow hto
              try simp only [List.take_length]
              have HF := Lib.hid (And.intro hR (And.intro hto hrow))
              clear hR hto hrow hBr
              go_wp2_with fail
              go_roundw
              case rel =>
                obtain ⟨hR, hto, hrow⟩ := HF.out
                refine ⟨s + 1, _, by omega, by go_num, RX.trans _ _ _ HZR.out (hR.weak hnz (by simp)), hto, rowIs_rx HZO.out hR (by omega) (by simp), fun i hi => ?_, fun i hi => ?_⟩
                · by_cases e : i = s
                  · subst e
                    have e9 : toL h xs i = toD ys DLs := by rw [toL, HYS.out, HDS.out]
                    simp only [if_pos, e9]
                    exact row_mono hrow hnz
                  · simp only [if_neg e]
                    exact own_rx (HZD.out i (by omega)) hR (Nat.le_refl _) (by simp; omega)
                · rw [if_neg (by omega)]
                  exact HNIL.out i (by omega)
              case measure => simp [intOf]; omega
        · obtain rfl : s = N := by omega
          have hge : ¬ (s : Int) < (s : Int) := by omega
          have HTO := Lib.hid hto
          have HDAY := Lib.hid hday
          have HBF := Lib.hid hBo
          have hws : w3.heap.size ≤ wo.heap.size := hR.size
          have hout1 : wo.rowIs (tb + 1) 3 s (fun i => .int .i64 ((List.replicate s (1000000 : Int)).getD i 0)) := hout.congr fun i hi => by simp [hi]
          have HO1 := Lib.hid hout1
          clear hto hday hout hout1 hR hBo hnil
          go_wp2_with fail
          go_loopw [15] (fun i wr => ∃ (n : Nat) (O : List Int), i = .int .i64 n ∧ OutI h xs n O ∧ n + cntE O ≤ s ∧ RX wo.heap.size [tb + 1] wo wr ∧ wr.rowIs (tb + 1) 3 s (fun i => .int .i64 (O.getD i 0))) (fun i _ => s - (intOf i).toNat)
          case atStart => exact ⟨0, List.replicate s 1000000, rfl, by have h9 := OutI.start (h := h) (xs := xs); rw [HN.out, Int.toNat_natCast] at h9; exact h9, by rw [cnt_rep]; omega, RX.refl _ _ _, HO1.out⟩
          case round =>
            obtain ⟨n, O, rfl, hoi, hcn, hR, hout⟩ := hrel
            have hOl : O.length = s := by rw [hoi.len, HN.out, Int.toNat_natCast]
            have HOI := Lib.hid hoi
            have HR0 := Lib.hid hR
            have HOUT := Lib.hid hout
            have hn2 : n ≤ 1296 := by omega
            clear hoi hR hout
            go_wp2_with fail
            obtain ⟨wp, hwp⟩ : ∃ x, x = wr := ⟨_, rfl⟩
            subst hwp
            have hwp0 : wo.heap.size ≤ wp.heap.size := HR0.out.size
            have HI := Lib.hid (World.ownsRow_nil wp wp.heap.size 3 1)
            go_loopw [17, 16] (fun i v wr => ∃ q : Nat, q ≤ s ∧ i = .int .i64 q ∧ Free.Bel wp wr ∧ wr.ownsRow wp.heap.size 3 1 v (goneL h xs O q).length ((goneL h xs O q).map fun i : Nat => Value.int .i64 (i : Int))) (fun i _ _ => s - (intOf i).toNat)
            case atStart => exact ⟨0, Nat.zero_le _, rfl, Free.Bel.refl _, HI.out⟩
            case round =>
              obtain ⟨q, hq, rfl, hB, hgo⟩ := hrel
              obtain ⟨qg, cg, rfl⟩ := row_slice hgo
              by_cases hqs : q < s
              · have hqlt : (q : Int) < (s : Int) := by omega
                have hqw : IntKind.i64.wrap ((q : Int) + 1) = (q : Int) + 1 := IntWalk.i64_in _ (by omega)
                have hqn : ¬ ((q : Int) < 0) := by omega
                have c0 := keepsB hB (HOUT.out.cell hqs)
                have hgs := goneL_succ h xs O q
                have hgl : (goneL h xs O q).length ≤ q := by unfold goneL; exact Nat.le_trans (List.length_filter_le _ _) (by simp)
                have hgb : goneB h xs O q = (decide (O.getD q 0 = 1000000) && !lastsB O (toL h xs q)) := by
                  unfold goneB
                  congr 1
                  rw [List.getElem?_eq_getElem (by omega), List.getD_eq_getElem?_getD, List.getElem?_eq_getElem (by omega)]
                  by_cases e : O[q] = 1000000 <;> simp [e]
                rw [hgb] at hgs
                obtain ⟨G, hG⟩ : ∃ y, goneL h xs O q = y := ⟨_, rfl⟩
                rw [hG] at hgs hgl hgo
                try simp only [hG]
                have HGS := Lib.hid hgs
                have HGO := Lib.hid hgo
                have HB := Lib.hid hB
                obtain ⟨oq, hoq⟩ : ∃ y, O.getD q 0 = y := ⟨_, rfl⟩
                rw [hoq] at c0 HGS
                clear hgs hgb hG hgo hB hoq
                by_cases hE : oq = 1000000
                · subst hE
                  have hdq := bel_row (own_rx (HDAY.out q hqs) HR0.out (Nat.le_refl _) (by simp; omega)) HB.out
                  have c5 : wr.cell? ⟨tb, q, none⟩ = some (TV q) := keepsB HB.out ((rowIs_rx HTO.out HR0.out (by omega) (by simp)).cell hqs)
                  obtain ⟨qt, ct, hqt⟩ := row_slice hdq
                  rw [hqt] at c5 hdq
                  have htl : (toL h xs q).length ≤ 64 := by
                    simp only [toL, toD, List.length_map]
                    have h9 := daysL_small HW.out
                    exact Nat.le_trans (List.length_filter_le _ _) h9
                  have HTB : Hid (∀ c ∈ toL h xs q, 0 ≤ c ∧ c < (s : Int)) := fun c hc => by
                    have h9 := toL_bound (fun x hx => (HX.out x hx).1) hc
                    rw [HN.out] at h9
                    exact h9
                  obtain ⟨T, hT⟩ : ∃ y, toL h xs q = y := ⟨_, rfl⟩
                  rw [hT] at c5 hdq htl HTB HGS
                  obtain ⟨pT, cT, hpe, _, hpT⟩ := IL.of_own (by unfold maxLen; omega) hdq
                  cases hpe
                  have HPT := Lib.hid hpT
                  clear hdq hqt hT hpT
                  obtain ⟨wt, hwt⟩ : ∃ x, x = wr := ⟨_, rfl⟩
                  subst hwt
                  go_wp2_with fail
                  go_loopw [94, 18] (fun i v wr => ∃ j : Nat, j ≤ T.length ∧ i = .int .i64 j ∧ v = .bool (lastsB O (T.take j)) ∧ Free.Bel wt wr) (fun i _ _ => T.length - (intOf i).toNat)
                  case atStart => exact ⟨0, Nat.zero_le _, rfl, rfl, Free.Bel.refl _⟩
                  case round =>
                    obtain ⟨j, hj, rfl, rfl, hBt⟩ := hrel
                    by_cases hjl : j < T.length
                    · have hx : T ≠ [] := by intro e; simp [e] at hjl
                      obtain ⟨b7, off7, rfl, hc7⟩ := HPT.out hx
                      have e1 := keepsB hBt (hc7 j hjl)
                      have hjlt : (j : Int) < T.length := by omega
                      have hjw : IntKind.i64.wrap ((j : Int) + 1) = (j : Int) + 1 := IntWalk.i64_in _ (by omega)
                      have htb9 := HTB.out T[j] (List.getElem_mem hjl)
                      obtain ⟨tn, htn⟩ : ∃ tn : Nat, T[j] = (tn : Int) := ⟨T[j].toNat, by omega⟩
                      rw [htn] at e1 htb9
                      have htns : tn < s := by omega
                      have e2 := keepsB hBt (keepsB HB.out (HOUT.out.cell htns))
                      have htl2 : (tn : Int) < (s : Int) := by omega
                      have htn0 : ¬ ((tn : Int) < 0) := by omega
                      have hls := lastsB_snoc O (T.take j) T[j]
                      rw [← take_step T j hjl, htn, Int.toNat_natCast] at hls
                      have hgd : (O[tn]? == some 1000000) = (O.getD tn 0 == 1000000) := by
                        rw [List.getD_eq_getElem?_getD, List.getElem?_eq_getElem (by omega)]
                        simp
                      rw [hgd] at hls
                      have HLS := Lib.hid hls
                      have HBT := Lib.hid hBt
                      obtain ⟨ot, hot⟩ : ∃ y, O.getD tn 0 = y := ⟨_, rfl⟩
                      rw [hot] at e2 HLS
                      obtain ⟨lb, hlb⟩ : ∃ y, lastsB O (T.take j) = y := ⟨_, rfl⟩
                      rw [hlb] at HLS
                      rw [hlb]
                      clear hc7 hx hls hgd hBt hot hlb htn
                      cases lb with
                      | true =>
                        go_wp2_with fail
                        go_roundw
                        case rel => exact ⟨j + 1, by omega, by go_num, by rw [HLS.out]; rfl, HBT.out⟩
                        case measure => simp [intOf]; omega
                      | false =>
                        obtain ⟨eb, heb⟩ : ∃ y, (ot == 1000000) = y := ⟨_, rfl⟩
                        rw [heb] at HLS
                        go_wp2_with fail
                        go_roundw
                        case rel => exact ⟨j + 1, by omega, by go_num, by rw [HLS.out]; rfl, HBT.out⟩
                        case measure => simp [intOf]; omega
                    · obtain rfl : j = T.length := by omega
                      have hge2 : ¬ (T.length : Int) < T.length := by omega
                      rw [List.take_length]
                      obtain ⟨lb, hlb⟩ : ∃ y, lastsB O T = y := ⟨_, rfl⟩
                      rw [hlb] at HGS
                      rw [hlb]
                      have HB2 := Lib.hid (bt HB.out hBt)
                      have hgo := bel_row HGO.out hBt
                      have hbs2 := HB2.out.size
                      clear hlb hBt HB HGO c5 c0
                      cases lb with
                      | true =>
                        have HGO := Lib.hid hgo
                        clear hgo
                        go_wp2_with fail
                        go_roundw
                        case rel => exact ⟨q + 1, by omega, by go_num, HB2.out, by rw [HGS.out]; exact HGO.out⟩
                        case measure => simp [intOf]; omega
                      | false =>
                        go_wp2_with (first | (at_builtin; go_loud (refine wpList_append_own _ rfl _ _ 58 rfl wp.heap.size 3 i0 (.int .i64 0) 1 8 Tryd.underlying58 HZ.out.1 HZ.out.2.1 HZ.out.2.2.1 HZ.out.2.2.2 rfl (by decide) _ _ _ rfl (hgo.alloc _) ⟨wr.heap.size, 0, none⟩ 1 1 [.int .i64 (q : Int)] rfl rfl (cell_one_new _ _ _) (fun x hx => by simp at hx; subst hx; rfl) (by unfold maxLen; omega) (by omega) (by simp; omega) ?_); intro v9 w9 hown9 hgrow9 hnil9) | fail)
                        have HG := Lib.hid (show Below wp.heap.size wr w9 from ((Below.refl _ wr).alloc hbs2 _).trans (grown_belR (hgo.alloc _) hgrow9 (by simp; omega)))
                        have HO9 := Lib.hid hown9
                        clear hown9 hgrow9 hnil9 hgo
                        go_roundw
                        case rel => exact ⟨q + 1, by omega, by go_num, Below.trans (show Below wp.heap.size wp wr from HB2.out) HG.out, by rw [HGS.out]; simpa using HO9.out⟩
                        case measure => simp [intOf]; omega
                · have hEb : (oq != 1000000) = true := by simpa using hE
                  have HGE : Hid (goneL h xs O (q + 1) = G) := by
                    show _ = _
                    rw [HGS.out, if_neg]
                    simp [hE]
                  clear hE
                  go_wp2_with fail
                  go_roundw
                  case rel => exact ⟨q + 1, by omega, by go_num, HB.out, by rw [HGE.out]; exact HGO.out⟩
                  case measure => simp [intOf]; omega
              · obtain rfl : q = s := by omega
                have hge2 : ¬ (q : Int) < (q : Int) := by omega
                have HGE : Hid (goneL h xs O O.length = goneL h xs O q) := by show _ = _; rw [hOl]
                obtain ⟨G, hG⟩ : ∃ y, goneL h xs O q = y := ⟨_, rfl⟩
                rw [hG] at hgo HGE
                try simp only [hG]
                have hOUT2 := rowIs_bel HOUT.out hB
                have hG64 : G.length ≤ q := by rw [← hG]; unfold goneL; exact Nat.le_trans (List.length_filter_le _ _) (by simp)
                have hGlt : Hid (∀ g ∈ G, g < q) := fun g hg => by rw [← hG] at hg; exact (goneL_lt hg).1
                have HOUT2 := Lib.hid hOUT2
                have HB2 := Lib.hid hB
                clear hG hOUT2 hB
                by_cases hGn : G = []
                · have hG0 : ((G.length : Int) == 0) = true := by rw [hGn]; rfl
                  have HGN := Lib.hid hGn
                  clear hGn
                  go_wp2_with fail
                  go_ret
                  refine ⟨⟨_, rfl, O, HOI.out.last (fun x hx => (HX.out x hx).1) (by omega) (by rw [HGE.out]; exact HGN.out), ?_⟩, ?_⟩
                  · exact DayR.of_rowIs HOUT2.out hOl (by unfold maxLen; omega)
                  · have h9 := HBW.out wp (RX.belowt HBF.out HR0.out (by omega) (by simp))
                    exact Below.trans h9 (HB2.out.mono h9.size)
                · have hG0 : ((G.length : Int) == 0) = false := by
                    cases G with
                    | nil => exact absurd rfl hGn
                    | cons g r => simp; omega
                  have HGN := Lib.hid hGn
                  obtain ⟨pG, cG, hpe, _, hpG⟩ := IL.of_own (xs := G.map fun i : Nat => (i : Int)) (by simp; unfold maxLen; omega) (by simpa [Function.comp_def] using hgo)
                  have hgne : (G.map fun i : Nat => (i : Int)) ≠ [] := by simpa using hGn
                  obtain ⟨bG, offG, hpG1, hpG2⟩ := hpG hgne
                  rw [List.length_map] at hpe
                  cases hpe
                  subst hpG1
                  have HPG : Hid (∀ j (hj : j < G.length), wr.cell? ⟨bG, offG + j, none⟩ = some (.int .i64 ((G[j] : Nat) : Int))) := fun j hj => by
                    have h9 := hpG2 j (by simpa using hj)
                    simpa using h9
                  have hbG : wp.heap.size ≤ bG := by
                    have h9 := hgo.lt bG rfl
                    exact h9.1
                  have hbG2 : bG ≠ tb + 1 := by omega
                  clear hpG2 hpG hgne hgo hGn
                  obtain ⟨wg, hwg⟩ : ∃ x, x = wr := ⟨_, rfl⟩
                  subst hwg
                  have hwg0 : wp.heap.size ≤ wg.heap.size := HB2.out.size
                  go_wp2_with fail
                  go_loopw [119] (fun i wr => ∃ j : Nat, j ≤ G.length ∧ i = .int .i64 j ∧ RX wg.heap.size [tb + 1] wg wr ∧ wr.rowIs (tb + 1) 3 q (fun i => .int .i64 ((setAll O n (G.take j)).getD i 0))) (fun i _ => G.length - (intOf i).toNat)
                  case atStart => exact ⟨0, Nat.zero_le _, rfl, RX.refl _ _ _, HOUT2.out⟩
                  case round =>
                    obtain ⟨j, hj, rfl, hR, hrow⟩ := hrel
                    by_cases hjl : j < G.length
                    · have hc := HPG.out j hjl
                      have e1 := hR.cell hc (by have := lt_of_cell hc; exact this) (by simpa using hbG2)
                      have hjlt : (j : Int) < G.length := by omega
                      have hjw : IntKind.i64.wrap ((j : Int) + 1) = (j : Int) + 1 := IntWalk.i64_in _ (by omega)
                      have hgq := hGlt.out G[j] (List.getElem_mem hjl)
                      have hsa : Hid (setAll O n (G.take (j + 1)) = (setAll O n (G.take j)).set G[j] n) := by show _ = _; rw [take_step G j hjl, setAll_snoc]
                      have hsl : (setAll O n (G.take j)).length = q := by rw [setAll_len, hOl]
                      have e2 := hrow.cell hgq
                      have e3 := hrow.frozen G[j]
                      have HROW := Lib.hid hrow
                      have HRR := Lib.hid hR
                      have HSL := Lib.hid hsl
                      clear hc hR hrow hsl
                      generalize hgj : G[j] = gj at *
                      have hgi : (gj : Int) < (q : Int) := by omega
                      have hgi0 : ¬ ((gj : Int) < 0) := by omega
                      generalize hvv : ((setAll O n (G.take j)).getD gj 0) = vv at *
                      clear hvv hgj
                      go_wp2_with fail
                      go_roundw
                      case rel =>
                        refine ⟨j + 1, by omega, by go_num, RX.trans _ _ _ HRR.out (RX.set (by simp)), (HROW.out.set gj (.int .i64 n)).congr fun i hi => ?_⟩
                        rw [hsa.out]
                        by_cases e : i = gj
                        · subst e
                          simp [List.getD_eq_getElem?_getD, HSL.out, hi]
                        · simp [e, List.getD_eq_getElem?_getD, List.getElem?_set, Ne.symm e]
                      case measure => simp [intOf]; omega
                    · obtain rfl : j = G.length := by omega
                      have hge3 : ¬ (G.length : Int) < G.length := by omega
                      rw [List.take_length] at hrow
                      have hnw : IntKind.i64.wrap ((n : Int) + 1) = (n : Int) + 1 := IntWalk.i64_in _ (by omega)
                      have HF := Lib.hid (And.intro hR hrow)
                      clear hR hrow
                      go_wp2_with fail
                      go_roundw
                      case rel =>
                        have hne : goneL h xs O O.length ≠ [] := by rw [HGE.out]; exact HGN.out
                        have h1 := cnt_gone (n := n) (by omega) hne
                        rw [HGE.out] at h1
                        have h2 := HOI.out.next (fun x hx => (HX.out x hx).1) (by omega)
                        rw [HGE.out] at h2
                        exact ⟨n + 1, _, by go_num, h2, by omega, RX.trans _ _ _ HR0.out (RX.trans _ _ _ (RX.of_bel HB2.out hwp0) (HF.out.1.weak (by omega) (by simp))), HF.out.2⟩
                      case measure =>
                        have hne : goneL h xs O O.length ≠ [] := by rw [HGE.out]; exact HGN.out
                        have h1 := cnt_pos hne
                        simp [intOf]; omega
end Go.Proofs.YtknpglgpkkhhiaaDoor

/- The reference's Longest and first. -/
namespace Go.Proofs.YtknpglgpkkhhiaaDoor
set_option linter.unusedSimpArgs false
set_option linter.unusedVariables false
open Go.RowKit Go.Proofs.YtknpglgpkkhhiaaDoor.Free2 Go.Proofs.YtknpglgpkkhhiaaDoor.ML RR

set_option maxRecDepth 100000 in
set_option maxHeartbeats 8000000 in
theorem longR_any (h : Int) (xs : List Rk) (u : Value) (w : World) (hu : RL xs u w) (hz : NZ u) (hw : watchB h xs = true) :
    Calls Tryd.prog 75 #[.agg #[.int .i64 h, u]] w fun e w' => (∃ v : Int, e = .returned (.int .i64 v) ∧ LongIs h xs v) ∧ Below w.heap.size w w' := by
  have HUX := Lib.hid (fun (W : World) (hW : Below w.heap.size w W) => hu.keeps hW)
  have HNZ := Lib.hid hz
  obtain ⟨p, cp, rfl, hm, hp⟩ := hu
  have HW := Lib.hid hw
  have hcb := code_lt (st_self hw)
  obtain ⟨cn, hcn⟩ : ∃ n : Nat, codeR xs = (n : Int) := ⟨(codeR xs).toNat, by omega⟩
  have HCN := Lib.hid hcn
  have HLG := Lib.hid (fun (W : World) (hW : Below w.heap.size w W) => longest_any h xs _ W (HUX.out W hW) HNZ.out HW.out)
  have HCD : Hid (∀ W, Below w.heap.size w W → Calls Tryd.prog 77 #[.agg #[.int .i64 h, .slice p xs.length cp]] W fun e W' => e = .returned (.int .i64 (cn : Int)) ∧ Below W.heap.size W W') := fun W hW => by
    have h9 := code_v h xs _ W (HUX.out W hW) (OkS.of_st HW.out (st_self HW.out))
    rw [HCN.out] at h9
    exact h9
  clear hp hw hm hz hcb hcn
  have hb0 : Free.Bel w (w.alloc (.cells #[.int .i64 h, .slice p xs.length cp] 24)) := belAlloc _ _
  have c0 : (w.alloc (.cells #[.int .i64 h, .slice p xs.length cp] 24)).cell? ⟨w.heap.size, 0, none⟩ = some (.int .i64 h) := by simp [go_sem]
  have c1 : (w.alloc (.cells #[.int .i64 h, .slice p xs.length cp] 24)).cell? ⟨w.heap.size, 1, none⟩ = some (.slice p xs.length cp) := by simp [go_sem]
  have HB0 := Lib.hid hb0
  go_enter Tryd.func75, Tryd.ntmps75
  go_wp2_with fail
  clear hb0
  generalize (w.alloc (.cells #[.int .i64 h, .slice p xs.length cp] 24)) = w0 at *
  have hF : ∀ W, Free.Bel w0.drew W → W.cell? ⟨w.heap.size, 0, none⟩ = some (.int .i64 h) ∧ W.cell? ⟨w.heap.size, 1, none⟩ = some (.slice p xs.length cp) ∧ Below w.heap.size w W := fun W hW => by
    have k0 : Free.Bel w0 W := bt (Bel.drewT (Free.Bel.refl _)) hW
    exact ⟨keepsB k0 c0, keepsB k0 c1, bt HB0.out k0⟩
  refine Free.wp_free (R := Free.Bel) (by kernel_rfl) (by kernel_rfl) Free.Bel.refl Free.Bel.trans ?_
  refine Free.Chain.ex ?_ [] [1] (by kernel_rfl) (by kernel_rfl) rfl Free.Bel.refl ?_ ?_
  rotate_left 2
  simp only [an1, an2]
  rotate_left
  rotate_left
  · (intro ev W hb hR hO hD; have hS := hF W hR; obtain ⟨hb1, hb2, hb3⟩ := hb; simp only [Free.AllDeps, Free.AllOuts, Free.At, al1, al2, al3, al4, al5, and_true] at hO hD; go_simp; rfl)
  refine Free.Chain.pr (fun v W => ∃ O, LongT h xs O ∧ IL O v W) [(0, 3)] [] (by kernel_rfl) (by kernel_rfl) rfl (fun _ _ _ hB ⟨O, h1, h2⟩ => ⟨O, h1, h2.keeps hB⟩) ?_ ?_
  · (intro ev W hb hR hO hD; have hS := hF W hR; obtain ⟨hb1, hb2, hb3⟩ := hb; simp only [Free.AllDeps, Free.AllOuts, Free.At, al1, al2, al3, al4, al5, and_true] at hO hD; go_simp; refine yields_enter ?_; (with_reducible refine (HLG.out W hS.2.2).mono ?_); rintro e W2 ⟨⟨v9, O, rfl, hO, hI⟩, hB2⟩; exact ⟨_, rfl, hB2, O, hO, hI.il⟩)
  simp only [an1, an2]
  refine Free.Chain.ex ?_ [] [1] (by kernel_rfl) (by kernel_rfl) rfl Free.Bel.refl ?_ ?_
  rotate_left 2
  simp only [an1, an2]
  rotate_left
  rotate_left
  · (intro ev W hb hR hO hD; have hS := hF W hR; obtain ⟨hb1, hb2, hb3⟩ := hb; simp only [Free.AllDeps, Free.AllOuts, Free.At, al1, al2, al3, al4, al5, and_true] at hO hD; go_simp; rfl)
  refine Free.Chain.pr (fun v _ => v = .int .i64 (cn : Int)) [(2, 5), (1, 4)] [] (by kernel_rfl) (by kernel_rfl) rfl (fun _ _ _ _ h => h) ?_ ?_
  · (intro ev W hb hR hO hD; have hS := hF W hR; obtain ⟨hb1, hb2, hb3⟩ := hb; simp only [Free.AllDeps, Free.AllOuts, Free.At, al1, al2, al3, al4, al5, and_true] at hO hD; go_simp; refine yields_enter ?_; (with_reducible refine (HCD.out W hS.2.2).mono ?_); rintro e W2 ⟨rfl, hB2⟩; exact ⟨_, rfl, hB2, rfl⟩)
  simp only [an1, an2]
  refine Free.Chain.pr (fun v W => ∃ a val, v = .pointer (some a) ∧ LongIs h xs val ∧ W.cell? a = some (.int .i64 val)) [(1, 4), (3, 6)] [] (by kernel_rfl) (by kernel_rfl) rfl (fun _ _ _ hB ⟨a, val, h1, h2, h3⟩ => ⟨a, val, h1, h2, keepsB hB h3⟩) ?_ ?_
  · (intro ev W hb hR hO hD; have hS := hF W hR; obtain ⟨hb1, hb2, hb3⟩ := hb; simp only [Free.AllDeps, Free.AllOuts, Free.At, al1, al2, al3, al4, al5, and_true] at hO hD; obtain ⟨⟨O, hO, hI⟩, hc⟩ := hD; obtain ⟨pO, cO, hpO, hmO, hcO⟩ := hI; obtain ⟨val, hv1, hv2⟩ := hO.at_ (st_self HW.out); rw [HCN.out, Int.toNat_natCast] at hv1; obtain ⟨hl1, hl2⟩ := List.getElem?_eq_some_iff.1 hv1; obtain ⟨bO, offO, rfl, hcc⟩ := hcO (by intro e9; rw [e9] at hl1; simp at hl1); have hcell := hcc cn hl1; rw [hl2] at hcell; have hl3 : (cn : Int) < (O.length : Int) := (by omega); have hl4 : ¬ ((cn : Int) < 0) := (by omega); go_simp; exact ⟨Free.Bel.refl _, _, rfl, _, hv2, hcell⟩)
  simp only [an1, an2]
  refine Free.Chain.pr (fun v _ => ∃ val, v = .int .i64 val ∧ LongIs h xs val) [(4, 7)] [] (by kernel_rfl) (by kernel_rfl) rfl (fun _ _ _ _ h => h) ?_ ?_
  · (intro ev W hb hR hO hD; have hS := hF W hR; obtain ⟨hb1, hb2, hb3⟩ := hb; simp only [Free.AllDeps, Free.AllOuts, Free.At, al1, al2, al3, al4, al5, and_true] at hO hD; obtain ⟨a, val, ha, hv, hc⟩ := hD; go_simp; exact ⟨Free.Bel.refl _, _, rfl, hv⟩)
  simp only [an1, an2]
  refine Free.Chain.pr (fun v _ => ∃ val, v = .int .i64 val ∧ LongIs h xs val) [(5, 8), (3, 6), (0, 3), (1, 4), (2, 5), (3, 6), (4, 7), (5, 8)] [] (by kernel_rfl) (by kernel_rfl) rfl (fun _ _ _ _ h => h) ?_ ?_
  · (intro ev W hb hR hO hD; have hS := hF W hR; obtain ⟨hb1, hb2, hb3⟩ := hb; simp only [Free.AllDeps, Free.AllOuts, Free.At, al1, al2, al3, al4, al5, and_true] at hO hD; obtain ⟨⟨val, ha, hv⟩, -⟩ := hD; go_simp; exact ⟨Free.Bel.refl _, _, rfl, hv⟩)
  simp only [an1, an2]
  intro zs w9 hR hV
  simp only [Free.AllV, Free.At, List.length_cons, List.length_nil, Nat.reduceAdd, List.getElem?_cons_succ, List.getElem?_cons_zero, true_and, and_true] at hV
  have hB9 := (hF w9 hR).2.2
  obtain ⟨val, hva, hvl⟩ : ∃ val, zs 6 = .int .i64 val ∧ LongIs h xs val := hV.2
  simp only [Free.putsFrom, Act.put, Nat.zero_add, Nat.reduceAdd, hV, hva, List.setIfInBounds_toArray, List.set_cons_succ, List.set_cons_zero]
  clear hV hR hF
  go_wp2_with fail
  go_ret
  exact ⟨⟨val, rfl, hvl⟩, hB9⟩
set_option maxRecDepth 100000 in
set_option maxHeartbeats 16000000 in
theorem firstR_any (h : Int) (xs ys : List Rk) (O : List Int) (t : Int) (d : List Int) (q : List Rk → Bool) (u v : Value) (w : World) (hu : RL ys u w) (hz : NZ u) (hO : IL O v w) (hw : watchB h xs = true) (hy : StOf xs ys) (hlen : O.length = (prodE xs).toNat) (hq : ∀ zs, StOf xs zs → decide (t ≤ O.getD (codeR zs).toNat 0) = q zs) (hd : firstD h q ys = some d) :
    Calls Tryd.prog 78 #[.agg #[.int .i64 h, u], v, .int .i64 t] w fun e w' => (∃ v1 v2, e = .returned (.tuple #[v1, .agg #[.int .i64 h, v2]]) ∧ DayB w.heap.size d v1 w' ∧ w'.ownsRow w.heap.size 47 3 v2 ys.length (cellsR (dayR d ys))) ∧ Below w.heap.size w w' := by
  have HUX := Lib.hid (fun (W : World) (hW : Below w.heap.size w W) => hu.keeps hW)
  have HNZ := Lib.hid hz
  have HW := Lib.hid hw
  have HY := Lib.hid hy
  have HYW : Hid (watchB h ys = true) := watch_st hw hy
  have h4 : ys.length ≤ 4 := (watchB_iff.1 HYW.out).2.1
  have HQ := Lib.hid hq
  have HD := Lib.hid hd
  have HLN := Lib.hid hlen
  obtain ⟨p, cp, rfl, _, _⟩ := hu
  obtain ⟨pO, cO, rfl, _, hpO⟩ := hO
  have HPO := Lib.hid hpO
  clear hz hw hy hq hd hlen hpO
  have hb0 : Free.Bel w ((w.alloc (.cells #[.int .i64 h, .slice p ys.length cp] 24)).alloc (.cells #[.int .i64 0, .slice none 0 0] 24)) := Bel.allocT (belAlloc _ _) _
  have c0 : ((w.alloc (.cells #[.int .i64 h, .slice p ys.length cp] 24)).alloc (.cells #[.int .i64 0, .slice none 0 0] 24)).cell? ⟨w.heap.size, 0, none⟩ = some (.int .i64 h) := by simp [go_sem]
  have c1 : ((w.alloc (.cells #[.int .i64 h, .slice p ys.length cp] 24)).alloc (.cells #[.int .i64 0, .slice none 0 0] 24)).cell? ⟨w.heap.size, 1, none⟩ = some (.slice p ys.length cp) := by simp [go_sem]
  have m1 : ((w.alloc (.cells #[.int .i64 h, .slice p ys.length cp] 24)).alloc (.cells #[.int .i64 0, .slice none 0 0] 24)).heap[w.heap.size + 1]? = some (.cells #[.int .i64 0, .slice none 0 0] 24 (0, 0)) := by
    have := World.alloc_heap_new (w.alloc (.cells #[.int .i64 h, .slice p ys.length cp] 24)) (.cells #[.int .i64 0, .slice none 0 0] 24)
    simpa using this
  have HB0 := Lib.hid hb0
  have HM1 := Lib.hid m1
  go_enter Tryd.func78, Tryd.ntmps78
  go_wp2_with fail
  clear hb0 m1
  generalize ((w.alloc (.cells #[.int .i64 h, .slice p ys.length cp] 24)).alloc (.cells #[.int .i64 0, .slice none 0 0] 24)) = w0 at *
  refine (lists_any h ys _ w0 (HUX.out w0 HB0.out) HYW.out).mono ?_
  rintro e w1 ⟨⟨vl, rfl, hdo⟩, hB1⟩
  have hds : (daysL h ys).length ≤ 64 := daysL_small HYW.out
  have HFD : Hid (firstD h q ys = (daysL h ys).find? fun d => coolB (dayR d ys) && q (dayR d ys)) := rfl
  obtain ⟨DLs, hDLs⟩ : ∃ y, daysL h ys = y := ⟨_, rfl⟩
  rw [hDLs] at hdo hds HFD
  rw [HD.out] at HFD
  obtain ⟨vs, hvl, hvo, hvr⟩ := hdo
  obtain ⟨ql, cl, rfl⟩ := row_slice hvo
  have HVS := Lib.hid (And.intro hvl (And.intro hvo hvr))
  have HB1 := Lib.hid (bt HB0.out hB1)
  have a0 := keepsB hB1 c0
  have a1 := keepsB hB1 c1
  have HM := Lib.hid ((hB1.block _ (lt_of_heap HM1.out)).trans HM1.out)
  have hsz1 : w.heap.size + 1 < w1.heap.size := lt_of_heap HM.out
  clear hB1 c0 c1 hvl hvo hvr hDLs
  go_wp2_with fail
  go_loopw [15] (fun i wr => ∃ k : Nat, k ≤ DLs.length ∧ i = .int .i64 k ∧ Free.Bel w1 wr ∧ ∀ j (hj : j < k) (hj2 : j < DLs.length), (coolB (dayR DLs[j] ys) && q (dayR DLs[j] ys)) = false) (fun i _ => DLs.length - (intOf i).toNat)
  case atStart => exact ⟨0, Nat.zero_le _, rfl, Free.Bel.refl _, fun j hj => absurd hj (by omega)⟩
  case round =>
    obtain ⟨k, hk, rfl, hB, hno⟩ := hrel
    by_cases hlt : k < DLs.length
    · have hkv : k < vs.length := by rw [HVS.out.1]; exact hlt
      obtain ⟨uk, huk⟩ : ∃ y, vs[k]? = some y := ⟨_, List.getElem?_eq_getElem hkv⟩
      have hdr := HVS.out.2.2 k hlt uk huk
      have hrk := hdr
      obtain ⟨pk, ck, rfl⟩ := row_slice hrk
      obtain ⟨g8, rfl⟩ : ∃ g, ql = some ⟨g, 0, none⟩ := by
        rcases HVS.out.2.1.2 with ⟨h9, h8⟩ | ⟨g, cap, cur, h9, _⟩
        · omega
        · cases h9; exact ⟨g, rfl⟩
      have hck := HVS.out.2.1.cells (g := g8) rfl k _ huk
      rw [addE, Nat.zero_add] at hck
      have e1 := keepsB hB hck
      have b0 := keepsB hB a0
      have b1 := keepsB hB a1
      have hklt : (k : Int) < DLs.length := by omega
      have hkw : IntKind.i64.wrap ((k : Int) + 1) = (k : Int) + 1 := IntWalk.i64_in _ (by omega)
      have HBr := Lib.hid (bt HB1.out hB)
      have HB := Lib.hid hB
      have HNO := Lib.hid hno
      have hDRk : Hid (DayB w.heap.size DLs[k] (.slice pk DLs[k].length ck) wr) := row_mono (bel_row hrk hB) (by have := HB0.out.size; omega)
      have hFk : Hid (∀ j (hj : j < k) (hj2 : j < DLs.length), (coolB (dayR DLs[j] ys) && q (dayR DLs[j] ys)) = false) := hno
      have HNX : Hid ((coolB (dayR DLs[k] ys) && q (dayR DLs[k] ys)) = false → ∀ j (hj : j < k + 1) (hj2 : j < DLs.length), (coolB (dayR DLs[j] ys) && q (dayR DLs[j] ys)) = false) := fun h9 j hj hj2 => by
        by_cases e : j = k
        · subst e; exact h9
        · exact hFk.out j (by omega) hj2
      have HYS : Hid ((coolB (dayR DLs[k] ys) && q (dayR DLs[k] ys)) = true → d = DLs[k]) := fun h9 => by
        have h8 : DLs.find? (fun d => coolB (dayR d ys) && q (dayR d ys)) = some DLs[k] := by
          rw [List.find?_eq_some_iff_getElem]
          exact ⟨h9, k, hlt, rfl, fun j hj => by rw [hFk.out j hj (by omega)]; rfl⟩
        have h7 := HFD.out
        rw [h8] at h7
        simpa using h7
      have HDN := Lib.hid (doneR_any h ys DLs[k] _ _ wr (HUX.out wr HBr.out) HNZ.out hDRk.out.il (by omega) (fun x hx => by have := (OkS.of_st HW.out HY.out).2 x hx; omega))
      clear hno hrk hck huk hB hFk HFD
      generalize DLs[k] = dk at *
      obtain ⟨cb, hcb⟩ : ∃ y, coolB (dayR dk ys) = y := ⟨_, rfl⟩
      rw [hcb] at HDN HNX HYS
      have HCB := Lib.hid hcb
      clear hcb
      go_wp2_with fail
      refine HDN.out.mono ?_
      rintro e w6 ⟨⟨v6, rfl, ho6⟩, hB6⟩
      obtain ⟨q6, c6, rfl⟩ := row_slice ho6
      have HO6 := Lib.hid ho6
      have HB6 := Lib.hid hB6
      clear HDN e1 ho6 hB6
      cases cb with
      | false =>
        go_wp2_with fail
        go_roundw
        case rel => exact ⟨k + 1, by omega, by go_num, bt HB.out (bt HB6.out (belAlloc _ _)), HNX.out rfl⟩
        case measure => simp [intOf]; omega
      | true =>
        have HST : Hid (StOf xs (dayR dk ys)) := HY.out.day dk HCB.out
        have K8 : Free.Bel wr (w6.alloc (.cells #[.int .i64 h, .slice q6 ys.length c6] 24)) := bt HB6.out (belAlloc _ _)
        have HX8 : Hid ((w6.alloc (.cells #[.int .i64 h, .slice q6 ys.length c6] 24)).heap[w6.heap.size]? = some (.cells #[.int .i64 h, .slice q6 ys.length c6] 24 (0, 0))) := World.alloc_heap_new _ _
        have HO8 : Hid ((w6.alloc (.cells #[.int .i64 h, .slice q6 ys.length c6] 24)).ownsRow wr.heap.size 47 3 (.slice q6 ys.length c6) ys.length (cellsR (dayR dk ys))) := bel_row HO6.out (belAlloc _ _)
        go_upto_region 5 with fail
        have HK8 := Lib.hid K8
        obtain ⟨g6, hg6⟩ : ∃ x, w6.heap.size = x := ⟨_, rfl⟩
        rw [hg6] at HX8 ⊢
        clear K8 HB6 HO6 hg6
        generalize w6.alloc (.cells #[.int .i64 h, .slice q6 ys.length c6] 24) = w8 at *
        have z0 : w8.cell? ⟨g6, 0, none⟩ = some (.int .i64 h) := cell_of_heap (o := 0) HX8.out rfl
        have z1 : w8.cell? ⟨g6, 1, none⟩ = some (.slice q6 ys.length c6) := cell_of_heap (o := 1) HX8.out rfl
        have hcl := code_lt HST.out
        obtain ⟨cn, hcn⟩ : ∃ n : Nat, codeR (dayR dk ys) = (n : Int) := ⟨(codeR (dayR dk ys)).toNat, by omega⟩
        have HCC := Lib.hid (code_v h (dayR dk ys) (.slice q6 ys.length c6) w8 (RL.of_row (by simp [dayR]) (by unfold maxLen; omega) HO8.out) (OkS.of_st HW.out HST.out))
        rw [hcn] at hcl HCC
        have hcO : cn < O.length := by rw [HLN.out]; omega
        have hqd := HQ.out _ HST.out
        rw [hcn, Int.toNat_natCast, List.getD_eq_getElem?_getD, List.getElem?_eq_getElem hcO, Option.getD_some] at hqd
        obtain ⟨bO, offO, rfl, hco⟩ := HPO.out (by intro e9; rw [e9] at hcO; simp at hcO)
        have hocell := keepsB (bt HBr.out HK8.out) (hco cn hcO)
        have hcO2 : (cn : Int) < (O.length : Int) := by omega
        have hcn0 : ¬ ((cn : Int) < 0) := by omega
        generalize O[cn] = oc at *
        obtain ⟨qb, hqb⟩ : ∃ y, q (dayR dk ys) = y := ⟨_, rfl⟩
        rw [hqb] at hqd HNX HYS
        clear hcl hcn hco hqb
        go_wp2_with fail
        refine HCC.out.mono ?_
        rintro e w7 ⟨rfl, hB7⟩
        have hoc7 := keepsB (show Free.Bel w8 w7 from hB7) hocell
        have HB7 := Lib.hid (show Free.Bel w8 w7 from hB7)
        clear hB7 z0 z1 hocell
        cases qb with
        | false =>
          have hnt : ¬ (t ≤ oc) := of_decide_eq_false hqd
          go_wp2_with fail
          go_roundw
          case rel => exact ⟨k + 1, by omega, by go_num, bt HB.out (bt HK8.out HB7.out), HNX.out rfl⟩
          case measure => simp [intOf]; omega
        | true =>
          have hnt : t ≤ oc := of_decide_eq_true hqd
          have z0 : w7.cell? ⟨g6, 0, none⟩ = some (.int .i64 h) := keepsB HB7.out (cell_of_heap (o := 0) HX8.out rfl)
          have z1 : w7.cell? ⟨g6, 1, none⟩ = some (.slice q6 ys.length c6) := keepsB HB7.out (cell_of_heap (o := 1) HX8.out rfl)
          have K17 : Free.Bel w1 w7 := bt HB.out (bt HK8.out HB7.out)
          have hm7 := (K17.block _ hsz1).trans HM.out
          have HM7 := Lib.hid hm7
          have r0 := cell_of_heap (o := 0) hm7 rfl
          have r1 := cell_of_heap (o := 1) hm7 rfl
          have r2 := frozen_of_heap (o := 0) hm7
          have r3 := frozen_of_heap (o := 1) hm7
          clear hm7 K17
          go_wp2_with fail
          go_region
          go_wp2_with fail
          have hst := two_stores (.int .i64 h) (.slice q6 ys.length c6) r0 r1
          have hsz := HB.out.size
          have hdd : d = dk := HYS.out rfl
          subst hdd
          exact bodyPost_ret (v := .tuple #[.slice pk d.length ck, .agg #[.int .i64 h, .slice q6 ys.length c6]]) (by simp [results, Tryd.results78, go_sem, hst]) rfl ⟨⟨_, _, rfl, hDRk.out.stay fun j c f hj => (by
            have hj7 := ((show Free.Bel wr w7 from bt HK8.out HB7.out).block j (lt_of_heap hj)).trans hj
            have hne : j ≠ w.heap.size + 1 := by rintro rfl; rw [HM7.out] at hj7; cases hj7
            exact heap_other (heap_other hj7 (by simpa using hne)) (by simpa using hne)), (row_mono (ownsRow_setCell_below (ownsRow_setCell_below (bel_row HO8.out HB7.out) (by simp; omega) _) (by simp; omega) _) (by omega)).drew⟩, (((show Below w.heap.size w w7 from bt HB1.out (bt HB.out (bt HK8.out HB7.out))).setCell (by simp) _).setCell (by simp) _).drew⟩
    · obtain rfl : k = DLs.length := by omega
      exfalso
      have h9 := HFD.out
      have h8 : DLs.find? (fun d => coolB (dayR d ys) && q (dayR d ys)) = none := by
        rw [List.find?_eq_none]
        intro x hx
        obtain ⟨j, hj, rfl⟩ := List.getElem_of_mem hx
        rw [hno j hj hj]
        simp
      rw [h8] at h9
      cases h9
end Go.Proofs.YtknpglgpkkhhiaaDoor

/- The reference's Check of a watch. -/
namespace Go.Proofs.YtknpglgpkkhhiaaDoor
set_option linter.unusedSimpArgs false
set_option linter.unusedVariables false
open Go.RowKit
set_option maxRecDepth 100000 in
set_option maxHeartbeats 1000000 in
theorem checkR7_any (h : Int) (xs : List (Int × Int × Int)) (u : Value) (w : World) (hu : RL xs u w) :
    Calls Tryd.prog 37 #[.agg #[.int .i64 h, u]] w fun e w' => e = .returned (.int .i64 (if watchB h xs = true then 0 else 70)) ∧ Below w.heap.size w w' := by
  have hu' := hu
  obtain ⟨p, cp, rfl, _, _⟩ := hu'
  have hB0 : Below w.heap.size w (w.alloc (.cells #[.int .i64 h, .slice p xs.length cp] 24)) := (Below.refl _ w).alloc (Nat.le_refl _) _
  cases hw : watchB h xs
  · have HR := Lib.hid (watchR_v h xs _ _ (hu.keeps hB0) false hw)
    go_enter Tryd.func37, Tryd.ntmps37
    go_wp2_with fail
    refine HR.out.mono ?_
    rintro e w2 ⟨rfl, hB⟩
    go_wp2_with fail
    go_ret
    exact ⟨by simp, hB0.trans (hB.mono (by simp))⟩
  · have HR := Lib.hid (watchR_v h xs _ _ (hu.keeps hB0) true hw)
    go_enter Tryd.func37, Tryd.ntmps37
    go_wp2_with fail
    refine HR.out.mono ?_
    rintro e w2 ⟨rfl, hB⟩
    go_wp2_with fail
    go_ret
    exact ⟨by simp, hB0.trans (hB.mono (by simp))⟩
end Go.Proofs.YtknpglgpkkhhiaaDoor

