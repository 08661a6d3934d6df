/- A region that draws its order in a round: as Free2. No function of the program here. -/
import Derived.Test.YtknpglgpkkhhiaaDoorE4
import Derived.OrdersIn
import Derived.OwnWalkIn
import Derived.RangeFuncCalls
set_option linter.unusedSimpArgs false
set_option linter.unusedVariables false
namespace Go.Proofs.YtknpglgpkkhhiaaDoor.Free2R
open Go Free
open Free2 (XT JT upd upd_same upd_other AllX AllX.of later outs2 wfB2 wf_spec2 later_spec)

def isDefer (o : Oper) : Bool := match o.op with | .defer _ => true | _ => false
theorem wpIn_of_yields {m lr : Nat} {P : Program} {o : Oper} {a : Act} {w : World} {K : Value → World → Prop} {next : Act → World → Prop} {Q : Exit → Act → World → Prop} (hnd : isDefer o = false)
    (h : Free.Yields P K ((execOp a.eval o).run P w)) (hn : ∀ v w', K v w' → next (a.put o.dst v) w') : o.wpIn (Fence.wide.inRound lr) m P a w next Q := by
  refine ⟨fun _ _ => trivial, ?_⟩
  rw [Oper.semAt_eq _ _ _ (fun c hc => by rw [isDefer, hc] at hnd; cases hnd)]
  generalize (execOp a.eval o).run P w = r at h ⊢
  cases r with
  | ok n w' =>
    cases n <;> simp only [Free.Yields] at h <;> simp only [Oper.uponIn]
    · exact hn _ _ h
    · exact hn _ _ h
    · exact ⟨fun h => by simp [Fence.wide, Fence.inRound] at h, CallsIn.inRound lr (callsIn_wide.2 (Calls.mono h fun e w'' ⟨v, he, hk⟩ => by subst he; exact hn _ _ hk))⟩
  | halt x w' => simp only [Free.Yields] at h

def OpOk (P : Program) (R : World → World → Prop) (J : JT) (w0 : World) (a0 : Act) (ops : Array Oper) (i : Nat) (o : Oper) (Vs : List VT) (V : VT) : Prop :=
  ∀ ev w X, Base ev → R w0 w → AllOuts a0 ev (outs2 ops i o) → AllDeps Vs ev w (deps ops o) → J X w → X i = none → AllX X ev (deps ops o) →
    (wantedEv ops o ev = true → Free.Yields P (fun v w' => R w w' ∧ V v w' ∧ J (upd X i v) w') ((execOp ev o).run P w)) ∧ (wantedEv ops o ev = false → V undef w ∧ J (upd X i undef) w)

def Chain (P : Program) (R : World → World → Prop) (J : JT) (w0 : World) (a0 : Act) (ops : Array Oper) (Fin : List VT → Prop) : List Oper → List VT → Prop
  | [], Vs => Fin Vs
  | o :: rest, Vs => ∃ V, Stable R V ∧ OpOk P R J w0 a0 ops Vs.length o Vs V ∧ Chain P R J w0 a0 ops Fin rest (Vs ++ [V])

section
variable {m lr : Nat} {P : Program} {R : World → World → Prop} {J : JT} {w0 : World} {a0 : Act} {ops : Array Oper} {Fin : List VT → Prop}
/-- What the chain gives: a list of what holds of every value. -/
theorem Chain.all : ∀ (rest : List Oper) (Vs : List VT), Chain P R J w0 a0 ops Fin rest Vs →
    (∀ V ∈ Vs, Stable R V) → (∃ Us, Fin (Vs ++ Us) ∧ Us.length = rest.length ∧ (∀ V ∈ Vs ++ Us, Stable R V) ∧
      ∀ i o, rest[i]? = some o → ∃ V, (Vs ++ Us)[Vs.length + i]? = some V ∧ OpOk P R J w0 a0 ops (Vs.length + i) o ((Vs ++ Us).take (Vs.length + i)) V)
  | [], Vs, h, hs => ⟨[], by simpa [Chain] using h, rfl, by simpa using hs, by simp⟩
  | o :: rest, Vs, ⟨V, h1, h2, h3⟩, hs => by
    obtain ⟨Us, g1, g2, g3, g4⟩ := Chain.all rest (Vs ++ [V]) h3 (by
      intro U hU
      rcases List.mem_append.1 hU with hU | hU
      · exact hs U hU
      · simp at hU; subst hU; exact h1)
    refine ⟨V :: Us, by simpa using g1, by simp [g2], by simpa using g3, ?_⟩
    intro i o' hi
    cases i with
    | zero =>
      simp at hi
      subst hi
      refine ⟨V, by simp, ?_⟩
      have : (Vs ++ V :: Us).take (Vs.length + 0) = Vs := by simp
      rw [this]
      simpa using h2
    | succ i =>
      have := g4 i o' (by simpa using hi)
      simp only [List.length_append, List.length_singleton, List.append_assoc, List.singleton_append] at this
      rw [show Vs.length + (i + 1) = Vs.length + 1 + i by omega]
      exact this

structure Inv (R : World → World → Prop) (J : JT) (w0 : World) (a0 : Act) (ops : Array Oper) (Vs : List VT) (X : XT) (listed : Array Bool) (a : Act) (w : World) : Prop where
  hd : a.defers = a0.defers
  hsz : a.tmps.size = a0.tmps.size
  hls : listed.size = ops.size
  hR : R w0 w
  hJ : J X w
  hX : ∀ i, i < ops.size → (listed.getD i true = true ↔ ∃ v, X i = some v)
  hout : ∀ t, (∀ (i : Nat) o, ops[i]? = some o → o.dst = some t → listed.getD i true = false) → a.tmps.getD t undef = a0.tmps.getD t undef
  hcl : ∀ (i : Nat) o, ops[i]? = some o → listed.getD i true = true → ∀ e ∈ o.after, Region.binds .any e = true → listed.getD e.on true = true
  hval : ∀ (i : Nat) o v, ops[i]? = some o → X i = some v → At Vs i v w ∧ ∀ d, o.dst = some d → a.tmps.getD d undef = v
def InvE (R : World → World → Prop) (J : JT) (w0 : World) (a0 : Act) (ops : Array Oper) (Vs : List VT) (listed : Array Bool) (a : Act) (w : World) : Prop := ∃ X, Inv R J w0 a0 ops Vs X listed a w

theorem Inv.step {Vs : List VT} (hnd : ∀ (i : Nat) o, ops[i]? = some o → isDefer o = false) {X : XT} {Q : Exit → Act → World → Prop} (hwf : wfB2 ops a0.tmps.size = true) (hre : ∀ a, R a a) (htr : ∀ a b c, R a b → R b c → R a c)
    (hst : ∀ V ∈ Vs, Stable R V) (hob : ∀ (i : Nat) o, ops[i]? = some o → ∃ V, Vs[i]? = some V ∧ OpOk P R J w0 a0 ops i o (Vs.take i) V)
    {listed : Array Bool} {a : Act} {w : World} (h : Inv R J w0 a0 ops Vs X listed a w) {i : Nat} (hi : i ∈ Region.ready .any ops listed) :
    wpOpIn (Fence.wide.inRound lr) m P ops Q i (InvE R J w0 a0 ops Vs (listed.setIfInBounds i true)) a w := by
  obtain ⟨hun, o, ho, hall⟩ := mem_ready.1 hi
  have hil : i < ops.size := (Array.getElem?_eq_some_iff.1 ho).1
  obtain ⟨hb, hdst⟩ := wf_spec2 hwf ho
  obtain ⟨V, hV, hok⟩ := hob i o ho
  have hXi : X i = none := by
    cases hx : X i with
    | none => rfl
    | some v => have := (h.hX i hil).2 ⟨v, hx⟩; rw [hun] at this; cases this
  have houts : AllOuts a0 a.eval (outs2 ops i o) := AllOuts.of fun t ht => by
    simp only [outs2, List.mem_filter] at ht
    refine h.hout t fun j o' hj hd => ?_
    obtain ⟨e, he, hbe, hei⟩ := later_spec ht.2 hj hd
    cases hl : listed.getD j true with
    | false => rfl
    | true =>
      have := h.hcl j o' hj hl e he hbe
      rw [hei] at this
      rw [hun] at this
      cases this
  have hmem : ∀ p ∈ deps ops o, p.1 < i ∧ ∃ o', ops[p.1]? = some o' ∧ o'.dst = some p.2 ∧ ∃ v, X p.1 = some v := by
    intro p hp
    simp only [deps, List.mem_filterMap] at hp
    obtain ⟨e, he, hp⟩ := hp
    by_cases hbe : Region.binds .any e = true
    · simp only [hbe, if_true, Option.map_eq_some_iff, Option.bind_eq_some_iff] at hp
      obtain ⟨d, ⟨o', ho', hd'⟩, rfl⟩ := hp
      have hel := hall e (by simpa using he) hbe
      have hlt0 : e.on < ops.size := (Array.getElem?_eq_some_iff.1 ho').1
      refine ⟨hb e (by simpa using he) hbe, o', ho', hd', (h.hX e.on hlt0).1 ?_⟩
      have hlt : e.on < listed.size := by rw [h.hls]; exact hlt0
      simpa [hlt] using hel
    · simp [hbe] at hp
  have hdx : AllX X a.eval (deps ops o) := AllX.of fun p hp => by
    obtain ⟨_, o', ho', hd', v, hv⟩ := hmem p hp
    rw [hv]
    exact congrArg some ((h.hval p.1 o' v ho' hv).2 p.2 hd').symm
  have hdeps : AllDeps (Vs.take i) a.eval w (deps ops o) := by
    have hVl : i < Vs.length := (List.getElem?_eq_some_iff.1 hV).1
    have hlen : (Vs.take i).length = i := by simp; omega
    refine AllDeps.of (Us := Vs.drop i) (fun p hp => by rw [hlen]; exact (hmem p hp).1) fun p hp => ?_
    rw [List.take_append_drop]
    obtain ⟨_, o', ho', hd', v, hv⟩ := hmem p hp
    have := h.hval p.1 o' v ho' hv
    show At Vs p.1 (a.tmps.getD p.2 undef) w
    rw [this.2 p.2 hd']
    exact this.1
  obtain ⟨h1, h2⟩ := hok a.eval w X ⟨fun _ => rfl, fun _ => rfl, fun _ => rfl⟩ h.hR houts hdeps h.hJ hXi hdx
  have done : ∀ v w', R w w' → V v w' → J (upd X i v) w' → InvE R J w0 a0 ops Vs (listed.setIfInBounds i true) (a.put o.dst v) w' := by
    intro v w' hr hv hj
    refine ⟨upd X i v, by rw [put_defers, h.hd], by rw [put_size, h.hsz], by simp [h.hls], htr _ _ _ h.hR hr, hj, ?_, ?_, ?_, ?_⟩
    · intro j hjs
      by_cases hji : i = j
      · subst hji
        rw [getD_set_same (by rw [h.hls]; exact hil), upd_same]
        simp
      · rw [getD_set_other hji, upd_other _ _ (Ne.symm hji)]
        exact h.hX j hjs
    · intro t ht
      have ht0 : o.dst ≠ some t := fun e => by
        have := ht i o ho e
        rw [getD_set_same (by rw [h.hls]; exact hil)] at this
        cases this
      have := h.hout t fun j o' hj hd => by
        by_cases hji : i = j
        · subst hji; exact hun
        · have := ht j o' hj hd
          rwa [getD_set_other hji] at this
      rw [← this]
      cases hd : o.dst with
      | none => rfl
      | some d =>
        rw [getD_put, if_neg]
        rintro ⟨rfl, _⟩
        exact ht0 hd
    · intro j o' hj hl e he hbe
      by_cases hei : i = e.on
      · rw [← hei, getD_set_same (by rw [h.hls]; exact hil)]
      · rw [getD_set_other hei]
        by_cases hji : i = j
        · subst hji
          rw [ho] at hj
          cases hj
          have hel := hall e (by simpa using he) hbe
          by_cases hlt : e.on < listed.size
          · simpa [hlt] using hel
          · simp [Array.getD_eq_getD_getElem?, Array.getElem?_eq_none (Nat.le_of_not_lt hlt)]
        · rw [getD_set_other hji] at hl
          exact h.hcl j o' hj hl e he hbe
    · intro j o' u hj hu
      by_cases hji : i = j
      · subst hji
        rw [ho] at hj
        cases hj
        rw [upd_same] at hu
        cases hu
        refine ⟨by unfold At; rw [hV]; exact hv, fun d hd => ?_⟩
        rw [hd, getD_put, if_pos ⟨rfl, by rw [h.hsz]; exact (hdst d hd).1⟩]
      · rw [upd_other _ _ (Ne.symm hji)] at hu
        obtain ⟨h0, h0'⟩ := h.hval j o' u hj hu
        refine ⟨?_, fun d' hd' => ?_⟩
        · unfold At at h0 ⊢
          cases hVj : Vs[j]? with
          | none => trivial
          | some U => rw [hVj] at h0; exact hst U (List.mem_of_getElem? hVj) _ _ _ hr h0
        · rw [← h0' d' hd']
          cases hd : o.dst with
          | none => rfl
          | some d =>
            rw [getD_put, if_neg]
            rintro ⟨rfl, _⟩
            exact hji ((hdst d hd).2 j o' hj hd').symm
  unfold wpOpIn
  simp only [ho]
  rw [← wanted_eq]
  cases hw : wantedEv ops o a.eval with
  | true =>
    simp only [if_true]
    exact wpIn_of_yields (hnd i o ho) (h1 hw) fun v w' ⟨hr, hv, hj⟩ => done v w' hr hv hj
  | false =>
    simp only [Bool.false_eq_true, if_false]
    exact ⟨fun _ _ => trivial, done undef w (hre w) (h2 hw).1 (h2 hw).2⟩

theorem wpAny_of_inv {I : Array Bool → Act → World → Prop} {Q : Exit → Act → World → Prop} (hstep : ∀ listed a w, I listed a w → ∀ i ∈ Region.ready .any ops listed, wpOpIn (Fence.wide.inRound lr) m P ops Q i (I (listed.setIfInBounds i true)) a w)
    (hend : ∀ listed a w, I listed a w → Region.ready .any ops listed = [] → Q .normal a w) :
    ∀ (fuel : Nat) (listed : Array Bool) (a : Act) (w : World), (listed.toList.filter (! ·)).length ≤ fuel → I listed a w → wpAnyIn (Fence.wide.inRound lr) m P .any ops Q fuel listed a w
  | 0, listed, a, w, hf, h => by
    have hr : Region.ready .any ops listed = [] := by
      rw [List.eq_nil_iff_forall_not_mem]
      intro i hi
      have hun := (mem_ready.1 hi).1
      have h0 : (listed.toList.filter (! ·)) = [] := List.length_eq_zero_iff.1 (by omega)
      rcases Nat.lt_or_ge i listed.size with hl | hl
      · have hg : listed[i] = false := by simpa [hl] using hun
        have : false ∈ listed.toList.filter (! ·) := List.mem_filter.2 ⟨by rw [← hg]; simp, rfl⟩
        rw [h0] at this; cases this
      · simp [Array.getElem?_eq_none hl] at hun
    exact ⟨hr, hend _ _ _ h hr⟩
  | fuel + 1, listed, a, w, hf, h => by
    refine ⟨fun hr => hend _ _ _ h hr, fun i hi => wpOpIn_mono (fun a' w' h' => wpAny_of_inv hstep hend fuel _ a' w' ?_ h') (hstep _ _ _ h i hi)⟩
    have hun := (mem_ready.1 hi).1
    have hl : i < listed.size := by
      rcases Nat.lt_or_ge i listed.size with hl | hl
      · exact hl
      · simp [Array.getElem?_eq_none hl] at hun
    have hg : listed[i] = false := by simpa [hl] using hun
    have hg' : listed.toList[i]? = some false := by simp [hl, hg]
    have key : ∀ (l : List Bool) (i : Nat), l[i]? = some false → ((l.set i true).filter (! ·)).length + 1 = (l.filter (! ·)).length := by
      intro l
      induction l with
      | nil => intro i h; simp at h
      | cons x r ih =>
        intro i h
        cases i with
        | zero => simp at h; subst h; simp
        | succ i =>
          have := ih i (by simpa using h)
          cases x <;> simp [List.filter_cons] <;> omega
    have := key listed.toList i hg'
    rw [Array.toList_setIfInBounds]
    omega

/-- What is asked behind the region. -/
def Behind (R : World → World → Prop) (J : JT) (w0 : World) (a0 : Act) (l : List Oper) (Q : Exit → Act → World → Prop) (Vs : List VT) : Prop :=
  ∀ xs w', R w0 w' → AllV Vs xs w' l.length → (∃ X, J X w' ∧ ∀ i, i < l.length → X i = some (xs i)) → Q .normal (putsFrom xs l 0 a0) w'

theorem wp_free {id : Nat} {l : List Oper} {Q : Exit → Act → World → Prop} {w : World} (hm : P.follows .mixedOrders = true) (hdf : (l.all fun o => !isDefer o) = true) (hwf : wfB2 l.toArray a0.tmps.size = true)
    (hre : ∀ a, R a a) (htr : ∀ a b c, R a b → R b c → R a c) (hJ0 : J (fun _ => none) w.drew)
    (h : Chain P R J w.drew a0 l.toArray (Behind R J w.drew a0 l Q) l []) : (Code.region id l.toArray true).wpIn (Fence.wide.inRound lr) m P Q a0 w := by
  obtain ⟨Us, h1, h2, h3, h4⟩ := Chain.all l [] h (by simp)
  simp only [List.nil_append, List.length_nil, Nat.zero_add] at h1 h3 h4
  refine wpIn_region_any hm ?_
  refine wpAny_of_inv (I := InvE R J w.drew a0 l.toArray Us) (fun listed a w' ⟨X, hI⟩ i hi => hI.step (fun i o ho => by have := List.all_eq_true.1 hdf o (List.mem_of_getElem? (by simpa using ho)); simpa using this) hwf hre htr h3 (fun i o ho => h4 i o (by simpa using ho)) hi) ?_ _ _ _ _ (by
    simp [List.filter_replicate]) ⟨fun _ => none, rfl, rfl, by simp, hre _, hJ0, fun i hi => by
      have hi' : i < l.length := by simpa using hi
      simp [hi'], fun _ _ => rfl, fun i o ho hl => (by
      have hil := (Array.getElem?_eq_some_iff.1 ho).1
      have hil' : i < l.length := by simpa using hil
      simp [hil'] at hl), fun i o v ho hv => by cases hv⟩
  rintro listed a w' ⟨X, hI⟩ hr
  have hall : ∀ i, i < l.length → listed.getD i true = true := by
    intro i
    induction i using Nat.strongRecOn with
    | _ i ih =>
      intro hi
      by_cases hl : listed.getD i true = true
      · exact hl
      · exfalso
        have ho : l.toArray[i]? = some l[i] := by simp [hi]
        have hmem : i ∈ Region.ready .any l.toArray listed := by
          refine mem_ready.2 ⟨by simpa using hl, l[i], ho, fun e he hb => ?_⟩
          have hlt := (wf_spec2 hwf ho).1 e he hb
          have := ih e.on hlt (by omega)
          have hs : e.on < listed.size := by rw [hI.hls]; simp; omega
          simpa [hs] using this
        rw [hr] at hmem
        cases hmem
  have hXs : ∀ i, i < l.length → X i = some ((X i).getD undef) := by
    intro i hi
    obtain ⟨v, hv⟩ := (hI.hX i (by simpa using hi)).1 (hall i hi)
    rw [hv]; rfl
  let xs : Nat → Value := fun i => (X i).getD undef
  have hxs : ∀ i (hi : i < l.length), At Us i (xs i) w' ∧ ∀ d, l[i].dst = some d → xs i = a.tmps.getD d undef := by
    intro i hi
    have := hI.hval i l[i] _ (by simp [hi]) (hXs i hi)
    exact ⟨this.1, fun d hd => (this.2 d hd).symm⟩
  have hfin := h1 xs w' hI.hR (AllV.of _ fun i hi => (hxs i hi).1) ⟨X, hI.hJ, hXs⟩
  have huniq : ∀ (i j : Nat) (o o' : Oper) d, l[i]? = some o → l[j]? = some o' → o.dst = some d → o'.dst = some d → i = j := by
    intro i j o o' d h1 h2 h3 h4
    exact (((wf_spec2 hwf (i := i) (o := o) (by simpa using h1)).2 d h3).2 j o' (by simpa using h2) h4).symm
  have ha : a = putsFrom xs l 0 a0 := by
    have htm : a.tmps = (putsFrom xs l 0 a0).tmps := by
      refine Array.ext_getElem? fun t => ?_
      by_cases ht : t < a0.tmps.size
      · have e1 := putsFrom_getD xs l 0 a0 t ht huniq
        have key : a.tmps.getD t undef = (putsFrom xs l 0 a0).tmps.getD t undef := by
          rw [e1]
          cases hf : l.findIdx? (fun o => o.dst == some t) with
          | some i =>
            obtain ⟨hi, hp, _⟩ := List.findIdx?_eq_some_iff_getElem.1 hf
            have := (hxs i hi).2 t (by simpa using hp)
            simp [this]
          | none =>
            rw [List.findIdx?_eq_none_iff] at hf
            refine hI.hout t fun i o ho hd => ?_
            have := hf o (List.mem_of_getElem? (by simpa using ho))
            simp [hd] at this
        have s1 : t < a.tmps.size := by rw [hI.hsz]; exact ht
        have s2 : t < (putsFrom xs l 0 a0).tmps.size := by rw [putsFrom_size]; exact ht
        simpa [s1, s2] using key
      · rw [Array.getElem?_eq_none (by rw [hI.hsz]; omega), Array.getElem?_eq_none (by rw [putsFrom_size]; omega)]
    have hdf : a.defers = (putsFrom xs l 0 a0).defers := by rw [putsFrom_defers, hI.hd]
    cases a
    simp only at htm hdf
    rw [htm, hdf]
  rw [ha]
  exact hfin

/-- One value, in whatever world; J does not look at this operation. -/
theorem Chain.ex {o : Oper} {rest : List Oper} {Vs : List VT} (c : Value) (n : Nat) (hn : Vs.length = n) (D : List (Nat × Tmp)) (T : List Tmp) (hD : deps ops o = D) (hT : outs2 ops n o = T) (hg : o.guard = none) (hre : ∀ a, R a a)
    (hJ : ∀ X W v, J X W → J (upd X Vs.length v) W)
    (hrun : ∀ ev W, Base ev → R w0 W → AllOuts a0 ev T → AllDeps Vs ev W D → (execOp ev o).run P W = .ok (.value c) W)
    (h : Chain P R J w0 a0 ops Fin rest (Vs ++ [fun v _ => v = c])) : Chain P R J w0 a0 ops Fin (o :: rest) Vs :=
  ⟨_, fun _ _ _ _ h => h, fun ev W X hb hR hO hDs hj hx hax => by
    subst hn hD hT
    refine ⟨fun _ => ?_, fun hw => by rw [wantedEv_none hg] at hw; cases hw⟩
    rw [hrun ev W hb hR hO hDs]
    exact ⟨hre W, rfl, hJ X W c hj⟩, h⟩
/-- A value of which something holds; J is told anew. -/
theorem Chain.pr {o : Oper} {rest : List Oper} {Vs : List VT} (V : VT) (n : Nat) (hn : Vs.length = n) (D : List (Nat × Tmp)) (T : List Tmp) (hD : deps ops o = D) (hT : outs2 ops n o = T) (hg : o.guard = none) (hs : Stable R V)
    (hrun : ∀ ev W X, Base ev → R w0 W → AllOuts a0 ev T → AllDeps Vs ev W D → J X W → X Vs.length = none → AllX X ev D → Free.Yields P (fun v W' => R W W' ∧ V v W' ∧ J (upd X Vs.length v) W') ((execOp ev o).run P W))
    (h : Chain P R J w0 a0 ops Fin rest (Vs ++ [V])) : Chain P R J w0 a0 ops Fin (o :: rest) Vs :=
  ⟨_, hs, fun ev W X hb hR hO hDs hj hx hax => by
    subst hn hD hT
    exact ⟨fun _ => hrun ev W X hb hR hO hDs hj hx hax, fun hw => by rw [wantedEv_none hg] at hw; cases hw⟩, h⟩
end
end Go.Proofs.YtknpglgpkkhhiaaDoor.Free2R

/- The lead and the round. -/
namespace Go.Proofs.YtknpglgpkkhhiaaDoor
set_option linter.unusedSimpArgs false
set_option linter.unusedVariables false
open Go.RowKit Go.Proofs.YtknpglgpkkhhiaaDoor.Free2 Go.Proofs.YtknpglgpkkhhiaaDoor.ML RR
attribute [local go_sem] Oper.semAt_some

theorem bel_same {W : World} {b : Nat} {v : Value} {t : TypeId} {f : Nat × Nat} (h : W.heap[b]? = some (.cells #[v] t f)) : Free.Bel W (W.setCell ⟨b, 0, none⟩ v) :=
  ⟨rfl, rfl, rfl, by simp, fun k hk => by
    by_cases e : k = b
    · subst e
      have := heap_setCell_same (o := 0) v h
      rw [this, h]
      simp
    · exact Below.heap_setCell _ _ _ _ (by simpa using e)⟩
/-- Several blocks, each stored once, by an operation of its own. -/
def JHL (L : List (Nat × Nat × Obj × Obj)) (X : XT) (W : World) : Prop := ∀ e ∈ L, (X e.1 = none → W.heap[e.2.1]? = some e.2.2.1) ∧ (X e.1 ≠ none → W.heap[e.2.1]? = some e.2.2.2)
theorem JHL.start {L : List (Nat × Nat × Obj × Obj)} {W : World} (h : ∀ e ∈ L, W.heap[e.2.1]? = some e.2.2.1) : JHL L (fun _ => none) W := fun e he => ⟨fun _ => h e he, fun h => absurd rfl h⟩
theorem JHL.skip {L : List (Nat × Nat × Obj × Obj)} {X : XT} {W : World} (h : JHL L X W) (n : Nat) (v : Value) (hn : ∀ e ∈ L, e.1 ≠ n) : JHL L (upd X n v) W := fun e he => by rw [upd_other _ _ (hn e he)]; exact h e he
theorem JHL.put {L : List (Nat × Nat × Obj × Obj)} {X : XT} {W W' : World} (h : JHL L X W) (e0 : Nat × Nat × Obj × Obj) (v : Value) (hd : ∀ e ∈ L, e = e0 ∨ (e.1 ≠ e0.1 ∧ e.2.1 ≠ e0.2.1)) (hb : W'.heap[e0.2.1]? = some e0.2.2.2) (ho : ∀ k, k ≠ e0.2.1 → W'.heap[k]? = W.heap[k]?) : JHL L (upd X e0.1 v) W' := fun e he => by
  rcases hd e he with rfl | ⟨h1, h2⟩
  · rw [upd_same]
    exact ⟨fun h => (by cases h), fun _ => hb⟩
  · rw [upd_other _ _ h1, ho _ h2]
    exact h e he
/-- All blocks but some stay. -/
structure RX (s0 : Nat) (bs : List Nat) (a b : World) : Prop where
  os : b.os = a.os
  tape : b.tape = a.tape
  output : b.output = a.output
  size : a.heap.size ≤ b.heap.size
  block : ∀ k, k < s0 → k ∉ bs → b.heap[k]? = a.heap[k]?
theorem RX.refl (s0 : Nat) (bs : List Nat) (a : World) : RX s0 bs a a := ⟨rfl, rfl, rfl, Nat.le_refl _, fun _ _ _ => rfl⟩
theorem RX.trans {s0 : Nat} {bs : List Nat} (a b c : World) (h : RX s0 bs a b) (k : RX s0 bs b c) : RX s0 bs a c := ⟨k.os.trans h.os, k.tape.trans h.tape, k.output.trans h.output, Nat.le_trans h.size k.size, fun i h1 h2 => (k.block i h1 h2).trans (h.block i h1 h2)⟩
theorem RX.set {s0 b o : Nat} {bs : List Nat} {a : World} {v : Value} (hb : b ∈ bs) : RX s0 bs a (a.setCell ⟨b, o, none⟩ v) := ⟨rfl, rfl, rfl, by simp, fun k _ h2 => Below.heap_setCell _ _ _ _ (by rintro rfl; exact h2 hb)⟩
theorem RX.cell {s0 : Nat} {bs : List Nat} {a b : World} (h : RX s0 bs a b) {p : Addr} {v : Value} (hv : a.cell? p = some v) (hs : p.block < s0) (hb : p.block ∉ bs) : b.cell? p = some v := (World.cell?_of_block (h.block _ hs hb)).trans hv
set_option maxRecDepth 100000 in
set_option maxHeartbeats 16000000 in
theorem round_a (h : Int) (xs : List Rk) (u : Value) (w : World) (hT : TabR w) (hu : RL xs u w) (c : Int) (hc : Hid (goE h xs = c)) (hc0 : c ≠ 0) :
    Calls Tryd.prog 41 #[.agg #[.int .i64 h, u]] w fun e w' => e = .returned (.tuple #[.slice none 0 0, .slice none 0 0, .int .i64 c]) ∧ Below w.heap.size w w' := by
  have HU := Lib.hid hu
  obtain ⟨p, cp, rfl, _, _⟩ := hu
  have KB : Free.Bel w ((((w.alloc (.cells #[.int .i64 h, .slice p xs.length cp] 24)).alloc (.cells #[.slice none 0 0] 25)).alloc (.cells #[.slice none 0 0] 25)).alloc (.cells #[.int .i64 0] 31)) := bt (bt (bt (belAlloc _ _) (belAlloc _ _)) (belAlloc _ _)) (belAlloc _ _)
  have m0 : ((((w.alloc (.cells #[.int .i64 h, .slice p xs.length cp] 24)).alloc (.cells #[.slice none 0 0] 25)).alloc (.cells #[.slice none 0 0] 25)).alloc (.cells #[.int .i64 0] 31)).heap[w.heap.size]? = some (.cells #[.int .i64 h, .slice p xs.length cp] 24 (0, 0)) := heap_old (heap_old (heap_old (World.alloc_heap_new w _)))
  have m1 : ((((w.alloc (.cells #[.int .i64 h, .slice p xs.length cp] 24)).alloc (.cells #[.slice none 0 0] 25)).alloc (.cells #[.slice none 0 0] 25)).alloc (.cells #[.int .i64 0] 31)).heap[w.heap.size + 1]? = some (.cells #[.slice none 0 0] 25 (0, 0)) := heap_old (heap_old (by
    have := World.alloc_heap_new (w.alloc (.cells #[.int .i64 h, .slice p xs.length cp] 24)) (.cells #[.slice none 0 0] 25)
    simpa using this))
  have m2 : ((((w.alloc (.cells #[.int .i64 h, .slice p xs.length cp] 24)).alloc (.cells #[.slice none 0 0] 25)).alloc (.cells #[.slice none 0 0] 25)).alloc (.cells #[.int .i64 0] 31)).heap[w.heap.size + 1 + 1]? = some (.cells #[.slice none 0 0] 25 (0, 0)) := heap_old (by
    have := World.alloc_heap_new ((w.alloc (.cells #[.int .i64 h, .slice p xs.length cp] 24)).alloc (.cells #[.slice none 0 0] 25)) (.cells #[.slice none 0 0] 25)
    simpa using this)
  have m3 : ((((w.alloc (.cells #[.int .i64 h, .slice p xs.length cp] 24)).alloc (.cells #[.slice none 0 0] 25)).alloc (.cells #[.slice none 0 0] 25)).alloc (.cells #[.int .i64 0] 31)).heap[w.heap.size + 1 + 1 + 1]? = some (.cells #[.int .i64 0] 31 (0, 0)) := by
    have := World.alloc_heap_new (((w.alloc (.cells #[.int .i64 h, .slice p xs.length cp] 24)).alloc (.cells #[.slice none 0 0] 25)).alloc (.cells #[.slice none 0 0] 25)) (.cells #[.int .i64 0] 31)
    simpa using this
  have FA : ∀ W, Free.Bel ((((w.alloc (.cells #[.int .i64 h, .slice p xs.length cp] 24)).alloc (.cells #[.slice none 0 0] 25)).alloc (.cells #[.slice none 0 0] 25)).alloc (.cells #[.int .i64 0] 31)) W → W.cell? ⟨w.heap.size, 0, none⟩ = some (.int .i64 h) ∧ W.cell? ⟨w.heap.size, 1, none⟩ = some (.slice p xs.length cp) := fun W hW => ⟨keepsB hW (cell_of_heap m0 rfl), keepsB hW (cell_of_heap m0 rfl)⟩
  have KE : Free.Bel ((((w.alloc (.cells #[.int .i64 h, .slice p xs.length cp] 24)).alloc (.cells #[.slice none 0 0] 25)).alloc (.cells #[.slice none 0 0] 25)).alloc (.cells #[.int .i64 0] 31)) ((((w.alloc (.cells #[.int .i64 h, .slice p xs.length cp] 24)).alloc (.cells #[.slice none 0 0] 25)).alloc (.cells #[.slice none 0 0] 25)).alloc (.cells #[.int .i64 0] 31)) := Free.Bel.refl _
  have HGO := Lib.hid (going_v h xs _ ((((w.alloc (.cells #[.int .i64 h, .slice p xs.length cp] 24)).alloc (.cells #[.slice none 0 0] 25)).alloc (.cells #[.slice none 0 0] 25)).alloc (.cells #[.int .i64 0] 31)) (hT.bel KB) (HU.out.keeps KB) c hc)
  have HKB := Lib.hid (And.intro KB (And.intro m1 (And.intro m2 m3)))
  have HC0 := Lib.hid hc0
  clear hT m0 m1 m2 m3 hc hc0
  go_enter Tryd.func41, Tryd.ntmps41
  go_wp2_with fail
  refine HGO.out.mono ?_
  rintro e w1 ⟨hG, hB1⟩
  obtain rfl : e = .returned (.tuple #[.pointer none, .int .i64 c]) := by
    rcases hG with ⟨_, h9⟩ | ⟨h9, _⟩
    · exact h9
    · exact absurd h9 HC0.out
  have g0 : (c != 0) = true := by simp [HC0.out]
  have K1 : Free.Bel ((((w.alloc (.cells #[.int .i64 h, .slice p xs.length cp] 24)).alloc (.cells #[.slice none 0 0] 25)).alloc (.cells #[.slice none 0 0] 25)).alloc (.cells #[.int .i64 0] 31)) w1 := hB1
  have n1 := (K1.block _ (lt_of_heap HKB.out.2.1)).trans HKB.out.2.1
  have n2 := (K1.block _ (lt_of_heap HKB.out.2.2.1)).trans HKB.out.2.2.1
  have n3 := (K1.block _ (lt_of_heap HKB.out.2.2.2)).trans HKB.out.2.2.2
  have y0 := cell_of_heap (o := 0) n3 rfl
  have y1 := frozen_of_heap (o := 0) n3
  have hs1 : w.heap.size + 4 ≤ w1.heap.size := by have := K1.size; simp at this; omega
  have HN := Lib.hid (And.intro n1 (And.intro n2 (And.intro n3 (And.intro K1 hs1))))
  clear hG hB1 n1 n2 n3 KE FA K1 KB hs1
  go_wp2_with fail
  refine with_world ?_
  intro w2 hw2
  have HF : Hid (∀ W, Free.Bel w2.drew W → W.heap[w.heap.size + 1]? = some (.cells #[.slice none 0 0] 25 (0, 0)) ∧ W.heap[w.heap.size + 1 + 1]? = some (.cells #[.slice none 0 0] 25 (0, 0)) ∧ W.heap[w.heap.size + 1 + 1 + 1]? = some (.cells #[.int .i64 c] 31 (0, 0)) ∧ Below w.heap.size w W) := fun W hW => by
    obtain ⟨n1, n2, n3, K1, hs1⟩ := HN.out
    have q1 : w2.heap[w.heap.size + 1]? = some (.cells #[.slice none 0 0] 25 (0, 0)) := by rw [hw2]; exact heap_other n1 (by simp)
    have q2 : w2.heap[w.heap.size + 1 + 1]? = some (.cells #[.slice none 0 0] 25 (0, 0)) := by rw [hw2]; exact heap_other n2 (by simp)
    have q3 : w2.heap[w.heap.size + 1 + 1 + 1]? = some (.cells #[.int .i64 c] 31 (0, 0)) := by rw [hw2]; have := heap_setCell_same (o := 0) (.int .i64 c) n3; simpa using this
    have q4 : Below w.heap.size w w2 := by rw [hw2]; exact (Below.trans (show Below w.heap.size w _ from HKB.out.1) (Below.mono K1 HKB.out.1.size)).setCell (by simp; omega) _
    have hd : Free.Bel w2 W := bt (Bel.drewT (Free.Bel.refl _)) hW
    exact ⟨(hd.block _ (lt_of_heap q1)).trans q1, (hd.block _ (lt_of_heap q2)).trans q2, (hd.block _ (lt_of_heap q3)).trans q3, q4.trans (Below.mono hd q4.size)⟩
  clear hw2 y0 y1
  have hF : ∀ W, Free.Bel w2.drew W → (W.cell? ⟨w.heap.size + 1, 0, none⟩ = some (.slice none 0 0) ∧ W.cell? ⟨w.heap.size + 1 + 1, 0, none⟩ = some (.slice none 0 0) ∧ W.cell? ⟨w.heap.size + 1 + 1 + 1, 0, none⟩ = some (.int .i64 c)) ∧ (W.frozen? ⟨w.heap.size + 1, 0, none⟩ = false ∧ W.frozen? ⟨w.heap.size + 1 + 1, 0, none⟩ = false ∧ W.frozen? ⟨w.heap.size + 1 + 1 + 1, 0, none⟩ = false) := fun W hW => by
    obtain ⟨q1, q2, q3, _⟩ := HF.out W hW
    exact ⟨⟨cell_of_heap q1 rfl, cell_of_heap q2 rfl, cell_of_heap q3 rfl⟩, frozen_of_heap q1, frozen_of_heap q2, frozen_of_heap q3⟩
  refine Free.wp_free (R := Free.Bel) (by kernel_rfl) (by kernel_rfl) Free.Bel.refl Free.Bel.trans ?_
  refine Free.Chain.ex ?_ [] [4] (by kernel_rfl) (by kernel_rfl) rfl Free.Bel.refl ?_ ?_
  rotate_left
  · (intro ev W hb hR hO hD; have hS := hF W hR; obtain ⟨hb1, hb2, hb3⟩ := hb; simp only [Free.AllDeps, Free.AllOuts, Free.At, al1, al2, al3, al4, al5, and_true] at hO hD; go_simp; rfl)
  simp only [an1, an2]
  refine Free.Chain.pr (fun _ _ => True) [] [2] (by kernel_rfl) (by kernel_rfl) rfl (fun _ _ _ _ h => h) ?_ ?_
  · (intro ev W hb hR hO hD; have hS := hF W hR; obtain ⟨hb1, hb2, hb3⟩ := hb; simp only [Free.AllDeps, Free.AllOuts, Free.At, al1, al2, al3, al4, al5, and_true] at hO hD; have hq := HF.out W hR; go_simp; exact bel_same hq.1)
  simp only [an1, an2]
  refine Free.Chain.pr (fun _ _ => True) [] [3] (by kernel_rfl) (by kernel_rfl) rfl (fun _ _ _ _ h => h) ?_ ?_
  · (intro ev W hb hR hO hD; have hS := hF W hR; obtain ⟨hb1, hb2, hb3⟩ := hb; simp only [Free.AllDeps, Free.AllOuts, Free.At, al1, al2, al3, al4, al5, and_true] at hO hD; have hq := HF.out W hR; go_simp; exact bel_same hq.2.1)
  simp only [an1, an2]
  refine Free.Chain.pr (fun _ _ => True) [(0, 19), (0, 19)] [4] (by kernel_rfl) (by kernel_rfl) rfl (fun _ _ _ _ h => h) ?_ ?_
  · (intro ev W hb hR hO hD; have hS := hF W hR; obtain ⟨hb1, hb2, hb3⟩ := hb; simp only [Free.AllDeps, Free.AllOuts, Free.At, al1, al2, al3, al4, al5, and_true] at hO hD; have hq := HF.out W hR; go_simp; exact bel_same hq.2.2.1)
  simp only [an1, an2]
  intro ys w3 hR hV
  simp only [Free.AllV, Free.At, List.length_cons, List.length_nil, Nat.reduceAdd, List.getElem?_cons_succ, List.getElem?_cons_zero, true_and, and_true] at hV
  simp only [Free.putsFrom, Act.put, Nat.zero_add, Nat.reduceAdd, hV, List.setIfInBounds_toArray, List.set_cons_succ, List.set_cons_zero]
  obtain ⟨⟨q1, q2, q3⟩, _⟩ := hF w3 hR
  have HB := Lib.hid (HF.out w3 hR).2.2.2
  clear hR hV hF
  go_wp2_with fail
  exact bodyPost_ret (v := .tuple #[.slice none 0 0, .slice none 0 0, .int .i64 c]) (by simp [results, Tryd.results41, go_sem, q1, q2, q3]) rfl ⟨rfl, HB.out⟩
end Go.Proofs.YtknpglgpkkhhiaaDoor

/- What settle tells: the states that are good for 0 days, 1 day and so on, in a row of maps. -/
namespace Go.Proofs.YtknpglgpkkhhiaaDoor
set_option linter.unusedSimpArgs false
set_option linter.unusedVariables false
open Go.RowKit Go.Proofs.YtknpglgpkkhhiaaDoor.Free2 Go.Proofs.YtknpglgpkkhhiaaDoor.ML RR

abbrev mapV (g : Nat) : Value := .map (some g)
theorem T.infoMT : (Tryd.prog.info? 139).map (fun i => (i.zero, i.size, i.bytes)) = some (some (.map none), 1, 8) := by kernel_rfl
theorem RX.of_grown {s0 g : Nat} {bs : List Nat} {a b : World} (h : a.grownBy b (some g)) (hg : s0 ≤ g ∨ g ∈ bs) (hs : s0 ≤ a.heap.size) : RX s0 bs a b :=
  ⟨h.os, h.tape, h.output, h.size, fun k hk hn => h.block k (by omega) (fun e => by
    cases e
    rcases hg with h1 | h1
    · omega
    · exact hn h1)⟩
theorem RX.of_bel {s0 : Nat} {bs : List Nat} {a b : World} (h : Free.Bel a b) (hs : s0 ≤ a.heap.size) : RX s0 bs a b := ⟨h.os, h.tape, h.output, h.size, fun k hk _ => h.block k (by omega)⟩
/-- A row of maps: the states that are good for 0 days, 1 day and so on. -/
structure TellI (lb base : Nat) (h : Int) (xs : List Rk) (n : Nat) (gs : List Nat) (v : Value) (W : World) : Prop where
  box : W.heap[lb]? = some (.cells #[v] 137 (0, 0))
  len : gs.length = n
  row : W.ownsRow base 139 1 v n (gs.map mapV)
  maps : ∀ (i : Nat) (hi : i < gs.length), base ≤ gs[i] ∧ ∃ L, GoodIs h xs i L ∧ MapIs quadV gs[i] (setK L) W
theorem TellI.rx {lb base s0 gb n1 : Nat} {h : Int} {xs : List Rk} {n : Nat} {gs : List Nat} {v : Value} {A B : World} (H : TellI lb base h xs n gs v A) (hR : RX s0 [gb, n1] A B) (hs : s0 = A.heap.size) (h1 : gb < base) (h2 : n1 < base) (h3 : lb ≠ gb) (h4 : lb ≠ n1) : TellI lb base h xs n gs v B := by
  subst hs
  refine ⟨(hR.block _ (lt_of_heap H.box) (by simp; exact ⟨h3, h4⟩)).trans H.box, H.len, row_block H.row fun k hk hl => hR.block k hl ?_, fun i hi => ?_⟩
  · rcases H.row.2 with ⟨rfl, _⟩ | ⟨g, cap, cur, rfl, hb, _⟩
    · simp [Value.ownBlock] at hk
    · simp [Value.ownBlock] at hk
      simp; omega
  · obtain ⟨hb, L, hL, hM⟩ := H.maps i hi
    exact ⟨hb, L, hL, hM.of_block (hR.block _ hM.lt (by simp; omega))⟩
theorem TellI.bel {lb base : Nat} {h : Int} {xs : List Rk} {n : Nat} {gs : List Nat} {v : Value} {A B : World} (H : TellI lb base h xs n gs v A) (hB : Free.Bel A B) : TellI lb base h xs n gs v B :=
  ⟨(hB.block _ (lt_of_heap H.box)).trans H.box, H.len, bel_row H.row hB, fun i hi => let ⟨hb, L, hL, hM⟩ := H.maps i hi; ⟨hb, L, hL, hM.bel hB⟩⟩
theorem box_grownM {base n lb : Nat} {v : Value} {vs : List Value} {W W' : World} {o : Obj} {q : Obj} (hl : W.heap[lb]? = some q) (how : W.ownsRow base 139 1 v n vs) (hlb : lb < base) (hg : World.grownBy (W.alloc o) W' v.ownBlock) : W'.heap[lb]? = some q := by
  refine heap_grown (heap_old hl) hg fun e => ?_
  rcases how.2 with ⟨h9, _⟩ | ⟨g, cap, cur, h9, hb9, hg2, _⟩
  · rw [h9] at e; simp [Value.ownBlock] at e
  · rw [h9] at e
    simp [Value.ownBlock] at e
    omega
theorem keepM {base n : Nat} {v : Value} {vs : List Value} {W W' : World} {o : Obj} (how : W.ownsRow base 139 1 v n vs) (hg : World.grownBy (W.alloc o) W' v.ownBlock) : ∀ (k : Nat) (q : Obj), W.heap[k]? = some q → (∀ c f, q ≠ .cells c 139 f) → W'.heap[k]? = some q := fun k q hk ho => heap_grown (heap_old hk) hg (fun e => by
  rcases how.2 with ⟨h9, _⟩ | ⟨g2, cap, cur, h9, hb9, hg2, _⟩
  · rw [h9] at e; simp [Value.ownBlock] at e
  · rw [h9] at e
    simp [Value.ownBlock] at e
    subst e
    rw [hk] at hg2
    cases hg2
    exact ho _ _ rfl)
set_option maxRecDepth 100000 in
set_option maxHeartbeats 4000000 in
theorem tell1_any (lb base g n : Nat) (h : Int) (xs : List Rk) (gs : List Nat) (v : Value) (L : List Q4) (W : World) (H : TellI lb base h xs n gs v W) (hL : GoodIs h xs n L) (hM : MapIs quadV g (setK L) W) (hg : base ≤ g) (hb : base ≤ W.heap.size) (hlb : lb < base) (hn : n ≤ 10000) :
    Calls Tryd.prog 91 #[.map (some g), .pointer (some ⟨lb, 0, none⟩)] W fun e w' => (∃ x, e = .returned x) ∧ ∃ v', TellI lb base h xs (n + 1) (gs ++ [g]) v' w' ∧ (∀ (k : Nat) (o : Obj), W.heap[k]? = some o → k ≠ lb → (∀ c f, o ≠ .cells c 139 f) → w'.heap[k]? = some o) ∧ RX base [lb] W w' := by
  have HH := Lib.hid H
  have z0 := cell_of_heap (o := 0) H.box rfl
  have how := H.row
  obtain ⟨pv, cv, rfl⟩ := row_slice how
  obtain ⟨i0, hi0, hz0, hz1, hz2⟩ := info_parts Go.Proofs.YtknpglgpkkhhiaaDoor.T.infoMT
  have HZ := Lib.hid (And.intro hi0 (And.intro hz0 (And.intro hz1 hz2)))
  have HB := Lib.hid (And.intro hL (And.intro hM (And.intro hg (And.intro hb hlb))))
  clear hi0 hz0 hz1 hz2 H hL hM hg
  go_enter Tryd.func91, Tryd.ntmps91
  go_wp2_with (first | (at_builtin; go_loud (refine wpList_append_own _ rfl _ _ 137 rfl base 139 i0 (.map none) 1 8 Tryd.underlying137 HZ.out.1 HZ.out.2.1 HZ.out.2.2.1 HZ.out.2.2.2 rfl (by decide) _ _ _ rfl (how.alloc _) ⟨W.heap.size, 0, none⟩ 1 1 [mapV g] rfl rfl (cell_one_new _ _ _) (fun x hx => by simp at hx; subst hx; rfl) (by unfold maxLen; omega) (by omega) (by simp; omega) ?_); intro v9 w9 hown9 hgrow9 hnil9; obtain ⟨q9, c9, rfl⟩ := row_slice hown9; have hbx := box_grownM HH.out.box how hlb hgrow9; have y0 := cell_of_heap (o := 0) hbx rfl; have y1 := frozen_of_heap (o := 0) hbx; have HG := Lib.hid (And.intro hown9 (And.intro hgrow9 hbx)); clear hown9 hgrow9 hnil9 hbx z0) | fail)
  go_end0
  obtain ⟨hown9, hgrow9, hbx⟩ := HG.out
  obtain ⟨hL, hM, hg, hb, hlb⟩ := HB.out
  have key := keepM how hgrow9
  have key2 : ∀ (k : Nat) (o : Obj), W.heap[k]? = some o → k ≠ lb → (∀ c f, o ≠ .cells c 139 f) → (w9.setCell ⟨lb, 0, none⟩ (.slice q9 (n + 1) c9)).heap[k]? = some o := fun k o hk hne ho => heap_other (key k o hk ho) (by simpa using hne)
  have hmp : ∀ {g : Nat} {L : List Q4}, MapIs quadV g (setK L) W → MapIs quadV g (setK L) (w9.setCell ⟨lb, 0, none⟩ (.slice q9 (n + 1) c9)) := fun {g L} hm => hm.of_block (by
    obtain ⟨o, h1, h2⟩ := hm.obj
    rw [h1]
    exact key2 g o h1 (fun e => by subst e; rw [HH.out.box] at h1; cases h1; cases h2) (fun c f e => by subst e; cases h2))
  refine ⟨⟨_, rfl⟩, .slice q9 (n + 1) c9, ⟨?_, by simp [HH.out.len], ?_, fun i hi => ?_⟩, key2, ?_⟩
  · have := heap_setCell_same (o := 0) (.slice q9 (n + 1) c9) hbx
    simpa using this
  · rw [List.map_append]
    exact row_block hown9 fun k hk _ => heap_setCell_other (by
      rintro rfl
      exact off_base hown9 hlb hk)
  · by_cases h9 : i < gs.length
    · rw [List.getElem_append_left h9]
      obtain ⟨hb9, L9, hL9, hM9⟩ := HH.out.maps i h9
      exact ⟨hb9, L9, hL9, hmp hM9⟩
    · have e : i = gs.length := by simp at hi; omega
      subst e
      rw [List.getElem_append_right (Nat.le_refl _)]
      simp only [Nat.sub_self, List.getElem_cons_zero]
      exact ⟨hg, L, by rw [HH.out.len]; exact hL, hmp hM⟩
  · have h1 : Below base W w9 := ((Below.refl _ W).alloc hb _).trans (grown_belR (how.alloc _) hgrow9 (by simp; omega))
    exact ⟨h1.os, h1.tape, h1.output, by have := h1.size; simpa using this, fun k hk hn => (heap_setCell_other (by simpa using hn)).trans (h1.block k hk)⟩
end Go.Proofs.YtknpglgpkkhhiaaDoor

/- What goes out of the states that are good: settle, where they are told. -/
namespace Go.Proofs.YtknpglgpkkhhiaaDoor
set_option linter.unusedSimpArgs false
set_option linter.unusedVariables false
open Go.RowKit Go.Proofs.YtknpglgpkkhhiaaDoor.Free2 Go.Proofs.YtknpglgpkkhhiaaDoor.ML RR

def SettleTPost (gb lb base : Nat) (h : Int) (xs : List Rk) (w0 : World) (e : Ending) (w' : World) : Prop := (∃ x, e = .returned x) ∧ ∃ (K : Nat) (gs : List Nat) (v : Value) (L : List Q4), K ≤ 1296 ∧ EverIs h xs L ∧ MapIs quadV gb (setK L) w' ∧ w0.grownBy w' (some gb) ∧ TellI lb base h xs (K + 1) gs v w' ∧ (∀ ys, StOf xs ys → goodN h K ys = true → goodN h (K + 1) ys = true)
def Inv0T (gb n1 lb T : Nat) (h : Int) (xs : List Rk) (w0 : World) (wr : World) : Prop :=
  ∃ (k : Nat) (L : List Q4) (gs : List Nat) (v : Value), GoodIs h xs k L ∧ MapIs quadV gb (setK L) wr ∧ w0.grownBy wr (some gb) ∧ (∃ G, MapIs quadV n1 (setK G) wr) ∧ TellI lb (n1 + 1) h xs k gs v wr ∧ k + L.length ≤ T
/-- The copy. -/
def Inv3 (gb mk r : Nat) (L : List Q4) (wz wr : World) : Prop :=
  ∃ (done K : List Q4), IterIs quadV gb (setK L) r done wr ∧ MapIs quadV mk (setK K) wr ∧ K.Nodup ∧ (∀ q ∈ done, q ∈ L) ∧ (∀ q, q ∈ K ↔ q ∈ done) ∧ Below wz.heap.size wz wr
set_option maxRecDepth 100000 in
set_option maxHeartbeats 32000000 in
theorem settle_told (yb gb lb : Nat) (h : Int) (xs : List Rk) (u dv : Value) (L0 : List Q4) (w0 w : World) (hy : YW yb gb h xs u dv w0) (hm : MapIs quadV gb (setK L0) w0) (hB0 : Free.Bel w0 w) (hl : w.heap[lb]? = some (.cells #[.slice none 0 0] 137 (0, 0))) (hlb : w0.heap.size ≤ lb) (h4 : xs.length ≤ 4) (hx : ∀ x ∈ xs, x.2.1 ≤ 6) (hG : GoodIs h xs 0 L0) (hT : L0.length ≤ 1296) :
    Calls Tryd.prog 90 #[.pointer (some ⟨yb, 0, none⟩), .func (.func 91) #[] #[.pointer (some ⟨lb, 0, none⟩)]] w (SettleTPost gb lb (w.heap.size + 1) h xs w0) := by
  have hmm := @run_makeMap Tryd.prog
  have hneq : ∀ w : World, (binOp BinOp.neq 140 (.func (.func 91) #[] #[.pointer (some ⟨lb, 0, none⟩)]) Value.nilFunc).run Tryd.prog w = .ok (.bool true) w := fun _ => by kernel_rfl
  have hgl0 := hm.lt
  have hgl : gb < w.heap.size := Nat.lt_of_lt_of_le hgl0 hB0.size
  obtain ⟨ob, hob, hoc⟩ := hm.obj
  have hKC : Hid (∀ W, w0.grownBy W (some gb) → KC w0 W) := fun W hW => KC.of_grown hW hob hoc
  have FY : ∀ W, w0.grownBy W (some gb) → W.cell? ⟨yb, 2, none⟩ = some (.map (some gb)) := fun W hW => (hKC.out W hW).cell hy.c2
  have HSTEP : Hid (∀ W (L : List Q4), w0.grownBy W (some gb) → MapIs quadV gb (setK L) W → ∀ (S : Nat → Int), (∀ i, 0 ≤ S i ∧ S i ≤ 1000000) → ∀ RTn RS RB, Hid (stepS xs S L (D7 h xs) = (RTn, RS, RB)) → Calls Tryd.prog 94 #[.pointer (some ⟨yb, 0, none⟩), stV S, .map (some gb)] W fun e w' => e = .returned (.tuple #[stB RTn, stV RS, .bool RB]) ∧ Below W.heap.size W w') :=
    fun W L hW hML S hS RTn RS RB hr => (hy.kc (hKC.out W hW)).step hML h4 S hS RTn RS RB hr
  have HLB : Hid (w0.heap.size ≤ lb ∧ lb < w.heap.size ∧ gb < w0.heap.size ∧ w0.heap.size ≤ w.heap.size) := ⟨hlb, lt_of_heap hl, hgl0, hB0.size⟩
  have HI0 : Hid (Inv0T gb w.heap.size lb L0.length h xs w0 (w.alloc (.map #[] 0))) := ⟨0, L0, [], .slice none 0 0, hG, (hm.bel hB0).bel (belAlloc _ _), grown_bel ⟨hB0.os, hB0.tape, hB0.output, hB0.size, fun k hk _ => hB0.block k hk⟩ (belAlloc _ _), ⟨[], MapIs.made quadV w⟩, ⟨heap_old hl, rfl, World.ownsRow_nil _ _ _ _, fun i hi => by simp at hi⟩, by omega⟩
  have HX : Hid (xs.length ≤ 4 ∧ ∀ x ∈ xs, x.2.1 ≤ 6) := ⟨h4, hx⟩
  have HGL := Lib.hid hgl
  have HT := Lib.hid hT
  clear hy hm h4 hx hG hob hoc hgl hKC hl hlb hB0 hgl0 hT
  go_enter Tryd.func90, Tryd.ntmps90
  go_wp2_with fail
  go_loopw [] (fun wr => Inv0T gb w.heap.size lb L0.length h xs w0 wr) (fun wr => mapLen gb wr)
  case atStart => exact HI0.out
  case round =>
    obtain ⟨k, L, gs, v, hGood, hML, hGr, ⟨G0, hMG⟩, hTl, hkT⟩ := hrel
    have hnb : w.heap.size ≠ gb := by have := HGL.out; omega
    have HLEN : Hid (mapLen gb wr = L.length) := by show _ = _; have := hML.len; simpa [setK] using this
    have HKT := Lib.hid hkT
    have HGOOD := Lib.hid hGood
    have HN := Lib.hid hGood.1
    have hMz : MapIs quadV gb (setK L) (wr.alloc (.map #[] 0)) := hML.bel (belAlloc _ _)
    obtain ⟨obk, hrngk, hItk⟩ := MapIs.range T.uGood hMz
    have hcz := FY (wr.alloc (.map #[] 0)) (grown_bel hGr (belAlloc _ _))
    have hszz : (wr.alloc (.map #[] 0)).heap.size = wr.heap.size + 1 := by simp
    rw [hszz] at hrngk hItk
    have HW0 := Lib.hid (And.intro hGr (And.intro hMG (And.intro hTl hML)))
    have HIV3 : Hid (Inv3 gb wr.heap.size (wr.heap.size + 1) L wr ((wr.alloc (.map #[] 0)).alloc obk)) := ⟨[], [], hItk, (MapIs.made quadV wr).bel (belAlloc _ _), List.nodup_nil, by simp, by simp, ((Below.refl _ wr).alloc (Nat.le_refl _) _).alloc (by simp) _⟩
    clear hGood hGr hMG hTl hML hMz hItk hkT
    go_wp2_with fail
    clear hrngk hcz hszz
    generalize hwA : (wr.alloc (.map #[] 0)).alloc obk = wA at *
    clear hwA
    obtain ⟨wz, hwz⟩ : ∃ y, y = wr := ⟨_, rfl⟩
    have HWZ := Lib.hid hwz
    rw [← hwz] at HIV3 HW0 ⊢
    clear hwz
    go_loopw [] (fun wr => Inv3 gb wz.heap.size (wz.heap.size + 1) L wz wr) (fun wr => iterLeft (wz.heap.size + 1) gb wr)
    case atStart => exact HIV3.out
    case round =>
      obtain ⟨done, K, hI, hMK, hKn, hdL, hKm, hBz⟩ := hrel
      rcases hI.next (P := Tryd.prog) (by rw [setK_keys]; exact HN.out) 0 with ⟨hall, hrun⟩ | ⟨q, v1, hq, hqn, wn, hrun, hI1, hent, hg1, hs1⟩
      · have HALLK : Hid (∀ q ∈ L, q ∈ done) := fun q hq => hall (q, .bool true) (List.mem_map.2 ⟨q, hq, rfl⟩)
        have hKL : GoodIs h xs k K := ⟨hKn, fun q => by
          rw [hKm, ← HGOOD.out.2]
          exact ⟨hdL q, HALLK.out q⟩⟩
        have hTE := HW0.out.2.2.1.bel (show Free.Bel wz wr from hBz)
        have HTC := Lib.hid (tell1_any lb (w.heap.size + 1) wz.heap.size k h xs gs v K wr hTE hKL hMK (by have := HW0.out.2.1.lt; omega) (by have := hBz.size; have := HW0.out.2.1.lt; omega) (by have := HLB.out.2.1; omega) (by have := HKT.out; have := HT.out; omega))
        have HBZ := Lib.hid hBz
        clear hall hI hMK hKn hdL hKm hBz hKL hTE
        go_wp2_with fail
        refine HTC.out.mono ?_
        rintro e w6 ⟨⟨x, rfl⟩, v6, hT6, hkeep6, hRX6⟩
        obtain ⟨hGr0, hMG0, hTl0, hML0⟩ := HW0.out
        have hmk : ∀ {g : Nat} {l : List (Q4 × Value)}, MapIs quadV g l wr → MapIs quadV g l w6 := fun {g l} hm => hm.of_block (by
          obtain ⟨o, h1, h2⟩ := hm.obj
          rw [h1]
          refine hkeep6 g o h1 (fun e => ?_) (fun c f e => by subst e; cases h2)
          subst e
          have h3 := (show Free.Bel wz wr from HBZ.out).block _ (lt_of_heap hTl0.box)
          rw [h1, hTl0.box] at h3
          cases h3
          cases h2)
        have hML : MapIs quadV gb (setK L) w6 := hmk (hML0.bel HBZ.out)
        have hMG : MapIs quadV w.heap.size (setK G0) w6 := hmk (hMG0.bel HBZ.out)
        have hGr : w0.grownBy w6 (some gb) := by
          have h9 : w0.grownBy wr (some gb) := grown_bel hGr0 HBZ.out
          have hl := HLB.out
          exact ⟨hRX6.os.trans h9.os, hRX6.tape.trans h9.tape, hRX6.output.trans h9.output, Nat.le_trans h9.size hRX6.size, fun i hi hne => (hRX6.block i (by omega) (by simp; omega)).trans (h9.block i hi hne)⟩
        have HT6 := Lib.hid hT6
        clear hT6 hkeep6 hRX6 hGr0 hMG0 hTl0 hML0 hmk hrun
        obtain ⟨wc, hclr, hgc, hMc, hsc⟩ := ML.MapIs.clear T.uGood hMG 0
        have hGc : w0.grownBy wc (some gb) := grown_new hGr hgc HLB.out.2.2.2
        have hMLc : MapIs quadV gb (setK L) wc := hML.kept hgc (by simpa using fun e => hnb e.symm)
        have hn1l : w.heap.size < wc.heap.size := hMc.lt
        obtain ⟨ob, hrng, hIt⟩ := ML.MapIs.range T.uGood hMLc
        have HIV : Hid (Inv1 gb w.heap.size wc.heap.size h xs L w0 (wc.alloc ob)) := ⟨[], [], hIt, hMc.bel (belAlloc _ _), grown_bel hGc (belAlloc _ _), List.nodup_nil, by simp, by simp⟩
        have hlbc := HLB.out
        have HTD := Lib.hid (show TellI lb (w.heap.size + 1) h xs (k + 1) (gs ++ [wz.heap.size]) v6 wc from HT6.out.rx (s0 := w6.heap.size) (gb := gb) (n1 := w.heap.size) (RX.of_grown hgc (.inr (by simp)) (Nat.le_refl _)) rfl (by omega) (by omega) (by omega) (by omega))
        have HKD := Lib.hid (show Free.Bel wc (wc.alloc ob) from belAlloc _ _)
        have hcy := FY wc hGc
        clear hMG hgc hMc hIt hML hsc hlbc
        go_wp2_with fail
        have HRN := Lib.hid hn1l
        clear hclr hrng hMLc hGc hGr hn1l hcy
        obtain ⟨rb, hrb⟩ : ∃ y, y = wc.heap.size := ⟨_, rfl⟩
        have hwds : (wc.alloc ob).heap.size = rb + 1 := by rw [hrb]; simp
        rw [← hrb] at HRN HIV ⊢
        generalize hw1 : wc.alloc ob = wd at *
        have HWD := Lib.hid hwds
        have HRB := Lib.hid hrb
        clear hw1 hrb hwds
        go_loopw [] (fun wr => Inv1 gb w.heap.size rb h xs L w0 wr ∧ RX rb [gb, w.heap.size] wd wr) (fun wr => iterLeft rb gb wr)
        case atStart => exact ⟨HIV.out, RX.refl _ _ _⟩
        case round =>
          obtain ⟨⟨done, G, hI, hMG, hGr, hGn, hdL, hGm⟩, hRX⟩ := hrel
          have HRX := Lib.hid hRX
          clear hRX
          rcases hI.next (P := Tryd.prog) (by rw [setK_keys]; exact HN.out) 0 with ⟨hall, hrun⟩ | ⟨q, v, hq, hqn, wn, hrun, hI1, hent, hg1, hs1⟩
          · have HALL : Hid (∀ q ∈ L, q ∈ done) := fun q hq => hall (q, .bool true) (List.mem_map.2 ⟨q, hq, rfl⟩)
            have hMLr := hI.map
            have HTX := Lib.hid (HTD.out.rx (s0 := rb) (gb := gb) (n1 := w.heap.size) (RX.trans _ _ _ (RX.of_bel HKD.out (by rw [HRB.out]; exact Nat.le_refl _)) HRX.out) HRB.out (by have := HLB.out; omega) (by omega) (by have := HLB.out; omega) (by have := HLB.out; omega))
            obtain ⟨es, cl, hhs, hlen⟩ : ∃ es cl, wr.heap[w.heap.size]? = some (.map es cl) ∧ es.size = G.length := by
              obtain ⟨es, cl, hhs, hes, _⟩ := hMG
              exact ⟨es, cl, hhs, by have := congrArg List.length hes; simpa [setK] using this⟩
            have HDL := Lib.hid hdL
            have HFIN := Lib.hid (And.intro hMLr (And.intro hMG (And.intro hGr (And.intro hGn hGm))))
            have hlr := run_len_map (P := Tryd.prog) 139 3 w.heap.size es cl (w := wr) (by kernel_rfl) hhs
            rw [hlen] at hlr
            by_cases hg0 : G = []
            · subst hg0
              have HLL := Lib.hid (And.intro hlr hlr)
              simp only [List.length_nil, Int.natCast_zero] at hlr
              clear hall hhs hlen hMG hMLr hI hGr hGn hGm hdL
              go_wp2_with fail
              refine bodyPost_ret (results_none rfl _ _ _) rfl ?_
              obtain ⟨hMLr, hMG, hGr, hGn, hGm⟩ := HFIN.out
              have hlast := HGOOD.out.last HX.out.1 fun q hq => (show badQ h xs L q = false from by
                cases hb : badQ h xs L q with
                | false => rfl
                | true => have := (hGm q).2 ⟨HALL.out q hq, hb⟩; simp at this)
              exact ⟨⟨_, rfl⟩, k, _, _, L, (by have := HKT.out; have := HT.out; omega), hlast.2, hMLr, hGr, HTX.out, hlast.1⟩
            · have g0 : ((G.length : Int) == 0) = false := by
                have : G.length ≠ 0 := fun e => hg0 (List.eq_nil_of_length_eq_zero e)
                simp only [beq_eq_false_iff_ne, ne_eq]; omega
              obtain ⟨ob2, hrng2, hIt2⟩ := ML.MapIs.range T.uGood hMG
              have HN2 := Lib.hid hGn
              have HIV2 : Hid (Inv2 gb w.heap.size wr.heap.size L G w0 (wr.alloc ob2)) := ⟨[], L, hIt2, hMLr.bel (belAlloc _ _), grown_bel hGr (belAlloc _ _), HN.out, List.nodup_nil, by simp, by simp, by simp⟩
              have hrl2 : w.heap.size < wr.heap.size := hMG.lt
              have HG0 := Lib.hid hg0
              clear hall hhs hlen hMG hMLr hI hGr hGn hGm hdL hIt2 hg0
              go_wp2_with fail
              have HRN2 := Lib.hid hrl2
              have HKE := Lib.hid (show Free.Bel wr (wr.alloc ob2) from belAlloc _ _)
              clear hlr hrng2 hrl2 g0
              obtain ⟨rb2, hrb⟩ : ∃ y, y = wr.heap.size := ⟨_, rfl⟩
              rw [← hrb] at HRN2 HIV2 ⊢
              have hwes : (wr.alloc ob2).heap.size = rb2 + 1 := by rw [hrb]; simp
              generalize hw1 : wr.alloc ob2 = we at *
              have HWE2 := Lib.hid hwes
              have HRB2 := Lib.hid hrb
              clear hw1 hrb hwes
              go_loopw [] (fun wr => Inv2 gb w.heap.size rb2 L G w0 wr ∧ RX rb2 [gb, w.heap.size] we wr) (fun wr => iterLeft rb2 w.heap.size wr)
              case atStart => exact ⟨HIV2.out, RX.refl _ _ _⟩
              case round =>
                obtain ⟨⟨done2, L2, hI, hML2, hGr, hLn, hdn, hdG, hLm, hLl⟩, hRX2⟩ := hrel
                have HRX2 := Lib.hid hRX2
                clear hRX2
                rcases hI.next (P := Tryd.prog) (by rw [setK_keys]; exact HN2.out) 0 with ⟨hall, hrun⟩ | ⟨q, v, hq, hqn, wn, hrun, hI1, hent, hg1, hs1⟩
                · have HALL2 : Hid (∀ q ∈ G, q ∈ done2) := fun q hq => hall (q, .bool true) (List.mem_map.2 ⟨q, hq, rfl⟩)
                  have HF2 := Lib.hid (And.intro hML2 (And.intro hI.map (And.intro hGr (And.intro hLn (And.intro hLm (And.intro hLl hdG))))))
                  clear hall hI hML2 hGr hLn hdn hdG hLm hLl
                  go_wp2_with fail
                  clear hrun
                  go_roundw
                  case rel =>
                    obtain ⟨hML2, hMG2, hGr, hLn, hLm, hLl, hdG⟩ := HF2.out
                    obtain ⟨_, _, _, hGn, hGm⟩ := HFIN.out
                    have hne : done2 ≠ [] := by
                      rintro rfl
                      refine HG0.out ?_
                      match G, HALL2.out with
                      | [], _ => rfl
                      | a :: r, h9 => have := h9 a (by simp); simp at this
                    have hpos : 0 < done2.length := List.length_pos_iff.2 hne
                    have hkt := HKT.out
                    refine ⟨k + 1, L2, _, _, HGOOD.out.next HX.out.1 hLn fun q => ?_, hML2, hGr, ⟨G, hMG2⟩, HTX.out.rx (s0 := rb2) (gb := gb) (n1 := w.heap.size) (RX.trans _ _ _ (RX.of_bel HKE.out (by rw [HRB2.out]; exact Nat.le_refl _)) HRX2.out) HRB2.out (by have := HLB.out; omega) (by omega) (by have := HLB.out; omega) (by have := HLB.out; omega), by omega⟩
                    rw [hLm]
                    constructor
                    · rintro ⟨h1, h2⟩
                      refine ⟨h1, ?_⟩
                      cases hb : badQ h xs L q with
                      | false => rfl
                      | true => exact absurd (HALL2.out q ((hGm q).2 ⟨HALL.out q h1, hb⟩)) h2
                    · rintro ⟨h1, h2⟩
                      refine ⟨h1, fun h3 => ?_⟩
                      rw [((hGm q).1 (hdG q h3)).2] at h2
                      cases h2
                  case measure =>
                    obtain ⟨hML2, hMG2, hGr, hLn, hLm, hLl, hdG⟩ := HF2.out
                    have e := hML2.len
                    have e2 := HLEN.out
                    have : done2 ≠ [] := by
                      rintro rfl
                      refine HG0.out ?_
                      match G, HALL2.out with
                      | [], _ => rfl
                      | a :: r, h9 => have := h9 a (by simp); simp at this
                    have : 0 < done2.length := List.length_pos_iff.2 this
                    simp [setK] at e
                    omega
                · obtain ⟨hqG, hv⟩ := setK_mem hq
                  subst hv
                  obtain ⟨S, hS⟩ : ∃ S, S = unq q := ⟨_, rfl⟩
                  have hqS : q = q4 S := by rw [hS]; rfl
                  have hrun2 : (Instr.next (.pointer (some ⟨rb2, 0, none⟩)) false 0).run Tryd.prog wr = .ok (.tuple #[.bool true, .agg #[.int .i64 (S 0), .int .i64 (S 1), .int .i64 (S 2), .int .i64 (S 3)], .bool true]) wn := by rw [hrun, hqS]; rfl
                  have hent2 : (Instr.entry (.pointer (some ⟨rb2, 0, none⟩))).run Tryd.prog wn = .ok (.tuple #[.agg #[.int .i64 (S 0), .int .i64 (S 1), .int .i64 (S 2), .int .i64 (S 3)], .bool true]) wn := by rw [hent, hqS]; rfl
                  have hGn1 : w0.grownBy wn (some gb) := grown_new hGr hg1 (by have := HRN2.out; have := HLB.out; omega)
                  have hMLn : MapIs quadV gb (setK L2) wn := hML2.kept hg1 (by have := HRN2.out; have := HGL.out; simp; omega)
                  have KA : Free.Bel wn (wn.alloc (.cells (arrV S) 109)) := belAlloc _ _
                  have mS : (wn.alloc (.cells (arrV S) 109)).heap[wn.heap.size]? = some (.cells (arrV S) 109 (0, 0)) := World.alloc_heap_new wn _
                  have HG1 := Lib.hid hg1
                  have HIT := Lib.hid hI1
                  have HDEC := Lib.hid (iter_less hI hI1 hq hqn)
                  have HLL := Lib.hid (And.intro hLn (And.intro hdn (And.intro hdG (And.intro hLm hLl))))
                  have HQS := Lib.hid (And.intro hqS (And.intro hqG hqn))
                  have HGW := Lib.hid hGn1
                  have HMN := Lib.hid hMLn
                  clear hrun hent hqS hS hI hI1 hq hqn hqG hLn hdn hdG hLm hLl hGr hML2 hg1 hs1 hGn1 hMLn
                  go_wp2_with fail
                  clear hrun2 hent2
                  generalize hwa : (wn.alloc (.cells (arrV S) 109)) = wa at *
                  have hG9 : w0.grownBy wa (some gb) := grown_bel HGW.out KA
                  have hM9 : MapIs quadV gb (setK L2) wa := HMN.out.bel KA
                  obtain ⟨z0, z1, z2, z3, _⟩ := cells4 mS
                  obtain ⟨ogb, hogb, hogc⟩ := hM9.obj
                  have hM9d : MapIs quadV gb (setK L2) wa.drew := hM9
                  have hKW : ∀ W, World.grownBy wa.drew W (some gb) → KC wa W := fun W hW => KC.of_grown (grown_drew hW) hogb hogc
                  have hyc := FY wa hG9
                  have hF : ∀ W, World.grownBy wa.drew W (some gb) → (W.cell? ⟨yb, 2, none⟩ = some (.map (some gb)) ∧ W.cell? ⟨wn.heap.size, 0, none⟩ = some (.int .i64 (S 0)) ∧ W.cell? ⟨wn.heap.size, 1, none⟩ = some (.int .i64 (S 1)) ∧ W.cell? ⟨wn.heap.size, 2, none⟩ = some (.int .i64 (S 2)) ∧ W.cell? ⟨wn.heap.size, 3, none⟩ = some (.int .i64 (S 3))) := fun W hW =>
                    ⟨(hKW W hW).cell hyc, (hKW W hW).cell z0, (hKW W hW).cell z1, (hKW W hW).cell z2, (hKW W hW).cell z3⟩
                  refine Free2.wp_free (R := (fun a b => World.grownBy a b (some gb))) (J := JD 5 gb (setK L2) (setK (eraK (q4 S) L2))) (by kernel_rfl) (by kernel_rfl) (fun a => World.grownBy.refl a _) (fun _ _ _ => World.grownBy.trans) ⟨fun _ => hM9d, fun e => absurd rfl e⟩ ?_
                  refine Free2.Chain.ex ?_ 0 rfl [] [0] (by kernel_rfl) (by kernel_rfl) rfl (fun a => World.grownBy.refl a _) (fun X W v h => JD.skip h 0 v (by simp)) ?_ ?_
                  rotate_left
                  · (intro ev W hb hR hO hD; have hS := hF W hR; obtain ⟨hb1, hb2, hb3⟩ := hb; simp only [Free.AllDeps, Free.AllOuts, Free.At, al1, al2, al3, al4, al5, and_true] at hO hD; go_simp; rfl)
                  simp only [an1, an2]
                  refine Free2.Chain.ex ?_ 1 rfl [(0, 64)] [] (by kernel_rfl) (by kernel_rfl) rfl (fun a => World.grownBy.refl a _) (fun X W v h => JD.skip h 1 v (by simp)) ?_ ?_
                  rotate_left
                  · (intro ev W hb hR hO hD; have hS := hF W hR; obtain ⟨hb1, hb2, hb3⟩ := hb; simp only [Free.AllDeps, Free.AllOuts, Free.At, al1, al2, al3, al4, al5, and_true] at hO hD; go_simp; rfl)
                  simp only [an1, an2]
                  refine Free2.Chain.ex ?_ 2 rfl [(1, 65)] [] (by kernel_rfl) (by kernel_rfl) rfl (fun a => World.grownBy.refl a _) (fun X W v h => JD.skip h 2 v (by simp)) ?_ ?_
                  rotate_left
                  · (intro ev W hb hR hO hD; have hS := hF W hR; obtain ⟨hb1, hb2, hb3⟩ := hb; simp only [Free.AllDeps, Free.AllOuts, Free.At, al1, al2, al3, al4, al5, and_true] at hO hD; go_simp; rfl)
                  simp only [an1, an2]
                  refine Free2.Chain.ex ?_ 3 rfl [(2, 66)] [] (by kernel_rfl) (by kernel_rfl) rfl (fun a => World.grownBy.refl a _) (fun X W v h => JD.skip h 3 v (by simp)) ?_ ?_
                  rotate_left
                  · (intro ev W hb hR hO hD; have hS := hF W hR; obtain ⟨hb1, hb2, hb3⟩ := hb; simp only [Free.AllDeps, Free.AllOuts, Free.At, al1, al2, al3, al4, al5, and_true] at hO hD; go_simp; rfl)
                  simp only [an1, an2]
                  refine Free2.Chain.ex ?_ 4 rfl [] [11] (by kernel_rfl) (by kernel_rfl) rfl (fun a => World.grownBy.refl a _) (fun X W v h => JD.skip h 4 v (by simp)) ?_ ?_
                  rotate_left
                  · (intro ev W hb hR hO hD; have hS := hF W hR; obtain ⟨hb1, hb2, hb3⟩ := hb; simp only [Free.AllDeps, Free.AllOuts, Free.At, al1, al2, al3, al4, al5, and_true] at hO hD; go_simp; rfl)
                  simp only [an1, an2]
                  refine Free2.Chain.pr (fun _ _ => True) 5 rfl [(3, 67), (4, 68)] [] (by kernel_rfl) (by kernel_rfl) rfl (fun _ _ _ _ h => h) ?_ ?_
                  · (intro ev W X hb hR hO hD hj hx hax; have hS := hF W hR; obtain ⟨hb1, hb2, hb3⟩ := hb; simp only [Free.AllDeps, Free.AllOuts, Free.At, al1, al2, al3, al4, al5, and_true] at hO hD; simp only [Free2.AllX, and_true] at hax; obtain ⟨w7, f1, f2, f3, f4⟩ := (hj.a hx).delete T.quads T.uGood (ty := 0) (q4 S); rw [assocDel_eq, delR_setK] at f3; have f5 : (Builtin.delete_ #[139, 109] 0 #[.map (some gb), .agg #[.int .i64 (S 0), .int .i64 (S 1), .int .i64 (S 2), .int .i64 (S 3)]]).run Tryd.prog W = .ok (.tuple #[]) w7 := f1; clear f1; go_simp; exact ⟨f2, JD.did _ f3⟩)
                  simp only [an1, an2]
                  intro ys w' hR hV hX
                  obtain ⟨X, hj, hxx⟩ := hX
                  simp only [Free.AllV, Free.At, List.length_cons, List.length_nil, Nat.reduceAdd, List.getElem?_cons_succ, List.getElem?_cons_zero, true_and, and_true] at hV
                  simp only [Free.putsFrom, Act.put, Nat.zero_add, Nat.reduceAdd, hV, List.setIfInBounds_toArray, List.set_cons_succ, List.set_cons_zero]
                  have hM7 := hj.b (by rw [hxx 5 (by decide)]; simp)
                  have hRW : wa.grownBy w' (some gb) := grown_drew hR
                  have hI7 := (HIT.out.bel KA).of_blocks (hRW.block w.heap.size (HIT.out.bel KA).lt.1 (by have := HGL.out; simp; omega)) (hRW.block rb2 (HIT.out.bel KA).lt.2 (by have := HGL.out; have := HRN2.out; simp; omega))
                  have hG7 : w0.grownBy w' (some gb) := hG9.trans hRW
                  have HDE7 : Hid (iterLeft rb2 w.heap.size w' < iterLeft rb2 w.heap.size wr) := by
                    have := HDEC.out
                    have e : iterLeft rb2 w.heap.size w' = iterLeft rb2 w.heap.size wn := by rw [hI7.left, HIT.out.left]
                    show _ < _
                    omega
                  have HRX7 := Lib.hid (RX.trans _ _ _ HRX2.out (RX.trans _ _ _ (RX.of_grown (s0 := rb2) (bs := [gb, w.heap.size]) HG1.out (.inl (Nat.le_refl _)) (by have := HRX2.out.size; have := HWE2.out; omega)) (RX.trans _ _ _ (RX.of_bel KA (by have := HRX2.out.size; have := HG1.out.size; have := HWE2.out; omega)) (RX.of_grown (s0 := rb2) (bs := [gb, w.heap.size]) hRW (.inr (by simp)) (by have := HRX2.out.size; have := HG1.out.size; have := HWE2.out; have := KA.size; omega)))))
                  have HALL7 := Lib.hid (And.intro hI7 (And.intro hM7 hG7))
                  clear hR hV hF hj hxx hM7 hRW hI7 hG7 hM9 hM9d hKW hyc hogb hogc hG9 z0 z1 z2 z3 KA mS
                  go_wp2_with fail
                  go_roundw
                  case rel =>
                    obtain ⟨hLn, hdn, hdG, hLm, hLl⟩ := HLL.out
                    obtain ⟨hqS, hqG, hqn⟩ := HQS.out
                    obtain ⟨hI7, hM7, hG7⟩ := HALL7.out
                    rw [← hqS] at hM7
                    have hqL : q ∈ L := ((HFIN.out.2.2.2.2 q).1 hqG).1 |> fun h => HDL.out q h
                    have hqL2 : q ∈ L2 := (hLm q).2 ⟨hqL, hqn⟩
                    refine ⟨⟨q :: done2, eraK q L2, hI7, hM7, hG7, nodup_eraK hLn, List.nodup_cons.2 ⟨hqn, hdn⟩, fun y hy => ?_, fun y => ?_, ?_⟩, HRX7.out⟩
                    · rcases List.mem_cons.1 hy with rfl | hy
                      · exact hqG
                      · exact hdG y hy
                    · rw [mem_eraK hLn, hLm, List.mem_cons, not_or]
                      constructor
                      · rintro ⟨h1, h2, h3⟩; exact ⟨h2, h1, h3⟩
                      · rintro ⟨h2, h1, h3⟩; exact ⟨h1, h2, h3⟩
                    · have := List.length_pos_of_mem hqL2
                      rw [length_eraK hqL2, List.length_cons]
                      omega
                  case measure => exact HDE7.out
          · obtain ⟨hqL, hv⟩ := setK_mem hq
            subst hv
            obtain ⟨S, hS⟩ : ∃ S, S = unq q := ⟨_, rfl⟩
            have hqS : q = q4 S := by rw [hS]; rfl
            have hst : ∃ ys, StOf xs ys ∧ S = waits ys := by
              obtain ⟨ys, hy, _, e⟩ := (HGOOD.out.2 q).1 hqL
              exact ⟨ys, hy, by rw [hS, e, unq_waits (by have := hy.1.length; have := HX.out.1; omega)]⟩
            obtain ⟨ys, hyst, hSy⟩ := hst
            have hSb : ∀ i, 0 ≤ S i ∧ S i ≤ 1000000 := fun i => by rw [hSy]; exact waits_st hyst HX.out.2 i
            obtain ⟨⟨RTn, RS, RB⟩, hRR⟩ : ∃ y, stepS xs S L (D7 h xs) = y := ⟨_, rfl⟩
            have HBAD : Hid (badQ h xs L q = !RB) := by show _ = _; rw [badQ, ← hS, hRR]
            have hrun2 : (Instr.next (.pointer (some ⟨rb, 0, none⟩)) false 0).run Tryd.prog wr = .ok (.tuple #[.bool true, .agg #[.int .i64 (S 0), .int .i64 (S 1), .int .i64 (S 2), .int .i64 (S 3)], .bool true]) wn := by rw [hrun, hqS]; rfl
            have hent2 : (Instr.entry (.pointer (some ⟨rb, 0, none⟩))).run Tryd.prog wn = .ok (.tuple #[.agg #[.int .i64 (S 0), .int .i64 (S 1), .int .i64 (S 2), .int .i64 (S 3)], .bool true]) wn := by rw [hent, hqS]; rfl
            have hGn1 : w0.grownBy wn (some gb) := grown_new hGr hg1 (by have := HRN.out; have := HLB.out; omega)
            have hMGn : MapIs quadV w.heap.size (setK G) wn := hMG.kept hg1 (by have := HRN.out; simp; omega)
            have KA : Free.Bel wn (wn.alloc (.cells (arrV S) 109)) := belAlloc _ _
            have mS : (wn.alloc (.cells (arrV S) 109)).heap[wn.heap.size]? = some (.cells (arrV S) 109 (0, 0)) := World.alloc_heap_new wn _
            have HSC := Lib.hid (fun (W : World) (hW : Free.Bel (wn.alloc (.cells (arrV S) 109)) W) => HSTEP.out W L (grown_bel (grown_bel hGn1 KA) hW) ((hI1.bel KA).bel hW).map S hSb RTn RS RB (Lib.hid hRR))
            have HIT := Lib.hid hI1
            have HDEC := Lib.hid (iter_less hI hI1 hq hqn)
            have HG1 := Lib.hid hg1
            have HGG := Lib.hid (And.intro hGn (And.intro hdL hGm))
            have HQS := Lib.hid (And.intro hqS (And.intro hqL hqn))
            have HGW := Lib.hid hGn1
            have HMN := Lib.hid hMGn
            clear hrun hent hqS hSy hyst hSb hRR hS hI hI1 hq hqn hqL hGn hdL hGm hGr hMG hg1 hs1 hGn1 hMGn
            go_wp2_with fail
            clear hrun2 hent2
            generalize hwa : (wn.alloc (.cells (arrV S) 109)) = wa at *
            have FA : ∀ W, Free.Bel wa W → W.cell? ⟨yb, 2, none⟩ = some (.map (some gb)) ∧ W.cell? ⟨wn.heap.size, 0, none⟩ = some (.int .i64 (S 0)) ∧ W.cell? ⟨wn.heap.size, 1, none⟩ = some (.int .i64 (S 1)) ∧ W.cell? ⟨wn.heap.size, 2, none⟩ = some (.int .i64 (S 2)) ∧ W.cell? ⟨wn.heap.size, 3, none⟩ = some (.int .i64 (S 3)) := fun W hW =>
              ⟨FY W (grown_bel HGW.out (bt KA hW)), keepsB hW (cell_of_heap mS rfl), keepsB hW (cell_of_heap mS rfl), keepsB hW (cell_of_heap mS rfl), keepsB hW (cell_of_heap mS rfl)⟩
            have hF : ∀ W, Below wa.heap.size wa.drew W → Free.Bel wa W := fun W hW => (show Below wa.heap.size wa W from ((Below.refl _ wa).drew).trans hW)
            refine Free2.wp_free (R := Below wa.heap.size) (J := LL wa.heap.size [⟨11, 13, (.cells #[.bool false, .bool false, .bool false, .bool false] 149), (.cells #[.bool (RTn 0), .bool (RTn 1), .bool (RTn 2), .bool (RTn 3)] 149)⟩, ⟨12, 14, (.cells #[.int .i64 0, .int .i64 0, .int .i64 0, .int .i64 0] 109), (.cells #[.int .i64 (RS 0), .int .i64 (RS 1), .int .i64 (RS 2), .int .i64 (RS 3)] 109)⟩]) (by kernel_rfl) (by kernel_rfl) (Below.refl _) (fun _ _ _ => Below.trans) (LL.start (Nat.le_refl _)) ?_
            refine Free2.Chain.ex ?_ 0 rfl [] [0] (by kernel_rfl) (by kernel_rfl) rfl (Below.refl _) (fun X W v h => LL.skip h 0 v (by simp)) ?_ ?_
            rotate_left
            · (intro ev W hb hR hO hD; have hS0 := hF W hR; have hS := FA W hS0; obtain ⟨hb1, hb2, hb3⟩ := hb; simp only [Free.AllDeps, Free.AllOuts, Free.At, al1, al2, al3, al4, al5, and_true] at hO hD; go_simp; rfl)
            simp only [an1, an2]
            refine Free2.Chain.ex ?_ 1 rfl [] [7] (by kernel_rfl) (by kernel_rfl) rfl (Below.refl _) (fun X W v h => LL.skip h 1 v (by simp)) ?_ ?_
            rotate_left
            · (intro ev W hb hR hO hD; have hS0 := hF W hR; have hS := FA W hS0; obtain ⟨hb1, hb2, hb3⟩ := hb; simp only [Free.AllDeps, Free.AllOuts, Free.At, al1, al2, al3, al4, al5, and_true] at hO hD; go_simp; rfl)
            simp only [an1, an2]
            refine Free2.Chain.ex ?_ 2 rfl [] [0] (by kernel_rfl) (by kernel_rfl) rfl (Below.refl _) (fun X W v h => LL.skip h 2 v (by simp)) ?_ ?_
            rotate_left
            · (intro ev W hb hR hO hD; have hS0 := hF W hR; have hS := FA W hS0; obtain ⟨hb1, hb2, hb3⟩ := hb; simp only [Free.AllDeps, Free.AllOuts, Free.At, al1, al2, al3, al4, al5, and_true] at hO hD; go_simp; rfl)
            simp only [an1, an2]
            refine Free2.Chain.ex ?_ 3 rfl [(2, 43)] [] (by kernel_rfl) (by kernel_rfl) rfl (Below.refl _) (fun X W v h => LL.skip h 3 v (by simp)) ?_ ?_
            rotate_left
            · (intro ev W hb hR hO hD; have hS0 := hF W hR; have hS := FA W hS0; obtain ⟨hb1, hb2, hb3⟩ := hb; simp only [Free.AllDeps, Free.AllOuts, Free.At, al1, al2, al3, al4, al5, and_true] at hO hD; go_simp; rfl)
            simp only [an1, an2]
            refine Free2.Chain.ex ?_ 4 rfl [(3, 44)] [] (by kernel_rfl) (by kernel_rfl) rfl (Below.refl _) (fun X W v h => LL.skip h 4 v (by simp)) ?_ ?_
            rotate_left
            · (intro ev W hb hR hO hD; have hS0 := hF W hR; have hS := FA W hS0; obtain ⟨hb1, hb2, hb3⟩ := hb; simp only [Free.AllDeps, Free.AllOuts, Free.At, al1, al2, al3, al4, al5, and_true] at hO hD; go_simp; rfl)
            simp only [an1, an2]
            refine Free2.Chain.ex ?_ 5 rfl [(4, 45)] [] (by kernel_rfl) (by kernel_rfl) rfl (Below.refl _) (fun X W v h => LL.skip h 5 v (by simp)) ?_ ?_
            rotate_left
            · (intro ev W hb hR hO hD; have hS0 := hF W hR; have hS := FA W hS0; obtain ⟨hb1, hb2, hb3⟩ := hb; simp only [Free.AllDeps, Free.AllOuts, Free.At, al1, al2, al3, al4, al5, and_true] at hO hD; go_simp; rfl)
            simp only [an1, an2]
            refine Free2.Chain.pr (fun v _ => v = .tuple #[stB RTn, stV RS, .bool RB]) 6 rfl [(0, 41), (1, 42), (5, 46)] [] (by kernel_rfl) (by kernel_rfl) rfl (fun _ _ _ _ h => h) ?_ ?_
            · (intro ev W X hb hR hO hD hj hx hax; have hS0 := hF W hR; have hS := FA W hS0; obtain ⟨hb1, hb2, hb3⟩ := hb; simp only [Free.AllDeps, Free.AllOuts, Free.At, al1, al2, al3, al4, al5, and_true] at hO hD; simp only [Free2.AllX, and_true] at hax; go_simp; refine yields_enter ?_; (with_reducible refine (HSC.out _ hS0).mono ?_); rintro e W2 ⟨rfl, hB2⟩; exact ⟨_, rfl, hB2.mono hj.size, rfl, (hj.bel hB2).skip 6 _ (by simp)⟩)
            simp only [an1, an2]
            refine Free2.Chain.ex ?_ 7 rfl [(6, 47)] [] (by kernel_rfl) (by kernel_rfl) rfl (Below.refl _) (fun X W v h => LL.skip h 7 v (by simp)) ?_ ?_
            rotate_left
            · (intro ev W hb hR hO hD; have hS0 := hF W hR; have hS := FA W hS0; obtain ⟨hb1, hb2, hb3⟩ := hb; simp only [Free.AllDeps, Free.AllOuts, Free.At, al1, al2, al3, al4, al5, and_true] at hO hD; go_simp; rfl)
            simp only [an1, an2]
            refine Free2.Chain.ex ?_ 8 rfl [(7, 40)] [] (by kernel_rfl) (by kernel_rfl) rfl (Below.refl _) (fun X W v h => LL.skip h 8 v (by simp)) ?_ ?_
            rotate_left
            · (intro ev W hb hR hO hD; have hS0 := hF W hR; have hS := FA W hS0; obtain ⟨hb1, hb2, hb3⟩ := hb; simp only [Free.AllDeps, Free.AllOuts, Free.At, al1, al2, al3, al4, al5, and_true] at hO hD; go_simp; rfl)
            simp only [an1, an2]
            refine Free2.Chain.ex ?_ 9 rfl [(7, 40)] [] (by kernel_rfl) (by kernel_rfl) rfl (Below.refl _) (fun X W v h => LL.skip h 9 v (by simp)) ?_ ?_
            rotate_left
            · (intro ev W hb hR hO hD; have hS0 := hF W hR; have hS := FA W hS0; obtain ⟨hb1, hb2, hb3⟩ := hb; simp only [Free.AllDeps, Free.AllOuts, Free.At, al1, al2, al3, al4, al5, and_true] at hO hD; go_simp; rfl)
            simp only [an1, an2]
            refine Free2.Chain.ex ?_ 10 rfl [(7, 40)] [] (by kernel_rfl) (by kernel_rfl) rfl (Below.refl _) (fun X W v h => LL.skip h 10 v (by simp)) ?_ ?_
            rotate_left
            · (intro ev W hb hR hO hD; have hS0 := hF W hR; have hS := FA W hS0; obtain ⟨hb1, hb2, hb3⟩ := hb; simp only [Free.AllDeps, Free.AllOuts, Free.At, al1, al2, al3, al4, al5, and_true] at hO hD; go_simp; rfl)
            simp only [an1, an2]
            refine Free2.Chain.pr (fun v _ => ∃ b, v = ptr b) 11 rfl [] [] (by kernel_rfl) (by kernel_rfl) rfl (fun _ _ _ _ h => h) ?_ ?_
            · (intro ev W X hb hR hO hD hj hx hax; have hS0 := hF W hR; have hS := FA W hS0; obtain ⟨hb1, hb2, hb3⟩ := hb; simp only [Free.AllDeps, Free.AllOuts, Free.At, al1, al2, al3, al4, al5, and_true] at hO hD; simp only [Free2.AllX, and_true] at hax; go_simp; exact ⟨(Below.refl _ W).alloc hj.size _, ⟨_, rfl⟩, hj.new ⟨11, 13, (.cells #[.bool false, .bool false, .bool false, .bool false] 149), (.cells #[.bool (RTn 0), .bool (RTn 1), .bool (RTn 2), .bool (RTn 3)] 149)⟩ (by simp) (by simp) hx⟩)
            simp only [an1, an2]
            refine Free2.Chain.pr (fun v _ => ∃ b, v = ptr b) 12 rfl [] [] (by kernel_rfl) (by kernel_rfl) rfl (fun _ _ _ _ h => h) ?_ ?_
            · (intro ev W X hb hR hO hD hj hx hax; have hS0 := hF W hR; have hS := FA W hS0; obtain ⟨hb1, hb2, hb3⟩ := hb; simp only [Free.AllDeps, Free.AllOuts, Free.At, al1, al2, al3, al4, al5, and_true] at hO hD; simp only [Free2.AllX, and_true] at hax; go_simp; exact ⟨(Below.refl _ W).alloc hj.size _, ⟨_, rfl⟩, hj.new ⟨12, 14, (.cells #[.int .i64 0, .int .i64 0, .int .i64 0, .int .i64 0] 109), (.cells #[.int .i64 (RS 0), .int .i64 (RS 1), .int .i64 (RS 2), .int .i64 (RS 3)] 109)⟩ (by simp) (by simp) hx⟩)
            simp only [an1, an2]
            refine Free2.Chain.pr (fun _ _ => True) 13 rfl [(11, 8), (8, 48), (6, 47), (0, 41), (1, 42), (2, 43), (3, 44), (4, 45), (5, 46), (6, 47), (7, 40), (8, 48), (11, 8), (12, 9)] [] (by kernel_rfl) (by kernel_rfl) rfl (fun _ _ _ _ h => h) ?_ ?_
            · (intro ev W X hb hR hO hD hj hx hax; have hS0 := hF W hR; have hS := FA W hS0; obtain ⟨hb1, hb2, hb3⟩ := hb; simp only [Free.AllDeps, Free.AllOuts, Free.At, al1, al2, al3, al4, al5, and_true] at hO hD; simp only [Free2.AllX, and_true] at hax; obtain ⟨b, hb9, hs0, hbl⟩ := hj.at_ ⟨11, 13, (.cells #[.bool false, .bool false, .bool false, .bool false] 149), (.cells #[.bool (RTn 0), .bool (RTn 1), .bool (RTn 2), .bool (RTn 3)] 149)⟩ (by simp) hax.1 hx; have hX := hax.1; rw [hb9] at hX; have hp := hj.puts ⟨11, 13, (.cells #[.bool false, .bool false, .bool false, .bool false] 149), (.cells #[.bool (RTn 0), .bool (RTn 1), .bool (RTn 2), .bool (RTn 3)] 149)⟩ (by simp) (by simp) hX hs0 hbl [(0, .bool (RTn 0)), (1, .bool (RTn 1)), (2, .bool (RTn 2)), (3, .bool (RTn 3))] rfl; obtain ⟨y0, y1, y2, y3, t0, t1, t2, t3⟩ := cells4 hbl; go_simp; exact ⟨(hp undef).1, (hp _).2⟩)
            simp only [an1, an2]
            refine Free2.Chain.pr (fun _ _ => True) 14 rfl [(12, 9), (9, 49), (0, 41), (1, 42), (2, 43), (3, 44), (4, 45), (5, 46), (6, 47), (7, 40), (8, 48), (9, 49), (11, 8), (12, 9)] [] (by kernel_rfl) (by kernel_rfl) rfl (fun _ _ _ _ h => h) ?_ ?_
            · (intro ev W X hb hR hO hD hj hx hax; have hS0 := hF W hR; have hS := FA W hS0; obtain ⟨hb1, hb2, hb3⟩ := hb; simp only [Free.AllDeps, Free.AllOuts, Free.At, al1, al2, al3, al4, al5, and_true] at hO hD; simp only [Free2.AllX, and_true] at hax; obtain ⟨b, hb9, hs0, hbl⟩ := hj.at_ ⟨12, 14, (.cells #[.int .i64 0, .int .i64 0, .int .i64 0, .int .i64 0] 109), (.cells #[.int .i64 (RS 0), .int .i64 (RS 1), .int .i64 (RS 2), .int .i64 (RS 3)] 109)⟩ (by simp) hax.1 hx; have hX := hax.1; rw [hb9] at hX; have hp := hj.puts ⟨12, 14, (.cells #[.int .i64 0, .int .i64 0, .int .i64 0, .int .i64 0] 109), (.cells #[.int .i64 (RS 0), .int .i64 (RS 1), .int .i64 (RS 2), .int .i64 (RS 3)] 109)⟩ (by simp) (by simp) hX hs0 hbl [(0, .int .i64 (RS 0)), (1, .int .i64 (RS 1)), (2, .int .i64 (RS 2)), (3, .int .i64 (RS 3))] rfl; obtain ⟨y0, y1, y2, y3, t0, t1, t2, t3⟩ := cells4 hbl; go_simp; exact ⟨(hp undef).1, (hp _).2⟩)
            simp only [an1, an2]
            refine Free2.Chain.ex ?_ 15 rfl [(10, 50), (0, 41), (1, 42), (2, 43), (3, 44), (4, 45), (5, 46), (6, 47), (7, 40), (8, 48), (9, 49), (10, 50), (11, 8), (12, 9)] [] (by kernel_rfl) (by kernel_rfl) rfl (Below.refl _) (fun X W v h => LL.skip h 15 v (by simp)) ?_ ?_
            rotate_left
            · (intro ev W hb hR hO hD; have hS0 := hF W hR; have hS := FA W hS0; obtain ⟨hb1, hb2, hb3⟩ := hb; simp only [Free.AllDeps, Free.AllOuts, Free.At, al1, al2, al3, al4, al5, and_true] at hO hD; go_simp; rfl)
            simp only [an1, an2]
            intro xs' w5 hR hV hX
            obtain ⟨X, hj, hxx⟩ := hX
            simp only [Free.AllV, Free.At, List.length_cons, List.length_nil, Nat.reduceAdd, List.getElem?_cons_succ, List.getElem?_cons_zero, true_and, and_true] at hV
            obtain ⟨g8, hg8, _⟩ := hj.done ⟨11, 13, (.cells #[.bool false, .bool false, .bool false, .bool false] 149), (.cells #[.bool (RTn 0), .bool (RTn 1), .bool (RTn 2), .bool (RTn 3)] 149)⟩ (by simp) (hxx 11 (by decide)) (hxx 13 (by decide))
            obtain ⟨g9, hg9, _⟩ := hj.done ⟨12, 14, (.cells #[.int .i64 0, .int .i64 0, .int .i64 0, .int .i64 0] 109), (.cells #[.int .i64 (RS 0), .int .i64 (RS 1), .int .i64 (RS 2), .int .i64 (RS 3)] 109)⟩ (by simp) (hxx 12 (by decide)) (hxx 14 (by decide))
            simp only [Free.putsFrom, Act.put, Nat.zero_add, Nat.reduceAdd, hV, hg8, hg9, List.setIfInBounds_toArray, List.set_cons_succ, List.set_cons_zero]
            have K5 : Free.Bel wa w5 := hF w5 hR
            obtain ⟨f0, f1, f2, f3, f4⟩ := FA w5 K5
            have KN := bt KA K5
            have hI5 := HIT.out.bel KN
            have hG5 := grown_bel HGW.out KN
            have hM5 := HMN.out.bel KN
            have HDE5 : Hid (iterLeft rb gb w5 < iterLeft rb gb wr) := by
              have := HDEC.out
              have e : iterLeft rb gb w5 = iterLeft rb gb wn := by rw [hI5.left, HIT.out.left]
              show _ < _
              omega
            have HRX5 := Lib.hid (RX.trans _ _ _ HRX.out (RX.trans _ _ _ (RX.of_grown (s0 := rb) (bs := [gb, w.heap.size]) HG1.out (.inl (Nat.le_refl _)) (by have := HRX.out.size; have := HWD.out; omega)) (RX.of_bel KN (by have := HRX.out.size; have := HG1.out.size; have := HWD.out; omega))))
            clear hR hV hj hxx hg8 hg9 hF FA mS KA K5 KN
            cases RB with
            | true =>
              go_wp2_with fail
              go_roundw
              case rel =>
                obtain ⟨hGn, hdL, hGm⟩ := HGG.out
                obtain ⟨hqS, hqL, hqn⟩ := HQS.out
                refine ⟨⟨q :: done, G, hI5, hM5, hG5, hGn, fun y hy => ?_, fun y => ?_⟩, HRX5.out⟩
                · rcases List.mem_cons.1 hy with rfl | hy
                  · exact hqL
                  · exact hdL y hy
                · rw [hGm, List.mem_cons]
                  constructor
                  · exact fun ⟨h1, h2⟩ => ⟨.inr h1, h2⟩
                  · rintro ⟨rfl | h1, h2⟩
                    · rw [HBAD.out] at h2; cases h2
                    · exact ⟨h1, h2⟩
              case measure => exact HDE5.out
            | false =>
              obtain ⟨w6, hup, hg6, hM6, hs6⟩ := good_update hM5 S
              have hI6 := hI5.of_blocks (hg6.block gb hI5.lt.1 (by have := HGL.out; simp; omega)) (hg6.block rb hI5.lt.2 (by have := HRN.out; simp; omega))
              have hG6 := grown_new hG5 hg6 HLB.out.2.2.2
              have HDE6 : Hid (iterLeft rb gb w6 < iterLeft rb gb wr) := by
                have := HDE5.out
                have e : iterLeft rb gb w6 = iterLeft rb gb w5 := by rw [hI6.left, hI5.left]
                show _ < _
                omega
              have HRX6 := Lib.hid (RX.trans _ _ _ HRX5.out (RX.of_grown (s0 := rb) (bs := [gb, w.heap.size]) hg6 (.inr (by simp)) (by have := HRX5.out.size; have := HWD.out; omega)))
              have HALL6 := Lib.hid (And.intro hI6 (And.intro hM6 hG6))
              clear hI5 hM5 hG5 hI6 hM6 hG6 hg6 hs6
              go_wp2_with fail
              go_roundw
              case rel =>
                obtain ⟨hGn, hdL, hGm⟩ := HGG.out
                obtain ⟨hqS, hqL, hqn⟩ := HQS.out
                obtain ⟨hI6, hM6, hG6⟩ := HALL6.out
                rw [← hqS] at hM6
                refine ⟨⟨q :: done, addK q G, hI6, hM6, hG6, nodup_addK hGn, fun y hy => ?_, fun y => ?_⟩, HRX6.out⟩
                · rcases List.mem_cons.1 hy with rfl | hy
                  · exact hqL
                  · exact hdL y hy
                · rw [mem_addK, hGm, List.mem_cons]
                  constructor
                  · rintro (rfl | ⟨h1, h2⟩)
                    · exact ⟨.inl rfl, by rw [HBAD.out]; rfl⟩
                    · exact ⟨.inr h1, h2⟩
                  · rintro ⟨rfl | h1, h2⟩
                    · exact .inl rfl
                    · exact .inr ⟨h1, h2⟩
              case measure => exact HDE6.out
      · obtain ⟨hqL, hv⟩ := setK_mem hq
        subst hv
        obtain ⟨S, hS⟩ : ∃ S, S = unq q := ⟨_, rfl⟩
        have hqS : q = q4 S := by rw [hS]; rfl
        have hrun2 : (Instr.next (.pointer (some ⟨wz.heap.size + 1, 0, none⟩)) false 0).run Tryd.prog wr = .ok (.tuple #[.bool true, .agg #[.int .i64 (S 0), .int .i64 (S 1), .int .i64 (S 2), .int .i64 (S 3)], .bool true]) wn := by rw [hrun, hqS]; rfl
        have hent2 : (Instr.entry (.pointer (some ⟨wz.heap.size + 1, 0, none⟩))).run Tryd.prog wn = .ok (.tuple #[.agg #[.int .i64 (S 0), .int .i64 (S 1), .int .i64 (S 2), .int .i64 (S 3)], .bool true]) wn := by rw [hent, hqS]; rfl
        have hMKn : MapIs quadV wz.heap.size (setK K) wn := hMK.kept hg1 (by simp)
        have KA : Free.Bel wn (wn.alloc (.cells (arrV S) 109)) := belAlloc _ _
        have mS : (wn.alloc (.cells (arrV S) 109)).heap[wn.heap.size]? = some (.cells (arrV S) 109 (0, 0)) := World.alloc_heap_new wn _
        obtain ⟨z0, z1, z2, z3, _⟩ := cells4 mS
        obtain ⟨w6, hup, hg6, hM6, hs6⟩ := good_update (hMKn.bel KA) S
        have hI6 := (hI1.bel KA).of_blocks (hg6.block gb (hI1.bel KA).lt.1 (by have := HGL.out; have := HW0.out.2.1.lt; simp; omega)) (hg6.block (wz.heap.size + 1) (hI1.bel KA).lt.2 (by simp))
        have hB6 : Below wz.heap.size wz w6 := below_grown (Below.trans (below_grown hBz hg1 (by omega) (Nat.le_refl _)) (Below.mono KA (by have := hBz.size; have := hg1.size; omega))) hg6 (Nat.le_refl _) (Nat.le_refl _)
        have HDE6 : Hid (iterLeft (wz.heap.size + 1) gb w6 < iterLeft (wz.heap.size + 1) gb wr) := by
          have h1 := iter_less hI hI1 hq hqn
          have e : iterLeft (wz.heap.size + 1) gb w6 = iterLeft (wz.heap.size + 1) gb wn := by rw [hI6.left, hI1.left]
          show _ < _
          omega
        have HALL6 := Lib.hid (show Inv3 gb wz.heap.size (wz.heap.size + 1) L wz w6 from ⟨q :: done, addK (q4 S) K, hI6, hM6, nodup_addK hKn, fun y hy => by
            rcases List.mem_cons.1 hy with rfl | hy
            · exact hqL
            · exact hdL y hy, fun y => by
            rw [mem_addK, hKm, List.mem_cons, hqS], hB6⟩)
        clear hrun hent hqS hS hI hI1 hq hqn hqL hMK hKn hdL hKm hBz hg1 hs1 hMKn KA hg6 hM6 hs6 hI6 hB6
        go_wp2_with fail
        go_roundw
        case rel => exact HALL6.out
        case measure => exact HDE6.out
end Go.Proofs.YtknpglgpkkhhiaaDoor

/- slices.Backward at maps: the iterator. -/
namespace Go.Proofs.YtknpglgpkkhhiaaDoor
set_option linter.unusedSimpArgs false
set_option linter.unusedVariables false
open Go.RowKit Go.Shelf
attribute [local go_sem] Oper.semAt_some

/-- A list backward, each with its index. -/
def revM (gs : List Nat) : Nat → List (Nat × Nat)
  | 0 => []
  | k + 1 => revM gs k ++ [(gs.length - (k + 1), gs.getD (gs.length - (k + 1)) 0)]
theorem revM_prefix (gs : List Nat) {j : Nat} : ∀ {k : Nat}, j ≤ k → revM gs j <+: revM gs k
  | 0, h => by obtain rfl : j = 0 := by omega
               exact List.prefix_refl _
  | k + 1, h => by
    by_cases e : j = k + 1
    · rw [e]; exact List.prefix_refl _
    · exact (revM_prefix gs (j := j) (k := k) (by omega)).trans (List.prefix_append _ _)
theorem revM_length (gs : List Nat) : ∀ k, (revM gs k).length = k
  | 0 => rfl
  | k + 1 => by simp [revM, revM_length gs k]
theorem revM_take (gs : List Nat) : ∀ (k j : Nat), j ≤ k → (revM gs k).take j = revM gs j
  | 0, j, h => by obtain rfl : j = 0 := by omega
                  rfl
  | k + 1, j, h => by
    by_cases e : j = k + 1
    · rw [e, List.take_of_length_le (by rw [revM_length]; exact Nat.le_refl _)]
    · rw [revM, List.take_append_of_le_length (by rw [revM_length]; omega), revM_take gs k j (by omega)]
theorem revM_at {gs : List Nat} {pre : List (Nat × Nat)} {x : Nat × Nat} (h : pre ++ [x] <+: revM gs gs.length) : ∃ hl : pre.length < gs.length, x = (gs.length - (pre.length + 1), gs.getD (gs.length - (pre.length + 1)) 0) := by
  obtain ⟨t, ht⟩ := h
  have hl : pre.length + 1 + t.length = gs.length := by have := congrArg List.length ht; simp [revM_length] at this; omega
  have h1 : pre ++ [x] = revM gs (pre.length + 1) := by
    rw [← revM_take gs gs.length (pre.length + 1) (by omega), ← ht, List.take_left' (by simp)]
  refine ⟨by omega, ?_⟩
  rw [revM] at h1
  exact (List.cons.inj (List.append_inj' h1 rfl).2).1
abbrev encM (x : Nat × Nat) : Array Value := #[.int .i64 x.1, .map (some x.2)]
def BackI (Bs g cap : Nat) (gs : List Nat) (W : World) : Prop := W.heap[Bs]? = some (.cells #[.slice (some ⟨g, 0, none⟩) gs.length cap] 137 (0, 0)) ∧ ∀ j, j < gs.length → W.cell? ⟨g, j, none⟩ = some (.map (some (gs.getD j 0)))

set_option maxRecDepth 100000 in
set_option maxHeartbeats 1000000 in
theorem backM_any (p : Option Addr) (n cap : Nat) (w : World) :
    Calls Tryd.prog 93 #[.slice p n cap] w fun e w' => e = .returned (.func (.func 109) #[] #[.pointer (some ⟨w.heap.size, 0, none⟩)]) ∧ w.alloc (.cells #[.slice p n cap] 137) = w' := by
  go_enter Tryd.func93, Tryd.ntmps93
  go_wp2_with fail
  go_ret
  exact ⟨rfl, rfl⟩

set_option maxRecDepth 100000 in
set_option maxHeartbeats 2000000 in
theorem backM1_in (n l Bs g cap : Nat) (gs : List Nat) (hn : 1 ≤ n) (W : World) (hm : gs.length ≤ 2000) (hB : BackI Bs g cap gs W) (J Jx : List (Nat × Nat) → World → Prop) (Kp : World → World → Prop) (hK : ∀ A B, BackI Bs g cap gs A → Kp A B → BackI Bs g cap gs B)
    (hY : ∀ pre x W1, pre ++ [x] <+: revM gs gs.length → J pre W1 → YieldAt Fence.wide (n - 1) Tryd.prog l (encM x) W1 fun e W' =>
      (e = .returned (.bool true) ∧ J (pre ++ [x]) W' ∧ Kp W1 W') ∨ (e = .returned (.bool false) ∧ Jx (pre ++ [x]) W'))
    (hJ0 : J [] W) :
    CallsIn Fence.wide n Tryd.prog 109 (#[.func (.yield l) #[] #[]] ++ #[.pointer (some ⟨Bs, 0, none⟩)]) W fun e W' => (∃ v, e = .returned v) ∧
      (J (revM gs gs.length) W' ∨ (∃ pre, pre <+: revM gs gs.length ∧ Jx pre W')) := by
  have HY := Lib.hid hY
  have HB := Lib.hid hB
  have hb0 := cell_of_heap (o := 0) hB.1 rfl
  clear hY hB
  refine callsIn_of_wp Tryd.func109 rfl trivial ?_ rfl
  simp only [Tryd.ntmps109, List.size_toArray, List.length_cons, List.length_nil, Nat.reduceAdd, Nat.reduceSub, Array.replicate_succ, Array.replicate_zero, List.push_toArray, List.append_toArray, List.nil_append, List.cons_append]
  gi_wp2
  clear hb0
  gi_loopw [3] (fun i wr => ∃ m : Nat, m ≤ gs.length ∧ i = .int .i64 ((m : Int) - 1) ∧ Hid (J (revM gs (gs.length - m)) wr) ∧ Hid (BackI Bs g cap gs wr)) (fun i _ => (intOf i + 1).toNat)
  case atStart => exact ⟨gs.length, Nat.le_refl _, rfl, by show J _ _; rw [Nat.sub_self]; exact hJ0, HB⟩
  case round =>
    obtain ⟨m, hk, rfl, hJs, HBI⟩ := hrel
    rcases m with _ | j
    · have hz : ((0 : Nat) : Int) - 1 = -1 := by omega
      rw [hz]
      clear hz
      gi_wp2
      go_end0
      exact ⟨⟨_, rfl⟩, .inl (by have := hJs.out; rwa [Nat.sub_zero] at this)⟩
    · have hz : (((j + 1 : Nat) : Int) - 1) = (j : Int) := by omega
      rw [hz]
      clear hz
      have hb0 := cell_of_heap (o := 0) HBI.out.1 rfl
      have c0 := HBI.out.2 j (by omega)
      have hstep : Hid (revM gs (gs.length - j) = revM gs (gs.length - (j + 1)) ++ [(j, gs.getD j 0)]) := by
        show _ = _
        rw [show gs.length - j = (gs.length - (j + 1)) + 1 by omega, revM, show gs.length - (gs.length - (j + 1) + 1) = j by omega]
      have hpx : Hid (revM gs (gs.length - (j + 1)) ++ [(j, gs.getD j 0)] <+: revM gs gs.length) := by
        show _ <+: _
        rw [← hstep.out]; exact revM_prefix gs (by omega)
      obtain ⟨x, hx⟩ : ∃ x, gs.getD j 0 = x := ⟨_, rfl⟩
      rw [hx] at c0 hstep hpx
      clear hx
      obtain ⟨fn, tmps, assign, body, hyy, hR⟩ := HY.out _ (j, x) wr hpx.out hJs.out
      dsimp only [encM] at hyy
      gi_wp2
      refine hR.mono ?_
      rintro e W3 (⟨rfl, hJ3, hk3⟩ | ⟨rfl, hJx3⟩)
      · have HK3 := Lib.hid (hK _ _ HBI.out hk3)
        have HJ3 := Lib.hid hJ3
        clear hJ3 hk3
        gi_wp2
        go_roundw
        case rel => exact ⟨j, by omega, by simp, by show J _ _; rw [hstep.out]; exact HJ3.out, HK3⟩
        case measure => simp [intOf] <;> omega
      · gi_wp2
        refine bodyPost_ret (results_none rfl _ _ _) rfl ?_
        exact ⟨⟨_, rfl⟩, .inr ⟨_, hpx.out, hJx3⟩⟩
end Go.Proofs.YtknpglgpkkhhiaaDoor

/- The lead and the round, where it can go on for ever. -/
namespace Go.Proofs.YtknpglgpkkhhiaaDoor
set_option linter.unusedSimpArgs false
set_option linter.unusedVariables false
open Go.RowKit Go.Proofs.YtknpglgpkkhhiaaDoor.Free2 Go.Proofs.YtknpglgpkkhhiaaDoor.ML RR
attribute [local go_sem] Oper.semAt_some

theorem T.uAt : Tryd.prog.underlying 129 = some (.map 109 3) := by kernel_rfl
theorem T.zIntS (w : World) : (zeroValue 3).run Tryd.prog w = .ok (.int .i64 0) w := by kernel_rfl
theorem slice_lead (g m cap i : Nat) (h : i ≤ cap) (W : World) : (Instr.slice 25 (.slice (some ⟨g, 0, none⟩) m cap) none (some (.int .i64 i)) (some (.int .i64 i))).run Tryd.prog W = .ok (.slice (some ⟨g, 0, none⟩) i i) W := by
  have h1 : (0 : Int) ≤ i := by omega
  have h2 : (i : Int) ≤ cap := by omega
  have hs : (sizeOf 58).run Tryd.prog W = .ok 1 W := by kernel_rfl
  simp [Instr.slice, run_underlying Tryd.underlying25, Instr.sliceBounds, run_sliceBound, h1, h2, hs]
  intro h9
  simp [Addr.add]
theorem slice_rest (g m cap i : Nat) (h : i < m) (hc : m ≤ cap) (W : World) : (Instr.slice 25 (.slice (some ⟨g, 0, none⟩) m cap) (some (.int .i64 i)) none none).run Tryd.prog W = .ok (.slice (some ⟨g, i, none⟩) (m - i) (cap - i)) W := by
  have h1 : (0 : Int) ≤ i := by omega
  have h2 : (i : Int) ≤ m := by omega
  have hs : (sizeOf 58).run Tryd.prog W = .ok 1 W := by kernel_rfl
  have h3 : ¬ cap = i := by omega
  simp [Instr.slice, run_underlying Tryd.underlying25, Instr.sliceBounds, run_sliceBound, h1, h2, hs, h3]
  rw [addE]
  simp
/-- What was seen: each state with its day. -/
noncomputable def seenL (h : Int) (xs : List Rk) (m : Nat) : List (Q4 × Value) := (List.range m).map fun i => (q4 (waits (planS h xs i)), .int .i64 (i : Int))
theorem seenL_succ (h : Int) (xs : List Rk) (m : Nat) : seenL h xs (m + 1) = seenL h xs m ++ [(q4 (waits (planS h xs m)), .int .i64 (m : Int))] := by simp [seenL, List.range_succ]
theorem assoc_none_iff {κ β : Type} [DecidableEq κ] (x : κ) : ∀ l : List (κ × β), assoc x l = none ↔ ∀ y ∈ l, y.1 ≠ x
  | [] => by simp [assoc]
  | y :: r => by
    have ih := assoc_none_iff x r
    by_cases h : x = y.1
    · simp [assoc, h]
    · have h' : ¬ y.1 = x := fun e => h e.symm
      simp [assoc, h, h', ih]
theorem assocI_none {κ β : Type} [DecidableEq κ] {x : κ} {l : List (κ × β)} (h : assoc x l = none) (i : Nat) : assocI x l i = none := by
  have := assocI_map x l i
  rw [h] at this
  simpa using this
theorem seen_none {h : Int} {xs : List Rk} {m : Nat} (h4 : xs.length ≤ 4) (hs : ∀ n, StOf xs (planS h xs n)) (hno : ∀ i, i < m → planS h xs i ≠ planS h xs m) : assoc (q4 (waits (planS h xs m))) (seenL h xs m) = none := by
  rw [assoc_none_iff]
  intro y hy
  obtain ⟨i, hi, rfl⟩ := List.mem_map.1 hy
  exact fun e => hno i (List.mem_range.1 hi) (q4_inj (hs i).1 (hs m).1 h4 e)
theorem seen_some {h : Int} {xs : List Rk} {m i : Nat} (h4 : xs.length ≤ 4) (hs : ∀ n, StOf xs (planS h xs n)) (hd : ∀ a b, a < b → b < m → planS h xs a ≠ planS h xs b) (hi : i < m) (he : planS h xs i = planS h xs m) : assoc (q4 (waits (planS h xs m))) (seenL h xs m) = some (.int .i64 (i : Int)) := by
  cases ha : assoc (q4 (waits (planS h xs m))) (seenL h xs m) with
  | none =>
    rw [assoc_none_iff] at ha
    exact absurd (by rw [he]) (ha _ (List.mem_map.2 ⟨i, List.mem_range.2 hi, rfl⟩))
  | some v =>
    have hm := assoc_mem ha
    obtain ⟨j, hj, e⟩ := List.mem_map.1 hm
    simp only [Prod.mk.injEq] at e
    obtain ⟨e1, rfl⟩ := e
    have hj := List.mem_range.1 hj
    have e2 : planS h xs j = planS h xs i := (q4_inj (hs j).1 (hs m).1 h4 e1).trans he.symm
    have : j = i := by
      rcases Nat.lt_trichotomy j i with h9 | h9 | h9
      · exact absurd e2 (hd j i h9 hi)
      · exact h9
      · exact absurd e2.symm (hd i j h9 hj)
    rw [this]
theorem distinct_le {h : Int} {xs : List Rk} {L : List Q4} {m : Nat} (h4 : xs.length ≤ 4) (hE : EverIs h xs L) (hs : ∀ n, StOf xs (planS h xs n) ∧ everB h (planS h xs n) = true) (hd : ∀ a b, a < b → b < m → planS h xs a ≠ planS h xs b) : m ≤ L.length := by
  have hn : ((List.range m).map fun i => q4 (waits (planS h xs i))).Nodup := by
    rw [List.nodup_iff_pairwise_ne, List.pairwise_map]
    refine List.Pairwise.imp_of_mem (fun {a b} ha hb hab e => ?_) (List.pairwise_lt_range)
    exact hd a b hab (List.mem_range.1 hb) (q4_inj (hs a).1.1 (hs b).1.1 h4 e)
  have := nodup_sub_length (L := L) hn fun q hq => by
    obtain ⟨i, _, rfl⟩ := List.mem_map.1 hq
    exact (hE.2 _).2 ⟨_, (hs i).1, (hs i).2, rfl⟩
  simpa using this
theorem ever_small {h : Int} {xs : List Rk} {L : List Q4} (hw : watchB h xs = true) (hE : EverIs h xs L) : L.length ≤ 1296 := by
  have hx1 : ∀ x ∈ xs, 1 ≤ x.2.1 := fun x hx => (watchB_ok hw x hx).2.2.1
  have h1 := nodup_sub_length (L := (allY xs).map fun ys => q4 (waits ys)) hE.1 fun q hq => by
    obtain ⟨ys, hy, _, rfl⟩ := (hE.2 q).1 hq
    exact List.mem_map.2 ⟨ys, (mem_allY hx1).2 hy, rfl⟩
  have h2 := (prodE_bound (xs := xs) fun x hx => ⟨(watchB_ok hw x hx).2.2.1, (watchB_ok hw x hx).2.2.2.1⟩).2
  have h4 := (watchB_iff.1 hw).2.1
  have h6 : (6 : Int) ^ xs.length ≤ 1296 := by
    rcases (show xs.length = 0 ∨ xs.length = 1 ∨ xs.length = 2 ∨ xs.length = 3 ∨ xs.length = 4 by omega) with e | e | e | e | e <;> rw [e] <;> decide
  simp [allY] at h1
  omega
theorem prefix_plan {h : Int} {xs : List Rk} {N : Nat} {pre : List (List Rk × List Int)} {x : List Rk × List Int} (hp : pre ++ [x] <+: planP h xs N) : x = (planS h xs pre.length, stepE h (planS h xs pre.length)) := by
  obtain ⟨t, ht⟩ := hp
  have h1 : (planP h xs N)[pre.length]? = some x := by rw [← ht]; simp
  unfold planP at h1
  rw [List.getElem?_map] at h1
  cases hr : (List.range N)[pre.length]? with
  | none => rw [hr] at h1; cases h1
  | some k =>
    rw [hr] at h1
    have : k = pre.length := by
      obtain ⟨_, e⟩ := List.getElem?_eq_some_iff.1 hr
      simpa using e.symm
    subst this
    simpa using h1.symm
theorem own_le {base : Nat} {e : TypeId} {size n : Nat} {v : Value} {xs : List Value} {W : World} (h : W.ownsRow base e size v n xs) : n ≤ maxLen := by
  rcases h.2 with ⟨_, rfl⟩ | ⟨g, cap, cur, _, _, _, h1, h2, _⟩
  · exact Nat.zero_le _
  · omega
theorem DO.part {base g m cap a n c : Nat} {ds : List (List Int)} {W : World} (h : DO base ds (.slice (some ⟨g, 0, none⟩) m cap) W) (hl : a + n ≤ ds.length) : DZ ((ds.drop a).take n) (.slice (some ⟨g, a, none⟩) n c) W := by
  obtain ⟨vs, hvl, ho, hr⟩ := h
  have hlen : ((ds.drop a).take n).length = n := by simp; omega
  have hle := own_le ho
  refine ⟨_, c, by rw [hlen], (by rw [hlen]; omega), (fun e => by cases e), fun hne => ⟨g, a, rfl, fun k hk => ?_⟩⟩
  have hk' : k < n := by rw [hlen] at hk; exact hk
  have hkv : a + k < vs.length := by omega
  have hu := List.getElem?_eq_getElem hkv
  have hc := ho.cells (g := g) (by simp [Value.ownBlock]) (a + k) vs[a + k] hu
  rw [addE, Nat.zero_add] at hc
  obtain ⟨b0, hrow⟩ := hr (a + k) (by omega) _ hu
  refine ⟨vs[a + k], hc, ?_, NZ.row hrow⟩
  have he : ((ds.drop a).take n)[k] = ds[a + k] := by simp
  rw [he]
  exact IL.of_own (own_le hrow) hrow
/-- The invariant of the round. -/
structure RndI (w : World) (mb bm lb n0 : Nat) (h : Int) (xs : List Rk) (m : Nat) (W : World) : Prop where
  bel : Below w.heap.size w W
  n1 : W.heap[w.heap.size + 1]? = some (.cells #[.slice none 0 0] 25 (0, 0))
  n2 : W.heap[w.heap.size + 1 + 1]? = some (.cells #[.slice none 0 0] 25 (0, 0))
  n3 : W.heap[w.heap.size + 1 + 1 + 1]? = some (.cells #[.int .i64 0] 31 (0, 0))
  mp : MapIs quadV mb (seenL h xs m) W
  bm : W.heap[bm]? = some (.cells #[.map (some mb)] 129 (0, 0))
  sz : n0 ≤ W.heap.size
  row : ∃ v, W.heap[lb]? = some (.cells #[v] 25 (0, 0)) ∧ DO lb (planL h xs m) v W
  dis : ∀ a b, a < b → b < m → planS h xs a ≠ planS h xs b
theorem RndI.rq {w : World} {mb bm lb n0 : Nat} {h : Int} {xs : List Rk} {m : Nat} {A B : World} (H : RndI w mb bm lb n0 h xs m A) (hR : RQ n0 A B) (hn : w.heap.size + 4 ≤ n0) (h1 : mb < n0) (h2 : bm < n0) (h3 : lb < n0) : RndI w mb bm lb n0 h xs m B :=
  ⟨H.bel.trans (hR.below.mono (by omega)), (hR.below.block _ (by omega)).trans H.n1, (hR.below.block _ (by omega)).trans H.n2, (hR.below.block _ (by omega)).trans H.n3, H.mp.of_block (hR.below.block _ h1), (hR.below.block _ h2).trans H.bm, Nat.le_trans H.sz hR.below.size, let ⟨v, a1, a2⟩ := H.row; ⟨v, (hR.below.block _ h3).trans a1, a2.rq hR⟩, H.dis⟩
theorem RndI.own {w : World} {mb bm lb n0 : Nat} {h : Int} {xs : List Rk} {m : Nat} {A B : World} {row : Option Nat} (H : RndI w mb bm lb n0 h xs m A) (hg : A.grownBy B row) (hr : ∀ r, row = some r → n0 ≤ r ∧ ∃ o : Obj, A.heap[r]? = some o ∧ o.isCells = false) (hn : w.heap.size + 4 ≤ n0) (h1 : mb < n0) (h2 : bm < n0) (h3 : lb < n0) : RndI w mb bm lb n0 h xs m B := by
  have hne : ∀ b, b < n0 → some b ≠ row := fun b hb e => by have := (hr _ e.symm).1; omega
  obtain ⟨v, a1, a2⟩ := H.row
  exact ⟨H.bel.trans (Below.of_grown hg H.bel.size (fun r e => by have := (hr r e).1; omega)), heap_grown H.n1 hg (hne _ (by omega)), heap_grown H.n2 hg (hne _ (by omega)), heap_grown H.n3 hg (hne _ (by omega)), H.mp.kept hg (hne _ h1), heap_grown H.bm hg (hne _ h2), Nat.le_trans H.sz hg.size, ⟨v, heap_grown a1 hg (hne _ h3), a2.own hg hr⟩, H.dis⟩
theorem RndI.step {w W W6 W9 : World} {mb bm lb n0 : Nat} {h : Int} {xs : List Rk} {m : Nat} {vl v' u : Value} {vs : List Value} {o : Obj} (H : RndI w mb bm lb n0 h xs m W) (hg6 : W.grownBy W6 (some mb)) (hm6 : MapIs quadV mb (seenL h xs (m + 1)) W6) (hl : W.heap[lb]? = some (.cells #[vl] 25 (0, 0))) (hvl : vs.length = (planL h xs m).length) (how : W.ownsRow lb 58 1 vl (planL h xs m).length vs) (hdr : ∀ (i : Nat) (h2 : i < (planL h xs m).length) u, vs[i]? = some u → DayR (planL h xs m)[i] u W) (hu : DayR (stepE h (planS h xs m)) u W)
    (hg : World.grownBy (W6.alloc o) W9 vl.ownBlock) (ho' : W9.ownsRow lb 58 1 v' ((planL h xs m).length + 1) (vs ++ [u])) (hw : w.heap.size + 4 ≤ mb) (h1 : bm = mb + 1) (h2 : lb = mb + 1 + 1) (hln : n0 = mb + 4) (hno : ∀ i, i < m → planS h xs i ≠ planS h xs m) :
    KeepsFrom n0 W (W9.setCell ⟨lb, 0, none⟩ v') ∧ KP mb [lb] W (W9.setCell ⟨lb, 0, none⟩ v') ∧ RndI w mb bm lb n0 h xs (m + 1) (W9.setCell ⟨lb, 0, none⟩ v') := by
  have hW6 : ∀ (k : Nat) q, W.heap[k]? = some q → k ≠ mb → W6.heap[k]? = some q := fun k q hk hne => heap_grown hk hg6 (by simpa using hne)
  have hmbc : ∀ (k : Nat) c e f, W.heap[k]? = some (.cells c e f) → k ≠ mb := fun k c e f hk e9 => by
    subst e9
    obtain ⟨q, h8, h9⟩ := H.mp.obj
    rw [hk] at h8
    cases h8
    cases h9
  have how6 : W6.ownsRow lb 58 1 vl (planL h xs m).length vs := own_typed how fun k c f hk => hW6 k _ hk (hmbc _ _ _ _ hk)
  have hl6 := hW6 lb _ hl (by omega)
  have hdi : ∀ {d : List Int} {u : Value}, DayR d u W → DayR d u W6 := fun hd => hd.stay fun k c f hk => hW6 k _ hk (hmbc _ _ _ _ hk)
  have hkp6 : KP mb [lb] W W6 := ⟨hg6.os, hg6.tape, hg6.output, hg6.size, fun k q hk hc => hW6 k q hk (by
    rcases hc with hc | ⟨hc, _⟩
    · omega
    · rintro rfl
      obtain ⟨q', h8, h9⟩ := H.mp.obj
      rw [hk] at h8
      cases h8
      rw [hc] at h9
      cases h9)⟩
  have hkp : KP mb [lb] W6 W9 := (KP.of_bel (belAlloc _ _)).trans (KP.grown (how6.alloc _) (by omega) hg)
  have hkp2 : KP mb [lb] W (W9.setCell ⟨lb, 0, none⟩ v') := (hkp6.trans hkp).trans (KP.set (by omega) (by simp))
  have hbx := box_grown hl6 how6 hg
  have hsz : mb ≤ W.heap.size := by have := H.sz; omega
  have hB := hkp2.below hsz
  refine ⟨((KeepsFrom.of_grownBy hg6 (by simp; omega)).trans (keepsFrom_row how6 hg)).trans ((KeepsOthers.setCell _ _ _).from _), hkp2, H.bel.trans (hB.mono (by omega)), (hB.block _ (by omega)).trans H.n1, (hB.block _ (by omega)).trans H.n2, (hB.block _ (by omega)).trans H.n3, ?_, ?_, Nat.le_trans H.sz hkp2.size, ⟨v', ?_, ?_⟩, fun a b hab hb => ?_⟩
  · have h8 : MapIs quadV mb (seenL h xs (m + 1)) W9 := (hm6.bel (belAlloc _ o)).kept hg (fun e => by
      rcases how6.2 with ⟨h9, _⟩ | ⟨g, cap, cur, h9, _, hg2, _⟩
      · rw [h9] at e; simp [Value.ownBlock] at e
      · rw [h9] at e
        simp [Value.ownBlock] at e
        subst e
        obtain ⟨q, h8, h9⟩ := hm6.obj
        rw [hg2] at h8
        cases h8
        cases h9)
    exact h8.of_block (heap_setCell_other (by omega))
  · exact hkp2.keep bm _ H.bm (.inr ⟨rfl, by simp; omega, fun _ _ e => by cases e⟩)
  · have := heap_setCell_same (o := 0) v' hbx
    simpa using this
  · rw [planL_succ]
    have hst : ∀ (k : Nat) c f, W6.heap[k]? = some (.cells c 3 f) → (W6.alloc o).heap[k]? = some (.cells c 3 f) := fun k c f hk => heap_old hk
    have h9 := DO.snoc (d := stepE h (planS h xs m)) hvl (how6.alloc o) (fun i hi u hu => (hdi (hdr i hi u hu)).stay hst) ((hdi hu).stay hst) hg ho'
    refine h9.stay (fun k c f hk => heap_other hk fun e => ?_) fun k c f hk => heap_other hk fun e => ?_
    · simp at e; subst e; rw [hbx] at hk; cases hk
    · simp at e; subst e; rw [hbx] at hk; cases hk
  · by_cases hbm : b < m
    · exact H.dis a b hab hbm
    · obtain rfl : b = m := by omega
      exact hno a hab
/-- What lies there when the round is told. -/
structure RndX (w : World) (lb : Nat) (h : Int) (xs : List Rk) (i m : Nat) (W : World) : Prop where
  bel : Below w.heap.size w W
  rd : RoundIs h xs i m
  row : ∃ g cap, DO lb (planL h xs m) (.slice (some ⟨g, 0, none⟩) m cap) W ∧ m ≤ cap ∧ W.heap[w.heap.size + 1]? = some (.cells #[.slice (some ⟨g, 0, none⟩) i i] 25 (0, 0)) ∧ W.heap[w.heap.size + 1 + 1]? = some (.cells #[.slice (some ⟨g, i, none⟩) (m - i) (cap - i)] 25 (0, 0))
  n3 : W.heap[w.heap.size + 1 + 1 + 1]? = some (.cells #[.int .i64 0] 31 (0, 0))
theorem RndX.rq {w : World} {lb n0 : Nat} {h : Int} {xs : List Rk} {i m : Nat} {A B : World} (H : RndX w lb h xs i m A) (hR : RQ n0 A B) (hn : w.heap.size + 4 ≤ n0) : RndX w lb h xs i m B :=
  ⟨H.bel.trans (hR.below.mono (by omega)), H.rd, let ⟨g, cap, a1, a2, a3, a4⟩ := H.row; ⟨g, cap, a1.rq hR, a2, (hR.below.block _ (by omega)).trans a3, (hR.below.block _ (by omega)).trans a4⟩, (hR.below.block _ (by omega)).trans H.n3⟩
theorem RndX.own {w : World} {lb n0 : Nat} {h : Int} {xs : List Rk} {i m : Nat} {A B : World} {row : Option Nat} (H : RndX w lb h xs i m A) (hg : A.grownBy B row) (hr : ∀ r, row = some r → n0 ≤ r ∧ ∃ o : Obj, A.heap[r]? = some o ∧ o.isCells = false) (hn : w.heap.size + 4 ≤ n0) : RndX w lb h xs i m B := by
  have hne : ∀ b, b < n0 → some b ≠ row := fun b hb e => by have := (hr _ e.symm).1; omega
  obtain ⟨g, cap, a1, a2, a3, a4⟩ := H.row
  exact ⟨H.bel.trans (Below.of_grown hg H.bel.size (fun r e => by have := (hr r e).1; omega)), H.rd, ⟨g, cap, a1.own hg hr, a2, heap_grown a3 hg (hne _ (by omega)), heap_grown a4 hg (hne _ (by omega))⟩, heap_grown H.n3 hg (hne _ (by omega))⟩
set_option maxRecDepth 100000 in
set_option maxHeartbeats 16000000 in
theorem round_b (h : Int) (xs : List Rk) (u : Value) (w : World) (hT : TabR w) (hu : RL xs u w) (hw : watchB h xs = true) (he : everB h xs = true) :
    Calls Tryd.prog 41 #[.agg #[.int .i64 h, u]] w fun e w' => (∃ i j vl vr, RoundIs h xs i j ∧ e = .returned (.tuple #[vl, vr, .int .i64 0]) ∧ DZ (planL h xs i) vl w' ∧ DZ ((planL h xs j).drop i) vr w') ∧ Below w.heap.size w w' := by
  have HU := Lib.hid hu
  obtain ⟨p, cp, rfl, _, _⟩ := hu
  have KB : Free.Bel w ((((w.alloc (.cells #[.int .i64 h, .slice p xs.length cp] 24)).alloc (.cells #[.slice none 0 0] 25)).alloc (.cells #[.slice none 0 0] 25)).alloc (.cells #[.int .i64 0] 31)) := bt (bt (bt (belAlloc _ _) (belAlloc _ _)) (belAlloc _ _)) (belAlloc _ _)
  have m0 : ((((w.alloc (.cells #[.int .i64 h, .slice p xs.length cp] 24)).alloc (.cells #[.slice none 0 0] 25)).alloc (.cells #[.slice none 0 0] 25)).alloc (.cells #[.int .i64 0] 31)).heap[w.heap.size]? = some (.cells #[.int .i64 h, .slice p xs.length cp] 24 (0, 0)) := heap_old (heap_old (heap_old (World.alloc_heap_new w _)))
  have m1 : ((((w.alloc (.cells #[.int .i64 h, .slice p xs.length cp] 24)).alloc (.cells #[.slice none 0 0] 25)).alloc (.cells #[.slice none 0 0] 25)).alloc (.cells #[.int .i64 0] 31)).heap[w.heap.size + 1]? = some (.cells #[.slice none 0 0] 25 (0, 0)) := heap_old (heap_old (by
    have := World.alloc_heap_new (w.alloc (.cells #[.int .i64 h, .slice p xs.length cp] 24)) (.cells #[.slice none 0 0] 25)
    simpa using this))
  have m2 : ((((w.alloc (.cells #[.int .i64 h, .slice p xs.length cp] 24)).alloc (.cells #[.slice none 0 0] 25)).alloc (.cells #[.slice none 0 0] 25)).alloc (.cells #[.int .i64 0] 31)).heap[w.heap.size + 1 + 1]? = some (.cells #[.slice none 0 0] 25 (0, 0)) := heap_old (by
    have := World.alloc_heap_new ((w.alloc (.cells #[.int .i64 h, .slice p xs.length cp] 24)).alloc (.cells #[.slice none 0 0] 25)) (.cells #[.slice none 0 0] 25)
    simpa using this)
  have m3 : ((((w.alloc (.cells #[.int .i64 h, .slice p xs.length cp] 24)).alloc (.cells #[.slice none 0 0] 25)).alloc (.cells #[.slice none 0 0] 25)).alloc (.cells #[.int .i64 0] 31)).heap[w.heap.size + 1 + 1 + 1]? = some (.cells #[.int .i64 0] 31 (0, 0)) := by
    have := World.alloc_heap_new (((w.alloc (.cells #[.int .i64 h, .slice p xs.length cp] 24)).alloc (.cells #[.slice none 0 0] 25)).alloc (.cells #[.slice none 0 0] 25)) (.cells #[.int .i64 0] 31)
    simpa using this
  have FA : ∀ W, Free.Bel ((((w.alloc (.cells #[.int .i64 h, .slice p xs.length cp] 24)).alloc (.cells #[.slice none 0 0] 25)).alloc (.cells #[.slice none 0 0] 25)).alloc (.cells #[.int .i64 0] 31)) W → W.cell? ⟨w.heap.size, 0, none⟩ = some (.int .i64 h) ∧ W.cell? ⟨w.heap.size, 1, none⟩ = some (.slice p xs.length cp) := fun W hW => ⟨keepsB hW (cell_of_heap m0 rfl), keepsB hW (cell_of_heap m0 rfl)⟩
  have KE : Free.Bel ((((w.alloc (.cells #[.int .i64 h, .slice p xs.length cp] 24)).alloc (.cells #[.slice none 0 0] 25)).alloc (.cells #[.slice none 0 0] 25)).alloc (.cells #[.int .i64 0] 31)) ((((w.alloc (.cells #[.int .i64 h, .slice p xs.length cp] 24)).alloc (.cells #[.slice none 0 0] 25)).alloc (.cells #[.slice none 0 0] 25)).alloc (.cells #[.int .i64 0] 31)) := Free.Bel.refl _
  have HGO := Lib.hid (going_v h xs _ ((((w.alloc (.cells #[.int .i64 h, .slice p xs.length cp] 24)).alloc (.cells #[.slice none 0 0] 25)).alloc (.cells #[.slice none 0 0] 25)).alloc (.cells #[.int .i64 0] 31)) (hT.bel KB) (HU.out.keeps KB) 0 (by show _ = _; unfold goE; simp [hw, he]))
  have hmm := @run_makeMap Tryd.prog
  have HKB := Lib.hid (And.intro KB (And.intro m1 (And.intro m2 m3)))
  have HWE := Lib.hid (And.intro hw he)
  clear hT m0 m1 m2 m3 hw he
  refine (callsIn_wide (n := 5)).1 ?_
  refine callsIn_of_wp_marks Tryd.func41 rfl trivial ?_ rfl
  simp only [Tryd.ntmps41, List.size_toArray, List.length_cons, List.length_nil, Nat.reduceAdd, Nat.reduceSub, Array.replicate_succ, Array.replicate_zero, List.push_toArray, List.append_toArray, an1, an2]
  refine wpIn_wide.2 ?_
  go_wp2_with fail
  refine HGO.out.mono ?_
  rintro e w1 ⟨hG, hB1⟩
  obtain ⟨yb, gb, v0, dv, L, rfl, hye, hy1, hy2⟩ : ∃ yb gb u dv L, e = .returned (.tuple #[.pointer (some ⟨yb, 0, none⟩), .int .i64 0]) ∧ YE yb gb h xs u dv L w1 ∧ ((((w.alloc (.cells #[.int .i64 h, .slice p xs.length cp] 24)).alloc (.cells #[.slice none 0 0] 25)).alloc (.cells #[.slice none 0 0] 25)).alloc (.cells #[.int .i64 0] 31)).heap.size ≤ yb ∧ ((((w.alloc (.cells #[.int .i64 h, .slice p xs.length cp] 24)).alloc (.cells #[.slice none 0 0] 25)).alloc (.cells #[.slice none 0 0] 25)).alloc (.cells #[.int .i64 0] 31)).heap.size ≤ gb := by
    rcases hG with ⟨h9, _⟩ | ⟨_, h9⟩
    · exact absurd rfl h9
    · exact h9
  have K1 : Free.Bel ((((w.alloc (.cells #[.int .i64 h, .slice p xs.length cp] 24)).alloc (.cells #[.slice none 0 0] 25)).alloc (.cells #[.slice none 0 0] 25)).alloc (.cells #[.int .i64 0] 31)) w1 := hB1
  have HYE := Lib.hid hye
  have n3 := (K1.block _ (lt_of_heap HKB.out.2.2.2)).trans HKB.out.2.2.2
  have y0 := cell_of_heap (o := 0) n3 rfl
  have y1 := frozen_of_heap (o := 0) n3
  have HB1 := Lib.hid (And.intro K1 n3)
  clear hG hB1 hye hy1 hy2 n3 KE FA K1 KB
  go_wp2_with fail
  have KC : Free.Bel w1 ((((w1.setCell ⟨w.heap.size + 1 + 1 + 1, 0, none⟩ (.int .i64 0)).alloc (.map #[] 0)).alloc (.cells #[.map (some w1.heap.size)] 129)).alloc (.cells #[.slice none 0 0] 25)) := bt (bel_same HB1.out.2) (bt (belAlloc _ _) (bt (belAlloc _ _) (belAlloc _ _)))
  have cm : MapIs quadV w1.heap.size (seenL h xs 0) ((((w1.setCell ⟨w.heap.size + 1 + 1 + 1, 0, none⟩ (.int .i64 0)).alloc (.map #[] 0)).alloc (.cells #[.map (some w1.heap.size)] 129)).alloc (.cells #[.slice none 0 0] 25)) := by
    have h9 := MapIs.made quadV (w1.setCell ⟨w.heap.size + 1 + 1 + 1, 0, none⟩ (.int .i64 0))
    simp only [World.size_setCell] at h9
    exact (h9.bel (belAlloc _ _)).bel (belAlloc _ _)
  have cb : ((((w1.setCell ⟨w.heap.size + 1 + 1 + 1, 0, none⟩ (.int .i64 0)).alloc (.map #[] 0)).alloc (.cells #[.map (some w1.heap.size)] 129)).alloc (.cells #[.slice none 0 0] 25)).heap[w1.heap.size + 1]? = some (.cells #[.map (some w1.heap.size)] 129 (0, 0)) := heap_old (by
    have := World.alloc_heap_new ((w1.setCell ⟨w.heap.size + 1 + 1 + 1, 0, none⟩ (.int .i64 0)).alloc (.map #[] 0)) (.cells #[.map (some w1.heap.size)] 129)
    simpa using this)
  have cl : ((((w1.setCell ⟨w.heap.size + 1 + 1 + 1, 0, none⟩ (.int .i64 0)).alloc (.map #[] 0)).alloc (.cells #[.map (some w1.heap.size)] 129)).alloc (.cells #[.slice none 0 0] 25)).heap[w1.heap.size + 1 + 1]? = some (.cells #[.slice none 0 0] 25 (0, 0)) := by
    have := World.alloc_heap_new (((w1.setCell ⟨w.heap.size + 1 + 1 + 1, 0, none⟩ (.int .i64 0)).alloc (.map #[] 0)).alloc (.cells #[.map (some w1.heap.size)] 129)) (.cells #[.slice none 0 0] 25)
    simpa using this
  have hsC : ((((w1.setCell ⟨w.heap.size + 1 + 1 + 1, 0, none⟩ (.int .i64 0)).alloc (.map #[] 0)).alloc (.cells #[.map (some w1.heap.size)] 129)).alloc (.cells #[.slice none 0 0] 25)).heap.size = w1.heap.size + 3 := by simp
  clear y0 y1
  generalize ((((w1.setCell ⟨w.heap.size + 1 + 1 + 1, 0, none⟩ (.int .i64 0)).alloc (.map #[] 0)).alloc (.cells #[.map (some w1.heap.size)] 129)).alloc (.cells #[.slice none 0 0] 25)) = C at *
  refine (plan_any yb C).mono ?_
  rintro e w5 ⟨rfl, hw5⟩
  have K5 : Free.Bel C w5 := by rw [← hw5]; exact belAlloc _ _
  have mY : w5.heap[w1.heap.size + 3]? = some (.cells #[.pointer (some ⟨yb, 0, none⟩)] 108 (0, 0)) := by
    rw [← hw5, ← hsC]
    exact World.alloc_heap_new C _
  have hs5 : w5.heap.size = w1.heap.size + 4 := by rw [← hw5]; simp [hsC]
  have K15 : Free.Bel w1 w5 := bt KC K5
  have hws : w.heap.size + 4 ≤ w1.heap.size := by have := HB1.out.1.size; simp at this; omega
  rw [hsC]
  have hseq : SeqN Fence.wide (5 - 1) Tryd.prog 102 #[.pointer (some ⟨w1.heap.size + 3, 0, none⟩)] EP (RQ w5.heap.size) (KP w1.heap.size [w1.heap.size + 1 + 1]) (planP h xs (L.length + 1)) w5 := fun l J Jx W hW hJ hJx hY hno h0 =>
    plan1_in (5 - 1) l w5.heap.size (w1.heap.size + 3) yb gb (L.length + 1) [w1.heap.size + 1 + 1] h xs v0 dv L (by omega) w1 W HYE.out HWE.out.1 HWE.out.2 ((hW.below.block _ (by omega)).trans mY) (by omega) (by simp) (by simp; omega) (by omega) hW.below.size (Below.trans (show Below w1.heap.size w1 w5 from K15) (hW.below.mono (by omega))) J Jx hJ hJx hY hno h0
  have HSEQ := Lib.hid hseq
  have HI := Lib.hid (show RndI w w1.heap.size (w1.heap.size + 1) (w1.heap.size + 1 + 1) w5.heap.size h xs 0 w5 from
    ⟨bt HKB.out.1 (bt HB1.out.1 K15), ((bt HB1.out.1 K15).block _ (lt_of_heap HKB.out.2.1)).trans HKB.out.2.1, ((bt HB1.out.1 K15).block _ (lt_of_heap HKB.out.2.2.1)).trans HKB.out.2.2.1, ((bt HB1.out.1 K15).block _ (lt_of_heap HKB.out.2.2.2)).trans HKB.out.2.2.2, cm.bel K5, (K5.block _ (lt_of_heap cb)).trans cb, Nat.le_refl _, ⟨_, (K5.block _ (lt_of_heap cl)).trans cl, DO.nil _ _⟩, fun a b _ hb => absurd hb (Nat.not_lt_zero _)⟩)
  have HS := Lib.hid (And.intro hs5 hws)
  have HPS := Lib.hid (planS_ever (st_self HWE.out.1) HWE.out.2)
  have HLL := Lib.hid (ever_small HWE.out.1 HYE.out.ev)
  clear hseq mY K5 K15 KC cm cb cl hs5 hws hw5 hsC
  go_wp2_with fail
  refine (wpIn_wide (n := 5)).1 ?_
  refine wpIn_rangeFunc_RN (F := Fence.wide) (n := 5) rfl (by omega) (gf := 102) (lb := #[.pointer (some ⟨w1.heap.size + 3, 0, none⟩)]) rfl trivial (enters_of Tryd.func102 (by kernel_rfl) rfl)
    HSEQ.out (fun A b hA h => h.trans (.of_bel (belAlloc A b) hA)) (RQ.refl _ _) (fun A B k b h _ hc hA => h.other k b hA fun c f e => by rw [e] at hc; cases hc)
    KP.trans (fun W l b b' hl h hc _ => KP.put h hc (by have := HS.out.1; omega)) (fun x vs W hE => by obtain ⟨v, rfl, _⟩ := hE; rfl)
    (fun pre W => RndI w w1.heap.size (w1.heap.size + 1) (w1.heap.size + 1 + 1) w5.heap.size h xs pre.length W)
    (fun c pre W => c = .ret ∧ ∃ i m, RndX w (w1.heap.size + 1 + 1) h xs i m W)
    ?own ?ownx ?abide ?abidex HI.out
    (fun x a' W => ∃ q m c B, DayR x.2 (.slice q m c) W ∧ w5.heap.size ≤ B ∧ W.heap[B]? = some (.cells (arrV (waits x.1)) 109 (0, 0)) ∧ a' = { tmps := #[.agg #[.int .i64 h, .slice p xs.length cp], .pointer (some ⟨w.heap.size, 0, none⟩), .pointer (some ⟨w.heap.size + 1, 0, none⟩), .pointer (some ⟨w.heap.size + 1 + 1, 0, none⟩), .pointer (some ⟨w.heap.size + 1 + 1 + 1, 0, none⟩), .pointer (some ⟨yb, 0, none⟩), .pointer (some ⟨w1.heap.size + 1, 0, none⟩), .pointer (some ⟨w1.heap.size + 1 + 1, 0, none⟩), .pointer (some ⟨B, 0, none⟩), .slice q m c, undef, undef, .tuple #[.pointer (some ⟨yb, 0, none⟩), .int .i64 0], .agg #[.int .i64 h, .slice p xs.length cp], .tuple #[.pointer (some ⟨yb, 0, none⟩), .int .i64 0], .pointer (some ⟨yb, 0, none⟩), .int .i64 0, .int .i64 0, .bool false, undef, .map (some w1.heap.size), .pointer (some ⟨yb, 0, none⟩), .func (.func 102) #[] #[.pointer (some ⟨w1.heap.size + 3, 0, none⟩)], stV (waits x.1), .slice q m c, undef, undef, undef, undef, undef, undef, undef, undef, undef, undef, undef, undef, undef, undef, undef, undef, undef, undef, undef, undef, undef, undef], defers := [] })
    ?hAx ?assign ?body (fun W hW => by
      have h9 := distinct_le (m := L.length + 1) (watchB_iff.1 HWE.out.1).2.1 HYE.out.ev HPS.out (by have := hW.dis; simpa [planP] using this)
      omega) ?stop
  case own =>
    rintro pre A B row h1 hgr hrow
    have hs := HS.out
    exact h1.own hgr hrow (by omega) (by omega) (by omega) (by omega)
  case ownx =>
    rintro c pre A B row ⟨h0, i, m, h1⟩ hgr hrow
    have hs := HS.out
    exact ⟨h0, i, m, h1.own hgr hrow (by omega)⟩
  case abide =>
    rintro pre A B h1 hR
    have hs := HS.out
    exact h1.rq hR (by omega) (by omega) (by omega) (by omega)
  case abidex =>
    rintro c pre A B ⟨h0, i, m, h1⟩ hR
    have hs := HS.out
    exact ⟨h0, i, m, h1.rq hR (by omega)⟩
  case hAx =>
    rintro x a' _ A B row ⟨q, m, c, b, hv, hb, hh, rfl⟩ hgr hrow
    have hcl : ∀ (k : Nat) c e f, A.heap[k]? = some (.cells c e f) → some k ≠ row := fun k c e f hk q => by
      obtain ⟨_, o, ho, hc⟩ := hrow k q.symm
      rw [hk] at ho
      cases ho
      cases hc
    exact ⟨q, m, c, b, hv.stay (fun k c f hk => heap_grown hk hgr (hcl _ _ _ _ hk)), hb, heap_grown hh hgr (hcl _ _ _ _ hh), rfl⟩
  case assign =>
    rintro l pre x vs W K hI hpre ⟨v, rfl, hv⟩ hK
    obtain ⟨b0, hrow⟩ := hv
    obtain ⟨q, c, rfl⟩ := row_slice hrow
    have c9 : (W.alloc (.cells (arrV (waits x.1)) 109)).heap[W.heap.size]? = _ := World.alloc_heap_new W _
    gi_wp2
    have hs := HS.out
    exact hK _ _ ((KeepsOthers.alloc W _).from _) (.of_bel (belAlloc W _)) (hI.rq (.of_bel (belAlloc W _) hI.sz) (by omega) (by omega) (by omega) (by omega)) ⟨q, _, c, W.heap.size, ⟨b0, bel_row hrow (belAlloc _ _)⟩, hI.sz, c9, rfl⟩
  case body =>
    rintro l pre x a' W hD ⟨q, m, c, B, hv, hB, hh, rfl⟩ hpre
    have hx := prefix_plan hpre
    subst hx
    obtain ⟨pm, hpm⟩ : ∃ y, pre.length = y := ⟨_, rfl⟩
    rw [hpm] at hD hv hh ⊢
    have hlp : (pre ++ [(planS h xs pm, stepE h (planS h xs pm))]).length = pm + 1 := by simp [hpm]
    obtain ⟨vl, hl, vs, hvl, how, hdr⟩ := hD.row
    obtain ⟨pl, cl, rfl⟩ := row_slice how
    have hpn : (planL h xs pm).length = pm := planL_length h xs pm
    obtain ⟨S, hS⟩ : ∃ y, waits (planS h xs pm) = y := ⟨_, rfl⟩
    have hL9 := distinct_le (watchB_iff.1 HWE.out.1).2.1 HYE.out.ev HPS.out hD.dis
    have hpb : pm ≤ 1296 := by have := HLL.out; omega
    simp only at hv hh ⊢
    rw [hS] at hh ⊢
    obtain ⟨S0, S1, S2, S3, _⟩ := cells4 hh
    have z0 := cell_of_heap (o := 0) hD.bm rfl
    have z1 := cell_of_heap (o := 0) hl rfl
    have f1 := frozen_of_heap (o := 0) hl
    have hlk : (Instr.lookup 129 (.map (some w1.heap.size)) (.agg #[.int .i64 (S 0), .int .i64 (S 1), .int .i64 (S 2), .int .i64 (S 3)]) true).run Tryd.prog W = .ok (.tuple #[(assoc (q4 S) (seenL h xs pm)).getD (.int .i64 0), .bool (assoc (q4 S) (seenL h xs pm)).isSome]) W := hD.mp.lookup_ok T.quads T.uAt (T.zIntS W) (q4 S)
    rw [hpn] at hl z1 how
    have hpw : IntKind.i64.wrap (pm : Int) = pm := IntWalk.i64_in _ (by omega)
    by_cases hex : ∃ i, i < pm ∧ planS h xs i = planS h xs pm
    · obtain ⟨i, hi, he⟩ := hex
      have has := seen_some (watchB_iff.1 HWE.out.1).2.1 (fun n => (HPS.out n).1) hD.dis hi he
      rw [hS] at has
      rw [has] at hlk
      simp only [Option.getD_some, Option.isSome_some] at hlk
      obtain ⟨g, cap, cur, he2, hge, hgb, hgc, _, _, _⟩ := how.2.resolve_left (fun h9 => by omega)
      simp only [Value.slice.injEq] at he2
      obtain ⟨rfl, _, rfl⟩ := he2
      have HD := Lib.hid (And.intro hD (And.intro hl (And.intro (show DO (w1.heap.size + 1 + 1) (planL h xs pm) (.slice (some ⟨g, 0, none⟩) pm cl) W from ⟨vs, hvl, by rw [hpn]; exact how, hdr⟩) (And.intro hgc (And.intro hi he)))))
      have HCP := Lib.hid (And.intro hgc hi)
      clear hD hl how hdr hvl hgb hge hgc he has hv hh hpre hlp hi hL9
      gi_wp2
      have hF : ∀ W', RX W.heap.size [w.heap.size + 1, w.heap.size + 1 + 1, w.heap.size + 1 + 1 + 1] W.drew W' → (W'.cell? ⟨w1.heap.size + 1 + 1, 0, none⟩ = some (.slice (some ⟨g, 0, none⟩) pm cl) ∧ (Instr.slice 25 (.slice (some ⟨g, 0, none⟩) pm cl) none (some (.int .i64 i)) (some (.int .i64 i))).run Tryd.prog W' = .ok (.slice (some ⟨g, 0, none⟩) i i) W' ∧ (Instr.slice 25 (.slice (some ⟨g, 0, none⟩) pm cl) (some (.int .i64 i)) none none).run Tryd.prog W' = .ok (.slice (some ⟨g, i, none⟩) (pm - i) (cl - i)) W') := fun W' hW => by
        have hs := HS.out
        obtain ⟨hc1, hc2⟩ := HCP.out
        exact ⟨hW.cell (show W.drew.cell? _ = _ from z1) (by have := lt_of_cell z1; simpa using this) (by simp; omega), slice_lead g pm cl i (by omega) W', slice_rest g pm cl i hc2 (by omega) W'⟩
      have hN1 : W.drew.heap[w.heap.size + 1]? = some (.cells #[.slice none 0 0] 25 (0, 0)) := HD.out.1.n1
      have hN2 : W.drew.heap[w.heap.size + 1 + 1]? = some (.cells #[.slice none 0 0] 25 (0, 0)) := HD.out.1.n2
      have hN3 : W.drew.heap[w.heap.size + 1 + 1 + 1]? = some (.cells #[.int .i64 0] 31 (0, 0)) := HD.out.1.n3
      refine Free2R.wp_free (R := RX W.heap.size [w.heap.size + 1, w.heap.size + 1 + 1, w.heap.size + 1 + 1 + 1]) (J := JHL [(7, w.heap.size + 1, .cells #[.slice none 0 0] 25 (0, 0), .cells #[.slice (some ⟨g, 0, none⟩) i i] 25 (0, 0)), (8, w.heap.size + 1 + 1, .cells #[.slice none 0 0] 25 (0, 0), .cells #[.slice (some ⟨g, i, none⟩) (pm - i) (cl - i)] 25 (0, 0)), (9, w.heap.size + 1 + 1 + 1, .cells #[.int .i64 0] 31 (0, 0), .cells #[.int .i64 0] 31 (0, 0))]) (by kernel_rfl) (by kernel_rfl) (by kernel_rfl) (RX.refl _ _) RX.trans (JHL.start (by simp [hN1, hN2, hN3])) ?_
      refine Free2R.Chain.ex ?_ 0 rfl [] [7] (by kernel_rfl) (by kernel_rfl) rfl (RX.refl _ _) (fun X W v h => JHL.skip h 0 v (by simp)) ?_ ?_
      rotate_left
      · (intro ev W hb hR hO hD; have hS := hF W hR; obtain ⟨hb1, hb2, hb3⟩ := hb; simp only [Free.AllDeps, Free.AllOuts, Free.At, al1, al2, al3, al4, al5, and_true] at hO hD; go_simp; rfl)
      simp only [an1, an2]
      refine Free2R.Chain.ex ?_ 1 rfl [] [10] (by kernel_rfl) (by kernel_rfl) rfl (RX.refl _ _) (fun X W v h => JHL.skip h 1 v (by simp)) ?_ ?_
      rotate_left
      · (intro ev W hb hR hO hD; have hS := hF W hR; obtain ⟨hb1, hb2, hb3⟩ := hb; simp only [Free.AllDeps, Free.AllOuts, Free.At, al1, al2, al3, al4, al5, and_true] at hO hD; go_simp; rfl)
      simp only [an1, an2]
      refine Free2R.Chain.ex ?_ 2 rfl [] [10] (by kernel_rfl) (by kernel_rfl) rfl (RX.refl _ _) (fun X W v h => JHL.skip h 2 v (by simp)) ?_ ?_
      rotate_left
      · (intro ev W hb hR hO hD; have hS := hF W hR; obtain ⟨hb1, hb2, hb3⟩ := hb; simp only [Free.AllDeps, Free.AllOuts, Free.At, al1, al2, al3, al4, al5, and_true] at hO hD; go_simp; rfl)
      simp only [an1, an2]
      refine Free2R.Chain.ex ?_ 3 rfl [(0, 32), (1, 33), (2, 34)] [] (by kernel_rfl) (by kernel_rfl) rfl (RX.refl _ _) (fun X W v h => JHL.skip h 3 v (by simp)) ?_ ?_
      rotate_left
      · (intro ev W hb hR hO hD; have hS := hF W hR; obtain ⟨hb1, hb2, hb3⟩ := hb; simp only [Free.AllDeps, Free.AllOuts, Free.At, al1, al2, al3, al4, al5, and_true] at hO hD; go_simp; rfl)
      simp only [an1, an2]
      refine Free2R.Chain.ex ?_ 4 rfl [] [7] (by kernel_rfl) (by kernel_rfl) rfl (RX.refl _ _) (fun X W v h => JHL.skip h 4 v (by simp)) ?_ ?_
      rotate_left
      · (intro ev W hb hR hO hD; have hS := hF W hR; obtain ⟨hb1, hb2, hb3⟩ := hb; simp only [Free.AllDeps, Free.AllOuts, Free.At, al1, al2, al3, al4, al5, and_true] at hO hD; go_simp; rfl)
      simp only [an1, an2]
      refine Free2R.Chain.ex ?_ 5 rfl [] [10] (by kernel_rfl) (by kernel_rfl) rfl (RX.refl _ _) (fun X W v h => JHL.skip h 5 v (by simp)) ?_ ?_
      rotate_left
      · (intro ev W hb hR hO hD; have hS := hF W hR; obtain ⟨hb1, hb2, hb3⟩ := hb; simp only [Free.AllDeps, Free.AllOuts, Free.At, al1, al2, al3, al4, al5, and_true] at hO hD; go_simp; rfl)
      simp only [an1, an2]
      refine Free2R.Chain.ex ?_ 6 rfl [(4, 36), (5, 37)] [] (by kernel_rfl) (by kernel_rfl) rfl (RX.refl _ _) (fun X W v h => JHL.skip h 6 v (by simp)) ?_ ?_
      rotate_left
      · (intro ev W hb hR hO hD; have hS := hF W hR; obtain ⟨hb1, hb2, hb3⟩ := hb; simp only [Free.AllDeps, Free.AllOuts, Free.At, al1, al2, al3, al4, al5, and_true] at hO hD; go_simp; rfl)
      simp only [an1, an2]
      refine Free2R.Chain.pr (fun _ _ => True) 7 rfl [(3, 35), (0, 32), (1, 33), (2, 34), (3, 35)] [2] (by kernel_rfl) (by kernel_rfl) rfl (fun _ _ _ _ h => h) ?_ ?_
      · (intro ev W X hb hR hO hD hj hx hax; have hS := hF W hR; obtain ⟨hb1, hb2, hb3⟩ := hb; simp only [Free.AllDeps, Free.AllOuts, Free.At, al1, al2, al3, al4, al5, and_true] at hO hD; simp only [Free2.AllX, and_true] at hax; have hj0 := (hj (7, w.heap.size + 1, .cells #[.slice none 0 0] 25 (0, 0), .cells #[.slice (some ⟨g, 0, none⟩) i i] 25 (0, 0)) (by simp)).1 hx; have c0 := cell_of_heap (o := 0) hj0 rfl; have c1 := frozen_of_heap (o := 0) hj0; go_simp; exact ⟨RX.set (by simp), JHL.put hj (7, w.heap.size + 1, .cells #[.slice none 0 0] 25 (0, 0), .cells #[.slice (some ⟨g, 0, none⟩) i i] 25 (0, 0)) _ (by first | (simp; done) | (simp; omega)) (by have := heap_setCell_same (o := 0) (.slice (some ⟨g, 0, none⟩) i i) hj0; simpa using this) (fun k hk => heap_setCell_other hk)⟩)
      simp only [an1, an2]
      refine Free2R.Chain.pr (fun _ _ => True) 8 rfl [(6, 38), (0, 32), (1, 33), (2, 34), (3, 35), (4, 36), (5, 37), (6, 38)] [3] (by kernel_rfl) (by kernel_rfl) rfl (fun _ _ _ _ h => h) ?_ ?_
      · (intro ev W X hb hR hO hD hj hx hax; have hS := hF W hR; obtain ⟨hb1, hb2, hb3⟩ := hb; simp only [Free.AllDeps, Free.AllOuts, Free.At, al1, al2, al3, al4, al5, and_true] at hO hD; simp only [Free2.AllX, and_true] at hax; have hj0 := (hj (8, w.heap.size + 1 + 1, .cells #[.slice none 0 0] 25 (0, 0), .cells #[.slice (some ⟨g, i, none⟩) (pm - i) (cl - i)] 25 (0, 0)) (by simp)).1 hx; have c0 := cell_of_heap (o := 0) hj0 rfl; have c1 := frozen_of_heap (o := 0) hj0; go_simp; exact ⟨RX.set (by simp), JHL.put hj (8, w.heap.size + 1 + 1, .cells #[.slice none 0 0] 25 (0, 0), .cells #[.slice (some ⟨g, i, none⟩) (pm - i) (cl - i)] 25 (0, 0)) _ (by first | (simp; done) | (simp; omega)) (by have := heap_setCell_same (o := 0) (.slice (some ⟨g, i, none⟩) (pm - i) (cl - i)) hj0; simpa using this) (fun k hk => heap_setCell_other hk)⟩)
      simp only [an1, an2]
      refine Free2R.Chain.pr (fun _ _ => True) 9 rfl [(0, 32), (1, 33), (2, 34), (3, 35), (4, 36), (5, 37), (6, 38)] [4] (by kernel_rfl) (by kernel_rfl) rfl (fun _ _ _ _ h => h) ?_ ?_
      · (intro ev W X hb hR hO hD hj hx hax; have hS := hF W hR; obtain ⟨hb1, hb2, hb3⟩ := hb; simp only [Free.AllDeps, Free.AllOuts, Free.At, al1, al2, al3, al4, al5, and_true] at hO hD; simp only [Free2.AllX, and_true] at hax; have hj0 := (hj (9, w.heap.size + 1 + 1 + 1, .cells #[.int .i64 0] 31 (0, 0), .cells #[.int .i64 0] 31 (0, 0)) (by simp)).1 hx; have c0 := cell_of_heap (o := 0) hj0 rfl; have c1 := frozen_of_heap (o := 0) hj0; go_simp; exact ⟨RX.set (by simp), JHL.put hj (9, w.heap.size + 1 + 1 + 1, .cells #[.int .i64 0] 31 (0, 0), .cells #[.int .i64 0] 31 (0, 0)) _ (by first | (simp; done) | (simp; omega)) (by have := heap_setCell_same (o := 0) (.int .i64 0) hj0; simpa using this) (fun k hk => heap_setCell_other hk)⟩)
      simp only [an1, an2]
      clear hN1 hN2 hN3
      intro ys w6 hR hV hX
      obtain ⟨X, hj, hxx⟩ := hX
      simp only [Free.AllV, Free.At, List.length_cons, List.length_nil, Nat.reduceAdd, List.getElem?_cons_succ, List.getElem?_cons_zero, true_and, and_true] at hV
      simp only [Free.putsFrom, Act.put, Nat.zero_add, Nat.reduceAdd, hV, List.setIfInBounds_toArray, List.set_cons_succ, List.set_cons_zero]
      have b1 := (hj (7, w.heap.size + 1, .cells #[.slice none 0 0] 25 (0, 0), .cells #[.slice (some ⟨g, 0, none⟩) i i] 25 (0, 0)) (by simp)).2 (by show X 7 ≠ none; rw [hxx 7 (by decide)]; simp)
      have b2 := (hj (8, w.heap.size + 1 + 1, .cells #[.slice none 0 0] 25 (0, 0), .cells #[.slice (some ⟨g, i, none⟩) (pm - i) (cl - i)] 25 (0, 0)) (by simp)).2 (by show X 8 ≠ none; rw [hxx 8 (by decide)]; simp)
      have b3 := (hj (9, w.heap.size + 1 + 1 + 1, .cells #[.int .i64 0] 31 (0, 0), .cells #[.int .i64 0] 31 (0, 0)) (by simp)).2 (by show X 9 ≠ none; rw [hxx 9 (by decide)]; simp)
      have HBB := Lib.hid (And.intro b1 (And.intro b2 (And.intro b3 hR)))
      clear hR hV hj hxx hF b1 b2 b3
      gi_wp2
      obtain ⟨b1, b2, b3, hR⟩ := HBB.out
      obtain ⟨hD, hl, hdo, hgc, hi, he⟩ := HD.out
      have hs := HS.out
      have hW : ∀ (k : Nat) q, W.heap[k]? = some q → k ∉ [w.heap.size + 1, w.heap.size + 1 + 1, w.heap.size + 1 + 1 + 1] → w6.heap[k]? = some q := fun k q hk hne => (hR.block k (lt_of_heap hk) hne).trans hk
      have hcl : ∀ (e : TypeId) (k : Nat) c f, e ≠ 25 → e ≠ 31 → W.heap[k]? = some (.cells c e f) → w6.heap[k]? = some (.cells c e f) := fun e k c f h1 h2 hk => hW k _ hk (by
        intro hm
        simp at hm
        rcases hm with rfl | rfl | rfl
        · rw [hD.n1] at hk; cases hk; exact h1 rfl
        · rw [hD.n2] at hk; cases hk; exact h1 rfl
        · rw [hD.n3] at hk; cases hk; exact h2 rfl)
      refine ⟨⟨hR.size, fun k q hk h1 _ => hW k q h1 (by simp; omega)⟩, rfl, i, pm, ⟨hD.bel.trans ⟨hR.os, hR.tape, hR.output, hR.size, fun k hk => hR.block k (by have := hD.bel.size; omega) (by simp; omega)⟩, ⟨hi, he.symm, hD.dis⟩, ⟨g, cl, hdo.stay (fun k c f hk => hcl 58 k c f (by decide) (by decide) hk) (fun k c f hk => hcl 3 k c f (by decide) (by decide) hk), by omega, b1, b2⟩, b3⟩⟩
    · have hno : ∀ i, i < pm → planS h xs i ≠ planS h xs pm := fun i hi he => hex ⟨i, hi, he⟩
      have has := seen_none (watchB_iff.1 HWE.out.1).2.1 (fun n => (HPS.out n).1) hno
      obtain ⟨w6, hup, hg6, hm6, hs6⟩ := hD.mp.update T.quads T.uAt (q4 S) (.int .i64 pm)
      have hset : assocSet (q4 S) (.int .i64 (pm : Int)) (seenL h xs pm) = seenL h xs (pm + 1) := by
        rw [seenL_succ, hS]
        rw [hS] at has
        exact assocSet_append _ _ _ 0 (assocI_none has 0)
      rw [hset] at hm6
      rw [hS] at has
      rw [has] at hlk
      simp only [Option.getD_none, Option.isSome_none] at hlk
      have hup2 : (Instr.mapUpdate 129 (.map (some w1.heap.size)) (.agg #[.int .i64 (S 0), .int .i64 (S 1), .int .i64 (S 2), .int .i64 (S 3)]) (.int .i64 pm)).run Tryd.prog W = .ok () w6 := hup
      have hl6 : w6.heap[w1.heap.size + 1 + 1]? = some (.cells #[.slice pl pm cl] 25 (0, 0)) := heap_grown hl hg6 (by simp; omega)
      have y0 := cell_of_heap (o := 0) hl6 rfl
      have y1 := frozen_of_heap (o := 0) hl6
      have how6 : w6.ownsRow (w1.heap.size + 1 + 1) 58 1 (.slice pl pm cl) pm vs := own_typed how fun k c f hk => heap_grown hk hg6 (fun e => by
        simp at e
        subst e
        obtain ⟨q', h8, h9⟩ := hD.mp.obj
        rw [hk] at h8
        cases h8
        cases h9)
      have hsz6 : w1.heap.size + 1 + 1 ≤ w6.heap.size := by have := lt_of_heap hl6; omega
      obtain ⟨i0, hi0, hz0, hz1, hz2⟩ := info_parts Go.Proofs.YtknpglgpkkhhiaaDoor.T.infoDT
      have HZ := Lib.hid (And.intro hi0 (And.intro hz0 (And.intro hz1 hz2)))
      have HD := Lib.hid (And.intro hD (And.intro hg6 (And.intro hm6 (And.intro hl (And.intro hvl (And.intro how (And.intro hdr (And.intro hv hno))))))))
      have HL6 := Lib.hid hl6
      have HLP := Lib.hid hlp
      clear hi0 hz0 hz1 hz2 hD hl how hdr hvl hv hno hex has hset hup hg6 hm6 hs6 hh hpre hlp hl6 hL9
      gi_wp2_with (gi_at_builtin; go_loud (refine wpListIn_append_own _ rfl _ _ 25 rfl (w1.heap.size + 1 + 1) 58 i0 (.slice none 0 0) 1 24 Tryd.underlying25 HZ.out.1 HZ.out.2.1 HZ.out.2.2.1 HZ.out.2.2.2 rfl (by decide) _ _ _ rfl (how6.alloc _) ⟨w6.heap.size, 0, none⟩ 1 1 [.slice q m c] rfl rfl (cell_one_new _ _ _) (fun u hu => by simp at hu; subst hu; rfl) (by unfold maxLen; omega) (by omega) (by simp; omega) ?_); intro v' w9 hown' hgrow hnil9; obtain ⟨q9, c9, rfl⟩ := row_slice hown'; have hg9 := box_grown HL6.out how6 hgrow; have y2 := cell_of_heap (o := 0) hg9 rfl; have y3 := frozen_of_heap (o := 0) hg9; have HG := Lib.hid (And.intro hown' (And.intro hgrow hg9)); clear hown' hgrow hnil9 hg9 y0 y1)
      obtain ⟨hown', hgrow, hg9⟩ := HG.out
      obtain ⟨hD, hg6, hm6, hl, hvl, how, hdr, hv, hno⟩ := HD.out
      have hs := HS.out
      have h9 := RndI.step hD hg6 hm6 hl hvl (by rw [hpn]; exact how) hdr hv hgrow (by rw [hpn]; exact hown') (by omega) rfl rfl (by omega) hno
      exact ⟨h9.1, h9.2.1, (show RndI w w1.heap.size (w1.heap.size + 1) (w1.heap.size + 1 + 1) w5.heap.size h xs (pre ++ [(planS h xs pm, stepE h (planS h xs pm))]).length _ from by rw [HLP.out]; exact h9.2.2)⟩
  case stop =>
    rintro D c pre W hD _ ⟨rfl, i, m, hX⟩ hKD
    obtain ⟨g, cap, hdo, hmc, b1, b2⟩ := hX.row
    have z1 := cell_of_heap (o := 0) b1 rfl
    have z2 := cell_of_heap (o := 0) b2 rfl
    have z3 := cell_of_heap (o := 0) hX.n3 rfl
    have HXX := Lib.hid (And.intro hX (And.intro hdo hmc))
    clear hX hdo hmc b1 b2
    gi_wp2
    refine ⟨by simp, .inl ⟨_, _, rfl, run_takeDeferred hKD, ?_⟩⟩
    obtain ⟨hX, hdo, hmc⟩ := HXX.out
    have hs := HS.out
    have hne : ∀ b, b < w1.heap.size → (W.putObj D (.deferred none)).heap[b]? = W.heap[b]? := fun b hb => World.putObj_heap_other (by omega)
    have q1 := (World.cell?_of_block (w' := W.putObj D (.deferred none)) (a := ⟨w.heap.size + 1, 0, none⟩) (hne _ (by simp; omega))).trans z1
    have q2 := (World.cell?_of_block (w' := W.putObj D (.deferred none)) (a := ⟨w.heap.size + 1 + 1, 0, none⟩) (hne _ (by simp; omega))).trans z2
    have q3 := (World.cell?_of_block (w' := W.putObj D (.deferred none)) (a := ⟨w.heap.size + 1 + 1 + 1, 0, none⟩) (hne _ (by simp; omega))).trans z3
    refine ⟨.tuple #[.slice (some ⟨g, 0, none⟩) i i, .slice (some ⟨g, i, none⟩) (m - i) (cap - i), .int .i64 0], by simp [results, Tryd.f41, go_sem, q1, q2, q3], ⟨i, m, _, _, hX.rd, rfl, ?_, ?_⟩, hX.bel.trans (Below.putNew _ (by omega))⟩
    · have hz := (hdo.put (o' := .deferred none) hKD rfl).part (a := 0) (n := i) (c := i) (by rw [planL_length]; have := hX.rd.1; omega)
      have e : ((planL h xs m).drop 0).take i = planL h xs i := by
        rw [List.drop_zero]
        have := planL_add h xs i (m - i)
        rw [show i + (m - i) = m by have := hX.rd.1; omega] at this
        rw [this, List.take_left' (planL_length h xs i)]
      rw [e] at hz
      exact hz
    · have hz := (hdo.put (o' := .deferred none) hKD rfl).part (a := i) (n := m - i) (c := cap - i) (by rw [planL_length]; have := hX.rd.1; omega)
      have e : ((planL h xs m).drop i).take (m - i) = (planL h xs m).drop i := List.take_of_length_le (by simp [planL_length])
      rw [e] at hz
      exact hz
end Go.Proofs.YtknpglgpkkhhiaaDoor

/- The longest days on which no rick becomes hot: Last. -/
namespace Go.Proofs.YtknpglgpkkhhiaaDoor
set_option linter.unusedSimpArgs false
set_option linter.unusedVariables false
open Go.RowKit Go.Proofs.YtknpglgpkkhhiaaDoor.Free2 Go.Proofs.YtknpglgpkkhhiaaDoor.ML RR
attribute [local go_sem] Oper.semAt_some

theorem keys_small {h : Int} {xs : List Rk} (hw : watchB h xs = true) : (keysY (allY xs)).length ≤ 1296 := by
  have hx1 : ∀ x ∈ xs, 1 ≤ x.2.1 := fun x hx => (watchB_ok hw x hx).2.2.1
  have h1 := nodup_sub_length (A := keysY (allY xs)) (L := (allY xs).map fun ys => q4 (waits ys)) (keysY_ok _).1 fun q hq => by
    obtain ⟨ys, hy, rfl⟩ := ((keysY_ok _).2 q).1 hq
    exact List.mem_map.2 ⟨ys, hy, rfl⟩
  have h2 := (prodE_bound (xs := xs) fun x hx => ⟨(watchB_ok hw x hx).2.2.1, (watchB_ok hw x hx).2.2.2.1⟩).2
  have h4 := (watchB_iff.1 hw).2.1
  have h6 : (6 : Int) ^ xs.length ≤ 1296 := by
    rcases (show xs.length = 0 ∨ xs.length = 1 ∨ xs.length = 2 ∨ xs.length = 3 ∨ xs.length = 4 by omega) with e | e | e | e | e <;> rw [e] <;> decide
  have h7 : (allY xs).length = (prodE xs).toNat := by simp [allY]
  rw [List.length_map] at h1
  omega
/-- A day of the longest ones. -/
theorem last_step {h : Int} {xs zs : List Rk} {L : List Q4} {j : Nat} (hw : watchB h xs = true) (hG : GoodIs h xs j L) (hz : StOf xs zs) (hg : goodN h (j + 1) zs = true) :
    ∃ d, stepS xs (waits zs) L (D7 h xs) = (tset xs d, waits (dayR d zs), true) ∧ turnB h xs d = true ∧ StOf xs (dayR d zs) ∧ goodN h j (dayR d zs) = true ∧ lastL h (j + 1) zs = d :: lastL h j (dayR d zs) := by
  obtain ⟨d, hd, hm, hc, hg'⟩ := good_step hg
  have h1 := stepS_first (h := h) hz.1 L
  have h2 : firstD h (fun zs => decide (q4 (waits zs) ∈ L)) zs = firstD h (goodN h j) zs := firstD_congr hz fun ys hy => hG.has (watchB_iff.1 hw).2.1 hy
  refine ⟨d, by rw [D7, h1, h2, hd], (mem_daysL hw).1 (by rw [← daysL_ids hz.1.ids]; exact hm), hz.day d hc, hg', ?_⟩
  rw [lastL, hd]
  rfl
/-- The days so far, and where they lead. -/
structure LastI (w6 : World) (B7 B9 n0 : Nat) (h : Int) (xs : List Rk) (n m : Nat) (W : World) : Prop where
  bel : Free.Bel w6 W
  sz : n0 ≤ W.heap.size
  le : m ≤ n
  st : ∃ zs ds v, StOf xs zs ∧ goodN h (n - m) zs = true ∧ lastL h n xs = ds ++ lastL h (n - m) zs ∧ ds.length = m ∧ W.heap[B7]? = some (.cells (arrV (waits zs)) 109 (0, 0)) ∧ W.heap[B9]? = some (.cells #[v] 25 (0, 0)) ∧ DO B9 ds v W
theorem LastI.keep {w6 : World} {B7 B9 n0 : Nat} {h : Int} {xs : List Rk} {n m : Nat} {A B : World} (H : LastI w6 B7 B9 n0 h xs n m A) (hB : Free.Bel A B) : LastI w6 B7 B9 n0 h xs n m B :=
  ⟨bt H.bel hB, Nat.le_trans H.sz hB.size, H.le, let ⟨zs, ds, v, a1, a2, a3, a4, a5, a6, a7⟩ := H.st; ⟨zs, ds, v, a1, a2, a3, a4, (hB.block _ (lt_of_heap a5)).trans a5, (hB.block _ (lt_of_heap a6)).trans a6, a7.bel hB⟩⟩
theorem LastI.own {w6 : World} {B7 B9 n0 : Nat} {h : Int} {xs : List Rk} {n m : Nat} {A B : World} {row : Option Nat} (H : LastI w6 B7 B9 n0 h xs n m A) (hg : A.grownBy B row) (hr : ∀ r, row = some r → n0 ≤ r ∧ ∃ o : Obj, A.heap[r]? = some o ∧ o.isCells = false) (h6 : w6.heap.size ≤ n0) (h7 : B7 < n0) (h9 : B9 < n0) : LastI w6 B7 B9 n0 h xs n m B := by
  have hne : ∀ b, b < n0 → some b ≠ row := fun b hb e => by have := (hr _ e.symm).1; omega
  obtain ⟨zs, ds, v, a1, a2, a3, a4, a5, a6, a7⟩ := H.st
  exact ⟨(show Below w6.heap.size w6 A from H.bel).trans (Below.of_grown hg H.bel.size (fun r e => by have := (hr r e).1; omega)), Nat.le_trans H.sz hg.size, H.le, zs, ds, v, a1, a2, a3, a4, heap_grown a5 hg (hne _ h7), heap_grown a6 hg (hne _ h9), a7.own hg hr⟩
/-- The region that takes a day in. -/
structure JL (B7 B9 : Nat) (S RS : Nat → Int) (v0 : Value) (vs : List Value) (ds : List (List Int)) (d : List Int) (X : XT) (W : World) : Prop where
  o4 : X 4 ≠ none → X 3 ≠ none
  o5 : X 5 ≠ none → X 0 ≠ none ∧ X 4 ≠ none
  o7 : X 7 ≠ none → X 5 ≠ none
  o8 : X 8 ≠ none → X 5 ≠ none
  c9 : X 7 = none → W.heap[B9]? = some (.cells #[v0] 25 (0, 0))
  d9 : X 7 ≠ none → ∀ v, X 5 = some v → W.heap[B9]? = some (.cells #[v] 25 (0, 0))
  c7 : X 8 = none → W.heap[B7]? = some (.cells (arrV S) 109 (0, 0))
  d7 : X 8 ≠ none → W.heap[B7]? = some (.cells (arrV RS) 109 (0, 0))
  row : X 5 = none → vs.length = ds.length ∧ W.ownsRow B9 58 1 v0 ds.length vs ∧ ∀ (i : Nat) (h : i < ds.length) u, vs[i]? = some u → DayR ds[i] u W
  id : X 5 = none → ∀ u, X 3 = some u → DayR d u W
  src : X 5 = none → ∀ v, X 4 = some v → ∃ b u, v = .slice (some ⟨b, 0, none⟩) 1 1 ∧ W.cell? ⟨b, 0, none⟩ = some u ∧ X 3 = some u
  now : ∀ v, X 5 = some v → DO B9 (ds ++ [d]) v W
theorem upd_ne {X : XT} {i n : Nat} {v : Value} (h : X i ≠ none) : upd X n v i ≠ none := by unfold upd; split <;> simp_all
section
variable {B7 B9 : Nat} {S RS : Nat → Int} {v0 : Value} {vs : List Value} {ds : List (List Int)} {d : List Int} {X : XT} {W W' : World}
theorem JL.skip (H : JL B7 B9 S RS v0 vs ds d X W) (n : Nat) (v : Value) (hn : n ≠ 3 ∧ n ≠ 4 ∧ n ≠ 5 ∧ n ≠ 7 ∧ n ≠ 8) : JL B7 B9 S RS v0 vs ds d (upd X n v) W := by
  obtain ⟨n3, n4, n5, n7, n8⟩ := hn
  have e3 := upd_other X v (Ne.symm n3)
  have e4 := upd_other X v (Ne.symm n4)
  have e5 := upd_other X v (Ne.symm n5)
  have e7 := upd_other X v (Ne.symm n7)
  have e8 := upd_other X v (Ne.symm n8)
  exact ⟨by rw [e4, e3]; exact H.o4, fun h => ⟨upd_ne (H.o5 (by rwa [e5] at h)).1, upd_ne (H.o5 (by rwa [e5] at h)).2⟩, by rw [e7, e5]; exact H.o7, by rw [e8, e5]; exact H.o8, by rw [e7]; exact H.c9, by rw [e7, e5]; exact H.d9, by rw [e8]; exact H.c7, by rw [e8]; exact H.d7, by rw [e5]; exact H.row, by rw [e5, e3]; exact H.id, by rw [e5, e4, e3]; exact H.src, by rw [e5]; exact H.now⟩
theorem JL.bel (H : JL B7 B9 S RS v0 vs ds d X W) (hB : Free.Bel W W') : JL B7 B9 S RS v0 vs ds d X W' :=
  have kb : ∀ {k : Nat} {o : Obj}, W.heap[k]? = some o → W'.heap[k]? = some o := fun hk => (hB.block _ (lt_of_heap hk)).trans hk
  ⟨H.o4, H.o5, H.o7, H.o8, fun h => kb (H.c9 h), fun h v hv => kb (H.d9 h v hv), fun h => kb (H.c7 h), fun h => kb (H.d7 h), fun h => ⟨(H.row h).1, bel_row (H.row h).2.1 hB, fun i hi u hu => ((H.row h).2.2 i hi u hu).stay fun _ _ _ hk => kb hk⟩, fun h u hu => (H.id h u hu).stay fun _ _ _ hk => kb hk, fun h v hv => let ⟨b, u, h1, h2, h3⟩ := H.src h v hv; ⟨b, u, h1, keepsB hB h2, h3⟩, fun v hv => (H.now v hv).bel hB⟩
theorem JL.no7 (H : JL B7 B9 S RS v0 vs ds d X W) (h : X 5 = none) : X 7 = none ∧ X 8 = none := ⟨by cases h9 : X 7 with | none => rfl | some v => exact absurd h (H.o7 (by rw [h9]; simp)), by cases h9 : X 8 with | none => rfl | some v => exact absurd h (H.o8 (by rw [h9]; simp))⟩
theorem JL.no5 (H : JL B7 B9 S RS v0 vs ds d X W) (h : X 0 = none ∨ X 4 = none) : X 5 = none := by
  cases h9 : X 5 with
  | none => rfl
  | some v =>
    have := H.o5 (by rw [h9]; simp)
    rcases h with h | h
    · exact absurd h this.1
    · exact absurd h this.2
theorem JL.no4 (H : JL B7 B9 S RS v0 vs ds d X W) (h : X 3 = none) : X 4 = none ∧ X 5 = none := by
  have h4 : X 4 = none := by
    cases h9 : X 4 with
    | none => rfl
    | some v => exact absurd h (H.o4 (by rw [h9]; simp))
  exact ⟨h4, H.no5 (.inr h4)⟩
theorem JL.ids (H : JL B7 B9 S RS v0 vs ds d X W) (h3 : X 3 = none) {u : Value} (hB : Free.Bel W W') (hd : DayR d u W') : JL B7 B9 S RS v0 vs ds d (upd X 3 u) W' := by
  have G := H.bel hB
  obtain ⟨h4, h5⟩ := H.no4 h3
  have e4 := upd_other X u (show (4 : Nat) ≠ 3 by decide)
  have e5 := upd_other X u (show (5 : Nat) ≠ 3 by decide)
  have e7 := upd_other X u (show (7 : Nat) ≠ 3 by decide)
  have e8 := upd_other X u (show (8 : Nat) ≠ 3 by decide)
  exact ⟨fun h => absurd h4 (by rwa [e4] at h), fun h => absurd h5 (by rwa [e5] at h), by rw [e7, e5]; exact G.o7, by rw [e8, e5]; exact G.o8, by rw [e7]; exact G.c9, by rw [e7, e5]; exact G.d9, by rw [e8]; exact G.c7, by rw [e8]; exact G.d7, by rw [e5]; exact G.row, fun _ u' hu => by rw [upd_same] at hu; cases hu; exact hd, fun _ v hv => (by rw [e4, h4] at hv; cases hv), by rw [e5]; exact G.now⟩
theorem JL.made (H : JL B7 B9 S RS v0 vs ds d X W) (h5 : X 5 = none) {b : Nat} {u : Value} (hB : Free.Bel W W') (h3 : X 3 = some u) (hc : W'.cell? ⟨b, 0, none⟩ = some u) : JL B7 B9 S RS v0 vs ds d (upd X 4 (.slice (some ⟨b, 0, none⟩) 1 1)) W' := by
  have G := H.bel hB
  have e3 := upd_other X (.slice (some ⟨b, 0, none⟩) 1 1) (show (3 : Nat) ≠ 4 by decide)
  have e5 := upd_other X (.slice (some ⟨b, 0, none⟩) 1 1) (show (5 : Nat) ≠ 4 by decide)
  have e7 := upd_other X (.slice (some ⟨b, 0, none⟩) 1 1) (show (7 : Nat) ≠ 4 by decide)
  have e8 := upd_other X (.slice (some ⟨b, 0, none⟩) 1 1) (show (8 : Nat) ≠ 4 by decide)
  exact ⟨fun _ => by rw [e3, h3]; simp, fun h => absurd h5 (by rwa [e5] at h), by rw [e7, e5]; exact G.o7, by rw [e8, e5]; exact G.o8, by rw [e7]; exact G.c9, by rw [e7, e5]; exact G.d9, by rw [e8]; exact G.c7, by rw [e8]; exact G.d7, by rw [e5]; exact G.row, by rw [e5, e3]; exact G.id, fun _ v hv => by rw [upd_same] at hv; cases hv; exact ⟨b, u, rfl, hc, by rw [e3]; exact h3⟩, by rw [e5]; exact G.now⟩
theorem JL.app (H : JL B7 B9 S RS v0 vs ds d X W) (h5 : X 5 = none) (h0 : X 0 ≠ none) (h4 : X 4 ≠ none) {v' u : Value} (h3 : X 3 = some u) (hB7 : B7 < B9) (hg : W.grownBy W' v0.ownBlock) (ho : W'.ownsRow B9 58 1 v' (ds.length + 1) (vs ++ [u])) : JL B7 B9 S RS v0 vs ds d (upd X 5 v') W' := by
  have e0 := upd_other X v' (show (0 : Nat) ≠ 5 by decide)
  have e4 := upd_other X v' (show (4 : Nat) ≠ 5 by decide)
  have e3 := upd_other X v' (show (3 : Nat) ≠ 5 by decide)
  have e7 := upd_other X v' (show (7 : Nat) ≠ 5 by decide)
  have e8 := upd_other X v' (show (8 : Nat) ≠ 5 by decide)
  obtain ⟨h7, h8⟩ := H.no7 h5
  obtain ⟨hl, how, hdr⟩ := H.row h5
  have hne : ∀ {k : Nat} {c : Array Value} {t : TypeId} {f : Nat × Nat}, t ≠ 58 → W.heap[k]? = some (.cells c t f) → W'.heap[k]? = some (.cells c t f) := fun {k c t f} ht hk => heap_grown hk hg fun e => by
    rcases how.2 with ⟨h9, _⟩ | ⟨g, cap, cur, h9, _, hg2, _⟩
    · rw [h9] at e; simp [Value.ownBlock] at e
    · rw [h9] at e
      simp [Value.ownBlock] at e
      subst e
      rw [hk] at hg2
      cases hg2
      exact ht rfl
  have h9 := hne (by decide) (H.c9 h7)
  refine ⟨fun _ => by rw [e3, h3]; simp, fun _ => ⟨by rw [e0]; exact h0, by rw [e4]; exact h4⟩, fun _ => by rw [upd_same]; simp, fun _ => by rw [upd_same]; simp, fun _ => h9, fun h => absurd h7 (by rwa [e7] at h), fun _ => hne (by decide) (H.c7 h8), fun h => absurd h8 (by rwa [e8] at h), fun h => (by rw [upd_same] at h; cases h), fun h => (by rw [upd_same] at h; cases h), fun h => (by rw [upd_same] at h; cases h), fun v hv => ?_⟩
  rw [upd_same] at hv
  cases hv
  exact DO.snoc hl how hdr (H.id h5 u h3) hg ho
theorem JL.put9 (H : JL B7 B9 S RS v0 vs ds d X W) (h7 : X 7 = none) {v v1 : Value} (h5 : X 5 = some v) (hB7 : B7 < B9) : JL B7 B9 S RS v0 vs ds d (upd X 7 v1) (W.setCell ⟨B9, 0, none⟩ v) := by
  have e0 := upd_other X v1 (show (0 : Nat) ≠ 7 by decide)
  have e3 := upd_other X v1 (show (3 : Nat) ≠ 7 by decide)
  have e4 := upd_other X v1 (show (4 : Nat) ≠ 7 by decide)
  have e5 := upd_other X v1 (show (5 : Nat) ≠ 7 by decide)
  have e8 := upd_other X v1 (show (8 : Nat) ≠ 7 by decide)
  have hb := H.c9 h7
  have h9 := heap_setCell_same (o := 0) v hb
  have ho : ∀ (k : Nat) c t f, t ≠ 25 → W.heap[k]? = some (.cells c t f) → (W.setCell ⟨B9, 0, none⟩ v).heap[k]? = some (.cells c t f) := fun k c t f ht hk => heap_other hk fun e => by
    simp at e; subst e; rw [hb] at hk; cases hk; exact ht rfl
  refine ⟨by rw [e4, e3]; exact H.o4, fun h => ⟨by rw [e0]; exact (H.o5 (by rwa [e5] at h)).1, by rw [e4]; exact (H.o5 (by rwa [e5] at h)).2⟩, fun _ => by rw [e5, h5]; simp, by rw [e8, e5]; exact H.o8, fun h => (by rw [upd_same] at h; cases h), fun _ v' hv => by rw [e5, h5] at hv; cases hv; simpa using h9, fun h => ho _ _ _ _ (by decide) (H.c7 (by rwa [e8] at h)), fun h => ho _ _ _ _ (by decide) (H.d7 (by rwa [e8] at h)), fun h => (by rw [e5, h5] at h; cases h), fun h => (by rw [e5, h5] at h; cases h), fun h => (by rw [e5, h5] at h; cases h), fun v' hv => ?_⟩
  have hn := H.now v' (by rwa [e5] at hv)
  exact hn.stay (fun k c f hk => ho k c _ f (by decide) hk) fun k c f hk => ho k c _ f (by decide) hk
theorem four_put {b : Nat} {S RS : Nat → Int} (h : W.heap[b]? = some (.cells (arrV S) 109 (0, 0))) : ((((W.setCell ⟨b, 0, none⟩ (.int .i64 (RS 0))).setCell ⟨b, 1, none⟩ (.int .i64 (RS 1))).setCell ⟨b, 2, none⟩ (.int .i64 (RS 2))).setCell ⟨b, 3, none⟩ (.int .i64 (RS 3))).heap[b]? = some (.cells (arrV RS) 109 (0, 0)) := four_heap (x0 := .int .i64 (RS 0)) (x1 := .int .i64 (RS 1)) (x2 := .int .i64 (RS 2)) (x3 := .int .i64 (RS 3)) h
theorem JL.put7 (H : JL B7 B9 S RS v0 vs ds d X W) (h8 : X 8 = none) (h5 : X 5 ≠ none) {v1 : Value} (hB7 : B7 < B9) : JL B7 B9 S RS v0 vs ds d (upd X 8 v1) ((((W.setCell ⟨B7, 0, none⟩ (.int .i64 (RS 0))).setCell ⟨B7, 1, none⟩ (.int .i64 (RS 1))).setCell ⟨B7, 2, none⟩ (.int .i64 (RS 2))).setCell ⟨B7, 3, none⟩ (.int .i64 (RS 3))) := by
  have e0 := upd_other X v1 (show (0 : Nat) ≠ 8 by decide)
  have e3 := upd_other X v1 (show (3 : Nat) ≠ 8 by decide)
  have e4 := upd_other X v1 (show (4 : Nat) ≠ 8 by decide)
  have e5 := upd_other X v1 (show (5 : Nat) ≠ 8 by decide)
  have e7 := upd_other X v1 (show (7 : Nat) ≠ 8 by decide)
  have hb := H.c7 h8
  have h9 := four_put (RS := RS) hb
  have ho : ∀ (k : Nat) c t f, t ≠ 109 → W.heap[k]? = some (.cells c t f) → ((((W.setCell ⟨B7, 0, none⟩ (.int .i64 (RS 0))).setCell ⟨B7, 1, none⟩ (.int .i64 (RS 1))).setCell ⟨B7, 2, none⟩ (.int .i64 (RS 2))).setCell ⟨B7, 3, none⟩ (.int .i64 (RS 3))).heap[k]? = some (.cells c t f) := fun k c t f ht hk => by
    have hne : k ≠ B7 := fun e => by subst e; rw [hb] at hk; cases hk; exact ht rfl
    exact heap_other (heap_other (heap_other (heap_other hk (by simpa using hne)) (by simpa using hne)) (by simpa using hne)) (by simpa using hne)
  refine ⟨by rw [e4, e3]; exact H.o4, fun h => ⟨by rw [e0]; exact (H.o5 (by rwa [e5] at h)).1, by rw [e4]; exact (H.o5 (by rwa [e5] at h)).2⟩, by rw [e7, e5]; exact H.o7, fun _ => by rw [e5]; exact h5, fun h => ho _ _ _ _ (by decide) (H.c9 (by rwa [e7] at h)), fun h v hv => ho _ _ _ _ (by decide) (H.d9 (by rwa [e7] at h) v (by rwa [e5] at hv)), fun h => (by rw [upd_same] at h; cases h), fun _ => h9, fun h => absurd (by rwa [e5] at h) h5, fun h => absurd (by rwa [e5] at h) h5, fun h => absurd (by rwa [e5] at h) h5, fun v hv => ?_⟩
  exact (H.now v (by rwa [e5] at hv)).stay (fun k c f hk => ho k c _ f (by decide) hk) fun k c f hk => ho k c _ f (by decide) hk
end
theorem RX.less {s0 s1 : Nat} {bs : List Nat} {a b : World} (h : RX s0 bs a b) (hs : s1 ≤ s0) : RX s1 bs a b := ⟨h.os, h.tape, h.output, h.size, fun k h1 h2 => h.block k (by omega) h2⟩
theorem JL.start {B7 B9 : Nat} {S RS : Nat → Int} {v0 : Value} {vs : List Value} {ds : List (List Int)} {d : List Int} {W : World} (h9 : W.heap[B9]? = some (.cells #[v0] 25 (0, 0))) (h7 : W.heap[B7]? = some (.cells (arrV S) 109 (0, 0))) (hr : vs.length = ds.length ∧ W.ownsRow B9 58 1 v0 ds.length vs ∧ ∀ (i : Nat) (h : i < ds.length) u, vs[i]? = some u → DayR ds[i] u W) : JL B7 B9 S RS v0 vs ds d (fun _ => none) W :=
  ⟨fun h => absurd rfl h, fun h => absurd rfl h, fun h => absurd rfl h, fun h => absurd rfl h, fun _ => h9, fun h => absurd rfl h, fun _ => h7, fun h => absurd rfl h, fun _ => hr, (fun _ u hu => (by cases hu)), (fun _ v hv => (by cases hv)), fun v hv => (by cases hv)⟩
theorem RX.row {s0 n : Nat} {B7 B9 : Nat} {v0 : Value} {vs : List Value} {W W' : World} (ho : W.ownsRow B9 58 1 v0 n vs) (hg : W.grownBy W' v0.ownBlock) (hs : s0 ≤ W.heap.size) : RX s0 (B9 :: B7 :: v0.ownBlock.toList) W W' :=
  ⟨hg.os, hg.tape, hg.output, hg.size, fun k hk hn => hg.block k (by omega) fun e => hn (by rw [← e]; simp)⟩
theorem cell_one_add {b : Nat} {u : Value} {W : World} (h : W.cell? ⟨b, 0, none⟩ = some u) : ∀ (j : Nat) u', [u][j]? = some u' → W.cell? ((⟨b, 0, none⟩ : Addr).add j) = some u' := fun j u' hj => by
  match j, hj with
  | 0, hj => simp at hj; subst hj; simpa [Addr.add] using h
theorem rx_kp {B7 B9 n0 n : Nat} {v0 : Value} {vs : List Value} {c7 c9 : Array Value} {f7 f9 : Nat × Nat} {W W' : World} (how : W.ownsRow B9 58 1 v0 n vs) (h7 : W.heap[B7]? = some (.cells c7 109 f7)) (h9 : W.heap[B9]? = some (.cells c9 25 f9)) (h79 : B7 < B9) (hR : RX W.heap.size (B9 :: B7 :: v0.ownBlock.toList) W W') : KeepsFrom n0 W W' ∧ KP B7 [B7, B9] W W' := by
  have key : ∀ (k : Nat) (o : Obj), W.heap[k]? = some o → k ≠ B7 → k ≠ B9 → (k < B7 ∨ ∀ c f, o ≠ .cells c 58 f) → W'.heap[k]? = some o := fun k o hk h1 h2 h3 => (hR.block k (lt_of_heap hk) (by
    simp only [List.mem_cons, not_or]
    refine ⟨h2, h1, ?_⟩
    rcases how.2 with ⟨h9, _⟩ | ⟨g, cap, cur, h9, hb, hg2, _⟩
    · rw [h9]; simp [Value.ownBlock]
    · rw [h9]
      simp [Value.ownBlock]
      rintro rfl
      rcases h3 with h3 | h3
      · omega
      · rw [hk] at hg2
        cases hg2
        exact h3 _ _ rfl)).trans hk
  refine ⟨⟨hR.size, fun k o _ hk hc => key k o hk ?_ ?_ (.inr ?_)⟩, hR.os, hR.tape, hR.output, hR.size, fun k o hk hc => ?_⟩
  · rintro rfl; rw [h7] at hk; cases hk; cases hc
  · rintro rfl; rw [h9] at hk; cases hk; cases hc
  · rintro c f rfl; cases hc
  · rcases hc with hc | ⟨_, hc, ht⟩
    · exact key k o hk (by omega) (by omega) (.inl hc)
    · simp at hc
      exact key k o hk hc.1 hc.2 (.inr ht)
end Go.Proofs.YtknpglgpkkhhiaaDoor

/- The longest days: the walk. -/
namespace Go.Proofs.YtknpglgpkkhhiaaDoor
set_option linter.unusedSimpArgs false
set_option linter.unusedVariables false
open Go.RowKit Go.Proofs.YtknpglgpkkhhiaaDoor.Free2 Go.Proofs.YtknpglgpkkhhiaaDoor.ML RR
attribute [local go_sem] Oper.semAt_some

theorem slice_low (g m cap i : Nat) (h : i ≤ cap) (W : World) : (Instr.slice 137 (.slice (some ⟨g, 0, none⟩) m cap) none (some (.int .i64 i)) none).run Tryd.prog W = .ok (.slice (some ⟨g, 0, none⟩) i cap) W := by
  have h1 : (0 : Int) ≤ i := by omega
  have h2 : (i : Int) ≤ cap := by omega
  have hs : (sizeOf 139).run Tryd.prog W = .ok 1 W := by kernel_rfl
  simp [Instr.slice, run_underlying Tryd.underlying137, Instr.sliceBounds, run_sliceBound, h1, h2, hs]
  intro h9
  simp [Addr.add]
noncomputable def lastE (h : Int) (xs : List Rk) : Int := open Classical in if watchB h xs = true then (if everB h xs = true then 6 else 0) else 70
/-- What Last tells. -/
def LastPost (h : Int) (xs : List Rk) (c : Int) (w : World) (e : Ending) (w' : World) : Prop :=
  (c ≠ 0 ∧ e = .returned (.tuple #[.slice none 0 0, .int .i64 c])) ∨ (c = 0 ∧ ∃ n v, n ≤ 1296 ∧ goodN h n xs = true ∧ goodN h (n + 1) xs = false ∧ e = .returned (.tuple #[v, .int .i64 0]) ∧ DO w.heap.size (lastL h n xs) v w')
set_option maxRecDepth 100000 in
set_option maxHeartbeats 16000000 in
theorem last_a (h : Int) (xs : List Rk) (u : Value) (w : World) (hT : TabR w) (hu : RL xs u w) (hw : watchB h xs = false) :
    Calls Tryd.prog 47 #[.agg #[.int .i64 h, u]] w fun e w' => e = .returned (.tuple #[.slice none 0 0, .int .i64 70]) ∧ Below w.heap.size w w' := by
  have HU := Lib.hid hu
  obtain ⟨p, cp, rfl, _, _⟩ := hu
  have KB : Free.Bel w (w.alloc (.cells #[.int .i64 h, .slice p xs.length cp] 24)) := belAlloc _ _
  have m0 : (w.alloc (.cells #[.int .i64 h, .slice p xs.length cp] 24)).heap[w.heap.size]? = some (.cells #[.int .i64 h, .slice p xs.length cp] 24 (0, 0)) := World.alloc_heap_new w _
  have FA : ∀ W, Free.Bel (w.alloc (.cells #[.int .i64 h, .slice p xs.length cp] 24)) W → W.cell? ⟨w.heap.size, 0, none⟩ = some (.int .i64 h) ∧ W.cell? ⟨w.heap.size, 1, none⟩ = some (.slice p xs.length cp) := fun W hW => ⟨keepsB hW (cell_of_heap m0 rfl), keepsB hW (cell_of_heap m0 rfl)⟩
  have KE : Free.Bel (w.alloc (.cells #[.int .i64 h, .slice p xs.length cp] 24)) (w.alloc (.cells #[.int .i64 h, .slice p xs.length cp] 24)) := Free.Bel.refl _
  have HKB := Lib.hid KB
  have HCK := Lib.hid (checkP_v h xs _ (w.alloc (.cells #[.int .i64 h, .slice p xs.length cp] 24)) (hT.bel KB) (HU.out.keeps KB) 70 (by show _ = _; simp [hw]))
  clear hT hw m0
  go_enter Tryd.func47, Tryd.ntmps47
  go_wp2_with fail
  refine HCK.out.mono ?_
  rintro e w1 ⟨rfl, hB1⟩
  have HB := Lib.hid (bt KB hB1)
  clear hB1
  go_wp2_with fail
  go_ret2
  exact ⟨rfl, HB.out⟩
set_option maxRecDepth 100000 in
set_option maxHeartbeats 16000000 in
theorem last_b (h : Int) (xs : List Rk) (u : Value) (w : World) (hT : TabR w) (hu : RL xs u w) (hw : watchB h xs = true) (he : everB h xs = true) :
    Calls Tryd.prog 47 #[.agg #[.int .i64 h, u]] w fun e w' => e = .returned (.tuple #[.slice none 0 0, .int .i64 6]) ∧ Below w.heap.size w w' := by
  have HU := Lib.hid hu
  obtain ⟨p, cp, rfl, _, _⟩ := hu
  have KB : Free.Bel w (w.alloc (.cells #[.int .i64 h, .slice p xs.length cp] 24)) := belAlloc _ _
  have m0 : (w.alloc (.cells #[.int .i64 h, .slice p xs.length cp] 24)).heap[w.heap.size]? = some (.cells #[.int .i64 h, .slice p xs.length cp] 24 (0, 0)) := World.alloc_heap_new w _
  have FA : ∀ W, Free.Bel (w.alloc (.cells #[.int .i64 h, .slice p xs.length cp] 24)) W → W.cell? ⟨w.heap.size, 0, none⟩ = some (.int .i64 h) ∧ W.cell? ⟨w.heap.size, 1, none⟩ = some (.slice p xs.length cp) := fun W hW => ⟨keepsB hW (cell_of_heap m0 rfl), keepsB hW (cell_of_heap m0 rfl)⟩
  have KE : Free.Bel (w.alloc (.cells #[.int .i64 h, .slice p xs.length cp] 24)) (w.alloc (.cells #[.int .i64 h, .slice p xs.length cp] 24)) := Free.Bel.refl _
  have HKB := Lib.hid KB
  have HCK := Lib.hid (checkP_v h xs _ (w.alloc (.cells #[.int .i64 h, .slice p xs.length cp] 24)) (hT.bel KB) (HU.out.keeps KB) 0 (by show _ = _; simp [hw]))
  have H4 := Lib.hid (watchB_iff.1 hw).2.1
  have HX := Lib.hid (watchB_ok hw)
  have HST := Lib.hid (st_self hw)
  have HWE := Lib.hid (And.intro hw he)
  clear hT hw he m0
  go_enter Tryd.func47, Tryd.ntmps47
  go_wp2_with fail
  refine HCK.out.mono ?_
  rintro e w1 ⟨rfl, hB1⟩
  have HB1 := Lib.hid (bt HKB.out hB1)
  have K1 : Free.Bel (w.alloc (.cells #[.int .i64 h, .slice p xs.length cp] 24)) w1 := hB1
  clear hB1
  go_wp2_with fail
  refine (begun_any h xs _ w1 (HU.out.keeps (bt HKB.out K1)) HWE.out.1).mono ?_
  rintro e w2 ⟨yb, gb, dv, v, rfl, hyw, hm, hy1, hy2, hy3, hB2⟩
  have hB12 : Free.Bel w w2 := bt (bt HKB.out K1) hB2
  have hgl := hm.lt
  have hmo := (show MapIs quadV gb _ (w2.alloc (.cells #[.pointer (some ⟨yb, 0, none⟩)] 108)) from hm.bel (belAlloc _ _)).obj
  have hyl := lt_of_cell hyw.c1
  have hlb : ((w2.alloc (.cells #[.pointer (some ⟨yb, 0, none⟩)] 108)).alloc (.cells #[.slice none 0 0] 137)).heap[w2.heap.size + 1]? = some (.cells #[.slice none 0 0] 137 (0, 0)) := by
    have := World.alloc_heap_new (w2.alloc (.cells #[.pointer (some ⟨yb, 0, none⟩)] 108)) (.cells #[.slice none 0 0] 137)
    simpa using this
  have h5b : (w2.alloc (.cells #[.pointer (some ⟨yb, 0, none⟩)] 108)).heap[w2.heap.size]? = some (.cells #[.pointer (some ⟨yb, 0, none⟩)] 108 (0, 0)) := World.alloc_heap_new w2 _
  have HSET := Lib.hid (settle_told yb gb (w2.heap.size + 1) h xs v dv _ (w2.alloc (.cells #[.pointer (some ⟨yb, 0, none⟩)] 108)) ((w2.alloc (.cells #[.pointer (some ⟨yb, 0, none⟩)] 108)).alloc (.cells #[.slice none 0 0] 137)) (hyw.kc (.of_bel (belAlloc _ _))) (hm.bel (belAlloc _ _)) (belAlloc _ _) hlb (by simp) H4.out (fun x hx => (HX.out x hx).2.2.2.1) (keysY_good fun x hx => (HX.out x hx).2.2.1) (keys_small HWE.out.1))
  have HALL := Lib.hid (And.intro hB12 (And.intro h5b (And.intro hgl (And.intro hyw.c1 (And.intro hyw (And.intro hy2 (And.intro hmo hyl)))))))
  clear hyw hm hy1 hy2 hy3 hB2 hB12 hgl hyl hmo h5b hlb FA KE KB K1
  go_wp2_with fail
  refine HSET.out.mono ?_
  rintro e w5 ⟨⟨x, rfl⟩, K, gs, tv, L, hK, hE, hM, hG, hTl, hstay⟩
  obtain ⟨hB12, h5b, hgl, hc1, hyw, hgy, hmo, hyl⟩ := HALL.out
  have hgw : w.heap.size ≤ gb := Nat.le_trans (by have := (show Free.Bel w w1 from HB1.out).size; exact this) hgy
  have h5 : w5.heap[w2.heap.size]? = some (.cells #[.pointer (some ⟨yb, 0, none⟩)] 108 (0, 0)) := heap_grown h5b hG (by simp; omega)
  have hyw5 : YW yb gb h xs v dv w5 := (hyw.kc (.of_bel (belAlloc _ _))).kc ((fun ⟨o, h1, h2⟩ => KC.of_grown hG h1 h2) hmo)
  have HYE := Lib.hid (show YE yb gb h xs v dv L w5 from ⟨hyw5, hM, hE⟩)
  have hB5 : Below w.heap.size w w5 := Below.trans (show Below w.heap.size w (w2.alloc (.cells #[.pointer (some ⟨yb, 0, none⟩)] 108)) from bt hB12 (belAlloc _ _)) (Below.of_grown hG (by have := hB12.size; simp; omega) (fun r e => by cases e; exact hgw))
  have hsz5 : w2.heap.size + 2 ≤ w5.heap.size := by have := lt_of_heap hTl.box; omega
  have HTL := Lib.hid (And.intro hTl (And.intro hK (And.intro hstay (And.intro hB5 (And.intro h5 (And.intro hsz5 (hB12.size)))))))
  have c5 := cell_of_heap (o := 0) h5 rfl
  clear hE hM hG hTl hstay hK hB5 h5 hsz5 hB12 h5b hgl hc1 hyw hgy hmo hyl hyw5 hgw
  go_wp2_with fail
  refine (now_any yb xs v w5 HYE.out.yw.c1 HYE.out.yw.rl H4.out).mono ?_
  rintro e w6 ⟨rfl, hB6⟩
  have hB6 : Free.Bel w5 w6 := hB6
  have HK6 := Lib.hid hB6
  clear c5 hB6
  go_wp2_with fail
  have KA : Free.Bel w6 (w6.alloc (.cells (arrV (waits xs)) 109)) := belAlloc _ _
  have hFB : ∀ W, Free.Bel (w6.alloc (.cells (arrV (waits xs)) 109)).drew W → Free.Bel w6 W := fun W hW => bt KA (bt (Bel.drewT (Free.Bel.refl _)) hW)
  have m7 : (w6.alloc (.cells (arrV (waits xs)) 109)).heap[w6.heap.size]? = some (.cells (arrV (waits xs)) 109 (0, 0)) := World.alloc_heap_new w6 _
  have HM7 := Lib.hid m7
  have hF : ∀ W, Free.Bel (w6.alloc (.cells (arrV (waits xs)) 109)).drew W → (W.cell? ⟨w2.heap.size, 0, none⟩ = some (.pointer (some ⟨yb, 0, none⟩)) ∧ W.cell? ⟨yb, 2, none⟩ = some (.map (some gb)) ∧ (Instr.lookup 139 (.map (some gb)) (.agg #[.int .i64 (waits xs 0), .int .i64 (waits xs 1), .int .i64 (waits xs 2), .int .i64 (waits xs 3)]) false).run Tryd.prog W = .ok (.bool true) W ∧ (W.cell? ⟨w6.heap.size, 0, none⟩ = some (.int .i64 (waits xs 0)) ∧ W.cell? ⟨w6.heap.size, 1, none⟩ = some (.int .i64 (waits xs 1)) ∧ W.cell? ⟨w6.heap.size, 2, none⟩ = some (.int .i64 (waits xs 2)) ∧ W.cell? ⟨w6.heap.size, 3, none⟩ = some (.int .i64 (waits xs 3)))) := fun W hW => by
    have h1 := HYE.out.bel (bt HK6.out (hFB W hW))
    have h2 := h1.has H4.out HST.out
    rw [HWE.out.2] at h2
    have hd : Free.Bel (w6.alloc (.cells (arrV (waits xs)) 109)) W := bt (Bel.drewT (Free.Bel.refl _)) hW
    obtain ⟨z0, z1, z2, z3, _⟩ := cells4 ((hd.block _ (lt_of_heap HM7.out)).trans HM7.out)
    exact ⟨keepsB (bt HK6.out (hFB W hW)) (cell_of_heap HTL.out.2.2.2.2.1 rfl), h1.yw.c2, h2, z0, z1, z2, z3⟩
  refine Free.wp_free (R := Free.Bel) (by kernel_rfl) (by kernel_rfl) Free.Bel.refl Free.Bel.trans ?_
  refine Free.Chain.ex ?_ [] [5] (by kernel_rfl) (by kernel_rfl) rfl Free.Bel.refl ?_ ?_
  rotate_left
  · (intro ev W hb hR hO hD; have hS := hF W hR; obtain ⟨hb1, hb2, hb3⟩ := hb; simp only [Free.AllDeps, Free.AllOuts, Free.At, al1, al2, al3, al4, al5, and_true] at hO hD; go_simp; rfl)
  simp only [an1, an2]
  refine Free.Chain.ex ?_ [(0, 27)] [] (by kernel_rfl) (by kernel_rfl) rfl Free.Bel.refl ?_ ?_
  rotate_left
  · (intro ev W hb hR hO hD; have hS := hF W hR; obtain ⟨hb1, hb2, hb3⟩ := hb; simp only [Free.AllDeps, Free.AllOuts, Free.At, al1, al2, al3, al4, al5, and_true] at hO hD; go_simp; rfl)
  simp only [an1, an2]
  refine Free.Chain.ex ?_ [(1, 28)] [] (by kernel_rfl) (by kernel_rfl) rfl Free.Bel.refl ?_ ?_
  rotate_left
  · (intro ev W hb hR hO hD; have hS := hF W hR; obtain ⟨hb1, hb2, hb3⟩ := hb; simp only [Free.AllDeps, Free.AllOuts, Free.At, al1, al2, al3, al4, al5, and_true] at hO hD; go_simp; rfl)
  simp only [an1, an2]
  refine Free.Chain.ex ?_ [(2, 29)] [] (by kernel_rfl) (by kernel_rfl) rfl Free.Bel.refl ?_ ?_
  rotate_left
  · (intro ev W hb hR hO hD; have hS := hF W hR; obtain ⟨hb1, hb2, hb3⟩ := hb; simp only [Free.AllDeps, Free.AllOuts, Free.At, al1, al2, al3, al4, al5, and_true] at hO hD; go_simp; rfl)
  simp only [an1, an2]
  refine Free.Chain.ex ?_ [] [7] (by kernel_rfl) (by kernel_rfl) rfl Free.Bel.refl ?_ ?_
  rotate_left
  · (intro ev W hb hR hO hD; have hS := hF W hR; obtain ⟨hb1, hb2, hb3⟩ := hb; simp only [Free.AllDeps, Free.AllOuts, Free.At, al1, al2, al3, al4, al5, and_true] at hO hD; go_simp; rfl)
  simp only [an1, an2]
  refine Free.Chain.ex ?_ [(3, 30), (4, 31)] [] (by kernel_rfl) (by kernel_rfl) rfl Free.Bel.refl ?_ ?_
  rotate_left
  · (intro ev W hb hR hO hD; have hS := hF W hR; obtain ⟨hb1, hb2, hb3⟩ := hb; simp only [Free.AllDeps, Free.AllOuts, Free.At, al1, al2, al3, al4, al5, and_true] at hO hD; go_simp; rfl)
  simp only [an1, an2]
  intro ys w8 hR hV
  simp only [Free.AllV, Free.At, List.length_cons, List.length_nil, Nat.reduceAdd, List.getElem?_cons_succ, List.getElem?_cons_zero, true_and, and_true] at hV
  simp only [Free.putsFrom, Act.put, Nat.zero_add, Nat.reduceAdd, hV, List.setIfInBounds_toArray, List.set_cons_succ, List.set_cons_zero]
  have HB8 := Lib.hid (show Free.Bel (w6.alloc (.cells (arrV (waits xs)) 109)) w8 from bt (Bel.drewT (Free.Bel.refl _)) hR)
  clear hR hV hF hFB KA m7
  have HBW := Lib.hid (HTL.out.2.2.2.1.trans (Below.mono (bt HK6.out (bt (belAlloc _ _) HB8.out)) HTL.out.2.2.2.1.size))
  go_wp2_with fail
  go_ret2
  exact ⟨rfl, HBW.out⟩
end Go.Proofs.YtknpglgpkkhhiaaDoor

