/- The logic of calls over abstract data, third part. -/
import Derived.Test.YtbaongomialaoaaGreatDoorCb
import Derived.Laws.MakeOwn
section
namespace Go.Arb
set_option linter.unusedVariables false
set_option linter.unusedSimpArgs false
open Go

/-! ### Maps -/
def ckT (P : Program) : Nat → TypeId → DV → Bool
  | 0, _, _ => false
  | d + 1, t, x =>
    match P.underlying t, x with
    | some .bool, _ => true
    | some (.int _), _ => true
    | some .string, _ => true
    | some (.array n e), .agg xs => match lk P e with
      | some (g, s) => (List.range n).all fun i => match partD g xs (i * s) s with | some a => ckT P d e a | none => false
      | none => false
    | _, _ => false

theorem ckT_sound {P : Program} {w : World} {I : Nat → Prop} (em : Bool) : ∀ (d e : Nat) (t : TypeId) (x : DV) (v : Value), R I w v x → ckT P d t x = true → (Instr.checkKey em (d + e) t v).run P w = .ok () w := by
  intro d
  induction d with
  | zero => intro e t x v _ h; simp [ckT] at h
  | succ d ih =>
    intro e t x v hx h
    simp only [ckT] at h
    rw [show d + 1 + e = (d + e) + 1 by omega]
    split at h
    · rename_i hu; simp [Instr.checkKey, run_underlying hu]
    · rename_i hu; simp [Instr.checkKey, run_underlying hu]
    · rename_i hu; simp [Instr.checkKey, run_underlying hu]
    · rename_i n el xs hu
      cases hx with
      | agg vs _ hl hr =>
      split at h
      · rename_i g s hlk
        obtain ⟨td, ti, h1, h2, h3, h4⟩ := lk_spec hlk
        rw [Instr.checkKey]
        simp only [Sem.run_bind, run_underlying hu, Result.andThen_ok]
        simp only [Std.Legacy.Range.forIn_eq_forIn_range', Std.Legacy.Range.size, Nat.sub_zero, Nat.add_one_sub_one, Nat.div_one]
        rw [List.range_eq_range'] at h
        generalize List.range' 0 n = is at h
        induction is with
        | nil => simp
        | cons j is ih' =>
          simp only [List.all_cons, Bool.and_eq_true] at h
          obtain ⟨h5, h6⟩ := h
          split at h5
          · rename_i a ha
            obtain ⟨va, hva, hRa⟩ := run_part' (P := P) (w := w) hlk hl hr ha
            simp only [List.forIn_cons, Sem.run_bind, run_sizeOf' h2, h4, Result.andThen_ok, hva, ih e el a va hRa h5, Sem.run_pure]
            exact ih' h6
          · simp at h5
      · simp at h
    · simp at h

/-- The place of a key. -/
def kfi (P : Program) (kt : TypeId) (k : DV) : List (DV × DV) → Nat → Option (Option (Nat × DV))
  | [], _ => some none
  | kv :: l, i => match eqT P 6 kt k kv.1 with
    | some true => some (some (i, kv.2))
    | some false => kfi P kt k l (i + 1)
    | none => none

def FR (I : Nat → Prop) (w : World) : Option (Nat × Value) → Option (Nat × DV) → Prop
  | none, none => True
  | some (i, v), some (j, d) => i = j ∧ R I w v d
  | _, _ => False

def ERel (I : Nat → Prop) (w : World) (es : List MapEntry) (kvs : List (DV × DV)) : Prop :=
  es.length = kvs.length ∧ ∀ (j : Nat) e kv, es[j]? = some e → kvs[j]? = some kv → R I w e.key kv.1 ∧ R I w e.val kv.2

theorem ERel.cons {I w e es kv kvs} (h : ERel I w (e :: es) (kv :: kvs)) : R I w e.key kv.1 ∧ R I w e.val kv.2 ∧ ERel I w es kvs :=
  ⟨(h.2 0 e kv rfl rfl).1, (h.2 0 e kv rfl rfl).2, by simpa using h.1, fun j e' kv' he hk => h.2 (j + 1) e' kv' (by simpa using he) (by simpa using hk)⟩

theorem sameNow_eq {P : Program} {w : World} {I : Nat → Prop} {kt : TypeId} {td : TypeDesc} {x y : DV} {v u : Value} {r c : Bool} (hu : P.underlying kt = some td) (hx : R I w v x) (hy : R I w u y) (h : eqT P 6 kt x y = some r) (hs : Instr.sameNow td v u = some c) : c = r := by
  unfold eqT at h
  split at h
  · rename_i e
    rw [hu] at e
    simp at e; subst e
    cases hx; cases hy
    simp [Instr.sameNow] at hs
    simp at h
    rw [← h, ← hs]
  · rename_i e
    rw [hu] at e
    simp at e; subst e
    cases hx; cases hy
    split at h
    · rename_i hk
      subst hk
      simp [Instr.sameNow] at hs
      simp at h
      rw [← h, ← hs]
    · simp at h
  · rename_i e
    rw [hu] at e
    simp at e; subst e
    cases hx with
    | s xa la hla =>
    cases hy with
    | s xb lb hlb =>
    simp [Instr.sameNow] at hs
    simp at h
    rw [← h, ← hs]
    exact ba_eq hla hlb
  · rename_i e
    rw [hu] at e
    simp at e; subst e
    simp [Instr.sameNow] at hs
  · rename_i e
    rw [hu] at e
    simp at e; subst e
    simp [Instr.sameNow] at hs
  · simp at h

theorem find_sound {P : Program} {w : World} {I : Nat → Prop} {kt : TypeId} {td : TypeDesc} {x : DV} {v : Value} (hu : P.underlying kt = some td) (hx : R I w v x) : ∀ (es : List MapEntry) (kvs : List (DV × DV)) (i : Nat) (q : Option (Nat × DV)),
    ERel I w es kvs → kfi P kt x kvs i = some q → ∃ r, (Instr.findAsking kt v es i).run P w = .ok r w ∧ FR I w r q ∧ ∀ r', Instr.findNow td v es i = some r' → r' = r := by
  intro es
  induction es with
  | nil =>
    intro kvs i q hE h
    cases kvs with
    | cons _ _ => simp [ERel] at hE
    | nil =>
      simp [kfi] at h; subst h
      exact ⟨none, by simp [Instr.findAsking], trivial, fun r' h => by simpa [Instr.findNow] using h.symm⟩
  | cons e es ih =>
    intro kvs i q hE h
    cases kvs with
    | nil => simp [ERel] at hE
    | cons kv kvs =>
      obtain ⟨h1, h2, h3⟩ := hE.cons
      simp only [kfi] at h
      split at h
      · rename_i heq
        simp at h; subst h
        refine ⟨some (i, e.val), by simp [Instr.findAsking, equal_sound hx h1 heq], ⟨rfl, h2⟩, fun r' hr' => ?_⟩
        simp only [Instr.findNow] at hr'
        split at hr'
        · simpa using hr'.symm
        · rename_i hs; have := sameNow_eq hu hx h1 heq hs; simp at this
        · simp at hr'
      · rename_i heq
        obtain ⟨r, hr, hq, hn⟩ := ih kvs (i + 1) q h3 h
        refine ⟨r, by simp [Instr.findAsking, equal_sound hx h1 heq, hr], hq, fun r' hr' => ?_⟩
        simp only [Instr.findNow] at hr'
        split at hr'
        · rename_i hs; have := sameNow_eq hu hx h1 heq hs; simp at this
        · exact hn r' hr'
        · simp at hr'
      · simp at h

theorem findKey_sound {P : Program} {w : World} {I : Nat → Prop} {kt : TypeId} {x : DV} {v : Value} {es : List MapEntry} {kvs : List (DV × DV)} {q : Option (Nat × DV)} (hc : (P.underlying kt).isSome = true) (hx : R I w v x) (hE : ERel I w es kvs) (h : kfi P kt x kvs 0 = some q) :
    ∃ r, (Instr.findKey kt v es).run P w = .ok r w ∧ FR I w r q := by
  obtain ⟨td, hu⟩ := Option.isSome_iff_exists.1 hc
  obtain ⟨r, hr, hq, hn⟩ := find_sound hu hx es kvs 0 q hE h
  refine ⟨r, ?_, hq⟩
  unfold Instr.findKey
  simp only [Sem.run_bind, run_underlying hu, Result.andThen_ok]
  split
  · rename_i r' hr'; rw [hn r' hr']; simp
  · exact hr

theorem ckT_underlying {P : Program} {d t x} (h : ckT P d t x = true) : (P.underlying t).isSome = true := by
  cases d with
  | zero => simp [ckT] at h
  | succ d =>
    simp only [ckT] at h
    cases hu : P.underlying t with
    | none => simp [hu] at h
    | some _ => rfl

/-- A map type's key and element. -/
def mlk (P : Program) (t : TypeId) : Option (TypeId × TypeId) :=
  match P.underlying t with
  | some (.map k e) => some (k, e)
  | _ => none

theorem mlk_spec {P : Program} {t k e} (h : mlk P t = some (k, e)) : P.underlying t = some (.map k e) := by
  unfold mlk at h
  split at h
  · rename_i k' e' hu; simp at h; obtain ⟨rfl, rfl⟩ := h; exact hu
  · simp at h

def zeroV (P : Program) (t : TypeId) : Option DV := ((P.info? t).bind (·.zero)).map ofVs

theorem zeroV_run {P : Program} {w : World} {I : Nat → Prop} {t : TypeId} {z : DV} (h : zeroV P t = some z) : ∃ v, (zeroValue t).run P w = .ok v w ∧ R I w v z := by
  unfold zeroV at h
  simp only [Option.map_eq_some_iff, Option.bind_eq_some_iff] at h
  obtain ⟨v, ⟨i, hi, hz⟩, rfl⟩ := h
  exact ⟨v, by simp [zeroValue, typeInfo, hi, hz], R_ofVs _ _ _⟩

/-- What a map has, by the value. -/
def mapD (σ : Store) : DV → Option (List (DV × DV))
  | .nilmap => some []
  | .mp b => match σ b with
    | some (.map kvs) => some kvs
    | _ => none
  | _ => none

def lkpD (P : Program) (kt et : TypeId) (ok : Bool) (k : DV) (kvs : List (DV × DV)) : Option DV :=
  match kfi P kt k kvs 0 with
  | some (some (_, v)) => some (if ok then .tup [v, .b true] else v)
  | some none => (zeroV P et).map fun z => if ok then .tup [z, .b false] else z
  | none => none

theorem R_tup2 {I w v u a b} (h : R I w v a) (h' : R I w u b) : R I w (.tuple #[v, u]) (.tup [a, b]) :=
  .tup _ _ rfl (fun j x d hx hd => by
    match j with
    | 0 => simp at hx hd; subst hx hd; exact h
    | 1 => simp at hx hd; subst hx hd; exact h'
    | n + 2 => simp at hx)

section
variable {C : Cx} {o : Oper} {ε : Operand → DV} {σ : Store} {Q : DV → Store → Prop} {d : DV}

theorem map_run {F w} (hS : Sim C F σ w) {m : DV} {v : Value} {kvs : List (DV × DV)} (hm : mapD σ m = some kvs) (hv : R (own F σ) w v m) :
    (v = .map none ∧ kvs = []) ∨ ∃ b es clock, v = .map (some b) ∧ m = .mp b ∧ σ b = some (.map kvs) ∧ w.heap[b]? = some (.map es clock) ∧ ERel (own F σ) w es.toList kvs ∧ (∀ (e : MapEntry), e ∈ es → e.born < clock) ∧ (es.toList.map (·.born)).Nodup := by
  cases m with
  | nilmap => simp [mapD] at hm; subst hm; cases hv; exact .inl ⟨rfl, rfl⟩
  | mp b =>
    simp only [mapD] at hm
    split at hm
    · rename_i kvs' hb
      simp at hm; subst hm
      cases hv
      obtain ⟨es, clock, hh, hl, hr, hc, hn⟩ := hS.ob b _ hb
      exact .inr ⟨b, es, clock, rfl, rfl, hb, hh, ⟨by simpa using hl, fun j e kv he hk => hr j e kv (by simpa using he) hk⟩, hc, hn⟩
    · simp at hm
  | _ => simp [mapD] at hm

theorem y_lookup {t : TypeId} {m k : Operand} {ok : Bool} {kt et : TypeId} {kvs : List (DV × DV)} (ho : o.op = .lookup t m k ok) (ht : mlk C.P t = some (kt, et)) (hm : mapD σ (ε m) = some kvs) (hck : ckT C.P 6 kt (ε k) = true)
    (hd : lkpD C.P kt et ok (ε k) kvs = some d) : Yields C o ε σ d := .of_run fun F w φ hr hS => by
  have hm1 := hr m (by simp [ho, Op.operands])
  have hk1 := hr k (by simp [ho, Op.operands])
  have hu := mlk_spec ht
  unfold lkpD at hd
  have fin : ∀ (es : Array MapEntry), ERel (own F σ) w es.toList kvs → (Instr.checkKey es.isEmpty 10000 kt (φ k)).run C.P w = .ok () w ∧
      ((∃ i v, (Instr.findKey kt (φ k) es.toList).run C.P w = .ok (some (i, v)) w ∧ ((ok = true → R (own F σ) w (.tuple #[v, .bool true]) d) ∧ (ok = false → R (own F σ) w v d))) ∨
       (∃ z, (Instr.findKey kt (φ k) es.toList).run C.P w = .ok none w ∧ (zeroValue et).run C.P w = .ok z w ∧ ((ok = true → R (own F σ) w (.tuple #[z, .bool false]) d) ∧ (ok = false → R (own F σ) w z d)))) := by
    intro es hE
    refine ⟨ckT_sound es.isEmpty 6 9994 kt (ε k) (φ k) hk1 hck, ?_⟩
    split at hd
    · rename_i i v hq
      obtain ⟨r, hr', hFR⟩ := findKey_sound (ckT_underlying hck) hk1 hE hq
      cases r with
      | none => simp [FR] at hFR
      | some p =>
        obtain ⟨_, hv⟩ := hFR
        refine .inl ⟨p.1, p.2, hr', fun h => ?_, fun h => ?_⟩
        · rw [h] at hd; simp at hd; rw [← hd]; exact R_tup2 hv (.b _)
        · rw [h] at hd; simp at hd; rw [← hd]; exact hv
    · rename_i hq
      obtain ⟨r, hr', hFR⟩ := findKey_sound (ckT_underlying hck) hk1 hE hq
      cases r with
      | some p => simp [FR] at hFR
      | none =>
        simp only [Option.map_eq_some_iff] at hd
        obtain ⟨z, hz, hd⟩ := hd
        obtain ⟨zv, hzv, hzR⟩ := zeroV_run (w := w) (I := own F σ) hz
        refine .inr ⟨zv, hr', hzv, fun h => ?_, fun h => ?_⟩
        · rw [h] at hd; simp at hd; rw [← hd]; exact R_tup2 hzR (.b _)
        · rw [h] at hd; simp at hd; rw [← hd]; exact hzR
    · simp at hd
  have hl : ∀ v, R (own F σ) w v d → (Instr.lookup t (φ m) (φ k) ok).run C.P w = .ok v w → ∃ v, (execOp φ o).run C.P w = .ok (.value v) w ∧ R (own F σ) w v d := fun v h h' => ⟨v, by simp [execOp, ho, h'], h⟩
  rcases map_run hS hm hm1 with ⟨hv, rfl⟩ | ⟨b, es, clock, hv, _, _, hh, hE, _, _⟩
  · obtain ⟨h1, h2⟩ := fin #[] ⟨rfl, fun j e kv h => by simp at h⟩
    simp only [Array.isEmpty_empty] at h1
    rcases h2 with ⟨i, v, h3, h4, h5⟩ | ⟨z, h3, h3', h4, h5⟩
    · cases ok with
      | true => exact hl _ (h4 rfl) (by simp [Instr.lookup, hv, run_underlying hu, h1, h3])
      | false => exact hl _ (h5 rfl) (by simp [Instr.lookup, hv, run_underlying hu, h1, h3])
    · cases ok with
      | true => exact hl _ (h4 rfl) (by simp [Instr.lookup, hv, run_underlying hu, h1, h3, h3'])
      | false => exact hl _ (h5 rfl) (by simp [Instr.lookup, hv, run_underlying hu, h1, h3, h3'])
  · obtain ⟨h1, h2⟩ := fin es hE
    have hg : (getObj b).run C.P w = .ok (.map es clock) w := by simp [getObj, Sem.run, hh]
    rcases h2 with ⟨i, v, h3, h4, h5⟩ | ⟨z, h3, h3', h4, h5⟩
    · cases ok with
      | true => exact hl _ (h4 rfl) (by simp [Instr.lookup, hv, run_underlying hu, hg, h1, h3])
      | false => exact hl _ (h5 rfl) (by simp [Instr.lookup, hv, run_underlying hu, hg, h1, h3])
    · cases ok with
      | true => exact hl _ (h4 rfl) (by simp [Instr.lookup, hv, run_underlying hu, hg, h1, h3, h3'])
      | false => exact hl _ (h5 rfl) (by simp [Instr.lookup, hv, run_underlying hu, hg, h1, h3, h3'])

theorem AOp_makeMap {t : TypeId} (ho : o.op = .makeMap t none) (hq : ∀ b, σ b = none → Q (.mp b) (sset σ b (.map []))) : AOp C o ε σ Q := by
  intro F w φ hr hS
  have hrun : (execOp φ o).run C.P w = .ok (.value (.map (some w.heap.size))) (w.alloc (.map #[] 0)) := by
    have h1 : (Instr.makeMap t none).run C.P w = .ok (.map (some w.heap.size)) (w.alloc (.map #[] 0)) := rfl
    simp [execOp, ho, h1]
  rw [hrun]
  have hn := Sim.new hS (.map #[] 0) (.map []) (fun hown => ⟨#[], 0, heap_push_new w _, rfl, fun j e kv h => by simp at h, fun e he => by simp at he, by simp⟩)
  exact ⟨_, _, .mp _, hn.1, hn.2, hq _ (hS.none_of_ge (Nat.le_refl _))⟩
end
end Go.Arb
end

section
namespace Go.Arb
set_option linter.unusedVariables false
set_option linter.unusedSimpArgs false
open Go

/-- A key that is known whole. -/
def plainK : DV → Bool
  | .i _ _ | .s _ | .b _ => true
  | .agg cs => cs.all fun d => match d with | .i _ _ | .s _ | .b _ => true | _ => false
  | _ => false

theorem R_leaf {I w w' I'} {v u : Value} {d : DV} (hd : (match d with | .i _ _ | .s _ | .b _ => true | _ => false) = true) (h : R I w v d) (h' : R I' w' u d) : v = u ∧ ∀ n, Instr.sameBits n v v = true := by
  cases d <;> simp at hd
  · cases h; cases h'; exact ⟨rfl, fun n => by unfold Instr.sameBits; simp⟩
  · cases h; cases h'; exact ⟨rfl, fun n => by unfold Instr.sameBits; simp⟩
  · cases h with
    | s x l hx => cases h' with
      | s y m hy =>
        have : x = y := by
          have : x.data = y.data := by
            have := hx.trans hy.symm
            simpa using congrArg List.toArray this
          cases x; cases y; simp_all
        exact ⟨by rw [this], fun n => by unfold Instr.sameBits; exact (ba_eq (a := x) (b := x) rfl rfl).trans (by simp)⟩

theorem R_plain {I w} {v u : Value} {d : DV} (hd : plainK d = true) (h : R I w v d) (h' : R I w u d) : v = u ∧ Instr.sameBits 10000 v v = true := by
  cases d with
  | agg cs =>
    cases h with
    | agg vs _ hl hr => cases h' with
      | agg us _ hl' hr' =>
        have hd' := List.all_eq_true.1 hd
        refine ⟨?_, ?_⟩
        · congr 1
          apply Array.ext
          · omega
          · intro j h1 h2
            have hj : j < cs.length := by omega
            have hm := hd' cs[j] (List.getElem_mem _)
            exact (R_leaf hm (hr j vs[j] cs[j] (by simp [h1]) (by simp [hj])) (hr' j us[j] cs[j] (by simp [h2]) (by simp [hj]))).1
        · unfold Instr.sameBits
          simp only [beq_self_eq_true, Bool.true_and, List.all_eq_true]
          intro p hp
          obtain ⟨a, b⟩ := p
          have hab : a = b ∧ a ∈ vs.toList := by
            have := List.of_mem_zip hp
            obtain ⟨i, hi, hi'⟩ := List.getElem_of_mem hp
            simp at hi'
            exact ⟨hi'.1.symm.trans hi'.2, this.1⟩
          obtain ⟨rfl, ha⟩ := hab
          obtain ⟨j, hj, rfl⟩ := List.getElem_of_mem ha
          have hjv : j < vs.size := by simpa using hj
          have hj' : j < cs.length := by omega
          have hR := hr j vs[j] cs[j] (by simp [hjv]) (by simp [hj'])
          simpa using (R_leaf (hd' cs[j] (List.getElem_mem _)) hR hR).2 9999
  | i k n => exact ⟨(R_leaf rfl h h').1, (R_leaf rfl h h').2 10000⟩
  | s l => exact ⟨(R_leaf rfl h h').1, (R_leaf rfl h h').2 10000⟩
  | b x => exact ⟨(R_leaf rfl h h').1, (R_leaf rfl h h').2 10000⟩
  | _ => simp [plainK] at hd

theorem kfi_spec {P : Program} {kt : TypeId} {k : DV} : ∀ {kvs : List (DV × DV)} {i j : Nat} {v : DV}, kfi P kt k kvs i = some (some (j, v)) → i ≤ j ∧ ∃ k', kvs[j - i]? = some (k', v) ∧ eqT P 6 kt k k' = some true := by
  intro kvs
  induction kvs with
  | nil => intro i j v h; simp [kfi] at h
  | cons kv kvs ih =>
    intro i j v h
    simp only [kfi] at h
    split at h
    · rename_i he
      simp at h
      obtain ⟨rfl, rfl⟩ := h
      exact ⟨Nat.le_refl _, kv.1, by simp, he⟩
    · obtain ⟨h1, k', h2, h3⟩ := ih h
      refine ⟨by omega, k', ?_, h3⟩
      rw [show j - i = (j - (i + 1)) + 1 by omega]
      simpa using h2
    · simp at h

/-- What a map is behind an update. -/
def msetD (P : Program) (kt : TypeId) (k v : DV) (kvs : List (DV × DV)) : Option (List (DV × DV)) :=
  match kfi P kt k kvs 0 with
  | some (some (i, _)) => some (kvs.set i (k, v))
  | some none => some (kvs ++ [(k, v)])
  | none => none

def mdelD (P : Program) (kt : TypeId) (k : DV) (kvs : List (DV × DV)) : Option (List (DV × DV)) :=
  match kfi P kt k kvs 0 with
  | some (some (i, _)) => some (kvs.eraseIdx i)
  | some none => some kvs
  | none => none

theorem setObj_heap {w : World} {b : Nat} {o o' : Obj} (hb : w.heap[b]? = some o) : ({ w with heap := w.heap.setIfInBounds b o' } : World).heap[b]? = some o' ∧ ∀ x, x ≠ b → ({ w with heap := w.heap.setIfInBounds b o' } : World).heap[x]? = w.heap[x]? :=
  MapKept.heap_set hb

theorem nodup_append_new {es : Array MapEntry} {clock : Nat} {e : MapEntry} (hc : ∀ (e : MapEntry), e ∈ es → e.born < clock) (hn : (es.toList.map (·.born)).Nodup) (he : e.born = clock) : ((es.push e).toList.map (·.born)).Nodup := by
  simp only [Array.toList_push, List.map_append, List.map_cons, List.map_nil]
  rw [List.nodup_append]
  refine ⟨hn, by simp, ?_⟩
  intro a ha b hb
  simp at ha hb
  obtain ⟨x, hx, rfl⟩ := ha
  have := hc x hx
  omega

section
variable {C : Cx} {o : Oper} {ε : Operand → DV} {σ : Store} {Q : DV → Store → Prop} {d : DV}

/-- A map is written. -/
theorem Sim.writeMap {F w} (hS : Sim C F σ w) {b : Nat} {kvs kvs' : List (DV × DV)} {es es' : Array MapEntry} {clock clock' : Nat} (hb : σ b = some (.map kvs)) (hh : w.heap[b]? = some (.map es clock))
    (hl : es'.size = kvs'.length) (hr : ∀ (j : Nat) e kv, es'[j]? = some e → kvs'[j]? = some kv → R (own F σ) w e.key kv.1 ∧ R (own F σ) w e.val kv.2) (hc : ∀ (e : MapEntry), e ∈ es' → e.born < clock') (hn : (es'.toList.map (·.born)).Nodup) :
    Sim C F (sset σ b (.map kvs')) { w with heap := w.heap.setIfInBounds b (.map es' clock') } ∧ Step σ w (sset σ b (.map kvs')) { w with heap := w.heap.setIfInBounds b (.map es' clock') } := by
  have hbn : σ b ≠ none := by simp [hb]
  have hset := setObj_heap (o' := .map es' clock') hh
  refine Sim.write hS hbn (.map kvs') rfl rfl rfl (by simp) hset.2 ⟨es', clock', hset.1, hl, fun j e kv he hk => ?_, hc, hn⟩
  have hmono : ∀ v d, R (own F σ) w v d → R (own F σ) { w with heap := w.heap.setIfInBounds b (.map es' clock') } v d :=
    fun v d h => h.mono fun y hy hlt => ⟨hset.2 y (fun e => hy (.inr (e ▸ hbn))), hy⟩
  exact ⟨hmono _ _ (hr j e kv he hk).1, hmono _ _ (hr j e kv he hk).2⟩

theorem ERel.ofOb {F w} (hS : Sim C F σ w) {b : Nat} {kvs : List (DV × DV)} (hb : σ b = some (.map kvs)) : ∃ es clock, w.heap[b]? = some (.map es clock) ∧ ERel (own F σ) w es.toList kvs ∧ (∀ (e : MapEntry), e ∈ es → e.born < clock) ∧ (es.toList.map (·.born)).Nodup := by
  obtain ⟨es, clock, hh, hl, hr, hc, hn⟩ := hS.ob b _ hb
  exact ⟨es, clock, hh, ⟨by simpa using hl, fun j e kv he hk => hr j e kv (by simpa using he) hk⟩, hc, hn⟩

theorem AOp_mapUpdate {t : TypeId} {m k v : Operand} {b : Nat} {kt et : TypeId} {kvs kvs' : List (DV × DV)} (ho : o.op = .mapUpdate t m k v) (ht : mlk C.P t = some (kt, et)) (hm : ε m = .mp b) (hb : σ b = some (.map kvs))
    (hck : ckT C.P 6 kt (ε k) = true) (hpk : plainK (ε k) = true) (hkk : ∀ i w, kfi C.P kt (ε k) kvs 0 = some (some (i, w)) → kvs[i]?.map (·.1) = some (ε k)) (hs : msetD C.P kt (ε k) (ε v) kvs = some kvs')
    (hq : Q (.tup []) (sset σ b (.map kvs'))) : AOp C o ε σ Q := by
  intro F w φ hr hS
  have hm1 := hr m (by simp [ho, Op.operands])
  have hk1 := hr k (by simp [ho, Op.operands])
  have hv1 := hr v (by simp [ho, Op.operands])
  have hu := mlk_spec ht
  rw [hm] at hm1
  generalize hvm : φ m = vm at hm1
  cases hm1
  obtain ⟨es, clock, hh, hE, hc, hn⟩ := ERel.ofOb hS hb
  have hg : (getObj b).run C.P w = .ok (.map es clock) w := by simp [getObj, Sem.run, hh]
  have hckr := ckT_sound (P := C.P) false 6 9994 kt (ε k) (φ k) hk1 hck
  have hso : ∀ o', (setObj b o').run C.P w = .ok () { w with heap := w.heap.setIfInBounds b o' } := fun o' => MapKept.run_setObj_map o' hh
  unfold msetD at hs
  split at hs
  · rename_i i v0 hq'
    simp at hs; subst hs
    obtain ⟨r, hr', hFR⟩ := findKey_sound (ckT_underlying hck) hk1 hE hq'
    cases r with
    | none => simp [FR] at hFR
    | some p =>
      obtain ⟨pi, pv⟩ := p
      obtain ⟨hpi, _⟩ := hFR
      subst hpi
      have hki := hkk _ _ hq'
      obtain ⟨kv, hkv, hkv1⟩ := Option.map_eq_some_iff.1 hki
      have hlt : pi < kvs.length := lt_of_get hkv
      have hlt' : pi < es.size := by have := hE.1; simp at this; omega
      have hold : es[pi]? = some es[pi] := by simp [hlt']
      have hRo := (hE.2 pi es[pi] kv (by simp) hkv).1
      rw [hkv1] at hRo
      obtain ⟨hsame, hbits⟩ := R_plain hpk hRo hk1
      have hrun : (execOp φ o).run C.P w = .ok .skip { w with heap := w.heap.setIfInBounds b (.map (es.modify pi fun e => { e with key := φ k, val := φ v }) clock) } := by
        rw [hsame] at hbits
        simp [execOp, ho, Instr.mapUpdate, hvm, run_underlying hu, hg, hckr, hr', hold, hsame, Instr.keyThatStays, hbits, hso]
      rw [hrun]
      have hn' := Sim.writeMap hS (kvs' := kvs.set pi (ε k, ε v)) (es' := es.modify pi fun e => { e with key := φ k, val := φ v }) (clock' := clock) hb hh (by have := hE.1; simpa using this) (fun j e kv' he hk => by
          rw [Array.getElem?_modify] at he
          by_cases hj : pi = j
          · subst hj
            simp [hlt'] at he
            rw [List.getElem?_set_self hlt] at hk
            simp at hk
            subst he; subst hk
            exact ⟨hk1, hv1⟩
          · rw [if_neg hj] at he
            rw [List.getElem?_set_ne hj] at hk
            exact hE.2 j e kv' (by simpa using he) hk) (fun e he => by
          obtain ⟨j, hj, rfl⟩ := Array.getElem_of_mem he
          simp at hj
          have hj1 := hc es[j] (Array.getElem_mem hj)
          rw [Array.getElem_modify]
          split
          · exact hj1
          · exact hj1) (by
          have : ((es.modify pi fun e => { e with key := φ k, val := φ v }).toList.map (·.born)) = es.toList.map (·.born) := by
            apply List.ext_getElem
            · simp
            · intro j h1 h2
              simp only [List.getElem_map, Array.toList_modify, List.getElem_modify]
              split <;> rfl
          rw [this]; exact hn)
      exact ⟨_, _, .tup _ _ rfl (fun j v d h => by simp [undef] at h), hn'.1, hn'.2, hq⟩
  · rename_i hq'
    simp at hs; subst hs
    obtain ⟨r, hr', hFR⟩ := findKey_sound (ckT_underlying hck) hk1 hE hq'
    cases r with
    | some p => simp [FR] at hFR
    | none =>
      have hrun : (execOp φ o).run C.P w = .ok .skip { w with heap := w.heap.setIfInBounds b (.map (es.push { key := φ k, val := φ v, born := clock }) (clock + 1)) } := by
        simp [execOp, ho, Instr.mapUpdate, hvm, run_underlying hu, hg, hckr, hr', hso]
      rw [hrun]
      have hlen := hE.1
      simp at hlen
      have hn' := Sim.writeMap hS (kvs' := kvs ++ [(ε k, ε v)]) (es' := es.push { key := φ k, val := φ v, born := clock }) (clock' := clock + 1) hb hh (by simp [hlen]) (fun j e kv' he hk => by
          rw [Array.getElem?_push] at he
          split at he
          · rename_i hj
            subst hj
            rw [List.getElem?_append_right (by omega)] at hk
            simp [hlen] at he hk
            subst he; subst hk
            exact ⟨hk1, hv1⟩
          · have hj := (Array.getElem?_eq_some_iff.1 he).1
            rw [List.getElem?_append_left (by omega)] at hk
            exact hE.2 j e kv' (by simpa using he) hk) (fun e he => by
          rcases Array.mem_push.1 he with h | h
          · have := hc e h; omega
          · subst h; simp) (nodup_append_new hc hn rfl)
      exact ⟨_, _, .tup _ _ rfl (fun j v d h => by simp [undef] at h), hn'.1, hn'.2, hq⟩
  · simp at hs

theorem AOp_delete {t t' : TypeId} {m k : Operand} {b : Nat} {kt et : TypeId} {kvs kvs' : List (DV × DV)} (ho : o.op = .call ⟨.builtin .delete, #[m, k], #[t, t']⟩) (ht : mlk C.P t = some (kt, et)) (hm : ε m = .mp b) (hb : σ b = some (.map kvs))
    (hck : ckT C.P 6 kt (ε k) = true) (hs : mdelD C.P kt (ε k) kvs = some kvs') (hq : Q (.tup []) (sset σ b (.map kvs'))) : AOp C o ε σ Q := by
  intro F w φ hr hS
  have hm1 := hr m (by simp [ho, Op.operands, Call.operands])
  have hk1 := hr k (by simp [ho, Op.operands, Call.operands])
  have hu := mlk_spec ht
  rw [hm] at hm1
  generalize hvm : φ m = vm at hm1
  cases hm1
  obtain ⟨es, clock, hh, hE, hc, hn⟩ := ERel.ofOb hS hb
  have hg : (getObj b).run C.P w = .ok (.map es clock) w := by simp [getObj, Sem.run, hh]
  have hckr := ckT_sound (P := C.P) es.isEmpty 6 9994 kt (ε k) (φ k) hk1 hck
  have hso : ∀ o', (setObj b o').run C.P w = .ok () { w with heap := w.heap.setIfInBounds b o' } := fun o' => MapKept.run_setObj_map o' hh
  have hlen := hE.1
  simp at hlen
  unfold mdelD at hs
  split at hs
  · rename_i i v0 hq'
    simp at hs; subst hs
    obtain ⟨r, hr', hFR⟩ := findKey_sound (ckT_underlying hck) hk1 hE hq'
    cases r with
    | none => simp [FR] at hFR
    | some p =>
      obtain ⟨pi, pv⟩ := p
      obtain ⟨hpi, _⟩ := hFR
      subst hpi
      obtain ⟨_, k', hkv, _⟩ := kfi_spec hq'
      simp at hkv
      have hlt : pi < kvs.length := lt_of_get hkv
      have hlt' : pi < es.size := by omega
      have hrun : (execOp φ o).run C.P w = .ok (.value (.tuple #[])) { w with heap := w.heap.setIfInBounds b (.map (es.eraseIdxIfInBounds pi) clock) } := by
        simp [execOp, ho, resolve, invoke, builtin, Builtin.delete_, hvm, run_underlying hu, hg, hckr, hr', hso]
      rw [hrun]
      have her : (es.eraseIdxIfInBounds pi).toList = es.toList.eraseIdx pi := by
        simp [Array.eraseIdxIfInBounds, hlt']
      have hn' := Sim.writeMap hS (kvs' := kvs.eraseIdx pi) (es' := es.eraseIdxIfInBounds pi) (clock' := clock) hb hh (by rw [← Array.length_toList, her]; simp [List.length_eraseIdx, hlen]) (fun j e kv' he hk => by
          rw [← Array.getElem?_toList, her, List.getElem?_eraseIdx] at he
          rw [List.getElem?_eraseIdx] at hk
          split at he
          · rename_i h; rw [if_pos h] at hk; exact hE.2 j e kv' he hk
          · rename_i h; rw [if_neg h] at hk; exact hE.2 _ e kv' he hk) (fun e he => hc e (by
          rw [← Array.mem_toList_iff, her] at he
          exact Array.mem_toList_iff.1 (List.mem_of_mem_eraseIdx he))) (by
          rw [her]
          exact hn.sublist ((List.eraseIdx_sublist _ _).map _))
      exact ⟨_, _, .tup _ _ rfl (fun j v d h => by simp at h), hn'.1, hn'.2, hq⟩
  · rename_i hq'
    simp at hs; subst hs
    obtain ⟨r, hr', hFR⟩ := findKey_sound (ckT_underlying hck) hk1 hE hq'
    cases r with
    | some p => simp [FR] at hFR
    | none =>
      have hrun : (execOp φ o).run C.P w = .ok (.value (.tuple #[])) { w with heap := w.heap.setIfInBounds b (.map es clock) } := by
        simp [execOp, ho, resolve, invoke, builtin, Builtin.delete_, hvm, run_underlying hu, hg, hckr, hr', hso]
      rw [hrun]
      have hn' := Sim.writeMap hS (kvs' := kvs) (es' := es) (clock' := clock) hb hh hlen (fun j e kv' he hk => hE.2 j e kv' (by simpa using he) hk) hc hn
      exact ⟨_, _, .tup _ _ rfl (fun j v d h => by simp at h), hn'.1, hn'.2, hq⟩
  · simp at hs

/-- 'clear' of a map. -/
theorem AOp_clearMap {t : TypeId} {m : Operand} {b : Nat} {kt et : TypeId} {kvs : List (DV × DV)} (ho : o.op = .call ⟨.builtin .clear, #[m], #[t]⟩) (ht : mlk C.P t = some (kt, et)) (hm : ε m = .mp b) (hb : σ b = some (.map kvs)) (hq : Q (.tup []) (sset σ b (.map []))) : AOp C o ε σ Q := by
  intro F w φ hr hS
  have hm1 := hr m (by simp [ho, Op.operands, Call.operands])
  have hu := mlk_spec ht
  rw [hm] at hm1
  generalize hvm : φ m = vm at hm1
  cases hm1
  obtain ⟨es, clock, hh, hE, hc, hn⟩ := ERel.ofOb hS hb
  have hg : (getObj b).run C.P w = .ok (.map es clock) w := by simp [getObj, Sem.run, hh]
  have hso : ∀ o', (setObj b o').run C.P w = .ok () { w with heap := w.heap.setIfInBounds b o' } := fun o' => MapKept.run_setObj_map o' hh
  have hrun : (execOp φ o).run C.P w = .ok (.value (.tuple #[])) { w with heap := w.heap.setIfInBounds b (.map #[] clock) } := by
    simp [execOp, ho, resolve, invoke, builtin, Builtin.clear_, hvm, run_underlying hu, hg, hso]
  rw [hrun]
  have hn' := Sim.writeMap hS (kvs' := []) (es' := #[]) (clock' := clock) hb hh rfl (fun j e kv' he hk => by simp at he) (fun e he => by simp at he) (by simp)
  exact ⟨_, _, .tup _ _ rfl (fun j v d h => by simp at h), hn'.1, hn'.2, hq⟩

theorem y_lenMap {t : TypeId} {m : Operand} {kt et : TypeId} {kvs : List (DV × DV)} (ho : o.op = .call ⟨.builtin .len, #[m], #[t]⟩) (ht : mlk C.P t = some (kt, et)) (hm : mapD σ (ε m) = some kvs) (hd : .i .i64 kvs.length = d) : Yields C o ε σ d := .of_run fun F w φ hr hS => by
  have hm1 := hr m (by simp [ho, Op.operands, Call.operands])
  have hu := mlk_spec ht
  subst hd
  rcases map_run hS hm hm1 with ⟨hv, rfl⟩ | ⟨b, es, clock, hv, _, _, hh, hE, _, _⟩
  · exact ⟨_, by simp [execOp, ho, resolve, invoke, builtin, Builtin.len_, hv, run_underlying hu]; rfl, .i _ _⟩
  · have hg : (getObj b).run C.P w = .ok (.map es clock) w := by simp [getObj, Sem.run, hh]
    have hlen := hE.1
    simp at hlen
    exact ⟨_, by simp [execOp, ho, resolve, invoke, builtin, Builtin.len_, hv, run_underlying hu, hg]; rfl, by rw [← hlen]; exact .i _ _⟩
end
end Go.Arb
end

section
namespace Go.Arb
set_option linter.unusedVariables false
set_option linter.unusedSimpArgs false
open Go

section
variable {C : Cx} {o : Oper} {ε : Operand → DV} {σ : Store} {Q : DV → Store → Prop} {d : DV}

/-- 'make' of a slice: an owned row of zeros. -/
theorem AOp_makeSlice {t : TypeId} {x y : Operand} {E : TypeId} {sz bytes l c : Nat} {kl kc : IntKind} {zs : List DV} (ho : o.op = .makeSlice t x y) (hk : apk C.P t = some (E, sz, bytes)) (hz : zeroC C.P E = some zs) (hx : ε x = .i kl l) (hy : ε y = .i kc c)
    (hlc : l ≤ c) (hb : bytes * c ≤ 281474976710656) (hc : c ≤ 4611686018427387904) (hq : ∀ b, σ b = none → Q (.vw b 0 l c) (sset σ b (.arr E sz (List.replicate l zs) c))) : AOp C o ε σ Q := by
  intro F w φ hr hS
  have hx1 := hr x (by simp [ho, Op.operands])
  have hy1 := hr y (by simp [ho, Op.operands])
  rw [hx] at hx1
  rw [hy] at hy1
  obtain ⟨i, z, hu, hi, hz0, hzs, hsz, hpos, hby⟩ := apk_spec hk
  have hzz : zs = z.cells.toList.map ofV := by
    simp only [zeroC, hi, hz0, Option.bind_some, Option.map_some] at hz
    exact (Option.some.inj hz).symm
  generalize hvx : φ x = vx at hx1
  generalize hvy : φ y = vy at hy1
  cases hx1; cases hy1
  have hb' : (i.bytes : Int) * (c : Int) ≤ 281474976710656 := by
    have h : ((i.bytes * c : Nat) : Int) ≤ 281474976710656 := by rw [hby]; omega
    rwa [Int.natCast_mul] at h
  have hrun' := run_make (P := C.P) w t E i z hu hi hz0 kl kc (l : Int) (c : Int) (by omega) (by omega) hb' (by omega)
  simp only [Int.toNat_natCast] at hrun'
  have hrun : (execOp φ o).run C.P w = .ok (.value (.slice (some ⟨w.heap.size, 0, none⟩) l c)) (w.alloc (.cells (madeCells z.cells (c * i.size)) E)) := by
    simp [execOp, ho, hvx, hvy, hrun']
  rw [hrun]
  have hn := Sim.new hS (.cells (madeCells z.cells (c * i.size)) E) (.arr E sz (List.replicate l zs) c) (fun hown => by
    refine ⟨_, heap_push_new w _, by rw [size_madeCells, hsz], by simpa using hlc, by unfold maxLen; omega, fun es hes => ?_, fun i' j es d hi' hj => ?_⟩
    · rw [List.eq_of_mem_replicate hes, hzz]; simp [hzs]
    · have hi2 := lt_of_get hi'
      simp at hi2
      rw [List.getElem?_replicate, if_pos hi2] at hi'
      simp at hi'
      subst hi'
      have hj2 := lt_of_get hj
      rw [hzz] at hj hj2
      simp [hzs] at hj2
      have h1 : (i' + 1) * sz ≤ c * sz := Nat.mul_le_mul_right _ (by omega)
      rw [Nat.succ_mul] at h1
      have hlt : i' * sz + j < c * i.size := by rw [hsz]; omega
      have hjz : j < z.cells.size := by omega
      refine ⟨z.cells[j], ?_, ?_⟩
      · simp only [madeCells, Array.getElem?_map, Array.getElem?_range, hlt, if_true, Option.map_some]
        congr 1
        have : (i' * sz + j) % z.cells.size = j := by rw [hzs, Nat.mul_comm, Nat.mul_add_mod]; exact Nat.mod_eq_of_lt (by omega)
        rw [this]
        simp [hjz]
      · simp [hjz] at hj
        rw [← hj]
        exact R_ofV _ _ _)
  exact ⟨_, _, .vw _ _ _ _, hn.1, hn.2, hq _ (hS.none_of_ge (Nat.le_refl _))⟩

/-- A slice literal of one's own. -/
theorem AOp_buildSlice {t : TypeId} {n : Nat} {parts : Array (Nat × Operand)} {s bytes : Nat} {E : TypeId} {elems : List (List DV)} (ho : o.op = .buildSlice t n parts) (hk : apk C.P t = some (E, s, bytes))
    (hidx : parts.toList.map (·.1) = List.range' 0 n) (hel : (parts.toList.map fun p => (p.1, ε p.2)).mapM (fun p => dcells p.2) = some elems) (hz : ∀ es ∈ elems, es.length = s) (hbd : n * s ≤ 2 ^ 24)
    (hq : ∀ b, σ b = none → Q (.vw b 0 n n) (sset σ b (.arr E s elems n))) : AOp C o ε σ Q := by
  intro F w φ hr hS
  obtain ⟨i, zv, hu, hi, hzv, hzs, hts, hpos, hby⟩ := apk_spec hk
  have hlen : elems.length = n := by
    have h1 := congrArg List.length hidx
    simp at h1
    have h3 := mapM_length hel
    simp at h3
    omega
  have hseq := fillSeq (s := s) (parts.toList.map fun p => (p.1, ε p.2)) elems [] 0 n (by simpa [Function.comp_def] using hidx) hel hz (by simp)
  simp only [List.nil_append] at hseq
  let zero : Array Value := if n * s = 0 then #[] else zv.cells
  let init : Array Value := (Array.range (n * s)).map (zero[· % zero.size]!)
  obtain ⟨vs', h1, h2, h3⟩ := fill_sound (I := own F σ) (w := w) (pc := fun i => some (i * s, s)) (parts.toList.map fun p => (p.1, φ p.2)) _ init _ _ (by simp) (by
      intro j p q hp hq
      simp at hp hq
      obtain ⟨a, b, hab, rfl⟩ := hp
      obtain ⟨a', b', hab', rfl⟩ := hq
      rw [hab] at hab'
      simp at hab'
      obtain ⟨rfl, rfl⟩ := hab'
      refine ⟨rfl, hr b ?_⟩
      simp [ho, Op.operands]
      exact ⟨a, Array.mem_of_getElem? hab⟩) (by simp [init]) (by
      intro j v d hv hd
      have : d = .any := by
        have := List.mem_of_getElem? hd
        simp at this; exact this.2
      subst this; exact .any _) hseq
  have hfill : Instr.fill (fun i => some (i * s, s)) init (parts.map fun p => (p.1, φ p.2)).toList = some vs' := by
    rw [← h1]; simp
  have hrun : (execOp φ o).run C.P w = .ok (.value (.slice (some ⟨w.heap.size, 0, none⟩) n n)) (w.alloc (.cells vs' E)) := by
    have hfl : ∀ zz : Array Value, zz = zero → Instr.fill (fun i => some (i * s, s)) (Array.map (fun x => zz[x % zz.size]!) (Array.range (n * s))) (parts.map fun p => (p.1, φ p.2)).toList = some vs' := by
      rintro _ rfl; exact hfill
    simp only [execOp, ho, Instr.buildSlice, Sem.run_bind, run_underlying hu, Result.andThen_ok, run_sizeOf' hi, hts]
    rw [if_neg (by omega)]
    by_cases h0 : n * s = 0
    · have hzz : (#[] : Array Value) = zero := by simp [zero, h0]
      have := hfl #[] hzz
      simp only [h0, if_true] at this ⊢
      simp only [Sem.run_bind, Sem.run_pure, Result.andThen_ok, this]
      rfl
    · have hzz : zv.cells = zero := by simp [zero, h0]
      have := hfl zv.cells hzz
      simp only [h0, if_false]
      simp only [Sem.run_bind, Sem.run_pure, Result.andThen_ok, zeroValue, typeInfo, run_program, hi, hzv, this]
      rfl
  rw [hrun]
  have hn := Sim.new hS (.cells vs' E) (.arr E s elems n) (fun hown => by
    refine ORel_grown (heap_push_new w _) (by rw [h2, flatten_len hz, hlen]) (by omega) (by
      have : n ≤ n * s := Nat.le_mul_of_pos_right n hpos
      unfold maxLen; omega) hz (fun j v d hv hd => (h3 j v d hv hd).mono fun y hy hlt => ⟨heap_push_lt hlt, fun h => hy (hown y h (by omega))⟩))
  exact ⟨_, _, .vw _ _ _ _, hn.1, hn.2, hq _ (hS.none_of_ge (Nat.le_refl _))⟩

theorem flat3 {sz n : Nat} {elems es : List (List DV)} (hz : ∀ e ∈ elems, e.length = sz) (hz' : ∀ e ∈ es, e.length = sz) (hn : n + es.length ≤ elems.length) (j : Nat) :
    (elems.take n ++ es ++ elems.drop (n + es.length)).flatten[j]? = if n * sz ≤ j ∧ j < n * sz + es.length * sz then es.flatten[j - n * sz]? else elems.flatten[j]? := by
  have ht : ∀ e ∈ elems.take n, e.length = sz := fun e he => hz e (List.mem_of_mem_take he)
  have hd : ∀ e ∈ elems.drop (n + es.length), e.length = sz := fun e he => hz e (List.mem_of_mem_drop he)
  have hlt : (elems.take n).flatten.length = n * sz := by rw [flatten_len ht, List.length_take, Nat.min_eq_left (by omega)]
  have hsplit : elems.flatten = (elems.take n).flatten ++ ((elems.drop n).take es.length).flatten ++ (elems.drop (n + es.length)).flatten := by
    conv => lhs; rw [← List.take_append_drop n elems, ← List.take_append_drop es.length (elems.drop n)]
    simp [List.flatten_append, List.drop_drop]
  have hm : ∀ e ∈ (elems.drop n).take es.length, e.length = sz := fun e he => hz e (List.mem_of_mem_drop (List.mem_of_mem_take he))
  have hlm : ((elems.drop n).take es.length).flatten.length = es.length * sz := by
    rw [flatten_len hm]; congr 1; simp; omega
  have hle := flatten_len hz'
  rw [hsplit]
  simp only [List.flatten_append]
  by_cases h1 : j < n * sz
  · rw [if_neg (by omega), List.append_assoc, List.append_assoc, List.getElem?_append_left (by omega), List.getElem?_append_left (by omega)]
  · by_cases h2 : j < n * sz + es.length * sz
    · rw [if_pos ⟨by omega, h2⟩, List.append_assoc, List.getElem?_append_right (by omega), List.getElem?_append_left (by omega), hlt]
    · rw [if_neg (by omega), List.getElem?_append_right (by rw [List.length_append, hlt, hle]; omega), List.getElem?_append_right (by rw [List.length_append, hlt, hlm]; omega)]
      rw [List.length_append, List.length_append, hlt, hlm, hle]

/-- 'append' within what the row has already. -/
theorem AOp_append_in {t : TypeId} {s x : Operand} {b c n : Nat} {E : TypeId} {sz bytes : Nat} {elems es : List (List DV)} (ho : o.op = .call ⟨.builtin .append, #[s, x], #[t, t]⟩) (hs : ε s = .vw b 0 n c) (hb : σ b = some (.arr E sz elems c)) (hx : srcD σ (ε x) = some es) (hk : apk C.P t = some (E, sz, bytes))
    (hz : ∀ e ∈ es, e.length = sz) (h1 : ∀ e ∈ es, e.all one = true) (hne : es ≠ []) (hn : n + es.length ≤ elems.length)
    (hq : Q (.vw b 0 (n + es.length) c) (sset σ b (.arr E sz (elems.take n ++ es ++ elems.drop (n + es.length)) c))) : AOp C o ε σ Q := by
  intro F w φ hr hS
  have hs1 := hr s (by simp [ho, Op.operands, Call.operands])
  have hx1 := hr x (by simp [ho, Op.operands, Call.operands])
  rw [hs] at hs1
  obtain ⟨i, z, hu, hi, hz0, hzs, hsz, hpos, hby⟩ := apk_spec hk
  obtain ⟨a, cx, hv, hsrc⟩ := src_run hS hx1 hx hz
  obtain ⟨xb, xo, rfl, news, hnl, hnews, hnR⟩ := hsrc hne
  generalize hvs : φ s = vs at hs1
  cases hs1
  have hnews' : ∀ (j : Nat) u, news[j]? = some u → w.cell? ((⟨xb, xo, none⟩ : Addr).add j) = some u := fun j u h => by rw [add_mk]; exact hnews j u h
  obtain ⟨cs, hh, hcs, hlc, hcm, hzb, hbR⟩ := hS.ob b _ hb
  have hbn : σ b ≠ none := by simp [hb]
  have hone := all_one hnl hz hnR h1
  have hle : (n + es.length) * sz ≤ c * sz := Nat.mul_le_mul_right _ (by omega)
  rw [Nat.add_mul] at hle
  have holdR : ∀ (j : Nat) v d, cs[j]? = some v → elems.flatten[j]? = some d → R (own F σ) w v d := by
    intro j v d hv hd
    obtain ⟨h0, h1, h2, h3⟩ := flatten_at hzb hd
    have hi : elems[j / sz]? = some (elems.getD (j / sz) []) := by simp [h1]
    obtain ⟨v', hv', hR⟩ := hbR _ _ _ d hi h3
    rw [Nat.div_add_mod'] at hv'
    rw [hv] at hv'
    simp at hv'
    exact hv' ▸ hR
  have hfit : n * i.size + news.length ≤ cs.size := by rw [hsz, hnl, hcs]; omega
  have hap := run_append_room (P := C.P) w t o.type E i hu hi b n c cs hh ⟨xb, xo, none⟩ es.length cx news (by rw [hsz]; exact hnl) hnews' hone (by omega) hfit
  have hrun : (execOp φ o).run C.P w = .ok (.value (.slice (some ⟨b, 0, none⟩) (n + es.length) c)) (w.setRow b (cs.toList.take (n * i.size) ++ news ++ cs.toList.drop (n * i.size + news.length)).toArray) := by
    simp [execOp, ho, resolve, invoke, builtin, hvs, hv, hap]
  rw [hrun]
  have hsize : (cs.toList.take (n * i.size) ++ news ++ cs.toList.drop (n * i.size + news.length)).toArray.size = c * sz := by simp; omega
  have hn' := Sim.write hS (b := b) (w' := w.setRow b (cs.toList.take (n * i.size) ++ news ++ cs.toList.drop (n * i.size + news.length)).toArray) hbn (.arr E sz (elems.take n ++ es ++ elems.drop (n + es.length)) c) rfl rfl rfl (by simp)
    (fun y hy => setRow_other w b y _ hy) (by
      refine ORel_grown (setRow_heap w b cs _ E _ hh) hsize (by simp; omega) hcm (fun e he => by
        rcases List.mem_append.1 he with h | h
        · rcases List.mem_append.1 h with h | h
          · exact hzb e (List.mem_of_mem_take h)
          · exact hz e h
        · exact hzb e (List.mem_of_mem_drop h)) (fun j v d hv hd => ?_)
      have hmono : ∀ v d, R (own F σ) w v d → R (own F σ) (w.setRow b (cs.toList.take (n * i.size) ++ news ++ cs.toList.drop (n * i.size + news.length)).toArray) v d :=
        fun v d h => h.mono fun y hy hlt => ⟨setRow_other w b y _ (fun e => hy (.inr (e ▸ hbn))), hy⟩
      have hv' : (cs.toList.take (n * i.size) ++ news ++ cs.toList.drop (n * i.size + news.length))[j]? = some v := by simpa using hv
      rw [set_get (by simpa using hfit)] at hv'
      rw [flat3 hzb hz hn] at hd
      rw [hsz, hnl] at hv'
      by_cases hj : n * sz ≤ j ∧ j < n * sz + es.length * sz
      · rw [if_pos hj] at hv' hd
        exact hmono _ _ (hnR _ v d hv' hd)
      · rw [if_neg hj] at hv' hd
        exact hmono _ _ (holdR j v d (by simpa using hv') hd))
  exact ⟨_, _, .vw _ _ _ _, hn'.1, hn'.2, hq⟩
end
end Go.Arb
end

section
namespace Go.Arb
set_option linter.unusedVariables false
set_option linter.unusedSimpArgs false
open Go

/-! ### Environments as lists of slots -/
def envL : List (Nat × DV) → Env
  | [] => fun _ => .any
  | p :: l => fun t => if t = p.1 then p.2 else envL l t

def enumL : Nat → List DV → List (Nat × DV)
  | _, [] => []
  | k, d :: l => (k, d) :: enumL (k + 1) l

@[simp] theorem upd_envL {l : List (Nat × DV)} {k : Nat} {d : DV} : upd (envL l) (some k) d = envL ((k, d) :: l) := rfl
@[simp] theorem upd_none {ρ : Env} {d : DV} : upd ρ none d = ρ := rfl
@[simp] theorem envL_cons {k : Nat} {d : DV} {l : List (Nat × DV)} {t : Nat} : envL ((k, d) :: l) t = if t = k then d else envL l t := rfl
@[simp] theorem envL_nil {t : Nat} : envL [] t = .any := rfl

theorem envOf_envL (ds : List DV) : ∀ k t, envL (enumL k ds) (k + t) = ds.getD t .any := by
  induction ds with
  | nil => intro k t; simp [enumL]
  | cons d ds ih =>
    intro k t
    simp only [enumL, envL_cons]
    cases t with
    | zero => simp
    | succ t =>
      rw [if_neg (by omega)]
      have := ih (k + 1) t
      rw [show k + (t + 1) = k + 1 + t by omega, this]
      simp

theorem envOf_eq (ds : List DV) : envOf ds = envL (enumL 0 ds) := by
  funext t
  have := envOf_envL ds 0 t
  rw [Nat.zero_add] at this
  rw [this]; rfl

section
variable {C : Cx} {n : Nat} {Q : Exit → Env → Store → Prop} {ρ : Env} {σ : Store} {c : Code}

theorem awp_env {ρ' : Env} (h : ∀ I w t v, R I w v (ρ t) → R I w v (ρ' t)) (k : awp C n c Q ρ' σ) : awp C n c Q ρ σ :=
  fun F σ0 w0 w a hr hs => k F σ0 w0 w a ⟨hr.size, hr.defers, fun t v ht => h _ _ t v (hr.tmps t v ht), hr.sim⟩ hs

theorem envL_keep {ρ : Env} {I w v} : ∀ (L : List Nat) (t : Nat), R I w v (ρ t) → R I w v (envL (L.map fun t => (t, ρ t)) t)
  | [], t, h => .any _
  | k :: L, t, h => by
    simp only [List.map_cons, envL_cons]
    split
    · rename_i e; subst e; exact h
    · exact envL_keep L t h

/-- Only these slots are looked at from here on. -/
theorem awp_keep (L : List Nat) (k : awp C n c Q (envL (L.map fun t => (t, ρ t))) σ) : awp C n c Q ρ σ :=
  awp_env (fun I w t v h => envL_keep L t h) k

/-- What an environment must read at some slots, for it to do. -/
def Fits (ρ : Env) (l : List (Nat × DV)) : Prop := ∀ p ∈ l, ρ p.1 = p.2 ∨ (ρ p.1 = .nilsl ∧ p.2 = .sl []) ∨ p.2 = .any

theorem Fits.R {ρ : Env} {l : List (Nat × DV)} (h : Fits ρ l) {I w v} (t : Nat) (hv : R I w v (ρ t)) : R I w v (envL l t) := by
  induction l with
  | nil => exact .any _
  | cons p l ih =>
    simp only [envL]
    split
    · rename_i e
      subst e
      rcases h p (by simp) with h1 | ⟨h1, h2⟩ | h1
      · rw [← h1]; exact hv
      · rw [h2]; rw [h1] at hv; exact R_nilsl_sl hv
      · rw [h1]; exact .any _
    · exact ih fun q hq => h q (by simp [hq])

theorem awp_fits {l : List (Nat × DV)} (h : Fits ρ l) (k : awp C n c Q (envL l) σ) : awp C n c Q ρ σ := awp_env (fun I w t v hv => h.R t hv) k

@[simp] theorem Fits_nil : Fits ρ [] := fun p h => by simp at h
theorem Fits_cons {p : Nat × DV} {l : List (Nat × DV)} (h : ρ p.1 = p.2 ∨ (ρ p.1 = .nilsl ∧ p.2 = .sl []) ∨ p.2 = .any) (k : Fits ρ l) : Fits ρ (p :: l) := fun q hq => by
  rcases List.mem_cons.1 hq with rfl | hq
  · exact h
  · exact k q hq

/-- No slice is longer than any memory. -/
theorem R_sl_len {I w v es} (h : R I w v (.sl es)) : es.length ≤ maxLen := by
  cases h with
  | sl0 => simp
  | sl x off n c sz elems cs E fz vals hI hb hn hcap hz hc hr hmx => omega

theorem Rel.tmp_lt {C n F σ w a ρ} (h : Rel C n F σ w a ρ) {t : Nat} (ht : t < n) : ∃ v, a.tmps[t]? = some v := by
  have : t < a.tmps.size := by rw [h.size]; exact ht
  exact ⟨a.tmps[t], by simp [this]⟩

theorem awp_len {t : Nat} {es : List (List DV)} (ht : t < n) (hs : ρ t = .sl es) (k : es.length ≤ maxLen → awp C n c Q ρ σ) : awp C n c Q ρ σ :=
  fun F σ0 w0 w a hr hst => by
    obtain ⟨v, hv⟩ := hr.tmp_lt ht
    exact k (R_sl_len (hs ▸ hr.tmps t v hv)) F σ0 w0 w a hr hst

/-- A loop whose state hangs on a number that grows to N. -/
theorem awp_for (N : Nat) (J : Nat → Prop) (E : Nat → List (Nat × DV)) (S : Nat → Store) (i0 : Nat) (hi : i0 ≤ N) (hJ : J i0) (h0 : Fits ρ (E i0)) (hs : σ = S i0)
    (step : ∀ i, i0 ≤ i → i ≤ N → J i → awp C n c (Then (fun ρ' σ' => ∃ i', i < i' ∧ i' ≤ N ∧ J i' ∧ Fits ρ' (E i') ∧ σ' = S i') Q) (envL (E i)) (S i)) : awp C n (.loop c) Q ρ σ := by
  refine awp_loop (fun m ρ σ => ∃ i, m = N - i ∧ i0 ≤ i ∧ i ≤ N ∧ J i ∧ Fits ρ (E i) ∧ σ = S i) (N - i0) ⟨i0, rfl, Nat.le_refl _, hi, hJ, h0, hs⟩ ?_
  rintro m ρ σ ⟨i, rfl, hi0, hiN, hj, hf, rfl⟩
  refine awp_fits hf ((step i hi0 hiN hj).mono fun e ρ' σ' h => ?_)
  cases e with
  | normal =>
    obtain ⟨i', h1, h2, h3, h4, h5⟩ := h
    exact ⟨N - i', by omega, i', rfl, by omega, h2, h3, h4, h5⟩
  | _ => exact h
/-- The same, with a state beside the number. -/
theorem awp_forS {α : Type} (N : Nat) (J : Nat → α → Prop) (E : Nat → α → List (Nat × DV)) (S : Nat → α → Store) (i0 : Nat) (x0 : α) (hi : i0 ≤ N) (hJ : J i0 x0) (h0 : Fits ρ (E i0 x0)) (hs : σ = S i0 x0)
    (step : ∀ i x, i0 ≤ i → i ≤ N → J i x → awp C n c (Then (fun ρ' σ' => ∃ i' x', i < i' ∧ i' ≤ N ∧ J i' x' ∧ Fits ρ' (E i' x') ∧ σ' = S i' x') Q) (envL (E i x)) (S i x)) : awp C n (.loop c) Q ρ σ := by
  refine awp_loop (fun m ρ σ => ∃ i x, m = N - i ∧ i0 ≤ i ∧ i ≤ N ∧ J i x ∧ Fits ρ (E i x) ∧ σ = S i x) (N - i0) ⟨i0, x0, rfl, Nat.le_refl _, hi, hJ, h0, hs⟩ ?_
  rintro m ρ σ ⟨i, x, rfl, hi0, hiN, hj, hf, rfl⟩
  refine awp_fits hf ((step i x hi0 hiN hj).mono fun e ρ' σ' h => ?_)
  cases e with
  | normal =>
    obtain ⟨i', x', h1, h2, h3, h4, h5⟩ := h
    exact ⟨N - i', by omega, i', x', rfl, by omega, h2, h3, h4, h5⟩
  | _ => exact h
end

theorem acalls_enterL {C : Cx} {f : FuncId} {fn : Func} {c : Code} {n : Nat} {ds : List DV} {σ : Store} {Q : DV → Store → Prop}
    (hf : C.P.funcs[f]? = some fn) (hb : fn.body = some c) (hn : fn.ntmps = n) (hnm : (fn.name == "runtime.NumGoroutine") = false) (hds : ds.length ≤ n)
    (h : awp C n c (Body C n fn.results.toList Q) (envL (enumL 0 ds)) σ) : acalls C f ds σ Q := acalls_enter hf hb hn hnm hds (by rw [envOf_eq]; exact h)

/-- Arguments may be read otherwise. -/
theorem acalls.args {C : Cx} {f : FuncId} {ds ds' : List DV} {σ : Store} {Q : DV → Store → Prop} (hl : ds'.length = ds.length) (h : ∀ I w (i : Nat) v d d', ds[i]? = some d → ds'[i]? = some d' → R I w v d → R I w v d') (k : acalls C f ds' σ Q) : acalls C f ds σ Q :=
  ⟨k.1, fun F w vs hs hr hS => k.2 F w vs (by omega) (fun i v d' hv hd' => by
    have hlt := lt_of_get hd'
    have hd : ds[i]? = some ds[i] := by simp
    exact h _ _ i v _ d' hd hd' (hr i v _ hv hd)) hS⟩

/-- A call, by its contract. -/
theorem awpL_callS {C : Cx} {n : Nat} {ops : Array Oper} {Q : Exit → Env → Store → Prop} {ρ : Env} {σ : Store} {o : Oper} {rest : List Oper} {x : Operand} {args : Array Operand} {tys : Array TypeId} {f : FuncId} {first captured ds : List DV} {Q0 : DV → Store → Prop} (hw : awanted n ops ρ o = some true) (ho : o.op = .call ⟨.value x, args, tys⟩) (hx : evs n ρ x = .fn (.func f) first captured)
    (hs : allC n ρ (x :: args.toList) = true) (hds : first ++ args.toList.map (evs n ρ) ++ captured = ds) (h : acalls C f ds σ Q0) (k : ∀ d σ', Q0 d σ' → awpL C n ops rest Q (upd ρ o.dst d) σ') : awpL C n ops (o :: rest) Q ρ σ :=
  awpL_call hw ho hx hs (hds ▸ h.mono k)

theorem Then_exit {id : Nat} {K : Env → Store → Prop} {Q : Exit → Env → Store → Prop} {ρ : Env} {σ : Store} (h : Q (.exit id) ρ σ) : Then K Q (.exit id) ρ σ := h
theorem InBlock_here {id : Nat} {Q : Exit → Env → Store → Prop} {ρ : Env} {σ : Store} (h : Q .normal ρ σ) : InBlock id Q (.exit id) ρ σ := by simpa [InBlock] using h
theorem InBlock_other {id id' : Nat} {Q : Exit → Env → Store → Prop} {ρ : Env} {σ : Store} (hne : id' ≠ id) (h : Q (.exit id') ρ σ) : InBlock id Q (.exit id') ρ σ := by simpa [InBlock, hne] using h

/-- A guarded call that hangs on its arguments alone, by its contract. -/
theorem awpL_callG {C : Cx} {n : Nat} {ops : Array Oper} {Q : Exit → Env → Store → Prop} {ρ : Env} {σ : Store} {o : Oper} {rest : List Oper} {x : Operand} {args : Array Operand} {tys : Array TypeId} {f : FuncId} {first captured ds : List DV} {W : Bool} {v : DV} {g : Nat × Bool} (hw : awanted n ops ρ o = some W) (hg : o.guard = some g) (ho : o.op = .call ⟨.value x, args, tys⟩) (hx : evs n ρ x = .fn (.func f) first captured)
    (hs : W = true → allC n ρ (x :: args.toList) = true) (hds : first ++ args.toList.map (evs n ρ) ++ captured = ds) (h : W = true → acalls C f ds σ (fun d σ' => d = v ∧ σ' = σ)) (k : awpL C n ops rest Q (upd ρ o.dst (.opt W v)) σ) : awpL C n ops (o :: rest) Q ρ σ := by
  cases W with
  | true =>
    refine awpL_callS hw ho hx (hs rfl) hds (h rfl) ?_
    rintro d σ' ⟨rfl, hst⟩
    rw [hst]
    exact awpL_env (fun I w t u hu => upd_imp (fun u hu => .optT _ _ hu) hu) k
  | false =>
    refine awpL_skip hw (awpL_env (fun I w t u hu => upd_imp (fun u hu => ?_) hu) k)
    cases hu with
    | tup vs ds hl hr =>
    have : vs = #[] := by apply Array.eq_empty_of_size_eq_zero; simpa using hl
    subst this
    exact .optF _

theorem ow_callPS {C : Cx} {n : Nat} {ops : Array Oper} {cls : Nat → Cls} {Q : Env → Store → Prop} {σ : Store} {ρ : Env} {k : Nat} {rest : List Nat} {o : Oper} {x : Operand} {args : Array Operand} {tys : Array TypeId} {f : FuncId} {first captured ds : List DV} {W : Bool} (v : DV) (ho : ops[k]? = some o) (hc : cls k = .pure) (hw : awanted n ops ρ o = some W)
    (hop : o.op = .call ⟨.value x, args, tys⟩) (hx : evs n ρ x = .fn (.func f) first captured) (hs : W = true → allC n ρ (x :: args.toList) = true) (hds : first ++ args.toList.map (evs n ρ) ++ captured = ds)
    (h : W = true → ∀ σ, acalls C f ds σ (fun d σ' => d = v ∧ σ' = σ)) (hk : ow C n ops cls Q rest (upd ρ o.dst (wrapW o.guard W v)) σ) : ow C n ops cls Q (k :: rest) ρ σ :=
  ow_callP v ho hc hw hop hx hs (fun hW σ => hds ▸ h hW σ) hk

theorem wrap_id {x : Int} (h : -9223372036854775808 ≤ x ∧ x < 9223372036854775808) : IntKind.i64.wrap x = x := by
  rw [IntKind.wrap_i64]; omega

theorem wrap_succ {i m : Nat} (h : i < m) (hm : m ≤ maxLen) : IntKind.i64.wrap ((i : Int) + 1) = ((i + 1 : Nat) : Int) := by
  unfold maxLen at hm
  rw [IntKind.wrap_i64]; omega
end Go.Arb
end

section
namespace Go.Arb
open Go
attribute [simp] arun orun aev aevS allC opl evs sd cnd awanted stops ev boxD dcells ofVs ofV wrapW fldA fldV loadV loadD lenD binD intBin strBin nilBin unD idxA idxV nckD cnvD extD pickS pickV guardW max2D min2D bldD slD bndD partD InBlock Then resD tupD enumL
end Go.Arb
end
