/- The logic of calls over abstract data, first part. -/
import Derived.Still
import Derived.Below
import Derived.Laws.Rows
import Derived.WalkKit
import Derived.WalkLawsBesides
import Derived.WalkSpells
import Derived.Lib.Strings
section
namespace Go.Arb
set_option linter.unusedVariables false
open Go

/-- Deep values: what a Go value comes to, memory that nobody writes any more taken in. -/
inductive DV where
  | any
  | b (x : Bool)
  | i (k : IntKind) (n : Int)
  | s (x : List UInt8)
  | nilp
  | ptr (x off : Nat)
  | dp (cells : List DV) (off : Nat)
  | nilsl
  | sl (elems : List (List DV))
  | vw (x off n c : Nat)
  | nilmap
  | mp (x : Nat)
  | agg (cells : List DV)
  | tup (vs : List DV)
  | fn (f : Fn) (first captured : List DV)
  | nilfn
  | ifc (t : TypeId) (v : DV)
  | nilif
  | opt (x : Bool) (d : DV)
  deriving Inhabited

/-- Abstract contents of an owned block. -/
inductive AObj where
  | cells (ds : List DV)
  | arr (E : TypeId) (sz : Nat) (elems : List (List DV)) (c : Nat)
  | map (kvs : List (DV × DV))
  | raw (o : Obj)

abbrev Store := Nat → Option AObj
abbrev Env := Nat → DV

/-- Value v reads as d in world w; the blocks that are gone through are not in I. -/
inductive R (I : Nat → Prop) (w : World) : Value → DV → Prop where
  | any (v) : R I w v .any
  | b (x) : R I w (.bool x) (.b x)
  | i (k n) : R I w (.int k n) (.i k n)
  | s (x : ByteArray) (l) (h : x.data.toList = l) : R I w (.string x) (.s l)
  | nilp : R I w (.pointer none) .nilp
  | ptr (x off) : R I w (.pointer (some ⟨x, off, none⟩)) (.ptr x off)
  | dp (x o0 off : Nat) (cells : List DV) (cs : Array Value) (E) (fz) (vals : Nat → Value) (hI : ¬ I x)
      (hb : w.heap[x]? = some (.cells cs E fz)) (hc : ∀ j, j < cells.length → cs[o0 + j]? = some (vals j))
      (hr : ∀ (j : Nat) d, cells[j]? = some d → R I w (vals j) d) : R I w (.pointer (some ⟨x, o0 + off, none⟩)) (.dp cells off)
  | nilsl : R I w (.slice none 0 0) .nilsl
  | sl0 (a c) : R I w (.slice a 0 c) (.sl [])
  | sl (x off n c sz : Nat) (elems : List (List DV)) (cs : Array Value) (E) (fz) (vals : Nat → Nat → Value) (hI : ¬ I x)
      (hb : w.heap[x]? = some (.cells cs E fz)) (hn : n = elems.length) (hcap : n ≤ c) (hz : ∀ es ∈ elems, es.length = sz)
      (hc : ∀ i j, i < elems.length → j < sz → cs[off + (i * sz + j)]? = some (vals i j))
      (hr : ∀ (i j : Nat) es d, elems[i]? = some es → es[j]? = some d → R I w (vals i j) d) (hm : c ≤ maxLen) : R I w (.slice (some ⟨x, off, none⟩) n c) (.sl elems)
  | vw (x off n c) : R I w (.slice (some ⟨x, off, none⟩) n c) (.vw x off n c)
  | nilmap : R I w (.map none) .nilmap
  | mp (x) : R I w (.map (some x)) (.mp x)
  | agg (vs : Array Value) (ds : List DV) (hl : vs.size = ds.length) (hr : ∀ (j : Nat) v d, vs[j]? = some v → ds[j]? = some d → R I w v d) : R I w (.agg vs) (.agg ds)
  | tup (vs : Array Value) (ds : List DV) (hl : vs.size = ds.length) (hr : ∀ (j : Nat) v d, vs[j]? = some v → ds[j]? = some d → R I w v d) : R I w (.tuple vs) (.tup ds)
  | fn (f) (a c : Array Value) (da dc : List DV) (ha : a.size = da.length) (hc : c.size = dc.length)
      (hra : ∀ (j : Nat) v d, a[j]? = some v → da[j]? = some d → R I w v d) (hrc : ∀ (j : Nat) v d, c[j]? = some v → dc[j]? = some d → R I w v d) : R I w (.func f a c) (.fn f da dc)
  | nilfn : R I w .nilFunc .nilfn
  | ifc (t v d) (h : R I w v d) : R I w (.iface t v) (.ifc t d)
  | nilif : R I w .nilIface .nilif
  | optT (v d) (h : R I w v d) : R I w v (.opt true d)
  | optF (d) : R I w undef (.opt false d)

theorem heap_lt {w : World} {x : Nat} {o : Obj} (h : w.heap[x]? = some o) : x < w.heap.size := by
  rcases Nat.lt_or_ge x w.heap.size with h' | h'
  · exact h'
  · simp [Array.getElem?_eq_none h'] at h

theorem R.mono {I I' : Nat → Prop} {w w' : World} (hk : ∀ x, ¬ I x → x < w.heap.size → w'.heap[x]? = w.heap[x]? ∧ ¬ I' x)
    {v : Value} {d : DV} (h : R I w v d) : R I' w' v d := by
  induction h with
  | any v => exact .any v
  | b x => exact .b x
  | i k n => exact .i k n
  | s x l h => exact .s x l h
  | nilp => exact .nilp
  | ptr x off => exact .ptr x off
  | dp x o0 off cells cs E fz vals hI hb hc hr ih =>
    have hx := hk x hI (heap_lt hb)
    exact .dp x o0 off cells cs E fz vals hx.2 (hx.1.trans hb) hc ih
  | nilsl => exact .nilsl
  | sl0 a c => exact .sl0 a c
  | sl x off n c sz elems cs E fz vals hI hb hn hcap hz hc hr hm ih =>
    have hx := hk x hI (heap_lt hb)
    exact .sl x off n c sz elems cs E fz vals hx.2 (hx.1.trans hb) hn hcap hz hc ih hm
  | vw x off n c => exact .vw x off n c
  | nilmap => exact .nilmap
  | mp x => exact .mp x
  | agg vs ds hl hr ih => exact .agg vs ds hl ih
  | tup vs ds hl hr ih => exact .tup vs ds hl ih
  | fn f a c da dc ha hc hra hrc iha ihc => exact .fn f a c da dc ha hc iha ihc
  | nilfn => exact .nilfn
  | ifc t v d h ih => exact .ifc t v d ih
  | nilif => exact .nilif
  | optT v d h ih => exact .optT v d ih
  | optF d => exact .optF d

/-- The blocks that may be written: the frame's and the store's. -/
def own (F : Nat → Prop) (σ : Store) (x : Nat) : Prop := F x ∨ σ x ≠ none

def ORel (I : Nat → Prop) (w : World) (x : Nat) : AObj → Prop
  | .cells ds => ∃ cs E, w.heap[x]? = some (.cells cs E (0, 0)) ∧ cs.size = ds.length ∧ ∀ (j : Nat) v d, cs[j]? = some v → ds[j]? = some d → R I w v d
  | .arr E sz elems c => ∃ cs, w.heap[x]? = some (.cells cs E (0, 0)) ∧ cs.size = c * sz ∧ elems.length ≤ c ∧ c ≤ maxLen ∧ (∀ es ∈ elems, es.length = sz) ∧
      ∀ (i j : Nat) es d, elems[i]? = some es → es[j]? = some d → ∃ v, cs[i * sz + j]? = some v ∧ R I w v d
  | .map kvs => ∃ es clock, w.heap[x]? = some (.map es clock) ∧ es.size = kvs.length ∧
      (∀ (j : Nat) e kv, es[j]? = some e → kvs[j]? = some kv → R I w e.key kv.1 ∧ R I w e.val kv.2) ∧ (∀ (e : MapEntry), e ∈ es → e.born < clock) ∧ (es.toList.map (·.born)).Nodup
  | .raw o => w.heap[x]? = some o

theorem ORel.lt {I w x o} (h : ORel I w x o) : x < w.heap.size := by
  cases o with
  | cells ds => obtain ⟨cs, E, hb, _⟩ := h; exact heap_lt hb
  | arr E sz elems c => obtain ⟨cs, hb, _⟩ := h; exact heap_lt hb
  | map kvs => obtain ⟨cs, E, hb, _⟩ := h; exact heap_lt hb
  | raw o => exact heap_lt h

theorem ORel.mono {I I' : Nat → Prop} {w w' : World} (hk : ∀ x, ¬ I x → x < w.heap.size → w'.heap[x]? = w.heap[x]? ∧ ¬ I' x)
    {x : Nat} {o : AObj} (hx : w'.heap[x]? = w.heap[x]?) (h : ORel I w x o) : ORel I' w' x o := by
  cases o with
  | cells ds =>
    obtain ⟨cs, E, hb, hs, hr⟩ := h
    exact ⟨cs, E, hx.trans hb, hs, fun j v d h1 h2 => (hr j v d h1 h2).mono hk⟩
  | arr E sz elems c =>
    obtain ⟨cs, hb, hs, hl, hm, hz, hr⟩ := h
    refine ⟨cs, hx.trans hb, hs, hl, hm, hz, fun i j es d h1 h2 => ?_⟩
    obtain ⟨v, hv, hd⟩ := hr i j es d h1 h2
    exact ⟨v, hv, hd.mono hk⟩
  | map kvs =>
    obtain ⟨es, clock, hb, hs, hr, hc, hn⟩ := h
    exact ⟨es, clock, hx.trans hb, hs, fun j e kv h1 h2 => ⟨((hr j e kv h1 h2).1).mono hk, ((hr j e kv h1 h2).2).mono hk⟩, hc, hn⟩
  | raw o => exact hx.trans h

/-- The program, and what its package-level variables hold. -/
structure Cx where
  P : Program
  N : Nat
  G : Nat → Option Obj

structure Sim (C : Cx) (F : Nat → Prop) (σ : Store) (w : World) : Prop where
  fr : ∀ x, F x → x < w.heap.size ∧ σ x = none
  ob : ∀ x o, σ x = some o → ORel (own F σ) w x o
  gl : ∀ x o, C.G x = some o → w.heap[x]? = some o ∧ ¬ own F σ x

structure Step (σ : Store) (w : World) (σ' : Store) (w' : World) : Prop where
  os : w'.os = w.os
  tape : w'.tape = w.tape
  output : w'.output = w.output
  size : w.heap.size ≤ w'.heap.size
  keep : ∀ x, x < w.heap.size → σ x = none → w'.heap[x]? = w.heap[x]? ∧ σ' x = none

theorem Step.refl (σ w) : Step σ w σ w := ⟨rfl, rfl, rfl, Nat.le_refl _, fun _ _ h => ⟨rfl, h⟩⟩

theorem Step.trans {σ1 w1 σ2 w2 σ3 w3} (h : Step σ1 w1 σ2 w2) (k : Step σ2 w2 σ3 w3) : Step σ1 w1 σ3 w3 :=
  ⟨k.os.trans h.os, k.tape.trans h.tape, k.output.trans h.output, Nat.le_trans h.size k.size, fun x hx h0 =>
    have a := h.keep x hx h0
    have b := k.keep x (Nat.lt_of_lt_of_le hx h.size) a.2
    ⟨b.1.trans a.1, b.2⟩⟩

theorem Step.own {F σ w σ' w'} (h : Step σ w σ' w') (x : Nat) (hI : ¬ own F σ x) (hx : x < w.heap.size) : w'.heap[x]? = w.heap[x]? ∧ ¬ own F σ' x := by
  have h0 : σ x = none := by
    by_cases h : σ x = none
    · exact h
    · exact absurd (.inr h) hI
  have hF : ¬ F x := fun h => hI (.inl h)
  have k := h.keep x hx h0
  exact ⟨k.1, fun h => h.elim hF (fun h => h k.2)⟩

theorem R.step {F σ w σ' w' v d} (h : R (own F σ) w v d) (k : Step σ w σ' w') : R (own F σ') w' v d := h.mono k.own

/-- Nothing that was there has turned: what a law's row asks. -/
theorem Step.below {w σ' w'} (h : Step (fun _ => none) w σ' w') : RowKit.Below w.heap.size w w' :=
  ⟨h.os, h.tape, h.output, h.size, fun k hk => (h.keep k hk rfl).1⟩

/-! ### Frames -/
structure Rel (C : Cx) (n : Nat) (F : Nat → Prop) (σ : Store) (w : World) (a : Act) (ρ : Env) : Prop where
  size : a.tmps.size = n
  defers : a.defers = []
  tmps : ∀ (t : Nat) v, a.tmps[t]? = some v → R (own F σ) w v (ρ t)
  sim : Sim C F σ w

def Post (C : Cx) (n : Nat) (F : Nat → Prop) (σ0 : Store) (w0 : World) (Q : Exit → Env → Store → Prop) (e : Exit) (a : Act) (w : World) : Prop :=
  ∃ ρ σ, Rel C n F σ w a ρ ∧ Step σ0 w0 σ w ∧ Q e ρ σ

def awp (C : Cx) (n : Nat) (c : Code) (Q : Exit → Env → Store → Prop) (ρ : Env) (σ : Store) : Prop :=
  ∀ F σ0 w0 w a, Rel C n F σ w a ρ → Step σ0 w0 σ w → c.wp C.P (Post C n F σ0 w0 Q) a w

def awpL (C : Cx) (n : Nat) (ops : Array Oper) (l : List Oper) (Q : Exit → Env → Store → Prop) (ρ : Env) (σ : Store) : Prop :=
  ∀ F σ0 w0 w a, Rel C n F σ w a ρ → Step σ0 w0 σ w → wpList C.P ops (Post C n F σ0 w0 Q) l a w

def callable (P : Program) (f : FuncId) : Prop := ∃ fn, P.funcs[f]? = some fn ∧ (fn.name == "runtime.NumGoroutine") = false ∧ fn.body.isNone = false

/-- Called with arguments that read as ds, with the store σ, function f comes back with a value that reads as some d, and a store, of which Q holds. -/
def acalls (C : Cx) (f : FuncId) (ds : List DV) (σ : Store) (Q : DV → Store → Prop) : Prop :=
  callable C.P f ∧ ∀ F w (vs : Array Value), vs.size = ds.length → (∀ (i : Nat) v d, vs[i]? = some v → ds[i]? = some d → R (own F σ) w v d) → Sim C F σ w →
    Calls C.P f vs w fun e w' => ∃ v d σ', e = .returned v ∧ R (own F σ') w' v d ∧ Sim C F σ' w' ∧ Step σ w σ' w' ∧ Q d σ'

theorem acalls.mono {C f ds σ Q Q'} (h : acalls C f ds σ Q) (hq : ∀ d σ', Q d σ' → Q' d σ') : acalls C f ds σ Q' :=
  ⟨h.1, fun F w vs hs hr hS => (h.2 F w vs hs hr hS).mono fun e w' ⟨v, d, σ', he, hv, hS', hst, q⟩ => ⟨v, d, σ', he, hv, hS', hst, hq _ _ q⟩⟩

theorem Post.mono {C n F σ0 w0 Q Q'} (hq : ∀ e ρ σ, Q e ρ σ → Q' e ρ σ) {e a w} (h : Post C n F σ0 w0 Q e a w) : Post C n F σ0 w0 Q' e a w :=
  let ⟨ρ, σ, r, s, q⟩ := h; ⟨ρ, σ, r, s, hq _ _ _ q⟩

theorem awp.mono {C n c Q Q' ρ σ} (h : awp C n c Q ρ σ) (hq : ∀ e ρ σ, Q e ρ σ → Q' e ρ σ) : awp C n c Q' ρ σ :=
  fun F σ0 w0 w a hr hs => wp_mono (h F σ0 w0 w a hr hs) fun _ _ _ h => h.mono hq

/-! ### Code -/
section
variable {C : Cx} {n : Nat} {Q : Exit → Env → Store → Prop} {ρ : Env} {σ : Store}

def Then (K : Env → Store → Prop) (Q : Exit → Env → Store → Prop) : Exit → Env → Store → Prop
  | .normal, ρ, σ => K ρ σ
  | e, ρ, σ => Q e ρ σ

def InBlock (id : Nat) (Q : Exit → Env → Store → Prop) : Exit → Env → Store → Prop
  | .exit id', ρ, σ => if id' = id then Q .normal ρ σ else Q (.exit id') ρ σ
  | e, ρ, σ => Q e ρ σ

theorem awp_skip (h : Q .normal ρ σ) : awp C n .skip Q ρ σ := fun _ _ _ _ _ hr hs => wp_skip ⟨ρ, σ, hr, hs, h⟩
theorem awp_ret (h : Q .ret ρ σ) : awp C n .ret Q ρ σ := fun _ _ _ _ _ hr hs => wp_ret ⟨ρ, σ, hr, hs, h⟩
theorem awp_exit {id} (h : Q (.exit id) ρ σ) : awp C n (.exit id) Q ρ σ := fun _ _ _ _ _ hr hs => wp_exit ⟨ρ, σ, hr, hs, h⟩
theorem awp_label {l} (h : Q .normal ρ σ) : awp C n (.label l) Q ρ σ := fun _ _ _ _ _ hr hs => wp_label ⟨ρ, σ, hr, hs, h⟩

theorem awp_seq {x y : Code} (h : awp C n x (Then (awp C n y Q) Q) ρ σ) : awp C n (.seq x y) Q ρ σ :=
  fun F σ0 w0 w a hr hs => wp_seq (wp_mono (h F σ0 w0 w a hr hs) fun e a w hp => by
    obtain ⟨ρ', σ', r, s, q⟩ := hp
    cases e with
    | normal => exact q F σ0 w0 w a r s
    | _ => exact ⟨ρ', σ', r, s, q⟩)

theorem awp_block {id : Nat} {c : Code} (h : awp C n c (InBlock id Q) ρ σ) : awp C n (.block id c) Q ρ σ :=
  fun F σ0 w0 w a hr hs => wp_block (wp_mono (h F σ0 w0 w a hr hs) fun e a w hp => by
    obtain ⟨ρ', σ', r, s, q⟩ := hp
    cases e with
    | exit id' =>
      simp only [InBlock] at q
      simp only [Exit.inBlock]
      split
      · rename_i h; rw [if_pos h] at q; exact ⟨ρ', σ', r, s, q⟩
      · rename_i h; rw [if_neg h] at q; exact ⟨ρ', σ', r, s, q⟩
    | _ => exact ⟨ρ', σ', r, s, q⟩)

theorem least {p : Nat → Prop} (h : ∃ k, p k) : ∃ k, p k ∧ ∀ j, p j → k ≤ j := by
  obtain ⟨k, hk⟩ := h
  induction k using Nat.strongRecOn with
  | _ k ih =>
    by_cases h : ∃ j, j < k ∧ p j
    · obtain ⟨j, hj, hp⟩ := h; exact ih j hj hp
    · exact ⟨k, hk, fun j hj => Nat.le_of_not_lt fun hlt => h ⟨j, hlt, hj⟩⟩

open Classical in
noncomputable def leastOf (p : Nat → Prop) : Nat := if h : ∃ k, p k then (least h).choose else 0
theorem leastOf_spec {p : Nat → Prop} (h : ∃ k, p k) : p (leastOf p) := by
  unfold leastOf; rw [dif_pos h]; exact (least h).choose_spec.1
theorem leastOf_le {p : Nat → Prop} {k : Nat} (h : p k) : leastOf p ≤ k := by
  unfold leastOf; rw [dif_pos ⟨k, h⟩]; exact (least ⟨k, h⟩).choose_spec.2 k h

theorem awp_loop {c : Code} (I : Nat → Env → Store → Prop) (k : Nat) (h0 : I k ρ σ)
    (round : ∀ k ρ σ, I k ρ σ → awp C n c (Then (fun ρ' σ' => ∃ k', k' < k ∧ I k' ρ' σ') Q) ρ σ) : awp C n (.loop c) Q ρ σ := by
  intro F σ0 w0 w a hr hs
  let J : Act → World → Nat → Prop := fun a w k => ∃ ρ σ, Rel C n F σ w a ρ ∧ Step σ0 w0 σ w ∧ I k ρ σ
  refine wp_loop (fun a w => ∃ k, J a w k) (fun a w => leastOf (J a w)) ⟨k, ρ, σ, hr, hs, h0⟩ ?_
  intro a w hJ
  have hmin := leastOf_spec hJ
  generalize leastOf (J a w) = m at hmin
  obtain ⟨ρ, σ, hr, hs, hI⟩ := hmin
  refine wp_mono (round m ρ σ hI F σ0 w0 w a hr hs) fun e a' w' hp => ?_
  obtain ⟨ρ', σ', r, s, q⟩ := hp
  cases e with
  | normal =>
    obtain ⟨k', hk', hI'⟩ := q
    have : J a' w' k' := ⟨ρ', σ', r, s, hI'⟩
    exact ⟨⟨k', this⟩, Nat.lt_of_le_of_lt (leastOf_le this) hk'⟩
  | _ => exact ⟨ρ', σ', r, s, q⟩
end

end Go.Arb
end

section
namespace Go.Arb
set_option linter.unusedVariables false
open Go

/-! ### Operations, abstractly -/
def opPost (P : Program) (K : Value → World → Prop) : Result Next → Prop
  | .ok (.value v) w' => K v w'
  | .ok .skip w' => K undef w'
  | .ok (.enter f args) w' => Calls P f args w' fun e w'' => ∃ v, e = .returned v ∧ K v w''
  | _ => False

theorem opPost.mono {P} {K K' : Value → World → Prop} (hk : ∀ v w, K v w → K' v w) {r} (h : opPost P K r) : opPost P K' r := by
  cases r with
  | ok n w =>
    cases n <;> simp only [opPost] at h ⊢ <;> first | exact hk _ _ h | exact h.mono fun e w'' ⟨v, he, q⟩ => ⟨v, he, hk _ _ q⟩ | exact h
  | halt x w => exact h

def Res (C : Cx) (F : Nat → Prop) (σ : Store) (w : World) (Q : DV → Store → Prop) (v : Value) (w' : World) : Prop :=
  ∃ d σ', R (own F σ') w' v d ∧ Sim C F σ' w' ∧ Step σ w σ' w' ∧ Q d σ'

/-- Operation o, whose operands read as ε says, yields something that reads as a d, and leaves a store, of which Q holds. -/
def AOp (C : Cx) (o : Oper) (ε : Operand → DV) (σ : Store) (Q : DV → Store → Prop) : Prop :=
  ∀ F w (φ : Operand → Value), (∀ x ∈ o.op.operands, R (own F σ) w (φ x) (ε x)) → Sim C F σ w → opPost C.P (Res C F σ w Q) ((execOp φ o).run C.P w)

theorem AOp.mono {C o ε σ} {Q Q' : DV → Store → Prop} (h : AOp C o ε σ Q) (hq : ∀ d σ', Q d σ' → Q' d σ') : AOp C o ε σ Q' :=
  fun F w φ hr hs => (h F w φ hr hs).mono fun v w' ⟨d, σ', a, b, c, q⟩ => ⟨d, σ', a, b, c, hq _ _ q⟩

theorem AOp.congr {C o ε ε' σ} {Q : DV → Store → Prop} (h : AOp C o ε σ Q) (he : ∀ x ∈ o.op.operands, ε' x = ε x) : AOp C o ε' σ Q :=
  fun F w φ hr hs => h F w φ (fun x hx => he x hx ▸ hr x hx) hs

/-! ### Environments -/
def ofV : Value → DV
  | .bool x => .b x
  | .int k n => .i k n
  | .string s => .s s.data.toList
  | .pointer none => .nilp
  | .slice none 0 0 => .nilsl
  | .map none => .nilmap
  | .nilFunc => .nilfn
  | .nilIface => .nilif
  | .tuple ⟨[]⟩ => .tup []
  | _ => .any

theorem R_ofV (I w) (v : Value) : R I w v (ofV v) := by
  unfold ofV
  split <;> first | exact .b _ | exact .i _ _ | exact .s _ _ rfl | exact .nilp | exact .nilsl | exact .nilmap | exact .nilfn | exact .nilif | exact .any _ | skip
  exact .tup _ _ rfl (fun j v d h => by simp at h)

/-- The constant zero values of structs and arrays, too. -/
def ofVs (v : Value) : DV :=
  match v with
  | .agg cs => .agg (cs.toList.map ofV)
  | v => ofV v

theorem R_ofVs (I w) (v : Value) : R I w v (ofVs v) := by
  unfold ofVs
  split
  · refine .agg _ _ (by simp) (fun j v d h1 h2 => ?_)
    simp [h1] at h2
    exact h2 ▸ R_ofV _ _ _
  · exact R_ofV _ _ _

def ev (n : Nat) (ρ : Env) : Operand → DV
  | .tmp t => if t < n then ρ t else .any
  | .const v => ofVs v
  | .global g => .ptr g 0
  | .func f => .fn (.func f) [] []

def upd (ρ : Env) : Option Nat → DV → Env
  | none, _ => ρ
  | some d, v => fun t => if t = d then v else ρ t

theorem ev_R {C n F σ w a ρ} (h : Rel C n F σ w a ρ) (x : Operand) : R (own F σ) w (a.eval x) (ev n ρ x) := by
  cases x with
  | tmp t =>
    simp only [Act.eval, ev]
    split
    · rename_i ht
      have : t < a.tmps.size := by rw [h.size]; exact ht
      have hv : a.tmps[t]? = some (a.tmps.getD t undef) := by simp [Array.getD, this]
      exact h.tmps t _ hv
    · exact .any _
  | const v => exact R_ofVs _ _ _
  | global g => exact .ptr _ _
  | func f => exact .fn _ _ _ _ _ rfl rfl (fun j v d h => by simp at h) (fun j v d h => by simp at h)

theorem Rel.put {C n F σ w a ρ} (h : Rel C n F σ w a ρ) {σ' w'} (hs : Step σ w σ' w') (hS : Sim C F σ' w') {v d} (hv : R (own F σ') w' v d) (dst : Option Nat) :
    Rel C n F σ' w' (a.put dst v) (upd ρ dst d) := by
  cases dst with
  | none => exact ⟨h.size, h.defers, fun t v ht => (h.tmps t v ht).step hs, hS⟩
  | some k =>
    refine ⟨by simp [Act.put, h.size], h.defers, fun t u ht => ?_, hS⟩
    simp only [Act.put] at ht
    simp only [upd]
    by_cases htk : t = k
    · subst htk
      rw [if_pos rfl]
      rw [Array.getElem?_setIfInBounds] at ht
      simp at ht
      rw [← ht.2]; exact hv
    · rw [if_neg htk]
      rw [Array.getElem?_setIfInBounds_ne (by omega)] at ht
      exact (h.tmps t u ht).step hs

/-! ### Lists of operations -/
/-- Is it carried out? none: not known. -/
def guardW (want : Bool) : DV → Option Bool
  | .b x => some (x == want)
  | .opt y (.b x) => some (y && (x == want))
  | .tup _ => some false
  | _ => none

def awanted (n : Nat) (ops : Array Oper) (ρ : Env) (o : Oper) : Option Bool :=
  match o.guard with
  | none => some true
  | some (j, want) =>
    match (ops[j]?).bind (·.dst) with
    | none => some false
    | some d => if d < n then guardW want (ρ d) else none

theorem awanted_sound {C n F σ w a ρ ops o t} (h : Rel C n F σ w a ρ) (hw : awanted n ops ρ o = some t) : Region.wanted o (yielded ops a.tmps) = t := by
  unfold awanted at hw
  unfold Region.wanted
  cases hg : o.guard with
  | none => simp only [hg] at hw ⊢; simpa using hw
  | some p =>
    obtain ⟨j, want⟩ := p
    simp only [hg] at hw ⊢
    unfold yielded
    cases hd : (ops[j]?).bind (·.dst) with
    | none => simp only [hd] at hw ⊢; simpa using hw
    | some d =>
      simp only [hd] at hw ⊢
      split at hw
      · rename_i hdn
        have hlt : d < a.tmps.size := by rw [h.size]; exact hdn
        have hv : a.tmps[d]? = some a.tmps[d] := by simp [hlt]
        have hR := h.tmps d _ hv
        simp only [Option.bind_some, hv]
        generalize a.tmps[d] = u at hR
        unfold guardW at hw
        split at hw
        · rename_i x hx
          rw [hx] at hR
          cases hR
          simpa using hw
        · rename_i y x hx
          rw [hx] at hR
          cases hR with
          | optT v d h => cases h; simpa using hw
          | optF d => simp [undef] at hw ⊢; exact hw
        · rename_i vs hx
          rw [hx] at hR
          cases hR
          simpa using hw
        · exact absurd hw (by simp)
      · exact absurd hw (by simp)

section
variable {C : Cx} {n : Nat} {ops : Array Oper} {Q : Exit → Env → Store → Prop} {ρ : Env} {σ : Store} {o : Oper} {rest : List Oper}

theorem awpL_nil (h : Q .normal ρ σ) : awpL C n ops [] Q ρ σ := fun F σ0 w0 w a hr hs => wpList_nil ⟨ρ, σ, hr, hs, h⟩

theorem awpL_skip (hw : awanted n ops ρ o = some false) (h : awpL C n ops rest Q (upd ρ o.dst (.tup [])) σ) : awpL C n ops (o :: rest) Q ρ σ :=
  fun F σ0 w0 w a hr hs => wpList_skip (awanted_sound hr hw)
    (h F σ0 w0 w _ (hr.put (.refl _ _) hr.sim (.tup _ _ rfl (fun j v d h => by simp at h)) o.dst) hs)

theorem upon_of_opPost {P : Program} {o : Oper} {a : Act} {next : Act → World → Prop} {Q : Exit → Act → World → Prop} {K : Value → World → Prop} {r : Result Next}
    (h : opPost P K r) (hk : ∀ v w, K v w → next (a.put o.dst v) w) : o.upon P a next Q r := by
  cases r with
  | ok n w =>
    cases n <;> simp only [opPost] at h <;> simp only [Oper.upon]
    case value v => exact hk _ _ h
    case skip => exact hk _ _ h
    case enter f args => exact h.mono fun e w'' ⟨v, he, q⟩ => by subst he; exact hk _ _ q
  | halt x w => exact h.elim

theorem awpL_op (hw : awanted n ops ρ o = some true) (h : AOp C o (ev n ρ) σ (fun d σ' => awpL C n ops rest Q (upd ρ o.dst d) σ')) : awpL C n ops (o :: rest) Q ρ σ := by
  intro F σ0 w0 w a hr hs
  unfold wpList
  rw [if_pos (awanted_sound hr hw)]
  refine .inl ?_
  have h1 := h F w a.eval (fun x _ => ev_R hr x) hr.sim
  refine upon_of_opPost h1 ?_
  rintro v w' ⟨d, σ', hv, hS, hst, q⟩
  exact q F σ0 w0 w' _ (hr.put hst hS hv o.dst) (hs.trans hst)

/-- A region whose operations stand in one order. -/
theorem awp_region {id : Nat} {l : List Oper} (h : awpL C n l.toArray l Q ρ σ) : awp C n (.region id l.toArray false) Q ρ σ :=
  fun F σ0 w0 w a hr hs => wp_region_lit (h F σ0 w0 w a hr hs)

theorem awp_cond {c : Operand} {x y : Code} {t : Bool} (hc : ev n ρ c = .b t) (h1 : t = true → awp C n x Q ρ σ) (h2 : t = false → awp C n y Q ρ σ) : awp C n (.cond c x y) Q ρ σ := by
  intro F σ0 w0 w a hr hs
  have hR := ev_R hr c
  rw [hc] at hR
  have he : a.eval c = .bool t := by
    generalize a.eval c = v at hR
    cases hR; rfl
  exact wp_cond_split he (fun ht => h1 ht F σ0 w0 w a hr hs) (fun ht => h2 ht F σ0 w0 w a hr hs)
end

/-! ### Entering a function -/
def envOf (ds : List DV) : Env := fun t => ds.getD t .any

def resD (n : Nat) (ρ : Env) : List ResultVar → Option (List DV)
  | [] => some []
  | .tmp t :: rest => (resD n ρ rest).map (ev n ρ (.tmp t) :: ·)
  | _ => none

def tupD : List DV → DV
  | [d] => d
  | ds => .tup ds

/-- What a body must come to. -/
def Body (C : Cx) (n : Nat) (rs : List ResultVar) (Q : DV → Store → Prop) (e : Exit) (ρ : Env) (σ : Store) : Prop :=
  (e = .normal ∨ e = .ret) ∧ ∃ ds, resD n ρ rs = some ds ∧ Q (tupD ds) σ

theorem mapM_res {P : Program} {C n F σ w a ρ} (hr : Rel C n F σ w a ρ) : ∀ (l : List ResultVar) (ds : List DV), resD n ρ l = some ds →
    ∃ vs : List Value, (l.mapM fun (r : ResultVar) => (match r with | .tmp t => (pure (a.tmps.getD t undef) : Sem Value) | .cell b t => do loadVar t (← asAddr (a.tmps.getD b undef)))).run P w = .ok vs w ∧
      vs.length = ds.length ∧ ∀ (j : Nat) v d, vs[j]? = some v → ds[j]? = some d → R (own F σ) w v d := by
  intro l
  induction l with
  | nil => intro ds h; simp [resD] at h; subst h; exact ⟨[], by simp, rfl, fun j v d h => by simp at h⟩
  | cons r l ih =>
    intro ds h
    cases r with
    | cell b t => simp [resD] at h
    | tmp t =>
      simp only [resD, Option.map_eq_some_iff] at h
      obtain ⟨ds', h', rfl⟩ := h
      obtain ⟨vs, h1, h2, h3⟩ := ih ds' h'
      refine ⟨a.tmps.getD t undef :: vs, ?_, by simp [h2], ?_⟩
      · simp only [List.mapM_cons, Sem.run_bind, Sem.run_pure, Result.andThen_ok]
        rw [h1]; simp
      · intro j v d hv hd
        cases j with
        | zero => simp at hv hd; subst hv hd; simpa [Act.eval] using ev_R hr (.tmp t)
        | succ j => simp at hv hd; exact h3 j v d hv hd

theorem results_run {P : Program} {C n F σ w a ρ} {fn : Func} (hr : Rel C n F σ w a ρ) {ds} (h : resD n ρ fn.results.toList = some ds) :
    ∃ v, (results fn a.tmps).run P w = .ok v w ∧ R (own F σ) w v (tupD ds) := by
  obtain ⟨vs, h1, h2, h3⟩ := mapM_res (P := P) hr _ _ h
  have h1' : (fn.results.mapM fun (r : ResultVar) => (match r with | .tmp t => (pure (a.tmps.getD t undef) : Sem Value) | .cell b t => do loadVar t (← asAddr (a.tmps.getD b undef)))).run P w = .ok vs.toArray w := by
    rw [← Array.toArray_toList (xs := fn.results), List.mapM_toArray]
    simp only [Sem.run_map, h1, Result.andThen_ok]
  have h0 : (results fn a.tmps).run P w = .ok (if h : vs.toArray.size = 1 then vs.toArray[0] else .tuple vs.toArray) w := by
    have : results fn a.tmps = ((fn.results.mapM fun (r : ResultVar) => (match r with | .tmp t => (pure (a.tmps.getD t undef) : Sem Value) | .cell b t => do loadVar t (← asAddr (a.tmps.getD b undef)))) >>= fun vs => pure (if h : vs.size = 1 then vs[0] else .tuple vs)) := rfl
    rw [this, Sem.run_bind, h1']; rfl
  rw [h0]
  cases vs with
  | nil =>
    cases ds with
    | nil => exact ⟨.tuple #[], by simp, .tup _ _ rfl (fun j v d h => by simp at h)⟩
    | cons _ _ => simp at h2
  | cons v vs =>
    cases ds with
    | nil => simp at h2
    | cons d ds =>
      cases vs with
      | nil =>
        cases ds with
        | nil => exact ⟨v, by simp, h3 0 v d rfl rfl⟩
        | cons _ _ => simp at h2
      | cons v' vs =>
        cases ds with
        | nil => simp at h2
        | cons d' ds =>
          refine ⟨.tuple (v :: v' :: vs).toArray, ?_, ?_⟩
          · simp
          · simp only [tupD]
            exact .tup _ _ (by simpa using h2) (fun j v d hv hd => h3 j v d (by simpa using hv) hd)

theorem acalls_enter {C : Cx} {f : FuncId} {fn : Func} {c : Code} {n : Nat} {ds : List DV} {σ : Store} {Q : DV → Store → Prop}
    (hf : C.P.funcs[f]? = some fn) (hb : fn.body = some c) (hn : fn.ntmps = n) (hnm : (fn.name == "runtime.NumGoroutine") = false) (hds : ds.length ≤ n)
    (h : awp C n c (Body C n fn.results.toList Q) (envOf ds) σ) : acalls C f ds σ Q := by
  refine ⟨⟨fn, hf, hnm, by simp [hb]⟩, fun F w vs hs hr hS => ?_⟩
  refine calls_of_wp hf hb ?_
  have hrel : Rel C n F σ w { tmps := vs ++ Array.replicate (fn.ntmps - vs.size) undef, defers := [] } (envOf ds) := by
    refine ⟨by simp [hn, hs]; omega, rfl, fun t v ht => ?_, hS⟩
    by_cases hlt : t < vs.size
    · rw [Array.getElem?_append_left hlt] at ht
      have hd : t < ds.length := by omega
      have : ds[t]? = some (envOf ds t) := by simp [envOf, hd]
      exact hr t v _ ht this
    · have : envOf ds t = .any := by simp [envOf, show ds.length ≤ t by omega]
      rw [this]; exact .any _
  refine wp_mono (h F σ w w _ hrel (.refl _ _)) fun e a w' hp => ?_
  obtain ⟨ρ, σ', r, s, he, ds', hd, q⟩ := hp
  obtain ⟨v, hv, hR⟩ := results_run (P := C.P) (fn := fn) r hd
  have : ∃ v d σ'', Ending.returned v = .returned v ∧ R (own F σ'') w' v d ∧ Sim C F σ'' w' ∧ Step σ w σ'' w' ∧ Q d σ'' := ⟨v, _, σ', rfl, hR, r.sim, s, q⟩
  rcases he with rfl | rfl
  · exact ⟨r.defers, v, hv, v, _, σ', rfl, hR, r.sim, s, q⟩
  · exact ⟨r.defers, v, hv, v, _, σ', rfl, hR, r.sim, s, q⟩

/-! ### Calls -/
theorem AOp_call {C : Cx} {o : Oper} {ε : Operand → DV} {σ : Store} {Q : DV → Store → Prop} {x : Operand} {args : Array Operand} {tys : Array TypeId} {f : FuncId} {first captured : List DV}
    (ho : o.op = .call ⟨.value x, args, tys⟩) (hx : ε x = .fn (.func f) first captured)
    (h : acalls C f (first ++ args.toList.map ε ++ captured) σ Q) : AOp C o ε σ Q := by
  intro F w φ hr hS
  have hxR : R (own F σ) w (φ x) (ε x) := hr x (by simp [ho, Op.operands, Call.operands])
  rw [hx] at hxR
  obtain ⟨⟨fn, hf, hnm, hbd⟩, hc⟩ := h
  generalize hv : φ x = v at hxR
  cases hxR with
  | fn f' va vc da dc ha hca hra hrc =>
  have hrun : (execOp φ o).run C.P w = .ok (.enter f (va ++ args.map φ ++ vc)) w := by
    simp only [execOp, ho, resolve, hv, Deferred.ofValue, invoke, callFunc]
    have hnm' : ¬ fn.name = "runtime.NumGoroutine" := by simpa using hnm
    have hbd' : ¬ fn.body = none := fun h => by simp [h] at hbd
    simp [hf, hbd', hnm']
  rw [hrun]
  simp only [opPost]
  refine (hc F w _ ?_ ?_ hS).mono fun e w' ⟨v, d, σ', he, hv, hS', hst, q⟩ => ⟨v, he, d, σ', hv, hS', hst, q⟩
  · simp [ha, hca]
  · intro i v d hv hd
    by_cases h1 : i < va.size
    · rw [Array.append_assoc, Array.getElem?_append_left h1] at hv
      rw [List.append_assoc, List.getElem?_append_left (by omega)] at hd
      exact hra i v d hv hd
    · rw [Array.append_assoc, Array.getElem?_append_right (by omega)] at hv
      rw [List.append_assoc, List.getElem?_append_right (by omega), ← ha] at hd
      generalize i - va.size = k at hv hd
      by_cases h2 : k < args.size
      · rw [Array.getElem?_append_left (by simpa using h2)] at hv
        rw [List.getElem?_append_left (by simpa using h2)] at hd
        simp at hv hd
        obtain ⟨y, hy, rfl⟩ := hv
        obtain ⟨z, hz, rfl⟩ := hd
        have : y = z := by
          rw [hy] at hz; simpa using hz
        subst this
        exact hr y (by simp [ho, Op.operands, Call.operands]; exact .inr (Array.mem_of_getElem? hy))
      · rw [Array.getElem?_append_right (by simpa using h2)] at hv
        rw [List.getElem?_append_right (by simpa using h2)] at hd
        simp at hv hd
        exact hrc _ v d hv hd

end Go.Arb
end

section
namespace Go.Arb
set_option linter.unusedVariables false
set_option linter.unusedSimpArgs false
open Go

theorem mapRange_get {α : Type} {n : Nat} {f : Nat → α} {j : Nat} {v : α} (h : ((List.range n).map f)[j]? = some v) : j < n ∧ v = f j := by
  by_cases hj : j < n
  · simp [List.getElem?_map, List.getElem?_range hj] at h; exact ⟨hj, h.symm⟩
  · simp [List.getElem?_eq_none (show (List.range n).length ≤ j by simp; omega)] at h
theorem takeDrop_get {α : Type} {l : List α} {o n j : Nat} {d : α} (h : ((l.drop o).take n)[j]? = some d) : j < n ∧ l[o + j]? = some d := by
  rw [List.getElem?_take] at h
  split at h
  · rename_i hj; rw [List.getElem?_drop] at h; exact ⟨hj, h⟩
  · simp at h

/-! ### What the type table says -/
def isAggD : TypeDesc → Bool
  | .struct _ | .array _ _ => true
  | _ => false
/-- Is it a struct or an array? How many cells has it? -/
def lk (P : Program) (t : TypeId) : Option (Bool × Nat) :=
  match P.underlying t, P.info? t with
  | some d, some i => some (isAggD d, i.size)
  | _, _ => none
/-- A slice type's element: how many cells. -/
def slk (P : Program) (t : TypeId) : Option Nat :=
  match P.underlying t with
  | some (.slice e) => (P.info? e).map (·.size)
  | _ => none
/-- An array type: its length, its element's cells; is that an aggregate? -/
def alk (P : Program) (t : TypeId) : Option (Nat × Nat × Bool) :=
  match P.underlying t with
  | some (.array n e) => (lk P e).map fun p => (n, p.2, p.1)
  | _ => none
/-- A field: its place, its cells; is it an aggregate? -/
def flk (P : Program) (s f : Nat) : Option (Nat × Nat × Bool) :=
  match P.underlying s with
  | some (.struct fs) => match fs[f]? with
    | some fl => match lk P fl.type with
      | some (g, k) => if k = 0 then none else some (fl.offset, k, g)
      | none => none
    | none => none
  | _ => none

theorem lk_spec {P : Program} {t g n} (h : lk P t = some (g, n)) : ∃ d i, P.underlying t = some d ∧ P.info? t = some i ∧ isAggD d = g ∧ i.size = n := by
  unfold lk at h
  split at h
  · rename_i d i hd hi
    simp at h
    exact ⟨d, i, hd, hi, h.1, h.2⟩
  · simp at h

theorem run_sizeOf' {P : Program} {t : TypeId} {i : TypeInfo} (h : P.info? t = some i) (w : World) : (sizeOf t).run P w = .ok i.size w := by
  simp [sizeOf, typeInfo, h]

theorem run_isAgg' {P : Program} {t : TypeId} {d : TypeDesc} (h : P.underlying t = some d) (w : World) : (isAgg t).run P w = .ok (isAggD d) w := by
  unfold isAgg
  rw [Sem.run_bind, run_underlying h w]
  cases d <;> rfl

theorem add_mk (x o k : Nat) : Addr.add ⟨x, o, none⟩ k = ⟨x, o + k, none⟩ := by
  unfold Addr.add; split <;> simp_all

theorem cell_row {w : World} {x j : Nat} {cs E fz} (h : w.heap[x]? = some (.cells cs E fz)) : w.cell? ⟨x, j, none⟩ = cs[j]? := cell_of_row w x j cs E fz h

/-! ### Reading a variable -/
def loadD (P : Program) (t : TypeId) (cells : List DV) (off : Nat) : Option DV :=
  match lk P t with
  | some (true, n) => if off + n ≤ cells.length then some (.agg ((cells.drop off).take n)) else none
  | some (false, _) => cells[off]?
  | none => none

theorem run_loadVar' {P : Program} {w : World} {I : Nat → Prop} {t : TypeId} {x o : Nat} {cs E fz} {cells : List DV} {off : Nat} {d : DV} (hb : w.heap[x]? = some (.cells cs E fz))
    (hr : ∀ (j : Nat) d, cells[j]? = some d → ∃ v, cs[o + j]? = some v ∧ R I w v d) (hd : loadD P t cells off = some d) :
    ∃ v, (loadVar t ⟨x, o + off, none⟩).run P w = .ok v w ∧ R I w v d := by
  unfold loadD at hd
  cases hl : lk P t with
  | none => simp [hl] at hd
  | some p =>
    obtain ⟨g, n⟩ := p
    obtain ⟨td, ti, h1, h2, h3, h4⟩ := lk_spec hl
    cases g with
    | false =>
      simp only [hl] at hd
      obtain ⟨v, hv, hR⟩ := hr off d hd
      refine ⟨v, ?_, hR⟩
      simp only [loadVar, Sem.run_bind, run_isAgg' h1, h3, Result.andThen_ok]
      simp [run_load, cell_row hb, hv]
    | true =>
      simp only [hl] at hd
      split at hd
      · rename_i hlen
        simp at hd
        subst hd
        have hex : ∀ j, ∃ v, j < n → cs[o + (off + j)]? = some v ∧ R I w v (cells.getD (off + j) .any) := by
          intro j
          by_cases hj : j < n
          · have hlt : off + j < cells.length := by omega
            obtain ⟨v, hv, hR⟩ := hr (off + j) (cells.getD (off + j) .any) (by simp [hlt])
            exact ⟨v, fun _ => ⟨hv, hR⟩⟩
          · exact ⟨undef, fun h => absurd h hj⟩
        obtain ⟨f, hf⟩ := Classical.axiomOfChoice hex
        refine ⟨.agg ((List.range n).map f).toArray, ?_, .agg _ _ (by simp; omega) ?_⟩
        · simp only [loadVar, Sem.run_bind, run_isAgg' h1, h3, Result.andThen_ok, run_sizeOf' h2, h4, if_true]
          rw [run_loadCells w ⟨x, o + off, none⟩ n f (fun j hj => by rw [add_mk, cell_row hb, Nat.add_assoc]; exact (hf j hj).1)]
          rfl
        · intro j v d hv hd
          have hv' := mapRange_get (by simpa using hv)
          have hd' := takeDrop_get hd
          have h := (hf j hv'.1).2
          rw [hv'.2]
          simpa [List.getD, hd'.2] using h
      · simp at hd

/-! ### Each operation that yields one value and leaves what is owned alone -/
def Yields (C : Cx) (o : Oper) (ε : Operand → DV) (σ : Store) (d : DV) : Prop := AOp C o ε σ fun d' σ' => d' = d ∧ σ' = σ

theorem Yields.op {C o ε σ d} {Q : DV → Store → Prop} (h : Yields C o ε σ d) (q : Q d σ) : AOp C o ε σ Q :=
  AOp.mono h fun d' σ' ⟨h1, h2⟩ => by subst h1 h2; exact q

theorem Yields.of_run {C : Cx} {o : Oper} {ε : Operand → DV} {σ : Store} {d : DV}
    (h : ∀ F w (φ : Operand → Value), (∀ x ∈ o.op.operands, R (own F σ) w (φ x) (ε x)) → Sim C F σ w → ∃ v, (execOp φ o).run C.P w = .ok (.value v) w ∧ R (own F σ) w v d) : Yields C o ε σ d := by
  intro F w φ hr hS
  obtain ⟨v, hv, hR⟩ := h F w φ hr hS
  rw [hv]
  exact ⟨d, σ, hR, hS, .refl _ _, rfl, rfl⟩

theorem Sim.none_of_ge {C F σ w} (h : Sim C F σ w) {x : Nat} (hx : w.heap.size ≤ x) : σ x = none := by
  cases ho : σ x with
  | none => rfl
  | some o => exact absurd (h.ob x o ho).lt (by omega)

theorem heap_push_lt {w : World} {o : Obj} {x : Nat} (h : x < w.heap.size) : (w.alloc o).heap[x]? = w.heap[x]? := RowKit.Below.heap_alloc w o x h

theorem heap_push_new (w : World) (o : Obj) : (w.alloc o).heap[w.heap.size]? = some o := by
  show (w.heap.push o)[w.heap.size]? = some o
  simp

theorem Step.alloc {C F σ w} (h : Sim C F σ w) (o : Obj) : Step σ w σ (w.alloc o) :=
  ⟨rfl, rfl, rfl, by simp, fun x hx h0 => ⟨heap_push_lt hx, h0⟩⟩

theorem Sim.alloc {C F σ w} (h : Sim C F σ w) (o : Obj) : Sim C F σ (w.alloc o) :=
  ⟨fun x hx => ⟨by have := (h.fr x hx).1; simp; omega, (h.fr x hx).2⟩,
   fun x o' ho => (h.ob x o' ho).mono (fun y hy hlt => ⟨heap_push_lt hlt, hy⟩) (heap_push_lt (h.ob x o' ho).lt),
   fun x o' ho => ⟨by rw [heap_push_lt (heap_lt (h.gl x o' ho).1)]; exact (h.gl x o' ho).1, (h.gl x o' ho).2⟩⟩

/-- A new block that nobody will write. -/
theorem Yields.of_alloc {C : Cx} {o : Oper} {ε : Operand → DV} {σ : Store} {d : DV}
    (h : ∀ F w (φ : Operand → Value), (∀ x ∈ o.op.operands, R (own F σ) w (φ x) (ε x)) → Sim C F σ w → ∃ v b, (execOp φ o).run C.P w = .ok (.value v) (w.alloc b) ∧
      (¬ own F σ w.heap.size → R (own F σ) (w.alloc b) v d)) : Yields C o ε σ d := by
  intro F w φ hr hS
  obtain ⟨v, b, hv, hR⟩ := h F w φ hr hS
  rw [hv]
  refine ⟨d, σ, hR ?_, hS.alloc b, .alloc hS b, rfl, rfl⟩
  rintro (hF | hF)
  · exact absurd (hS.fr _ hF).1 (by omega)
  · exact hF (hS.none_of_ge (Nat.le_refl _))

section
variable {C : Cx} {o : Oper} {ε : Operand → DV} {σ : Store} {d : DV}

theorem y_move {x : Operand} (ho : o.op = .move x ∨ o.op = .assign x) (hd : ε x = d) : Yields C o ε σ d := .of_run fun F w φ hr hS => by
  refine ⟨φ x, ?_, hd ▸ hr x (by rcases ho with ho | ho <;> simp [ho, Op.operands])⟩
  rcases ho with ho | ho <;> simp [execOp, ho]

theorem R_b {I w v t} (h : R I w v (.b t)) : v = .bool t := by cases h; rfl
theorem R_i {I w v k n} (h : R I w v (.i k n)) : v = .int k n := by cases h; rfl
theorem R_s {I w v l} (h : R I w v (.s l)) : ∃ x, v = .string x ∧ x.data.toList = l := by cases h; exact ⟨_, rfl, by assumption⟩

theorem y_pick {c a b : Operand} {t : Bool} (ho : o.op = .pick c a b) (hc : ε c = .b t) (hd : (if t then ε a else ε b) = d) : Yields C o ε σ d := .of_run fun F w φ hr hS => by
  have h1 := hr c (by simp [ho, Op.operands])
  rw [hc] at h1
  refine ⟨if t then φ a else φ b, ?_, ?_⟩
  · simp [execOp, ho, R_b h1, asBool]
  · subst hd; cases t
    · exact hr b (by simp [ho, Op.operands])
    · exact hr a (by simp [ho, Op.operands])

theorem y_nilCheck {x : Operand} (ho : o.op = .nilCheck x) (hx : ε x = d) (hd : (match d with | .dp _ _ | .ptr _ _ => true | .fn (.func _) _ _ => true | _ => false) = true) : Yields C o ε σ d := .of_run fun F w φ hr hS => by
  have h1 := hr x (by simp [ho, Op.operands])
  rw [hx] at h1
  refine ⟨φ x, ?_, h1⟩
  generalize hv : φ x = v at h1
  cases d with
  | dp c o => cases h1; simp [execOp, ho, hv]
  | ptr b o => cases h1; simp [execOp, ho, hv]
  | fn f a c =>
    cases f with
    | func g => cases h1; simp [execOp, ho, hv]
    | _ => simp at hd
  | _ => simp at hd

theorem y_load {t : TypeId} {x : Operand} {cells : List DV} {off : Nat} (ho : o.op = .load t x) (hx : ε x = .dp cells off) (hd : loadD C.P t cells off = some d) : Yields C o ε σ d := .of_run fun F w φ hr hS => by
  have h1 := hr x (by simp [ho, Op.operands])
  rw [hx] at h1
  generalize hv : φ x = v at h1
  cases h1 with
  | dp xb o0 off cells cs E fz vals hI hb hc hr' =>
  obtain ⟨u, hu, hR⟩ := run_loadVar' (P := C.P) hb (fun j d hj => by
    have hlt : j < cells.length := by
      rcases Nat.lt_or_ge j cells.length with h | h
      · exact h
      · simp [List.getElem?_eq_none h] at hj
    exact ⟨vals j, hc j hlt, hr' j d hj⟩) hd
  exact ⟨u, by simp [execOp, ho, hv, Instr.loadAt, Instr.sureAddr, hu], hR⟩

/-- A load out of an owned struct variable. -/
theorem y_loadO {t : TypeId} {x : Operand} {b off : Nat} {ds : List DV} (ho : o.op = .load t x) (hx : ε x = .ptr b off) (hs : σ b = some (.cells ds)) (hd : loadD C.P t ds off = some d) : Yields C o ε σ d := .of_run fun F w φ hr hS => by
  have h1 := hr x (by simp [ho, Op.operands])
  rw [hx] at h1
  generalize hv : φ x = v at h1
  cases h1
  obtain ⟨cs, E, hb, hsz, hR⟩ := hS.ob b _ hs
  obtain ⟨u, hu, hR⟩ := run_loadVar' (P := C.P) (o := 0) hb (fun j d hj => by
    have hlt : j < ds.length := by
      rcases Nat.lt_or_ge j ds.length with h | h
      · exact h
      · simp [List.getElem?_eq_none h] at hj
    have hlt' : j < cs.size := by omega
    exact ⟨cs[j], by simp [hlt'], hR j cs[j] d (by simp [hlt']) hj⟩) hd
  exact ⟨u, by simp [execOp, ho, hv, Instr.loadAt, Instr.sureAddr] at hu ⊢; simp [hu], hR⟩

/-- A load out of an element of an owned row. -/
theorem y_loadA {t : TypeId} {x : Operand} {b i off sz c : Nat} {elems : List (List DV)} {es : List DV} (ho : o.op = .load t x) (hx : ε x = .ptr b (i * sz + off)) {E : TypeId} (hs : σ b = some (.arr E sz elems c))
    (he : elems[i]? = some es) (hd : loadD C.P t es off = some d) : Yields C o ε σ d := .of_run fun F w φ hr hS => by
  have h1 := hr x (by simp [ho, Op.operands])
  rw [hx] at h1
  generalize hv : φ x = v at h1
  cases h1
  obtain ⟨cs, hb, hsz, hc, hm, hz, hR⟩ := hS.ob b _ hs
  obtain ⟨u, hu, hR⟩ := run_loadVar' (P := C.P) (o := i * sz) hb (fun j d hj => hR i j es d he hj) hd
  exact ⟨u, by simp [execOp, ho, hv, Instr.loadAt, Instr.sureAddr, hu], hR⟩

theorem run_fieldAt' {P : Program} {w : World} {s f x q k m : Nat} {g : Bool} (h : flk P s f = some (k, m, g)) : (Instr.fieldAt s (.pointer (some ⟨x, q, none⟩)) f).run P w = .ok (.pointer (some ⟨x, q + k, none⟩)) w := by
  unfold flk at h
  split at h
  · rename_i fs hu
    split at h
    · rename_i fl hf
      split at h
      · rename_i g' k' hl
        obtain ⟨td, ti, h1, h2, h3, h4⟩ := lk_spec hl
        split at h
        · simp at h
        · rename_i hk
          simp at h
          obtain ⟨rfl, rfl, rfl⟩ := h
          simp [Instr.fieldAt, run_underlying hu, hf, Instr.sureAddr, fieldPlace, run_sizeOf' h2, h4, hk, add_mk]
      · simp at h
    · simp at h
  · simp at h

theorem y_fieldAddr_dp {s : TypeId} {x : Operand} {f : Nat} {cells : List DV} {off k m : Nat} {g : Bool} (ho : o.op = .fieldAddr s x f) (hx : ε x = .dp cells off) (hf : flk C.P s f = some (k, m, g)) (hd : .dp cells (off + k) = d) : Yields C o ε σ d := .of_run fun F w φ hr hS => by
  have h1 := hr x (by simp [ho, Op.operands])
  rw [hx] at h1
  generalize hv : φ x = v at h1
  cases h1 with
  | dp xb o0 off cells cs E fz vals hI hb hc hr' =>
  refine ⟨_, by simp [execOp, ho, hv, run_fieldAt' hf]; rfl, ?_⟩
  subst hd
  rw [Nat.add_assoc]
  exact .dp xb o0 (off + k) cells cs E fz vals hI hb hc hr'

theorem y_fieldAddr_ptr {s : TypeId} {x : Operand} {f : Nat} {b off k m : Nat} {g : Bool} (ho : o.op = .fieldAddr s x f) (hx : ε x = .ptr b off) (hf : flk C.P s f = some (k, m, g)) (hd : .ptr b (off + k) = d) : Yields C o ε σ d := .of_run fun F w φ hr hS => by
  have h1 := hr x (by simp [ho, Op.operands])
  rw [hx] at h1
  generalize hv : φ x = v at h1
  cases h1
  refine ⟨_, by simp [execOp, ho, hv, run_fieldAt' hf]; rfl, ?_⟩
  subst hd
  exact .ptr _ _

theorem slk_spec {P : Program} {t s} (h : slk P t = some s) : ∃ e i, P.underlying t = some (.slice e) ∧ P.info? e = some i ∧ i.size = s := by
  unfold slk at h
  split at h
  · rename_i e hu
    cases hi : P.info? e with
    | none => simp [hi] at h
    | some i => simp [hi] at h; exact ⟨e, i, hu, hi, h⟩
  · simp at h

theorem alk_spec {P : Program} {t n s g} (h : alk P t = some (n, s, g)) : ∃ e, P.underlying t = some (.array n e) ∧ lk P e = some (g, s) := by
  unfold alk at h
  split at h
  · rename_i m e hu
    cases hi : lk P e with
    | none => simp [hi] at h
    | some p => obtain ⟨a, b⟩ := p; simp [hi] at h; obtain ⟨rfl, rfl, rfl⟩ := h; exact ⟨e, hu, hi⟩
  · simp at h

theorem y_indexAddr_sl {t : TypeId} {x ix : Operand} {elems : List (List DV)} {k : IntKind} {i : Int} {s : Nat} {es : List DV} (ho : o.op = .indexAddr t x ix) (hx : ε x = .sl elems) (hi : ε ix = .i k i)
    (hs : slk C.P t = some s) (h0 : 0 ≤ i) (he : elems[i.toNat]? = some es) (hl : es.length = s) (hd : .dp es 0 = d) : Yields C o ε σ d := .of_run fun F w φ hr hS => by
  have h1 := hr x (by simp [ho, Op.operands])
  have h2 := hr ix (by simp [ho, Op.operands])
  rw [hx] at h1
  rw [hi] at h2
  obtain ⟨e, ti, hu, hti, hts⟩ := slk_spec hs
  have hlt : i.toNat < elems.length := by
    rcases Nat.lt_or_ge i.toNat elems.length with h | h
    · exact h
    · simp [List.getElem?_eq_none h] at he
  generalize hv : φ x = v at h1
  cases h1 with
  | sl0 a c => simp at he
  | sl xb off n c sz elems cs E fz vals hI hb hn hcap hz hc hr' hmx =>
  have hsz : sz = s := by rw [← hl]; exact (hz es (List.mem_of_getElem? he)).symm
  subst hsz
  have hin : 0 ≤ i ∧ i < n := ⟨h0, by omega⟩
  refine ⟨_, by simp [execOp, ho, hv, R_i h2, Instr.indexAt, run_underlying hu, asIntOf, hin, run_sizeOf' hti, hts, add_mk]; rfl, ?_⟩
  subst hd
  have := R.dp (I := own F σ) (w := w) xb (off + i.toNat * sz) 0 es cs E fz (vals i.toNat) hI hb (fun j hj => by rw [Nat.add_assoc]; exact hc _ j hlt (by omega)) (fun j d hj => hr' _ j es d he hj)
  simpa using this

theorem y_indexAddr_vw {t : TypeId} {x ix : Operand} {b off n c : Nat} {k : IntKind} {i : Int} {s : Nat} (ho : o.op = .indexAddr t x ix) (hx : ε x = .vw b off n c) (hi : ε ix = .i k i)
    (hs : slk C.P t = some s) (h0 : 0 ≤ i) (h1 : i < n) (hd : .ptr b (off + i.toNat * s) = d) : Yields C o ε σ d := .of_run fun F w φ hr hS => by
  have hx1 := hr x (by simp [ho, Op.operands])
  have h2 := hr ix (by simp [ho, Op.operands])
  rw [hx] at hx1
  rw [hi] at h2
  obtain ⟨e, ti, hu, hti, hts⟩ := slk_spec hs
  generalize hv : φ x = v at hx1
  cases hx1
  refine ⟨_, by simp [execOp, ho, hv, R_i h2, Instr.indexAt, run_underlying hu, asIntOf, h0, h1, run_sizeOf' hti, hts, add_mk]; rfl, ?_⟩
  subst hd
  exact .ptr _ _

theorem y_indexAddr_arr {t : TypeId} {x ix : Operand} {n s : Nat} {g : Bool} {k : IntKind} {i : Int} (ho : o.op = .indexAddr t x ix) (hi : ε ix = .i k i) (hs : alk C.P t = some (n, s, g)) (h0 : 0 ≤ i) (h1 : i < n)
    (hd : (match ε x with | .dp cells off => .dp cells (off + i.toNat * s) | .ptr b off => .ptr b (off + i.toNat * s) | _ => .any) = d) (hx : (match ε x with | .dp _ _ | .ptr _ _ => true | _ => false) = true) : Yields C o ε σ d := .of_run fun F w φ hr hS => by
  have hx1 := hr x (by simp [ho, Op.operands])
  have h2 := hr ix (by simp [ho, Op.operands])
  rw [hi] at h2
  obtain ⟨e, hu, hl⟩ := alk_spec hs
  obtain ⟨td, ti, e1, e2, e3, e4⟩ := lk_spec hl
  generalize hv : φ x = v at hx1
  have run : ∀ xb q, v = .pointer (some ⟨xb, q, none⟩) → (execOp φ o).run C.P w = .ok (.value (.pointer (some ⟨xb, q + i.toNat * s, none⟩))) w := by
    rintro xb q rfl
    simp [execOp, ho, hv, R_i h2, Instr.indexAt, run_underlying hu, asIntOf, h0, h1, run_sizeOf' e2, e4, add_mk, Instr.sureAddr]
  cases hxd : ε x with
  | dp cells off =>
    rw [hxd] at hx1
    simp only [hxd] at hd
    cases hx1 with
    | dp xb o0 off cells cs E fz vals hI hb hc hr' =>
    refine ⟨_, run _ _ rfl, ?_⟩
    subst hd
    rw [Nat.add_assoc]
    exact .dp xb o0 _ cells cs E fz vals hI hb hc hr'
  | ptr b off =>
    rw [hxd] at hx1
    simp only [hxd] at hd
    cases hx1
    refine ⟨_, run _ _ rfl, ?_⟩
    subst hd
    exact .ptr _ _
  | _ => simp [hxd] at hx

/-- A part of an aggregate by value. -/
def partD (g : Bool) (cells : List DV) (off n : Nat) : Option DV :=
  if g then (if off + n ≤ cells.length then some (.agg ((cells.drop off).take n)) else none) else cells[off]?

theorem run_part' {P : Program} {w : World} {I : Nat → Prop} {t : TypeId} {g : Bool} {n : Nat} (hl : lk P t = some (g, n)) {vs : Array Value} {cells : List DV} {off : Nat} {d : DV} (hsz : vs.size = cells.length)
    (hr : ∀ (j : Nat) v d, vs[j]? = some v → cells[j]? = some d → R I w v d) (hd : partD g cells off n = some d) : ∃ v, (part t vs off).run P w = .ok v w ∧ R I w v d := by
  obtain ⟨td, ti, h1, h2, h3, h4⟩ := lk_spec hl
  cases g with
  | true =>
    simp only [partD, if_true] at hd
    split at hd
    · rename_i hlen
      simp at hd
      subst hd
      refine ⟨.agg (vs.extract off (off + n)), ?_, .agg _ _ (by simp [hsz]; omega) ?_⟩
      · simp [part, run_isAgg' h1, h3, run_sizeOf' h2, h4]
      · intro j v d hv hd
        have hd' := takeDrop_get hd
        rw [Array.getElem?_extract] at hv
        split at hv
        · exact hr _ v d hv hd'.2
        · simp at hv
    · simp at hd
  | false =>
    simp only [partD] at hd
    have hlt : off < cells.length := by
      rcases Nat.lt_or_ge off cells.length with h | h
      · exact h
      · simp [List.getElem?_eq_none h] at hd
    have hlt' : off < vs.size := by omega
    exact ⟨vs[off], by simp [part, run_isAgg' h1, h3, hlt'], hr off _ d (by simp [hlt']) (by simpa using hd)⟩

theorem flk_spec {P : Program} {s f k m : Nat} {g : Bool} (h : flk P s f = some (k, m, g)) : ∃ (fs : Array Field) (fl : Field), P.underlying s = some (.struct fs) ∧ fs[f]? = some fl ∧ fl.offset = k ∧ lk P fl.type = some (g, m) := by
  unfold flk at h
  split at h
  · rename_i fs hu
    split at h
    · rename_i fl hf
      split at h
      · rename_i g' k' hl
        split at h
        · simp at h
        · simp at h
          obtain ⟨rfl, rfl, rfl⟩ := h
          exact ⟨fs, fl, hu, hf, rfl, hl⟩
      · simp at h
    · simp at h
  · simp at h

theorem y_field {t : TypeId} {x : Operand} {f : Nat} {cells : List DV} {k m : Nat} {g : Bool} (ho : o.op = .field t x f) (hx : ε x = .agg cells) (hf : flk C.P t f = some (k, m, g)) (hd : partD g cells k m = some d) : Yields C o ε σ d := .of_run fun F w φ hr hS => by
  have h1 := hr x (by simp [ho, Op.operands])
  rw [hx] at h1
  generalize hv : φ x = v at h1
  cases h1 with
  | agg vs ds hl hr' =>
  obtain ⟨fs, fl, hu, hfl, rfl, hlk⟩ := flk_spec hf
  obtain ⟨u, hu', hR⟩ := run_part' (P := C.P) (w := w) hlk hl hr' hd
  exact ⟨u, by simp [execOp, ho, hv, Instr.field, run_underlying hu, hfl, asAgg, hu'], hR⟩

theorem y_index_arr {t : TypeId} {x ix : Operand} {cells : List DV} {n s : Nat} {g : Bool} {k : IntKind} {i : Int} (ho : o.op = .index t x ix) (hx : ε x = .agg cells) (hi : ε ix = .i k i) (hs : alk C.P t = some (n, s, g)) (h0 : 0 ≤ i) (h1 : i < n)
    (hd : partD g cells (i.toNat * s) s = some d) : Yields C o ε σ d := .of_run fun F w φ hr hS => by
  have hx1 := hr x (by simp [ho, Op.operands])
  have h2 := hr ix (by simp [ho, Op.operands])
  rw [hx] at hx1
  rw [hi] at h2
  obtain ⟨e, hu, hl⟩ := alk_spec hs
  obtain ⟨td, ti, e1, e2, e3, e4⟩ := lk_spec hl
  generalize hv : φ x = v at hx1
  cases hx1 with
  | agg vs ds hlen hr' =>
  obtain ⟨u, hu', hR⟩ := run_part' (P := C.P) (w := w) hl hlen hr' hd
  exact ⟨u, by simp [execOp, ho, hv, R_i h2, Instr.index, asIntOf, run_underlying hu, h0, h1, run_sizeOf' e2, e4, hu'], hR⟩

theorem bytes_get (x : ByteArray) (i : Nat) : x[i]? = x.data.toList[i]? := by
  by_cases h : i < x.size
  · rw [ByteArray.getElem?_lt' x i h]
    have : i < x.data.toList.length := by simpa using h
    rw [List.getElem?_eq_getElem this]; rfl
  · rw [ByteArray.getElem?_ge' x i h]
    rw [List.getElem?_eq_none]; simpa using h

theorem y_index_str {t : TypeId} {x ix : Operand} {l : List UInt8} {k : IntKind} {i : Int} {b : UInt8} (ho : o.op = .index t x ix) (hx : ε x = .s l) (hi : ε ix = .i k i) (hu : C.P.underlying t = some .string) (h0 : 0 ≤ i) (hb : l[i.toNat]? = some b)
    (hd : .i .u8 b.toNat = d) : Yields C o ε σ d := .of_run fun F w φ hr hS => by
  have hx1 := hr x (by simp [ho, Op.operands])
  have h2 := hr ix (by simp [ho, Op.operands])
  rw [hx] at hx1
  rw [hi] at h2
  obtain ⟨s, hs, rfl⟩ := R_s hx1
  have hb' : s[i.toNat]? = some b := by rw [bytes_get]; exact hb
  refine ⟨.int .u8 b.toNat, by simp [execOp, ho, hs, R_i h2, Instr.index, asIntOf, run_underlying hu, h0, hb'], ?_⟩
  subst hd; exact .i _ _

theorem y_extract {x : Operand} {vs : List DV} {k : Nat} (ho : o.op = .extract x k) (hx : ε x = .tup vs) (hd : vs[k]? = some d) : Yields C o ε σ d := .of_run fun F w φ hr hS => by
  have h1 := hr x (by simp [ho, Op.operands])
  rw [hx] at h1
  generalize hv : φ x = v at h1
  cases h1 with
  | tup us ds hl hr' =>
  have hlt : k < us.size := by
    rw [hl]
    rcases Nat.lt_or_ge k vs.length with h | h
    · exact h
    · simp [List.getElem?_eq_none h] at hd
  exact ⟨us[k], by simp [execOp, ho, hv, Instr.extract, hlt], hr' k _ d (by simp [hlt]) hd⟩

theorem R_list {I w} {φ : Operand → Value} {ops : Array Operand} (h : ∀ x ∈ ops, R I w (φ x) (ε x)) :
    ∀ (j : Nat) v d, (ops.map φ)[j]? = some v → (ops.toList.map ε)[j]? = some d → R I w v d := by
  intro j v d hv hd
  simp at hv hd
  obtain ⟨y, hy, rfl⟩ := hv
  obtain ⟨z, hz, rfl⟩ := hd
  have : y = z := by rw [hy] at hz; simpa using hz
  subst this
  exact h y (Array.mem_of_getElem? hy)

theorem y_makeFunc {fn : Fn} {first captured : Array Operand} (ho : o.op = .makeFunc fn first captured) (hd : .fn fn (first.toList.map ε) (captured.toList.map ε) = d) : Yields C o ε σ d := .of_run fun F w φ hr hS => by
  refine ⟨.func fn (first.map φ) (captured.map φ), by simp [execOp, ho, Instr.makeFunc], ?_⟩
  subst hd
  exact .fn _ _ _ _ _ (by simp) (by simp) (R_list fun x hx => hr x (by simp [ho, Op.operands, hx])) (R_list fun x hx => hr x (by simp [ho, Op.operands, hx]))

/-- The cells of a value. -/
def dcells : DV → Option (List DV)
  | .any => none
  | .opt _ _ => none
  | .agg cs => some cs
  | d => some [d]

theorem R_cells {I w v d cs} (h : R I w v d) (hc : dcells d = some cs) : v.cells.size = cs.length ∧ ∀ (j : Nat) u e, v.cells[j]? = some u → cs[j]? = some e → R I w u e := by
  cases d with
  | any => simp [dcells] at hc
  | opt x d => simp [dcells] at hc
  | agg ds =>
    simp [dcells] at hc
    subst hc
    cases h with
    | agg vs ds hl hr => exact ⟨hl, hr⟩
  | _ =>
    simp [dcells] at hc
    subst hc
    have hv : v.cells = #[v] := by cases h <;> rfl
    rw [hv]
    refine ⟨rfl, fun j u e hu he => ?_⟩
    cases j with
    | zero => simp at hu he; subst hu he; exact h
    | succ j => simp at hu

theorem y_box {t : TypeId} {x : Operand} {cs : List DV} (ho : o.op = .box t x) (hc : dcells (ε x) = some cs) (hd : .dp cs 0 = d) : Yields C o ε σ d := .of_alloc fun F w φ hr hS => by
  have h1 := hr x (by simp [ho, Op.operands])
  obtain ⟨hl, hR⟩ := R_cells h1 hc
  refine ⟨.pointer (some ⟨w.heap.size, 0, none⟩), .cells (φ x).cells t, by simp [execOp, ho, Instr.box, newVar, newRow], fun hown => ?_⟩
  subst hd
  have := R.dp (I := own F σ) (w := w.alloc (.cells (φ x).cells t)) w.heap.size 0 0 cs (φ x).cells t (0, 0) (fun j => (φ x).cells.getD j undef) hown (heap_push_new w _) (fun j hj => by
      have : j < (φ x).cells.size := by omega
      simp [Array.getD, this])
    (fun j d hj => by
      have hlt : j < cs.length := by
        rcases Nat.lt_or_ge j cs.length with h | h
        · exact h
        · simp [List.getElem?_eq_none h] at hj
      have hlt' : j < (φ x).cells.size := by omega
      have := hR j (φ x).cells[j] d (by simp [hlt']) hj
      simpa [Array.getD, hlt'] using this.mono (fun y hy hy' => ⟨heap_push_lt hy', hy⟩))
  simpa using this
end

end Go.Arb
end

section
namespace Go.Arb
set_option linter.unusedVariables false
set_option linter.unusedSimpArgs false
open Go

/-! ### build, buildSlice -/
def setAt (cells : List DV) (off : Nat) (cs : List DV) : List DV := cells.take off ++ cs ++ cells.drop (off + cs.length)

theorem setAt_length {cells : List DV} {off : Nat} {cs : List DV} (h : off + cs.length ≤ cells.length) : (setAt cells off cs).length = cells.length := by
  simp [setAt]; omega

theorem setAt_get {cells : List DV} {off : Nat} {cs : List DV} (h : off + cs.length ≤ cells.length) (p : Nat) :
    (setAt cells off cs)[p]? = if off ≤ p ∧ p < off + cs.length then cs[p - off]? else cells[p]? := by
  unfold setAt
  by_cases h1 : p < off
  · rw [if_neg (by omega), List.append_assoc, List.getElem?_append_left (by simp; omega), List.getElem?_take, if_pos h1]
  · by_cases h2 : p < off + cs.length
    · rw [if_pos ⟨by omega, h2⟩, List.append_assoc, List.getElem?_append_right (by simp; omega), List.getElem?_append_left (by simp; omega)]
      congr 1; simp; omega
    · rw [if_neg (by omega), List.getElem?_append_right (by simp; omega), List.getElem?_drop]
      congr 1; simp; omega

def fillD (place : Nat → Option (Nat × Nat)) (cells : List DV) : List (Nat × DV) → Option (List DV)
  | [] => some cells
  | (i, d) :: rest => match place i, dcells d with
    | some (off, size), some cs => if cs.length = size ∧ off + size ≤ cells.length then fillD place (setAt cells off cs) rest else none
    | _, _ => none

theorem foldSet (off : Nat) : ∀ (l : List Value) (k : Nat) (cells : Array Value), off + k + l.length ≤ cells.size →
    ((l.zipIdx k).foldl (fun cs p => cs.setIfInBounds (off + p.2) p.1) cells).size = cells.size ∧
    ∀ p, ((l.zipIdx k).foldl (fun cs p => cs.setIfInBounds (off + p.2) p.1) cells)[p]? = if off + k ≤ p ∧ p < off + k + l.length then l[p - (off + k)]? else cells[p]? := by
  intro l
  induction l with
  | nil => intro k cells h; refine ⟨rfl, fun p => ?_⟩; rw [if_neg (by simp)]; rfl
  | cons v l ih =>
    intro k cells h
    simp only [List.length_cons] at h
    obtain ⟨h1, h2⟩ := ih (k + 1) (cells.setIfInBounds (off + k) v) (by simp; omega)
    simp only [List.zipIdx_cons, List.foldl_cons]
    refine ⟨by simpa using h1, fun p => ?_⟩
    rw [h2 p]
    by_cases hp : p = off + k
    · subst hp
      rw [if_neg (by omega), if_pos (by simp)]
      rw [Array.getElem?_setIfInBounds_self_of_lt (by omega)]
      simp
    · by_cases h3 : off + (k + 1) ≤ p ∧ p < off + (k + 1) + l.length
      · rw [if_pos h3, if_pos (by simp; omega)]
        rw [show p - (off + k) = (p - (off + (k + 1))) + 1 by omega, List.getElem?_cons_succ]
      · rw [if_neg h3, if_neg (by simp; omega), Array.getElem?_setIfInBounds_ne (by omega)]

theorem fill_sound {I w} {pc : Nat → Option (Nat × Nat)} : ∀ (vps : List (Nat × Value)) (dps : List (Nat × DV)) (vs : Array Value) (ds ds' : List DV), vps.length = dps.length →
    (∀ (j : Nat) p q, vps[j]? = some p → dps[j]? = some q → p.1 = q.1 ∧ R I w p.2 q.2) → vs.size = ds.length → (∀ (j : Nat) v d, vs[j]? = some v → ds[j]? = some d → R I w v d) → fillD pc ds dps = some ds' →
    ∃ vs', Instr.fill pc vs vps = some vs' ∧ vs'.size = ds'.length ∧ ∀ (j : Nat) v d, vs'[j]? = some v → ds'[j]? = some d → R I w v d := by
  intro vps
  induction vps with
  | nil =>
    intro dps vs ds ds' hl hp hs hr hf
    cases dps with
    | nil => simp [fillD] at hf; subst hf; exact ⟨vs, rfl, hs, hr⟩
    | cons _ _ => simp at hl
  | cons p vps ih =>
    intro dps vs ds ds' hl hp hs hr hf
    cases dps with
    | nil => simp at hl
    | cons q dps =>
      obtain ⟨i, v⟩ := p
      obtain ⟨i', d⟩ := q
      obtain ⟨h0, hR⟩ := hp 0 _ _ rfl rfl
      simp only at h0 hR
      subst h0
      simp only [fillD] at hf
      split at hf
      · rename_i off size cs hpl hdc
        split at hf
        · rename_i hc
          obtain ⟨hcl, hoff⟩ := hc
          subst hcl
          obtain ⟨hvl, hvr⟩ := R_cells hR hdc
          have hfs := foldSet off v.cells.toList 0 vs (by simp; omega)
          have hz : v.cells.zipIdx.foldl (fun cs (x : Value × Nat) => cs.setIfInBounds (off + x.2) x.1) vs = (v.cells.toList.zipIdx 0).foldl (fun cs p => cs.setIfInBounds (off + p.2) p.1) vs := by
            rw [← Array.foldl_toList, Array.toList_zipIdx]
          obtain ⟨vs', h1, h2, h3⟩ := ih dps ((v.cells.toList.zipIdx 0).foldl (fun cs p => cs.setIfInBounds (off + p.2) p.1) vs) (setAt ds off cs) ds' (by simpa using hl)
            (fun j p q hp' hq' => hp (j + 1) p q (by simpa using hp') (by simpa using hq'))
            (by rw [hfs.1, setAt_length hoff, hs]) (by
              intro j u e hu he
              rw [hfs.2 j] at hu
              rw [setAt_get hoff] at he
              simp only [Nat.add_zero, Array.length_toList, hvl] at hu
              split at hu
              · rename_i hc; rw [if_pos hc] at he; exact hvr _ u e (by simpa using hu) he
              · rename_i hc; rw [if_neg hc] at he; exact hr j u e hu he) hf
          refine ⟨vs', ?_, h2, h3⟩
          simp only [Instr.fill, hpl]
          rw [if_neg (by simp [hvl, hs]; omega)]
          rw [← h1]
          congr 1
        · simp at hf
      · simp at hf

/-- The places of a struct's, or an array's, parts. -/
def plc (P : Program) (t : TypeId) : Option (List (Nat × Nat)) :=
  match P.underlying t with
  | some (.struct fs) => fs.toList.mapM fun f => (P.info? f.type).map fun i => (f.offset, i.size)
  | _ => none

def zeroC (P : Program) (t : TypeId) : Option (List DV) :=
  (P.info? t).bind fun i => i.zero.map fun v => v.cells.toList.map ofV

theorem run_mapM_places {P : Program} {w : World} : ∀ (l : List Field) (pl : List (Nat × Nat)), (l.mapM fun f => (P.info? f.type).map fun i => (f.offset, i.size)) = some pl →
    (l.mapM fun f => (do pure (f.offset, ← sizeOf f.type) : Sem (Nat × Nat))).run P w = .ok pl w := by
  intro l
  induction l with
  | nil => intro pl h; simp at h; subst h; simp
  | cons f l ih =>
    intro pl h
    simp only [List.mapM_cons, Option.bind_eq_bind, Option.bind_eq_some_iff, Option.map_eq_some_iff] at h
    obtain ⟨p, ⟨i, hi, rfl⟩, pl', hpl', h⟩ := h
    simp at h
    subst h
    simp only [List.mapM_cons, Sem.run_bind, run_sizeOf' hi, Result.andThen_ok, Sem.run_pure, ih pl' hpl']

section
variable {C : Cx} {o : Oper} {ε : Operand → DV} {σ : Store} {d : DV}

theorem y_build {t : TypeId} {parts : Array (Nat × Operand)} {pl : List (Nat × Nat)} {z ds : List DV} (ho : o.op = .build t parts) (hpl : plc C.P t = some pl) (hz : zeroC C.P t = some z)
    (hf : fillD (pl[·]?) z (parts.toList.map fun p => (p.1, ε p.2)) = some ds) (hd : .agg ds = d) : Yields C o ε σ d := .of_run fun F w φ hr hS => by
  subst hd
  unfold plc at hpl
  split at hpl
  · rename_i fs hu
    unfold zeroC at hz
    simp only [Option.bind_eq_some_iff, Option.map_eq_some_iff] at hz
    obtain ⟨i, hi, zv, hzv, rfl⟩ := hz
    have hpl' := run_mapM_places (P := C.P) (w := w) _ _ hpl
    have hpa : (fs.mapM fun f => (do pure (f.offset, ← sizeOf f.type) : Sem (Nat × Nat))).run C.P w = .ok pl.toArray w := by
      rw [← Array.toArray_toList (xs := fs), List.mapM_toArray]
      simp only [Sem.run_map, hpl', Result.andThen_ok]
    obtain ⟨vs', h1, h2, h3⟩ := fill_sound (I := own F σ) (w := w) (pc := (pl[·]?)) (parts.toList.map fun p => (p.1, φ p.2)) _ zv.cells _ ds (by simp) (by
        intro j p q hp hq
        simp at hp hq
        obtain ⟨a, b, hab, rfl⟩ := hp
        obtain ⟨a', b', hab', rfl⟩ := hq
        rw [hab] at hab'
        simp at hab'
        obtain ⟨rfl, rfl⟩ := hab'
        refine ⟨rfl, hr b ?_⟩
        simp [ho, Op.operands]
        exact ⟨a, Array.mem_of_getElem? hab⟩) (by simp) (by
        intro j v d hv hd
        simp [hv] at hd
        subst hd; exact R_ofV _ _ _) hf
    refine ⟨.agg vs', ?_, .agg _ _ h2 h3⟩
    have hfill : Instr.fill (fun x => pl.toArray[x]?) zv.cells (parts.map fun p => (p.1, φ p.2)).toList = some vs' := by
      rw [← h1]; simp
    simp only [execOp, ho, Instr.build, zeroValue, typeInfo, Sem.run_bind, run_program, Result.andThen_ok, hi, Sem.run_pure, hzv, run_underlying hu, hpa]
    simp only [hfill]
    rfl
  · simp at hpl

theorem flatten_get {sz : Nat} : ∀ (elems : List (List DV)) (i j : Nat), (∀ es ∈ elems, es.length = sz) → j < sz → i < elems.length → elems.flatten[i * sz + j]? = (elems.getD i [])[j]? := by
  intro elems
  induction elems with
  | nil => intro i j h hj hi; simp at hi
  | cons e elems ih =>
    intro i j h hj hi
    have he : e.length = sz := h e (by simp)
    rw [List.flatten_cons]
    cases i with
    | zero => rw [List.getElem?_append_left (by simp; omega)]; simp
    | succ i =>
      rw [List.getElem?_append_right (by rw [he, Nat.succ_mul]; omega)]
      rw [show (i + 1) * sz + j - e.length = i * sz + j by rw [he, Nat.succ_mul]; omega]
      simpa using ih i j (fun es hes => h es (by simp [hes])) hj (by simpa using hi)

theorem fillSeq {s : Nat} : ∀ (dps : List (Nat × DV)) (elems : List (List DV)) (pre : List DV) (k m : Nat), dps.map (·.1) = List.range' k m → dps.mapM (fun p => dcells p.2) = some elems → (∀ es ∈ elems, es.length = s) →
    pre.length = k * s → fillD (fun i => some (i * s, s)) (pre ++ List.replicate (m * s) .any) dps = some (pre ++ elems.flatten) := by
  intro dps
  induction dps with
  | nil =>
    intro elems pre k m hk hm hs hp
    simp at hm; subst hm
    have : m = 0 := by cases m <;> simp_all [List.range'_succ]
    subst this
    simp [fillD]
  | cons p dps ih =>
    intro elems pre k m hk hm hs hp
    obtain ⟨i, d⟩ := p
    cases m with
    | zero => simp at hk
    | succ m =>
      simp only [List.map_cons, List.range'_succ, List.cons.injEq] at hk
      obtain ⟨rfl, hk⟩ := hk
      simp only [List.mapM_cons, Option.bind_eq_bind, Option.bind_eq_some_iff] at hm
      obtain ⟨cs, hcs, elems', he', h⟩ := hm
      simp at h
      subst h
      have hcl : cs.length = s := hs cs (by simp)
      simp only [fillD, hcs]
      rw [if_pos ⟨hcl, by simp [hp, Nat.succ_mul]⟩]
      have : setAt (pre ++ List.replicate ((m + 1) * s) .any) (i * s) cs = (pre ++ cs) ++ List.replicate (m * s) .any := by
        unfold setAt
        rw [← hp]
        simp only [List.take_left, List.append_assoc]
        congr 2
        rw [List.drop_append, List.drop_eq_nil_of_le (by omega)]
        simp [Nat.succ_mul, hcl]
      rw [this, ih elems' (pre ++ cs) (i + 1) m hk he' (fun es hes => hs es (by simp [hes])) (by simp [hp, hcl, Nat.succ_mul])]
      simp

theorem mapM_length {α β : Type} {f : α → Option β} : ∀ {l : List α} {l' : List β}, l.mapM f = some l' → l'.length = l.length := by
  intro l
  induction l with
  | nil => intro l' h; simp at h; subst h; rfl
  | cons a l ih =>
    intro l' h
    simp only [List.mapM_cons, Option.bind_eq_bind, Option.bind_eq_some_iff] at h
    obtain ⟨b, hb, l'', hl, h⟩ := h
    simp at h
    subst h
    simp [ih hl]

theorem R_sl_of_flat {I : Nat → Prop} {w : World} {x n c sz : Nat} {elems : List (List DV)} {cs : Array Value} {E fz} (hI : ¬ I x) (hb : w.heap[x]? = some (.cells cs E fz)) (hn : n = elems.length) (hc : n ≤ c)
    (hz : ∀ es ∈ elems, es.length = sz) (hr : ∀ (j : Nat) v d, cs[j]? = some v → elems.flatten[j]? = some d → R I w v d) (hs : elems.length * sz ≤ cs.size) (hmx : c ≤ maxLen) : R I w (.slice (some ⟨x, 0, none⟩) n c) (.sl elems) := by
  refine .sl x 0 n c sz elems cs E fz (fun i j => cs.getD (i * sz + j) undef) hI hb hn hc hz (fun i j hi hj => ?_) (fun i j es d hi hj => ?_) hmx
  · have h1 : (i + 1) * sz ≤ elems.length * sz := Nat.mul_le_mul_right _ hi
    rw [Nat.succ_mul] at h1
    have : i * sz + j < cs.size := by omega
    simp [Array.getD, this]
  · have hi' : i < elems.length := by
      rcases Nat.lt_or_ge i elems.length with h | h
      · exact h
      · simp [List.getElem?_eq_none h] at hi
    have hes : es.length = sz := hz es (List.mem_of_getElem? hi)
    have hj' : j < sz := by
      rw [← hes]
      rcases Nat.lt_or_ge j es.length with h | h
      · exact h
      · simp [List.getElem?_eq_none h] at hj
    have h1 : (i + 1) * sz ≤ elems.length * sz := Nat.mul_le_mul_right _ hi'
    rw [Nat.succ_mul] at h1
    have hlt : i * sz + j < cs.size := by omega
    refine hr (i * sz + j) _ d (by simp [Array.getD, hlt]) ?_
    rw [flatten_get elems i j hz hj' hi']
    simpa [List.getD, hi] using hj

theorem y_buildSlice {t : TypeId} {n : Nat} {parts : Array (Nat × Operand)} {s : Nat} {elems : List (List DV)} {e : TypeId} {i : TypeInfo} {zv : Value} (ho : o.op = .buildSlice t n parts) (hs : slk C.P t = some s)
    (hu : C.P.underlying t = some (.slice e)) (hi : C.P.info? e = some i) (hzv : i.zero = some zv)
    (hidx : parts.toList.map (·.1) = List.range' 0 n) (hel : (parts.toList.map fun p => (p.1, ε p.2)).mapM (fun p => dcells p.2) = some elems) (hz : ∀ es ∈ elems, es.length = s) (hbd : n * s ≤ 2 ^ 24) (hn24 : n ≤ maxLen) (hd : .sl elems = d) : Yields C o ε σ d := .of_alloc fun F w φ hr hS => by
  subst hd
  have hts : i.size = s := by simpa [slk, hu, hi] using hs
  have hlen : elems.length = n := by
    have h1 := congrArg List.length hidx
    simp at h1
    have h3 := mapM_length hel
    simp at h3
    omega
  have hseq := fillSeq (s := s) (parts.toList.map fun p => (p.1, ε p.2)) elems [] 0 n (by simpa [Function.comp_def] using hidx) hel hz (by simp)
  simp only [List.nil_append] at hseq
  let zero : Array Value := if n * s = 0 then #[] else zv.cells
  let init : Array Value := (Array.range (n * s)).map (zero[· % zero.size]!)
  obtain ⟨vs', h1, h2, h3⟩ := fill_sound (I := own F σ) (w := w) (pc := fun i => some (i * s, s)) (parts.toList.map fun p => (p.1, φ p.2)) _ init _ _ (by simp) (by
      intro j p q hp hq
      simp at hp hq
      obtain ⟨a, b, hab, rfl⟩ := hp
      obtain ⟨a', b', hab', rfl⟩ := hq
      rw [hab] at hab'
      simp at hab'
      obtain ⟨rfl, rfl⟩ := hab'
      refine ⟨rfl, hr b ?_⟩
      simp [ho, Op.operands]
      exact ⟨a, Array.mem_of_getElem? hab⟩) (by simp [init]) (by
      intro j v d hv hd
      have : d = .any := by
        have := List.mem_of_getElem? hd
        simp at this; exact this.2
      subst this; exact .any _) hseq
  have hfill : Instr.fill (fun i => some (i * s, s)) init (parts.map fun p => (p.1, φ p.2)).toList = some vs' := by
    rw [← h1]; simp
  refine ⟨.slice (some ⟨w.heap.size, 0, none⟩) n n, .cells vs' e, ?_, fun hown => ?_⟩
  · have hfl : ∀ zz : Array Value, zz = zero → Instr.fill (fun i => some (i * s, s)) (Array.map (fun x => zz[x % zz.size]!) (Array.range (n * s))) (parts.map fun p => (p.1, φ p.2)).toList = some vs' := by
      rintro _ rfl; exact hfill
    simp only [execOp, ho, Instr.buildSlice, Sem.run_bind, run_underlying hu, Result.andThen_ok, run_sizeOf' hi, hts]
    rw [if_neg (by omega)]
    by_cases h0 : n * s = 0
    · have hzz : (#[] : Array Value) = zero := by simp [zero, h0]
      have := hfl #[] hzz
      simp only [h0, if_true] at this ⊢
      simp only [Sem.run_bind, Sem.run_pure, Result.andThen_ok, this]
      rfl
    · have hzz : zv.cells = zero := by simp [zero, h0]
      have := hfl zv.cells hzz
      simp only [h0, if_false]
      simp only [Sem.run_bind, Sem.run_pure, Result.andThen_ok, zeroValue, typeInfo, run_program, hi, hzv, this]
      rfl
  · refine R_sl_of_flat hown (heap_push_new w _) hlen.symm (Nat.le_refl _) hz (fun j v d hv hd => (h3 j v d hv hd).mono fun y hy hy' => ⟨heap_push_lt hy', hy⟩) ?_ hn24
    rw [h2, List.length_flatten]
    have hsum : (elems.map List.length).sum = elems.length * s := by
      clear hseq h2 h3 hel hlen
      induction elems with
      | nil => simp
      | cons a l ih => simp [hz a (by simp), ih (fun es hes => hz es (by simp [hes])), Nat.succ_mul]; omega
    omega
end

end Go.Arb
end

section
namespace Go.Arb
set_option linter.unusedVariables false
set_option linter.unusedSimpArgs false
open Go

/-! ### Arithmetic, comparisons, strings -/
def intBin (op : BinOp) (k : IntKind) (a b : Int) : Option DV :=
  match op with
  | .add => some (.i k (k.wrap (a + b)))
  | .sub => some (.i k (k.wrap (a - b)))
  | .mul => some (.i k (k.wrap (a * b)))
  | .quo => if b = 0 then none else some (.i k (k.wrap (a.tdiv b)))
  | .rem => if b = 0 then none else some (.i k (a.tmod b))
  | .and => some (.i k (k.wrap (BitVec.ofInt k.bits a &&& BitVec.ofInt k.bits b).toNat))
  | .or => some (.i k (k.wrap (BitVec.ofInt k.bits a ||| BitVec.ofInt k.bits b).toNat))
  | .xor => some (.i k (k.wrap (BitVec.ofInt k.bits a ^^^ BitVec.ofInt k.bits b).toNat))
  | .eql => some (.b (a == b))
  | .neq => some (.b (a != b))
  | .lss => some (.b (decide (a < b)))
  | .leq => some (.b (decide (a ≤ b)))
  | .gtr => some (.b (decide (a > b)))
  | .geq => some (.b (decide (a ≥ b)))
  | _ => none

def strBin (op : BinOp) (a b : List UInt8) : Option DV :=
  match op with
  | .add => if a.length + b.length ≤ 4611686018427387904 then some (.s (a ++ b)) else none
  | .eql => some (.b (a == b))
  | .neq => some (.b (!(a == b)))
  | .lss => some (.b (Op.bytesLess a b))
  | .leq => some (.b (Op.bytesLess a b || a == b))
  | .gtr => some (.b (!(Op.bytesLess a b || a == b)))
  | .geq => some (.b (!Op.bytesLess a b))
  | _ => none

def nilBin (op : BinOp) (r : Bool) : Option DV :=
  match op with
  | .eql => some (.b r)
  | .neq => some (.b (!r))
  | _ => none

def descOf (P : Program) (t : TypeId) : Nat :=
  match P.underlying t with
  | some .bool => 1
  | some (.pointer _) => 2
  | some (.func _ _ _) => 3
  | some (.map _ _) => 4
  | some .string => 5
  | _ => 0

def binD (P : Program) (op : BinOp) (t : TypeId) (x y : DV) : Option DV :=
  match x, y with
  | .i k a, .i k' b =>
    match op with
    | .shl => if b < 0 then none else some (.i k (k.wrap (a * 2 ^ (min b.toNat k.bits))))
    | .shr => if b < 0 then none else some (.i k (a.fdiv (2 ^ (min b.toNat k.bits))))
    | _ => if k = k' then intBin op k a b else none
  | .s a, .s b => strBin op a b
  | .b a, .b b => if descOf P t = 1 then (match op with | .eql => some (.b (a == b)) | .neq => some (.b (!(a == b))) | _ => none) else none
  | .nilp, .nilp => if descOf P t = 2 then nilBin op true else none
  | .dp _ _, .nilp | .ptr _ _, .nilp => if descOf P t = 2 then nilBin op false else none
  | .nilfn, .nilfn => if descOf P t = 3 then nilBin op true else none
  | .fn _ _ _, .nilfn => if descOf P t = 3 then nilBin op false else none
  | .nilmap, .nilmap => if descOf P t = 4 then nilBin op true else none
  | .mp _, .nilmap => if descOf P t = 4 then nilBin op false else none
  | _, _ => none

def bothOf : Value → Value → Bool
  | .nilIface, .nilIface => true
  | .agg _, .agg _ => true
  | _, _ => false

theorem run_eqGuard_plain {P : Program} {w : World} (op : BinOp) (t : TypeId) (x y : Operand) (a b : Value) (h : bothOf a b = false) :
    (eqGuard op t x y a b).run P w = .ok () w := by
  have key : (match a, b with
    | .nilIface, .nilIface => (do
      if (x matches .const _) || (y matches .const _) then return
      if ← Op.eqGuardIn Op.maxDepth t a b then unsupported (.noEntry "binop/eql: two nil values of an interface type with methods, neither of them the literal nil") : Sem Unit)
    | .agg _, .agg _ => do
      if !(← program).eqGuardType (← program).depth t then return
      if ← Op.eqGuardIn Op.maxDepth t a b then unsupported (.noEntry "binop/eql: two nil values of an interface type with methods, in a part of a struct or an array")
    | _, _ => pure ()) = pure () := by
    split
    · simp [bothOf] at h
    · simp [bothOf] at h
    · rfl
  cases op <;> first
    | rfl
    | (show (Sem.run P (match a, b with | .nilIface, .nilIface => _ | .agg _, .agg _ => _ | _, _ => pure ()) w) = _
       exact (congrArg (fun s => Sem.run P s w) key))
theorem beq_data (a b : ByteArray) : (a.toList == b.toList) = (a.data.toList == b.data.toList) := by
  rw [ByteArray.toList_eq, ByteArray.toList_eq]

section
variable {C : Cx} {o : Oper} {ε : Operand → DV} {σ : Store} {d : DV}

theorem run_int {P : Program} {w : World} {op : BinOp} {t : TypeId} {k : IntKind} {a b : Int} {d : DV} (h1 : op ≠ .shl) (h2 : op ≠ .shr) (h : intBin op k a b = some d) :
    ∃ v, (binOp op t (.int k a) (.int k b)).run P w = .ok v w ∧ ∀ I, R I w v d := by
  cases op with
  | shl => exact absurd rfl h1
  | shr => exact absurd rfl h2
  | quo =>
    simp only [intBin] at h
    split at h
    · simp at h
    · rename_i hb; simp at h; subst h; exact ⟨_, by simp [binOp, Op.intDiv, hb] <;> rfl, fun I => .i _ _⟩
  | rem =>
    simp only [intBin] at h
    split at h
    · simp at h
    · rename_i hb; simp at h; subst h; exact ⟨_, by simp [binOp, Op.intDiv, hb] <;> rfl, fun I => .i _ _⟩
  | andNot => simp [intBin] at h
  | _ =>
    simp [intBin] at h
    subst h
    exact ⟨_, by simp [binOp, Op.intArith, Op.intBits, Op.intCmp] <;> rfl, fun I => by first | exact .i _ _ | exact .b _⟩

theorem run_str {P : Program} {w : World} {op : BinOp} {t : TypeId} {a b : ByteArray} {d : DV} (h : strBin op a.data.toList b.data.toList = some d) :
    ∃ v, (binOp op t (.string a) (.string b)).run P w = .ok v w ∧ ∀ I, R I w v d := by
  cases op with
  | add =>
    simp only [strBin] at h
    split at h
    · rename_i hl
      simp at h
      subst h
      refine ⟨.string (a ++ b), ?_, fun I => .s _ _ (by simp)⟩
      have hle : ¬ ((a.size + b.size : Nat) : Int) > IntKind.i64.max := by
        have : IntKind.i64.max = 9223372036854775807 := by decide
        rw [this]
        simp only [Array.length_toList] at hl
        have e1 : a.data.size = a.size := rfl
        have e2 : b.data.size = b.size := rfl
        omega
      simp only [binOp, Op.stringOp, hle, if_false]
      rfl
    · simp at h
  | eql | neq | lss | leq | gtr | geq =>
    simp [strBin] at h
    subst h
    exact ⟨_, by simp [binOp, Op.stringOp, ByteArray.toList_eq] <;> rfl, fun I => .b _⟩
  | _ => simp [strBin] at h

theorem underlying_of_desc {P : Program} {t : TypeId} : (descOf P t = 1 → P.underlying t = some .bool) ∧ (descOf P t = 2 → P.underlying t = some (.pointer (P.pointee t))) ∧
    (descOf P t = 3 → ∃ a b c, P.underlying t = some (.func a b c)) ∧ (descOf P t = 4 → ∃ a b, P.underlying t = some (.map a b)) ∧ (descOf P t = 5 → P.underlying t = some .string) := by
  unfold descOf Program.pointee
  split <;> simp_all

theorem run_nilp {P : Program} {w : World} {op : BinOp} {t : TypeId} {p : Option Addr} {d : DV} (ht : descOf P t = 2) (h : nilBin op p.isNone = some d) :
    ∃ v, (binOp op t (.pointer p) (.pointer none)).run P w = .ok v w ∧ ∀ I, R I w v d := by
  have hu := underlying_of_desc.2.1 ht
  cases op <;> simp only [nilBin, Option.some.injEq, reduceCtorEq] at h <;> subst h
  · exact ⟨_, run_eql_pointer_nil w t p hu, fun I => .b _⟩
  · exact ⟨_, run_neq_pointer_nil w t p hu, fun I => .b _⟩

theorem run_equalIn_func1 {P : Program} {w : World} (n : Nat) {t a b c} (hu : P.underlying t = some (.func a b c)) : (Op.equalIn (n + 1) t .nilFunc .nilFunc).run P w = .ok true w := by
  simp [Op.equalIn, run_underlying hu]
theorem run_equalIn_func2 {P : Program} {w : World} (n : Nat) {t a b c} (hu : P.underlying t = some (.func a b c)) (f x y) : (Op.equalIn (n + 1) t (.func f x y) .nilFunc).run P w = .ok false w := by
  simp [Op.equalIn, run_underlying hu]
theorem run_equal_func {P : Program} {w : World} {t a b c} (hu : P.underlying t = some (.func a b c)) {v : Value} {r : Bool} (hv : (v = .nilFunc ∧ r = true) ∨ (∃ a b c, v = .func a b c) ∧ r = false) :
    (Op.equal t v .nilFunc).run P w = .ok r w := by
  rcases hv with ⟨rfl, rfl⟩ | ⟨⟨f, x, y, rfl⟩, rfl⟩
  · exact run_equalIn_func1 9999 hu
  · exact run_equalIn_func2 9999 hu f x y

theorem run_nilfn {P : Program} {w : World} {op : BinOp} {t : TypeId} {v : Value} {r : Bool} {d : DV} (ht : descOf P t = 3) (hv : (v = .nilFunc ∧ r = true) ∨ (∃ a b c, v = .func a b c) ∧ r = false) (h : nilBin op r = some d) :
    ∃ u, (binOp op t v .nilFunc).run P w = .ok u w ∧ ∀ I, R I w u d := by
  obtain ⟨a, b, c, hu⟩ := underlying_of_desc.2.2.1 ht
  have he := run_equal_func (w := w) hu hv
  cases op <;> simp only [nilBin, Option.some.injEq, reduceCtorEq] at h <;> subst h
  · refine ⟨.bool r, ?_, fun I => .b _⟩
    have : binOp .eql t v .nilFunc = (do pure (.bool (← Op.equal t v .nilFunc)) : Sem Value) := by rcases hv with ⟨rfl, _⟩ | ⟨⟨f, x, y, rfl⟩, _⟩ <;> rfl
    rw [this]; simp [he]
  · refine ⟨.bool (!r), ?_, fun I => .b _⟩
    have : binOp .neq t v .nilFunc = (do pure (.bool (!(← Op.equal t v .nilFunc))) : Sem Value) := by rcases hv with ⟨rfl, _⟩ | ⟨⟨f, x, y, rfl⟩, _⟩ <;> rfl
    rw [this]; simp [he]

theorem run_nilmap {P : Program} {w : World} {op : BinOp} {t : TypeId} {p : Option Nat} {d : DV} (ht : descOf P t = 4) (h : nilBin op p.isNone = some d) :
    ∃ u, (binOp op t (.map p) (.map none)).run P w = .ok u w ∧ ∀ I, R I w u d := by
  obtain ⟨a, b, hu⟩ := underlying_of_desc.2.2.2.1 ht
  cases op <;> simp only [nilBin, Option.some.injEq, reduceCtorEq] at h <;> subst h
  · exact ⟨_, run_eql_map_nil w t a b p hu, fun I => .b _⟩
  · exact ⟨_, run_neq_map_nil w t a b p hu, fun I => .b _⟩

theorem y_binOp {op : BinOp} {t t' : TypeId} {x y : Operand} (ho : o.op = .binOp op t x y t') (hd : binD C.P op t (ε x) (ε y) = some d) : Yields C o ε σ d := .of_run fun F w φ hr hS => by
  have h1 := hr x (by simp [ho, Op.operands])
  have h2 := hr y (by simp [ho, Op.operands])
  generalize ε x = dx at h1 hd
  generalize ε y = dy at h2 hd
  generalize hvx : φ x = vx at h1
  generalize hvy : φ y = vy at h2
  suffices hs : bothOf vx vy = false ∧ ∃ v, (binOp op t vx vy).run C.P w = .ok v w ∧ ∀ I, R I w v d by
    obtain ⟨hb, v, hv, hR⟩ := hs
    exact ⟨v, by simp [execOp, ho, hvx, hvy, run_eqGuard_plain (P := C.P) (w := w) op t x y vx vy hb, hv], hR _⟩
  unfold binD at hd
  split at hd
  · rename_i k a k' b
    cases h1; cases h2
    refine ⟨rfl, ?_⟩
    split at hd
    · split at hd
      · simp at hd
      · rename_i hb; simp at hd; subst hd; exact ⟨_, by simp [binOp, Op.shift, hb] <;> rfl, fun I => .i _ _⟩
    · split at hd
      · simp at hd
      · rename_i hb; simp at hd; subst hd; exact ⟨_, by simp [binOp, Op.shift, hb] <;> rfl, fun I => .i _ _⟩
    · rename_i n1 n2
      split at hd
      · rename_i hk; subst hk; exact run_int (fun h => n1 h) (fun h => n2 h) hd
      · simp at hd
  · rename_i a b
    obtain ⟨s1, rfl, rfl⟩ := R_s h1
    obtain ⟨s2, rfl, rfl⟩ := R_s h2
    exact ⟨rfl, run_str hd⟩
  · rename_i a b
    cases h1; cases h2
    refine ⟨rfl, ?_⟩
    split at hd
    · rename_i ht
      have hu := underlying_of_desc.1 ht
      cases op <;> simp at hd <;> subst hd
      · exact ⟨_, run_eql_bool w t a b hu, fun I => .b _⟩
      · exact ⟨_, run_neq_bool w t a b hu, fun I => .b _⟩
    · simp at hd
  · cases h1; cases h2
    split at hd
    · rename_i ht; exact ⟨rfl, run_nilp (p := none) ht hd⟩
    · simp at hd
  · cases h1; cases h2
    split at hd
    · rename_i ht; exact ⟨rfl, run_nilp (p := some _) ht hd⟩
    · simp at hd
  · cases h1; cases h2
    split at hd
    · rename_i ht; exact ⟨rfl, run_nilp (p := some _) ht hd⟩
    · simp at hd
  · cases h1; cases h2
    split at hd
    · rename_i ht; exact ⟨rfl, run_nilfn ht (.inl ⟨rfl, rfl⟩) hd⟩
    · simp at hd
  · cases h1; cases h2
    split at hd
    · rename_i ht; exact ⟨rfl, run_nilfn ht (.inr ⟨⟨_, _, _, rfl⟩, rfl⟩) hd⟩
    · simp at hd
  · cases h1; cases h2
    split at hd
    · rename_i ht; exact ⟨rfl, run_nilmap (p := none) ht hd⟩
    · simp at hd
  · cases h1; cases h2
    split at hd
    · rename_i ht; exact ⟨rfl, run_nilmap (p := some _) ht hd⟩
    · simp at hd
  · simp at hd

def unD (op : UnOp) : DV → Option DV
  | .b x => match op with | .not => some (.b (!x)) | _ => none
  | .i k n => match op with
    | .neg => some (.i k (k.wrap (0 - n)))
    | .xor => some (.i k (k.wrap (BitVec.ofInt k.bits (if k.signed then -1 else k.max) ^^^ BitVec.ofInt k.bits n).toNat))
    | _ => none
  | _ => none

theorem y_unOp {op : UnOp} {t : TypeId} {x : Operand} (ho : o.op = .unOp op t x) (hd : unD op (ε x) = some d) : Yields C o ε σ d := .of_run fun F w φ hr hS => by
  have h1 := hr x (by simp [ho, Op.operands])
  generalize ε x = dx at h1 hd
  generalize hvx : φ x = vx at h1
  unfold unD at hd
  split at hd
  · cases h1
    split at hd
    · simp at hd; subst hd; exact ⟨_, by simp [execOp, ho, hvx, Op.unary] <;> rfl, .b _⟩
    · simp at hd
  · cases h1
    split at hd
    · simp at hd; subst hd; exact ⟨_, by simp [execOp, ho, hvx, Op.unary, Op.intArith] <;> rfl, by simpa using R.i _ _⟩
    · simp at hd; subst hd; exact ⟨_, by simp [execOp, ho, hvx, Op.unary, Op.intBits] <;> rfl, .i _ _⟩
    · simp at hd
  · simp at hd

/-- The kind of a whole-number type. -/
def ikOf (P : Program) (t : TypeId) : Option IntKind :=
  match P.underlying t with
  | some (.int k) => some k
  | _ => none

theorem y_convert {s t : TypeId} {x : Operand} {k k' : IntKind} {n : Int} (ho : o.op = .convert s t x) (hx : ε x = .i k' n) (hs : (C.P.underlying s).isSome = true) (ht : ikOf C.P t = some k) (hd : .i k (k.wrap n) = d) : Yields C o ε σ d := .of_run fun F w φ hr hS => by
  have h1 := hr x (by simp [ho, Op.operands])
  rw [hx] at h1
  have hu : C.P.underlying t = some (.int k) := by
    unfold ikOf at ht
    split at ht
    · simp at ht; subst ht; assumption
    · simp at ht
  obtain ⟨sd, hsd⟩ := Option.isSome_iff_exists.1 hs
  subst hd
  exact ⟨_, by simp [execOp, ho, R_i h1, convert, run_underlying hsd, run_underlying hu, Conv.intToInt] <;> rfl, .i _ _⟩
end
end Go.Arb
end

section
namespace Go.Arb
set_option linter.unusedVariables false
set_option linter.unusedSimpArgs false
open Go

/-! ### Reslicing, lengths -/
def bndD (ε : Operand → DV) (x : Option Operand) (dflt : Nat) : Option Nat :=
  match x with
  | none => some dflt
  | some y => match ε y with
    | .i _ n => if 0 ≤ n then some n.toNat else none
    | _ => none

theorem bnd_run {P : Program} {w : World} {I : Nat → Prop} {ε : Operand → DV} {φ : Operand → Value} {y : Operand} {n : Nat} {dflt top : Nat} (code : BoundsCode) (hR : R I w (φ y) (ε y)) (h : bndD ε (some y) dflt = some n) (ht : n ≤ top) :
    (Instr.sliceBound (φ y) top code).run P w = .ok n w := by
  simp only [bndD] at h
  split at h
  · rename_i k m hy
    rw [hy] at hR
    split at h
    · rename_i h0
      simp at h
      rw [R_i hR, run_sliceBound w k m top code h0 (by omega), h]
    · simp at h
  · simp at h

/-- No third index. -/
theorem bounds2_run {P : Program} {w : World} {I : Nat → Prop} {ε : Operand → DV} {φ : Operand → Value} {lo hi : Option Operand} {len cap l h : Nat} {isS : Bool} (hl : ∀ y, lo = some y → R I w (φ y) (ε y)) (hh : ∀ y, hi = some y → R I w (φ y) (ε y))
    (h1 : bndD ε lo 0 = some l) (h2 : bndD ε hi len = some h) (h3 : l ≤ h) (h4 : h ≤ cap) : (Instr.sliceBounds isS len cap (lo.map φ) (hi.map φ) none).run P w = .ok (l, h, cap) w := by
  have e2 : (match (hi.map φ : Option Value) with | some v => Instr.sliceBound v cap (if isS then .sliceAcap else .sliceAlen) | none => pure len : Sem Nat).run P w = .ok h w := by
    cases hi with
    | none => simp [bndD] at h2; simp [h2]
    | some y => exact bnd_run _ (hh y rfl) h2 h4
  have e1 : (match (lo.map φ : Option Value) with | some v => Instr.sliceBound v h .sliceB | none => pure 0 : Sem Nat).run P w = .ok l w := by
    cases lo with
    | none => simp [bndD] at h1; simp [h1]
    | some y => exact bnd_run _ (hl y rfl) h1 h3
  cases hi with
  | none =>
    simp only [bndD, Option.some.injEq] at h2
    subst h2
    simp only [Instr.sliceBounds, Option.map_none, Sem.run_bind, Sem.run_pure, Result.andThen_ok]
    cases lo with
    | none => simp at e1 ⊢; exact e1
    | some y => simp at e1 ⊢; rw [e1]; simp
  | some z =>
    simp only [Option.map_some] at e2
    simp only [Instr.sliceBounds, Option.map_some, Sem.run_bind, Sem.run_pure, Result.andThen_ok, e2]
    cases lo with
    | none => simp at e1 ⊢; exact e1
    | some y => simp at e1 ⊢; rw [e1]; simp

section
variable {C : Cx} {o : Oper} {ε : Operand → DV} {σ : Store} {d : DV}

theorem mem_slice {t x lo hi mx} (ho : o.op = .slice t x lo hi mx) : x ∈ o.op.operands ∧ (∀ y, lo = some y → y ∈ o.op.operands) ∧ (∀ y, hi = some y → y ∈ o.op.operands) ∧ (∀ y, mx = some y → y ∈ o.op.operands) := by
  simp [ho, Op.operands]
  refine ⟨?_, ?_, ?_⟩ <;> rintro y rfl <;> simp

theorem y_slice_str {t : TypeId} {x : Operand} {lo hi : Option Operand} {s : List UInt8} {l h : Nat} (ho : o.op = .slice t x lo hi none) (hx : ε x = .s s) (hu : C.P.underlying t = some .string)
    (h1 : bndD ε lo 0 = some l) (h2 : bndD ε hi s.length = some h) (h3 : l ≤ h) (h4 : h ≤ s.length) (hd : .s ((s.drop l).take (h - l)) = d) : Yields C o ε σ d := .of_run fun F w φ hr hS => by
  obtain ⟨m1, m2, m3, _⟩ := mem_slice ho
  have hx1 := hr x m1
  rw [hx] at hx1
  obtain ⟨bs, hbs, rfl⟩ := R_s hx1
  subst hd
  have hb := bounds2_run (P := C.P) (isS := false) (len := bs.size) (cap := bs.size) (fun y hy => hr y (m2 y hy)) (fun y hy => hr y (m3 y hy)) h1 (by simpa using h2) h3 (by simpa using h4)
  refine ⟨.string (bs.extract l h), ?_, .s _ _ (by rw [Lib.extract_data])⟩
  simp [execOp, ho, hbs, Instr.sliceAt, Instr.slice, run_underlying hu, hb]

theorem y_slice_sl {t : TypeId} {x : Operand} {lo hi : Option Operand} {elems : List (List DV)} {l h s : Nat} (ho : o.op = .slice t x lo hi none) (hx : ε x = .sl elems) (hs : slk C.P t = some s)
    (h1 : bndD ε lo 0 = some l) (h2 : bndD ε hi elems.length = some h) (h3 : l ≤ h) (h4 : h ≤ elems.length) (hz : ∀ es ∈ elems, es.length = s) (hd : .sl ((elems.drop l).take (h - l)) = d) : Yields C o ε σ d := .of_run fun F w φ hr hS => by
  obtain ⟨m1, m2, m3, _⟩ := mem_slice ho
  have hx1 := hr x m1
  rw [hx] at hx1
  obtain ⟨e, ti, hu, hti, hts⟩ := slk_spec hs
  subst hd
  generalize hv : φ x = v at hx1
  cases hx1 with
  | sl0 a c =>
    simp at h4
    subst h4
    obtain rfl : l = 0 := by omega
    have hb := bounds2_run (P := C.P) (isS := true) (len := 0) (cap := c) (fun y hy => hr y (m2 y hy)) (fun y hy => hr y (m3 y hy)) h1 (by simpa using h2) h3 (by omega)
    refine ⟨.slice (if c = 0 then a else a.map (·.add (0 * s))) 0 (c - 0), ?_, by simpa using R.sl0 _ _⟩
    simp [execOp, ho, hv, Instr.sliceAt, Instr.slice, run_underlying hu, hb, run_sizeOf' hti, hts]
  | sl xb off n c sz elems cs E fz vals hI hb hn hcap hz' hc hr' hmx =>
    subst hn
    have hbd := bounds2_run (P := C.P) (isS := true) (len := elems.length) (cap := c) (fun y hy => hr y (m2 y hy)) (fun y hy => hr y (m3 y hy)) h1 h2 h3 (by omega)
    refine ⟨.slice (if c = l then some ⟨xb, off, none⟩ else some ⟨xb, off + l * s, none⟩) (h - l) (c - l), ?_, ?_⟩
    · simp [execOp, ho, hv, Instr.sliceAt, Instr.slice, run_underlying hu, hbd, run_sizeOf' hti, hts, add_mk]
    · by_cases hlh : l = h
      · subst hlh; simpa using R.sl0 _ _
      · have hcl : ¬ c = l := by omega
        rw [if_neg hcl]
        have hel : 0 < elems.length := by omega
        have hsz : sz = s := by
          have hm : elems[0] ∈ elems := List.getElem_mem _
          rw [← hz' _ hm, hz _ hm]
        subst hsz
        refine .sl xb (off + l * sz) (h - l) (c - l) sz _ cs E fz (fun i j => vals (l + i) j) hI hb (by simp; omega) (by omega) (fun es hes => hz es (List.mem_of_mem_drop (List.mem_of_mem_take hes))) ?_ ?_ (by omega)
        · intro i j hi hj
          simp at hi
          have := hc (l + i) j (by omega) hj
          rw [← this]; congr 1; rw [Nat.add_mul]; omega
        · intro i j es d hi hj
          have := takeDrop_get hi
          exact hr' (l + i) j es d this.2 hj

theorem y_slice_vw {t : TypeId} {x : Operand} {lo hi : Option Operand} {b off n c l h s : Nat} (ho : o.op = .slice t x lo hi none) (hx : ε x = .vw b off n c) (hs : slk C.P t = some s)
    (h1 : bndD ε lo 0 = some l) (h2 : bndD ε hi n = some h) (h3 : l ≤ h) (h4 : h ≤ c) (hd : .vw b (if c = l then off else off + l * s) (h - l) (c - l) = d) : Yields C o ε σ d := .of_run fun F w φ hr hS => by
  obtain ⟨m1, m2, m3, _⟩ := mem_slice ho
  have hx1 := hr x m1
  rw [hx] at hx1
  obtain ⟨e, ti, hu, hti, hts⟩ := slk_spec hs
  subst hd
  generalize hv : φ x = v at hx1
  cases hx1
  have hbd := bounds2_run (P := C.P) (isS := true) (len := n) (cap := c) (fun y hy => hr y (m2 y hy)) (fun y hy => hr y (m3 y hy)) h1 h2 h3 h4
  refine ⟨.slice (if c = l then some ⟨b, off, none⟩ else some ⟨b, off + l * s, none⟩) (h - l) (c - l), ?_, ?_⟩
  · simp [execOp, ho, hv, Instr.sliceAt, Instr.slice, run_underlying hu, hbd, run_sizeOf' hti, hts, add_mk]
  · split <;> exact .vw _ _ _ _

/-- 's[:0:0]': nothing, and no room. -/
theorem y_slice_none {t : TypeId} {x : Operand} {hi mx : Operand} {k k' : IntKind} {s : Nat} (ho : o.op = .slice t x none (some hi) (some mx)) (hx : (match ε x with | .sl _ | .nilsl | .vw _ _ _ _ => true | _ => false) = true) (hs : slk C.P t = some s)
    (h1 : ε hi = .i k 0) (h2 : ε mx = .i k' 0) (hd : .sl [] = d) : Yields C o ε σ d := .of_run fun F w φ hr hS => by
  obtain ⟨m1, m2, m3, m4⟩ := mem_slice ho
  have hx1 := hr x m1
  have hh := hr hi (m3 hi rfl)
  have hm := hr mx (m4 mx rfl)
  rw [h1] at hh
  rw [h2] at hm
  obtain ⟨e, ti, hu, hti, hts⟩ := slk_spec hs
  subst hd
  have hsl : ∃ a n c, φ x = .slice a n c := by
    cases hxd : ε x <;> simp [hxd] at hx <;> rw [hxd] at hx1 <;> generalize φ x = v at hx1 <;> cases hx1 <;> exact ⟨_, _, _, rfl⟩
  obtain ⟨a, n, c, hv⟩ := hsl
  refine ⟨.slice a 0 0, ?_, .sl0 _ _⟩
  simp [execOp, ho, hv, R_i hh, R_i hm, Instr.sliceAt, Instr.slice, run_underlying hu, Instr.sliceBounds, run_sliceBound, run_sizeOf' hti]

theorem y_len {t : TypeId} {x : Operand} (ho : o.op = .call ⟨.builtin .len, #[x], #[t]⟩) (hu : (slk C.P t).isSome = true ∨ C.P.underlying t = some .string)
    (hd : (match ε x with | .s l => DV.i .i64 l.length | .sl es => .i .i64 es.length | .nilsl => .i .i64 0 | .vw _ _ n _ => .i .i64 n | _ => .any) = d)
    (hk : (match ε x with | .s _ => descOf C.P t == 5 | .sl _ | .nilsl | .vw _ _ _ _ => (slk C.P t).isSome | _ => false) = true) : Yields C o ε σ d := .of_run fun F w φ hr hS => by
  have hx1 := hr x (by simp [ho, Op.operands, Call.operands])
  have key : ∀ a n c, φ x = .slice a n c → (slk C.P t).isSome = true → (execOp φ o).run C.P w = .ok (.value (.int .i64 n)) w := by
    intro a n c hv hsl
    obtain ⟨s, hs⟩ := Option.isSome_iff_exists.1 hsl
    obtain ⟨e, ti, hu, hti, hts⟩ := slk_spec hs
    simp [execOp, ho, resolve, invoke, builtin, Builtin.len_, hv, run_underlying hu, goInt]
  generalize hxd : ε x = dx at hx1 hd hk
  cases dx <;> simp only at hk hd <;> first | (simp at hk; done) | skip
  · rename_i l
    obtain ⟨bs, hbs, rfl⟩ := R_s hx1
    have hus : C.P.underlying t = some .string := underlying_of_desc.2.2.2.2 (by simpa using hk)
    subst hd
    refine ⟨.int .i64 bs.size, by simp [execOp, ho, resolve, invoke, builtin, Builtin.len_, hbs, run_underlying hus, goInt], ?_⟩
    exact .i _ _
  · generalize hv : φ x = v at hx1
    cases hx1
    subst hd
    exact ⟨_, key _ _ _ hv hk, .i _ _⟩
  · rename_i es
    generalize hv : φ x = v at hx1
    subst hd
    cases hx1 with
    | sl0 a c => exact ⟨_, key _ _ _ hv hk, .i _ _⟩
    | sl xb off n c sz elems cs E fz vals hI hb hn hcap hz' hc hr' hmx => subst hn; exact ⟨_, key _ _ _ hv hk, .i _ _⟩
  · generalize hv : φ x = v at hx1
    cases hx1
    subst hd
    exact ⟨_, key _ _ _ hv hk, .i _ _⟩

theorem y_max {x y : Operand} {tys : Array TypeId} {k k' : IntKind} {a b : Int} (ho : o.op = .call ⟨.builtin .max, #[x, y], tys⟩) (hx : ε x = .i k a) (hy : ε y = .i k' b) (hd : .i k (if b > a then b else a) = d) : Yields C o ε σ d := .of_run fun F w φ hr hS => by
  have h1 := hr x (by simp [ho, Op.operands, Call.operands])
  have h2 := hr y (by simp [ho, Op.operands, Call.operands])
  rw [hx] at h1; rw [hy] at h2
  subst hd
  exact ⟨_, by simp [execOp, ho, resolve, invoke, builtin, R_i h1, R_i h2, run_max_int2] <;> rfl, .i _ _⟩

theorem y_min {x y : Operand} {tys : Array TypeId} {k k' : IntKind} {a b : Int} (ho : o.op = .call ⟨.builtin .min, #[x, y], tys⟩) (hx : ε x = .i k a) (hy : ε y = .i k' b) (hd : .i k (if b < a then b else a) = d) : Yields C o ε σ d := .of_run fun F w φ hr hS => by
  have h1 := hr x (by simp [ho, Op.operands, Call.operands])
  have h2 := hr y (by simp [ho, Op.operands, Call.operands])
  rw [hx] at h1; rw [hy] at h2
  subst hd
  exact ⟨_, by simp [execOp, ho, resolve, invoke, builtin, R_i h1, R_i h2, run_min_int2] <;> rfl, .i _ _⟩

theorem y_makeInterface {t : TypeId} {x : Operand} (ho : o.op = .makeInterface t x) (hc : C.P.concrete t = true) (hd : .ifc t (ε x) = d) : Yields C o ε σ d := .of_run fun F w φ hr hS => by
  have h1 := hr x (by simp [ho, Op.operands])
  subst hd
  exact ⟨_, by simp [execOp, ho, run_makeInterface (P := C.P) w t (φ x) hc] <;> rfl, .ifc _ _ _ h1⟩
end
end Go.Arb
end
