/- Operations under names of blocks, second part. -/
import Derived.Test.YtbaongomialaoaaGreatDoorCd
section
namespace Go.Arb
set_option linter.unusedVariables false
set_option linter.unusedSimpArgs false
open Go Go.Lib

/-! ### What is read through names -/
section
variable {θ : Nm} {P : Program} {nx : Nat} {h σ : Store}

theorem loadV_par (r : NRel θ nx h σ) {t : TypeId} {x x' d : DV} (hx : SR θ x x') (hd : loadV P h t x = some d) : ∃ d', loadV P σ t x' = some d' ∧ SR θ d d' := by
  unfold loadV at hd
  split at hd
  · rename_i cells off
    obtain ⟨rfl, hk⟩ := hx.inv_dp
    exact loadD_par (SRL_refl hk) hd
  · rename_i b off
    obtain ⟨y, e, rfl, hy⟩ := hx.inv_ptr
    split at hd
    · rename_i ds hs
      obtain ⟨y', e', o', h1, h2, h3⟩ := r.ob b _ hs
      rw [hy] at h1; cases h1
      cases h3 with
      | cells _ ds' hl => simp only [loadV, h2]; exact loadD_par hl hd
    · rename_i E sz elems c hs
      obtain ⟨y', e', o', h1, h2, h3⟩ := r.ob b _ hs
      rw [hy] at h1; cases h1
      cases h3 with
      | arr _ _ _ el' _ _ hl =>
        split at hd
        · rename_i hsz
          split at hd
          · rename_i es he
            obtain ⟨es', he', hes⟩ := hl.get he
            simp only [loadV, h2, he', hsz, if_true]
            exact loadD_par hes hd
          · simp at hd
        · simp at hd
    · simp at hd
  · simp at hd

theorem fldA_par {s f : Nat} {x x' d : DV} (hx : SR θ x x') (hd : fldA P s f x = some d) : ∃ d', fldA P s f x' = some d' ∧ SR θ d d' := by
  unfold fldA at hd
  split at hd
  · obtain ⟨rfl, hk⟩ := hx.inv_dp
    split at hd
    · rename_i hf; simp at hd; subst hd
      exact ⟨_, by simp only [fldA, hf], .imm _ (by simpa [nb] using hk)⟩
    · simp at hd
  · obtain ⟨y, e, rfl, hy⟩ := hx.inv_ptr
    split at hd
    · rename_i hf; simp at hd; subst hd
      exact ⟨_, by simp only [fldA, hf], .ptr _ _ _ _ hy⟩
    · simp at hd
  · simp at hd

theorem fldV_par {s f : Nat} {x x' d : DV} (hx : SR θ x x') (hd : fldV P s f x = some d) : ∃ d', fldV P s f x' = some d' ∧ SR θ d d' := by
  unfold fldV at hd
  split at hd
  · obtain ⟨cs', rfl, hk⟩ := hx.inv_agg
    split at hd
    · rename_i hf
      obtain ⟨d', h1, h2⟩ := partD_par hk hd
      exact ⟨d', by simp only [fldV, hf]; exact h1, h2⟩
    · simp at hd
  · simp at hd

theorem nbL_of_SRL {l l' : List DV} (h : SRL (fun _ => none) l l') : True := trivial

theorem idxA_par {t : TypeId} {x x' i i' d : DV} (hx : SR θ x x') (hi : SR θ i i') (hd : idxA P t x i = some d) : ∃ d', idxA P t x' i' = some d' ∧ SR θ d d' := by
  unfold idxA at hd
  split at hd
  · rename_i es k n
    obtain ⟨rfl, hk⟩ := hx.inv_sl
    cases hi.inv_i
    refine ⟨d, by unfold idxA; exact hd, ?_⟩
    split at hd
    · split at hd
      · split at hd
        · rename_i e he
          split at hd
          · simp at hd; subst hd
            exact .imm _ (by simpa [nb] using nbLL_iff.1 hk _ _ he)
          · simp at hd
        · simp at hd
      · simp at hd
    · simp at hd
  · rename_i b off n c k m
    obtain ⟨y, e, rfl, hy⟩ := hx.inv_vw
    cases hi.inv_i
    split at hd
    · rename_i s hs
      split at hd
      · rename_i hc; simp at hd; subst hd
        exact ⟨_, by simp only [idxA, hs]; rw [if_pos hc], .ptr _ _ _ _ hy⟩
      · simp at hd
    · simp at hd
  · rename_i cs off k m
    obtain ⟨rfl, hk⟩ := hx.inv_dp
    cases hi.inv_i
    refine ⟨d, by unfold idxA; exact hd, ?_⟩
    split at hd
    · split at hd
      · simp at hd; subst hd; exact .imm _ (by simpa [nb] using hk)
      · simp at hd
    · simp at hd
  · rename_i b off k m
    obtain ⟨y, e, rfl, hy⟩ := hx.inv_ptr
    cases hi.inv_i
    split at hd
    · rename_i n s g hs
      split at hd
      · rename_i hc; simp at hd; subst hd
        exact ⟨_, by simp only [idxA, hs]; rw [if_pos hc], .ptr _ _ _ _ hy⟩
      · simp at hd
    · simp at hd
  · simp at hd

theorem idxV_par {t : TypeId} {x x' i i' d : DV} (hx : SR θ x x') (hi : SR θ i i') (hd : idxV P t x i = some d) : ∃ d', idxV P t x' i' = some d' ∧ SR θ d d' := by
  unfold idxV at hd
  split at hd
  · rename_i cs k n
    obtain ⟨cs', rfl, hk⟩ := hx.inv_agg
    cases hi.inv_i
    split at hd
    · rename_i m s g hs
      split at hd
      · rename_i hc
        obtain ⟨d', h1, h2⟩ := partD_par hk hd
        exact ⟨d', by simp only [idxV, hs]; rw [if_pos hc]; exact h1, h2⟩
      · simp at hd
    · simp at hd
  · rename_i l k n
    cases hx.inv_s
    cases hi.inv_i
    refine ⟨d, by unfold idxV; exact hd, ?_⟩
    split at hd
    · split at hd
      · simp at hd; subst hd; exact .imm _ rfl
      · simp at hd
    · simp at hd
  · simp at hd

theorem nckD_par {x x' d : DV} (hx : SR θ x x') (hd : nckD x = some d) : ∃ d', nckD x' = some d' ∧ SR θ d d' := by
  unfold nckD at hd
  split at hd <;> simp at hd <;> subst hd
  · obtain ⟨rfl, hk⟩ := hx.inv_dp; exact ⟨_, rfl, hx⟩
  · obtain ⟨y, e, rfl, hy⟩ := hx.inv_ptr; exact ⟨_, rfl, hx⟩
  · obtain ⟨a', c', rfl, hy⟩ := hx.inv_fn; exact ⟨_, rfl, hx⟩

theorem unD_par {op : UnOp} {x x' d : DV} (hx : SR θ x x') (hd : unD op x = some d) : unD op x' = some d ∧ nb d = true := by
  unfold unD at hd
  split at hd
  · cases hx.inv_b
    refine ⟨by unfold unD; exact hd, ?_⟩
    split at hd <;> simp at hd; subst hd; rfl
  · cases hx.inv_i
    refine ⟨by unfold unD; exact hd, ?_⟩
    split at hd <;> simp at hd <;> subst hd <;> rfl
  · simp at hd

theorem nb_nilBin {op r d} (h : nilBin op r = some d) : nb d = true := by
  unfold nilBin at h
  split at h <;> simp at h <;> subst h <;> rfl

theorem nb_intBin {op k a b d} (h : intBin op k a b = some d) : nb d = true := by
  unfold intBin at h
  split at h <;> (try split at h) <;> simp at h <;> subst h <;> rfl

theorem nb_strBin {op a b d} (h : strBin op a b = some d) : nb d = true := by
  unfold strBin at h
  split at h <;> (try split at h) <;> simp at h <;> subst h <;> rfl

theorem binD_par {op : BinOp} {t : TypeId} {x x' y y' d : DV} (hx : SR θ x x') (hy : SR θ y y') (hd : binD P op t x y = some d) : binD P op t x' y' = some d ∧ nb d = true := by
  unfold binD at hd
  split at hd
  · cases hx.inv_i; cases hy.inv_i
    refine ⟨by unfold binD; exact hd, ?_⟩
    split at hd
    · split at hd
      · simp at hd
      · simp at hd; subst hd; rfl
    · split at hd
      · simp at hd
      · simp at hd; subst hd; rfl
    · split at hd
      · exact nb_intBin hd
      · simp at hd
  · cases hx.inv_s; cases hy.inv_s
    exact ⟨by unfold binD; exact hd, nb_strBin hd⟩
  · cases hx.inv_b; cases hy.inv_b
    refine ⟨by unfold binD; exact hd, ?_⟩
    split at hd
    · split at hd <;> simp at hd <;> subst hd <;> rfl
    · simp at hd
  · cases hx.inv_nilp; cases hy.inv_nilp
    refine ⟨by unfold binD; exact hd, ?_⟩
    split at hd
    · exact nb_nilBin hd
    · simp at hd
  · obtain ⟨rfl, hk⟩ := hx.inv_dp; cases hy.inv_nilp
    refine ⟨by unfold binD; exact hd, ?_⟩
    split at hd
    · exact nb_nilBin hd
    · simp at hd
  · obtain ⟨z, e, rfl, hk⟩ := hx.inv_ptr; cases hy.inv_nilp
    refine ⟨by unfold binD; exact hd, ?_⟩
    split at hd
    · exact nb_nilBin hd
    · simp at hd
  · cases hx.inv_nilfn; cases hy.inv_nilfn
    refine ⟨by unfold binD; exact hd, ?_⟩
    split at hd
    · exact nb_nilBin hd
    · simp at hd
  · obtain ⟨a', c', rfl, hk⟩ := hx.inv_fn; cases hy.inv_nilfn
    refine ⟨by unfold binD; exact hd, ?_⟩
    split at hd
    · exact nb_nilBin hd
    · simp at hd
  · cases hx.inv_nilmap; cases hy.inv_nilmap
    refine ⟨by unfold binD; exact hd, ?_⟩
    split at hd
    · exact nb_nilBin hd
    · simp at hd
  · obtain ⟨z, e, rfl, hk⟩ := hx.inv_mp; cases hy.inv_nilmap
    refine ⟨by unfold binD; exact hd, ?_⟩
    split at hd
    · exact nb_nilBin hd
    · simp at hd
  · simp at hd

theorem parts_SRL {ε ε' : Operand → DV} {parts : Array (Nat × Operand)} (he : ∀ p ∈ parts.toList, SR θ (ε p.2) (ε' p.2)) : SRL θ ((parts.toList.map fun p => (p.1, ε p.2)).map (·.2)) ((parts.toList.map fun p => (p.1, ε' p.2)).map (·.2)) := by
  simp only [List.map_map]
  exact SRL.map _ fun p hp => he p hp
theorem parts_fst {ε ε' : Operand → DV} {parts : Array (Nat × Operand)} : (parts.toList.map fun p => (p.1, ε p.2)).map (·.1) = (parts.toList.map fun p => (p.1, ε' p.2)).map (·.1) := by
  simp [Function.comp_def]

theorem bldD_par {t : TypeId} {ε ε' : Operand → DV} {parts : Array (Nat × Operand)} {d : DV} (he : ∀ p ∈ parts.toList, SR θ (ε p.2) (ε' p.2)) (hd : bldD P t (parts.toList.map fun p => (p.1, ε p.2)) = some d) :
    ∃ d', bldD P t (parts.toList.map fun p => (p.1, ε' p.2)) = some d' ∧ SR θ d d' := by
  unfold bldD at hd ⊢
  split at hd
  · rename_i pl z hp hz
    split at hd
    · rename_i ds hf
      simp at hd; subst hd
      obtain ⟨ds', h1, h2⟩ := fillD_par _ _ _ _ _ parts_fst (parts_SRL he) (SRL_zeroC hz) hf
      exact ⟨.agg ds', by simp [h1], .mk_agg h2⟩
    · simp at hd
  · simp at hd

theorem cnvD_par {s t : TypeId} {x x' d : DV} (hx : SR θ x x') (hd : cnvD P s t x = some d) : cnvD P s t x' = some d ∧ nb d = true := by
  unfold cnvD at hd
  split at hd
  · cases hx.inv_i
    refine ⟨by unfold cnvD; exact hd, ?_⟩
    split at hd
    · split at hd
      · simp at hd; subst hd; rfl
      · simp at hd
    · simp at hd
  · simp at hd

theorem extD_par {k : Nat} {x x' d : DV} (hx : SR θ x x') (hd : extD k x = some d) : ∃ d', extD k x' = some d' ∧ SR θ d d' := by
  unfold extD at hd
  split at hd
  · obtain ⟨ds', rfl, hk⟩ := hx.inv_tup
    exact hk.get hd
  · simp at hd

theorem lenD_par {t : TypeId} {x x' d : DV} (hx : SR θ x x') (hd : lenD P t x = some d) : lenD P t x' = some d ∧ nb d = true := by
  unfold lenD at hd
  split at hd
  · cases hx.inv_s
    refine ⟨by unfold lenD; exact hd, ?_⟩
    split at hd
    · simp at hd; subst hd; rfl
    · simp at hd
  · obtain ⟨rfl, _⟩ := hx.inv_sl
    refine ⟨by unfold lenD; exact hd, ?_⟩
    split at hd
    · simp at hd; subst hd; rfl
    · simp at hd
  · cases hx.inv_nilsl
    refine ⟨by unfold lenD; exact hd, ?_⟩
    split at hd
    · simp at hd; subst hd; rfl
    · simp at hd
  · obtain ⟨y, e, rfl, hk⟩ := hx.inv_vw
    split at hd
    · rename_i hs
      simp at hd; subst hd; exact ⟨by simp [lenD, hs], rfl⟩
    · simp at hd
  · simp at hd

theorem eq_of_plainK {k k' : DV} (h : plainK k = true) (s : SR θ k k') : k' = k := by
  refine s.eq_of_nb ?_
  unfold plainK at h
  split at h
  · rfl
  · rfl
  · rfl
  · rename_i cs
    simp only [nb]
    refine nbL_iff.2 fun j d hj => ?_
    have := List.all_eq_true.1 h d (List.mem_of_getElem? hj)
    split at this
    · rfl
    · rfl
    · rfl
    · simp at this
  · simp at h

def KR (θ : Nm) (kvs kvs' : List (DV × DV)) : Prop := kvs.length = kvs'.length ∧ ∀ (j : Nat) p p', kvs[j]? = some p → kvs'[j]? = some p' → p'.1 = p.1 ∧ SR θ p.2 p'.2

theorem KR.nil : KR θ [] [] := ⟨rfl, fun j p p' h => by simp at h⟩
theorem KR.inv_cons {p l m} (h : KR θ (p :: l) m) : ∃ p' l', m = p' :: l' ∧ p'.1 = p.1 ∧ SR θ p.2 p'.2 ∧ KR θ l l' := by
  cases m with
  | nil => simp [KR] at h
  | cons p' l' =>
    obtain ⟨h1, h2⟩ := h.2 0 p p' rfl rfl
    exact ⟨p', l', rfl, h1, h2, by simpa using h.1, fun j q q' a b => h.2 (j + 1) q q' (by simpa using a) (by simpa using b)⟩

theorem kfi_par {kt : TypeId} {k : DV} : ∀ {kvs kvs' : List (DV × DV)} {i : Nat} {q}, KR θ kvs kvs' → kfi P kt k kvs i = some q →
    ∃ q', kfi P kt k kvs' i = some q' ∧ (match q, q' with | none, none => True | some (i, v), some (j, v') => i = j ∧ SR θ v v' | _, _ => False) := by
  intro kvs
  induction kvs with
  | nil =>
    intro kvs' i q hk h
    have : kvs' = [] := by have := hk.1; simp at this; exact List.length_eq_zero_iff.1 this.symm
    subst this
    simp [kfi] at h; subst h
    exact ⟨none, by simp [kfi], trivial⟩
  | cons p l ih =>
    intro kvs' i q hk h
    obtain ⟨p', l', rfl, h1, h2, h3⟩ := hk.inv_cons
    simp only [kfi] at h ⊢
    rw [h1]
    split at h
    · rename_i he; simp at h; subst h; exact ⟨some (i, p'.2), rfl, rfl, h2⟩
    · rename_i he; exact ih h3 h
    · simp at h

theorem mapD_par (r : NRel θ nx h σ) {m m' : DV} {kvs} (hm : SR θ m m') (hd : mapD h m = some kvs) : ∃ kvs', mapD σ m' = some kvs' ∧ KR θ kvs kvs' := by
  unfold mapD at hd
  split at hd
  · cases hm.inv_nilmap; simp at hd; subst hd; exact ⟨[], rfl, .nil⟩
  · obtain ⟨y, e, rfl, hy⟩ := hm.inv_mp
    split at hd
    · rename_i kvs' hs
      simp at hd; subst hd
      obtain ⟨y', e', o', h1, h2, h3⟩ := r.ob _ _ hs
      rw [hy] at h1; cases h1
      cases h3 with
      | map _ kvs2 hl hr => exact ⟨kvs2, by simp [mapD, h2], hl, hr⟩
    · simp at hd
  · simp at hd

theorem SRL.two {a b a' b' : DV} (h : SR θ a a') (k : SR θ b b') : SRL θ [a, b] [a', b'] := .cons h (.cons k .nil)

theorem lkpD_par {kt et : TypeId} {ok : Bool} {k : DV} {kvs kvs' : List (DV × DV)} {d : DV} (hk : KR θ kvs kvs') (hd : lkpD P kt et ok k kvs = some d) : ∃ d', lkpD P kt et ok k kvs' = some d' ∧ SR θ d d' := by
  unfold lkpD at hd ⊢
  split at hd
  · rename_i i v hq
    obtain ⟨q', h1, h2⟩ := kfi_par hk hq
    cases q' with
    | none => simp at h2
    | some p =>
      obtain ⟨j, v'⟩ := p
      simp at h2
      obtain ⟨rfl, hv⟩ := h2
      simp at hd; subst hd
      rw [h1]
      cases ok with
      | true => exact ⟨_, rfl, .mk_tup (.two hv (.imm _ rfl))⟩
      | false => exact ⟨_, rfl, hv⟩
  · rename_i hq
    obtain ⟨q', h1, h2⟩ := kfi_par hk hq
    cases q' with
    | some p => simp at h2
    | none =>
      rw [h1]
      simp only [Option.map_eq_some_iff] at hd ⊢
      obtain ⟨z, hz, rfl⟩ := hd
      refine ⟨_, ⟨z, hz, rfl⟩, ?_⟩
      cases ok with
      | true => exact .mk_tup (.two (SR_zeroV hz) (.imm _ rfl))
      | false => exact SR_zeroV hz
  · simp at hd
end
end Go.Arb
end

section
namespace Go.Arb
set_option linter.unusedVariables false
set_option linter.unusedSimpArgs false
open Go Go.Lib

theorem liesAt_self {P : Program} {e : TypeId} (hc : P.cellsOf e ≠ 0) (count : Nat) (hn : 1 ≤ count) : liesAt P P.depth e count 0 e 1 = true := by
  have hd : P.depth = (2 * (P.types.size + Made.depth) + 1) + 1 := rfl
  rw [hd]
  simp only [liesAt, Bool.or_eq_true]
  left
  rw [hd]
  simp [rowAt, hc, hn, sameLayout]

theorem Yields.weak {C o ε σ d d2} (h : Yields C o ε σ d) (hw : ∀ I w v, R I w v d → R I w v d2) : Yields C o ε σ d2 :=
  fun F w φ hr hS => (h F w φ hr hS).mono fun v w' ⟨d', σ', a, b, c, q1, q2⟩ => ⟨d2, σ', hw _ _ _ (q1 ▸ a), b, c, rfl, q2⟩

/-! ### The machine's operations that leave the store alone -/
def vbin (P : Program) (op : BinOp) (t : TypeId) (x y : DV) : Option DV :=
  match x, y with
  | .ptr k o, .ptr k' o' => if k = k' then match P.underlying t with
      | some (.pointer el) => match P.info? el with
        | some i => if i.size ≠ 0 then nilBin op (o == o') else none
        | none => none
      | _ => none
    else none
  | .agg a, .agg b => if P.eqGuardType P.depth t = false ∧ nbL a = true ∧ nbL b = true then match eqT P 6 t (.agg a) (.agg b) with
      | some r => nilBin op r
      | none => none
    else none
  | x, .nilsl => match slnil x with
    | some r => if (slk P t).isSome = true then nilBin op r else none
    | none => none
  | _, _ => none

def vcnv (P : Program) (h : Store) (s t : TypeId) (x : DV) : Option DV :=
  match x with
  | .s l => if (P.underlying s).isSome = true ∧ descOf P t = 5 then some (.s l) else none
  | .ptr k off => match h k with
    | some (.arr E sz elems c) => match P.underlying s, P.underlying t with
      | some (.pointer el), some .unsafePointer => match P.info? el with
        | some i => if i.size ≠ 0 ∧ off < c * sz then some (.ptr k off) else none
        | none => none
      | some .unsafePointer, some (.pointer el) => match P.info? el with
        | some i => if i.size ≠ 0 ∧ el = E ∧ off = 0 ∧ P.cellsOf E = sz ∧ sz ≠ 0 ∧ 1 ≤ c then some (.ptr k off) else none
        | none => none
      | _, _ => none
    | _ => none
  | .vw _ _ _ _ => match P.underlying s with
    | some (.slice e) => match P.underlying e, P.underlying t with
      | some (.int .u8), some .string => match bytesAt h x with
        | some l => some (.s l)
        | none => none
      | _, _ => none
    | _ => none
  | _ => none

def vsl (P : Program) (h : Store) (ε : Operand → DV) (t : TypeId) (x : Operand) (lo hi mx : Option Operand) : Option DV :=
  match mx with
  | none =>
    match ε x with
    | .vw b off n c => match slk P t, bndD ε lo 0, bndD ε hi n with
      | some s, some l, some k => if l ≤ k ∧ k ≤ c then (if l < c then some (.vw b (off + l * s) (k - l) (c - l)) else some (.sl [])) else none
      | _, _, _ => none
    | .nilsl => match slk P t, bndD ε lo 0, bndD ε hi 0 with
      | some _, some 0, some 0 => some .nilsl
      | _, _, _ => none
    | .ptr b off => match h b with
      | some (.cells _) => match alk P t with
        | some (n, s, _) => match bndD ε lo 0, bndD ε hi n with
          | some l, some k => if l ≤ k ∧ k ≤ n ∧ l < n then some (.vw b (off + l * s) (k - l) (n - l)) else none
          | _, _ => none
        | none => none
      | _ => none
    | .s _ => slD P ε t x lo hi none
    | .sl _ => slD P ε t x lo hi none
    | _ => none
  | some m => match hi with
    | some hi => match ε x with
      | .vw _ _ _ c => match slk P t, bndD ε lo 0, bndD ε (some hi) 0, bndD ε (some m) 0 with
        | some _, some l, some k, some m => if l ≤ k ∧ k ≤ m ∧ m ≤ c then some .any else none
        | _, _, _, _ => none
      | _ => none
    | none => none

def vbuild (P : Program) (t : TypeId) (parts : List (Nat × DV)) : Option DV :=
  match plc P t with
  | some _ => bldD P t parts
  | none => match alk P t, zeroC P t with
    | some (_, s, _), some z => match fillD (fun i => some (i * s, s)) z parts with
      | some ds => some (.agg ds)
      | none => none
    | _, _ => none

def vlook (P : Program) (h : Store) (t : TypeId) (m k : DV) (ok : Bool) : Option DV :=
  match mlk P t with
  | some (kt, et) => match mapD h m with
    | some kvs => if ckT P 6 kt k = true ∧ plainK k = true then lkpD P kt et ok k kvs else none
    | none => none
  | none => none

def vpure (P : Program) (h : Store) (ε : Operand → DV) : Op → Option DV
  | .move x => some (ε x)
  | .assign x => some (ε x)
  | .pick c a b => match ε c with
    | .b t => some (if t then ε a else ε b)
    | _ => none
  | .nilCheck x => nckD (ε x)
  | .build t parts => vbuild P t (parts.toList.map fun p => (p.1, ε p.2))
  | .load t x => loadV P h t (ε x)
  | .fieldAddr s x f => fldA P s f (ε x)
  | .indexAddr t x ix => idxA P t (ε x) (ε ix)
  | .field t x f => fldV P t f (ε x)
  | .index t x ix => idxV P t (ε x) (ε ix)
  | .binOp op t x y _ => match binD P op t (ε x) (ε y) with
    | some d => some d
    | none => vbin P op t (ε x) (ε y)
  | .unOp op _ x => unD op (ε x)
  | .convert s t x => match cnvD P s t (ε x) with
    | some d => some d
    | none => vcnv P h s t (ε x)
  | .makeFunc f a c => some (.fn f (a.toList.map ε) (c.toList.map ε))
  | .slice t x lo hi mx => vsl P h ε t x lo hi mx
  | .extract x k => extD k (ε x)
  | .makeInterface t x => if P.concrete t then some (.ifc t (ε x)) else none
  | .lookup t m k ok => vlook P h t (ε m) (ε k) ok
  | .call ⟨.builtin .len, ⟨[x]⟩, ⟨[t]⟩⟩ => match lenD P t (ε x) with
    | some d => some d
    | none => match mlk P t, mapD h (ε x) with
      | some _, some kvs => some (.i .i64 kvs.length)
      | _, _ => none
  | .call ⟨.builtin .cap, ⟨[x]⟩, ⟨[t]⟩⟩ => match ε x with
    | .nilsl => if (slk P t).isSome = true then some (.i .i64 0) else none
    | _ => none
  | .call ⟨.builtin .max, ⟨[x, y]⟩, _⟩ => max2D (ε x) (ε y)
  | .call ⟨.builtin .min, ⟨[x, y]⟩, _⟩ => min2D (ε x) (ε y)
  | .call ⟨.builtin .unsafeSliceData, ⟨[x]⟩, ⟨[t]⟩⟩ => match ε x with
    | .vw b off _ c => if c ≠ 0 then some (.ptr b off) else none
    | .nilsl => some .nilp
    | _ => none
  | _ => none

section
variable {θ : Nm} {C : Cx} {nx : Nat} {h σ : Store} {ε ε' : Operand → DV} {o : Oper}

theorem byteL_par : ∀ {l l' : List DV} {b}, SRL θ l l' → byteL l = some b → byteL l' = some b := by
  intro l
  induction l with
  | nil => intro l' b hl hb; cases hl.inv_nil; exact hb
  | cons d l ih =>
    intro l' b hl hb
    obtain ⟨d', m, rfl, h1, h2⟩ := hl.inv_cons
    cases d with
    | i k n =>
      cases h1.inv_i
      cases k <;> simp only [byteL] at hb ⊢ <;> try exact hb
      split at hb
      · rename_i hc
        rw [if_pos hc]
        simp only [Option.map_eq_some_iff] at hb ⊢
        obtain ⟨b', hb', rfl⟩ := hb
        exact ⟨b', ih h2 hb', rfl⟩
      · simp at hb
    | _ => simp [byteL] at hb

theorem SRLL.flatten : ∀ {l l' : List (List DV)}, SRLL θ l l' → SRL θ l.flatten l'.flatten := by
  intro l
  induction l with
  | nil => intro l' hl; have := hl.1; simp at this; rw [List.length_eq_zero_iff.1 this.symm]; exact .nil
  | cons a l ih =>
    intro l' hl
    cases l' with
    | nil => simp [SRLL] at hl
    | cons a' l' =>
      simp only [List.flatten_cons]
      exact (hl.2 0 a a' rfl rfl).append (ih ⟨by simpa using hl.1, fun j d d' h1 h2 => hl.2 (j + 1) d d' (by simpa using h1) (by simpa using h2)⟩)

theorem bytesAt_par (r : NRel θ nx h σ) {x x' : DV} {l} (hx : SR θ x x') (hb : bytesAt h x = some l) : bytesAt σ x' = some l := by
  unfold bytesAt at hb
  split at hb
  · cases hx.inv_nilsl; exact hb
  · rename_i b off n c
    obtain ⟨y, e, rfl, hy⟩ := hx.inv_vw
    split at hb
    · rename_i ds hs
      obtain ⟨y', e', o', h1, h2, h3⟩ := r.ob _ _ hs
      rw [hy] at h1; cases h1
      cases h3 with
      | cells _ ds' hl =>
        split at hb
        · rename_i hc
          simp only [bytesAt, h2]
          rw [if_pos (by rw [← hl.1]; exact hc)]
          exact byteL_par ((hl.drop off).take n) hb
        · simp at hb
    · rename_i E elems c' hs
      obtain ⟨y', e', o', h1, h2, h3⟩ := r.ob _ _ hs
      rw [hy] at h1; cases h1
      cases h3 with
      | arr _ _ _ el' _ _ hl =>
        split at hb
        · rename_i hc
          simp only [bytesAt, h2]
          rw [if_pos (by rw [← hl.1]; exact hc)]
          exact byteL_par ((hl.flatten.drop off).take n) hb
        · simp at hb
    · simp at hb
  · simp at hb

theorem slnil_par {x x' : DV} {r} (hx : SR θ x x') (h : slnil x = some r) : slnil x' = some r := by
  unfold slnil at h
  split at h
  · cases hx.inv_nilsl; exact h
  · obtain ⟨y, e, rfl, hy⟩ := hx.inv_vw; exact h
  · obtain ⟨rfl, _⟩ := hx.inv_sl; exact h
  · simp at h

theorem vbin_sound {op : BinOp} {t t' : TypeId} {x y : Operand} {d : DV} (ho : o.op = .binOp op t x y t') (hx : SR θ (ε x) (ε' x)) (hy : SR θ (ε y) (ε' y)) (hd : vbin C.P op t (ε x) (ε y) = some d) : ∃ d', SR θ d d' ∧ Yields C o ε' σ d' := by
  unfold vbin at hd
  split at hd
  · rename_i k o1 k' o2 hxd hyd
    rw [hxd] at hx; rw [hyd] at hy
    obtain ⟨z, e, hx', hz⟩ := hx.inv_ptr
    obtain ⟨z', e2, hy', hz'⟩ := hy.inv_ptr
    split at hd
    · rename_i hk
      subst hk
      rw [hz] at hz'; cases hz'
      split at hd
      · rename_i el hu
        split at hd
        · rename_i i hi
          split at hd
          · rename_i h0
            exact ⟨d, .imm _ (nb_nilBin hd), y_ptrEq ho hu hi h0 hx' hy' hd⟩
          · simp at hd
        · simp at hd
      · simp at hd
    · simp at hd
  · rename_i a b hxd hyd
    rw [hxd] at hx; rw [hyd] at hy
    split at hd
    · rename_i hc
      obtain ⟨hg, ha, hb⟩ := hc
      have hx' := hx.eq_of_nb (by simpa [nb] using ha)
      have hy' := hy.eq_of_nb (by simpa [nb] using hb)
      split at hd
      · rename_i r he
        exact ⟨d, .imm _ (nb_nilBin hd), y_eqAgg ho hg hx' hy' he hd⟩
      · simp at hd
    · simp at hd
  · rename_i hyd
    rw [hyd] at hy
    split at hd
    · rename_i r hr
      split at hd
      · rename_i hs
        exact ⟨d, .imm _ (nb_nilBin hd), y_slnil ho hs (slnil_par hx hr) hy.inv_nilsl hd⟩
      · simp at hd
    · simp at hd
  · simp at hd

theorem vcnv_sound (r : NRel θ nx h σ) {s t : TypeId} {x : Operand} {d : DV} (ho : o.op = .convert s t x) (hx : SR θ (ε x) (ε' x)) (hd : vcnv C.P h s t (ε x) = some d) : ∃ d', SR θ d d' ∧ Yields C o ε' σ d' := by
  unfold vcnv at hd
  split at hd
  · rename_i l hxd
    rw [hxd] at hx
    have hx' := hx.inv_s
    split at hd
    · rename_i hc
      simp at hd; subst hd
      exact ⟨_, .imm _ rfl, y_convStr ho hx' hc.1 (underlying_of_desc.2.2.2.2 hc.2) rfl⟩
    · simp at hd
  · rename_i k off hxd
    rw [hxd] at hx
    obtain ⟨z, e, hx', hz⟩ := hx.inv_ptr
    split at hd
    · rename_i E sz elems c hk
      obtain ⟨y', e', o', h1, h2, h3⟩ := r.ob _ _ hk
      rw [hz] at h1; cases h1
      cases h3 with
      | arr _ _ _ el' _ _ hl =>
        split at hd
        · rename_i el hs ht
          split at hd
          · rename_i i hi
            split at hd
            · rename_i hc
              simp at hd; subst hd
              refine ⟨_, .ptr _ _ _ _ hz, y_convUn ho hx' hs ht hi hc.1 h2 ?_ rfl⟩
              rw [Nat.add_mul]; omega
            · simp at hd
          · simp at hd
        · rename_i el hs ht
          split at hd
          · rename_i i hi
            split at hd
            · rename_i hc
              obtain ⟨c1, rfl, rfl, c4, c5, c6⟩ := hc
              simp at hd; subst hd
              refine ⟨_, .ptr _ _ _ _ hz, y_convRe ho hx' hs ht hi c1 h2 ?_ rfl⟩
              rw [c4, Nat.mul_div_cancel _ (by omega)]
              exact liesAt_self (by omega) _ (by omega)
            · simp at hd
          · simp at hd
        · simp at hd
    · simp at hd
  · rename_i b off n c hxd
    split at hd
    · rename_i el hs
      split at hd
      · rename_i he ht
        split at hd
        · rename_i l hl
          simp at hd; subst hd
          exact ⟨_, .imm _ rfl, y_bytesStr ho hs he ht (bytesAt_par r hx hl) rfl⟩
        · simp at hd
      · simp at hd
    · simp at hd
  · simp at hd

theorem bndD_opl {x : Option Operand} {dflt n : Nat} (hx : ∀ y, x = some y → SR θ (ε y) (ε' y)) (hb : bndD ε x dflt = some n) : bndD ε' x dflt = some n := bndD_par hx hb

theorem vsl_sound (r : NRel θ nx h σ) {t : TypeId} {x : Operand} {lo hi mx : Option Operand} {d : DV} (ho : o.op = .slice t x lo hi mx) (hε : ∀ y ∈ o.op.operands, SR θ (ε y) (ε' y)) (hd : vsl C.P h ε t x lo hi mx = some d) : ∃ d', SR θ d d' ∧ Yields C o ε' σ d' := by
  obtain ⟨m1, m2, m3, m4⟩ := mem_slice ho
  have hx := hε x m1
  have hlo : ∀ y, lo = some y → SR θ (ε y) (ε' y) := fun y hy => hε y (m2 y hy)
  have hhi : ∀ y, hi = some y → SR θ (ε y) (ε' y) := fun y hy => hε y (m3 y hy)
  have hmx : ∀ y, mx = some y → SR θ (ε y) (ε' y) := fun y hy => hε y (m4 y hy)
  unfold vsl at hd
  split at hd
  · split at hd
    · rename_i b off n c hxd
      rw [hxd] at hx
      obtain ⟨z, e, hx', hz⟩ := hx.inv_vw
      split at hd
      · rename_i s l k hs h1 h2
        split at hd
        · rename_i hc
          have hy := y_slice_vw (C := C) (σ := σ) ho hx' hs (bndD_par hlo h1) (bndD_par hhi h2) hc.1 (show k ≤ c + e by omega) rfl
          split at hd
          · rename_i hlc
            simp at hd; subst hd
            rw [if_neg (by omega), show c + e - l = (c - l) + e by omega] at hy
            exact ⟨_, .vw _ _ _ _ _ _ hz, hy⟩
          · rename_i hlc
            simp at hd; subst hd
            refine ⟨.sl [], .imm _ rfl, hy.weak fun I w v hv => ?_⟩
            have : k - l = 0 := by omega
            rw [this] at hv
            cases hv
            exact .sl0 _ _
        · simp at hd
      · simp at hd
    · rename_i hxd
      rw [hxd] at hx
      split at hd
      · rename_i s hs h1 h2
        simp at hd; subst hd
        exact ⟨_, .imm _ rfl, y_slice_nil ho hx.inv_nilsl hs (bndD_par hlo h1) (bndD_par hhi h2) rfl⟩
      · simp at hd
    · rename_i b off hxd
      rw [hxd] at hx
      obtain ⟨z, e, hx', hz⟩ := hx.inv_ptr
      split at hd
      · rename_i ds hb
        obtain ⟨y', e', o', g1, g2, g3⟩ := r.ob _ _ hb
        rw [hz] at g1; cases g1
        cases g3 with
        | cells _ ds' hl =>
          split at hd
          · rename_i n s g ha
            split at hd
            · rename_i l k h1 h2
              split at hd
              · rename_i hc
                simp at hd; subst hd
                have hy := y_slice_arr (C := C) (σ := σ) ho hx' ha (bndD_par hlo h1) (bndD_par hhi h2) hc.1 hc.2.1 rfl
                rw [if_neg (by omega)] at hy
                exact ⟨_, by simpa using SR.vw (θ := θ) b (off + l * s) (k - l) (n - l) _ _ hz, hy⟩
              · simp at hd
            · simp at hd
          · simp at hd
      · simp at hd
    · rename_i l hxd
      have hx2 := hx
      rw [hxd] at hx2
      have hx' := hx2.inv_s
      have hsd : slD C.P ε' t x lo hi none = some d ∧ nb d = true := by
        simp only [slD, hxd, hx'] at hd ⊢
        split at hd
        · rename_i hu
          split at hd
          · rename_i l1 k1 h1 h2
            rw [bndD_par hlo h1, bndD_par hhi h2]
            simp only
            split at hd
            · rename_i hc; simp at hd; subst hd; simp [hc, hu, nb]
            · simp at hd
          · simp at hd
        · simp at hd
      exact ⟨d, .imm _ hsd.2, aev_sound ho (by rw [aev]; exact hsd.1)⟩
    · rename_i es hxd
      have hx2 := hx
      rw [hxd] at hx2
      obtain ⟨hx', hnb⟩ := hx2.inv_sl
      have hsd : slD C.P ε' t x lo hi none = some d ∧ nb d = true := by
        simp only [slD, hxd, hx'] at hd ⊢
        split at hd
        · rename_i s hs
          split at hd
          · rename_i l1 k1 h1 h2
            rw [bndD_par hlo h1, bndD_par hhi h2]
            simp only
            split at hd
            · rename_i hc
              simp at hd; subst hd
              refine ⟨by rw [if_pos hc], ?_⟩
              simp only [nb]
              refine nbLL_iff.2 fun j e he => ?_
              have := takeDrop_get he
              exact nbLL_iff.1 hnb _ _ this.2
            · simp at hd
          · simp at hd
        · simp at hd
      exact ⟨d, .imm _ hsd.2, aev_sound ho (by rw [aev]; exact hsd.1)⟩
    · simp at hd
  · rename_i m
    split at hd
    · rename_i hiv
      split at hd
      · rename_i b off n c hxd
        rw [hxd] at hx
        obtain ⟨z, e, hx', hz⟩ := hx.inv_vw
        split at hd
        · rename_i s l k mm hs h1 h2 h3
          split at hd
          · rename_i hc
            simp at hd; subst hd
            exact ⟨.any, .any _, y_slice3 ho hx' hs (bndD_par hlo h1) (bndD_par hhi h2) (bndD_par hmx h3) hc.1 hc.2.1 (by omega) rfl⟩
          · simp at hd
        · simp at hd
      · simp at hd
    · simp at hd
end
end Go.Arb
end

section
namespace Go.Arb
set_option linter.unusedVariables false
set_option linter.unusedSimpArgs false
open Go Go.Lib

section
variable {θ : Nm} {C : Cx} {nx : Nat} {h σ : Store} {ε ε' : Operand → DV} {o : Oper}

theorem vbuild_sound {t : TypeId} {parts : Array (Nat × Operand)} {d : DV} (ho : o.op = .build t parts) (he : ∀ p ∈ parts.toList, SR θ (ε p.2) (ε' p.2)) (hd : vbuild C.P t (parts.toList.map fun p => (p.1, ε p.2)) = some d) : ∃ d', SR θ d d' ∧ Yields C o ε' σ d' := by
  unfold vbuild at hd
  split at hd
  · obtain ⟨d', h1, h2⟩ := bldD_par he hd
    exact ⟨d', h2, aev_sound ho (by rw [aev]; exact h1)⟩
  · split at hd
    · rename_i n s g z ha hz
      split at hd
      · rename_i ds hf
        simp at hd; subst hd
        obtain ⟨ds', h1, h2⟩ := fillD_par _ _ _ _ _ parts_fst (parts_SRL he) (SRL_zeroC hz) hf
        exact ⟨_, .mk_agg h2, y_buildArr ho ha hz h1 rfl⟩
      · simp at hd
    · simp at hd

theorem vlook_sound (r : NRel θ nx h σ) {t : TypeId} {m k : Operand} {ok : Bool} {d : DV} (ho : o.op = .lookup t m k ok) (hm : SR θ (ε m) (ε' m)) (hk : SR θ (ε k) (ε' k)) (hd : vlook C.P h t (ε m) (ε k) ok = some d) : ∃ d', SR θ d d' ∧ Yields C o ε' σ d' := by
  unfold vlook at hd
  split at hd
  · rename_i kt et ht
    split at hd
    · rename_i kvs hkv
      split at hd
      · rename_i hc
        obtain ⟨kvs', h1, h2⟩ := mapD_par r hm hkv
        obtain ⟨d', h3, h4⟩ := lkpD_par h2 hd
        have hke := eq_of_plainK hc.2 hk
        exact ⟨d', h4, y_lookup ho ht h1 (by rw [hke]; exact hc.1) (by rw [hke]; exact h3)⟩
      · simp at hd
    · simp at hd
  · simp at hd

theorem vpure_sound (r : NRel θ nx h σ) (hε : ∀ y ∈ o.op.operands, SR θ (ε y) (ε' y)) {d : DV} (hd : vpure C.P h ε o.op = some d) : ∃ d', SR θ d d' ∧ Yields C o ε' σ d' := by
  generalize ho : o.op = op at hd hε
  unfold vpure at hd
  split at hd
  · simp at hd; subst hd; exact ⟨_, hε _ (by simp [Op.operands]), y_move (.inl ho) rfl⟩
  · simp at hd; subst hd; exact ⟨_, hε _ (by simp [Op.operands]), y_move (.inr ho) rfl⟩
  · rename_i c a b
    split at hd
    · rename_i t hc
      simp at hd; subst hd
      have h1 := hε c (by simp [Op.operands])
      rw [hc] at h1
      refine ⟨if t then ε' a else ε' b, ?_, y_pick ho h1.inv_b rfl⟩
      cases t
      · exact hε b (by simp [Op.operands])
      · exact hε a (by simp [Op.operands])
    · simp at hd
  · obtain ⟨d', h1, h2⟩ := nckD_par (hε _ (by simp [Op.operands])) hd
    exact ⟨d', h2, aev_sound ho (by rw [aev]; exact h1)⟩
  · rename_i t parts
    exact vbuild_sound ho (fun p hp => hε _ (by simp [Op.operands]; exact ⟨p.1, by simpa using hp⟩)) hd
  · obtain ⟨d', h1, h2⟩ := loadV_par r (hε _ (by simp [Op.operands])) hd
    exact ⟨d', h2, aev_sound ho (by rw [aev]; exact h1)⟩
  · obtain ⟨d', h1, h2⟩ := fldA_par (hε _ (by simp [Op.operands])) hd
    exact ⟨d', h2, aev_sound ho (by rw [aev]; exact h1)⟩
  · obtain ⟨d', h1, h2⟩ := idxA_par (hε _ (by simp [Op.operands])) (hε _ (by simp [Op.operands])) hd
    exact ⟨d', h2, aev_sound ho (by rw [aev]; exact h1)⟩
  · obtain ⟨d', h1, h2⟩ := fldV_par (hε _ (by simp [Op.operands])) hd
    exact ⟨d', h2, aev_sound ho (by rw [aev]; exact h1)⟩
  · obtain ⟨d', h1, h2⟩ := idxV_par (hε _ (by simp [Op.operands])) (hε _ (by simp [Op.operands])) hd
    exact ⟨d', h2, aev_sound ho (by rw [aev]; exact h1)⟩
  · split at hd
    · rename_i d1 hb
      simp at hd; subst hd
      obtain ⟨h1, h2⟩ := binD_par (hε _ (by simp [Op.operands])) (hε _ (by simp [Op.operands])) hb
      exact ⟨_, .imm _ h2, aev_sound ho (by rw [aev]; exact h1)⟩
    · exact vbin_sound ho (hε _ (by simp [Op.operands])) (hε _ (by simp [Op.operands])) hd
  · obtain ⟨h1, h2⟩ := unD_par (hε _ (by simp [Op.operands])) hd
    exact ⟨_, .imm _ h2, aev_sound ho (by rw [aev]; exact h1)⟩
  · split at hd
    · rename_i d1 hb
      simp at hd; subst hd
      obtain ⟨h1, h2⟩ := cnvD_par (hε _ (by simp [Op.operands])) hb
      exact ⟨_, .imm _ h2, aev_sound ho (by rw [aev]; exact h1)⟩
    · exact vcnv_sound r ho (hε _ (by simp [Op.operands])) hd
  · rename_i f a c
    simp at hd; subst hd
    exact ⟨_, .mk_fn (SRL.map _ fun x hx => hε x (by simp [Op.operands]; exact .inl (by simpa using hx))) (SRL.map _ fun x hx => hε x (by simp [Op.operands]; exact .inr (by simpa using hx))), y_makeFunc ho rfl⟩
  · exact vsl_sound r ho (by rw [ho]; exact hε) hd
  · obtain ⟨d', h1, h2⟩ := extD_par (hε _ (by simp [Op.operands])) hd
    exact ⟨d', h2, aev_sound ho (by rw [aev]; exact h1)⟩
  · split at hd
    · rename_i hc
      simp at hd; subst hd
      exact ⟨_, .ifc _ _ _ (hε _ (by simp [Op.operands])), y_makeInterface ho hc rfl⟩
    · simp at hd
  · exact vlook_sound r ho (hε _ (by simp [Op.operands])) (hε _ (by simp [Op.operands])) hd
  · rename_i x t
    have hx := hε x (by simp [Op.operands, Call.operands])
    split at hd
    · rename_i d1 hb
      simp at hd; subst hd
      obtain ⟨h1, h2⟩ := lenD_par hx hb
      exact ⟨_, .imm _ h2, aev_sound ho (by rw [aev]; exact h1)⟩
    · split at hd
      · rename_i kt kvs ht hkv
        simp at hd; subst hd
        obtain ⟨kvs', h1, h2⟩ := mapD_par r hx hkv
        exact ⟨_, .imm _ rfl, y_lenMap ho (kt := kt.1) (et := kt.2) ht h1 (by rw [h2.1])⟩
      · simp at hd
  · rename_i x t
    have hx := hε x (by simp [Op.operands, Call.operands])
    split at hd
    · rename_i hxd
      rw [hxd] at hx
      split at hd
      · rename_i hs
        simp at hd; subst hd
        exact ⟨_, .imm _ rfl, y_cap ho hs (.inr ⟨hx.inv_nilsl, rfl⟩)⟩
      · simp at hd
    · simp at hd
  · rename_i x y tys
    have hx := hε x (by simp [Op.operands, Call.operands])
    have hy := hε y (by simp [Op.operands, Call.operands])
    unfold max2D at hd
    split at hd
    · rename_i h1 h2
      rw [h1] at hx; rw [h2] at hy
      simp only [Option.some.injEq] at hd; subst hd
      exact ⟨_, .imm _ rfl, y_max ho hx.inv_i hy.inv_i rfl⟩
    · simp at hd
  · rename_i x y tys
    have hx := hε x (by simp [Op.operands, Call.operands])
    have hy := hε y (by simp [Op.operands, Call.operands])
    unfold min2D at hd
    split at hd
    · rename_i h1 h2
      rw [h1] at hx; rw [h2] at hy
      simp only [Option.some.injEq] at hd; subst hd
      exact ⟨_, .imm _ rfl, y_min ho hx.inv_i hy.inv_i rfl⟩
    · simp at hd
  · rename_i x t
    have hx := hε x (by simp [Op.operands, Call.operands])
    split at hd
    · rename_i b off n c hxd
      rw [hxd] at hx
      obtain ⟨z, e, hx', hz⟩ := hx.inv_vw
      split at hd
      · rename_i hc
        simp at hd; subst hd
        exact ⟨_, .ptr _ _ _ _ hz, y_sliceData ho hx' (by omega) rfl⟩
      · simp at hd
    · rename_i hxd
      rw [hxd] at hx
      simp at hd; subst hd
      exact ⟨_, .imm _ rfl, y_sliceDataNil ho hx.inv_nilsl rfl⟩
    · simp at hd
  · simp at hd

/-- What names stood for below nx they stand for. -/
def ExtN (nx : Nat) (θ θ' : Nm) : Prop := ∀ k, k < nx → θ' k = θ k
theorem ExtN.refl {nx : Nat} (θ : Nm) : ExtN nx θ θ := fun _ _ => rfl
theorem nput_extN {nx : Nat} {θ : Nm} {p : Nat × Nat} : ExtN nx θ (nput θ nx p) := fun k hk => by unfold nput; rw [if_neg (by omega)]
theorem ExtN.ext {nx : Nat} {θ θ' : Nm} {h σ : Store} (e : ExtN nx θ θ') (r : NRel θ nx h σ) : Ext θ θ' := fun k p hk => (e k (r.dom k p hk)).trans hk
theorem ExtN.trans {nx nx' : Nat} {a b c : Nm} (h : ExtN nx a b) (k : ExtN nx' b c) (hn : nx ≤ nx') : ExtN nx a c := fun j hj => (k j (by omega)).trans (h j hj)

/-! ### Operations that turn the store -/
/-- By names: what an operation leaves. -/
def NOp (C : Cx) (o : Oper) (ε : Operand → DV) (nx : Nat) (h : Store) (d : DV) (nx' : Nat) (h' : Store) : Prop :=
  ∀ θ σ ε', NRel θ nx h σ → (∀ y ∈ o.op.operands, SR θ (ε y) (ε' y)) → AOp C o ε' σ fun d' σ' => ∃ θ', ExtN nx θ θ' ∧ SR θ' d d' ∧ NRel θ' nx' h' σ'

theorem NOp_pure {d : DV} (hd : vpure C.P h ε o.op = some d) : NOp C o ε nx h d nx h := fun θ σ ε' r hε => by
  obtain ⟨d', h1, h2⟩ := vpure_sound r hε hd
  exact h2.op ⟨θ, .refl _, h1, r⟩

theorem SR.tup0 : SR θ (.tup []) (.tup []) := .imm _ rfl

theorem NOp_alloc {t : TypeId} {zs : List DV} (ho : o.op = .alloc t) (hz : zeroC C.P t = some zs) : NOp C o ε nx h (.ptr nx 0) (nx + 1) (sset h nx (.cells zs)) := fun θ σ ε' r hε =>
  AOp_alloc ho hz fun b hb => ⟨_, nput_extN, .ptr _ _ _ _ nput_same, r.new hb (.cells _ _ (SRL_zeroC hz))⟩

theorem SRLL.one {ds ds'} (h : SRL θ ds ds') : SRLL θ [ds] [ds'] := .cons h .nil

theorem NOp_allocT {t : TypeId} {zs : List DV} (ho : o.op = .alloc t) (hz : zeroC C.P t = some zs) : NOp C o ε nx h (.ptr nx 0) (nx + 1) (sset h nx (.arr t zs.length [zs] 1)) := fun θ σ ε' r hε =>
  AOp_allocT ho hz rfl fun b hb => ⟨_, nput_extN, .ptr _ _ _ _ nput_same, r.new hb (.arr _ _ _ _ 1 0 (.one (SRL_zeroC hz)))⟩

theorem NOp_box {t : TypeId} {x : Operand} {cs : List DV} (ho : o.op = .box t x) (hc : dcells (ε x) = some cs) : NOp C o ε nx h (.ptr nx 0) (nx + 1) (sset h nx (.cells cs)) := fun θ σ ε' r hε => by
  obtain ⟨cs', h1, h2⟩ := dcells_par (hε x (by simp [ho, Op.operands])) hc
  exact AOp_box ho h1 fun b hb => ⟨_, nput_extN, .ptr _ _ _ _ nput_same, r.new hb (.cells _ _ h2)⟩

theorem NOp_boxT {t : TypeId} {x : Operand} {cs : List DV} (ho : o.op = .box t x) (hc : dcells (ε x) = some cs) : NOp C o ε nx h (.ptr nx 0) (nx + 1) (sset h nx (.arr t cs.length [cs] 1)) := fun θ σ ε' r hε => by
  obtain ⟨cs', h1, h2⟩ := dcells_par (hε x (by simp [ho, Op.operands])) hc
  exact AOp_boxT ho h1 h2.1.symm fun b hb => ⟨_, nput_extN, .ptr _ _ _ _ nput_same, r.new hb (.arr _ _ _ _ 1 0 (.one h2))⟩

/-- A variable that nobody writes. -/
theorem NOp_boxD {t : TypeId} {x : Operand} {cs : List DV} (ho : o.op = .box t x) (hc : dcells (ε x) = some cs) (hn : nbL cs = true) : NOp C o ε nx h (.dp cs 0) nx h := fun θ σ ε' r hε => by
  obtain ⟨cs', h1, h2⟩ := dcells_par (hε x (by simp [ho, Op.operands])) hc
  have := h2.eq_of_nb hn
  subst this
  exact (y_box ho h1 rfl).op ⟨θ, .refl _, .imm _ (by simpa [nb] using hn), r⟩

theorem mapM_par {l : List (Nat × Operand)} (he : ∀ p ∈ l, SR θ (ε p.2) (ε' p.2)) : ∀ {elems}, (l.map fun p => (p.1, ε p.2)).mapM (fun p => dcells p.2) = some elems →
    ∃ elems', (l.map fun p => (p.1, ε' p.2)).mapM (fun p => dcells p.2) = some elems' ∧ SRLL θ elems elems' := by
  induction l with
  | nil => intro elems h; simp at h; subst h; exact ⟨[], by simp, .nil⟩
  | cons p l ih =>
    intro elems h
    simp only [List.map_cons, List.mapM_cons, Option.bind_eq_bind, Option.bind_eq_some_iff] at h
    obtain ⟨cs, h1, es, h2, h3⟩ := h
    simp at h3; subst h3
    obtain ⟨cs', g1, g2⟩ := dcells_par (he p (by simp)) h1
    obtain ⟨es', g3, g4⟩ := ih (fun q hq => he q (by simp [hq])) h2
    exact ⟨cs' :: es', by simp only [List.map_cons, List.mapM_cons, Option.bind_eq_bind, g1, g3, Option.bind_some]; rfl, .cons g2 g4⟩

theorem NOp_buildSlice {t : TypeId} {n : Nat} {parts : Array (Nat × Operand)} {s bytes : Nat} {E : TypeId} {elems : List (List DV)} (ho : o.op = .buildSlice t n parts) (hk : apk C.P t = some (E, s, bytes)) (hidx : parts.toList.map (·.1) = List.range' 0 n)
    (hel : (parts.toList.map fun p => (p.1, ε p.2)).mapM (fun p => dcells p.2) = some elems) (hz : ∀ es ∈ elems, es.length = s) (hbd : n * s ≤ 2 ^ 24) : NOp C o ε nx h (.vw nx 0 n n) (nx + 1) (sset h nx (.arr E s elems n)) := fun θ σ ε' r hε => by
  obtain ⟨el', h1, h2⟩ := mapM_par (fun p hp => hε p.2 (by simp [ho, Op.operands]; exact ⟨p.1, by simpa using hp⟩)) hel
  exact AOp_buildSlice ho hk hidx h1 (h2.lens hz) hbd fun b hb => ⟨_, nput_extN, by simpa using SR.vw (θ := nput θ nx (b, 0)) nx 0 n n b 0 nput_same, r.new hb (by simpa using OR.arr (θ := θ) E s elems el' n 0 h2)⟩

theorem NOp_buildSliceD {t : TypeId} {n : Nat} {parts : Array (Nat × Operand)} {d : DV} (ho : o.op = .buildSlice t n parts) (hd : bsD C.P t n (parts.toList.map fun p => (p.1, ε p.2)) = some d) (hn : nb d = true) : NOp C o ε nx h d nx h := fun θ σ ε' r hε => by
  have hs : bsD C.P t n (parts.toList.map fun p => (p.1, ε' p.2)) = some d := by
    unfold bsD at hd ⊢
    split at hd
    · rename_i E s bt hk
      split at hd
      · rename_i hc
        rw [if_pos (by simpa [Function.comp_def] using hc)]
        split at hd
        · rename_i elems hel
          obtain ⟨el', h1, h2⟩ := mapM_par (θ := θ) (fun p hp => hε p.2 (by simp [ho, Op.operands]; exact ⟨p.1, by simpa using hp⟩)) hel
          rw [h1]
          simp only
          split at hd
          · simp at hd; subst hd
            have hnl : nbLL elems = true := by simpa [nb] using hn
            have he : el' = elems := List.ext_getElem h2.1.symm fun j g1 g2 => (h2.2 j elems[j] el'[j] (by simp) (by simp)).eq_of_nb (nbLL_iff.1 hnl j _ (by simp))
            subst he
            rename_i hall
            rw [if_pos hall]
          · simp at hd
        · simp at hd
      · simp at hd
    · simp at hd
  exact (aev_sound ho (by rw [aev]; exact hs)).op ⟨θ, .refl _, .imm _ hn, r⟩

theorem NOp_makeMap {t : TypeId} (ho : o.op = .makeMap t none) : NOp C o ε nx h (.mp nx) (nx + 1) (sset h nx (.map [])) := fun θ σ ε' r hε =>
  AOp_makeMap ho fun b hb => ⟨_, nput_extN, .mp _ _ _ nput_same, r.new hb (.map _ _ rfl fun j p p' h => by simp at h)⟩

theorem SRLL.rep {zs} (h : SRL θ zs zs) (n : Nat) : SRLL θ (List.replicate n zs) (List.replicate n zs) :=
  ⟨rfl, fun j d d' h1 h2 => by
    rw [List.getElem?_replicate] at h1 h2
    split at h1
    · rename_i hj; rw [if_pos hj] at h2; cases h1; cases h2; exact h
    · simp at h1⟩

theorem NOp_makeSlice {t : TypeId} {x y : Operand} {E : TypeId} {sz bytes l c : Nat} {kl kc : IntKind} {zs : List DV} (ho : o.op = .makeSlice t x y) (hk : apk C.P t = some (E, sz, bytes)) (hz : zeroC C.P E = some zs) (hx : ε x = .i kl l) (hy : ε y = .i kc c)
    (hlc : l ≤ c) (hb : bytes * c ≤ 281474976710656) (hc : c ≤ 4611686018427387904) : NOp C o ε nx h (.vw nx 0 l c) (nx + 1) (sset h nx (.arr E sz (List.replicate l zs) c)) := fun θ σ ε' r hε => by
  have h1 := hε x (by simp [ho, Op.operands])
  have h2 := hε y (by simp [ho, Op.operands])
  rw [hx] at h1; rw [hy] at h2
  exact AOp_makeSlice ho hk hz h1.inv_i h2.inv_i hlc hb hc fun b hb => ⟨_, nput_extN, by simpa using SR.vw (θ := nput θ nx (b, 0)) nx 0 l c b 0 nput_same, r.new hb (by simpa using OR.arr (θ := θ) E sz _ _ c 0 (.rep (SRL_zeroC hz) l))⟩

theorem one_par {d d' : DV} (h : SR θ d d') (ho : one d = true) : one d' = true := by
  cases h with
  | imm _ h => exact ho
  | any _ => simp [one] at ho
  | agg => simp [one] at ho
  | tup => simp [one] at ho
  | _ => rfl

theorem allOne_par {l l' : List DV} (h : SRL θ l l') (ho : l.all one = true) : l'.all one = true := by
  rw [List.all_eq_true] at ho ⊢
  intro x hx
  obtain ⟨j, hj, rfl⟩ := List.getElem_of_mem hx
  have hj' : j < l.length := by rw [h.1]; exact hj
  exact one_par (h.2 j l[j] l'[j] (by simp) (by simp)) (ho _ (List.getElem_mem _))

theorem NOp_store {t : TypeId} {a x : Operand} {b q : Nat} {ds cs : List DV} {g : Bool} (ho : o.op = .store t a x) (ha : ε a = .ptr b q) (hs : h b = some (.cells ds)) (hc : dcells (ε x) = some cs) (h1 : cs.all one = true) (hl : lk C.P t = some (g, cs.length)) (hfit : q + cs.length ≤ ds.length) :
    NOp C o ε nx h (.tup []) nx (sset h b (.cells (setAt ds q cs))) := fun θ σ ε' r hε => by
  have ha1 := hε a (by simp [ho, Op.operands])
  rw [ha] at ha1
  obtain ⟨z, e, ha', hz⟩ := ha1.inv_ptr
  obtain ⟨cs', g1, g2⟩ := dcells_par (hε x (by simp [ho, Op.operands])) hc
  obtain ⟨y', e', o', k1, k2, k3⟩ := r.ob _ _ hs
  rw [hz] at k1; cases k1
  cases k3 with
  | cells _ ds' hds =>
    exact AOp_store ho ha' k2 g1 (allOne_par g2 h1) (by rw [← g2.1]; exact hl) (by rw [← g2.1, ← hds.1]; exact hfit) ⟨θ, .refl _, .tup0, r.write hs hz (.cells _ _ (hds.setAt g2 q))⟩

theorem NOp_storeA {t : TypeId} {a x : Operand} {b i off sz c : Nat} {E : TypeId} {elems : List (List DV)} {es cs : List DV} {g : Bool} (ho : o.op = .store t a x) (ha : ε a = .ptr b (i * sz + off)) (hs : h b = some (.arr E sz elems c)) (he : elems[i]? = some es)
    (hc : dcells (ε x) = some cs) (h1 : cs.all one = true) (hl : lk C.P t = some (g, cs.length)) (hfit : off + cs.length ≤ sz) : NOp C o ε nx h (.tup []) nx (sset h b (.arr E sz (elems.set i (setAt es off cs)) c)) := fun θ σ ε' r hε => by
  have ha1 := hε a (by simp [ho, Op.operands])
  rw [ha] at ha1
  obtain ⟨z, e, ha', hz⟩ := ha1.inv_ptr
  obtain ⟨cs', g1, g2⟩ := dcells_par (hε x (by simp [ho, Op.operands])) hc
  obtain ⟨y', e', o', k1, k2, k3⟩ := r.ob _ _ hs
  rw [hz] at k1; cases k1
  cases k3 with
  | arr _ _ _ el' _ _ hel =>
    obtain ⟨es', k4, k5⟩ := hel.get he
    exact AOp_storeA ho ha' k2 k4 g1 (allOne_par g2 h1) (by rw [← g2.1]; exact hl) (by rw [← g2.1]; exact hfit) ⟨θ, .refl _, .tup0, r.write hs hz (.arr _ _ _ _ _ _ (hel.set (k5.setAt g2 off) i))⟩
end
end Go.Arb
end

section
namespace Go.Arb
set_option linter.unusedVariables false
set_option linter.unusedSimpArgs false
open Go Go.Lib

section
variable {θ : Nm} {C : Cx} {nx : Nat} {h σ : Store} {ε ε' : Operand → DV} {o : Oper}

theorem srcD_par (r : NRel θ nx h σ) {x x' : DV} {es} (hx : SR θ x x') (hs : srcD h x = some es) : ∃ es', srcD σ x' = some es' ∧ SRLL θ es es' := by
  unfold srcD at hs
  split at hs
  · obtain ⟨rfl, hk⟩ := hx.inv_sl; simp at hs; subst hs; exact ⟨_, rfl, SRLL_refl hk⟩
  · cases hx.inv_nilsl; simp at hs; subst hs; exact ⟨_, rfl, .nil⟩
  · rename_i b off n c
    obtain ⟨y, e, rfl, hy⟩ := hx.inv_vw
    split at hs
    · rename_i E sz elems c' hb
      obtain ⟨y', e', o', h1, h2, h3⟩ := r.ob _ _ hb
      rw [hy] at h1; cases h1
      cases h3 with
      | arr _ _ _ el' _ _ hl =>
        split at hs
        · rename_i hc
          simp at hs; subst hs
          simp only [srcD, h2]
          exact ⟨_, by rw [if_pos (by rw [← hl.1]; exact hc)], (hl.drop _).take n⟩
        · simp at hs
    · simp at hs
  · simp at hs

theorem allAll_par {l l' : List (List DV)} (h : SRLL θ l l') (ho : ∀ e ∈ l, e.all one = true) : ∀ e ∈ l', e.all one = true := by
  intro e he
  obtain ⟨j, hj, rfl⟩ := List.getElem_of_mem he
  have hj' : j < l.length := by rw [h.1]; exact hj
  exact allOne_par (h.2 j l[j] l'[j] (by simp) (by simp)) (ho _ (List.getElem_mem _))

theorem SRLL.ne {l l' : List (List DV)} (h : SRLL θ l l') (hn : l ≠ []) : l' ≠ [] := by
  intro e; subst e
  have := h.1; simp at this; exact hn this

theorem new_vw {b c n E sz : Nat} {es es' : List (List DV)} (r : NRel θ nx h σ) (hb : σ b = none) (hl : SRLL θ es es') (hn : n ≤ c) :
    ∃ θ', ExtN nx θ θ' ∧ SR θ' (.vw nx 0 n n) (.vw b 0 n c) ∧ NRel θ' (nx + 1) (sset h nx (.arr E sz es n)) (sset σ b (.arr E sz es' c)) := by
  refine ⟨nput θ nx (b, c - n), nput_extN, ?_, r.new hb ?_⟩
  · have := SR.vw (θ := nput θ nx (b, c - n)) nx 0 n n b (c - n) nput_same
    rwa [show n + (c - n) = c by omega] at this
  · have := OR.arr (θ := θ) E sz es es' n (c - n) hl
    rwa [show n + (c - n) = c by omega] at this

theorem NOp_append_nil {t : TypeId} {s x : Operand} {E : TypeId} {sz bytes : Nat} {es : List (List DV)} (ho : o.op = .call ⟨.builtin .append, #[s, x], #[t, t]⟩) (hs : ε s = .nilsl) (hx : srcD h (ε x) = some es) (hk : apk C.P t = some (E, sz, bytes))
    (hz : ∀ e ∈ es, e.length = sz) (h1 : ∀ e ∈ es, e.all one = true) (hne : es ≠ []) (hbd : es.length * bytes ≤ 140737488355328) (hbd' : es.length ≤ 4611686018427387904) :
    NOp C o ε nx h (.vw nx 0 es.length es.length) (nx + 1) (sset h nx (.arr E sz es es.length)) := fun θ σ ε' r hε => by
  have hs1 := hε s (by simp [ho, Op.operands, Call.operands])
  rw [hs] at hs1
  obtain ⟨es', g1, g2⟩ := srcD_par r (hε x (by simp [ho, Op.operands, Call.operands])) hx
  refine AOp_append_nil ho hs1.inv_nilsl g1 hk (g2.lens hz) (allAll_par g2 h1) (g2.ne hne) (by rw [← g2.1]; exact hbd) (by rw [← g2.1]; exact hbd') fun b c hb hc => ?_
  rw [← g2.1] at hc ⊢
  exact new_vw r hb g2 hc

theorem NOp_append_zero {t : TypeId} {s x : Operand} {sz : Nat} (ho : o.op = .call ⟨.builtin .append, #[s, x], #[t, t]⟩) (hs : (match ε s with | .nilsl | .vw _ _ _ _ => true | _ => false) = true) (hx : srcD h (ε x) = some []) (hk : slk C.P t = some sz)
    (hc : ∀ b q n c, ε s = .vw b q n c → n ≤ c ∧ ∃ E s' elems c', h b = some (.arr E s' elems c')) : NOp C o ε nx h (ε s) nx h := fun θ σ ε' r hε => by
  have hs1 := hε s (by simp [ho, Op.operands, Call.operands])
  obtain ⟨es', g1, g2⟩ := srcD_par r (hε x (by simp [ho, Op.operands, Call.operands])) hx
  have : es' = [] := by have := g2.1; simp at this; exact List.length_eq_zero_iff.1 this.symm
  subst this
  refine AOp_append_zero ho ?_ g1 hk ?_ ⟨θ, .refl _, hs1, r⟩
  · generalize hd : ε s = d at hs1 hs
    cases d <;> simp at hs
    · rw [hs1.inv_nilsl]
    · obtain ⟨y, e, hy, _⟩ := hs1.inv_vw; rw [hy]
  · intro b q n c hb
    generalize hd : ε s = d at hs1 hs
    cases d <;> simp at hs
    · rw [hs1.inv_nilsl] at hb; simp at hb
    · rename_i b0 q0 n0 c0
      obtain ⟨y, e, hy, hk'⟩ := hs1.inv_vw
      rw [hy] at hb
      simp at hb
      obtain ⟨rfl, rfl, rfl, rfl⟩ := hb
      obtain ⟨h1, E, s', elems, c', h2⟩ := hc _ _ _ _ hd
      obtain ⟨y', e', o', k1, k2, k3⟩ := r.ob _ _ h2
      rw [hk'] at k1; cases k1
      cases k3 with
      | arr _ _ _ el' _ _ hl => exact ⟨by omega, _, _, _, _, k2⟩

theorem move_vw {k x e b c n E sz : Nat} {ob : AObj} {es es' : List (List DV)} (r : NRel θ nx h σ) (hk : h k = some ob) (hx : θ k = some (x, e)) (hb : sdel σ x b = none) (hl : SRLL θ es es') (hn : n ≤ c) :
    ∃ θ', ExtN nx θ θ' ∧ SR θ' (.vw nx 0 n n) (.vw b 0 n c) ∧ NRel θ' (nx + 1) (sset (sdel h k) nx (.arr E sz es n)) (sset (sdel σ x) b (.arr E sz es' c)) := new_vw (r.del hk hx) hb hl hn

theorem NOp_append_own {t : TypeId} {s x : Operand} {b c : Nat} {E : TypeId} {sz bytes : Nat} {elems es : List (List DV)} (ho : o.op = .call ⟨.builtin .append, #[s, x], #[t, t]⟩) (hs : ε s = .vw b 0 elems.length c) (hb : h b = some (.arr E sz elems c)) (hx : srcD h (ε x) = some es) (hk : apk C.P t = some (E, sz, bytes))
    (hz : ∀ e ∈ es, e.length = sz) (h1 : ∀ e ∈ es, e.all one = true) (hne : es ≠ []) (hbd : (elems.length + es.length) * bytes ≤ 140737488355328) (hbd' : elems.length + es.length ≤ 4611686018427387904) :
    NOp C o ε nx h (.vw nx 0 (elems.length + es.length) (elems.length + es.length)) (nx + 1) (sset (sdel h b) nx (.arr E sz (elems ++ es) (elems.length + es.length))) := fun θ σ ε' r hε => by
  have hs1 := hε s (by simp [ho, Op.operands, Call.operands])
  rw [hs] at hs1
  obtain ⟨y, e, hy, hkk⟩ := hs1.inv_vw
  obtain ⟨es', g1, g2⟩ := srcD_par r (hε x (by simp [ho, Op.operands, Call.operands])) hx
  obtain ⟨y', e', o', k1, k2, k3⟩ := r.ob _ _ hb
  rw [hkk] at k1; cases k1
  cases k3 with
  | arr _ _ _ el' _ _ hl =>
    rw [hl.1] at hy
    refine AOp_append_own ho hy k2 g1 hk (g2.lens hz) (allAll_par g2 h1) (g2.ne hne) (by rw [← g2.1, ← hl.1]; exact hbd) (by rw [← g2.1, ← hl.1]; exact hbd') fun b' c' hb' hc => ?_
    rw [← g2.1, ← hl.1] at hc ⊢
    exact move_vw r hb hkk hb' (hl.append g2) hc

theorem NOp_append_in {t : TypeId} {s x : Operand} {b c n : Nat} {E : TypeId} {sz bytes : Nat} {elems es : List (List DV)} (ho : o.op = .call ⟨.builtin .append, #[s, x], #[t, t]⟩) (hs : ε s = .vw b 0 n c) (hb : h b = some (.arr E sz elems c)) (hx : srcD h (ε x) = some es) (hk : apk C.P t = some (E, sz, bytes))
    (hz : ∀ e ∈ es, e.length = sz) (h1 : ∀ e ∈ es, e.all one = true) (hne : es ≠ []) (hn : n + es.length ≤ elems.length) :
    NOp C o ε nx h (.vw b 0 (n + es.length) c) nx (sset h b (.arr E sz (elems.take n ++ es ++ elems.drop (n + es.length)) c)) := fun θ σ ε' r hε => by
  have hs1 := hε s (by simp [ho, Op.operands, Call.operands])
  rw [hs] at hs1
  obtain ⟨y, e, hy, hkk⟩ := hs1.inv_vw
  obtain ⟨es', g1, g2⟩ := srcD_par r (hε x (by simp [ho, Op.operands, Call.operands])) hx
  obtain ⟨y', e', o', k1, k2, k3⟩ := r.ob _ _ hb
  rw [hkk] at k1; cases k1
  cases k3 with
  | arr _ _ _ el' _ _ hl =>
    refine AOp_append_in ho hy k2 g1 hk (g2.lens hz) (allAll_par g2 h1) (g2.ne hne) (by rw [← g2.1, ← hl.1]; exact hn) ⟨θ, .refl _, ?_, ?_⟩
    · rw [← g2.1]; exact .vw _ _ _ _ _ _ hkk
    · rw [← g2.1]; exact r.write hb hkk (.arr _ _ _ _ _ _ (((hl.take n).append g2).append (hl.drop _)))

theorem SRLL_strEl (l : List UInt8) : SRLL θ (strEl l) (strEl l) := SRLL_refl (nbLL_iff.2 fun j d hj => by
  simp [strEl] at hj
  obtain ⟨b, _, rfl⟩ := hj
  rfl)

theorem strEl_len (l : List UInt8) : (strEl l).length = l.length := by simp [strEl]

theorem NOp_append_str_nil {t u : TypeId} {s x : Operand} {E : TypeId} {l : List UInt8} (ho : o.op = .call ⟨.builtin .append, #[s, x], #[t, u]⟩) (hs : ε s = .nilsl) (hx : ε x = .s l) (hu : C.P.underlying u = some .string) (hk : apk C.P t = some (E, 1, 1))
    (hne : l ≠ []) (hbd : l.length ≤ 140737488355328) : NOp C o ε nx h (.vw nx 0 l.length l.length) (nx + 1) (sset h nx (.arr E 1 (strEl l) l.length)) := fun θ σ ε' r hε => by
  have hs1 := hε s (by simp [ho, Op.operands, Call.operands])
  have hx1 := hε x (by simp [ho, Op.operands, Call.operands])
  rw [hs] at hs1; rw [hx] at hx1
  exact AOp_append_str_nil ho hs1.inv_nilsl hx1.inv_s hu hk hne hbd fun b c hb hc => new_vw r hb (SRLL_strEl l) hc

theorem NOp_append_str_own {t u : TypeId} {s x : Operand} {b c : Nat} {E : TypeId} {elems : List (List DV)} {l : List UInt8} (ho : o.op = .call ⟨.builtin .append, #[s, x], #[t, u]⟩) (hs : ε s = .vw b 0 elems.length c) (hb : h b = some (.arr E 1 elems c)) (hx : ε x = .s l) (hu : C.P.underlying u = some .string) (hk : apk C.P t = some (E, 1, 1))
    (hbd : elems.length + l.length ≤ 140737488355328) : NOp C o ε nx h (.vw nx 0 (elems.length + l.length) (elems.length + l.length)) (nx + 1) (sset (sdel h b) nx (.arr E 1 (elems ++ strEl l) (elems.length + l.length))) := fun θ σ ε' r hε => by
  have hs1 := hε s (by simp [ho, Op.operands, Call.operands])
  have hx1 := hε x (by simp [ho, Op.operands, Call.operands])
  rw [hs] at hs1; rw [hx] at hx1
  obtain ⟨y, e, hy, hkk⟩ := hs1.inv_vw
  obtain ⟨y', e', o', k1, k2, k3⟩ := r.ob _ _ hb
  rw [hkk] at k1; cases k1
  cases k3 with
  | arr _ _ _ el' _ _ hl =>
    rw [hl.1] at hy
    refine AOp_append_str_own ho hy k2 hx1.inv_s hu hk (by rw [← hl.1]; exact hbd) fun b' c' hb' hc => ?_
    rw [← hl.1] at hc ⊢
    exact move_vw r hb hkk hb' (hl.append (SRLL_strEl l)) hc

theorem NOp_append_zeros {t u : TypeId} {s x : Operand} {E : TypeId} {sz bytes n : Nat} {k k' : IntKind} {zs : List DV} (ho : o.op = .call ⟨.builtin .append, #[s, x], #[t, u]⟩) (hs : ε s = .nilsl) (hx : ε x = .i k n) (hu : ikOf C.P u = some k') (hk : apk C.P t = some (E, sz, bytes))
    (hz : zeroC C.P E = some zs) (hn0 : 0 < n) (hbd : n * bytes ≤ 140737488355328) (hbd' : n ≤ 4611686018427387904) : NOp C o ε nx h (.vw nx 0 n n) (nx + 1) (sset h nx (.arr E sz (List.replicate n zs) n)) := fun θ σ ε' r hε => by
  have hs1 := hε s (by simp [ho, Op.operands, Call.operands])
  have hx1 := hε x (by simp [ho, Op.operands, Call.operands])
  rw [hs] at hs1; rw [hx] at hx1
  exact AOp_append_zeros_nil ho hs1.inv_nilsl hx1.inv_i hu hk hz hn0 hbd hbd' fun b c hb hc => new_vw r hb (.rep (SRL_zeroC hz) n) hc

theorem NOp_clearArr {t : TypeId} {x : Operand} {b q n c sz c' : Nat} {E : TypeId} {bytes : Nat} {elems : List (List DV)} {zs : List DV} (ho : o.op = .call ⟨.builtin .clear, #[x], #[t]⟩) (hx : ε x = .vw b (q * sz) n c) (hb : h b = some (.arr E sz elems c')) (hk : apk C.P t = some (E, sz, bytes))
    (hz : zeroC C.P E = some zs) (h1 : zs.all one = true) (hn0 : 0 < n) (hfit : q + n ≤ elems.length) : NOp C o ε nx h (.tup []) nx (sset h b (.arr E sz (elems.take q ++ List.replicate n zs ++ elems.drop (q + n)) c')) := fun θ σ ε' r hε => by
  have hx1 := hε x (by simp [ho, Op.operands, Call.operands])
  rw [hx] at hx1
  obtain ⟨y, e, hy, hkk⟩ := hx1.inv_vw
  obtain ⟨y', e', o', k1, k2, k3⟩ := r.ob _ _ hb
  rw [hkk] at k1; cases k1
  cases k3 with
  | arr _ _ _ el' _ _ hl =>
    exact AOp_clearArr ho hy k2 hk hz h1 hn0 (by rw [← hl.1]; exact hfit) ⟨θ, .refl _, .tup0, r.write hb hkk (.arr _ _ _ _ _ _ (((hl.take q).append (.rep (SRL_zeroC hz) n)).append (hl.drop _)))⟩

theorem NOp_clear0 {t : TypeId} {x : Operand} {s : Nat} (ho : o.op = .call ⟨.builtin .clear, #[x], #[t]⟩) (hs : slk C.P t = some s) (hx : (match ε x with | .nilsl | .vw _ _ 0 _ => true | .sl [] => true | _ => false) = true) : NOp C o ε nx h (.tup []) nx h := fun θ σ ε' r hε => by
  have hx1 := hε x (by simp [ho, Op.operands, Call.operands])
  refine (y_clearNil ho hs ?_ rfl).op ⟨θ, .refl _, .tup0, r⟩
  generalize ε x = d at hx1 hx
  split at hx
  · rw [hx1.inv_nilsl]
  · obtain ⟨y, e, hy, _⟩ := hx1.inv_vw; simp [hy]
  · rw [hx1.inv_sl.1]
  · simp at hx

theorem NOp_clearMap {t : TypeId} {m : Operand} {b : Nat} {kt et : TypeId} {kvs : List (DV × DV)} (ho : o.op = .call ⟨.builtin .clear, #[m], #[t]⟩) (ht : mlk C.P t = some (kt, et)) (hm : ε m = .mp b) (hb : h b = some (.map kvs)) : NOp C o ε nx h (.tup []) nx (sset h b (.map [])) := fun θ σ ε' r hε => by
  have hx1 := hε m (by simp [ho, Op.operands, Call.operands])
  rw [hm] at hx1
  obtain ⟨y, e, hy, hkk⟩ := hx1.inv_mp
  obtain ⟨y', e', o', k1, k2, k3⟩ := r.ob _ _ hb
  rw [hkk] at k1; cases k1
  cases k3 with
  | map _ kvs' hl hr => exact AOp_clearMap ho ht hy k2 ⟨θ, .refl _, .tup0, r.write hb hkk (.map _ _ rfl fun j p p' h => by simp at h)⟩

theorem KR.set {kvs kvs' : List (DV × DV)} (h : KR θ kvs kvs') {k v v' : DV} (hv : SR θ v v') (i : Nat) : KR θ (kvs.set i (k, v)) (kvs'.set i (k, v')) :=
  ⟨by simp [h.1], fun j p p' h1 h2 => by
    rw [List.getElem?_set] at h1 h2
    split at h1
    · rename_i hj; rw [if_pos hj] at h2
      split at h1
      · rename_i hlt; rw [if_pos (by rw [← h.1]; exact hlt)] at h2; cases h1; cases h2; exact ⟨rfl, hv⟩
      · simp at h1
    · rename_i hj; rw [if_neg hj] at h2; exact h.2 j p p' h1 h2⟩
theorem KR.snoc {kvs kvs' : List (DV × DV)} (h : KR θ kvs kvs') {k v v' : DV} (hv : SR θ v v') : KR θ (kvs ++ [(k, v)]) (kvs' ++ [(k, v')]) :=
  ⟨by simp [h.1], fun j p p' h1 h2 => by
    by_cases hj : j < kvs.length
    · rw [List.getElem?_append_left hj] at h1
      rw [List.getElem?_append_left (by rw [← h.1]; exact hj)] at h2
      exact h.2 j p p' h1 h2
    · rw [List.getElem?_append_right (by omega)] at h1
      rw [List.getElem?_append_right (by rw [← h.1]; omega), ← h.1] at h2
      cases hk : j - kvs.length with
      | zero => rw [hk] at h1 h2; simp at h1 h2; subst h1 h2; exact ⟨rfl, hv⟩
      | succ n => rw [hk] at h1; simp at h1⟩
theorem KR.erase {kvs kvs' : List (DV × DV)} (h : KR θ kvs kvs') (i : Nat) : KR θ (kvs.eraseIdx i) (kvs'.eraseIdx i) :=
  ⟨by rw [List.length_eraseIdx, List.length_eraseIdx, h.1], fun j p p' h1 h2 => by
    rw [List.getElem?_eraseIdx] at h1 h2
    split at h1
    · rename_i hj; rw [if_pos hj] at h2; exact h.2 _ p p' h1 h2
    · rename_i hj; rw [if_neg hj] at h2; exact h.2 _ p p' h1 h2⟩

theorem msetD_par {kt : TypeId} {k v v' : DV} {kvs kvs' kvs2 : List (DV × DV)} (hk : KR θ kvs kvs') (hv : SR θ v v') (hs : msetD C.P kt k v kvs = some kvs2) : ∃ kvs2', msetD C.P kt k v' kvs' = some kvs2' ∧ KR θ kvs2 kvs2' := by
  unfold msetD at hs ⊢
  split at hs
  · rename_i i w hq
    obtain ⟨q', h1, h2⟩ := kfi_par hk hq
    cases q' with
    | none => simp at h2
    | some p =>
      obtain ⟨j, w'⟩ := p
      simp at h2
      obtain ⟨rfl, _⟩ := h2
      simp at hs; subst hs
      rw [h1]
      exact ⟨_, rfl, hk.set hv _⟩
  · rename_i hq
    obtain ⟨q', h1, h2⟩ := kfi_par hk hq
    cases q' with
    | some p => simp at h2
    | none => simp at hs; subst hs; rw [h1]; exact ⟨_, rfl, hk.snoc hv⟩
  · simp at hs

/-- All keys of the map's lie as they are asked for. -/
def keyAt (P : Program) (kt : TypeId) (k : DV) (kvs : List (DV × DV)) (plain : DV → DV → Bool) : Bool :=
  match kfi P kt k kvs 0 with
  | some (some (i, _)) => match kvs[i]? with
    | some p => plain p.1 k
    | none => false
  | some none => true
  | none => false

theorem kfi_par' {P : Program} {kt : TypeId} {k : DV} {kvs kvs' : List (DV × DV)} (hk : KR θ kvs kvs') {q} (h : kfi P kt k kvs 0 = some q) {i w} (h' : kfi P kt k kvs' 0 = some (some (i, w))) : ∃ w', q = some (i, w') := by
  obtain ⟨q', h1, h2⟩ := kfi_par hk h
  rw [h'] at h1
  simp at h1
  subst h1
  cases q with
  | none => simp at h2
  | some p => obtain ⟨j, v⟩ := p; simp at h2; exact ⟨v, by rw [h2.1]⟩

theorem NOp_mapUpdate {t : TypeId} {m k v : Operand} {b : Nat} {kt et : TypeId} {kvs kvs2 : List (DV × DV)} (ho : o.op = .mapUpdate t m k v) (ht : mlk C.P t = some (kt, et)) (hm : ε m = .mp b) (hb : h b = some (.map kvs))
    (hck : ckT C.P 6 kt (ε k) = true) (hpk : plainK (ε k) = true) (hkk : ∀ i w, kfi C.P kt (ε k) kvs 0 = some (some (i, w)) → kvs[i]?.map (·.1) = some (ε k)) (hs : msetD C.P kt (ε k) (ε v) kvs = some kvs2) :
    NOp C o ε nx h (.tup []) nx (sset h b (.map kvs2)) := fun θ σ ε' r hε => by
  have hx1 := hε m (by simp [ho, Op.operands])
  have hk1 := hε k (by simp [ho, Op.operands])
  have hv1 := hε v (by simp [ho, Op.operands])
  rw [hm] at hx1
  obtain ⟨y, e, hy, hyk⟩ := hx1.inv_mp
  obtain ⟨y', e', o', k1, k2, k3⟩ := r.ob _ _ hb
  rw [hyk] at k1; cases k1
  cases k3 with
  | map _ kvs' hl hr =>
    have hK : KR θ kvs kvs' := ⟨hl, hr⟩
    have hke := eq_of_plainK hpk hk1
    obtain ⟨kvs2', g1, g2⟩ := msetD_par hK hv1 hs
    refine AOp_mapUpdate ho ht hy k2 (by rw [hke]; exact hck) (by rw [hke]; exact hpk) ?_ (by rw [hke]; exact g1) ⟨θ, .refl _, .tup0, r.write hb hyk (.map _ _ g2.1 g2.2)⟩
    intro i w hi
    rw [hke] at hi ⊢
    have hq : ∃ q, kfi C.P kt (ε k) kvs 0 = some q := by
      unfold msetD at hs
      split at hs
      · rename_i h; exact ⟨_, h⟩
      · rename_i h; exact ⟨_, h⟩
      · simp at hs
    obtain ⟨q, hq⟩ := hq
    obtain ⟨w', rfl⟩ := kfi_par' hK hq hi
    have := hkk i w' hq
    cases hp : kvs[i]? with
    | none => simp [hp] at this
    | some p =>
      have hlt : i < kvs'.length := by rw [← hl]; exact lt_of_get hp
      have := (hr i p kvs'[i] hp (by simp [hlt])).1
      simp [hlt, this]
      simp [hp] at *
      assumption

theorem mdelD_par {kt : TypeId} {k : DV} {kvs kvs' kvs2 : List (DV × DV)} (hk : KR θ kvs kvs') (hs : mdelD C.P kt k kvs = some kvs2) : ∃ kvs2', mdelD C.P kt k kvs' = some kvs2' ∧ KR θ kvs2 kvs2' := by
  unfold mdelD at hs ⊢
  split at hs
  · rename_i i w hq
    obtain ⟨q', h1, h2⟩ := kfi_par hk hq
    cases q' with
    | none => simp at h2
    | some p =>
      obtain ⟨j, w'⟩ := p
      simp at h2
      obtain ⟨rfl, _⟩ := h2
      simp at hs; subst hs
      rw [h1]
      exact ⟨_, rfl, hk.erase _⟩
  · rename_i hq
    obtain ⟨q', h1, h2⟩ := kfi_par hk hq
    cases q' with
    | some p => simp at h2
    | none => simp at hs; subst hs; rw [h1]; exact ⟨_, rfl, hk⟩
  · simp at hs

theorem NOp_delete {t t' : TypeId} {m k : Operand} {b : Nat} {kt et : TypeId} {kvs kvs2 : List (DV × DV)} (ho : o.op = .call ⟨.builtin .delete, #[m, k], #[t, t']⟩) (ht : mlk C.P t = some (kt, et)) (hm : ε m = .mp b) (hb : h b = some (.map kvs))
    (hck : ckT C.P 6 kt (ε k) = true) (hpk : plainK (ε k) = true) (hs : mdelD C.P kt (ε k) kvs = some kvs2) : NOp C o ε nx h (.tup []) nx (sset h b (.map kvs2)) := fun θ σ ε' r hε => by
  have hx1 := hε m (by simp [ho, Op.operands, Call.operands])
  have hk1 := hε k (by simp [ho, Op.operands, Call.operands])
  rw [hm] at hx1
  obtain ⟨y, e, hy, hyk⟩ := hx1.inv_mp
  obtain ⟨y', e', o', k1, k2, k3⟩ := r.ob _ _ hb
  rw [hyk] at k1; cases k1
  cases k3 with
  | map _ kvs' hl hr =>
    have hK : KR θ kvs kvs' := ⟨hl, hr⟩
    have hke := eq_of_plainK hpk hk1
    obtain ⟨kvs2', g1, g2⟩ := mdelD_par hK hs
    exact AOp_delete ho ht hy k2 (by rw [hke]; exact hck) (by rw [hke]; exact g1) ⟨θ, .refl _, .tup0, r.write hb hyk (.map _ _ g2.1 g2.2)⟩

theorem NOp_unsafeStr {t u : TypeId} {x y : Operand} {b c : Nat} {E : TypeId} {elems : List (List DV)} {l : List UInt8} (ho : o.op = .call ⟨.builtin .unsafeString, #[x, y], #[t, u]⟩) (hx : ε x = .ptr b 0) (hy : ε y = .i .i64 l.length) (hb : h b = some (.arr E 1 elems c))
    (ht : C.P.underlying t = some (.pointer E)) (hE : C.P.cellsOf E = 1) (hl : bytesAt h (.vw b 0 l.length c) = some l) (hne : l ≠ []) (h63 : l.length ≤ 9223372036854775807) : NOp C o ε nx h (.s l) nx (sdel h b) := fun θ σ ε' r hε => by
  have hx1 := hε x (by simp [ho, Op.operands, Call.operands])
  have hy1 := hε y (by simp [ho, Op.operands, Call.operands])
  rw [hx] at hx1; rw [hy] at hy1
  obtain ⟨z, e, hz, hzk⟩ := hx1.inv_ptr
  obtain ⟨y', e', o', k1, k2, k3⟩ := r.ob _ _ hb
  rw [hzk] at k1; cases k1
  cases k3 with
  | arr _ _ _ el' _ _ hel =>
    exact AOp_unsafeStr (el := 0) ho hz hy1.inv_i k2 ht hE (bytesAt_par r (.vw _ _ _ _ _ _ hzk) hl) hne h63 ⟨θ, .refl _, .imm _ rfl, r.del hb hzk⟩

theorem NOp_unsafeStr0 {t u : TypeId} {x y : Operand} (ho : o.op = .call ⟨.builtin .unsafeString, #[x, y], #[t, u]⟩) (hx : (match ε x with | .nilp | .ptr _ _ => true | _ => false) = true) (hy : ε y = .i .i64 0) : NOp C o ε nx h (.s []) nx h := fun θ σ ε' r hε => by
  have hx1 := hε x (by simp [ho, Op.operands, Call.operands])
  have hy1 := hε y (by simp [ho, Op.operands, Call.operands])
  rw [hy] at hy1
  refine (y_unsafeStr0 ho ?_ hy1.inv_i rfl).op ⟨θ, .refl _, .imm _ rfl, r⟩
  generalize ε x = d at hx1 hx
  split at hx
  · rw [hx1.inv_nilp]
  · obtain ⟨z, e, hz, _⟩ := hx1.inv_ptr; simp [hz]
  · simp at hx
end
end Go.Arb
end

section
namespace Go.Arb
set_option linter.unusedVariables false
set_option linter.unusedSimpArgs false
open Go Go.Lib

/-! ### Numbered trees -/
inductive Tr (α : Type) where
  | nil
  | nd (v : Option α) (l r : Tr α)

noncomputable def Tr.get {α} (t : Tr α) : Nat → Option α :=
  Tr.rec (motive := fun _ => Nat → Option α) (fun _ => none) (fun v _ _ ihl ihr n => Bool.rec (Bool.rec (ihr (Nat.sub (Nat.div n 2) 1)) (ihl (Nat.div n 2)) (Nat.beq (Nat.mod n 2) 1)) v (Nat.beq n 0)) t
noncomputable def Tr.put {α} (f : Nat) : Tr α → Nat → Option α → Tr α :=
  Nat.rec (motive := fun _ => Tr α → Nat → Option α → Tr α) (fun t _ _ => t) (fun _ ih t n a =>
    Tr.rec (motive := fun _ => Tr α)
      (Bool.rec (Bool.rec (.nd none .nil (ih .nil (Nat.sub (Nat.div n 2) 1) a)) (.nd none (ih .nil (Nat.div n 2) a) .nil) (Nat.beq (Nat.mod n 2) 1)) (.nd a .nil .nil) (Nat.beq n 0))
      (fun v l r _ _ => Bool.rec (Bool.rec (.nd v l (ih r (Nat.sub (Nat.div n 2) 1) a)) (.nd v (ih l (Nat.div n 2) a) r) (Nat.beq (Nat.mod n 2) 1)) (.nd a l r) (Nat.beq n 0)) t) f
noncomputable def Tr.set {α} (t : Tr α) (n : Nat) (a : Option α) : Tr α := Tr.put (Nat.succ n) t n a

theorem beqT {a b : Nat} (h : a = b) : Nat.beq a b = true := by subst h; simp
theorem Tr.get_nil {α} (n : Nat) : (Tr.nil : Tr α).get n = none := rfl
theorem Tr.get_nd {α} (v : Option α) (l r : Tr α) (n : Nat) : (Tr.nd v l r).get n = if n = 0 then v else if n % 2 = 1 then l.get (n / 2) else r.get (n / 2 - 1) := by
  show @Bool.rec (fun _ => Option α) (@Bool.rec (fun _ => Option α) (r.get (Nat.sub (Nat.div n 2) 1)) (l.get (Nat.div n 2)) (Nat.beq (Nat.mod n 2) 1)) v (Nat.beq n 0) = _
  by_cases h0 : n = 0
  · rw [if_pos h0, beqT h0]
  · rw [if_neg h0]
    have : Nat.beq n 0 = false := by cases h : Nat.beq n 0; rfl; exact absurd (Nat.eq_of_beq_eq_true h) h0
    rw [this]
    by_cases h1 : n % 2 = 1
    · rw [if_pos h1]
      have : Nat.beq (Nat.mod n 2) 1 = true := beqT h1
      rw [this]; rfl
    · rw [if_neg h1]
      have : Nat.beq (Nat.mod n 2) 1 = false := by cases h : Nat.beq (Nat.mod n 2) 1; rfl; exact absurd (Nat.eq_of_beq_eq_true h) h1
      rw [this]; rfl

theorem Tr.put_nd {α} (f : Nat) (v : Option α) (l r : Tr α) (n : Nat) (a : Option α) : Tr.put (f + 1) (.nd v l r) n a = if n = 0 then .nd a l r else if n % 2 = 1 then .nd v (Tr.put f l (n / 2) a) r else .nd v l (Tr.put f r (n / 2 - 1) a) := by
  show @Bool.rec (fun _ => Tr α) (@Bool.rec (fun _ => Tr α) (Tr.nd v l (Tr.put f r (Nat.sub (Nat.div n 2) 1) a)) (.nd v (Tr.put f l (Nat.div n 2) a) r) (Nat.beq (Nat.mod n 2) 1)) (.nd a l r) (Nat.beq n 0) = _
  by_cases h0 : n = 0
  · rw [if_pos h0, beqT h0]
  · rw [if_neg h0]
    have : Nat.beq n 0 = false := by cases h : Nat.beq n 0; rfl; exact absurd (Nat.eq_of_beq_eq_true h) h0
    rw [this]
    by_cases h1 : n % 2 = 1
    · rw [if_pos h1]
      have : Nat.beq (Nat.mod n 2) 1 = true := beqT h1
      rw [this]; rfl
    · rw [if_neg h1]
      have : Nat.beq (Nat.mod n 2) 1 = false := by cases h : Nat.beq (Nat.mod n 2) 1; rfl; exact absurd (Nat.eq_of_beq_eq_true h) h1
      rw [this]; rfl

theorem Tr.put_nil {α} (f : Nat) (n : Nat) (a : Option α) : Tr.put (f + 1) (.nil : Tr α) n a = Tr.put (f + 1) (.nd none .nil .nil) n a := rfl

theorem Tr.get_put {α} : ∀ (f : Nat) (t : Tr α) (n m : Nat) (a : Option α), n < f → (Tr.put f t n a).get m = if m = n then a else t.get m := by
  intro f
  induction f with
  | zero => intro t n m a h; omega
  | succ f ih =>
    intro t n m a h
    have key : ∀ v (l r : Tr α), (Tr.put (f + 1) (.nd v l r) n a).get m = if m = n then a else (Tr.nd v l r).get m := by
      intro v l r
      rw [Tr.put_nd, Tr.get_nd]
      by_cases h0 : n = 0
      · rw [if_pos h0, Tr.get_nd]
        subst h0
        by_cases hm : m = 0
        · simp [hm]
        · simp [hm]
      · rw [if_neg h0]
        by_cases h1 : n % 2 = 1
        · rw [if_pos h1, Tr.get_nd, ih _ _ _ _ (by omega)]
          by_cases hm : m = 0
          · rw [if_pos hm, if_pos hm, if_neg (by omega)]
          · rw [if_neg hm, if_neg hm]
            by_cases hm1 : m % 2 = 1
            · rw [if_pos hm1, if_pos hm1]
              by_cases e : m = n
              · rw [if_pos e, if_pos (by rw [e])]
              · rw [if_neg e, if_neg (by omega)]
            · rw [if_neg hm1, if_neg hm1, if_neg (by intro e; subst e; exact hm1 h1)]
        · rw [if_neg h1, Tr.get_nd, ih _ _ _ _ (by omega)]
          by_cases hm : m = 0
          · rw [if_pos hm, if_pos hm, if_neg (by omega)]
          · rw [if_neg hm, if_neg hm]
            by_cases hm1 : m % 2 = 1
            · rw [if_pos hm1, if_pos hm1, if_neg (by intro e; subst e; exact h1 hm1)]
            · rw [if_neg hm1, if_neg hm1]
              by_cases e : m = n
              · rw [if_pos e, if_pos (by rw [e])]
              · rw [if_neg e, if_neg (by omega)]
    cases t with
    | nd v l r => exact key v l r
    | nil =>
      rw [Tr.put_nil, key]
      by_cases hm : m = n
      · rw [if_pos hm, if_pos hm]
      · rw [if_neg hm, if_neg hm, Tr.get_nd]
        split
        · rfl
        · split <;> rfl

theorem Tr.get_set {α} (t : Tr α) (n m : Nat) (a : Option α) : (t.set n a).get m = if m = n then a else t.get m := Tr.get_put _ _ _ _ _ (Nat.lt_succ_self n)

/-! ### The machine -/
structure VH where
  nx : Nat
  ob : Tr AObj
noncomputable def VH.st (h : VH) : Store := fun k => h.ob.get k
noncomputable def VH.new (h : VH) (o : AObj) : VH := ⟨Nat.succ h.nx, h.ob.set h.nx (some o)⟩
noncomputable def VH.upd (h : VH) (b : Nat) (o : AObj) : VH := ⟨h.nx, h.ob.set b (some o)⟩
noncomputable def VH.del (h : VH) (b : Nat) : VH := ⟨h.nx, h.ob.set b none⟩
theorem VH.st_new (h : VH) (o : AObj) : (h.new o).st = sset h.st h.nx o := by funext k; simp only [VH.st, VH.new, Tr.get_set, sset]
theorem VH.st_upd (h : VH) (b : Nat) (o : AObj) : (h.upd b o).st = sset h.st b o := by funext k; simp only [VH.st, VH.upd, Tr.get_set, sset]
theorem VH.st_del (h : VH) (b : Nat) : (h.del b).st = sdel h.st b := by funext k; simp only [VH.st, VH.del, Tr.get_set, sdel]

noncomputable def vAlloc (P : Program) (typ : Bool) (h : VH) (t : TypeId) : Option (DV × VH) :=
  match zeroC P t with
  | some zs => if typ = true then some (.ptr h.nx 0, h.new (.arr t zs.length [zs] 1)) else some (.ptr h.nx 0, h.new (.cells zs))
  | none => none
noncomputable def vBox (own typ : Bool) (h : VH) (t : TypeId) (x : DV) : Option (DV × VH) :=
  match dcells x with
  | some cs => if own = false ∧ nbL cs = true then some (.dp cs 0, h) else if typ = true then some (.ptr h.nx 0, h.new (.arr t cs.length [cs] 1)) else some (.ptr h.nx 0, h.new (.cells cs))
  | none => none
noncomputable def vBuildSlice (P : Program) (own : Bool) (h : VH) (t : TypeId) (n : Nat) (parts : List (Nat × DV)) : Option (DV × VH) :=
  match (if own = false ∧ n ≠ 0 then match bsD P t n parts with
      | some d => if nb d = true then some d else none
      | none => none
    else none) with
  | some d => some (d, h)
  | none => match apk P t, parts.mapM fun p => dcells p.2 with
    | some (E, s, _), some elems => if parts.map (·.1) = List.range' 0 n ∧ n * s ≤ 2 ^ 24 ∧ elems.all (fun es => es.length == s) = true then some (.vw h.nx 0 n n, h.new (.arr E s elems n)) else none
    | _, _ => none
noncomputable def vStore (P : Program) (h : VH) (t : TypeId) (a x : DV) : Option (DV × VH) :=
  match a, dcells x, lk P t with
  | .ptr b q, some cs, some (_, n) => if n = cs.length ∧ cs.all one = true then match h.st b with
      | some (.cells ds) => if q + cs.length ≤ ds.length then some (.tup [], h.upd b (.cells (setAt ds q cs))) else none
      | some (.arr E sz elems c) => if sz ≠ 0 then match elems[q / sz]? with
          | some es => if q % sz + cs.length ≤ sz then some (.tup [], h.upd b (.arr E sz (elems.set (q / sz) (setAt es (q % sz) cs)) c)) else none
          | none => none
        else none
      | _ => none
    else none
  | _, _, _ => none
noncomputable def vMakeSlice (P : Program) (h : VH) (t : TypeId) (x y : DV) : Option (DV × VH) :=
  match x, y, apk P t with
  | .i _ l, .i _ c, some (E, sz, bytes) => match zeroC P E with
    | some zs => if 0 ≤ l ∧ l ≤ c ∧ bytes * c.toNat ≤ 281474976710656 ∧ c.toNat ≤ 4611686018427387904 then some (.vw h.nx 0 l.toNat c.toNat, h.new (.arr E sz (List.replicate l.toNat zs) c.toNat)) else none
    | none => none
  | _, _, _ => none
noncomputable def vKeyOk (P : Program) (kt : TypeId) (k : DV) (kvs : List (DV × DV)) : Bool :=
  match kfi P kt k kvs 0 with
  | some (some (i, _)) => match kvs[i]? with
    | some p => match p.1, k with
      | .i a x, .i b y => decide (a = b) && decide (x = y)
      | .s x, .s y => decide (x = y)
      | .agg [.i a x, .i b y], .agg [.i a' x', .i b' y'] => decide (a = a') && decide (x = x') && decide (b = b') && decide (y = y')
      | .agg [.s x, .s y], .agg [.s x', .s y'] => decide (x = x') && decide (y = y')
      | _, _ => false
    | none => false
  | some none => true
  | none => false
noncomputable def vMapUpd (P : Program) (h : VH) (t : TypeId) (m k v : DV) : Option (DV × VH) :=
  match mlk P t, m with
  | some (kt, _), .mp b => match h.st b with
    | some (.map kvs) => if ckT P 6 kt k = true ∧ plainK k = true ∧ vKeyOk P kt k kvs = true then match msetD P kt k v kvs with
        | some kvs2 => some (.tup [], h.upd b (.map kvs2))
        | none => none
      else none
    | _ => none
  | _, _ => none
noncomputable def vDelete (P : Program) (h : VH) (t : TypeId) (m k : DV) : Option (DV × VH) :=
  match mlk P t, m with
  | some (kt, _), .mp b => match h.st b with
    | some (.map kvs) => if ckT P 6 kt k = true ∧ plainK k = true then match mdelD P kt k kvs with
        | some kvs2 => some (.tup [], h.upd b (.map kvs2))
        | none => none
      else none
    | _ => none
  | _, _ => none
noncomputable def vClear (P : Program) (h : VH) (t : TypeId) (x : DV) : Option (DV × VH) :=
  match x with
  | .nilsl => if (slk P t).isSome = true then some (.tup [], h) else none
  | .sl [] => if (slk P t).isSome = true then some (.tup [], h) else none
  | .mp b => match mlk P t, h.st b with
    | some _, some (.map _) => some (.tup [], h.upd b (.map []))
    | _, _ => none
  | .vw _ _ 0 _ => if (slk P t).isSome = true then some (.tup [], h) else none
  | .vw b off (n + 1) c => match apk P t, h.st b with
    | some (E, sz, _), some (.arr E' sz' elems c') => match zeroC P E with
      | some zs => if E = E' ∧ sz = sz' ∧ off % sz = 0 ∧ zs.all one = true ∧ off / sz + (n + 1) ≤ elems.length then some (.tup [], h.upd b (.arr E sz (elems.take (off / sz) ++ List.replicate (n + 1) zs ++ elems.drop (off / sz + (n + 1))) c')) else none
      | none => none
    | _, _ => none
  | _ => none
noncomputable def vUStr (P : Program) (h : VH) (t : TypeId) (x y : DV) : Option (DV × VH) :=
  match x, y with
  | .nilp, .i .i64 0 => some (.s [], h)
  | .ptr _ _, .i .i64 0 => some (.s [], h)
  | .ptr b 0, .i .i64 n => match h.st b, P.underlying t with
    | some (.arr E 1 elems c), some (.pointer E') => match bytesAt h.st (.vw b 0 n.toNat c) with
      | some l => if E' = E ∧ P.cellsOf E = 1 ∧ n = l.length ∧ l ≠ [] ∧ l.length ≤ 9223372036854775807 then some (.s l, h.del b) else none
      | none => none
    | _, _ => none
  | _, _ => none
noncomputable def vAppend (P : Program) (h : VH) (t u : TypeId) (s x : DV) : Option (DV × VH) :=
  match x, apk P t with
  | .i _ n, some (E, sz, bytes) => match s, zeroC P E, ikOf P u with
    | .nilsl, some zs, some _ => if 0 < n ∧ n.toNat * bytes ≤ 140737488355328 ∧ n.toNat ≤ 4611686018427387904 then some (.vw h.nx 0 n.toNat n.toNat, h.new (.arr E sz (List.replicate n.toNat zs) n.toNat)) else none
    | _, _, _ => none
  | .s l, some (E, sz, bytes) => if sz = 1 ∧ bytes = 1 ∧ descOf P u = 5 then match s with
      | .nilsl => if l ≠ [] ∧ l.length ≤ 140737488355328 then some (.vw h.nx 0 l.length l.length, h.new (.arr E 1 (strEl l) l.length)) else none
      | .vw b 0 n c => match h.st b with
        | some (.arr E' 1 elems c') => if E' = E ∧ c' = c ∧ n = elems.length ∧ elems.length + l.length ≤ 140737488355328 then
            some (.vw h.nx 0 (elems.length + l.length) (elems.length + l.length), (h.del b).new (.arr E 1 (elems ++ strEl l) (elems.length + l.length))) else none
        | _ => none
      | _ => none
    else none
  | x, some (E, sz, bytes) => if t = u then match srcD h.st x with
      | some [] => match s with
        | .nilsl => some (.nilsl, h)
        | .vw b q n c => match h.st b with
          | some (.arr _ _ _ _) => if n ≤ c then some (.vw b q n c, h) else none
          | _ => none
        | _ => none
      | some es => if es.all (fun e => e.length == sz && e.all one) = true then match s with
          | .nilsl => if es.length * bytes ≤ 140737488355328 ∧ es.length ≤ 4611686018427387904 then some (.vw h.nx 0 es.length es.length, h.new (.arr E sz es es.length)) else none
          | .vw b 0 n c => match h.st b with
            | some (.arr E' sz' elems c') => if E' = E ∧ sz' = sz ∧ c' = c then
                if n + es.length ≤ elems.length then some (.vw b 0 (n + es.length) c, h.upd b (.arr E sz (elems.take n ++ es ++ elems.drop (n + es.length)) c))
                else if n = elems.length ∧ (elems.length + es.length) * bytes ≤ 140737488355328 ∧ elems.length + es.length ≤ 4611686018427387904 then
                  some (.vw h.nx 0 (elems.length + es.length) (elems.length + es.length), (h.del b).new (.arr E sz (elems ++ es) (elems.length + es.length)))
                else none
              else none
            | _ => none
          | _ => none
        else none
      | none => none
    else none
  | _, none => none

noncomputable def vop (P : Program) (own typ : Bool) (h : VH) (ε : Operand → DV) : Op → Option (DV × VH)
  | .alloc t => vAlloc P typ h t
  | .box t x => vBox own typ h t (ε x)
  | .buildSlice t n parts => vBuildSlice P own h t n (parts.toList.map fun p => (p.1, ε p.2))
  | .store t a x => vStore P h t (ε a) (ε x)
  | .makeMap _ none => some (.mp h.nx, h.new (.map []))
  | .makeSlice t x y => vMakeSlice P h t (ε x) (ε y)
  | .mapUpdate t m k v => vMapUpd P h t (ε m) (ε k) (ε v)
  | .insert t m k v => vMapUpd P h t (ε m) (ε k) (ε v)
  | .call ⟨.builtin .append, ⟨[s, x]⟩, ⟨[t, u]⟩⟩ => vAppend P h t u (ε s) (ε x)
  | .call ⟨.builtin .clear, ⟨[x]⟩, ⟨[t]⟩⟩ => vClear P h t (ε x)
  | .call ⟨.builtin .delete, ⟨[m, k]⟩, ⟨[t, _]⟩⟩ => vDelete P h t (ε m) (ε k)
  | .call ⟨.builtin .unsafeString, ⟨[x, y]⟩, ⟨[t, _]⟩⟩ => vUStr P h t (ε x) (ε y)
  | op => match vpure P h.st ε op with
    | some d => some (d, h)
    | none => none
end Go.Arb
end

section
namespace Go.Arb
set_option linter.unusedVariables false
set_option linter.unusedSimpArgs false
open Go Go.Lib

section
variable {C : Cx} {h h' : VH} {ε : Operand → DV} {o : Oper} {d : DV} {own typ : Bool}

def NV (C : Cx) (o : Oper) (ε : Operand → DV) (h : VH) (d : DV) (h' : VH) : Prop := NOp C o ε h.nx h.st d h'.nx h'.st

theorem vAlloc_sound {t : TypeId} (ho : o.op = .alloc t) (hd : vAlloc C.P typ h t = some (d, h')) : NV C o ε h d h' := by
  unfold vAlloc at hd
  split at hd
  · rename_i zs hz
    split at hd <;> simp at hd <;> obtain ⟨rfl, rfl⟩ := hd
    · unfold NV; rw [VH.st_new]; exact NOp_allocT ho hz
    · unfold NV; rw [VH.st_new]; exact NOp_alloc ho hz
  · simp at hd

theorem vBox_sound {t : TypeId} {x : Operand} (ho : o.op = .box t x) (hd : vBox own typ h t (ε x) = some (d, h')) : NV C o ε h d h' := by
  unfold vBox at hd
  split at hd
  · rename_i cs hc
    split at hd
    · rename_i hn
      simp at hd; obtain ⟨rfl, rfl⟩ := hd
      exact NOp_boxD ho hc hn.2
    · split at hd <;> simp at hd <;> obtain ⟨rfl, rfl⟩ := hd
      · unfold NV; rw [VH.st_new]; exact NOp_boxT ho hc
      · unfold NV; rw [VH.st_new]; exact NOp_box ho hc
  · simp at hd

theorem vBuildSlice_sound {t : TypeId} {n : Nat} {parts : Array (Nat × Operand)} (ho : o.op = .buildSlice t n parts) (hd : vBuildSlice C.P own h t n (parts.toList.map fun p => (p.1, ε p.2)) = some (d, h')) : NV C o ε h d h' := by
  unfold vBuildSlice at hd
  split at hd
  · rename_i d1 h1
    simp at hd; obtain ⟨rfl, rfl⟩ := hd
    split at h1
    · split at h1
      · rename_i hb
        split at h1
        · rename_i hn
          simp at h1; subst h1
          exact NOp_buildSliceD ho hb hn
        · simp at h1
      · simp at h1
    · simp at h1
  · split at hd
    · rename_i E s b elems hk hel
      split at hd
      · rename_i hc
        simp only [Option.some.injEq, Prod.mk.injEq] at hd; obtain ⟨rfl, rfl⟩ := hd
        unfold NV; rw [VH.st_new]
        exact NOp_buildSlice ho hk (by simpa [Function.comp_def] using hc.1) hel (fun es hes => by simpa using List.all_eq_true.1 hc.2.2 es hes) hc.2.1
      · simp at hd
    · simp at hd

theorem vStore_sound {t : TypeId} {a x : Operand} (ho : o.op = .store t a x) (hd : vStore C.P h t (ε a) (ε x) = some (d, h')) : NV C o ε h d h' := by
  unfold vStore at hd
  split at hd
  · rename_i b q cs g n ha hc hl
    split at hd
    · rename_i hc1
      obtain ⟨rfl, h1⟩ := hc1
      split at hd
      · rename_i ds hb
        split at hd
        · rename_i hfit
          simp at hd; obtain ⟨rfl, rfl⟩ := hd
          unfold NV; rw [VH.st_upd]
          exact NOp_store ho ha hb hc h1 hl hfit
        · simp at hd
      · rename_i E sz elems c hb
        split at hd
        · rename_i hsz
          split at hd
          · rename_i es he
            split at hd
            · rename_i hfit
              simp at hd; obtain ⟨rfl, rfl⟩ := hd
              unfold NV; rw [VH.st_upd]
              exact NOp_storeA ho (by rw [ha, Nat.div_add_mod']) hb he hc h1 hl hfit
            · simp at hd
          · simp at hd
        · simp at hd
      · simp at hd
    · simp at hd
  · simp at hd

theorem vMakeSlice_sound {t : TypeId} {x y : Operand} (ho : o.op = .makeSlice t x y) (hd : vMakeSlice C.P h t (ε x) (ε y) = some (d, h')) : NV C o ε h d h' := by
  unfold vMakeSlice at hd
  split at hd
  · rename_i k l k' c E sz bytes hx hy hk
    split at hd
    · rename_i zs hz
      split at hd
      · rename_i hc
        simp at hd; obtain ⟨rfl, rfl⟩ := hd
        unfold NV; rw [VH.st_new]
        exact NOp_makeSlice (kl := k) (kc := k') ho hk hz (by rw [hx]; congr 1; omega) (by rw [hy]; congr 1; omega) (by omega) hc.2.2.1 hc.2.2.2
      · simp at hd
    · simp at hd
  · simp at hd

theorem vKeyOk_spec {P : Program} {kt : TypeId} {k : DV} {kvs : List (DV × DV)} (h : vKeyOk P kt k kvs = true) : ∀ i w, kfi P kt k kvs 0 = some (some (i, w)) → kvs[i]?.map (·.1) = some k := by
  intro i w hi
  unfold vKeyOk at h
  rw [hi] at h
  simp only at h
  split at h
  · rename_i p hp
    rw [hp]
    simp only [Option.map_some, Option.some.injEq]
    split at h
    · rename_i h1; simp at h; rw [h1, h.1, h.2]
    · rename_i h1; simp at h; rw [h1, h]
    · rename_i h1; simp at h; rw [h1, h.1.1.1, h.1.1.2, h.1.2, h.2]
    · rename_i h1; simp at h; rw [h1, h.1, h.2]
    · simp at h
  · simp at h

theorem vMapUpd_sound {t : TypeId} {m k v : Operand} (ho : o.op = .mapUpdate t m k v ∨ o.op = .insert t m k v) (hd : vMapUpd C.P h t (ε m) (ε k) (ε v) = some (d, h')) : NV C o ε h d h' := by
  unfold vMapUpd at hd
  split at hd
  · rename_i kt et b ht hm
    split at hd
    · rename_i kvs hb
      split at hd
      · rename_i hc
        split at hd
        · rename_i kvs2 hs
          simp at hd; obtain ⟨rfl, rfl⟩ := hd
          unfold NV; rw [VH.st_upd]
          rcases ho with ho | ho
          · exact NOp_mapUpdate ho ht hm hb hc.1 hc.2.1 (vKeyOk_spec hc.2.2) hs
          · intro θ σ ε' r hε
            exact AOp_insert ho (NOp_mapUpdate (o := { o with op := .mapUpdate t m k v }) rfl ht hm hb hc.1 hc.2.1 (vKeyOk_spec hc.2.2) hs θ σ ε' r (by simpa [ho, Op.operands] using hε))
        · simp at hd
      · simp at hd
    · simp at hd
  · simp at hd

theorem vDelete_sound {t t' : TypeId} {m k : Operand} (ho : o.op = .call ⟨.builtin .delete, #[m, k], #[t, t']⟩) (hd : vDelete C.P h t (ε m) (ε k) = some (d, h')) : NV C o ε h d h' := by
  unfold vDelete at hd
  split at hd
  · rename_i kt et b ht hm
    split at hd
    · rename_i kvs hb
      split at hd
      · rename_i hc
        split at hd
        · rename_i kvs2 hs
          simp at hd; obtain ⟨rfl, rfl⟩ := hd
          unfold NV; rw [VH.st_upd]
          exact NOp_delete ho ht hm hb hc.1 hc.2 hs
        · simp at hd
      · simp at hd
    · simp at hd
  · simp at hd

theorem slk_of_isSome {P : Program} {t} (h : (slk P t).isSome = true) : ∃ s, slk P t = some s := Option.isSome_iff_exists.1 h

theorem vClear_sound {t : TypeId} {x : Operand} (ho : o.op = .call ⟨.builtin .clear, #[x], #[t]⟩) (hd : vClear C.P h t (ε x) = some (d, h')) : NV C o ε h d h' := by
  unfold vClear at hd
  split at hd
  · rename_i hx
    split at hd
    · rename_i hs
      simp at hd; obtain ⟨rfl, rfl⟩ := hd
      obtain ⟨s, hs⟩ := slk_of_isSome hs
      exact NOp_clear0 ho hs (by rw [hx])
    · simp at hd
  · rename_i hx
    split at hd
    · rename_i hs
      simp at hd; obtain ⟨rfl, rfl⟩ := hd
      obtain ⟨s, hs⟩ := slk_of_isSome hs
      exact NOp_clear0 ho hs (by rw [hx])
    · simp at hd
  · rename_i b hx
    split at hd
    · rename_i kt kvs ht hb
      simp at hd; obtain ⟨rfl, rfl⟩ := hd
      unfold NV; rw [VH.st_upd]
      exact NOp_clearMap ho (kt := kt.1) (et := kt.2) ht hx hb
    · simp at hd
  · rename_i hx
    split at hd
    · rename_i hs
      simp at hd; obtain ⟨rfl, rfl⟩ := hd
      obtain ⟨s, hs⟩ := slk_of_isSome hs
      exact NOp_clear0 ho hs (by simp [hx])
    · simp at hd
  · rename_i b off n c hx
    split at hd
    · rename_i E sz bytes E' sz' elems c' hk hb
      split at hd
      · rename_i zs hz
        split at hd
        · rename_i hc
          obtain ⟨rfl, rfl, c3, c4, c5⟩ := hc
          simp only [Option.some.injEq, Prod.mk.injEq] at hd; obtain ⟨rfl, rfl⟩ := hd
          unfold NV; rw [VH.st_upd]
          have hoff : off = off / sz * sz := by have := Nat.div_add_mod' off sz; omega
          exact NOp_clearArr ho (by rw [hx, ← hoff]) hb hk hz c4 (by omega) c5
        · simp at hd
      · simp at hd
    · simp at hd
  · simp at hd

theorem vUStr_sound {t u : TypeId} {x y : Operand} (ho : o.op = .call ⟨.builtin .unsafeString, #[x, y], #[t, u]⟩) (hd : vUStr C.P h t (ε x) (ε y) = some (d, h')) : NV C o ε h d h' := by
  unfold vUStr at hd
  split at hd
  · rename_i hx hy
    simp at hd; obtain ⟨rfl, rfl⟩ := hd
    exact NOp_unsafeStr0 ho (by rw [hx]) hy
  · rename_i b off hx hy
    simp at hd; obtain ⟨rfl, rfl⟩ := hd
    exact NOp_unsafeStr0 ho (by rw [hx]) hy
  · rename_i b n _ hx hy
    split at hd
    · rename_i E elems c E' hb ht
      split at hd
      · rename_i l hl
        split at hd
        · rename_i hc
          obtain ⟨rfl, c2, c3, c4, c5⟩ := hc
          simp at hd; obtain ⟨rfl, rfl⟩ := hd
          unfold NV; rw [VH.st_del]
          refine NOp_unsafeStr ho hx (by rw [hy, c3]) hb ht c2 ?_ c4 c5
          rw [c3] at hl; simpa using hl
        · simp at hd
      · simp at hd
    · simp at hd
  · simp at hd

theorem vAppend_sound {t u : TypeId} {s x : Operand} (ho : o.op = .call ⟨.builtin .append, #[s, x], #[t, u]⟩) (hd : vAppend C.P h t u (ε s) (ε x) = some (d, h')) : NV C o ε h d h' := by
  unfold vAppend at hd
  split at hd
  · rename_i k n E sz bytes hx hk
    split at hd
    · rename_i zs k' hs hz hu
      split at hd
      · rename_i hc
        simp at hd; obtain ⟨rfl, rfl⟩ := hd
        unfold NV; rw [VH.st_new]
        exact NOp_append_zeros (k := k) ho hs (by rw [hx]; congr 1; omega) hu hk hz (by omega) hc.2.1 hc.2.2
      · simp at hd
    · simp at hd
  · rename_i l E sz bytes hx hk
    split at hd
    · rename_i hc
      obtain ⟨rfl, rfl, hu⟩ := hc
      have hu' := underlying_of_desc.2.2.2.2 hu
      split at hd
      · rename_i hs
        split at hd
        · rename_i hc
          simp at hd; obtain ⟨rfl, rfl⟩ := hd
          unfold NV; rw [VH.st_new]
          exact NOp_append_str_nil ho hs hx hu' hk hc.1 hc.2
        · simp at hd
      · rename_i b n c hs
        split at hd
        · rename_i E' elems c' hb
          split at hd
          · rename_i hc
            obtain ⟨rfl, rfl, rfl, c4⟩ := hc
            simp at hd; obtain ⟨rfl, rfl⟩ := hd
            unfold NV; rw [VH.st_new, VH.st_del]
            exact NOp_append_str_own ho hs hb hx hu' hk c4
          · simp at hd
        · simp at hd
      · simp at hd
    · simp at hd
  · rename_i E sz bytes hk hn1 hn2
    split at hd
    · rename_i htu
      subst htu
      obtain ⟨i, z, hut, hi, hz0, hzs, hsz, hpos, hby⟩ := apk_spec hk
      have hslk : slk C.P t = some sz := by simp [slk, hut, hi, hsz]
      split at hd
      · rename_i hsrc
        split at hd
        · rename_i hs
          simp at hd; obtain ⟨rfl, rfl⟩ := hd
          have := NOp_append_zero (C := C) (nx := h.nx) (h := h.st) ho (by rw [hs]) hsrc hslk (fun b q n c hb => by rw [hs] at hb; simp at hb)
          rw [hs] at this
          exact this
        · rename_i b q n c hs
          split at hd
          · rename_i E' s' el c' hb
            split at hd
            · rename_i hnc
              simp at hd; obtain ⟨rfl, rfl⟩ := hd
              have := NOp_append_zero (C := C) (nx := h.nx) (h := h.st) ho (by rw [hs]) hsrc hslk (fun b2 q2 n2 c2 hb2 => by
                rw [hs] at hb2; simp at hb2; obtain ⟨rfl, rfl, rfl, rfl⟩ := hb2
                exact ⟨hnc, _, _, _, _, hb⟩)
              rw [hs] at this
              exact this
            · simp at hd
          · simp at hd
        · simp at hd
      · rename_i es hne hsrc
        have hne' : es ≠ [] := fun e => by subst e; exact hne rfl
        split at hd
        · rename_i hall
          have hz : ∀ e ∈ es, e.length = sz := fun e he => by have := List.all_eq_true.1 hall e he; simp at this; exact this.1
          have h1 : ∀ e ∈ es, e.all one = true := fun e he => by
            have := List.all_eq_true.1 hall e he
            simp only [Bool.and_eq_true] at this
            exact this.2
          split at hd
          · rename_i hs
            split at hd
            · rename_i hc
              simp at hd; obtain ⟨rfl, rfl⟩ := hd
              unfold NV; rw [VH.st_new]
              exact NOp_append_nil ho hs hsrc hk hz h1 hne' hc.1 hc.2
            · simp at hd
          · rename_i b n c hs
            split at hd
            · rename_i E' sz' elems c' hb
              split at hd
              · rename_i hc
                obtain ⟨rfl, rfl, rfl⟩ := hc
                split at hd
                · rename_i hfit
                  simp only [Option.some.injEq, Prod.mk.injEq] at hd; obtain ⟨rfl, rfl⟩ := hd
                  unfold NV; rw [VH.st_upd]
                  exact NOp_append_in ho hs hb hsrc hk hz h1 hne' hfit
                · split at hd
                  · rename_i hc2
                    obtain ⟨rfl, c2, c3⟩ := hc2
                    simp only [Option.some.injEq, Prod.mk.injEq] at hd; obtain ⟨rfl, rfl⟩ := hd
                    unfold NV; rw [VH.st_new, VH.st_del]
                    exact NOp_append_own ho hs hb hsrc hk hz h1 hne' c2 c3
                  · simp at hd
              · simp at hd
            · simp at hd
          · simp at hd
        · simp at hd
      · simp at hd
    · simp at hd
  · simp at hd

theorem vop_sound (hd : vop C.P own typ h ε o.op = some (d, h')) : NV C o ε h d h' := by
  generalize ho : o.op = op at hd
  unfold vop at hd
  split at hd
  · exact vAlloc_sound ho hd
  · exact vBox_sound ho hd
  · exact vBuildSlice_sound ho hd
  · exact vStore_sound ho hd
  · simp at hd; obtain ⟨rfl, rfl⟩ := hd
    unfold NV; rw [VH.st_new]; exact NOp_makeMap ho
  · exact vMakeSlice_sound ho hd
  · exact vMapUpd_sound (.inl ho) hd
  · exact vMapUpd_sound (.inr ho) hd
  · exact vAppend_sound ho hd
  · exact vClear_sound ho hd
  · exact vDelete_sound ho hd
  · exact vUStr_sound ho hd
  · split at hd
    · rename_i d1 hp
      simp at hd; obtain ⟨rfl, rfl⟩ := hd
      exact NOp_pure (by rw [ho]; exact hp)
    · simp at hd
end
end Go.Arb
end
