/- Operations under names of blocks, first part. -/
import Derived.Test.YtbaongomialaoaaGreatDoorCc
import Derived.Laws.BytesString
import Derived.Lib.AppendStr
import Derived.Lib.UnsafeStr
import Derived.Laws.LoneSync
section
namespace Go.Arb
set_option linter.unusedVariables false
set_option linter.unusedSimpArgs false
open Go

/-! ### Names for blocks: a name's address, and how much room there is beyond what is known -/
abbrev Nm := Nat → Option (Nat × Nat)

/-- No blocks in it. -/
def nb : DV → Bool
  | .any => false
  | .b _ | .i _ _ | .s _ | .nilp | .nilsl | .nilmap | .nilfn | .nilif => true
  | .ptr _ _ | .vw _ _ _ _ | .mp _ | .opt _ _ => false
  | .dp cs _ => nbL cs
  | .sl es => nbLL es
  | .agg cs => nbL cs
  | .tup cs => nbL cs
  | .fn _ a c => nbL a && nbL c
  | .ifc _ d => nb d
where
  nbL : List DV → Bool
    | [] => true
    | d :: l => nb d && nbL l
  nbLL : List (List DV) → Bool
    | [] => true
    | d :: l => nbL d && nbLL l
abbrev nbL := nb.nbL
abbrev nbLL := nb.nbLL

theorem nbL_iff {l : List DV} : nbL l = true ↔ ∀ (j : Nat) d, l[j]? = some d → nb d = true := by
  induction l with
  | nil => simp [nb.nbL]
  | cons a l ih =>
    simp only [nb.nbL, Bool.and_eq_true, ih]
    constructor
    · rintro ⟨h1, h2⟩ j d hj
      cases j with
      | zero => simp at hj; subst hj; exact h1
      | succ j => exact h2 j d (by simpa using hj)
    · intro h
      exact ⟨h 0 a rfl, fun j d hj => h (j + 1) d (by simpa using hj)⟩

inductive SR (θ : Nm) : DV → DV → Prop where
  | imm (d) (h : nb d = true) : SR θ d d
  | any (d) : SR θ .any d
  | ptr (k off x e) (h : θ k = some (x, e)) : SR θ (.ptr k off) (.ptr x off)
  | vw (k off n c x e) (h : θ k = some (x, e)) : SR θ (.vw k off n c) (.vw x off n (c + e))
  | mp (k x e) (h : θ k = some (x, e)) : SR θ (.mp k) (.mp x)
  | agg (ds ds') (hl : ds.length = ds'.length) (hr : ∀ (j : Nat) d d', ds[j]? = some d → ds'[j]? = some d' → SR θ d d') : SR θ (.agg ds) (.agg ds')
  | tup (ds ds') (hl : ds.length = ds'.length) (hr : ∀ (j : Nat) d d', ds[j]? = some d → ds'[j]? = some d' → SR θ d d') : SR θ (.tup ds) (.tup ds')
  | fn (f a a' c c') (hl : a.length = a'.length) (hr : ∀ (j : Nat) d d', a[j]? = some d → a'[j]? = some d' → SR θ d d')
      (hl' : c.length = c'.length) (hr' : ∀ (j : Nat) d d', c[j]? = some d → c'[j]? = some d' → SR θ d d') : SR θ (.fn f a c) (.fn f a' c')
  | ifc (t d d') (h : SR θ d d') : SR θ (.ifc t d) (.ifc t d')

def SRL (θ : Nm) (l l' : List DV) : Prop := l.length = l'.length ∧ ∀ (j : Nat) d d', l[j]? = some d → l'[j]? = some d' → SR θ d d'
def SRLL (θ : Nm) (l l' : List (List DV)) : Prop := l.length = l'.length ∧ ∀ (j : Nat) d d', l[j]? = some d → l'[j]? = some d' → SRL θ d d'

def Ext (θ θ' : Nm) : Prop := ∀ k p, θ k = some p → θ' k = some p
theorem Ext.refl (θ : Nm) : Ext θ θ := fun _ _ h => h
theorem Ext.trans {a b c : Nm} (h : Ext a b) (k : Ext b c) : Ext a c := fun _ _ e => k _ _ (h _ _ e)

theorem SR.mono {θ θ' : Nm} (h : Ext θ θ') {d d' : DV} (s : SR θ d d') : SR θ' d d' := by
  induction s with
  | imm d h => exact .imm d h
  | any d => exact .any d
  | ptr k off x e hk => exact .ptr k off x e (h _ _ hk)
  | vw k off n c x e hk => exact .vw k off n c x e (h _ _ hk)
  | mp k x e hk => exact .mp k x e (h _ _ hk)
  | agg ds ds' hl hr ih => exact .agg ds ds' hl ih
  | tup ds ds' hl hr ih => exact .tup ds ds' hl ih
  | fn f a a' c c' hl hr hl' hr' ih ih' => exact .fn f a a' c c' hl ih hl' ih'
  | ifc t d d' h ih => exact .ifc t d d' ih
theorem SRL.mono {θ θ' : Nm} (h : Ext θ θ') {l l' : List DV} (s : SRL θ l l') : SRL θ' l l' := ⟨s.1, fun j d d' a b => (s.2 j d d' a b).mono h⟩
theorem SRLL.mono {θ θ' : Nm} (h : Ext θ θ') {l l' : List (List DV)} (s : SRLL θ l l') : SRLL θ' l l' := ⟨s.1, fun j d d' a b => (s.2 j d d' a b).mono h⟩

theorem SRL_refl {θ : Nm} {l : List DV} (h : nbL l = true) : SRL θ l l :=
  ⟨rfl, fun j d d' h1 h2 => by rw [h1] at h2; cases h2; exact .imm d (nbL_iff.1 h j d h1)⟩

theorem nbLL_iff {l : List (List DV)} : nbLL l = true ↔ ∀ (j : Nat) d, l[j]? = some d → nbL d = true := by
  induction l with
  | nil => simp [nb.nbLL]
  | cons a l ih =>
    simp only [nb.nbLL, Bool.and_eq_true, ih]
    constructor
    · rintro ⟨h1, h2⟩ j d hj
      cases j with
      | zero => simp at hj; subst hj; exact h1
      | succ j => exact h2 j d (by simpa using hj)
    · intro h
      exact ⟨h 0 a rfl, fun j d hj => h (j + 1) d (by simpa using hj)⟩

theorem SRLL_refl {θ : Nm} {l : List (List DV)} (h : nbLL l = true) : SRLL θ l l :=
  ⟨rfl, fun j d d' h1 h2 => by rw [h1] at h2; cases h2; exact SRL_refl (nbLL_iff.1 h j d h1)⟩

/-- What has no blocks reads alike. -/
theorem SR.eq_of_nb {θ : Nm} {d d' : DV} (s : SR θ d d') : nb d = true → d' = d := by
  induction s with
  | imm d h => intro _; rfl
  | any d => intro h; simp [nb] at h
  | ptr k off x e hk => intro h; simp [nb] at h
  | vw k off n c x e hk => intro h; simp [nb] at h
  | mp k x e hk => intro h; simp [nb] at h
  | agg ds ds' hl hr ih =>
    intro h
    simp only [nb] at h
    congr 1
    refine List.ext_getElem hl.symm fun j h1 h2 => ?_
    exact ih j ds[j] ds'[j] (by simp) (by simp) (nbL_iff.1 h j _ (by simp))
  | tup ds ds' hl hr ih =>
    intro h
    simp only [nb] at h
    congr 1
    refine List.ext_getElem hl.symm fun j h1 h2 => ?_
    exact ih j ds[j] ds'[j] (by simp) (by simp) (nbL_iff.1 h j _ (by simp))
  | fn f a a' c c' hl hr hl' hr' ih ih' =>
    intro h
    simp only [nb, Bool.and_eq_true] at h
    congr 1
    · refine List.ext_getElem hl.symm fun j h1 h2 => ?_
      exact ih j a[j] a'[j] (by simp) (by simp) (nbL_iff.1 h.1 j _ (by simp))
    · refine List.ext_getElem hl'.symm fun j h1 h2 => ?_
      exact ih' j c[j] c'[j] (by simp) (by simp) (nbL_iff.1 h.2 j _ (by simp))
  | ifc t d d' h ih => intro hn; simp only [nb] at hn; rw [ih hn]

theorem SRL.eq_of_nb {θ : Nm} {l l' : List DV} (s : SRL θ l l') (h : nbL l = true) : l' = l :=
  List.ext_getElem s.1.symm fun j h1 h2 => (s.2 j l[j] l'[j] (by simp) (by simp)).eq_of_nb (nbL_iff.1 h j _ (by simp))

/-! Inversions -/
section
variable {θ : Nm} {d' : DV}
theorem SR.inv_agg {ds} (h : SR θ (.agg ds) d') : ∃ ds', d' = .agg ds' ∧ SRL θ ds ds' := by
  cases h with
  | imm _ h => exact ⟨ds, rfl, SRL_refl (by simpa [nb] using h)⟩
  | agg _ ds' hl hr => exact ⟨ds', rfl, hl, hr⟩
theorem SR.inv_tup {ds} (h : SR θ (.tup ds) d') : ∃ ds', d' = .tup ds' ∧ SRL θ ds ds' := by
  cases h with
  | imm _ h => exact ⟨ds, rfl, SRL_refl (by simpa [nb] using h)⟩
  | tup _ ds' hl hr => exact ⟨ds', rfl, hl, hr⟩
theorem SR.inv_fn {f a c} (h : SR θ (.fn f a c) d') : ∃ a' c', d' = .fn f a' c' ∧ SRL θ a a' ∧ SRL θ c c' := by
  cases h with
  | imm _ h => simp only [nb, Bool.and_eq_true] at h; exact ⟨a, c, rfl, SRL_refl h.1, SRL_refl h.2⟩
  | fn _ _ a' _ c' hl hr hl' hr' => exact ⟨a', c', rfl, ⟨hl, hr⟩, hl', hr'⟩
theorem SR.inv_ifc {t d} (h : SR θ (.ifc t d) d') : ∃ e, d' = .ifc t e ∧ SR θ d e := by
  cases h with
  | imm _ h => exact ⟨d, rfl, .imm _ (by simpa [nb] using h)⟩
  | ifc _ _ e h => exact ⟨e, rfl, h⟩
theorem SR.inv_ptr {k off} (h : SR θ (.ptr k off) d') : ∃ x e, d' = .ptr x off ∧ θ k = some (x, e) := by
  cases h with
  | imm _ h => simp [nb] at h
  | ptr _ _ x e h => exact ⟨x, e, rfl, h⟩
theorem SR.inv_vw {k off n c} (h : SR θ (.vw k off n c) d') : ∃ x e, d' = .vw x off n (c + e) ∧ θ k = some (x, e) := by
  cases h with
  | imm _ h => simp [nb] at h
  | vw _ _ _ _ x e h => exact ⟨x, e, rfl, h⟩
theorem SR.inv_mp {k} (h : SR θ (.mp k) d') : ∃ x e, d' = .mp x ∧ θ k = some (x, e) := by
  cases h with
  | imm _ h => simp [nb] at h
  | mp _ x e h => exact ⟨x, e, rfl, h⟩
theorem SR.inv_i {k n} (h : SR θ (.i k n) d') : d' = .i k n := h.eq_of_nb rfl
theorem SR.inv_b {x} (h : SR θ (.b x) d') : d' = .b x := h.eq_of_nb rfl
theorem SR.inv_s {x} (h : SR θ (.s x) d') : d' = .s x := h.eq_of_nb rfl
theorem SR.inv_nilp (h : SR θ .nilp d') : d' = .nilp := h.eq_of_nb rfl
theorem SR.inv_nilsl (h : SR θ .nilsl d') : d' = .nilsl := h.eq_of_nb rfl
theorem SR.inv_nilmap (h : SR θ .nilmap d') : d' = .nilmap := h.eq_of_nb rfl
theorem SR.inv_nilfn (h : SR θ .nilfn d') : d' = .nilfn := h.eq_of_nb rfl
theorem SR.inv_nilif (h : SR θ .nilif d') : d' = .nilif := h.eq_of_nb rfl
theorem SR.inv_sl {es} (h : SR θ (.sl es) d') : d' = .sl es ∧ nbLL es = true := by
  cases h with
  | imm _ h => exact ⟨rfl, by simpa [nb] using h⟩
theorem SR.inv_dp {cs off} (h : SR θ (.dp cs off) d') : d' = .dp cs off ∧ nbL cs = true := by
  cases h with
  | imm _ h => exact ⟨rfl, by simpa [nb] using h⟩
end

theorem SR.mk_agg {θ : Nm} {l l'} (h : SRL θ l l') : SR θ (.agg l) (.agg l') := .agg _ _ h.1 h.2
theorem SR.mk_tup {θ : Nm} {l l'} (h : SRL θ l l') : SR θ (.tup l) (.tup l') := .tup _ _ h.1 h.2
theorem SR.mk_fn {θ : Nm} {f a a' c c'} (h : SRL θ a a') (h' : SRL θ c c') : SR θ (.fn f a c) (.fn f a' c') := .fn _ _ _ _ _ h.1 h.2 h'.1 h'.2

/-! Lists -/
section
variable {θ : Nm}
theorem SRL.get {l l'} (h : SRL θ l l') {j : Nat} {d} (hd : l[j]? = some d) : ∃ d', l'[j]? = some d' ∧ SR θ d d' := by
  have hj : j < l.length := lt_of_get hd
  have hj' : j < l'.length := by rw [← h.1]; exact hj
  exact ⟨l'[j], by simp [hj'], h.2 j d _ hd (by simp [hj'])⟩
theorem SRL.nil : SRL θ [] [] := ⟨rfl, fun j d d' h => by simp at h⟩
theorem SRL.cons {d d' l l'} (h : SR θ d d') (k : SRL θ l l') : SRL θ (d :: l) (d' :: l') :=
  ⟨by simp [k.1], fun j e e' h1 h2 => by
    cases j with
    | zero => simp at h1 h2; subst h1 h2; exact h
    | succ j => exact k.2 j e e' (by simpa using h1) (by simpa using h2)⟩
theorem SRL.inv_cons {d l m} (h : SRL θ (d :: l) m) : ∃ d' l', m = d' :: l' ∧ SR θ d d' ∧ SRL θ l l' := by
  cases m with
  | nil => simp [SRL] at h
  | cons d' l' => exact ⟨d', l', rfl, h.2 0 d d' rfl rfl, by simpa using h.1, fun j e e' h1 h2 => h.2 (j + 1) e e' (by simpa using h1) (by simpa using h2)⟩
theorem SRL.inv_nil {m} (h : SRL θ [] m) : m = [] := by
  have := h.1; simp at this; exact List.length_eq_zero_iff.1 this.symm
theorem SRL.append {l l' m m'} (h : SRL θ l l') (k : SRL θ m m') : SRL θ (l ++ m) (l' ++ m') :=
  ⟨by simp [h.1, k.1], fun j d d' h1 h2 => by
    by_cases hj : j < l.length
    · rw [List.getElem?_append_left hj] at h1
      rw [List.getElem?_append_left (by rw [← h.1]; exact hj)] at h2
      exact h.2 j d d' h1 h2
    · rw [List.getElem?_append_right (by omega)] at h1
      rw [List.getElem?_append_right (by rw [← h.1]; omega), ← h.1] at h2
      exact k.2 _ d d' h1 h2⟩
theorem SRL.take {l l'} (h : SRL θ l l') (n : Nat) : SRL θ (l.take n) (l'.take n) :=
  ⟨by simp [h.1], fun j d d' h1 h2 => by
    rw [List.getElem?_take] at h1 h2
    split at h1
    · rename_i hj; rw [if_pos hj] at h2; exact h.2 j d d' h1 h2
    · simp at h1⟩
theorem SRL.drop {l l'} (h : SRL θ l l') (n : Nat) : SRL θ (l.drop n) (l'.drop n) :=
  ⟨by simp [h.1], fun j d d' h1 h2 => by
    rw [List.getElem?_drop] at h1 h2
    exact h.2 _ d d' h1 h2⟩
theorem SRL.map {α : Type} {f g : α → DV} (l : List α) (h : ∀ x ∈ l, SR θ (f x) (g x)) : SRL θ (l.map f) (l.map g) :=
  ⟨by simp, fun j d d' h1 h2 => by
    simp only [List.getElem?_map, Option.map_eq_some_iff] at h1 h2
    obtain ⟨x, hx, rfl⟩ := h1
    obtain ⟨y, hy, rfl⟩ := h2
    rw [hx] at hy; cases hy
    exact h x (List.mem_of_getElem? hx)⟩
theorem SRL.setAt {ds ds' cs cs' : List DV} (h : SRL θ ds ds') (k : SRL θ cs cs') (off : Nat) : SRL θ (setAt ds off cs) (setAt ds' off cs') := by
  unfold Arb.setAt
  rw [k.1]
  exact ((h.take off).append k).append (h.drop _)
theorem SRLL.get {l l'} (h : SRLL θ l l') {j : Nat} {d} (hd : l[j]? = some d) : ∃ d', l'[j]? = some d' ∧ SRL θ d d' := by
  have hj : j < l.length := lt_of_get hd
  have hj' : j < l'.length := by rw [← h.1]; exact hj
  exact ⟨l'[j], by simp [hj'], h.2 j d _ hd (by simp [hj'])⟩
theorem SRLL.nil : SRLL θ [] [] := ⟨rfl, fun j d d' h => by simp at h⟩
theorem SRLL.cons {d d' l l'} (h : SRL θ d d') (k : SRLL θ l l') : SRLL θ (d :: l) (d' :: l') :=
  ⟨by simp [k.1], fun j e e' h1 h2 => by
    cases j with
    | zero => simp at h1 h2; subst h1 h2; exact h
    | succ j => exact k.2 j e e' (by simpa using h1) (by simpa using h2)⟩
theorem SRLL.append {l l' m m'} (h : SRLL θ l l') (k : SRLL θ m m') : SRLL θ (l ++ m) (l' ++ m') :=
  ⟨by simp [h.1, k.1], fun j d d' h1 h2 => by
    by_cases hj : j < l.length
    · rw [List.getElem?_append_left hj] at h1
      rw [List.getElem?_append_left (by rw [← h.1]; exact hj)] at h2
      exact h.2 j d d' h1 h2
    · rw [List.getElem?_append_right (by omega)] at h1
      rw [List.getElem?_append_right (by rw [← h.1]; omega), ← h.1] at h2
      exact k.2 _ d d' h1 h2⟩
theorem SRLL.take {l l'} (h : SRLL θ l l') (n : Nat) : SRLL θ (l.take n) (l'.take n) :=
  ⟨by simp [h.1], fun j d d' h1 h2 => by
    rw [List.getElem?_take] at h1 h2
    split at h1
    · rename_i hj; rw [if_pos hj] at h2; exact h.2 j d d' h1 h2
    · simp at h1⟩
theorem SRLL.drop {l l'} (h : SRLL θ l l') (n : Nat) : SRLL θ (l.drop n) (l'.drop n) :=
  ⟨by simp [h.1], fun j d d' h1 h2 => by
    rw [List.getElem?_drop] at h1 h2
    exact h.2 _ d d' h1 h2⟩
theorem SRLL.set {l l' : List (List DV)} {e e' : List DV} (h : SRLL θ l l') (k : SRL θ e e') (n : Nat) : SRLL θ (l.set n e) (l'.set n e') :=
  ⟨by simp [h.1], fun j d d' h1 h2 => by
    rw [List.getElem?_set] at h1 h2
    split at h1
    · rename_i hj; rw [if_pos hj] at h2
      split at h1
      · rename_i hlt
        rw [if_pos (by rw [← h.1]; exact hlt)] at h2
        cases h1; cases h2; exact k
      · simp at h1
    · rename_i hj; rw [if_neg hj] at h2; exact h.2 j d d' h1 h2⟩
theorem SRLL.lens {l l' : List (List DV)} (h : SRLL θ l l') {sz : Nat} (hz : ∀ es ∈ l, es.length = sz) : ∀ es ∈ l', es.length = sz := by
  intro es hes
  obtain ⟨j, hj, rfl⟩ := List.getElem_of_mem hes
  have hj' : j < l.length := by rw [h.1]; exact hj
  rw [← (h.2 j l[j] l'[j] (by simp) (by simp)).1]
  exact hz _ (List.getElem_mem _)
end

theorem nb_ofV (v : Value) : ofV v = .any ∨ nb (ofV v) = true := by
  unfold ofV
  split <;> first | exact .inr rfl | exact .inl rfl
theorem SR_ofV {θ : Nm} (v : Value) : SR θ (ofV v) (ofV v) := by
  rcases nb_ofV v with h | h
  · rw [h]; exact .any _
  · exact .imm _ h
theorem SRL_ofV {θ : Nm} (l : List Value) : SRL θ (l.map ofV) (l.map ofV) := SRL.map l fun v _ => SR_ofV v
theorem SR_ofVs {θ : Nm} (v : Value) : SR θ (ofVs v) (ofVs v) := by
  unfold ofVs
  split
  · exact .mk_agg (SRL_ofV _)
  · exact SR_ofV _
theorem SRL_zeroC {θ : Nm} {P : Program} {t : TypeId} {zs} (h : zeroC P t = some zs) : SRL θ zs zs := by
  unfold zeroC at h
  simp only [Option.bind_eq_some_iff, Option.map_eq_some_iff] at h
  obtain ⟨i, hi, v, hv, rfl⟩ := h
  exact SRL_ofV _
theorem SR_zeroV {θ : Nm} {P : Program} {t : TypeId} {z} (h : zeroV P t = some z) : SR θ z z := by
  unfold zeroV at h
  simp only [Option.map_eq_some_iff] at h
  obtain ⟨v, hv, rfl⟩ := h
  exact SR_ofVs _

/-! Parts of values -/
section
variable {θ : Nm} {P : Program}
theorem dcells_par {d d' cs} (h : SR θ d d') (hc : dcells d = some cs) : ∃ cs', dcells d' = some cs' ∧ SRL θ cs cs' := by
  have single : ∀ e e', SR θ e e' → SRL θ [e] [e'] := fun e e' h => .cons h .nil
  cases d with
  | any => simp [dcells] at hc
  | opt _ _ => simp [dcells] at hc
  | agg ds => simp [dcells] at hc; subst hc; obtain ⟨ds', rfl, h'⟩ := h.inv_agg; exact ⟨ds', rfl, h'⟩
  | b x => simp [dcells] at hc; subst hc; cases h.inv_b; exact ⟨_, rfl, single _ _ h⟩
  | i x => simp [dcells] at hc; subst hc; cases h.inv_i; exact ⟨_, rfl, single _ _ h⟩
  | s x => simp [dcells] at hc; subst hc; cases h.inv_s; exact ⟨_, rfl, single _ _ h⟩
  | nilp => simp [dcells] at hc; subst hc; cases h.inv_nilp; exact ⟨_, rfl, single _ _ h⟩
  | nilsl => simp [dcells] at hc; subst hc; cases h.inv_nilsl; exact ⟨_, rfl, single _ _ h⟩
  | nilmap => simp [dcells] at hc; subst hc; cases h.inv_nilmap; exact ⟨_, rfl, single _ _ h⟩
  | nilfn => simp [dcells] at hc; subst hc; cases h.inv_nilfn; exact ⟨_, rfl, single _ _ h⟩
  | nilif => simp [dcells] at hc; subst hc; cases h.inv_nilif; exact ⟨_, rfl, single _ _ h⟩
  | ptr k off => simp [dcells] at hc; subst hc; obtain ⟨x, e, rfl, hk⟩ := h.inv_ptr; exact ⟨_, rfl, single _ _ h⟩
  | vw k off n c => simp [dcells] at hc; subst hc; obtain ⟨x, e, rfl, hk⟩ := h.inv_vw; exact ⟨_, rfl, single _ _ h⟩
  | mp k => simp [dcells] at hc; subst hc; obtain ⟨x, e, rfl, hk⟩ := h.inv_mp; exact ⟨_, rfl, single _ _ h⟩
  | dp cs off => simp [dcells] at hc; subst hc; obtain ⟨rfl, hk⟩ := h.inv_dp; exact ⟨_, rfl, single _ _ h⟩
  | sl es => simp [dcells] at hc; subst hc; obtain ⟨rfl, hk⟩ := h.inv_sl; exact ⟨_, rfl, single _ _ h⟩
  | tup ds => simp [dcells] at hc; subst hc; obtain ⟨ds', rfl, h'⟩ := h.inv_tup; exact ⟨_, rfl, single _ _ h⟩
  | fn f a c => simp [dcells] at hc; subst hc; obtain ⟨a', c', rfl, h'⟩ := h.inv_fn; exact ⟨_, rfl, single _ _ h⟩
  | ifc t d => simp [dcells] at hc; subst hc; obtain ⟨e, rfl, h'⟩ := h.inv_ifc; exact ⟨_, rfl, single _ _ h⟩

theorem loadD_par {t cs cs' off d} (h : SRL θ cs cs') (hd : loadD P t cs off = some d) : ∃ d', loadD P t cs' off = some d' ∧ SR θ d d' := by
  unfold loadD at hd ⊢
  split at hd
  · rename_i n hl
    split at hd
    · rename_i hc
      simp at hd; subst hd
      refine ⟨.agg ((cs'.drop off).take n), by simp [← h.1, hc], .mk_agg ((h.drop off).take n)⟩
    · simp at hd
  · rename_i n hl
    exact h.get hd
  · simp at hd

theorem partD_par {g cs cs' off n d} (h : SRL θ cs cs') (hd : partD g cs off n = some d) : ∃ d', partD g cs' off n = some d' ∧ SR θ d d' := by
  unfold partD at hd ⊢
  cases g with
  | true =>
    simp only [if_true] at hd ⊢
    split at hd
    · rename_i hc
      simp at hd; subst hd
      exact ⟨_, by rw [if_pos (by rw [← h.1]; exact hc)], .mk_agg ((h.drop off).take n)⟩
    · simp at hd
  | false => exact h.get (by simpa using hd)

theorem fillD_par {place : Nat → Option (Nat × Nat)} : ∀ (ps ps' : List (Nat × DV)) (cs cs' ds : List DV), ps.map (·.1) = ps'.map (·.1) → SRL θ (ps.map (·.2)) (ps'.map (·.2)) → SRL θ cs cs' → fillD place cs ps = some ds →
    ∃ ds', fillD place cs' ps' = some ds' ∧ SRL θ ds ds' := by
  intro ps
  induction ps with
  | nil =>
    intro ps' cs cs' ds h1 h2 h3 h
    cases ps' with
    | cons p l => simp at h1
    | nil => simp [fillD] at h; subst h; exact ⟨cs', rfl, h3⟩
  | cons p ps ih =>
    intro ps' cs cs' ds h1 h2 h3 h
    cases ps' with
    | nil => simp at h1
    | cons p' ps' =>
      obtain ⟨i, d⟩ := p
      obtain ⟨i', d'⟩ := p'
      simp only [List.map_cons, List.cons.injEq] at h1
      obtain ⟨rfl, h1⟩ := h1
      obtain ⟨_, _, he, hd, hl⟩ := SRL.inv_cons (by simpa using h2)
      simp only [List.cons.injEq] at he
      obtain ⟨rfl, rfl⟩ := he
      simp only [fillD] at h ⊢
      split at h
      · rename_i off size xs hp hx
        obtain ⟨xs', hx', hxs⟩ := dcells_par hd hx
        split at h
        · rename_i hc
          rw [hp, hx']
          simp only
          rw [if_pos ⟨by rw [← hxs.1]; exact hc.1, by rw [← h3.1]; exact hc.2⟩]
          exact ih ps' _ _ ds h1 hl (h3.setAt hxs off) h
        · simp at h
      · simp at h

theorem bndD_par {ε ε' : Operand → DV} {x : Option Operand} {dflt n} (h : ∀ y, x = some y → SR θ (ε y) (ε' y)) (hb : bndD ε x dflt = some n) : bndD ε' x dflt = some n := by
  unfold bndD at hb ⊢
  cases x with
  | none => exact hb
  | some y =>
    simp only at hb ⊢
    have hy := h y rfl
    split at hb
    · rename_i k m hk
      rw [hk] at hy
      rw [hy.inv_i]
      exact hb
    · simp at hb
end

/-! Objects, stores -/
inductive OR (θ : Nm) : Nat → AObj → AObj → Prop where
  | cells (ds ds') (h : SRL θ ds ds') : OR θ 0 (.cells ds) (.cells ds')
  | arr (E sz el el' c e) (h : SRLL θ el el') : OR θ e (.arr E sz el c) (.arr E sz el' (c + e))
  | map (kvs kvs') (hl : kvs.length = kvs'.length) (hr : ∀ (j : Nat) p p', kvs[j]? = some p → kvs'[j]? = some p' → p'.1 = p.1 ∧ SR θ p.2 p'.2) : OR θ 0 (.map kvs) (.map kvs')

theorem OR.mono {θ θ' : Nm} (h : Ext θ θ') {e o o'} (k : OR θ e o o') : OR θ' e o o' := by
  cases k with
  | cells ds ds' hd => exact .cells _ _ (hd.mono h)
  | arr E sz el el' c e hd => exact .arr _ _ _ _ _ _ (hd.mono h)
  | map kvs kvs' hl hr => exact .map _ _ hl fun j p p' a b => ⟨(hr j p p' a b).1, (hr j p p' a b).2.mono h⟩

/-- The store of names, and the store: h has the objects by name. -/
structure NRel (θ : Nm) (nx : Nat) (h σ : Store) : Prop where
  dom : ∀ k p, θ k = some p → k < nx
  ob : ∀ k o, h k = some o → ∃ x e o', θ k = some (x, e) ∧ σ x = some o' ∧ OR θ e o o'
  inj : ∀ k k' o o' x e e', h k = some o → h k' = some o' → θ k = some (x, e) → θ k' = some (x, e') → k = k'

theorem NRel.less {θ nx h h' σ} (r : NRel θ nx h σ) (hl : ∀ k o, h' k = some o → h k = some o) : NRel θ nx h' σ :=
  ⟨r.dom, fun k o hk => r.ob k o (hl k o hk), fun k k' o o' x e e' h1 h2 h3 h4 => r.inj k k' o o' x e e' (hl _ _ h1) (hl _ _ h2) h3 h4⟩

def nput (θ : Nm) (k : Nat) (p : Nat × Nat) : Nm := fun j => if j = k then some p else θ j
theorem nput_ext {θ : Nm} {nx h σ p} (r : NRel θ nx h σ) : Ext θ (nput θ nx p) := fun k q hk => by
  unfold nput
  rw [if_neg (by have := r.dom k q hk; omega)]
  exact hk
theorem nput_same {θ : Nm} {k p} : nput θ k p k = some p := by simp [nput]

/-- A new object. -/
theorem NRel.new {θ nx h σ} (r : NRel θ nx h σ) {b e : Nat} {o o' : AObj} (hb : σ b = none) (ho : OR θ e o o') :
    NRel (nput θ nx (b, e)) (nx + 1) (sset h nx o) (sset σ b o') := by
  have hx := nput_ext (p := (b, e)) r
  refine ⟨fun k p hk => ?_, fun k o1 hk => ?_, fun k k' o1 o1' x e1 e1' h1 h2 h3 h4 => ?_⟩
  · unfold nput at hk
    split at hk
    · omega
    · have := r.dom k p hk; omega
  · unfold sset at hk
    split at hk
    · rename_i hkn; subst hkn
      cases hk
      exact ⟨b, e, o', nput_same, sset_same, ho.mono hx⟩
    · obtain ⟨x, e1, o1', h1, h2, h3⟩ := r.ob k o1 hk
      exact ⟨x, e1, o1', hx _ _ h1, by rw [sset_ne (by intro hxb; rw [hxb, hb] at h2; simp at h2)]; exact h2, h3.mono hx⟩
  · have key : ∀ k o, sset h nx o k = sset h nx o k := fun _ _ => rfl
    unfold sset at h1 h2
    unfold nput at h3 h4
    by_cases c1 : k = nx
    · by_cases c2 : k' = nx
      · rw [c1, c2]
      · rw [if_pos c1] at h3; rw [if_neg c2] at h4 h2
        cases h3
        obtain ⟨x', e2, o2, g1, g2, g3⟩ := r.ob k' _ h2
        rw [h4] at g1; cases g1
        rw [hb] at g2; simp at g2
    · rw [if_neg c1] at h3 h1
      by_cases c2 : k' = nx
      · rw [if_pos c2] at h4
        cases h4
        obtain ⟨x', e2, o2, g1, g2, g3⟩ := r.ob k _ h1
        rw [h3] at g1; cases g1
        rw [hb] at g2; simp at g2
      · rw [if_neg c2] at h4 h2
        exact r.inj k k' _ _ _ _ _ h1 h2 h3 h4

/-- A live object is written. -/
theorem NRel.write {θ nx h σ} (r : NRel θ nx h σ) {k x e : Nat} {o o1 o1' : AObj} (hk : h k = some o) (hx : θ k = some (x, e)) (ho : OR θ e o1 o1') :
    NRel θ nx (sset h k o1) (sset σ x o1') := by
  refine ⟨r.dom, fun j q hj => ?_, fun j j' q q' y e1 e1' h1 h2 h3 h4 => ?_⟩
  · unfold sset at hj
    split at hj
    · rename_i hjk; subst hjk; cases hj; exact ⟨x, e, o1', hx, sset_same, ho⟩
    · rename_i hjk
      obtain ⟨y, e', q', h1, h2, h3⟩ := r.ob j q hj
      refine ⟨y, e', q', h1, ?_, h3⟩
      rw [sset_ne (fun hyx => ?_)]
      · exact h2
      · subst hyx; exact hjk (r.inj j k _ _ _ _ _ hj hk h1 hx)
  · have hh : ∀ j q, sset h k o1 j = some q → ∃ q', h j = some q' := fun j q hj => by
      unfold sset at hj
      split at hj
      · rename_i hjk; subst hjk; exact ⟨_, hk⟩
      · exact ⟨_, hj⟩
    obtain ⟨_, g1⟩ := hh _ _ h1
    obtain ⟨_, g2⟩ := hh _ _ h2
    exact r.inj j j' _ _ _ _ _ g1 g2 h3 h4

/-- A live object goes, or moves. -/
theorem NRel.del {θ nx h σ} (r : NRel θ nx h σ) {k x e : Nat} {o : AObj} (hk : h k = some o) (hx : θ k = some (x, e)) : NRel θ nx (sdel h k) (sdel σ x) := by
  refine ⟨r.dom, fun j q hj => ?_, fun j j' q q' y e1 e1' h1 h2 h3 h4 => ?_⟩
  · unfold sdel at hj
    split at hj
    · simp at hj
    · rename_i hjk
      obtain ⟨y, e', q', h1, h2, h3⟩ := r.ob j q hj
      refine ⟨y, e', q', h1, ?_, h3⟩
      rw [sdel_ne (fun hyx => ?_)]
      · exact h2
      · subst hyx; exact hjk (r.inj j k _ _ _ _ _ hj hk h1 hx)
  · have hh : ∀ j q, sdel h k j = some q → h j = some q := fun j q hj => by
      unfold sdel at hj
      split at hj
      · simp at hj
      · exact hj
    exact r.inj j j' _ _ _ _ _ (hh _ _ h1) (hh _ _ h2) h3 h4
end Go.Arb
end

section
namespace Go.Arb
set_option linter.unusedVariables false
set_option linter.unusedSimpArgs false
open Go

section
variable {C : Cx} {o : Oper} {ε : Operand → DV} {σ : Store} {Q : DV → Store → Prop} {d : DV}

/-! ### Arrays, built -/
theorem y_buildArr {t : TypeId} {parts : Array (Nat × Operand)} {n s : Nat} {g : Bool} {z ds : List DV} (ho : o.op = .build t parts) (ha : alk C.P t = some (n, s, g)) (hz : zeroC C.P t = some z)
    (hf : fillD (fun i => some (i * s, s)) z (parts.toList.map fun p => (p.1, ε p.2)) = some ds) (hd : .agg ds = d) : Yields C o ε σ d := .of_run fun F w φ hr hS => by
  subst hd
  obtain ⟨e, hu, hl⟩ := alk_spec ha
  obtain ⟨td, ti, h1, h2, h3, h4⟩ := lk_spec hl
  unfold zeroC at hz
  simp only [Option.bind_eq_some_iff, Option.map_eq_some_iff] at hz
  obtain ⟨i, hi, zv, hzv, rfl⟩ := hz
  obtain ⟨vs', h1', h2', h3'⟩ := fill_sound (I := own F σ) (w := w) (pc := fun i => some (i * s, s)) (parts.toList.map fun p => (p.1, φ p.2)) _ zv.cells _ ds (by simp) (by
      intro j p q hp hq
      simp at hp hq
      obtain ⟨a, b, hab, rfl⟩ := hp
      obtain ⟨a', b', hab', rfl⟩ := hq
      rw [hab] at hab'
      simp at hab'
      obtain ⟨rfl, rfl⟩ := hab'
      refine ⟨rfl, hr b ?_⟩
      simp [ho, Op.operands]
      exact ⟨a, Array.mem_of_getElem? hab⟩) (by simp) (by
      intro j v d hv hd
      simp [hv] at hd
      subst hd; exact R_ofV _ _ _) hf
  refine ⟨.agg vs', ?_, .agg _ _ h2' h3'⟩
  have hfill : Instr.fill (fun i => some (i * s, s)) zv.cells (parts.map fun p => (p.1, φ p.2)).toList = some vs' := by
    rw [← h1']; simp
  simp only [execOp, ho, Instr.build, zeroValue, typeInfo, Sem.run_bind, run_program, Result.andThen_ok, hi, Sem.run_pure, hzv, run_underlying hu, run_sizeOf' h2, h4]
  simp only [hfill]
  rfl

/-! ### Slices against nil -/
def slnil : DV → Option Bool
  | .nilsl => some true
  | .vw _ _ _ _ => some false
  | .sl (_ :: _) => some false
  | _ => none

theorem slnil_sound {I w v d r} (h : slnil d = some r) (hv : R I w v d) : ∃ a n c, v = .slice a n c ∧ a.isNone = r := by
  unfold slnil at h
  split at h
  · cases hv; simp at h; exact ⟨_, _, _, rfl, by simpa using h⟩
  · cases hv; simp at h; exact ⟨_, _, _, rfl, by simpa using h⟩
  · cases hv with
    | sl x off n c sz elems cs E fz vals hI hb hn hcap hz hc hr hm => simp at h; exact ⟨_, _, _, rfl, by simpa using h⟩
  · simp at h

theorem equal_slnil {P : Program} {w : World} {t e : TypeId} (hu : P.underlying t = some (.slice e)) (a : Option Addr) (n c : Nat) : (Op.equal t (.slice a n c) (.slice none 0 0)).run P w = .ok a.isNone w := by
  have key : ∀ d, (Op.equalIn (d + 1) t (.slice a n c) (.slice none 0 0)).run P w = .ok a.isNone w := fun d => by
    cases a <;> simp [Op.equalIn, run_underlying hu]
  exact key 9999

theorem y_slnil {op : BinOp} {t t' : TypeId} {x y : Operand} {r : Bool} (ho : o.op = .binOp op t x y t') (hs : (slk C.P t).isSome = true) (hx : slnil (ε x) = some r) (hy : ε y = .nilsl) (hd : nilBin op r = some d) : Yields C o ε σ d := .of_run fun F w φ hr hS => by
  obtain ⟨s, hs⟩ := Option.isSome_iff_exists.1 hs
  obtain ⟨e, ti, hu, hti, hts⟩ := slk_spec hs
  obtain ⟨a, n, c, hvx, ha⟩ := slnil_sound hx (hr x (by simp [ho, Op.operands]))
  have hvy := hr y (by simp [ho, Op.operands])
  rw [hy] at hvy
  have hvy' : φ y = .slice none 0 0 := by generalize φ y = v at hvy; cases hvy; rfl
  have heq := equal_slnil (P := C.P) (w := w) hu a n c
  rw [ha] at heq
  have hg : (eqGuard op t x y (φ x) (φ y)).run C.P w = .ok () w := run_eqGuard_plain op t x y _ _ (by rw [hvx, hvy']; rfl)
  rw [hvx, hvy'] at hg
  cases op <;> simp [nilBin] at hd
  · subst hd
    exact ⟨.bool r, by simp [execOp, ho, hvx, hvy', hg, binOp, heq], .b _⟩
  · subst hd
    exact ⟨.bool (!r), by simp [execOp, ho, hvx, hvy', hg, binOp, heq], .b _⟩

/-! ### Pointers into one block -/
theorem y_ptrEq {op : BinOp} {t t' el : TypeId} {i : TypeInfo} {x y : Operand} {b off off' : Nat} (ho : o.op = .binOp op t x y t') (hu : C.P.underlying t = some (.pointer el)) (hi : C.P.info? el = some i) (h0 : i.size ≠ 0)
    (hx : ε x = .ptr b off) (hy : ε y = .ptr b off') (hd : nilBin op (off == off') = some d) : Yields C o ε σ d := .of_run fun F w φ hr hS => by
  have h1 := hr x (by simp [ho, Op.operands])
  have h2 := hr y (by simp [ho, Op.operands])
  rw [hx] at h1; rw [hy] at h2
  have hvx : φ x = .pointer (some ⟨b, off, none⟩) := by generalize φ x = v at h1; cases h1; rfl
  have hvy : φ y = .pointer (some ⟨b, off', none⟩) := by generalize φ y = v at h2; cases h2; rfl
  have heq : (Op.equal t (.pointer (some ⟨b, off, none⟩)) (.pointer (some ⟨b, off', none⟩))).run C.P w = .ok (off == off') w := by
    have key : ∀ d, (Op.equalIn (d + 1) t (.pointer (some ⟨b, off, none⟩)) (.pointer (some ⟨b, off', none⟩))).run C.P w = .ok (off == off') w := fun d => by
      have he : ((⟨b, off, none⟩ : Addr) == ⟨b, off', none⟩) = (off == off') := by
        rw [Bool.eq_iff_iff]; simp
      simp [Op.equalIn, run_underlying hu, run_sizeOf' hi, h0, sameAddr, he]
    exact key 9999
  have hg : (eqGuard op t x y (φ x) (φ y)).run C.P w = .ok () w := run_eqGuard_plain op t x y _ _ (by rw [hvx, hvy]; rfl)
  rw [hvx, hvy] at hg
  cases op <;> simp [nilBin] at hd
  · subst hd
    exact ⟨.bool (off == off'), by simp [execOp, ho, hvx, hvy, hg, binOp, heq], .b _⟩
  · subst hd
    exact ⟨.bool (!(off == off')), by simp [execOp, ho, hvx, hvy, hg, binOp, heq], .b _⟩

/-! ### Conversions -/
theorem y_convStr {s t : TypeId} {x : Operand} {l : List UInt8} (ho : o.op = .convert s t x) (hx : ε x = .s l) (hs : (C.P.underlying s).isSome = true) (ht : C.P.underlying t = some .string) (hd : .s l = d) : Yields C o ε σ d := .of_run fun F w φ hr hS => by
  have h1 := hr x (by simp [ho, Op.operands])
  rw [hx] at h1
  obtain ⟨bs, hbs, hl⟩ := R_s h1
  obtain ⟨ds, hds⟩ := Option.isSome_iff_exists.1 hs
  subst hd
  refine ⟨.string bs, ?_, .s _ _ hl⟩
  simp [execOp, ho, hbs, convert, run_underlying hds, run_underlying ht]

/-- A pointer seen without its type. -/
theorem y_convUn {s t el : TypeId} {i : TypeInfo} {x : Operand} {b off : Nat} {E : TypeId} {sz c : Nat} {elems : List (List DV)} (ho : o.op = .convert s t x) (hx : ε x = .ptr b off) (hs : C.P.underlying s = some (.pointer el)) (ht : C.P.underlying t = some .unsafePointer)
    (hi : C.P.info? el = some i) (h0 : i.size ≠ 0) (hb : σ b = some (.arr E sz elems c)) (hoff : off < c * sz) (hd : .ptr b off = d) : Yields C o ε σ d := .of_run fun F w φ hr hS => by
  have h1 := hr x (by simp [ho, Op.operands])
  rw [hx] at h1
  have hvx : φ x = .pointer (some ⟨b, off, none⟩) := by generalize φ x = v at h1; cases h1; rfl
  obtain ⟨cs, hh, hcs, _⟩ := hS.ob b _ hb
  have hsh : w.shape? b = some (E, cs.size) := by simp [World.shape?, hh]
  subst hd
  refine ⟨_, ?_, .ptr _ _⟩
  have hn : ¬ (off ≥ cs.size) := by omega
  simp [execOp, ho, hvx, convert, run_underlying hs, run_underlying ht, Conv.unsafePointer, Conv.seenAt, viewAt, cellsIn, hsh, run_sizeOf' hi, h0, hn]

/-- A pointer whose type is seen again. -/
theorem y_convRe {s t el : TypeId} {i : TypeInfo} {x : Operand} {b off : Nat} {E : TypeId} {sz c : Nat} {elems : List (List DV)} (ho : o.op = .convert s t x) (hx : ε x = .ptr b off) (hs : C.P.underlying s = some .unsafePointer) (ht : C.P.underlying t = some (.pointer el))
    (hi : C.P.info? el = some i) (h0 : i.size ≠ 0) (hb : σ b = some (.arr E sz elems c)) (hl : liesAt C.P C.P.depth E (c * sz / C.P.cellsOf E) off el 1 = true) (hd : .ptr b off = d) : Yields C o ε σ d := .of_run fun F w φ hr hS => by
  have h1 := hr x (by simp [ho, Op.operands])
  rw [hx] at h1
  have hvx : φ x = .pointer (some ⟨b, off, none⟩) := by generalize φ x = v at h1; cases h1; rfl
  obtain ⟨cs, hh, hcs, _⟩ := hS.ob b _ hb
  have hsh : w.shape? b = some (E, cs.size) := by simp [World.shape?, hh]
  subst hd
  refine ⟨_, ?_, .ptr _ _⟩
  rw [← hcs] at hl
  simp [execOp, ho, hvx, convert, run_underlying hs, run_underlying ht, Conv.unsafePointer, Conv.seenAt, viewAt, hsh, run_sizeOf' hi, h0, variablesAt, hl]

/-! ### A struct of its own, with its type -/
theorem ORel_one {I : Nat → Prop} {w : World} {x : Nat} {E : TypeId} {sz : Nat} {ds : List DV} {cs : Array Value} (hb : w.heap[x]? = some (.cells cs E (0, 0))) (hcs : cs.size = ds.length) (hsz : ds.length = sz)
    (hr : ∀ (j : Nat) v d, cs[j]? = some v → ds[j]? = some d → R I w v d) : ORel I w x (.arr E sz [ds] 1) := by
  refine ⟨cs, hb, by omega, by simp, by unfold maxLen; omega, by simp [hsz], fun i j es d hi hj => ?_⟩
  cases i with
  | succ i => simp at hi
  | zero =>
    simp at hi; subst hi
    have hlt := lt_of_get hj
    have hlt' : j < cs.size := by omega
    exact ⟨cs[j], by simp [hlt'], hr j _ d (by simp [hlt']) hj⟩

theorem AOp_allocT {t : TypeId} {zs : List DV} {sz : Nat} (ho : o.op = .alloc t) (hz : zeroC C.P t = some zs) (hsz : zs.length = sz) (hq : ∀ b, σ b = none → Q (.ptr b 0) (sset σ b (.arr t sz [zs] 1))) : AOp C o ε σ Q := by
  intro F w φ hr hS
  unfold zeroC at hz
  simp only [Option.bind_eq_some_iff, Option.map_eq_some_iff] at hz
  obtain ⟨i, hi, zv, hzv, rfl⟩ := hz
  have hrun : (execOp φ o).run C.P w = .ok (.value (.pointer (some ⟨w.heap.size, 0, none⟩))) (w.alloc (.cells zv.cells t)) := by
    simp [execOp, ho, Instr.alloc, zeroValue, typeInfo, hi, hzv, newVar, newRow]
  rw [hrun]
  have hn := Sim.new hS (.cells zv.cells t) (.arr t sz [zv.cells.toList.map ofV] 1) (fun hown => ORel_one (heap_push_new w _) (by simp) hsz (fun j v d hv hd => by
    simp [hv] at hd; subst hd; exact R_ofV _ _ _))
  exact ⟨_, _, .ptr _ _, hn.1, hn.2, hq _ (hS.none_of_ge (Nat.le_refl _))⟩

theorem AOp_boxT {t : TypeId} {x : Operand} {cs : List DV} {sz : Nat} (ho : o.op = .box t x) (hc : dcells (ε x) = some cs) (hsz : cs.length = sz) (hq : ∀ b, σ b = none → Q (.ptr b 0) (sset σ b (.arr t sz [cs] 1))) : AOp C o ε σ Q := by
  intro F w φ hr hS
  have h1 := hr x (by simp [ho, Op.operands])
  obtain ⟨hl, hR⟩ := R_cells h1 hc
  have hrun : (execOp φ o).run C.P w = .ok (.value (.pointer (some ⟨w.heap.size, 0, none⟩))) (w.alloc (.cells (φ x).cells t)) := by
    simp [execOp, ho, Instr.box, newVar, newRow]
  rw [hrun]
  have hn := Sim.new hS (.cells (φ x).cells t) (.arr t sz [cs] 1) (fun hown => ORel_one (heap_push_new w _) hl hsz (fun j v d hv hd => (hR j v d hv hd).mono fun y hy hlt => ⟨heap_push_lt hlt, fun h => hy (hown y h (by omega))⟩))
  exact ⟨_, _, .ptr _ _, hn.1, hn.2, hq _ (hS.none_of_ge (Nat.le_refl _))⟩

/-! ### Slices, further -/
/-- 's[i:j:k]', looked at by nobody. -/
theorem y_slice3 {t : TypeId} {x : Operand} {lo : Option Operand} {hi mx : Operand} {b off n c l h m s : Nat} (ho : o.op = .slice t x lo (some hi) (some mx)) (hx : ε x = .vw b off n c) (hs : slk C.P t = some s)
    (h1 : bndD ε lo 0 = some l) (h2 : bndD ε (some hi) 0 = some h) (h3 : bndD ε (some mx) 0 = some m) (h4 : l ≤ h) (h5 : h ≤ m) (h6 : m ≤ c) (hd : .any = d) : Yields C o ε σ d := .of_run fun F w φ hr hS => by
  obtain ⟨m1, m2, m3, m4⟩ := mem_slice ho
  have hx1 := hr x m1
  rw [hx] at hx1
  obtain ⟨e, ti, hu, hti, hts⟩ := slk_spec hs
  subst hd
  have hv : φ x = .slice (some ⟨b, off, none⟩) n c := by generalize φ x = v at hx1; cases hx1; rfl
  have hm := bnd_run (P := C.P) (w := w) (dflt := 0) (top := c) .slice3Acap (hr mx (m4 mx rfl)) h3 h6
  have hh := bnd_run (P := C.P) (w := w) (dflt := 0) (top := m) .slice3B (hr hi (m3 hi rfl)) h2 h5
  have hl : ∀ lv, lo = some lv → (Instr.sliceBound (φ lv) h .slice3C).run C.P w = .ok l w := fun lv e => by
    subst e
    exact bnd_run (P := C.P) (w := w) (dflt := 0) (top := h) .slice3C (hr lv (m2 lv rfl)) h1 h4
  cases lo with
  | none =>
    simp [bndD] at h1
    subst h1
    refine ⟨.slice (if m = 0 then some ⟨b, off, none⟩ else (some (⟨b, off, none⟩ : Addr)).map (·.add (0 * s))) (h - 0) (m - 0), ?_, .any _⟩
    simp [execOp, ho, hv, Instr.sliceAt, Instr.slice, run_underlying hu, Instr.sliceBounds, hm, hh, run_sizeOf' hti, hts]
  | some lv =>
    refine ⟨.slice (if m = l then some ⟨b, off, none⟩ else (some (⟨b, off, none⟩ : Addr)).map (·.add (l * s))) (h - l) (m - l), ?_, .any _⟩
    simp [execOp, ho, hv, Instr.sliceAt, Instr.slice, run_underlying hu, Instr.sliceBounds, hm, hh, hl lv rfl, run_sizeOf' hti, hts]

theorem y_slice_nil {t : TypeId} {x : Operand} {lo hi : Option Operand} {s : Nat} (ho : o.op = .slice t x lo hi none) (hx : ε x = .nilsl) (hs : slk C.P t = some s)
    (h1 : bndD ε lo 0 = some 0) (h2 : bndD ε hi 0 = some 0) (hd : .nilsl = d) : Yields C o ε σ d := .of_run fun F w φ hr hS => by
  obtain ⟨m1, m2, m3, m4⟩ := mem_slice ho
  have hx1 := hr x m1
  rw [hx] at hx1
  obtain ⟨e, ti, hu, hti, hts⟩ := slk_spec hs
  subst hd
  have hv : φ x = .slice none 0 0 := by generalize φ x = v at hx1; cases hx1; rfl
  have hb := bounds2_run (P := C.P) (isS := true) (len := 0) (cap := 0) (fun y hy => hr y (m2 y hy)) (fun y hy => hr y (m3 y hy)) h1 h2 (Nat.le_refl _) (Nat.le_refl _)
  refine ⟨.slice none 0 0, ?_, .nilsl⟩
  simp [execOp, ho, hv, Instr.sliceAt, Instr.slice, run_underlying hu, hb, run_sizeOf' hti]

/-- An array's part, as a slice. -/
theorem y_slice_arr {t : TypeId} {x : Operand} {lo hi : Option Operand} {b off n l h s : Nat} {g : Bool} (ho : o.op = .slice t x lo hi none) (hx : ε x = .ptr b off) (ha : alk C.P t = some (n, s, g))
    (h1 : bndD ε lo 0 = some l) (h2 : bndD ε hi n = some h) (h3 : l ≤ h) (h4 : h ≤ n) (hd : .vw b (if n = l then off else off + l * s) (h - l) (n - l) = d) : Yields C o ε σ d := .of_run fun F w φ hr hS => by
  obtain ⟨m1, m2, m3, m4⟩ := mem_slice ho
  have hx1 := hr x m1
  rw [hx] at hx1
  obtain ⟨e, hu, hl⟩ := alk_spec ha
  obtain ⟨td, ti, e1, e2, e3, e4⟩ := lk_spec hl
  subst hd
  have hv : φ x = .pointer (some ⟨b, off, none⟩) := by generalize φ x = v at hx1; cases hx1; rfl
  have hb := bounds2_run (P := C.P) (isS := false) (len := n) (cap := n) (fun y hy => hr y (m2 y hy)) (fun y hy => hr y (m3 y hy)) h1 h2 h3 h4
  refine ⟨.slice (if n = l then some ⟨b, off, none⟩ else some ⟨b, off + l * s, none⟩) (h - l) (n - l), ?_, ?_⟩
  · simp [execOp, ho, hv, Instr.sliceAt, Instr.sureAddr, run_underlying hu, hb, run_sizeOf' e2, e4, add_mk]
    split <;> simp [*]
  · split <;> exact .vw _ _ _ _
end
end Go.Arb
end

section
namespace Go.Arb
set_option linter.unusedVariables false
set_option linter.unusedSimpArgs false
open Go Go.Lib

theorem flatten_drop {sz : Nat} : ∀ {elems : List (List DV)} (m : Nat), (∀ e ∈ elems, e.length = sz) → (elems.drop m).flatten = elems.flatten.drop (m * sz) := by
  intro elems
  induction elems with
  | nil => intro m _; simp
  | cons a l ih =>
    intro m hz
    have ha := hz a (by simp)
    have hl : ∀ e ∈ l, e.length = sz := fun e he => hz e (by simp [he])
    cases m with
    | zero => simp
    | succ m =>
      simp only [List.drop_succ_cons, List.flatten_cons]
      rw [ih m hl, Nat.succ_mul, Nat.add_comm, List.drop_append, List.drop_of_length_le (l := a) (by omega)]
      simp [ha, Nat.add_sub_cancel_left]

theorem flatten_take {sz : Nat} : ∀ {elems : List (List DV)} (m : Nat), (∀ e ∈ elems, e.length = sz) → (elems.take m).flatten = elems.flatten.take (m * sz) := by
  intro elems
  induction elems with
  | nil => intro m _; simp
  | cons a l ih =>
    intro m hz
    have ha := hz a (by simp)
    have hl : ∀ e ∈ l, e.length = sz := fun e he => hz e (by simp [he])
    cases m with
    | zero => simp
    | succ m =>
      simp only [List.take_succ_cons, List.flatten_cons]
      rw [ih m hl, Nat.succ_mul, Nat.add_comm, List.take_append, List.take_of_length_le (l := a) (by omega)]
      simp [ha, Nat.add_sub_cancel_left]

theorem flatG {sz n : Nat} {elems ns : List (List DV)} (hz : ∀ e ∈ elems, e.length = sz) (hz' : ∀ e ∈ ns, e.length = sz) (hn : n ≤ elems.length) (j : Nat) :
    (elems.take n ++ ns ++ elems.drop (n + ns.length)).flatten[j]? = if n * sz ≤ j ∧ j < n * sz + ns.length * sz then ns.flatten[j - n * sz]? else elems.flatten[j]? := by
  simp only [List.flatten_append]
  have hl := flatten_len hz
  have hns := flatten_len hz'
  have hle : n * sz ≤ elems.length * sz := Nat.mul_le_mul_right _ hn
  rw [flatten_take n hz, flatten_drop (n + ns.length) hz]
  have hlt : (elems.flatten.take (n * sz)).length = n * sz := by rw [List.length_take]; omega
  by_cases h1 : j < n * sz
  · rw [if_neg (by omega), List.append_assoc, List.getElem?_append_left (by omega), List.getElem?_take, if_pos h1]
  · by_cases h2 : j < n * sz + ns.length * sz
    · rw [if_pos ⟨by omega, h2⟩, List.append_assoc, List.getElem?_append_right (by omega), List.getElem?_append_left (by omega), hlt]
    · rw [if_neg (by omega), List.getElem?_append_right (by rw [List.length_append]; omega), List.getElem?_drop, List.length_append, hlt, hns, Nat.add_mul]
      congr 1; omega

section
variable {C : Cx} {o : Oper} {ε : Operand → DV} {σ : Store} {Q : DV → Store → Prop} {d : DV}

/-- Elements of a row of one's own are written. -/
theorem Sim.writeArr {F w} (hS : Sim C F σ w) {b E sz c : Nat} {elems ns : List (List DV)} {cs : Array Value} {news : List Value} {n : Nat} (hb : σ b = some (.arr E sz elems c)) (hh : w.heap[b]? = some (.cells cs E (0, 0)))
    (hnl : news.length = ns.length * sz) (hz : ∀ e ∈ ns, e.length = sz) (hn : n ≤ elems.length) (hc : n + ns.length ≤ c) (hR : ∀ (j : Nat) u d, news[j]? = some u → ns.flatten[j]? = some d → R (own F σ) w u d) :
    Sim C F (sset σ b (.arr E sz (elems.take n ++ ns ++ elems.drop (n + ns.length)) c)) (w.setRow b (cs.toList.take (n * sz) ++ news ++ cs.toList.drop (n * sz + news.length)).toArray) ∧
    Step σ w (sset σ b (.arr E sz (elems.take n ++ ns ++ elems.drop (n + ns.length)) c)) (w.setRow b (cs.toList.take (n * sz) ++ news ++ cs.toList.drop (n * sz + news.length)).toArray) := by
  obtain ⟨cs', hh', hcs, hlc, hcm, hzb, hbR⟩ := hS.ob b _ hb
  rw [hh] at hh'
  cases hh'
  have hbn : σ b ≠ none := by simp [hb]
  have hle : (n + ns.length) * sz ≤ c * sz := Nat.mul_le_mul_right _ (by omega)
  rw [Nat.add_mul] at hle
  have holdR : ∀ (j : Nat) v d, cs[j]? = some v → elems.flatten[j]? = some d → R (own F σ) w v d := by
    intro j v d hv hd
    obtain ⟨h0, h1, h2, h3⟩ := flatten_at hzb hd
    have hi : elems[j / sz]? = some (elems.getD (j / sz) []) := by simp [h1]
    obtain ⟨v', hv', hR⟩ := hbR _ _ _ d hi h3
    rw [Nat.div_add_mod'] at hv'
    rw [hv] at hv'
    simp at hv'
    exact hv' ▸ hR
  have hfit : n * sz + news.length ≤ cs.size := by rw [hnl, hcs]; omega
  have hsize : (cs.toList.take (n * sz) ++ news ++ cs.toList.drop (n * sz + news.length)).toArray.size = c * sz := by simp; omega
  exact Sim.write hS (b := b) (w' := w.setRow b (cs.toList.take (n * sz) ++ news ++ cs.toList.drop (n * sz + news.length)).toArray) hbn (.arr E sz (elems.take n ++ ns ++ elems.drop (n + ns.length)) c) rfl rfl rfl (by simp)
    (fun y hy => setRow_other w b y _ hy) (by
      refine ORel_grown (setRow_heap w b cs _ E _ hh) hsize (by simp; omega) hcm (fun e he => by
        rcases List.mem_append.1 he with h | h
        · rcases List.mem_append.1 h with h | h
          · exact hzb e (List.mem_of_mem_take h)
          · exact hz e h
        · exact hzb e (List.mem_of_mem_drop h)) (fun j v d hv hd => ?_)
      have hmono : ∀ v d, R (own F σ) w v d → R (own F σ) (w.setRow b (cs.toList.take (n * sz) ++ news ++ cs.toList.drop (n * sz + news.length)).toArray) v d :=
        fun v d h => h.mono fun y hy hlt => ⟨setRow_other w b y _ (fun e => hy (.inr (e ▸ hbn))), hy⟩
      have hv' : (cs.toList.take (n * sz) ++ news ++ cs.toList.drop (n * sz + news.length))[j]? = some v := by simpa using hv
      rw [set_get (by simpa using hfit)] at hv'
      rw [flatG hzb hz hn] at hd
      rw [hnl] at hv'
      by_cases hj : n * sz ≤ j ∧ j < n * sz + ns.length * sz
      · rw [if_pos hj] at hv' hd
        exact hmono _ _ (hR _ v d hv' hd)
      · rw [if_neg hj] at hv' hd
        exact hmono _ _ (holdR j v d (by simpa using hv') hd))

/-- A new row of one's own. -/
theorem Sim.newArr {F w} (hS : Sim C F σ w) {E sz c : Nat} {ns : List (List DV)} {cs : Array Value} (hcs : cs.size = c * sz) (hl : ns.length ≤ c) (hm : c ≤ maxLen) (hz : ∀ e ∈ ns, e.length = sz)
    (hR : ∀ (j : Nat) u d, cs[j]? = some u → ns.flatten[j]? = some d → R (own F σ) w u d) :
    Sim C F (sset σ w.heap.size (.arr E sz ns c)) (w.alloc (.cells cs E)) ∧ Step σ w (sset σ w.heap.size (.arr E sz ns c)) (w.alloc (.cells cs E)) :=
  Sim.new hS (.cells cs E) (.arr E sz ns c) (fun hown => ORel_grown (heap_push_new w _) hcs hl hm hz fun j v d hv hd =>
    (hR j v d hv hd).mono fun y hy hlt => ⟨heap_push_lt hlt, fun h => hy (hown y h (by omega))⟩)

/-! ### Bytes of strings, appended -/
def strEl (l : List UInt8) : List (List DV) := l.map fun b => [.i .u8 b.toNat]
theorem strEl_z (l : List UInt8) : ∀ e ∈ strEl l, e.length = 1 := by
  intro e he
  simp [strEl] at he
  obtain ⟨b, _, rfl⟩ := he
  rfl
theorem strEl_flat (l : List UInt8) : (strEl l).flatten = l.map fun b => DV.i .u8 b.toNat := by
  induction l with
  | nil => rfl
  | cons a l ih => simp [strEl] at ih ⊢; exact ih
theorem strEl_R {I w} (s : ByteArray) : ∀ (j : Nat) u d, (strCells s)[j]? = some u → (strEl s.data.toList).flatten[j]? = some d → R I w u d := by
  intro j u d hu hd
  rw [strEl_flat] at hd
  simp [strCells] at hu hd
  obtain ⟨a, ha, rfl⟩ := hu
  obtain ⟨b, hb, rfl⟩ := hd
  rw [ha] at hb; cases hb
  exact .i _ _

theorem AOp_append_str_nil {t u : TypeId} {s x : Operand} {E : TypeId} {l : List UInt8} (ho : o.op = .call ⟨.builtin .append, #[s, x], #[t, u]⟩) (hs : ε s = .nilsl) (hx : ε x = .s l) (hu : C.P.underlying u = some .string) (hk : apk C.P t = some (E, 1, 1))
    (hne : l ≠ []) (hbd : l.length ≤ 140737488355328) (hq : ∀ b c, σ b = none → l.length ≤ c → Q (.vw b 0 l.length c) (sset σ b (.arr E 1 (strEl l) c))) : AOp C o ε σ Q := by
  intro F w φ hr hS
  have hs1 := hr s (by simp [ho, Op.operands, Call.operands])
  have hx1 := hr x (by simp [ho, Op.operands, Call.operands])
  rw [hs] at hs1
  rw [hx] at hx1
  obtain ⟨bs, hbs, rfl⟩ := R_s hx1
  obtain ⟨i, z, hut, hi, hz0, hzs, hsz, hpos, hby⟩ := apk_spec hk
  have hvs : φ s = .slice none 0 0 := by generalize φ s = v at hs1; cases hs1; rfl
  have hlen : bs.data.toList.length = bs.size := by simp
  rw [hlen] at hbd hq
  have h0 : 0 < bs.size := by
    rcases Nat.eq_zero_or_pos bs.size with h | h
    · exact absurd (List.length_eq_zero_iff.1 (hlen.trans h)) hne
    · exact h
  have hap := run_append_nil_string (P := C.P) w t u o.type E i z hut hu hi hz0 bs h0 (by omega) (by rw [hby]; omega)
  have hrun : (execOp φ o).run C.P w = .ok (.value (.slice (some ⟨w.heap.size, 0, none⟩) bs.size (grownCap w bs.size 0 E))) (w.drew.alloc (.cells (bs.data.map (fun b => Value.int .u8 b.toNat) ++ Builtin.zeroCells z.cells (grownCap w bs.size 0 E - bs.size)) E)) := by
    simp [execOp, ho, resolve, invoke, builtin, hvs, hbs, hap]
  rw [hrun]
  have hge := grownCap_ge w bs.size 0 E
  have hn := Sim.newArr hS.drew (E := E) (sz := 1) (c := grownCap w bs.size 0 E) (ns := strEl bs.data.toList) (cs := bs.data.map (fun b => Value.int .u8 b.toNat) ++ Builtin.zeroCells z.cells (grownCap w bs.size 0 E - bs.size))
    (by simp only [Array.size_append, Array.size_map, size_zeroCells, hzs]; have : bs.data.size = bs.size := rfl; omega) (by simp [strEl]; exact hge) (grownCap_le_maxLen w bs.size 0 E (by unfold maxLen; omega)) (strEl_z _) (fun j v d hv hd => by
      have hj : j < bs.data.size := by have := lt_of_get hd; rw [strEl_flat] at this; simpa using this
      rw [Array.getElem?_append_left (by simpa using hj)] at hv
      refine strEl_R bs j v d ?_ hd
      rw [← hv]; simp [strCells])
  exact ⟨_, _, .vw _ _ _ _, hn.1, Step.drew.trans hn.2, hq _ _ (hS.none_of_ge (Nat.le_refl _)) hge⟩

theorem AOp_append_str_own {t u : TypeId} {s x : Operand} {b c : Nat} {E : TypeId} {elems : List (List DV)} {l : List UInt8} (ho : o.op = .call ⟨.builtin .append, #[s, x], #[t, u]⟩) (hs : ε s = .vw b 0 elems.length c) (hb : σ b = some (.arr E 1 elems c)) (hx : ε x = .s l) (hu : C.P.underlying u = some .string) (hk : apk C.P t = some (E, 1, 1))
    (hbd : elems.length + l.length ≤ 140737488355328)
    (hq : ∀ b' c', sdel σ b b' = none → elems.length + l.length ≤ c' → Q (.vw b' 0 (elems.length + l.length) c') (sset (sdel σ b) b' (.arr E 1 (elems ++ strEl l) c'))) : AOp C o ε σ Q := by
  intro F w φ hr hS
  have hs1 := hr s (by simp [ho, Op.operands, Call.operands])
  have hx1 := hr x (by simp [ho, Op.operands, Call.operands])
  rw [hs] at hs1
  rw [hx] at hx1
  obtain ⟨bs, hbs, rfl⟩ := R_s hx1
  obtain ⟨i, z, hut, hi, hz0, hzs, hsz, hpos, hby⟩ := apk_spec hk
  have hvs : φ s = .slice (some ⟨b, 0, none⟩) elems.length c := by generalize φ s = v at hs1; cases hs1; rfl
  have hlen : bs.data.toList.length = bs.size := by simp
  rw [hlen] at hbd hq
  obtain ⟨cs, hh, hcs, hlc, hcm, hzb, hbR⟩ := hS.ob b _ hb
  have hbn : σ b ≠ none := by simp [hb]
  have hcl : (strCells bs).length = bs.size := strCells_length bs
  have hstl : (strEl bs.data.toList).length = bs.size := by simp [strEl]
  by_cases hroom : elems.length + bs.size ≤ c
  · have hap := run_append_room_string (P := C.P) w t u o.type E i hut hu hi hsz b elems.length c cs hh bs hroom (by omega)
    have hrun : (execOp φ o).run C.P w = .ok (.value (.slice (some ⟨b, 0, none⟩) (elems.length + bs.size) c)) (w.setRow b (cs.toList.take elems.length ++ strCells bs ++ cs.toList.drop (elems.length + bs.size)).toArray) := by
      simp [execOp, ho, resolve, invoke, builtin, hvs, hbs, hap]
    rw [hrun]
    have hn := Sim.writeArr hS (n := elems.length) (ns := strEl bs.data.toList) (news := strCells bs) hb hh (by omega) (strEl_z _) (Nat.le_refl _) (by omega) (strEl_R bs)
    simp only [Nat.mul_one, hcl, List.take_length, List.drop_of_length_le (Nat.le_add_right elems.length (strEl bs.data.toList).length), List.append_nil] at hn
    rw [← own_sdel_sset (F := F) hbn] at hn
    exact ⟨_, _, .vw _ _ _ _, hn.1, hn.2, hq b c sdel_same (by omega)⟩
  · have holds : ∀ (j : Nat) u, (cs.toList.take elems.length)[j]? = some u → w.cell? ((⟨b, 0, none⟩ : Addr).add j) = some u := by
      intro j u hu
      rw [List.getElem?_take] at hu
      split at hu
      · rw [add_mk, cell_row hh, Nat.zero_add]; simpa using hu
      · simp at hu
    have hap := run_append_grow_string (P := C.P) w t u o.type E i z hut hu hi hz0 ⟨b, 0, none⟩ elems.length c (cs.toList.take elems.length) (by rw [hsz]; simp; omega) holds bs (by omega) (by omega)
      (growslice_fits (by omega) (by rw [hby]; omega))
    have hrun : (execOp φ o).run C.P w = .ok (.value (.slice (some ⟨w.heap.size, 0, none⟩) (elems.length + bs.size) (grownCap w (elems.length + bs.size) c E)))
        (w.drew.alloc (.cells ((cs.toList.take elems.length).toArray ++ (strCells bs).toArray ++ Builtin.zeroCells z.cells (grownCap w (elems.length + bs.size) c E - (elems.length + bs.size))) E)) := by
      simp only [execOp, ho, resolve, invoke, builtin]
      simp [hvs, hbs, hap]
    rw [hrun]
    obtain ⟨hSd, hstd, hRd⟩ := Sim.drop hS.drew b
    have hge := grownCap_ge w (elems.length + bs.size) c E
    have hl1 : (cs.toList.take elems.length).length = elems.length := by simp; omega
    have hfl := flatten_len hzb
    have hn := Sim.newArr hSd (E := E) (sz := 1) (c := grownCap w (elems.length + bs.size) c E) (ns := elems ++ strEl bs.data.toList)
      (cs := (cs.toList.take elems.length).toArray ++ (strCells bs).toArray ++ Builtin.zeroCells z.cells (grownCap w (elems.length + bs.size) c E - (elems.length + bs.size)))
      (by simp only [Array.size_append, List.size_toArray, size_zeroCells, hzs, hl1, hcl]; omega) (by simp [hstl]; exact hge) (grownCap_le_maxLen w _ c E (by unfold maxLen; omega))
      (fun e he => by rcases List.mem_append.1 he with h | h; exact hzb e h; exact strEl_z _ e h) (fun j v d hv hd => by
        have hj := lt_of_get hd
        rw [List.flatten_append, List.length_append, hfl, flatten_len (strEl_z _), hstl] at hj
        rw [List.flatten_append] at hd
        rw [Array.getElem?_append_left (by simp only [Array.size_append, List.size_toArray, hl1, hcl]; omega)] at hv
        by_cases hj' : j < elems.length
        · rw [Array.getElem?_append_left (by simp only [List.size_toArray, hl1]; exact hj')] at hv
          rw [List.getElem?_append_left (by rw [hfl]; omega)] at hd
          have hv' : cs[j]? = some v := by
            have : (cs.toList.take elems.length)[j]? = some v := by simpa using hv
            rw [List.getElem?_take, if_pos hj'] at this
            simpa using this
          obtain ⟨h0, h1, h2, h3⟩ := flatten_at hzb hd
          have hi' : elems[j / 1]? = some (elems.getD (j / 1) []) := by simp [hj']
          obtain ⟨v', hv2, hR⟩ := hbR _ _ _ d hi' h3
          rw [Nat.div_add_mod'] at hv2
          rw [hv'] at hv2; simp at hv2; subst hv2
          exact hRd v d hR.drew
        · rw [Array.getElem?_append_right (by simp only [List.size_toArray, hl1]; omega)] at hv
          rw [List.getElem?_append_right (by rw [hfl]; omega), hfl, Nat.mul_one] at hd
          simp only [List.size_toArray, hl1] at hv
          exact strEl_R bs _ v d (by simpa using hv) hd)
    refine ⟨_, _, .vw _ _ _ _, hn.1, Step.drew.trans (hstd.trans hn.2), hq _ _ ?_ hge⟩
    unfold sdel; split
    · rfl
    · exact hS.none_of_ge (Nat.le_refl _)
end
end Go.Arb
end

section
namespace Go.Arb
set_option linter.unusedVariables false
set_option linter.unusedSimpArgs false
open Go Go.Lib

theorem zeroCells_get {z : Array Value} {n sz : Nat} (hzs : z.size = sz) {zs : List DV} (hz : zs = z.toList.map ofV) {I w} : ∀ (j : Nat) u d, (Builtin.zeroCells z n).toList[j]? = some u → (List.replicate n zs).flatten[j]? = some d → R I w u d := by
  intro j u d hu hd
  have hzl : zs.length = sz := by rw [hz]; simp [hzs]
  obtain ⟨h0, h1, h2, h3⟩ := flatten_at (sz := sz) (elems := List.replicate n zs) (fun es he => by rw [List.eq_of_mem_replicate he]; exact hzl) hd
  have hes : (List.replicate n zs).getD (j / sz) [] = zs := by
    simp at h1
    simp [List.getD, List.getElem?_replicate, h1]
  rw [hes, hz] at h3
  have hj : j < n * z.size := by
    have := lt_of_get hd
    rw [flatten_len (sz := sz) (fun es he => by rw [List.eq_of_mem_replicate he]; exact hzl)] at this
    simpa [hzs] using this
  have hm : j % sz < z.size := by rw [hzs]; exact h2
  simp only [Builtin.zeroCells, Array.toList_map, Array.toList_range, List.getElem?_map, List.getElem?_range hj, Option.map_some, Option.some.injEq] at hu
  rw [hzs] at hu
  simp [hm] at h3
  rw [← hu, ← h3]
  simp [hm]
  exact R_ofV _ _ _

theorem zeroCells_len {z : Array Value} {n : Nat} : (Builtin.zeroCells z n).toList.length = n * z.size := by simp [Builtin.zeroCells]

section
variable {C : Cx} {o : Oper} {ε : Operand → DV} {σ : Store} {Q : DV → Store → Prop} {d : DV}

/-- 'append(nil, make([]T, n)...)'. -/
theorem AOp_append_zeros_nil {t u : TypeId} {s x : Operand} {E : TypeId} {sz bytes n : Nat} {k k' : IntKind} {zs : List DV} (ho : o.op = .call ⟨.builtin .append, #[s, x], #[t, u]⟩) (hs : ε s = .nilsl) (hx : ε x = .i k n) (hu : ikOf C.P u = some k') (hk : apk C.P t = some (E, sz, bytes))
    (hz : zeroC C.P E = some zs) (hn0 : 0 < n) (hbd : n * bytes ≤ 140737488355328) (hbd' : n ≤ 4611686018427387904) (hq : ∀ b c, σ b = none → n ≤ c → Q (.vw b 0 n c) (sset σ b (.arr E sz (List.replicate n zs) c))) : AOp C o ε σ Q := by
  intro F w φ hr hS
  have hs1 := hr s (by simp [ho, Op.operands, Call.operands])
  have hx1 := hr x (by simp [ho, Op.operands, Call.operands])
  rw [hs] at hs1
  rw [hx] at hx1
  obtain ⟨i, z, hut, hi, hz0, hzs, hsz, hpos, hby⟩ := apk_spec hk
  have hvs : φ s = .slice none 0 0 := by generalize φ s = v at hs1; cases hs1; rfl
  have hvx := R_i hx1
  have huu : C.P.underlying u = some (.int k') := by
    unfold ikOf at hu
    split at hu
    · rename_i hh; simp at hu; subst hu; exact hh
    · simp at hu
  have hzz : zs = z.cells.toList.map ofV := by
    simp only [zeroC, hi, hz0, Option.bind_some, Option.map_some] at hz
    exact (Option.some.inj hz).symm
  have hwr : IntKind.i64.wrap (n : Int) = n := wrap_id (by omega)
  have h1 : ¬ ((281474976710656 : Int) < (n : Int) * (i.bytes : Int)) := by
    have : ((n * i.bytes : Nat) : Int) ≤ 140737488355328 := by rw [hby]; omega
    rw [Int.natCast_mul] at this
    omega
  have hns : n * sz ≠ 0 := Nat.mul_ne_zero (by omega) (by omega)
  have h48 : ¬ (281474976710656 < Builtin.nextslicecap n 0 * i.bytes) := by rw [nextslicecap_zero hn0, hby]; omega
  have hne : ¬ (n = 0) := by omega
  have hap : (Builtin.append_ #[t, u] o.type #[.slice none 0 0, .int k n]).run C.P w = .ok (.slice (some ⟨w.heap.size, 0, none⟩) n (grownCap w n 0 E)) (w.drew.alloc (.cells (Builtin.zeroCells z.cells n ++ Builtin.zeroCells z.cells (grownCap w n 0 E - n)) E)) := by
    have h63 : ¬ ((9223372036854775807 : Int) < (n : Int)) := by omega
    have hneg : ¬ ((n : Int) < 0) := by omega
    simp [hneg, Builtin.append_, run_underlying hut, run_underlying huu, sizeOf, typeInfo, zeroValue, hi, hz0, asInt, asIntOf, hwr, h1, hsz, hns, hne, h48, h63, Question.forced, Builtin.firstCells, newRow, grownCap]
  have hrun : (execOp φ o).run C.P w = .ok (.value (.slice (some ⟨w.heap.size, 0, none⟩) n (grownCap w n 0 E))) (w.drew.alloc (.cells (Builtin.zeroCells z.cells n ++ Builtin.zeroCells z.cells (grownCap w n 0 E - n)) E)) := by
    simp [execOp, ho, resolve, invoke, builtin, hvs, hvx, hap]
  rw [hrun]
  have hge := grownCap_ge w n 0 E
  have hzl : zs.length = sz := by rw [hzz]; simp [hzs]
  have hn := Sim.newArr hS.drew (E := E) (sz := sz) (c := grownCap w n 0 E) (ns := List.replicate n zs) (cs := Builtin.zeroCells z.cells n ++ Builtin.zeroCells z.cells (grownCap w n 0 E - n))
    (by simp only [Array.size_append, size_zeroCells, hzs, ← Nat.add_mul]; congr 1; omega) (by simpa using hge) (grownCap_le_maxLen w n 0 E (by unfold maxLen; omega)) (fun e he => by rw [List.eq_of_mem_replicate he]; exact hzl) (fun j v d hv hd => by
      have hj := lt_of_get hd
      rw [flatten_len (sz := sz) (fun e he => by rw [List.eq_of_mem_replicate he]; exact hzl)] at hj
      simp at hj
      rw [Array.getElem?_append_left (by rw [size_zeroCells, hzs]; exact hj)] at hv
      exact zeroCells_get hzs hzz j v d (by simpa using hv) hd)
  exact ⟨_, _, .vw _ _ _ _, hn.1, Step.drew.trans hn.2, hq _ _ (hS.none_of_ge (Nat.le_refl _)) hge⟩

/-- 'clear' of a part of a row of one's own. -/
theorem AOp_clearArr {t : TypeId} {x : Operand} {b q n c sz c' : Nat} {E : TypeId} {bytes : Nat} {elems : List (List DV)} {zs : List DV} (ho : o.op = .call ⟨.builtin .clear, #[x], #[t]⟩) (hx : ε x = .vw b (q * sz) n c) (hb : σ b = some (.arr E sz elems c')) (hk : apk C.P t = some (E, sz, bytes))
    (hz : zeroC C.P E = some zs) (h1 : zs.all one = true) (hn0 : 0 < n) (hfit : q + n ≤ elems.length) (hq : Q (.tup []) (sset σ b (.arr E sz (elems.take q ++ List.replicate n zs ++ elems.drop (q + n)) c'))) : AOp C o ε σ Q := by
  intro F w φ hr hS
  have hx1 := hr x (by simp [ho, Op.operands, Call.operands])
  rw [hx] at hx1
  obtain ⟨i, z, hut, hi, hz0, hzs, hsz, hpos, hby⟩ := apk_spec hk
  have hvx : φ x = .slice (some ⟨b, q * sz, none⟩) n c := by generalize φ x = v at hx1; cases hx1; rfl
  have hzz : zs = z.cells.toList.map ofV := by
    simp only [zeroC, hi, hz0, Option.bind_some, Option.map_some] at hz
    exact (Option.some.inj hz).symm
  have hzl : zs.length = sz := by rw [hzz]; simp [hzs]
  obtain ⟨cs, hh, hcs, hlc, hcm, hzb, hbR⟩ := hS.ob b _ hb
  have hlen : (Builtin.zeroCells z.cells n).toList.length = n * sz := by rw [zeroCells_len, hzs]
  have hle : (q + n) * sz ≤ c' * sz := Nat.mul_le_mul_right _ (by omega)
  rw [Nat.add_mul] at hle
  have hrep : ∀ e ∈ List.replicate n zs, e.length = sz := fun e he => by rw [List.eq_of_mem_replicate he]; exact hzl
  have hone : ∀ v ∈ (Builtin.zeroCells z.cells n).toList, v.oneCell' = true :=
    all_one (I := own F σ) (w := w) (es := List.replicate n zs) (sz := sz) (by simp [hlen]) hrep (zeroCells_get hzs hzz) (fun e he => by rw [List.eq_of_mem_replicate he]; exact h1)
  have hst := run_storeCells_at C.P b (q * sz) E (Builtin.zeroCells z.cells n).toList 0 cs w hh (by rw [hlen]; omega) hone
  simp only [Nat.add_zero] at hst
  have hrun : (execOp φ o).run C.P w = .ok (.value (.tuple #[])) (w.setRow b (cs.toList.take (q * sz) ++ (Builtin.zeroCells z.cells n).toList ++ cs.toList.drop (q * sz + (Builtin.zeroCells z.cells n).toList.length)).toArray) := by
    obtain ⟨m, rfl⟩ : ∃ m, n = m + 1 := ⟨n - 1, by omega⟩
    simp [execOp, ho, resolve, invoke, builtin, Builtin.clear_, hvx, run_underlying hut, zeroValue, typeInfo, hi, hz0] 
    rw [hst]
    simp
  rw [hrun]
  have hn := Sim.writeArr hS (n := q) (ns := List.replicate n zs) (news := (Builtin.zeroCells z.cells n).toList) hb hh (by rw [hlen]; simp) hrep (by omega) (by simp; omega) (zeroCells_get hzs hzz)
  simp only [List.length_replicate] at hn
  exact ⟨_, _, .tup _ _ rfl (fun j v d h => by simp at h), hn.1, hn.2, hq⟩

theorem y_clearNil {t : TypeId} {x : Operand} {s : Nat} (ho : o.op = .call ⟨.builtin .clear, #[x], #[t]⟩) (hs : slk C.P t = some s) (hx : (match ε x with | .nilsl | .vw _ _ 0 _ => true | .sl [] => true | _ => false) = true) (hd : .tup [] = d) : Yields C o ε σ d := .of_run fun F w φ hr hS => by
  have hx1 := hr x (by simp [ho, Op.operands, Call.operands])
  obtain ⟨e, ti, hu, hti, hts⟩ := slk_spec hs
  subst hd
  have hv : ∃ a c, φ x = .slice a 0 c := by
    generalize ε x = dx at hx1 hx
    generalize φ x = v at hx1
    split at hx
    · cases hx1; exact ⟨_, _, rfl⟩
    · cases hx1; exact ⟨_, _, rfl⟩
    · cases hx1 with
      | sl0 a c => exact ⟨_, _, rfl⟩
      | sl x off n c sz elems cs E fz vals hI hb hn hcap hz hc hr hm => simp at hn; subst hn; exact ⟨_, _, rfl⟩
    · simp at hx
  obtain ⟨a, c, hv⟩ := hv
  refine ⟨.tuple #[], ?_, .tup _ _ rfl (fun j v d h => by simp at h)⟩
  cases a <;> simp [execOp, ho, resolve, invoke, builtin, Builtin.clear_, hv, run_underlying hu]

/-! ### Bytes as a string -/
def byteL : List DV → Option (List UInt8)
  | [] => some []
  | .i .u8 n :: l => if 0 ≤ n ∧ n < 256 then (byteL l).map (UInt8.ofNat n.toNat :: ·) else none
  | _ => none

theorem byteL_ints {I w} : ∀ {ds : List DV} {l : List UInt8} {vs : List Value}, byteL ds = some l → vs.length = ds.length → (∀ (j : Nat) v d, vs[j]? = some v → ds[j]? = some d → R I w v d) → vs = l.map fun b => Value.int .u8 b.toNat := by
  intro ds
  induction ds with
  | nil => intro l vs h hl _; simp [byteL] at h; subst h; simpa using hl
  | cons d ds ih =>
    intro l vs h hl hr
    cases vs with
    | nil => simp at hl
    | cons v vs =>
      cases d with
      | i k n =>
        cases k <;> simp only [byteL] at h <;> try simp at h
        obtain ⟨⟨h0, h1⟩, l', hl', rfl⟩ := h
        have hv := R_i (hr 0 v _ rfl rfl)
        have := ih hl' (by simpa using hl) (fun j v d hv hd => hr (j + 1) v d (by simpa using hv) (by simpa using hd))
        subst hv this
        simp
        omega
      | _ => simp [byteL] at h

theorem foldl_push (l : List UInt8) : ∀ (s : ByteArray), ((l.map fun b => (b.toNat : Int)).foldl (fun r n => r.push (UInt8.ofNat n.toNat)) s).data.toList = s.data.toList ++ l := by
  induction l with
  | nil => intro s; simp
  | cons a l ih => intro s; simp only [List.map_cons, List.foldl_cons]; rw [ih]; simp [ByteArray.push]

/-- Cells of a block as bytes. -/
def bytesAt (σ : Store) : DV → Option (List UInt8)
  | .nilsl => some []
  | .vw b off n _ => match σ b with
    | some (.cells ds) => if off + n ≤ ds.length then byteL ((ds.drop off).take n) else none
    | some (.arr _ 1 elems _) => if off + n ≤ elems.length then byteL (((elems.flatten).drop off).take n) else none
    | _ => none
  | _ => none

theorem bytesAt_sound {F w} (hS : Sim C F σ w) {d : DV} {v : Value} {l : List UInt8} (h : bytesAt σ d = some l) (hv : R (own F σ) w v d) :
    ∃ a c, v = .slice a l.length c ∧ (∀ x, a = some x → ∃ b off, x = ⟨b, off, none⟩ ∧ ∀ (j : Nat) u, (l.map fun b => Value.int .u8 b.toNat)[j]? = some u → w.cell? ⟨b, off + j, none⟩ = some u) ∧ (a = none → l = []) := by
  have blen : ∀ {ds : List DV} {l : List UInt8}, byteL ds = some l → l.length = ds.length := by
    intro ds
    induction ds with
    | nil => intro l h; simp [byteL] at h; subst h; rfl
    | cons d ds ih =>
      intro l h
      cases d with
      | i k n =>
        cases k <;> simp only [byteL] at h <;> try simp at h
        obtain ⟨⟨h0, h1⟩, l', hl', rfl⟩ := h
        simp [ih hl']
      | _ => simp [byteL] at h
  unfold bytesAt at h
  split at h
  · simp at h; subst h; cases hv; exact ⟨_, _, rfl, fun x hx => by simp at hx, fun _ => rfl⟩
  · rename_i b off n c
    cases hv
    split at h
    · rename_i ds hb
      split at h
      · rename_i hfit
        obtain ⟨cs, E, hh, hl, hR⟩ := hS.ob b _ hb
        have hll := blen h
        rw [List.length_take, List.length_drop, Nat.min_eq_left (by omega)] at hll
        subst hll
        have hvs := byteL_ints (vs := (cs.toList.drop off).take l.length) h (by simp; omega) (fun j v d hv hd => by
          rw [List.getElem?_take] at hv hd
          split at hv
          · rename_i hj
            rw [if_pos hj] at hd
            rw [List.getElem?_drop] at hv hd
            exact hR (off + j) v d (by simpa using hv) hd
          · simp at hv)
        refine ⟨_, _, rfl, fun x hx => ⟨b, off, by simpa using hx.symm, fun j u hu => ?_⟩, fun h => by simp at h⟩
        rw [← hvs, List.getElem?_take] at hu
        split at hu
        · rw [List.getElem?_drop] at hu
          rw [cell_row hh]; simpa using hu
        · simp at hu
      · simp at h
    · rename_i E elems c' hb
      split at h
      · rename_i hfit
        obtain ⟨cs, hh, hcs, hlc, hcm, hzb, hbR⟩ := hS.ob b _ hb
        have hll := blen h
        have hfl := flatten_len hzb
        rw [List.length_take, List.length_drop, Nat.min_eq_left (by omega)] at hll
        subst hll
        have hvs := byteL_ints (vs := (cs.toList.drop off).take l.length) h (by
          have hcl : cs.toList.length = c' := by simp [hcs]
          rw [List.length_take, List.length_take, List.length_drop, List.length_drop, hfl, hcl]; omega) (fun j v d hv hd => by
          rw [List.getElem?_take] at hv hd
          split at hv
          · rename_i hj
            rw [if_pos hj] at hd
            rw [List.getElem?_drop] at hv hd
            obtain ⟨h0, h1, h2, h3⟩ := flatten_at hzb hd
            have hi : elems[(off + j) / 1]? = some (elems.getD ((off + j) / 1) []) := by rw [List.getD_eq_getElem?_getD]; simp at h1 ⊢; simp [h1]
            obtain ⟨v', hv', hR⟩ := hbR _ _ _ d hi h3
            rw [Nat.div_add_mod'] at hv'
            have : cs[off + j]? = some v := by simpa using hv
            rw [this] at hv'; simp at hv'; subst hv'
            exact hR
          · simp at hv)
        refine ⟨_, _, rfl, fun x hx => ⟨b, off, by simpa using hx.symm, fun j u hu => ?_⟩, fun h => by simp at h⟩
        rw [← hvs, List.getElem?_take] at hu
        split at hu
        · rw [List.getElem?_drop] at hu
          rw [cell_row hh]; simpa using hu
        · simp at hu
      · simp at h
    · simp at h
  · simp at h

theorem str_eq {l : List UInt8} (s : ByteArray) (h : s.data.toList = l) : s.data.toList = l := h

theorem y_bytesStr {s t e : TypeId} {x : Operand} {l : List UInt8} (ho : o.op = .convert s t x) (hs : C.P.underlying s = some (.slice e)) (he : C.P.underlying e = some (.int .u8)) (ht : C.P.underlying t = some .string) (hx : bytesAt σ (ε x) = some l) (hd : .s l = d) : Yields C o ε σ d := .of_run fun F w φ hr hS => by
  have h1 := hr x (by simp [ho, Op.operands])
  obtain ⟨a, c, hv, ha, ha0⟩ := bytesAt_sound hS hx h1
  subst hd
  cases a with
  | none =>
    have := ha0 rfl
    subst this
    refine ⟨.string .empty, ?_, .s _ _ rfl⟩
    simp [execOp, ho, hv, convert, run_underlying hs, run_underlying ht, run_underlying he, Conv.bytesToString]
  | some a =>
    obtain ⟨b, off, rfl, hc⟩ := ha _ rfl
    have hld := run_loadCells_list (P := C.P) w ⟨b, off, none⟩ (l.map fun b => Value.int .u8 b.toNat) (fun j v h => by rw [add_mk]; exact hc j v h)
    have hb := run_bytesToString (P := C.P) w ⟨b, off, none⟩ l.length c (l.map fun b => (b.toNat : Int)) (by simpa [Function.comp_def] using hld)
    refine ⟨.string ((l.map fun b => (b.toNat : Int)).foldl (fun r n => r.push (UInt8.ofNat n.toNat)) ByteArray.empty), ?_, .s _ _ (by rw [foldl_push]; simp)⟩
    simp [execOp, ho, hv, convert, run_underlying hs, run_underlying ht, run_underlying he, hb]

/-! ### Strings that share their bytes -/
theorem y_sliceData {t : TypeId} {x : Operand} {b off n c : Nat} (ho : o.op = .call ⟨.builtin .unsafeSliceData, #[x], #[t]⟩) (hx : ε x = .vw b off n c) (hc : c ≠ 0) (hd : .ptr b off = d) : Yields C o ε σ d := .of_run fun F w φ hr hS => by
  have h1 := hr x (by simp [ho, Op.operands, Call.operands])
  rw [hx] at h1
  have hv : φ x = .slice (some ⟨b, off, none⟩) n c := by generalize φ x = v at h1; cases h1; rfl
  subst hd
  have := run_unsafeSliceData_row (P := C.P) (w := w) #[t] o.type ⟨b, off, none⟩ n c hc
  exact ⟨.pointer (some ⟨b, off, none⟩), by simp [execOp, ho, resolve, invoke, builtin, hv, this], .ptr _ _⟩

theorem y_sliceDataNil {t : TypeId} {x : Operand} (ho : o.op = .call ⟨.builtin .unsafeSliceData, #[x], #[t]⟩) (hx : ε x = .nilsl) (hd : .nilp = d) : Yields C o ε σ d := .of_run fun F w φ hr hS => by
  have h1 := hr x (by simp [ho, Op.operands, Call.operands])
  rw [hx] at h1
  have hv : φ x = .slice none 0 0 := by generalize φ x = v at h1; cases h1; rfl
  subst hd
  have : (Builtin.unsafeSliceData_ #[t] o.type #[.slice none 0 0]).run C.P w = .ok (.pointer none) w := rfl
  exact ⟨.pointer none, by simp [execOp, ho, resolve, invoke, builtin, hv, this], .nilp⟩

theorem y_unsafeStr0 {t u : TypeId} {x y : Operand} (ho : o.op = .call ⟨.builtin .unsafeString, #[x, y], #[t, u]⟩) (hx : (match ε x with | .nilp | .ptr _ _ => true | _ => false) = true) (hy : ε y = .i .i64 0) (hd : .s [] = d) : Yields C o ε σ d := .of_run fun F w φ hr hS => by
  have h1 := hr x (by simp [ho, Op.operands, Call.operands])
  have h2 := hr y (by simp [ho, Op.operands, Call.operands])
  rw [hy] at h2
  have hvy := R_i h2
  have hv : ∃ p, φ x = .pointer p := by
    generalize ε x = dx at h1 hx
    generalize φ x = v at h1
    split at hx
    · cases h1; exact ⟨_, rfl⟩
    · cases h1; exact ⟨_, rfl⟩
    · simp at hx
  obtain ⟨p, hv⟩ := hv
  subst hd
  have := run_unsafeString_none (P := C.P) w t u o.type p
  exact ⟨.string .empty, by simp [execOp, ho, resolve, invoke, builtin, hv, hvy, this], .s _ _ rfl⟩

theorem AOp_unsafeStr {t u el : TypeId} {x y : Operand} {b c : Nat} {E : TypeId} {elems : List (List DV)} {l : List UInt8} (ho : o.op = .call ⟨.builtin .unsafeString, #[x, y], #[t, u]⟩) (hx : ε x = .ptr b 0) (hy : ε y = .i .i64 l.length) (hb : σ b = some (.arr E 1 elems c))
    (ht : C.P.underlying t = some (.pointer E)) (hE : C.P.cellsOf E = 1) (hl : bytesAt σ (.vw b 0 l.length c) = some l) (hne : l ≠ []) (h63 : l.length ≤ 9223372036854775807) (hq : Q (.s l) (sdel σ b)) : AOp C o ε σ Q := by
  intro F w φ hr hS
  have h1 := hr x (by simp [ho, Op.operands, Call.operands])
  have h2 := hr y (by simp [ho, Op.operands, Call.operands])
  rw [hy] at h2
  rw [hx] at h1
  have hvy := R_i h2
  have hv : φ x = .pointer (some ⟨b, 0, none⟩) := by generalize φ x = v at h1; cases h1; rfl
  obtain ⟨cs, hh, hcs, hlc, hcm, hzb, hbR⟩ := hS.ob b _ hb
  have hsh : w.shape? b = some (E, cs.size) := by simp [World.shape?, hh]
  have hle : l.length ≤ elems.length := by
    simp only [bytesAt, hb] at hl
    split at hl
    · omega
    · simp at hl
  obtain ⟨a, c', hvv, ha, _⟩ := bytesAt_sound hS hl (.vw b 0 l.length c)
  simp at hvv
  obtain ⟨rfl, rfl⟩ := hvv
  obtain ⟨b', off', he, hc⟩ := ha _ rfl
  simp at he
  obtain ⟨rfl, rfl⟩ := he
  have hrun' := run_unsafeString_row (P := C.P) w t u o.type E ht hE b cs.size hsh l hne (by omega) h63 (fun j x hx => by
    rw [add_mk]; exact hc j _ (by simp [hx]))
  have hrun : (execOp φ o).run C.P w = .ok (.value (.string ⟨l.toArray⟩)) (w.freeze ⟨b, 0, none⟩ l.length) := by
    simp [execOp, ho, resolve, invoke, builtin, hv, hvy, hrun']
  rw [hrun]
  obtain ⟨hSd, hstd, hRd⟩ := Sim.drop hS b
  have hfz : (w.freeze ⟨b, 0, none⟩ l.length).os = w.os ∧ (w.freeze ⟨b, 0, none⟩ l.length).tape = w.tape ∧ (w.freeze ⟨b, 0, none⟩ l.length).output = w.output ∧ (w.freeze ⟨b, 0, none⟩ l.length).heap.size = w.heap.size ∧ ∀ x, x ≠ b → (w.freeze ⟨b, 0, none⟩ l.length).heap[x]? = w.heap[x]? := by
    have h0 : ¬ l.length = 0 := by simpa using hne
    unfold World.freeze
    rw [if_neg h0]
    refine ⟨rfl, rfl, rfl, by simp, fun x hx => ?_⟩
    simp [Array.getElem?_modify, Ne.symm hx]
  obtain ⟨f1, f2, f3, f4, f5⟩ := hfz
  have hnb := not_own_sdel hS hb
  have hFb : ¬ F b := fun h => hnb (.inl h)
  have hk : ∀ x, ¬ own F σ x → x < w.heap.size → (w.freeze ⟨b, 0, none⟩ l.length).heap[x]? = w.heap[x]? ∧ ¬ own F (sdel σ b) x := fun x hx hlt => by
    have hxb : x ≠ b := fun e => hx (.inr (by rw [e, hb]; simp))
    refine ⟨f5 x hxb, fun h => hx ?_⟩
    rcases h with h | h
    · exact .inl h
    · rw [sdel_ne hxb] at h; exact .inr h
  refine ⟨_, _, .s _ _ (by simp), ⟨fun x hF => ?_, fun x o' ho' => ?_, fun x o' ho' => ?_⟩, ⟨f1, f2, f3, by omega, fun x hlt h0 => ?_⟩, hq⟩
  · have := hSd.fr x hF
    exact ⟨by omega, this.2⟩
  · have hxb : x ≠ b := fun e => by rw [e, sdel_same] at ho'; simp at ho'
    rw [sdel_ne hxb] at ho'
    exact (hS.ob x o' ho').mono hk (f5 x hxb)
  · have h := hS.gl x o' ho'
    have := hk x h.2 (heap_lt h.1)
    exact ⟨this.1.trans h.1, this.2⟩
  · have hxb : x ≠ b := fun e => by rw [e, hb] at h0; simp at h0
    exact ⟨f5 x hxb, by rw [sdel_ne hxb]; exact h0⟩
end
end Go.Arb
end

section
namespace Go.Arb
set_option linter.unusedVariables false
set_option linter.unusedSimpArgs false
open Go Go.Lib

/-- A function called, with a body of its own or of the model's. -/
def fcalls (C : Cx) (f : FuncId) (ds : List DV) (σ : Store) (Q : DV → Store → Prop) : Prop :=
  ∀ F w (vs : Array Value), vs.size = ds.length → (∀ (i : Nat) v d, vs[i]? = some v → ds[i]? = some d → R (own F σ) w v d) → Sim C F σ w → opPost C.P (Res C F σ w Q) ((callFunc f vs).run C.P w)

theorem fcalls_of {C f ds σ Q} (h : acalls C f ds σ Q) : fcalls C f ds σ Q := by
  obtain ⟨⟨fn, hf, hnm, hbd⟩, hc⟩ := h
  intro F w vs hs hr hS
  have hrun : (callFunc f vs).run C.P w = .ok (.enter f vs) w := by
    have hnm' : ¬ fn.name = "runtime.NumGoroutine" := by simpa using hnm
    have hbd' : ¬ fn.body = none := fun h => by simp [h] at hbd
    simp [callFunc, hf, hbd', hnm']
  rw [hrun]
  simp only [opPost]
  exact (hc F w vs hs hr hS).mono fun e w' ⟨v, d, σ', he, hv, hS', hst, q⟩ => ⟨v, he, d, σ', hv, hS', hst, q⟩

theorem fcalls.mono {C f ds σ Q Q'} (h : fcalls C f ds σ Q) (hq : ∀ d σ', Q d σ' → Q' d σ') : fcalls C f ds σ Q' :=
  fun F w vs hs hr hS => (h F w vs hs hr hS).mono fun v w' ⟨d, σ', a, b, c, q⟩ => ⟨d, σ', a, b, c, hq _ _ q⟩

theorem AOp_callF {C : Cx} {o : Oper} {ε : Operand → DV} {σ : Store} {Q : DV → Store → Prop} {x : Operand} {args : Array Operand} {tys : Array TypeId} {f : FuncId} {first captured : List DV}
    (ho : o.op = .call ⟨.value x, args, tys⟩) (hx : ε x = .fn (.func f) first captured) (h : fcalls C f (first ++ args.toList.map ε ++ captured) σ Q) : AOp C o ε σ Q := by
  intro F w φ hr hS
  have hxR : R (own F σ) w (φ x) (ε x) := hr x (by simp [ho, Op.operands, Call.operands])
  rw [hx] at hxR
  generalize hv : φ x = v at hxR
  cases hxR with
  | fn f' va vc da dc ha hca hra hrc =>
  have hrun : (execOp φ o).run C.P w = (callFunc f (va ++ args.map φ ++ vc)).run C.P w := by
    simp only [execOp, ho, resolve, hv, Deferred.ofValue, invoke]
    rfl
  rw [hrun]
  refine h F w _ ?_ ?_ hS
  · simp [ha, hca]
  · intro i v d hv hd
    by_cases h1 : i < va.size
    · rw [Array.append_assoc, Array.getElem?_append_left h1] at hv
      rw [List.append_assoc, List.getElem?_append_left (by omega)] at hd
      exact hra i v d hv hd
    · rw [Array.append_assoc, Array.getElem?_append_right (by omega)] at hv
      rw [List.append_assoc, List.getElem?_append_right (by omega), ← ha] at hd
      generalize i - va.size = k at hv hd
      by_cases h2 : k < args.size
      · rw [Array.getElem?_append_left (by simpa using h2)] at hv
        rw [List.getElem?_append_left (by simpa using h2)] at hd
        simp at hv hd
        obtain ⟨y, hy, rfl⟩ := hv
        obtain ⟨z, hz, rfl⟩ := hd
        have : y = z := by
          rw [hy] at hz; simpa using hz
        subst this
        exact hr y (by simp [ho, Op.operands, Call.operands]; exact .inr (Array.mem_of_getElem? hy))
      · rw [Array.getElem?_append_right (by simpa using h2)] at hv
        rw [List.getElem?_append_right (by simpa using h2)] at hd
        simp at hv hd
        exact hrc _ v d hv hd

theorem args1 {vs : Array Value} {d : DV} {I w} (hs : vs.size = [d].length) (hr : ∀ (i : Nat) v d', vs[i]? = some v → [d][i]? = some d' → R I w v d') : ∃ v, vs = #[v] ∧ R I w v d := by
  obtain ⟨l⟩ := vs
  match l, hs with
  | [v], _ => exact ⟨v, rfl, hr 0 v d rfl rfl⟩
theorem args2 {vs : Array Value} {d e : DV} {I w} (hs : vs.size = [d, e].length) (hr : ∀ (i : Nat) v d', vs[i]? = some v → [d, e][i]? = some d' → R I w v d') : ∃ v u, vs = #[v, u] ∧ R I w v d ∧ R I w u e := by
  obtain ⟨l⟩ := vs
  match l, hs with
  | [v, u], _ => exact ⟨v, u, rfl, hr 0 v d rfl rfl, hr 1 u e rfl rfl⟩

/-- A function of the model's. -/
structure Mdl (P : Program) (f : FuncId) (e : Array Value → Sem Value) : Prop where
  fn : ∃ fn, P.funcs[f]? = some fn ∧ (fn.name == "runtime.NumGoroutine") = false ∧ fn.body.isNone = true ∧ Extern.findNext fn = none ∧ Extern.find fn = some e

section
variable {C : Cx} {f : FuncId} {σ : Store} {Q : DV → Store → Prop}

theorem fc_noEscape {d : DV} (h : Mdl C.P f Extern.AbiNoEscape.same) (hq : Q d σ) : fcalls C f [d] σ Q := by
  intro F w vs hs hr hS
  obtain ⟨v, rfl, hv⟩ := args1 hs hr
  obtain ⟨fn, hf, hn, hb, hx, he⟩ := h.fn
  rw [run_callFunc_extern hf hn hb hx he]
  exact ⟨_, _, hv, hS, .refl _ _, hq⟩

theorem cell_frozen {w : World} {b off : Nat} {cs : Array Value} {E} (hh : w.heap[b]? = some (.cells cs E (0, 0))) : w.frozen? ⟨b, off, none⟩ = false := by
  simp [World.frozen?, hh]

theorem setCell_heap {w : World} {b off : Nat} {cs : Array Value} {E} (hh : w.heap[b]? = some (.cells cs E (0, 0))) (v : Value) : (w.setCell ⟨b, off, none⟩ v).heap[b]? = some (.cells (cs.setIfInBounds off v) E (0, 0)) := by
  simp [World.setCell, Array.getElem?_modify, hh]

/-- A cell of an owned block is written. -/
theorem Sim.setCell {F w} (hS : Sim C F σ w) {b off : Nat} {ds : List DV} {v : Value} {d : DV} (hb : σ b = some (.cells ds)) (hv : R (own F σ) w v d) :
    Sim C F (sset σ b (.cells (ds.set off d))) (w.setCell ⟨b, off, none⟩ v) ∧ Step σ w (sset σ b (.cells (ds.set off d))) (w.setCell ⟨b, off, none⟩ v) := by
  obtain ⟨cs, E, hh, hl, hR⟩ := hS.ob b _ hb
  have hbn : σ b ≠ none := by simp [hb]
  have ho : ∀ x, x ≠ b → (w.setCell ⟨b, off, none⟩ v).heap[x]? = w.heap[x]? := fun x hx => by
    simp [World.setCell, Array.getElem?_modify, Ne.symm hx]
  have hmono : ∀ v d, R (own F σ) w v d → R (own F σ) (w.setCell ⟨b, off, none⟩ v) v d := fun v d h => h.mono fun y hy hlt => ⟨by
    have hyb : y ≠ b := fun e => hy (.inr (e ▸ hbn))
    simp [World.setCell, Array.getElem?_modify, Ne.symm hyb], hy⟩
  refine Sim.write hS hbn (.cells (ds.set off d)) rfl rfl rfl (by simp [World.setCell]) ho ⟨_, E, setCell_heap hh v, by simp [hl], fun j u e hu he => ?_⟩
  have hm2 : ∀ u e, R (own F σ) w u e → R (own F σ) (w.setCell ⟨b, off, none⟩ v) u e := fun u e h => h.mono fun y hy hlt => ⟨ho y (fun e => hy (.inr (e ▸ hbn))), hy⟩
  rw [Array.getElem?_setIfInBounds] at hu
  rw [List.getElem?_set] at he
  by_cases hj : off = j
  · rw [if_pos hj] at hu he
    split at hu
    · rename_i h1; rw [if_pos (by omega)] at he; cases hu; cases he; exact hm2 _ _ hv
    · simp at hu
  · rw [if_neg hj] at hu he
    exact hm2 _ _ (hR j u e hu he)

theorem cell_of_ob {F w} (hS : Sim C F σ w) {b off : Nat} {ds : List DV} {d : DV} (hb : σ b = some (.cells ds)) (hd : ds[off]? = some d) : ∃ v, w.cell? ⟨b, off, none⟩ = some v ∧ R (own F σ) w v d ∧ w.frozen? ⟨b, off, none⟩ = false := by
  obtain ⟨cs, E, hh, hl, hR⟩ := hS.ob b _ hb
  have hlt : off < cs.size := by rw [hl]; exact lt_of_get hd
  exact ⟨cs[off], by rw [cell_row hh]; simp [hlt], hR off _ d (by simp [hlt]) hd, cell_frozen hh⟩

theorem fc_add {k : IntKind} {b off : Nat} {ds : List DV} {x y : Int} (h : Mdl C.P f (Extern.Atomic.update (Op.intArith .add) k true)) (hb : σ b = some (.cells ds)) (hd : ds[off]? = some (.i k x))
    (hq : Q (.i k (k.wrap (x + y))) (sset σ b (.cells (ds.set off (.i k (k.wrap (x + y))))))) : fcalls C f [.ptr b off, .i k y] σ Q := by
  intro F w vs hs hr hS
  obtain ⟨v, u, rfl, hv, hu⟩ := args2 hs hr
  obtain ⟨fn, hf, hn, hbd, hx, he⟩ := h.fn
  cases hv
  cases hu
  obtain ⟨c, hc, hcR, hz⟩ := cell_of_ob hS hb hd
  cases hcR
  rw [run_call_add hf hn hbd hx k he hc hz (s := k.wrap (x + y)) (by simp [Op.intArith])]
  have := Sim.setCell (off := off) hS hb (.i k (k.wrap (x + y)))
  exact ⟨_, _, .i _ _, this.1, this.2, hq⟩

theorem fc_load {k : IntKind} {b off : Nat} {ds : List DV} {x : Int} (h : Mdl C.P f (Extern.Atomic.loadT (.int k))) (hb : σ b = some (.cells ds)) (hd : ds[off]? = some (.i k x))
    (hq : Q (.i k x) σ) : fcalls C f [.ptr b off] σ Q := by
  intro F w vs hs hr hS
  obtain ⟨v, rfl, hv⟩ := args1 hs hr
  obtain ⟨fn, hf, hn, hbd, hx, he⟩ := h.fn
  cases hv
  obtain ⟨c, hc, hcR, hz⟩ := cell_of_ob hS hb hd
  cases hcR
  rw [run_call_load hf hn hbd hx k he hc]
  exact ⟨_, _, .i _ _, hS, .refl _ _, hq⟩
end
end Go.Arb
end

section
namespace Go.Arb
set_option linter.unusedVariables false
set_option linter.unusedSimpArgs false
open Go Go.Lib

theorem load_run {C : Cx} {F σ w} (hS : Sim C F σ w) {t : TypeId} {x d : DV} {v : Value} (h : loadV C.P σ t x = some d) (hv : R (own F σ) w v x) : ∃ a u, v = .pointer (some a) ∧ (loadVar t a).run C.P w = .ok u w ∧ R (own F σ) w u d := by
  unfold loadV at h
  split at h
  · rename_i cells off
    cases hv with
    | dp xb o0 off cells cs E fz vals hI hb hc hr' =>
    obtain ⟨u, hu, hR⟩ := run_loadVar' (P := C.P) hb (fun j d hj => ⟨vals j, hc j (lt_of_get hj), hr' j d hj⟩) h
    exact ⟨_, u, rfl, hu, hR⟩
  · rename_i b off
    cases hv
    split at h
    · rename_i ds hs
      obtain ⟨cs, E, hb, hsz, hR⟩ := hS.ob b _ hs
      obtain ⟨u, hu, hR⟩ := run_loadVar' (P := C.P) (o := 0) hb (fun j d hj => by
        have hlt := lt_of_get hj
        have hlt' : j < cs.size := by omega
        exact ⟨cs[j], by simp [hlt'], hR j cs[j] d (by simp [hlt']) hj⟩) h
      exact ⟨_, u, rfl, by simpa using hu, hR⟩
    · rename_i E sz elems c hs
      split at h
      · split at h
        · rename_i es he
          obtain ⟨cs, hb, hsz, hc, hm, hz, hR⟩ := hS.ob b _ hs
          obtain ⟨u, hu, hR⟩ := run_loadVar' (P := C.P) (o := off / sz * sz) hb (fun j d hj => hR (off / sz) j es d he hj) h
          rw [Nat.div_add_mod'] at hu
          exact ⟨_, u, rfl, hu, hR⟩
        · simp at h
      · simp at h
    · simp at h
  · simp at h

/-- The results, also those in variables. -/
def resC (P : Program) (n : Nat) (ρ : Env) (σ : Store) : List ResultVar → Option (List DV)
  | [] => some []
  | .tmp t :: rest => (resC P n ρ σ rest).map (ev n ρ (.tmp t) :: ·)
  | .cell b t :: rest => match loadV P σ t (ev n ρ (.tmp b)), resC P n ρ σ rest with
    | some d, some l => some (d :: l)
    | _, _ => none

def BodyC (C : Cx) (n : Nat) (rs : List ResultVar) (Q : DV → Store → Prop) (e : Exit) (ρ : Env) (σ : Store) : Prop :=
  (e = .normal ∨ e = .ret) ∧ ∃ ds, resC C.P n ρ σ rs = some ds ∧ Q (tupD ds) σ

theorem mapM_resC {C : Cx} {n F σ w a ρ} (hr : Rel C n F σ w a ρ) : ∀ (l : List ResultVar) (ds : List DV), resC C.P n ρ σ l = some ds →
    ∃ vs : List Value, (l.mapM fun (r : ResultVar) => (match r with | .tmp t => (pure (a.tmps.getD t undef) : Sem Value) | .cell b t => do loadVar t (← asAddr (a.tmps.getD b undef)))).run C.P w = .ok vs w ∧
      vs.length = ds.length ∧ ∀ (j : Nat) v d, vs[j]? = some v → ds[j]? = some d → R (own F σ) w v d := by
  intro l
  induction l with
  | nil => intro ds h; simp [resC] at h; subst h; exact ⟨[], by simp, rfl, fun j v d h => by simp at h⟩
  | cons r l ih =>
    intro ds h
    cases r with
    | cell b t =>
      simp only [resC] at h
      split at h
      · rename_i d ds' h1 h2
        simp at h; subst h
        obtain ⟨vs, g1, g2, g3⟩ := ih ds' h2
        obtain ⟨ad, u, hu1, hu2, hu3⟩ := load_run hr.sim h1 (ev_R hr (.tmp b))
        simp only [Act.eval] at hu1
        refine ⟨u :: vs, ?_, by simp [g2], ?_⟩
        · have hu4 : (asAddr (a.tmps.getD b undef)).run C.P w = .ok ad w := by rw [hu1]; rfl
          simp only [List.mapM_cons, Sem.run_bind, hu4, Result.andThen_ok, hu2]
          rw [g1]; simp
        · intro j v d hv hd
          cases j with
          | zero => simp at hv hd; subst hv hd; exact hu3
          | succ j => simp at hv hd; exact g3 j v d hv hd
      · simp at h
    | tmp t =>
      simp only [resC, Option.map_eq_some_iff] at h
      obtain ⟨ds', h', rfl⟩ := h
      obtain ⟨vs, h1, h2, h3⟩ := ih ds' h'
      refine ⟨a.tmps.getD t undef :: vs, ?_, by simp [h2], ?_⟩
      · simp only [List.mapM_cons, Sem.run_bind, Sem.run_pure, Result.andThen_ok]
        rw [h1]; simp
      · intro j v d hv hd
        cases j with
        | zero => simp at hv hd; subst hv hd; simpa [Act.eval] using ev_R hr (.tmp t)
        | succ j => simp at hv hd; exact h3 j v d hv hd

theorem results_runC {C : Cx} {n F σ w a ρ} {fn : Func} (hr : Rel C n F σ w a ρ) {ds} (h : resC C.P n ρ σ fn.results.toList = some ds) :
    ∃ v, (results fn a.tmps).run C.P w = .ok v w ∧ R (own F σ) w v (tupD ds) := by
  obtain ⟨vs, h1, h2, h3⟩ := mapM_resC hr _ _ h
  have h1' : (fn.results.mapM fun (r : ResultVar) => (match r with | .tmp t => (pure (a.tmps.getD t undef) : Sem Value) | .cell b t => do loadVar t (← asAddr (a.tmps.getD b undef)))).run C.P w = .ok vs.toArray w := by
    rw [← Array.toArray_toList (xs := fn.results), List.mapM_toArray]
    simp only [Sem.run_map, h1, Result.andThen_ok]
  have h0 : (results fn a.tmps).run C.P w = .ok (if h : vs.toArray.size = 1 then vs.toArray[0] else .tuple vs.toArray) w := by
    have : results fn a.tmps = ((fn.results.mapM fun (r : ResultVar) => (match r with | .tmp t => (pure (a.tmps.getD t undef) : Sem Value) | .cell b t => do loadVar t (← asAddr (a.tmps.getD b undef)))) >>= fun vs => pure (if h : vs.size = 1 then vs[0] else .tuple vs)) := rfl
    rw [this, Sem.run_bind, h1']; rfl
  rw [h0]
  cases vs with
  | nil =>
    cases ds with
    | nil => exact ⟨.tuple #[], by simp, .tup _ _ rfl (fun j v d h => by simp at h)⟩
    | cons _ _ => simp at h2
  | cons v vs =>
    cases ds with
    | nil => simp at h2
    | cons d ds =>
      cases vs with
      | nil =>
        cases ds with
        | nil => exact ⟨v, by simp, h3 0 v d rfl rfl⟩
        | cons _ _ => simp at h2
      | cons v' vs =>
        cases ds with
        | nil => simp at h2
        | cons d' ds =>
          refine ⟨.tuple (v :: v' :: vs).toArray, ?_, ?_⟩
          · simp
          · simp only [tupD]
            exact .tup _ _ (by simpa using h2) (fun j v d hv hd => h3 j v d (by simpa using hv) hd)

theorem acalls_enterC {C : Cx} {f : FuncId} {fn : Func} {c : Code} {n : Nat} {ds : List DV} {σ : Store} {Q : DV → Store → Prop}
    (hf : C.P.funcs[f]? = some fn) (hb : fn.body = some c) (hn : fn.ntmps = n) (hnm : (fn.name == "runtime.NumGoroutine") = false) (hds : ds.length ≤ n)
    (h : awp C n c (BodyC C n fn.results.toList Q) (envOf ds) σ) : acalls C f ds σ Q := by
  refine ⟨⟨fn, hf, hnm, by simp [hb]⟩, fun F w vs hs hr hS => ?_⟩
  refine calls_of_wp hf hb ?_
  have hrel : Rel C n F σ w { tmps := vs ++ Array.replicate (fn.ntmps - vs.size) undef, defers := [] } (envOf ds) := by
    refine ⟨by simp [hn, hs]; omega, rfl, fun t v ht => ?_, hS⟩
    by_cases hlt : t < vs.size
    · rw [Array.getElem?_append_left hlt] at ht
      have hd : t < ds.length := by omega
      have : ds[t]? = some (envOf ds t) := by simp [envOf, hd]
      exact hr t v _ ht this
    · have : envOf ds t = .any := by simp [envOf, show ds.length ≤ t by omega]
      rw [this]; exact .any _
  refine wp_mono (h F σ w w _ hrel (.refl _ _)) fun e a w' hp => ?_
  obtain ⟨ρ, σ', r, s, he, ds', hd, q⟩ := hp
  obtain ⟨v, hv, hR⟩ := results_runC (fn := fn) r hd
  rcases he with rfl | rfl
  · exact ⟨r.defers, v, hv, v, _, σ', rfl, hR, r.sim, s, q⟩
  · exact ⟨r.defers, v, hv, v, _, σ', rfl, hR, r.sim, s, q⟩

/-! ### Structs and arrays, compared; map literals -/
section
variable {C : Cx} {o : Oper} {ε : Operand → DV} {σ : Store} {Q : DV → Store → Prop} {d : DV}
theorem y_eqAgg {op : BinOp} {t t' : TypeId} {x y : Operand} {xs ys : List DV} {r : Bool} (ho : o.op = .binOp op t x y t') (hg : C.P.eqGuardType C.P.depth t = false) (hx : ε x = .agg xs) (hy : ε y = .agg ys) (he : eqT C.P 6 t (.agg xs) (.agg ys) = some r) (hd : nilBin op r = some d) : Yields C o ε σ d := .of_run fun F w φ hr hS => by
  have h1 := hr x (by simp [ho, Op.operands])
  have h2 := hr y (by simp [ho, Op.operands])
  rw [hx] at h1; rw [hy] at h2
  have heq := equal_sound (P := C.P) h1 h2 he
  obtain ⟨va, hva⟩ : ∃ va, φ x = .agg va := by generalize φ x = v at h1; cases h1; exact ⟨_, rfl⟩
  obtain ⟨vb, hvb⟩ : ∃ vb, φ y = .agg vb := by generalize φ y = v at h2; cases h2; exact ⟨_, rfl⟩
  rw [hva, hvb] at heq
  cases op <;> simp [nilBin] at hd
  · subst hd
    exact ⟨.bool r, by simp [execOp, ho, hva, hvb, eqGuard, hg, binOp, heq], .b _⟩
  · subst hd
    exact ⟨.bool (!r), by simp [execOp, ho, hva, hvb, eqGuard, hg, binOp, heq], .b _⟩

theorem AOp_insert {t : TypeId} {m k v : Operand} (ho : o.op = .insert t m k v) (h : AOp C { o with op := .mapUpdate t m k v } ε σ Q) : AOp C o ε σ Q := by
  intro F w φ hr hS
  have := h F w φ (by simpa [ho, Op.operands] using hr) hS
  simpa [execOp, ho] using this
end
end Go.Arb
end
