/- The logic of calls over abstract data, second part. -/
import Derived.Test.YtbaongomialaoaaGreatDoorCa
import Derived.Laws.AppendOwn
import Derived.DeepKeys3
section
namespace Go.Arb
set_option linter.unusedVariables false
set_option linter.unusedSimpArgs false
open Go

/-! ### Stores -/
def sset (σ : Store) (b : Nat) (o : AObj) : Store := fun x => if x = b then some o else σ x
def sdel (σ : Store) (b : Nat) : Store := fun x => if x = b then none else σ x

theorem sset_same {σ b o} : sset σ b o b = some o := by simp [sset]
theorem sset_ne {σ b o x} (h : x ≠ b) : sset σ b o x = σ x := by simp [sset, h]
theorem sdel_same {σ b} : sdel σ b b = none := by simp [sdel]
theorem sdel_ne {σ b x} (h : x ≠ b) : sdel σ b x = σ x := by simp [sdel, h]
theorem sset_sset {σ b o o'} : sset (sset σ b o) b o' = sset σ b o' := by funext x; simp only [sset]; split <;> rfl
theorem sdel_sset {σ b o} (h : σ b = none) : sdel (sset σ b o) b = σ := by
  funext x; simp only [sset, sdel]; split
  · rename_i hx; subst hx; exact h.symm
  · rfl

/-- A value that one cell can hold. -/
def one : DV → Bool
  | .any | .agg _ | .tup _ | .opt _ _ => false
  | _ => true

theorem R_one {I w v d} (h : R I w v d) (ho : one d = true) : v.oneCell' = true := by
  cases h <;> first | rfl | simp [one] at ho

/-- A new owned block. -/
theorem Sim.new {C F σ w} (hS : Sim C F σ w) (o : Obj) (ao : AObj) (ho : (∀ x, own F (sset σ w.heap.size ao) x → x ≠ w.heap.size → own F σ x) → ORel (own F (sset σ w.heap.size ao)) (w.alloc o) w.heap.size ao) :
    Sim C F (sset σ w.heap.size ao) (w.alloc o) ∧ Step σ w (sset σ w.heap.size ao) (w.alloc o) := by
  have hn : σ w.heap.size = none := hS.none_of_ge (Nat.le_refl _)
  have hne : ∀ x, x < w.heap.size → sset σ w.heap.size ao x = σ x := fun x hx => sset_ne (by omega)
  have hk : ∀ x, ¬ own F σ x → x < w.heap.size → (w.alloc o).heap[x]? = w.heap[x]? ∧ ¬ own F (sset σ w.heap.size ao) x := fun x hx hlt =>
    ⟨heap_push_lt hlt, fun h => hx (by rcases h with h | h; exact .inl h; rw [hne x hlt] at h; exact .inr h)⟩
  refine ⟨⟨fun x hx => ?_, fun x o' ho' => ?_, fun x o' ho' => ?_⟩, rfl, rfl, rfl, by simp, fun x hx h0 => ⟨heap_push_lt hx, by rw [hne x hx]; exact h0⟩⟩
  · have := hS.fr x hx
    exact ⟨by simp; omega, by rw [hne x this.1]; exact this.2⟩
  · by_cases hx : x = w.heap.size
    · subst hx
      rw [sset_same] at ho'
      simp at ho'
      subst ho'
      exact ho fun y hy hne' => by
        rcases hy with hy | hy
        · exact .inl hy
        · rw [sset_ne hne'] at hy; exact .inr hy
    · rw [sset_ne hx] at ho'
      exact (hS.ob x o' ho').mono hk (heap_push_lt (hS.ob x o' ho').lt)
  · have h := hS.gl x o' ho'
    exact ⟨by rw [heap_push_lt (heap_lt h.1)]; exact h.1, (hk x h.2 (heap_lt h.1)).2⟩

theorem own_sset {F : Nat → Prop} {σ : Store} {b : Nat} {o : AObj} (hb : σ b ≠ none) (x : Nat) : own F (sset σ b o) x ↔ own F σ x := by
  by_cases hx : x = b
  · subst hx; exact ⟨fun _ => .inr hb, fun _ => .inr (by rw [sset_same]; simp)⟩
  · unfold own; rw [sset_ne hx]

/-- An owned block is written. -/
theorem Sim.write {C F σ w w'} (hS : Sim C F σ w) {b : Nat} (hb : σ b ≠ none) (ao : AObj) (hos : w'.os = w.os) (htp : w'.tape = w.tape) (hou : w'.output = w.output) (hsz : w'.heap.size = w.heap.size)
    (hx : ∀ x, x ≠ b → w'.heap[x]? = w.heap[x]?) (ho : ORel (own F σ) w' b ao) : Sim C F (sset σ b ao) w' ∧ Step σ w (sset σ b ao) w' := by
  have hk : ∀ x, ¬ own F σ x → x < w.heap.size → w'.heap[x]? = w.heap[x]? ∧ ¬ own F (sset σ b ao) x := fun x hx' hlt =>
    ⟨hx x (fun h => hx' (.inr (h ▸ hb))), fun h => hx' ((own_sset hb x).1 h)⟩
  refine ⟨⟨fun x hF => ?_, fun x o' ho' => ?_, fun x o' ho' => ?_⟩, hos, htp, hou, by omega, fun x hlt h0 => ?_⟩
  · have := hS.fr x hF
    exact ⟨by omega, by rw [sset_ne (fun h => hb (by rw [← h]; exact this.2))]; exact this.2⟩
  · by_cases hxb : x = b
    · subst hxb
      rw [sset_same] at ho'
      simp at ho'
      subst ho'
      exact ho.mono (fun y hy hlt => ⟨rfl, fun h => hy ((own_sset hb y).1 h)⟩) rfl
    · rw [sset_ne hxb] at ho'
      exact (hS.ob x o' ho').mono hk (hx x hxb)
  · have h := hS.gl x o' ho'
    exact ⟨by rw [hx x (fun hxb => h.2 (.inr (hxb ▸ hb)))]; exact h.1, (hk x h.2 (heap_lt h.1)).2⟩
  · have hxb : x ≠ b := fun h => hb (h ▸ h0)
    exact ⟨hx x hxb, by rw [sset_ne hxb]; exact h0⟩

/-- What is owned may be let go: nobody will write it any more. -/
theorem Sim.drop {C F σ w} (hS : Sim C F σ w) (b : Nat) : Sim C F (sdel σ b) w ∧ Step σ w (sdel σ b) w ∧ ∀ v d, R (own F σ) w v d → R (own F (sdel σ b)) w v d := by
  have hk : ∀ x, ¬ own F σ x → x < w.heap.size → w.heap[x]? = w.heap[x]? ∧ ¬ own F (sdel σ b) x := fun x hx _ => ⟨rfl, fun h => hx (by
    rcases h with h | h
    · exact .inl h
    · right; intro h0; apply h; unfold sdel; split <;> first | rfl | exact h0)⟩
  refine ⟨⟨fun x hF => ⟨(hS.fr x hF).1, ?_⟩, fun x o ho => ?_, fun x o ho => ⟨(hS.gl x o ho).1, (hk x (hS.gl x o ho).2 (heap_lt (hS.gl x o ho).1)).2⟩⟩, ⟨rfl, rfl, rfl, Nat.le_refl _, fun x _ h0 => ⟨rfl, ?_⟩⟩, fun v d h => h.mono hk⟩
  · unfold sdel; split
    · rfl
    · exact (hS.fr x hF).2
  · unfold sdel at ho
    split at ho
    · simp at ho
    · exact (hS.ob x o ho).mono hk rfl
  · unfold sdel; split
    · rfl
    · exact h0

theorem not_own_sdel {C F σ w b o} (hS : Sim C F σ w) (hb : σ b = some o) : ¬ own F (sdel σ b) b := by
  rintro (h | h)
  · have := (hS.fr b h).2; rw [hb] at this; simp at this
  · exact h sdel_same

section
variable {C : Cx} {o : Oper} {ε : Operand → DV} {σ : Store} {Q : DV → Store → Prop}

theorem AOp_alloc {t : TypeId} {zs : List DV} (ho : o.op = .alloc t) (hz : zeroC C.P t = some zs) (hq : ∀ b, σ b = none → Q (.ptr b 0) (sset σ b (.cells zs))) : AOp C o ε σ Q := by
  intro F w φ hr hS
  unfold zeroC at hz
  simp only [Option.bind_eq_some_iff, Option.map_eq_some_iff] at hz
  obtain ⟨i, hi, zv, hzv, rfl⟩ := hz
  have hrun : (execOp φ o).run C.P w = .ok (.value (.pointer (some ⟨w.heap.size, 0, none⟩))) (w.alloc (.cells zv.cells t)) := by
    simp [execOp, ho, Instr.alloc, zeroValue, typeInfo, hi, hzv, newVar, newRow]
  rw [hrun]
  have hn := Sim.new hS (.cells zv.cells t) (.cells (zv.cells.toList.map ofV)) (fun hown => ⟨_, _, heap_push_new w _, by simp, fun j v d hv hd => by
    simp [hv] at hd; subst hd; exact R_ofV _ _ _⟩)
  exact ⟨_, _, .ptr _ _, hn.1, hn.2, hq _ (hS.none_of_ge (Nat.le_refl _))⟩

/-- A variable of one's own, with a value. -/
theorem AOp_box {t : TypeId} {x : Operand} {cs : List DV} (ho : o.op = .box t x) (hc : dcells (ε x) = some cs) (hq : ∀ b, σ b = none → Q (.ptr b 0) (sset σ b (.cells cs))) : AOp C o ε σ Q := by
  intro F w φ hr hS
  have h1 := hr x (by simp [ho, Op.operands])
  obtain ⟨hl, hR⟩ := R_cells h1 hc
  have hrun : (execOp φ o).run C.P w = .ok (.value (.pointer (some ⟨w.heap.size, 0, none⟩))) (w.alloc (.cells (φ x).cells t)) := by
    simp [execOp, ho, Instr.box, newVar, newRow]
  rw [hrun]
  have hn := Sim.new hS (.cells (φ x).cells t) (.cells cs) (fun hown => ⟨_, _, heap_push_new w _, hl, fun j v d hv hd => (hR j v d hv hd).mono fun y hy hlt => ⟨heap_push_lt hlt, fun h => hy (hown y h (by omega))⟩⟩)
  exact ⟨_, _, .ptr _ _, hn.1, hn.2, hq _ (hS.none_of_ge (Nat.le_refl _))⟩

theorem run_storeVar' {P : Program} {w : World} {t : TypeId} {g : Bool} {b q : Nat} {cs : Array Value} {E : TypeId} {v : Value} (hl : lk P t = some (g, v.cells.size)) (hb : w.heap[b]? = some (.cells cs E (0, 0))) (hfit : q + v.cells.size ≤ cs.size)
    (h1 : ∀ u ∈ v.cells, u.oneCell' = true) : (storeVar t ⟨b, q, none⟩ v).run P w = .ok () (w.setRow b (cs.toList.take q ++ v.cells.toList ++ cs.toList.drop (q + v.cells.size)).toArray) := by
  obtain ⟨td, ti, e1, e2, e3, e4⟩ := lk_spec hl
  have := run_storeCells_at P b q E v.cells.toList 0 cs w hb (by simpa using hfit) (fun u hu => h1 u (by simpa using hu))
  simp only [Nat.add_zero, Array.length_toList] at this
  simp [storeVar, run_sizeOf' e2, e4, this]

theorem set_get {α : Type} {l cs : List α} {q : Nat} (h : q + cs.length ≤ l.length) (p : Nat) :
    (l.take q ++ cs ++ l.drop (q + cs.length))[p]? = if q ≤ p ∧ p < q + cs.length then cs[p - q]? else l[p]? := by
  by_cases h1 : p < q
  · rw [if_neg (by omega), List.append_assoc, List.getElem?_append_left (by simp; omega), List.getElem?_take, if_pos h1]
  · by_cases h2 : p < q + cs.length
    · rw [if_pos ⟨by omega, h2⟩, List.append_assoc, List.getElem?_append_right (by simp; omega), List.getElem?_append_left (by simp; omega)]
      congr 1; simp; omega
    · rw [if_neg (by omega), List.getElem?_append_right (by simp; omega), List.getElem?_drop]
      congr 1; simp; omega

theorem AOp_store {t : TypeId} {a x : Operand} {b q : Nat} {ds cs : List DV} {g : Bool} (ho : o.op = .store t a x) (ha : ε a = .ptr b q) (hs : σ b = some (.cells ds)) (hc : dcells (ε x) = some cs) (h1 : cs.all one = true)
    (hl : lk C.P t = some (g, cs.length)) (hfit : q + cs.length ≤ ds.length) (hq : Q (.tup []) (sset σ b (.cells (setAt ds q cs)))) : AOp C o ε σ Q := by
  intro F w φ hr hS
  have ha1 := hr a (by simp [ho, Op.operands])
  have hx1 := hr x (by simp [ho, Op.operands])
  rw [ha] at ha1
  obtain ⟨hvl, hvR⟩ := R_cells hx1 hc
  generalize hv : φ a = va at ha1
  cases ha1
  obtain ⟨cur, E, hb, hsz, hR⟩ := hS.ob b _ hs
  have hone : ∀ u ∈ (φ x).cells, u.oneCell' = true := by
    intro u hu
    obtain ⟨j, hj, rfl⟩ := Array.getElem_of_mem hu
    have hj' : j < cs.length := by omega
    exact R_one (hvR j _ cs[j] (by simp [hj]) (by simp [hj'])) (List.all_eq_true.1 h1 _ (List.getElem_mem _))
  have hrun : (execOp φ o).run C.P w = .ok .skip (w.setRow b (cur.toList.take q ++ (φ x).cells.toList ++ cur.toList.drop (q + (φ x).cells.size)).toArray) := by
    have hst := run_storeVar' (P := C.P) (w := w) (t := t) (g := g) (b := b) (q := q) (cs := cur) (E := E) (v := φ x) (by rw [hvl]; exact hl) hb (by omega) hone
    simp [execOp, ho, hv, Instr.storeAt, Instr.sureAddr, hst]
  rw [hrun]
  have hbn : σ b ≠ none := by simp [hs]
  have hsz' : (cur.toList.take q ++ (φ x).cells.toList ++ cur.toList.drop (q + (φ x).cells.size)).toArray.size = (setAt ds q cs).length := by
    rw [setAt_length hfit]; simp; omega
  have hn := Sim.write hS (b := b) (w' := w.setRow b (cur.toList.take q ++ (φ x).cells.toList ++ cur.toList.drop (q + (φ x).cells.size)).toArray) hbn (.cells (setAt ds q cs)) rfl rfl rfl (by simp)
    (fun y hy => setRow_other w b y _ hy) ⟨_, E, setRow_heap w b cur _ E _ hb, hsz', by
      intro j v d hv hd
      have hlen : q + (φ x).cells.toList.length ≤ cur.toList.length := by simp; omega
      have hv' : (cur.toList.take q ++ (φ x).cells.toList ++ cur.toList.drop (q + (φ x).cells.toList.length))[j]? = some v := by simpa using hv
      rw [set_get hlen] at hv'
      rw [setAt_get hfit] at hd
      have hmono : ∀ v d, R (own F σ) w v d → R (own F σ) (w.setRow b (cur.toList.take q ++ (φ x).cells.toList ++ cur.toList.drop (q + (φ x).cells.size)).toArray) v d :=
        fun v d h => h.mono fun y hy hlt => ⟨setRow_other w b y _ (fun e => hy (.inr (e ▸ hbn))), hy⟩
      simp only [Array.length_toList, hvl] at hv'
      split at hv'
      · rename_i hc'; rw [if_pos hc'] at hd; exact hmono _ _ (hvR _ v d (by simpa using hv') hd)
      · rename_i hc'; rw [if_neg hc'] at hd; exact hmono _ _ (hR j v d (by simpa using hv') hd)⟩
  exact ⟨_, _, .tup _ _ rfl (fun j v d h => by simp at h), hn.1, hn.2, hq⟩
end
end Go.Arb
end

section
namespace Go.Arb
set_option linter.unusedVariables false
set_option linter.unusedSimpArgs false
open Go

/-- A slice type's element: its number, its cells, its bytes. -/
def apk (P : Program) (t : TypeId) : Option (TypeId × Nat × Nat) :=
  match P.underlying t with
  | some (.slice e) => match P.info? e with
    | some i => match i.zero with
      | some z => if z.cells.size = i.size ∧ 0 < i.size then some (e, i.size, i.bytes) else none
      | none => none
    | none => none
  | _ => none

theorem apk_spec {P : Program} {t e s b} (h : apk P t = some (e, s, b)) : ∃ i z, P.underlying t = some (.slice e) ∧ P.info? e = some i ∧ i.zero = some z ∧ z.cells.size = s ∧ i.size = s ∧ 0 < s ∧ i.bytes = b := by
  unfold apk at h
  split at h
  · rename_i e' hu
    split at h
    · rename_i i hi
      split at h
      · rename_i z hz
        split at h
        · rename_i hc
          simp at h
          obtain ⟨rfl, rfl, rfl⟩ := h
          exact ⟨i, z, hu, hi, hz, hc.1, rfl, hc.2, rfl⟩
        · simp at h
      · simp at h
    · simp at h
  · simp at h

theorem lt_of_get {α : Type} {l : List α} {i : Nat} {a : α} (h : l[i]? = some a) : i < l.length := by
  rcases Nat.lt_or_ge i l.length with h' | h'
  · exact h'
  · simp [List.getElem?_eq_none h'] at h

theorem flatten_at {sz : Nat} {elems : List (List DV)} (hz : ∀ es ∈ elems, es.length = sz) {p : Nat} {d : DV} (h : elems.flatten[p]? = some d) : 0 < sz ∧ p / sz < elems.length ∧ p % sz < sz ∧ (elems.getD (p / sz) [])[p % sz]? = some d := by
  have hlt := lt_of_get h
  have hsum : elems.flatten.length = elems.length * sz := by
    rw [List.length_flatten]
    clear h hlt
    induction elems with
    | nil => simp
    | cons a l ih => simp [hz a (by simp), ih (fun es hes => hz es (by simp [hes])), Nat.succ_mul]; omega
  rw [hsum] at hlt
  have hsz : 0 < sz := by rcases Nat.eq_zero_or_pos sz with h0 | h0; simp [h0] at hlt; exact h0
  have h1 : p / sz < elems.length := by rw [Nat.div_lt_iff_lt_mul hsz]; exact hlt
  have h2 := Nat.mod_lt p hsz
  refine ⟨hsz, h1, h2, ?_⟩
  rw [← flatten_get elems (p / sz) (p % sz) hz h2 h1, Nat.div_add_mod' p sz]
  exact h

theorem flatten_len {sz : Nat} {elems : List (List DV)} (hz : ∀ es ∈ elems, es.length = sz) : elems.flatten.length = elems.length * sz := by
  rw [List.length_flatten]
  induction elems with
  | nil => simp
  | cons a l ih => simp [hz a (by simp), ih (fun es hes => hz es (by simp [hes])), Nat.succ_mul]; omega

/-- The new elements: what an append reads. -/
def srcD (σ : Store) : DV → Option (List (List DV))
  | .sl es => some es
  | .nilsl => some []
  | .vw b off n c => match σ b with
    | some (.arr _ sz elems c') => if off % sz = 0 ∧ off / sz + n ≤ elems.length then some ((elems.drop (off / sz)).take n) else none
    | _ => none
  | _ => none

theorem src_run {C : Cx} {F σ w} (hS : Sim C F σ w) {d : DV} {v : Value} (hv : R (own F σ) w v d) {es : List (List DV)} (hs : srcD σ d = some es) {sz : Nat} (hz : ∀ e ∈ es, e.length = sz) :
    ∃ a c, v = .slice a es.length c ∧ (es ≠ [] → ∃ x o, a = some ⟨x, o, none⟩ ∧ ∃ news : List Value, news.length = es.length * sz ∧ (∀ (j : Nat) u, news[j]? = some u → w.cell? ⟨x, o + j, none⟩ = some u) ∧
      ∀ (j : Nat) u d, news[j]? = some u → es.flatten[j]? = some d → R (own F σ) w u d) := by
  cases d with
  | sl elems =>
    simp [srcD] at hs; subst hs
    cases hv with
    | sl0 a c => exact ⟨a, c, rfl, fun h => absurd rfl h⟩
    | sl x off n c sz' elems cs E fz vals hI hb hn hcap hz' hc hr' hmx =>
      subst hn
      refine ⟨_, c, rfl, fun hne => ⟨x, off, rfl, ?_⟩⟩
      have hel : 0 < elems.length := List.length_pos_iff.2 hne
      have hsz : sz' = sz := by
        have hm : elems[0] ∈ elems := List.getElem_mem _
        rw [← hz' _ hm, hz _ hm]
      subst hsz
      refine ⟨(List.range (elems.length * sz')).map fun p => vals (p / sz') (p % sz'), by simp, fun j u hu => ?_, fun j u d hu hd => ?_⟩
      · obtain ⟨hj, rfl⟩ := mapRange_get hu
        have hsz : 0 < sz' := by rcases Nat.eq_zero_or_pos sz' with h0 | h0; simp [h0] at hj; exact h0
        have h1 : j / sz' < elems.length := by rw [Nat.div_lt_iff_lt_mul hsz]; exact hj
        have := hc (j / sz') (j % sz') h1 (Nat.mod_lt _ hsz)
        rw [cell_row hb, ← this]; congr 1; rw [Nat.div_add_mod']
      · obtain ⟨hj, rfl⟩ := mapRange_get hu
        obtain ⟨h0, h1, h2, h3⟩ := flatten_at hz hd
        have hi : elems[j / sz']? = some (elems.getD (j / sz') []) := by simp [h1]
        exact hr' _ _ _ d hi h3
  | nilsl =>
    simp [srcD] at hs; subst hs
    cases hv
    exact ⟨_, 0, rfl, fun h => absurd rfl h⟩
  | vw b off n c =>
      simp only [srcD] at hs
      split at hs
      · rename_i E sz' elems c' hb
        split at hs
        · rename_i hcnd
          obtain ⟨hmod, hn⟩ := hcnd
          simp at hs; subst hs
          cases hv
          obtain ⟨cs, hh, hcs, hlc, hm, hz', hR⟩ := hS.ob b _ hb
          generalize hk : off / sz' = k at hn hz ⊢
          have hoff : off = k * sz' := by have := Nat.div_add_mod' off sz'; rw [hmod, hk] at this; omega
          refine ⟨_, c, by simp; omega, fun hne => ⟨b, off, rfl, ?_⟩⟩
          have hel : 0 < ((elems.drop k).take n).length := List.length_pos_iff.2 hne
          have hsz : sz' = sz := by
            have hm : ((elems.drop k).take n)[0] ∈ (elems.drop k).take n := List.getElem_mem _
            rw [← hz' _ (List.mem_of_mem_drop (List.mem_of_mem_take hm)), hz _ hm]
          subst hsz
          have hlen : ((elems.drop k).take n).length = n := by simp; omega
          have hle : (k + n) * sz' ≤ c' * sz' := Nat.mul_le_mul_right _ (by omega)
          rw [Nat.add_mul] at hle
          refine ⟨(List.range (((elems.drop k).take n).length * sz')).map fun p => cs.getD (off + p) undef, by simp, fun j u hu => ?_, fun j u d hu hd => ?_⟩
          · obtain ⟨hj, rfl⟩ := mapRange_get hu
            have hj' : off + j < cs.size := by rw [hlen] at hj; omega
            rw [cell_row hh]; simp [Array.getD, hj']
          · obtain ⟨hj, rfl⟩ := mapRange_get hu
            obtain ⟨h0, h1, h2, h3⟩ := flatten_at hz hd
            have hj' : off + j < cs.size := by rw [hlen] at hj; omega
            rw [hlen] at h1
            have hi : elems[k + j / sz']? = some (((elems.drop k).take n).getD (j / sz') []) := by
              have : k + j / sz' < elems.length := by omega
              simp [List.getElem?_take, h1, List.getD, this]
            obtain ⟨v, hv, hd'⟩ := hR _ _ _ d hi h3
            rw [Nat.add_mul, Nat.add_assoc, Nat.div_add_mod', ← hoff] at hv
            have : cs.getD (off + j) undef = v := by simp [Array.getD, hj'] ; rw [Array.getElem?_eq_getElem hj'] at hv; simpa using hv
            rw [this]; exact hd'
        · simp at hs
      · simp at hs
  | _ => simp [srcD] at hs

theorem Step.drew {σ w} : Step σ w σ w.drew := ⟨rfl, rfl, rfl, Nat.le_refl _, fun x _ h => ⟨rfl, h⟩⟩
theorem R.drew {I w v d} (h : R I w v d) : R I w.drew v d := R.mono (w := w) (w' := w.drew) (fun x hx _ => ⟨rfl, hx⟩) h
theorem Sim.drew {C F σ w} (h : Sim C F σ w) : Sim C F σ w.drew :=
  ⟨h.fr, fun x o ho => ORel.mono (w := w) (w' := w.drew) (fun y hy _ => ⟨rfl, hy⟩) rfl (h.ob x o ho), h.gl⟩

/-- The new row of an append that grows. -/
theorem ORel_grown {I : Nat → Prop} {w : World} {x : Nat} {E : TypeId} {sz c : Nat} {elems : List (List DV)} {cs : Array Value} (hb : w.heap[x]? = some (.cells cs E (0, 0))) (hcs : cs.size = c * sz) (hl : elems.length ≤ c) (hm : c ≤ maxLen)
    (hz : ∀ es ∈ elems, es.length = sz) (hr : ∀ (j : Nat) v d, cs[j]? = some v → elems.flatten[j]? = some d → R I w v d) : ORel I w x (.arr E sz elems c) := by
  refine ⟨cs, hb, hcs, hl, hm, hz, fun i j es d hi hj => ?_⟩
  have hi' := lt_of_get hi
  have hes : es.length = sz := hz es (List.mem_of_getElem? hi)
  have hj' : j < sz := hes ▸ lt_of_get hj
  have h1 : (i + 1) * sz ≤ c * sz := Nat.mul_le_mul_right _ (by omega)
  rw [Nat.succ_mul] at h1
  have hlt : i * sz + j < cs.size := by omega
  refine ⟨cs[i * sz + j], by simp [hlt], hr (i * sz + j) _ d (by simp [hlt]) ?_⟩
  rw [flatten_get elems i j hz hj' hi']
  simpa [List.getD, hi] using hj

section
variable {C : Cx} {o : Oper} {ε : Operand → DV} {σ : Store} {Q : DV → Store → Prop}

theorem all_one {I : Nat → Prop} {w : World} {news : List Value} {es : List (List DV)} {sz : Nat} (hl : news.length = es.length * sz) (hz : ∀ e ∈ es, e.length = sz) (hr : ∀ (j : Nat) u d, news[j]? = some u → es.flatten[j]? = some d → R I w u d)
    (h1 : ∀ e ∈ es, e.all one = true) : ∀ u ∈ news, u.oneCell' = true := by
  intro u hu
  obtain ⟨j, hj, rfl⟩ := List.getElem_of_mem hu
  have hj' : j < es.flatten.length := by rw [flatten_len hz]; omega
  have hR := hr j news[j] es.flatten[j] (by simp [hj]) (by simp [hj'])
  refine R_one hR ?_
  have hm : es.flatten[j] ∈ es.flatten := List.getElem_mem _
  obtain ⟨e, he, hm'⟩ := List.mem_flatten.1 hm
  exact List.all_eq_true.1 (h1 e he) _ hm'

/-- 'append' of something to nothing: a new row. -/
theorem AOp_append_nil {t : TypeId} {s x : Operand} {E : TypeId} {sz bytes : Nat} {es : List (List DV)} (ho : o.op = .call ⟨.builtin .append, #[s, x], #[t, t]⟩) (hs : ε s = .nilsl) (hx : srcD σ (ε x) = some es) (hk : apk C.P t = some (E, sz, bytes))
    (hz : ∀ e ∈ es, e.length = sz) (h1 : ∀ e ∈ es, e.all one = true) (hne : es ≠ []) (hbd : es.length * bytes ≤ 140737488355328) (hbd' : es.length ≤ 4611686018427387904)
    (hq : ∀ b c, σ b = none → es.length ≤ c → Q (.vw b 0 es.length c) (sset σ b (.arr E sz es c))) : AOp C o ε σ Q := by
  intro F w φ hr hS
  have hs1 := hr s (by simp [ho, Op.operands, Call.operands])
  have hx1 := hr x (by simp [ho, Op.operands, Call.operands])
  rw [hs] at hs1
  obtain ⟨i, z, hu, hi, hz0, hzs, hsz, hpos, hby⟩ := apk_spec hk
  obtain ⟨a, c, hv, hsrc⟩ := src_run hS hx1 hx hz
  obtain ⟨xb, xo, rfl, news, hnl, hnews, hnR⟩ := hsrc hne
  generalize hvs : φ s = vs at hs1
  cases hs1 with
  | nilsl =>
  have hpos' : 0 < es.length := List.length_pos_iff.2 hne
  have hnews' : ∀ (j : Nat) u, news[j]? = some u → w.cell? ((⟨xb, xo, none⟩ : Addr).add j) = some u := fun j u h => by rw [add_mk]; exact hnews j u h
  have hrun : (execOp φ o).run C.P w = .ok (.value (.slice (some ⟨w.heap.size, 0, none⟩) es.length (grownCap w es.length 0 E))) (w.drew.alloc (.cells (news.toArray ++ Builtin.zeroCells z.cells (grownCap w es.length 0 E - es.length)) E)) := by
    have hap : (Builtin.append_ #[t, t] o.type #[.slice none 0 0, .slice (some ⟨xb, xo, none⟩) es.length c]).run C.P w = .ok (.slice (some ⟨w.heap.size, 0, none⟩) es.length (grownCap w es.length 0 E)) (w.drew.alloc (.cells (news.toArray ++ Builtin.zeroCells z.cells (grownCap w es.length 0 E - es.length)) E)) := by
      exact run_append_nil (P := C.P) w t o.type E i z hu hi hz0 ⟨xb, xo, none⟩ es.length c news (by rw [hsz]; exact hnl) hnews' hpos' (by omega) (by rw [hby]; omega)
    simp [execOp, ho, resolve, invoke, builtin, hvs, hv, hap]
  rw [hrun]
  have hSd := hS.drew
  have hge := grownCap_ge w es.length 0 E
  have hn := Sim.new hSd (.cells (news.toArray ++ Builtin.zeroCells z.cells (grownCap w es.length 0 E - es.length)) E) (.arr E sz es (grownCap w es.length 0 E)) (fun hown => by
    refine ORel_grown (heap_push_new w.drew _) ?_ hge (grownCap_le_maxLen w es.length 0 E (by unfold maxLen; omega)) hz (fun j v d hv hd => ?_)
    · simp only [Array.size_append, List.size_toArray, size_zeroCells, hzs, hnl, ← Nat.add_mul]; congr 1; omega
    · have hj : j < news.length := by rw [hnl, ← flatten_len hz]; exact lt_of_get hd
      rw [Array.getElem?_append_left (by simpa using hj)] at hv
      exact ((hnR j v d (by simpa using hv) hd).drew).mono fun y hy hlt => ⟨heap_push_lt hlt, fun h => hy (hown y h (by have : w.drew.heap.size = w.heap.size := rfl; omega))⟩)
  exact ⟨_, _, .vw _ _ _ _, hn.1, Step.drew.trans hn.2, hq _ _ (hS.none_of_ge (Nat.le_refl _)) hge⟩

/-- 'append' of nothing. -/
theorem AOp_append_zero {t : TypeId} {s x : Operand} {sz : Nat} (ho : o.op = .call ⟨.builtin .append, #[s, x], #[t, t]⟩) (hs : (match ε s with | .nilsl | .vw _ _ _ _ => true | _ => false) = true) (hx : srcD σ (ε x) = some []) (hk : slk C.P t = some sz)
    (hc : ∀ b q n c, ε s = .vw b q n c → n ≤ c ∧ ∃ E s' elems c', σ b = some (.arr E s' elems c') ) (hq : Q (ε s) σ) : AOp C o ε σ Q := by
  intro F w φ hr hS
  have hs1 := hr s (by simp [ho, Op.operands, Call.operands])
  have hx1 := hr x (by simp [ho, Op.operands, Call.operands])
  obtain ⟨e, i, hu, hi, hsz⟩ := slk_spec hk
  obtain ⟨a, c, hv, _⟩ := src_run (sz := 0) hS hx1 hx (fun e he => by simp at he)
  have hf : ∀ w, (Builtin.firstCells i.size 0 (.slice a 0 c)).run C.P w = .ok #[] w := by
    intro w; cases a <;> simp [Builtin.firstCells, loadCells, loadCellsFrom]
  have hsl : ∃ b n c', φ s = .slice b n c' ∧ n ≤ c' := by
    have hs2 := hs1
    generalize φ s = vs at hs2
    generalize hxd : ε s = ds at hs hs2 hc
    cases ds <;> simp at hs
    · cases hs2; exact ⟨_, _, _, rfl, Nat.le_refl _⟩
    · rename_i b q n cc
      have := hc b q n cc rfl
      cases hs2; exact ⟨_, _, _, rfl, this.1⟩
  obtain ⟨b, n, c', hvs, hle⟩ := hsl
  have hrun : (execOp φ o).run C.P w = .ok (.value (φ s)) w := by
    simp only [List.length_nil] at hv
    cases b <;> (simp [execOp, ho, resolve, invoke, builtin, hvs, hv, Builtin.append_, run_underlying hu, run_sizeOf' hi, Builtin.lenOf, hle]; rw [hf]; simp [storeCells])
  rw [hrun]
  exact ⟨_, _, hs1, hS, .refl _ _, hq⟩

theorem own_sdel_sset {F : Nat → Prop} {σ : Store} {b : Nat} {o : AObj} (hb : σ b ≠ none) : sset (sdel σ b) b o = sset σ b o := by
  funext x; simp only [sset, sdel]; split <;> rfl

/-- 'append' to a row of one's own: it may be another one behind it. -/
theorem AOp_append_own {t : TypeId} {s x : Operand} {b c : Nat} {E : TypeId} {sz bytes : Nat} {elems es : List (List DV)} (ho : o.op = .call ⟨.builtin .append, #[s, x], #[t, t]⟩) (hs : ε s = .vw b 0 elems.length c) (hb : σ b = some (.arr E sz elems c)) (hx : srcD σ (ε x) = some es) (hk : apk C.P t = some (E, sz, bytes))
    (hz : ∀ e ∈ es, e.length = sz) (h1 : ∀ e ∈ es, e.all one = true) (hne : es ≠ []) (hbd : (elems.length + es.length) * bytes ≤ 140737488355328) (hbd' : elems.length + es.length ≤ 4611686018427387904)
    (hq : ∀ b' c', sdel σ b b' = none → elems.length + es.length ≤ c' → Q (.vw b' 0 (elems.length + es.length) c') (sset (sdel σ b) b' (.arr E sz (elems ++ es) c'))) : AOp C o ε σ Q := by
  intro F w φ hr hS
  have hs1 := hr s (by simp [ho, Op.operands, Call.operands])
  have hx1 := hr x (by simp [ho, Op.operands, Call.operands])
  rw [hs] at hs1
  obtain ⟨i, z, hu, hi, hz0, hzs, hsz, hpos, hby⟩ := apk_spec hk
  obtain ⟨a, cx, hv, hsrc⟩ := src_run hS hx1 hx hz
  obtain ⟨xb, xo, rfl, news, hnl, hnews, hnR⟩ := hsrc hne
  generalize hvs : φ s = vs at hs1
  cases hs1
  have hpos' : 0 < es.length := List.length_pos_iff.2 hne
  have hnews' : ∀ (j : Nat) u, news[j]? = some u → w.cell? ((⟨xb, xo, none⟩ : Addr).add j) = some u := fun j u h => by rw [add_mk]; exact hnews j u h
  obtain ⟨cs, hh, hcs, hlc, hcm, hzb, hbR⟩ := hS.ob b _ hb
  have hbn : σ b ≠ none := by simp [hb]
  have hone := all_one hnl hz hnR h1
  have hzall : ∀ e ∈ elems ++ es, e.length = sz := fun e he => by rcases List.mem_append.1 he with h | h; exact hzb e h; exact hz e h
  have hnls : elems.length * sz ≤ c * sz := Nat.mul_le_mul_right _ hlc
  -- the old cells
  have holdR : ∀ (j : Nat) v d, cs[j]? = some v → elems.flatten[j]? = some d → R (own F σ) w v d := by
    intro j v d hv hd
    obtain ⟨h0, h1, h2, h3⟩ := flatten_at hzb hd
    have hi : elems[j / sz]? = some (elems.getD (j / sz) []) := by simp [h1]
    obtain ⟨v', hv', hR⟩ := hbR _ _ _ d hi h3
    rw [Nat.div_add_mod'] at hv'
    rw [hv] at hv'
    simp at hv'
    exact hv' ▸ hR
  by_cases hroom : elems.length + es.length ≤ c
  · have hfit : elems.length * i.size + news.length ≤ cs.size := by rw [hsz, hnl, hcs, ← Nat.add_mul]; exact Nat.mul_le_mul_right _ hroom
    have hap := run_append_room (P := C.P) w t o.type E i hu hi b elems.length c cs hh ⟨xb, xo, none⟩ es.length cx news (by rw [hsz]; exact hnl) hnews' hone hroom hfit
    have hrun : (execOp φ o).run C.P w = .ok (.value (.slice (some ⟨b, 0, none⟩) (elems.length + es.length) c)) (w.setRow b (cs.toList.take (elems.length * i.size) ++ news ++ cs.toList.drop (elems.length * i.size + news.length)).toArray) := by
      simp [execOp, ho, resolve, invoke, builtin, hvs, hv, hap]
    rw [hrun]
    have hsize : (cs.toList.take (elems.length * i.size) ++ news ++ cs.toList.drop (elems.length * i.size + news.length)).toArray.size = c * sz := by simp; omega
    have hn := Sim.write hS (b := b) (w' := w.setRow b (cs.toList.take (elems.length * i.size) ++ news ++ cs.toList.drop (elems.length * i.size + news.length)).toArray) hbn (.arr E sz (elems ++ es) c) rfl rfl rfl (by simp)
      (fun y hy => setRow_other w b y _ hy) (by
        refine ORel_grown (setRow_heap w b cs _ E _ hh) hsize (by simpa using hroom) hcm hzall (fun j v d hv hd => ?_)
        have hmono : ∀ v d, R (own F σ) w v d → R (own F σ) (w.setRow b (cs.toList.take (elems.length * i.size) ++ news ++ cs.toList.drop (elems.length * i.size + news.length)).toArray) v d :=
          fun v d h => h.mono fun y hy hlt => ⟨setRow_other w b y _ (fun e => hy (.inr (e ▸ hbn))), hy⟩
        have hv' : (cs.toList.take (elems.length * i.size) ++ news ++ cs.toList.drop (elems.length * i.size + news.length))[j]? = some v := by simpa using hv
        rw [set_get (by simpa using hfit)] at hv'
        rw [List.flatten_append] at hd
        rw [hsz] at hv'
        by_cases hj : j < elems.length * sz
        · rw [if_neg (by omega)] at hv'
          rw [List.getElem?_append_left (by rw [flatten_len hzb]; exact hj)] at hd
          exact hmono _ _ (holdR j v d (by simpa using hv') hd)
        · rw [List.getElem?_append_right (by rw [flatten_len hzb]; omega), flatten_len hzb] at hd
          have := lt_of_get hd
          rw [flatten_len hz] at this
          rw [if_pos (by rw [hnl]; omega)] at hv'
          exact hmono _ _ (hnR _ v d hv' hd))
    rw [← own_sdel_sset (F := F) hbn] at hn
    exact ⟨_, _, .vw _ _ _ _, hn.1, hn.2, hq b c sdel_same (by omega)⟩
  · have holds : ∀ (j : Nat) u, (cs.toList.take (elems.length * sz))[j]? = some u → w.cell? ((⟨b, 0, none⟩ : Addr).add j) = some u := by
      intro j u hu
      rw [List.getElem?_take] at hu
      split at hu
      · rw [add_mk, cell_row hh, Nat.zero_add]; simpa using hu
      · simp at hu
    have hap := run_append_grow (P := C.P) w t o.type E i z hu hi hz0 ⟨b, 0, none⟩ elems.length c (cs.toList.take (elems.length * sz)) (by rw [hsz]; simp; omega) holds ⟨xb, xo, none⟩ es.length cx news (by rw [hsz]; exact hnl) hnews' (by omega) (by omega)
      (growslice_fits (by omega) (by rw [hby]; exact hbd))
    have hrun : (execOp φ o).run C.P w = .ok (.value (.slice (some ⟨w.heap.size, 0, none⟩) (elems.length + es.length) (grownCap w (elems.length + es.length) c E))) (w.drew.alloc (.cells ((cs.toList.take (elems.length * sz)).toArray ++ news.toArray ++ Builtin.zeroCells z.cells (grownCap w (elems.length + es.length) c E - (elems.length + es.length))) E)) := by
      simp only [execOp, ho, resolve, invoke, builtin]
      simp [hvs, hv, hap]
    rw [hrun]
    obtain ⟨hSd, hstd, hRd⟩ := Sim.drop hS.drew b
    have hge := grownCap_ge w (elems.length + es.length) c E
    have hn := Sim.new hSd (.cells ((cs.toList.take (elems.length * sz)).toArray ++ news.toArray ++ Builtin.zeroCells z.cells (grownCap w (elems.length + es.length) c E - (elems.length + es.length))) E) (.arr E sz (elems ++ es) (grownCap w (elems.length + es.length) c E)) (fun hown => by
      refine ORel_grown (heap_push_new w.drew _) ?_ (by simpa using hge) (grownCap_le_maxLen w _ c E (by unfold maxLen; omega)) hzall (fun j v d hv hd => ?_)
      · simp only [Array.size_append, List.size_toArray, size_zeroCells, hzs, hnl, List.length_take, Array.length_toList]
        rw [Nat.min_eq_left (by omega), ← Nat.add_mul, ← Nat.add_mul]; congr 1; omega
      · have hj : j < (elems.length + es.length) * sz := by
          have := lt_of_get hd
          rwa [flatten_len hzall, List.length_append] at this
        rw [Nat.add_mul] at hj
        have hmono : ∀ v d, R (own F σ) w v d → R (own F (sset (sdel σ b) w.drew.heap.size (.arr E sz (elems ++ es) (grownCap w (elems.length + es.length) c E)))) (w.drew.alloc (.cells ((cs.toList.take (elems.length * sz)).toArray ++ news.toArray ++ Builtin.zeroCells z.cells (grownCap w (elems.length + es.length) c E - (elems.length + es.length))) E)) v d :=
          fun v d h => (hRd v d h.drew).mono fun y hy hlt => ⟨heap_push_lt hlt, fun h => hy (hown y h (by omega))⟩
        rw [List.flatten_append] at hd
        have hl1 : (cs.toList.take (elems.length * sz)).length = elems.length * sz := by simp; omega
        rw [Array.getElem?_append_left (by simp [hl1, hnl]; omega)] at hv
        by_cases hj' : j < elems.length * sz
        · rw [Array.getElem?_append_left (by simp; omega)] at hv
          rw [List.getElem?_append_left (by rw [flatten_len hzb]; exact hj')] at hd
          have hv' : cs[j]? = some v := by
            have : (cs.toList.take (elems.length * sz))[j]? = some v := by simpa using hv
            rw [List.getElem?_take, if_pos hj'] at this
            simpa using this
          exact hmono _ _ (holdR j v d hv' hd)
        · rw [Array.getElem?_append_right (by simp; omega)] at hv
          rw [List.getElem?_append_right (by rw [flatten_len hzb]; omega), flatten_len hzb] at hd
          refine hmono _ _ (hnR (j - elems.length * sz) v d ?_ hd)
          have : (cs.toList.take (elems.length * sz)).toArray.size = elems.length * sz := by simpa using hl1
          rw [this] at hv
          simpa using hv)
    refine ⟨_, _, .vw _ _ _ _, hn.1, Step.drew.trans (hstd.trans hn.2), hq _ _ ?_ hge⟩
    unfold sdel; split
    · rfl
    · exact hS.none_of_ge (Nat.le_refl _)
end
end Go.Arb
end

section
namespace Go.Arb
set_option linter.unusedVariables false
set_option linter.unusedSimpArgs false
open Go

/-! ### The evaluator: operations that leave what is owned alone -/
def bsD (P : Program) (t : TypeId) (n : Nat) (parts : List (Nat × DV)) : Option DV :=
  match apk P t with
  | some (_, s, _) =>
    if parts.map (·.1) = List.range' 0 n ∧ n * s ≤ 2 ^ 24 then
      match parts.mapM fun p => dcells p.2 with
      | some elems => if elems.all (fun es => es.length == s) = true then some (.sl elems) else none
      | none => none
    else none
  | none => none

def lenD (P : Program) (t : TypeId) : DV → Option DV
  | .s l => if descOf P t = 5 then some (.i .i64 l.length) else none
  | .sl es => if (slk P t).isSome then some (.i .i64 es.length) else none
  | .nilsl => if (slk P t).isSome then some (.i .i64 0) else none
  | .vw _ _ n _ => if (slk P t).isSome then some (.i .i64 n) else none
  | _ => none

def slD (P : Program) (ε : Operand → DV) (t : TypeId) (x : Operand) (lo hi mx : Option Operand) : Option DV :=
  match mx with
  | none =>
    match ε x with
    | .s s => if descOf P t = 5 then
        match bndD ε lo 0, bndD ε hi s.length with
        | some l, some h => if l ≤ h ∧ h ≤ s.length then some (.s ((s.drop l).take (h - l))) else none
        | _, _ => none
      else none
    | .vw b off n c => match slk P t with
      | some s => match bndD ε lo 0, bndD ε hi n with
        | some l, some h => if l ≤ h ∧ h ≤ c then some (.vw b (if c = l then off else off + l * s) (h - l) (c - l)) else none
        | _, _ => none
      | none => none
    | .sl es => match slk P t with
      | some s => match bndD ε lo 0, bndD ε hi es.length with
        | some l, some h => if (l ≤ h ∧ h ≤ es.length) ∧ es.all (fun e => e.length == s) = true then some (.sl ((es.drop l).take (h - l))) else none
        | _, _ => none
      | none => none
    | _ => none
  | some m => match lo, hi with
    | none, some h => match ε x, ε h, ε m, slk P t with
      | .sl _, .i _ 0, .i _ 0, some _ | .nilsl, .i _ 0, .i _ 0, some _ | .vw _ _ _ _, .i _ 0, .i _ 0, some _ => some (.sl [])
      | _, _, _, _ => none
    | _, _ => none

def idxA (P : Program) (t : TypeId) : DV → DV → Option DV
  | .sl es, .i _ i => match slk P t with
    | some s => if 0 ≤ i then match es[i.toNat]? with
      | some e => if e.length = s then some (.dp e 0) else none
      | none => none
      else none
    | none => none
  | .vw b off n _, .i _ i => match slk P t with
    | some s => if 0 ≤ i ∧ i < n then some (.ptr b (off + i.toNat * s)) else none
    | none => none
  | .dp cs off, .i _ i => match alk P t with
    | some (n, s, _) => if 0 ≤ i ∧ i < n then some (.dp cs (off + i.toNat * s)) else none
    | none => none
  | .ptr b off, .i _ i => match alk P t with
    | some (n, s, _) => if 0 ≤ i ∧ i < n then some (.ptr b (off + i.toNat * s)) else none
    | none => none
  | _, _ => none

def idxV (P : Program) (t : TypeId) : DV → DV → Option DV
  | .agg cs, .i _ i => match alk P t with
    | some (n, s, g) => if 0 ≤ i ∧ i < n then partD g cs (i.toNat * s) s else none
    | none => none
  | .s l, .i _ i => if descOf P t = 5 ∧ 0 ≤ i then match l[i.toNat]? with
      | some b => some (.i .u8 b.toNat)
      | none => none
    else none
  | _, _ => none

def loadV (P : Program) (σ : Store) (t : TypeId) : DV → Option DV
  | .dp cs off => loadD P t cs off
  | .ptr b off => match σ b with
    | some (.cells ds) => loadD P t ds off
    | some (.arr _ sz elems _) => if 0 < sz then match elems[off / sz]? with
      | some es => loadD P t es (off % sz)
      | none => none
      else none
    | _ => none
  | _ => none

def fldA (P : Program) (s f : Nat) : DV → Option DV
  | .dp cs off => match flk P s f with
    | some (k, _, _) => some (.dp cs (off + k))
    | none => none
  | .ptr b off => match flk P s f with
    | some (k, _, _) => some (.ptr b (off + k))
    | none => none
  | _ => none

def fldV (P : Program) (t f : Nat) : DV → Option DV
  | .agg cs => match flk P t f with
    | some (k, m, g) => partD g cs k m
    | none => none
  | _ => none

def nckD : DV → Option DV
  | .dp cs off => some (.dp cs off)
  | .ptr b off => some (.ptr b off)
  | .fn (.func f) a c => some (.fn (.func f) a c)
  | _ => none

def boxD (d : DV) : Option DV :=
  match dcells d with
  | some cs => some (.dp cs 0)
  | none => none

def bldD (P : Program) (t : TypeId) (parts : List (Nat × DV)) : Option DV :=
  match plc P t, zeroC P t with
  | some pl, some z => match fillD (pl[·]?) z parts with
    | some ds => some (.agg ds)
    | none => none
  | _, _ => none

def cnvD (P : Program) (s t : TypeId) : DV → Option DV
  | .i _ n => match ikOf P t with
    | some k => if (P.underlying s).isSome then some (.i k (k.wrap n)) else none
    | none => none
  | _ => none

def extD (k : Nat) : DV → Option DV
  | .tup vs => vs[k]?
  | _ => none

def max2D : DV → DV → Option DV
  | .i k a, .i _ b => some (.i k (if b > a then b else a))
  | _, _ => none
def min2D : DV → DV → Option DV
  | .i k a, .i _ b => some (.i k (if b < a then b else a))
  | _, _ => none

def aev (P : Program) (σ : Store) (ε : Operand → DV) : Op → Option DV
  | .move x => some (ε x)
  | .assign x => some (ε x)
  | .nilCheck x => nckD (ε x)
  | .box _ x => boxD (ε x)
  | .build t parts => bldD P t (parts.toList.map fun p => (p.1, ε p.2))
  | .buildSlice t n parts => bsD P t n (parts.toList.map fun p => (p.1, ε p.2))
  | .load t x => loadV P σ t (ε x)
  | .fieldAddr s x f => fldA P s f (ε x)
  | .indexAddr t x ix => idxA P t (ε x) (ε ix)
  | .field t x f => fldV P t f (ε x)
  | .index t x ix => idxV P t (ε x) (ε ix)
  | .binOp op t x y _ => binD P op t (ε x) (ε y)
  | .unOp op _ x => unD op (ε x)
  | .convert s t x => cnvD P s t (ε x)
  | .makeFunc f a c => some (.fn f (a.toList.map ε) (c.toList.map ε))
  | .slice t x lo hi mx => slD P ε t x lo hi mx
  | .extract x k => extD k (ε x)
  | .makeInterface t x => if P.concrete t then some (.ifc t (ε x)) else none
  | .call ⟨.builtin .len, ⟨[x]⟩, ⟨[t]⟩⟩ => lenD P t (ε x)
  | .call ⟨.builtin .max, ⟨[x, y]⟩, _⟩ => max2D (ε x) (ε y)
  | .call ⟨.builtin .min, ⟨[x, y]⟩, _⟩ => min2D (ε x) (ε y)
  | _ => none

section
variable {C : Cx} {o : Oper} {ε : Operand → DV} {σ : Store} {d : DV}

theorem aev_sound {op : Op} (ho : o.op = op) (h : aev C.P σ ε op = some d) : Yields C o ε σ d := by
  unfold aev at h
  split at h
  · simp at h; exact y_move (.inl ho) h
  · simp at h; exact y_move (.inr ho) h
  · unfold nckD at h
    split at h <;> simp at h <;> subst h <;> rename_i hx <;> exact y_nilCheck ho hx rfl
  · unfold boxD at h
    split at h
    · rename_i hc; simp at h; exact y_box ho hc h
    · simp at h
  · unfold bldD at h
    split at h
    · rename_i hp hz
      split at h
      · rename_i hf; simp at h; exact y_build ho hp hz hf h
      · simp at h
    · simp at h
  · unfold bsD at h
    split at h
    · rename_i s _ hk
      split at h
      · rename_i hc
        split at h
        · rename_i elems hm
          split at h
          · rename_i hall
            simp at h
            obtain ⟨i, z, hu, hi, hz0, hzs, hsz, hpos, hby⟩ := apk_spec hk
            refine y_buildSlice ho (by simp [slk, hu, hi, hsz]) hu hi hz0 (by simpa [Function.comp_def] using hc.1) hm (fun es hes => ?_) hc.2 (Nat.le_trans (Nat.le_mul_of_pos_right _ hpos) (Nat.le_trans hc.2 (by decide))) h
            have := List.all_eq_true.1 hall es hes
            simpa using this
          · simp at h
        · simp at h
      · simp at h
    · simp at h
  · unfold loadV at h
    split at h
    · rename_i hx; exact y_load ho hx h
    · rename_i b off hx
      split at h
      · rename_i hs; exact y_loadO ho hx hs h
      · rename_i E sz elems c hs
        split at h
        · split at h
          · rename_i es he
            exact y_loadA (i := off / sz) (off := off % sz) ho (by rw [hx, Nat.div_add_mod']) hs he h
          · simp at h
        · simp at h
      · simp at h
    · simp at h
  · unfold fldA at h
    split at h
    · rename_i hx
      split at h
      · rename_i hf; simp at h; exact y_fieldAddr_dp ho hx hf h
      · simp at h
    · rename_i hx
      split at h
      · rename_i hf; simp at h; exact y_fieldAddr_ptr ho hx hf h
      · simp at h
    · simp at h
  · unfold idxA at h
    split at h
    · rename_i hx hi
      split at h
      · rename_i hs
        split at h
        · rename_i h0
          split at h
          · rename_i he
            split at h
            · rename_i hl; simp at h; exact y_indexAddr_sl ho hx hi hs h0 he hl h
            · simp at h
          · simp at h
        · simp at h
      · simp at h
    · rename_i hx hi
      split at h
      · rename_i hs
        split at h
        · rename_i hc; simp at h; exact y_indexAddr_vw ho hx hi hs hc.1 hc.2 h
        · simp at h
      · simp at h
    · rename_i hx hi
      split at h
      · rename_i hs
        split at h
        · rename_i hc; simp at h; exact y_indexAddr_arr ho hi hs hc.1 hc.2 (by rw [hx]; exact h) (by rw [hx])
        · simp at h
      · simp at h
    · rename_i hx hi
      split at h
      · rename_i hs
        split at h
        · rename_i hc; simp at h; exact y_indexAddr_arr ho hi hs hc.1 hc.2 (by rw [hx]; exact h) (by rw [hx])
        · simp at h
      · simp at h
    · simp at h
  · unfold fldV at h
    split at h
    · rename_i hx
      split at h
      · rename_i hf; exact y_field ho hx hf h
      · simp at h
    · simp at h
  · unfold idxV at h
    split at h
    · rename_i hx hi
      split at h
      · rename_i hs
        split at h
        · rename_i hc; exact y_index_arr ho hx hi hs hc.1 hc.2 h
        · simp at h
      · simp at h
    · rename_i hx hi
      split at h
      · rename_i hc
        split at h
        · rename_i hb; simp at h; exact y_index_str ho hx hi (underlying_of_desc.2.2.2.2 hc.1) hc.2 hb h
        · simp at h
      · simp at h
    · simp at h
  · exact y_binOp ho h
  · exact y_unOp ho h
  · unfold cnvD at h
    split at h
    · rename_i hx
      split at h
      · rename_i hk
        split at h
        · rename_i hs; simp at h; exact y_convert ho hx hs hk h
        · simp at h
      · simp at h
    · simp at h
  · simp at h; exact y_makeFunc ho h
  · unfold slD at h
    split at h
    · split at h
      · rename_i hx
        split at h
        · rename_i hu
          split at h
          · rename_i hl hh
            split at h
            · rename_i hc; simp at h; exact y_slice_str ho hx (underlying_of_desc.2.2.2.2 hu) hl hh hc.1 hc.2 h
            · simp at h
          · simp at h
        · simp at h
      · rename_i hx
        split at h
        · rename_i hs
          split at h
          · rename_i hl hh
            split at h
            · rename_i hc; simp at h; exact y_slice_vw ho hx hs hl hh hc.1 hc.2 h
            · simp at h
          · simp at h
        · simp at h
      · rename_i hx
        split at h
        · rename_i hs
          split at h
          · rename_i hl hh
            split at h
            · rename_i hc
              simp at h
              exact y_slice_sl ho hx hs hl hh hc.1.1 hc.1.2 (fun es hes => by have := List.all_eq_true.1 hc.2 es hes; simpa using this) h
            · simp at h
          · simp at h
        · simp at h
      · simp at h
    · split at h
      · split at h
        · rename_i hx hh hm hs; simp at h; exact y_slice_none ho (by rw [hx]) hs hh hm h
        · rename_i hx hh hm hs; simp at h; exact y_slice_none ho (by rw [hx]) hs hh hm h
        · rename_i hx hh hm hs; simp at h; exact y_slice_none ho (by rw [hx]) hs hh hm h
        · simp at h
      · simp at h
  · unfold extD at h
    split at h
    · rename_i hx; exact y_extract ho hx h
    · simp at h
  · split at h
    · rename_i hc; simp at h; exact y_makeInterface ho hc h
    · simp at h
  · rename_i x t
    unfold lenD at h
    split at h
    · rename_i l hx
      split at h
      · rename_i hu; simp at h; exact y_len ho (.inr (underlying_of_desc.2.2.2.2 hu)) (by rw [hx]; exact h) (by rw [hx]; simpa using hu)
      · simp at h
    · rename_i hx
      split at h
      · rename_i hu; simp at h; exact y_len ho (.inl hu) (by rw [hx]; exact h) (by rw [hx]; exact hu)
      · simp at h
    · rename_i hx
      split at h
      · rename_i hu; simp at h; exact y_len ho (.inl hu) (by rw [hx]; exact h) (by rw [hx]; exact hu)
      · simp at h
    · rename_i hx
      split at h
      · rename_i hu; simp at h; exact y_len ho (.inl hu) (by rw [hx]; exact h) (by rw [hx]; exact hu)
      · simp at h
    · simp at h
  · unfold max2D at h
    split at h
    · rename_i hx hy; simp at h; exact y_max ho hx hy (by simpa using h)
    · simp at h
  · unfold min2D at h
    split at h
    · rename_i hx hy; simp at h; exact y_min ho hx hy (by simpa using h)
    · simp at h
  · simp at h
end

/-! ### Running a list as far as the evaluator goes -/
/-- A value that is there if something is so: as it is then. -/
def sd : DV → DV
  | .opt _ d => d
  | d => d
def cnd : DV → Bool
  | .opt x _ => x
  | _ => true

theorem R_sd {I w v d} (h : R I w v d) (hcd : cnd d = true) : R I w v (sd d) := by
  cases h with
  | optT v d h => exact h
  | optF d => simp [cnd] at hcd
  | any v => exact .any v
  | b x => exact .b x
  | i k n => exact .i k n
  | s x l h => exact .s x l h
  | nilp => exact .nilp
  | ptr x off => exact .ptr x off
  | dp x o0 off cells cs E fz vals hI hb hc hr => exact .dp x o0 off cells cs E fz vals hI hb hc hr
  | nilsl => exact .nilsl
  | sl0 a c => exact .sl0 a c
  | sl x off n c sz elems cs E fz vals hI hb hn hcap hz hc hr hmx => exact .sl x off n c sz elems cs E fz vals hI hb hn hcap hz hc hr hmx
  | vw x off n c => exact .vw x off n c
  | nilmap => exact .nilmap
  | mp x => exact .mp x
  | agg vs ds hl hr => exact .agg vs ds hl hr
  | tup vs ds hl hr => exact .tup vs ds hl hr
  | fn f a c da dc ha hc hra hrc => exact .fn f a c da dc ha hc hra hrc
  | nilfn => exact .nilfn
  | ifc t v d h => exact .ifc t v d h
  | nilif => exact .nilif

def evs (n : Nat) (ρ : Env) (x : Operand) : DV := sd (ev n ρ x)

/-- What is picked. -/
def pickV (x : Bool) : DV → DV → Option DV
  | .b p, .b q => some (.b (if x then p else q))
  | a, b => match x with
    | true => some a
    | false => some b

def pickS (n : Nat) (ρ : Env) (c a b : Operand) : Option (DV × Bool) :=
  match evs n ρ c with
  | .b x => match pickV x (evs n ρ a) (evs n ρ b) with
    | some d => some (d, cnd (ev n ρ c) && (if x then cnd (ev n ρ a) else cnd (ev n ρ b)))
    | none => none
  | _ => none

def opl : Op → List Operand
  | .move x | .assign x | .nilCheck x | .box _ x | .load _ x | .fieldAddr _ x _ | .field _ x _ | .unOp _ _ x | .convert _ _ x | .makeInterface _ x | .extract x _ => [x]
  | .indexAddr _ x y | .index _ x y | .binOp _ _ x y _ => [x, y]
  | .build _ ps | .buildSlice _ _ ps => ps.toList.map (·.2)
  | .makeFunc _ a b => a.toList ++ b.toList
  | .slice _ x none none none => [x]
  | .slice _ x (some l) none none => [x, l]
  | .slice _ x none (some h) none => [x, h]
  | .slice _ x (some l) (some h) none => [x, l, h]
  | .slice _ x none (some h) (some m) => [x, h, m]
  | .call ⟨.builtin _, args, _⟩ => args.toList
  | op => op.operands.toList

theorem mem_opl {op : Op} {x : Operand} (h : x ∈ op.operands) : x ∈ opl op := by
  unfold opl
  split <;> simp_all [Op.operands, Call.operands]

def allC (n : Nat) (ρ : Env) : List Operand → Bool
  | [] => true
  | x :: l => cnd (ev n ρ x) && allC n ρ l

theorem allC_mem {n ρ} : ∀ {l : List Operand}, allC n ρ l = true → ∀ x ∈ l, cnd (ev n ρ x) = true
  | [], _, _, h => by simp at h
  | y :: l, h, x, hx => by
    simp only [allC, Bool.and_eq_true] at h
    rcases List.mem_cons.1 hx with rfl | hx
    · exact h.1
    · exact allC_mem h.2 x hx

/-- A value, and what must be so for it to be there. -/
def aevS (P : Program) (σ : Store) (n : Nat) (ρ : Env) (op : Op) : Option (DV × Bool) :=
  match op with
  | .pick c a b => pickS n ρ c a b
  | op => match aev P σ (evs n ρ) op with
    | some d => some (d, allC n ρ (opl op))
    | none => none

theorem aevS_sound {C : Cx} {n : Nat} {ρ : Env} {σ : Store} {o : Oper} {d : DV} {s : Bool} (h : aevS C.P σ n ρ o.op = some (d, s)) (hs : s = true) : Yields C o (ev n ρ) σ d := by
  unfold aevS at h
  split at h
  · rename_i c a b ho
    unfold pickS at h
    split at h
    · rename_i x hx
      split at h
      · rename_i d' hp
        simp at h
        obtain ⟨rfl, rfl⟩ := h
        simp only [Bool.and_eq_true] at hs
        refine .of_run fun F w φ hr hS => ?_
        have hc := R_sd (hr c (by simp [ho, Op.operands])) hs.1
        rw [show sd (ev n ρ c) = .b x from hx] at hc
        refine ⟨if x then φ a else φ b, by simp [execOp, ho, R_b hc, asBool], ?_⟩
        have ha := hr a (by simp [ho, Op.operands])
        have hb := hr b (by simp [ho, Op.operands])
        cases x with
        | true =>
          have ha' := R_sd ha (by simpa using hs.2)
          unfold pickV at hp
          split at hp
          · rename_i p q h1 h2; simp at hp; subst hp; simpa [evs] using h1 ▸ ha'
          · simp at hp; subst hp; exact ha'
        | false =>
          have hb' := R_sd hb (by simpa using hs.2)
          unfold pickV at hp
          split at hp
          · rename_i p q h1 h2; simp at hp; subst hp; simpa [evs] using h2 ▸ hb'
          · simp at hp; subst hp; exact hb'
      · simp at h
    · simp at h
  · split at h
    · rename_i d' hd
      simp at h
      obtain ⟨rfl, rfl⟩ := h
      intro F w φ hr hS
      refine aev_sound (C := C) (o := o) (ε := evs n ρ) rfl hd F w φ (fun x hx => R_sd (hr x hx) ?_) hS
      exact allC_mem hs x (mem_opl hx)
    · simp at h

def stops (stop : List Nat) : Option Nat → Bool
  | some d => stop.contains d
  | none => false

def wrapW (g : Option (Nat × Bool)) (W : Bool) (d : DV) : DV :=
  match g with
  | none => d
  | some _ => .opt W d

def arun (P : Program) (n : Nat) (σ : Store) (ops : Array Oper) (stop : List Nat) : List Oper → Env → (List Oper → Env → Prop) → Prop
  | [], ρ, K => K [] ρ
  | o :: rest, ρ, K =>
    match awanted n ops ρ o with
    | none => K (o :: rest) ρ
    | some W =>
      if stops stop o.dst = true then K (o :: rest) ρ
      else match aevS P σ n ρ o.op with
        | some (d, s) => (W = true → s = true) ∧ arun P n σ ops stop rest (upd ρ o.dst (wrapW o.guard W d)) K
        | none => (W = true → K (o :: rest) ρ) ∧ (W = false → arun P n σ ops stop rest (upd ρ o.dst (.tup [])) K)

theorem awpL_env {C : Cx} {n : Nat} {ops : Array Oper} {l : List Oper} {Q : Exit → Env → Store → Prop} {ρ ρ' : Env} {σ : Store} (h : ∀ I w t v, R I w v (ρ t) → R I w v (ρ' t)) (k : awpL C n ops l Q ρ' σ) : awpL C n ops l Q ρ σ :=
  fun F σ0 w0 w a hr hs => k F σ0 w0 w a ⟨hr.size, hr.defers, fun t v ht => h _ _ t v (hr.tmps t v ht), hr.sim⟩ hs

theorem upd_imp {I w} {ρ : Env} {dst : Option Nat} {d d' : DV} (h : ∀ v, R I w v d → R I w v d') {t : Nat} {v : Value} (hv : R I w v (upd ρ dst d t)) : R I w v (upd ρ dst d' t) := by
  cases dst with
  | none => exact hv
  | some k =>
    simp only [upd] at hv ⊢
    split
    · rename_i e; rw [if_pos e] at hv; exact h v hv
    · rename_i e; rw [if_neg e] at hv; exact hv

theorem awpL_run {C : Cx} {n : Nat} {ops : Array Oper} {Q : Exit → Env → Store → Prop} {σ : Store} (stop : List Nat) : ∀ {l : List Oper} {ρ : Env},
    arun C.P n σ ops stop l ρ (fun l ρ => awpL C n ops l Q ρ σ) → awpL C n ops l Q ρ σ := by
  intro l
  induction l with
  | nil => intro ρ h; exact h
  | cons o rest ih =>
    intro ρ h
    simp only [arun] at h
    split at h
    · exact h
    · rename_i W hw
      split at h
      · exact h
      · split at h
        · rename_i d s hd
          obtain ⟨h1, h2⟩ := h
          cases W with
          | true =>
            refine awpL_op hw ((aevS_sound hd (h1 rfl)).op (awpL_env (fun I w t v hv => ?_) (ih h2)))
            refine upd_imp (fun v hv => ?_) hv
            unfold wrapW; split
            · exact hv
            · exact .optT _ _ hv
          | false =>
            refine awpL_skip hw (awpL_env (fun I w t v hv => ?_) (ih h2))
            refine upd_imp (fun v hv => ?_) hv
            have hgn : ∃ g, o.guard = some g := by
              unfold awanted at hw
              cases hg : o.guard with
              | none => simp [hg] at hw
              | some g => exact ⟨g, rfl⟩
            obtain ⟨g, hg⟩ := hgn
            rw [hg]
            cases hv with
            | tup vs ds hl hr =>
            have : vs = #[] := by apply Array.eq_empty_of_size_eq_zero; simpa using hl
            subst this
            exact .optF _
        · obtain ⟨h1, h2⟩ := h
          cases W with
          | true => exact h1 rfl
          | false => exact awpL_skip hw (ih (h2 rfl))

/-! ### Ghost steps -/
theorem awpL_ghost {C : Cx} {n : Nat} {ops : Array Oper} {l : List Oper} {Q : Exit → Env → Store → Prop} {ρ ρ' : Env} {σ σ' : Store}
    (h : ∀ F w a, Rel C n F σ w a ρ → Rel C n F σ' w a ρ' ∧ Step σ w σ' w) (k : awpL C n ops l Q ρ' σ') : awpL C n ops l Q ρ σ :=
  fun F σ0 w0 w a hr hs => have g := h F w a hr; k F σ0 w0 w a g.1 (hs.trans g.2)

theorem awp_ghost {C : Cx} {n : Nat} {c : Code} {Q : Exit → Env → Store → Prop} {ρ ρ' : Env} {σ σ' : Store}
    (h : ∀ F w a, Rel C n F σ w a ρ → Rel C n F σ' w a ρ' ∧ Step σ w σ' w) (k : awp C n c Q ρ' σ') : awp C n c Q ρ σ :=
  fun F σ0 w0 w a hr hs => have g := h F w a hr; k F σ0 w0 w a g.1 (hs.trans g.2)

theorem R_frz_cells {C F σ w b off ds v} (hS : Sim C F σ w) (hb : σ b = some (.cells ds)) (hv : R (own F σ) w v (.ptr b off)) : R (own F (sdel σ b)) w v (.dp ds off) := by
  cases hv
  obtain ⟨cs, E, hh, hs, hR⟩ := hS.ob b _ hb
  have hd := Sim.drop hS b
  have := R.dp (I := own F (sdel σ b)) (w := w) b 0 off ds cs E (0, 0) (fun j => cs.getD j undef) (not_own_sdel hS hb) hh
    (fun j hj => by have : j < cs.size := by omega
                    simp [Array.getD, this])
    (fun j d hj => by
      have hlt := lt_of_get hj
      have hlt' : j < cs.size := by omega
      have := hR j cs[j] d (by simp [hlt']) hj
      simpa [Array.getD, hlt'] using hd.2.2 _ _ this)
  simpa using this

theorem R_frz_arr {C F σ w b E sz elems c v} (hS : Sim C F σ w) (hb : σ b = some (.arr E sz elems c)) (hv : R (own F σ) w v (.vw b 0 elems.length c)) : R (own F (sdel σ b)) w v (.sl elems) := by
  cases hv
  obtain ⟨cs, hh, hs, hl, hm, hz, hR⟩ := hS.ob b _ hb
  have hd := Sim.drop hS b
  refine R_sl_of_flat (not_own_sdel hS hb) hh rfl hl hz (fun j v d hv hd' => ?_) ?_ hm
  · obtain ⟨h0, h1, h2, h3⟩ := flatten_at hz hd'
    have hi : elems[j / sz]? = some (elems.getD (j / sz) []) := by simp [h1]
    obtain ⟨v', hv', hR'⟩ := hR _ _ _ d hi h3
    rw [Nat.div_add_mod'] at hv'
    rw [hv] at hv'
    simp at hv'
    exact hd.2.2 _ _ (hv' ▸ hR')
  · rw [hs]; exact Nat.mul_le_mul_right _ hl

theorem Rel.drop {C n F σ w a ρ} (h : Rel C n F σ w a ρ) (b : Nat) : Rel C n F (sdel σ b) w a ρ ∧ Step σ w (sdel σ b) w :=
  have hd := Sim.drop h.sim b
  ⟨⟨h.size, h.defers, fun t v ht => hd.2.2 _ _ (h.tmps t v ht), hd.1⟩, hd.2.1⟩

/-- One slot is read otherwise. -/
def rput (ρ : Env) (s : Nat) (d : DV) : Env := fun t => if t = s then d else ρ t

theorem Rel.reput {C n F σ w a ρ} (h : Rel C n F σ w a ρ) {s : Nat} {d : DV} (hd : ∀ v, a.tmps[s]? = some v → R (own F σ) w v d) : Rel C n F σ w a (rput ρ s d) :=
  ⟨h.size, h.defers, fun t v ht => by
    unfold rput; split
    · rename_i e; subst e; exact hd v ht
    · exact h.tmps t v ht, h.sim⟩

section
variable {C : Cx} {n : Nat} {ops : Array Oper} {l : List Oper} {c : Code} {Q : Exit → Env → Store → Prop} {ρ : Env} {σ : Store}

theorem ghost_cells {s b off : Nat} {ds : List DV} (hs : ρ s = .ptr b off) (hb : σ b = some (.cells ds)) : ∀ F w a, Rel C n F σ w a ρ → Rel C n F (sdel σ b) w a (rput ρ s (.dp ds off)) ∧ Step σ w (sdel σ b) w :=
  fun F w a h => ⟨(h.drop b).1.reput fun v hv => R_frz_cells h.sim hb (hs ▸ h.tmps s v hv), (h.drop b).2⟩

theorem ghost_arr {s b E sz c : Nat} {elems : List (List DV)} (hs : ρ s = .vw b 0 elems.length c) (hb : σ b = some (.arr E sz elems c)) : ∀ F w a, Rel C n F σ w a ρ → Rel C n F (sdel σ b) w a (rput ρ s (.sl elems)) ∧ Step σ w (sdel σ b) w :=
  fun F w a h => ⟨(h.drop b).1.reput fun v hv => R_frz_arr h.sim hb (hs ▸ h.tmps s v hv), (h.drop b).2⟩

theorem ghost_drop {b : Nat} : ∀ F w a, Rel C n F σ w a ρ → Rel C n F (sdel σ b) w a ρ ∧ Step σ w (sdel σ b) w := fun F w a h => h.drop b

theorem R_nilsl_sl {I w v} (h : R I w v .nilsl) : R I w v (.sl []) := by cases h; exact .sl0 _ _

/-- Nothing, without room, is nothing. -/
theorem ghost_nil {s : Nat} (hs : ρ s = .nilsl) : ∀ F w a, Rel C n F σ w a ρ → Rel C n F σ w a (rput ρ s (.sl [])) ∧ Step σ w σ w :=
  fun F w a h => ⟨h.reput fun v hv => R_nilsl_sl (hs ▸ h.tmps s v hv), .refl _ _⟩

/-- A variable of a round: allocated, stored into, and from then on only read. -/
theorem awpL_alloc {o : Oper} {rest : List Oper} {t : TypeId} {zs : List DV} (hg : o.guard = none) (ho : o.op = .alloc t) (hz : zeroC C.P t = some zs)
    (h : ∀ b, σ b = none → awpL C n ops rest Q (upd ρ o.dst (.ptr b 0)) (sset σ b (.cells zs))) : awpL C n ops (o :: rest) Q ρ σ :=
  awpL_op (by simp [awanted, hg]) (AOp_alloc ho hz h)

theorem awpL_boxO {o : Oper} {rest : List Oper} {t : TypeId} {x : Operand} {cs : List DV} (hg : o.guard = none) (ho : o.op = .box t x) (hc : dcells (ev n ρ x) = some cs)
    (h : ∀ b, σ b = none → awpL C n ops rest Q (upd ρ o.dst (.ptr b 0)) (sset σ b (.cells cs))) : awpL C n ops (o :: rest) Q ρ σ :=
  awpL_op (by simp [awanted, hg]) (AOp_box ho hc h)

theorem awpL_store {o : Oper} {rest : List Oper} {t : TypeId} {a x : Operand} {b q : Nat} {ds cs : List DV} {g : Bool} (hg : o.guard = none) (ho : o.op = .store t a x) (hd : o.dst = none) (ha : ev n ρ a = .ptr b q) (hs : σ b = some (.cells ds)) (hc : dcells (ev n ρ x) = some cs)
    (h1 : cs.all one = true) (hl : lk C.P t = some (g, cs.length)) (hfit : q + cs.length ≤ ds.length) (h : awpL C n ops rest Q ρ (sset σ b (.cells (setAt ds q cs)))) : awpL C n ops (o :: rest) Q ρ σ :=
  awpL_op (by simp [awanted, hg]) (AOp_store ho ha hs hc h1 hl hfit (by rw [hd]; exact h))

/-- The store that fills the variable of a round, which nobody writes any more. -/
theorem awpL_storeVar {o : Oper} {rest : List Oper} {t : TypeId} {s b : Nat} {x : Operand} {zs cs : List DV} {g : Bool} (hg : o.guard = none) (ho : o.op = .store t (.tmp s) x) (hd : o.dst = none) (hb : σ b = none) (ha : ev n ρ (.tmp s) = .ptr b 0)
    (hc : dcells (ev n ρ x) = some cs) (h1 : cs.all one = true) (hl : lk C.P t = some (g, cs.length)) (hz : zs.length = cs.length) (h : awpL C n ops rest Q (rput ρ s (.dp cs 0)) σ) : awpL C n ops (o :: rest) Q ρ (sset σ b (.cells zs)) := by
  refine awpL_store hg ho hd ha sset_same hc h1 hl (by omega) ?_
  rw [sset_sset]
  have hset : setAt zs 0 cs = cs := by unfold setAt; simp [hz]
  rw [hset]
  have hs : ρ s = .ptr b 0 := by
    simp only [ev] at ha
    split at ha
    · exact ha
    · simp at ha
  refine awpL_ghost (ghost_cells hs sset_same) ?_
  rw [sdel_sset hb]
  exact h

theorem awpL_call {o : Oper} {rest : List Oper} {x : Operand} {args : Array Operand} {tys : Array TypeId} {f : FuncId} {first captured : List DV} (hw : awanted n ops ρ o = some true) (ho : o.op = .call ⟨.value x, args, tys⟩) (hx : evs n ρ x = .fn (.func f) first captured)
    (hs : allC n ρ (x :: args.toList) = true) (h : acalls C f (first ++ args.toList.map (evs n ρ) ++ captured) σ (fun d σ' => awpL C n ops rest Q (upd ρ o.dst d) σ')) : awpL C n ops (o :: rest) Q ρ σ := by
  refine awpL_op hw ?_
  have h1 : AOp C o (evs n ρ) σ (fun d σ' => awpL C n ops rest Q (upd ρ o.dst d) σ') := AOp_call ho hx h
  intro F w φ hr hS
  refine h1 F w φ (fun y hy => R_sd (hr y hy) ?_) hS
  refine allC_mem hs y ?_
  simp [ho, Op.operands, Call.operands] at hy
  simp
  exact hy

/-- The run, what follows behind a variable. -/
theorem awpL_go (stop : List Nat) (h : ∀ K : List Oper → Env → Prop, (∀ l ρ, awpL C n ops l Q ρ σ → K l ρ) → arun C.P n σ ops stop l ρ K) : awpL C n ops l Q ρ σ :=
  awpL_run stop (h _ fun _ _ h => h)
end
end Go.Arb
end

section
namespace Go.Arb
set_option linter.unusedVariables false
set_option linter.unusedSimpArgs false
open Go

/-! ### Regions that draw their order -/
inductive Cls where
  | pure | read | write
  deriving DecidableEq

section
variable {C : Cx} {n : Nat} {md : Region.Mode} {ops : Array Oper} {cls : Nat → Cls} {Q : Env → Store → Prop}

def PV (C : Cx) (n : Nat) (ops : Array Oper) (o : Oper) (ρ : Env) (d' : DV) : Prop :=
  ∃ W d, awanted n ops ρ o = some W ∧ (W = true → ∀ σ, Yields C o (ev n ρ) σ d) ∧ d' = wrapW o.guard W d
def RV (C : Cx) (n : Nat) (ops : Array Oper) (o : Oper) (ρ : Env) (σ : Store) (d' : DV) : Prop :=
  ∃ W d, awanted n ops ρ o = some W ∧ (W = true → Yields C o (ev n ρ) σ d) ∧ d' = wrapW o.guard W d

def aOp (C : Cx) (n : Nat) (ops : Array Oper) (c : Cls) (o : Oper) (K : Env → Store → Prop) (ρ : Env) (σ : Store) : Prop :=
  match c with
  | .pure => ∃ d, PV C n ops o ρ d ∧ K (upd ρ o.dst d) σ
  | .read => ∃ d, RV C n ops o ρ σ d ∧ K (upd ρ o.dst d) σ
  | .write => ∃ W, awanted n ops ρ o = some W ∧ (W = true → AOp C o (ev n ρ) σ (fun d σ' => K (upd ρ o.dst d) σ')) ∧ (W = false → K (upd ρ o.dst (.tup [])) σ)

def aAny (C : Cx) (n : Nat) (md : Region.Mode) (ops : Array Oper) (cls : Nat → Cls) (Q : Env → Store → Prop) : Nat → Array Bool → Env → Store → Prop
  | 0, listed, ρ, σ => Region.ready md ops listed = [] ∧ Q ρ σ
  | fuel + 1, listed, ρ, σ =>
    (Region.ready md ops listed = [] → Q ρ σ) ∧
    ∀ i ∈ Region.ready md ops listed, ∃ o, ops[i]? = some o ∧ aOp C n ops (cls i) o (aAny C n md ops cls Q fuel (listed.setIfInBounds i true)) ρ σ

theorem aOp_mono {c : Cls} {o : Oper} {K K' : Env → Store → Prop} {ρ σ} (h : ∀ ρ σ, K ρ σ → K' ρ σ) (hh : aOp C n ops c o K ρ σ) : aOp C n ops c o K' ρ σ := by
  cases c with
  | pure => obtain ⟨d, h1, h2⟩ := hh; exact ⟨d, h1, h _ _ h2⟩
  | read => obtain ⟨d, h1, h2⟩ := hh; exact ⟨d, h1, h _ _ h2⟩
  | write => obtain ⟨W, h1, h2, h3⟩ := hh; exact ⟨W, h1, fun hw => (h2 hw).mono fun d σ' q => h _ _ q, fun hw => h _ _ (h3 hw)⟩

theorem RV_step {o : Oper} {ρ : Env} {σ : Store} {d : DV} (h : RV C n ops o ρ σ d) {F σ0 w0 w a} (hr : Rel C n F σ w a ρ) (hs : Step σ0 w0 σ w) {K : Act → World → Prop} {Q' : Exit → Act → World → Prop}
    (hk : ∀ a' w', Rel C n F σ w' a' (upd ρ o.dst d) → Step σ0 w0 σ w' → K a' w') (i : Nat) (hi : ops[i]? = some o) : wpOp C.P ops Q' i K a w := by
  obtain ⟨W, d0, hW, hy, rfl⟩ := h
  unfold wpOp
  simp only [hi]
  have hw := awanted_sound hr hW
  cases W with
  | true =>
    rw [if_pos hw]
    refine .inl ?_
    have h1 := (hy rfl) F w a.eval (fun x _ => ev_R hr x) hr.sim
    refine upon_of_opPost h1 ?_
    rintro v w' ⟨d', σ', hv, hS, hst, rfl, rfl⟩
    refine hk _ w' (hr.put hst hS ?_ o.dst) (hs.trans hst)
    unfold wrapW; split
    · exact hv
    · exact .optT _ _ hv
  | false =>
    rw [if_neg (by simp [hw])]
    refine hk _ w (hr.put (.refl _ _) hr.sim ?_ o.dst) hs
    have hgn : ∃ g, o.guard = some g := by
      unfold awanted at hW
      cases hg : o.guard with
      | none => simp [hg] at hW
      | some g => exact ⟨g, rfl⟩
    obtain ⟨g, hg⟩ := hgn
    rw [hg]
    exact .optF _

theorem PV.rv {o : Oper} {ρ : Env} {d : DV} (h : PV C n ops o ρ d) (σ : Store) : RV C n ops o ρ σ d :=
  let ⟨W, d0, h1, h2, h3⟩ := h; ⟨W, d0, h1, fun hw => h2 hw σ, h3⟩

theorem aAny_sound : ∀ (fuel : Nat) (listed : Array Bool) (ρ : Env) (σ : Store), aAny C n md ops cls Q fuel listed ρ σ → ∀ {Q' : Exit → Env → Store → Prop}, (∀ ρ σ, Q ρ σ → Q' .normal ρ σ) →
    ∀ F σ0 w0 w a, Rel C n F σ w a ρ → Step σ0 w0 σ w → wpAny C.P md ops (Post C n F σ0 w0 Q') fuel listed a w := by
  intro fuel
  induction fuel with
  | zero => intro listed ρ σ h Q' hQ F σ0 w0 w a hr hs; exact ⟨h.1, ρ, σ, hr, hs, hQ _ _ h.2⟩
  | succ fuel ih =>
    intro listed ρ σ h Q' hQ F σ0 w0 w a hr hs
    refine ⟨fun h0 => ⟨ρ, σ, hr, hs, hQ _ _ (h.1 h0)⟩, fun i hi => ?_⟩
    obtain ⟨o, ho, hop⟩ := h.2 i hi
    generalize cls i = c at hop
    cases c with
    | pure =>
      obtain ⟨d, h1, h2⟩ := hop
      exact RV_step (h1.rv σ) hr hs (fun a' w' hr' hs' => ih _ _ _ h2 hQ F σ0 w0 w' a' hr' hs') i ho
    | read =>
      obtain ⟨d, h1, h2⟩ := hop
      exact RV_step h1 hr hs (fun a' w' hr' hs' => ih _ _ _ h2 hQ F σ0 w0 w' a' hr' hs') i ho
    | write =>
      obtain ⟨W, hW, h2, h3⟩ := hop
      unfold wpOp
      simp only [ho]
      have hw := awanted_sound hr hW
      cases W with
      | true =>
        rw [if_pos hw]
        refine .inl (upon_of_opPost ((h2 rfl) F w a.eval (fun x _ => ev_R hr x) hr.sim) ?_)
        rintro v w' ⟨d', σ', hv, hS, hst, q⟩
        exact ih _ _ _ q hQ F σ0 w0 w' _ (hr.put hst hS hv o.dst) (hs.trans hst)
      | false =>
        rw [if_neg (by simp [hw])]
        exact ih _ _ _ (h3 rfl) hQ F σ0 w0 w _ (hr.put (.refl _ _) hr.sim (.tup _ _ rfl (fun j v d h => by simp at h)) o.dst) hs

/-! Apart from one another -/
theorem awanted_upd {o : Oper} {ρ : Env} {dst : Option Nat} {u : DV} (h : ∀ d, dst = some d → d ∉ o.looksAt ops) : awanted n ops (upd ρ dst u) o = awanted n ops ρ o := by
  cases dst with
  | none => rfl
  | some k =>
    unfold awanted
    cases hg : o.guard with
    | none => rfl
    | some p =>
      obtain ⟨j, want⟩ := p
      simp only
      cases hd : (ops[j]?).bind (·.dst) with
      | none => rfl
      | some d =>
        have hne : d ≠ k := fun e => h k rfl (by subst e; simp [Oper.looksAt, hg, hd])
        simp only [upd, if_neg hne]

theorem ev_upd {o : Oper} {ρ : Env} {dst : Option Nat} {u : DV} (h : ∀ d, dst = some d → d ∉ o.looksAt ops) : ∀ x ∈ o.op.operands, ev n (upd ρ dst u) x = ev n ρ x := by
  intro x hx
  cases dst with
  | none => rfl
  | some k =>
    cases x with
    | tmp t =>
      have hne : t ≠ k := fun e => h k rfl (by subst e; exact List.mem_append_left _ (List.mem_filterMap.2 ⟨.tmp t, by simpa using hx, rfl⟩))
      simp only [ev, upd, if_neg hne]
    | _ => rfl

theorem upd_comm {ρ : Env} {x y : Option Nat} {u v : DV} (h : ∀ d, x = some d → y ≠ some d) : upd (upd ρ x u) y v = upd (upd ρ y v) x u := by
  cases x with
  | none => rfl
  | some d =>
    cases y with
    | none => rfl
    | some e =>
      have hne : e ≠ d := fun he => h d rfl (by rw [he])
      funext t
      simp only [upd]
      by_cases h1 : t = e
      · subst h1; rw [if_pos rfl, if_neg hne, if_pos rfl]
      · rw [if_neg h1, if_neg h1]

theorem PV_upd {o : Oper} {ρ : Env} {dst : Option Nat} {u d : DV} (h : ∀ d, dst = some d → d ∉ o.looksAt ops) : PV C n ops o (upd ρ dst u) d ↔ PV C n ops o ρ d := by
  unfold PV
  rw [awanted_upd h]
  have key : ∀ σ d, Yields C o (ev n (upd ρ dst u)) σ d ↔ Yields C o (ev n ρ) σ d := fun σ d =>
    ⟨fun hy => AOp.congr hy fun x hx => (ev_upd h x hx).symm, fun hy => AOp.congr hy fun x hx => ev_upd h x hx⟩
  simp only [key]

theorem RV_upd {o : Oper} {ρ : Env} {σ : Store} {dst : Option Nat} {u d : DV} (h : ∀ d, dst = some d → d ∉ o.looksAt ops) : RV C n ops o (upd ρ dst u) σ d ↔ RV C n ops o ρ σ d := by
  unfold RV
  rw [awanted_upd h]
  have key : ∀ d, Yields C o (ev n (upd ρ dst u)) σ d ↔ Yields C o (ev n ρ) σ d := fun d =>
    ⟨fun hy => AOp.congr hy fun x hx => (ev_upd h x hx).symm, fun hy => AOp.congr hy fun x hx => ev_upd h x hx⟩
  simp only [key]

/-- A value that is yielded first; 'w': may the store turn? -/
def VV (C : Cx) (n : Nat) (ops : Array Oper) (pure : Bool) (o : Oper) (ρ : Env) (σ : Store) (d : DV) : Prop :=
  if pure = true then PV C n ops o ρ d else RV C n ops o ρ σ d

theorem aOp_put {c : Cls} {p : Bool} {oi oj : Oper} {d : DV} (hap : oi.apart ops oj = true) (hc : p = true ∨ c ≠ .write) {K : Env → Store → Prop} {ρ : Env} {σ : Store}
    (hy : VV C n ops p oi ρ σ d) (h : aOp C n ops c oj K (upd ρ oi.dst d) σ) : aOp C n ops c oj (fun ρ' σ' => VV C n ops p oi ρ' σ' d ∧ K (upd ρ' oi.dst d) σ') ρ σ := by
  obtain ⟨h1, h2, h3⟩ := Oper.apart_spec hap
  have keep : ∀ u, VV C n ops p oi (upd ρ oj.dst u) σ d := fun u => by
    unfold VV at *
    split
    · rename_i hp; rw [if_pos hp] at hy; exact (PV_upd h3).2 hy
    · rename_i hp; rw [if_neg hp] at hy; exact (RV_upd h3).2 hy
  cases c with
  | pure =>
    obtain ⟨u, hu, hk⟩ := h
    exact ⟨u, (PV_upd h1).1 hu, keep u, by rw [← upd_comm h2]; exact hk⟩
  | read =>
    obtain ⟨u, hu, hk⟩ := h
    exact ⟨u, (RV_upd h1).1 hu, keep u, by rw [← upd_comm h2]; exact hk⟩
  | write =>
    obtain ⟨W, hW, ht, hf⟩ := h
    have hp : p = true := hc.resolve_right (by simp)
    subst hp
    rw [awanted_upd h1] at hW
    refine ⟨W, hW, fun hw => ?_, fun hw => ⟨keep _, by rw [← upd_comm h2]; exact hf hw⟩⟩
    refine (AOp.congr (ht hw) fun x hx => (ev_upd h1 x hx).symm).mono fun u σ' q => ⟨?_, by rw [← upd_comm h2]; exact q⟩
    have := keep u
    unfold VV at this ⊢
    simpa using this

/-- While i is not carried out, no writer comes up. -/
def Safe (md : Region.Mode) (ops : Array Oper) (cls : Nat → Cls) (i : Nat) (listed : Array Bool) : Prop :=
  ∃ cl : Nat → Bool, (∀ j, listed.getD j false = true → cl j = true) ∧
    (∀ (j : Nat) oj, ops[j]? = some oj → j ≠ i → (∀ e ∈ oj.after, Region.binds md e = true → cl e.on = true) → cl j = true) ∧
    (∀ j, cl j = true → listed.getD j true = false → j ≠ i → cls j ≠ .write)

theorem Safe.step {i j : Nat} {listed : Array Bool} (h : Safe md ops cls i listed) (hj : j ∈ Region.ready md ops listed) (hji : j ≠ i) : cls j ≠ .write ∧ Safe md ops cls i (listed.setIfInBounds j true) := by
  obtain ⟨cl, h1, h2, h3⟩ := h
  obtain ⟨hun, oj, hoj, hall⟩ := mem_ready.1 hj
  have hcj : cl j = true := h2 j oj hoj hji fun e he hb => h1 _ (hall e he hb)
  refine ⟨h3 j hcj hun hji, cl, fun k hk => ?_, h2, fun k hk hun' hki => ?_⟩
  · by_cases hkj : j = k
    · subst hkj; exact hcj
    · rw [getD_set_ne false hkj] at hk; exact h1 k hk
  · by_cases hkj : j = k
    · subst hkj; exact h3 j hcj hun hji
    · rw [getD_set_ne true hkj] at hun'; exact h3 k hk hun' hki

theorem aAny_first {i : Nat} {oi : Oper} {d : DV} {p : Bool} (hi : ops[i]? = some oi) (hp : (p = true → cls i = .pure) ∧ (p = false → cls i = .read)) :
    ∀ (fuel : Nat) (listed : Array Bool) (ρ : Env) (σ : Store),
      (∀ (j : Nat) oj, ops[j]? = some oj → j ≠ i → listed.getD j true = false → (∀ e ∈ oj.after, Region.binds md e = true → e.on ≠ i) → oi.apart ops oj = true) →
      (p = true ∨ Safe md ops cls i listed) → i ∈ Region.ready md ops listed → VV C n ops p oi ρ σ d →
      aAny C n md ops cls Q fuel (listed.setIfInBounds i true) (upd ρ oi.dst d) σ → aAny C n md ops cls Q (fuel + 1) listed ρ σ := by
  have self : ∀ (K : Env → Store → Prop) ρ σ, VV C n ops p oi ρ σ d → K (upd ρ oi.dst d) σ → aOp C n ops (cls i) oi K ρ σ := by
    intro K ρ σ hy hk
    unfold VV at hy
    cases p with
    | true => rw [hp.1 rfl]; exact ⟨d, by simpa using hy, hk⟩
    | false => rw [hp.2 rfl]; exact ⟨d, by simpa using hy, hk⟩
  intro fuel
  induction fuel with
  | zero =>
    intro listed ρ σ _ _ hr hy H
    refine ⟨fun h => (by rw [h] at hr; cases hr), fun j hj => ?_⟩
    by_cases hji : j = i
    · subst hji; exact ⟨oi, hi, self _ _ _ hy H⟩
    · have := ready_mono hj hji
      rw [H.1] at this
      cases this
  | succ fuel ih =>
    intro listed ρ σ hfree hsafe hr hy H
    refine ⟨fun h => (by rw [h] at hr; cases hr), fun j hj => ?_⟩
    by_cases hji : j = i
    · subst hji; exact ⟨oi, hi, self _ _ _ hy H⟩
    · obtain ⟨oj', hoj', h1⟩ := H.2 j (ready_mono hj hji)
      obtain ⟨hjun, oj, hoj, hall⟩ := mem_ready.1 hj
      rw [hoj] at hoj'
      simp at hoj'
      subst hoj'
      have hnot : ∀ e ∈ oj.after, Region.binds md e = true → e.on ≠ i := fun e he hb heq => by
        have h1 := hall e he hb
        have h0 := (mem_ready.1 hr).1
        rw [heq] at h1
        rcases Nat.lt_or_ge i listed.size with h' | h'
        · simp [h'] at h0 h1; rw [h0] at h1; cases h1
        · simp [Array.getElem?_eq_none h'] at h1
      have hcl : p = true ∨ cls j ≠ .write := hsafe.imp id fun h => (h.step hj hji).1
      have h2 := aOp_put (hfree j oj hoj hji hjun hnot) hcl hy h1
      have hfree' : ∀ (k : Nat) ok, ops[k]? = some ok → k ≠ i → (listed.setIfInBounds j true).getD k true = false →
          (∀ e ∈ ok.after, Region.binds md e = true → e.on ≠ i) → oi.apart ops ok = true := fun k ok hk hki hun hno => by
        refine hfree k ok hk hki ?_ hno
        by_cases hjk : j = k
        · subst hjk; exact hjun
        · rw [getD_set_ne true hjk] at hun; exact hun
      refine ⟨oj, hoj, aOp_mono (fun ρ' σ' h3 => ih (listed.setIfInBounds j true) ρ' σ' hfree' (hsafe.imp id fun h => (h.step hj hji).2) (ready_mono hr (Ne.symm hji)) h3.1 ?_) h2⟩
      rw [Array.setIfInBounds_comm _ _ hji]
      exact h3.2

/-! One order that serves all -/
def deps (md : Region.Mode) (ops : Array Oper) (cl : Array Bool) (j : Nat) : Bool :=
  match ops[j]? with
  | some o => o.after.all fun e => !Region.binds md e || cl.getD e.on false
  | none => false

def closure (md : Region.Mode) (ops : Array Oper) (listed : Array Bool) (k : Nat) : Array Bool :=
  (List.range ops.size).foldl (fun cl j => if j != k && deps md ops cl j then cl.setIfInBounds j true else cl) listed

def isWrite : Cls → Bool
  | .write => true
  | _ => false

def safeB (md : Region.Mode) (ops : Array Oper) (cls : Nat → Cls) (k : Nat) (listed : Array Bool) : Bool :=
  let cl := closure md ops listed k
  (List.range listed.size).all (fun j => !listed.getD j false || cl.getD j false) &&
  (List.range ops.size).all (fun j => j == k || !deps md ops cl j || cl.getD j false) &&
  (List.range ops.size).all (fun j => !cl.getD j false || listed.getD j true || j == k || !isWrite (cls j))

theorem safeB_spec {k : Nat} {listed : Array Bool} (h : safeB md ops cls k listed = true) (hsz : listed.size ≤ ops.size) : Safe md ops cls k listed := by
  unfold safeB at h
  simp only [Bool.and_eq_true, List.all_eq_true, List.mem_range] at h
  obtain ⟨⟨h1, h2⟩, h3⟩ := h
  generalize closure md ops listed k = cl at h1 h2 h3
  refine ⟨fun j => cl.getD j false, fun j hj => ?_, fun j oj hoj hjk hall => ?_, fun j hcl hun hjk => ?_⟩
  · have hlt : j < listed.size := by
      rcases Nat.lt_or_ge j listed.size with h' | h'
      · exact h'
      · simp [Array.getElem?_eq_none h'] at hj
    have := h1 j hlt
    rw [hj] at this
    simpa using this
  · have hlt : j < ops.size := (Array.getElem?_eq_some_iff.1 hoj).1
    have := h2 j hlt
    have hd : deps md ops cl j = true := by
      unfold deps
      simp only [hoj, Array.all_eq_true_iff_forall_mem, Bool.or_eq_true, Bool.not_eq_true']
      intro e he
      cases hb : Region.binds md e
      · exact .inl rfl
      · exact .inr (hall e he hb)
    rw [hd] at this
    simpa [hjk] using this
  · have hlt : j < ops.size := by
      have : j < listed.size := by
        rcases Nat.lt_or_ge j listed.size with h' | h'
        · exact h'
        · simp [Array.getElem?_eq_none h'] at hun
      omega
    have hcl' : cl.getD j false = true := hcl
    have := h3 j hlt
    rw [hcl', hun] at this
    intro hw
    rw [hw] at this
    simp [isWrite] at this
    exact hjk this

def chk (md : Region.Mode) (ops : Array Oper) (cls : Nat → Cls) : List Nat → Array Bool → Bool
  | [], listed => (Region.ready md ops listed).isEmpty
  | k :: rest, listed =>
    (Region.ready md ops listed).contains k &&
    (match cls k with
      | .pure => Region.free md ops listed k
      | .read => Region.free md ops listed k && safeB md ops cls k listed
      | .write => (Region.ready md ops listed).all (· == k)) &&
    chk md ops cls rest (listed.setIfInBounds k true)

def ow (C : Cx) (n : Nat) (ops : Array Oper) (cls : Nat → Cls) (Q : Env → Store → Prop) : List Nat → Env → Store → Prop
  | [], ρ, σ => Q ρ σ
  | k :: rest, ρ, σ => ∃ o, ops[k]? = some o ∧ aOp C n ops (cls k) o (ow C n ops cls Q rest) ρ σ

theorem ow_any : ∀ (ord : List Nat) (listed : Array Bool) (ρ : Env) (σ : Store), listed.size ≤ ops.size → chk md ops cls ord listed = true → ow C n ops cls Q ord ρ σ → aAny C n md ops cls Q ord.length listed ρ σ := by
  intro ord
  induction ord with
  | nil => intro listed ρ σ hsz hB h; exact ⟨by simpa [chk] using hB, h⟩
  | cons k rest ih =>
    intro listed ρ σ hsz hB h
    simp only [chk, Bool.and_eq_true] at hB
    obtain ⟨⟨hr, hc⟩, hB'⟩ := hB
    have hr' : k ∈ Region.ready md ops listed := by simpa using hr
    obtain ⟨o, ho, hop⟩ := h
    have ih' := fun ρ σ h => ih (listed.setIfInBounds k true) ρ σ (by simpa using hsz) hB' h
    generalize hck : cls k = c at hc hop
    cases c with
    | pure =>
      obtain ⟨d, hd, hk⟩ := hop
      exact aAny_first (p := true) ho ⟨fun _ => hck, fun h => by simp at h⟩ rest.length listed ρ σ (Region.free_spec ho hc) (.inl rfl) hr' (by simpa [VV] using hd) (ih' _ _ hk)
    | read =>
      obtain ⟨d, hd, hk⟩ := hop
      simp only [Bool.and_eq_true] at hc
      exact aAny_first (p := false) ho ⟨fun h => by simp at h, fun _ => hck⟩ rest.length listed ρ σ (Region.free_spec ho hc.1) (.inr (safeB_spec hc.2 hsz)) hr' (by simpa [VV] using hd) (ih' _ _ hk)
    | write =>
      refine ⟨fun h0 => (by rw [h0] at hr'; cases hr'), fun i hi => ?_⟩
      have hik : i = k := by
        have := List.all_eq_true.1 hc i hi
        simpa using this
      subst hik
      exact ⟨o, ho, by rw [hck]; exact aOp_mono ih' hop⟩

theorem awp_draw {id : Nat} {Q' : Exit → Env → Store → Prop} {ρ : Env} {σ : Store} (cls : Nat → Cls) (ord : List Nat) (hm : C.P.follows .mixedOrders = true) (hl : ord.length = ops.size) (hB : chk .any ops cls ord (Array.replicate ops.size false) = true)
    (h : ow C n ops cls (Q' .normal) ord ρ σ) : awp C n (.region id ops true) Q' ρ σ := by
  intro F σ0 w0 w a hr hs
  refine wp_region_any hm ?_
  have h1 := ow_any ord _ ρ σ (by simp) hB h
  rw [hl] at h1
  have hr' : Rel C n F σ { w with drawn := w.drawn + 1 } a ρ := ⟨hr.size, hr.defers, fun t v ht => (hr.tmps t v ht).drew, hr.sim.drew⟩
  exact aAny_sound _ _ _ _ h1 (fun _ _ h => h) F σ0 w0 _ a hr' (hs.trans .drew)

/-! Running such an order -/
theorem loadV_none {P : Program} {t : TypeId} {x d : DV} (h : loadV P (fun _ => none) t x = some d) (σ : Store) : loadV P σ t x = some d := by
  cases x <;> simp [loadV] at h ⊢ <;> exact h

theorem aevS_none {P : Program} {ρ : Env} {op : Op} {r} (h : aevS P (fun _ => none) n ρ op = some r) (σ : Store) : aevS P σ n ρ op = some r := by
  cases op with
  | load t x =>
    simp only [aevS, aev] at h ⊢
    split at h
    · rename_i d hd
      rw [loadV_none hd σ]; exact h
    · simp at h
  | call c =>
    have : aev P σ (evs n ρ) (.call c) = aev P (fun _ => none) (evs n ρ) (.call c) := by
      unfold aev
      split <;> simp_all
    simp only [aevS] at h ⊢
    rw [this]; exact h
  | _ => exact h

def orun (P : Program) (n : Nat) (σ : Store) (ops : Array Oper) (cls : Nat → Cls) : List Nat → Env → (List Nat → Env → Prop) → Prop
  | [], ρ, K => K [] ρ
  | k :: rest, ρ, K =>
    match ops[k]? with
    | none => False
    | some o =>
      match awanted n ops ρ o with
      | none => K (k :: rest) ρ
      | some W =>
        match cls k with
        | .write => K (k :: rest) ρ
        | .pure => match aevS P (fun _ => none) n ρ o.op with
          | some (d, s) => (W = true → s = true) ∧ orun P n σ ops cls rest (upd ρ o.dst (wrapW o.guard W d)) K
          | none => K (k :: rest) ρ
        | .read => match aevS P σ n ρ o.op with
          | some (d, s) => (W = true → s = true) ∧ orun P n σ ops cls rest (upd ρ o.dst (wrapW o.guard W d)) K
          | none => K (k :: rest) ρ

theorem ow_run {σ : Store} : ∀ {l : List Nat} {ρ : Env}, orun C.P n σ ops cls l ρ (fun l ρ => ow C n ops cls Q l ρ σ) → ow C n ops cls Q l ρ σ := by
  intro l
  induction l with
  | nil => intro ρ h; exact h
  | cons k rest ih =>
    intro ρ h
    simp only [orun] at h
    split at h
    · exact h.elim
    · rename_i o ho
      split at h
      · exact h
      · rename_i W hW
        split at h
        · exact h
        · rename_i hc
          split at h
          · rename_i d s hd
            refine ⟨o, ho, ?_⟩
            rw [hc]
            exact ⟨_, ⟨W, d, hW, fun hw σ' => aevS_sound (aevS_none hd σ') (h.1 hw), rfl⟩, ih h.2⟩
          · exact h
        · rename_i hc
          split at h
          · rename_i d s hd
            refine ⟨o, ho, ?_⟩
            rw [hc]
            exact ⟨_, ⟨W, d, hW, fun hw => aevS_sound hd (h.1 hw), rfl⟩, ih h.2⟩
          · exact h

theorem ow_go {σ : Store} {l : List Nat} {ρ : Env} (h : ∀ K : List Nat → Env → Prop, (∀ l ρ, ow C n ops cls Q l ρ σ → K l ρ) → orun C.P n σ ops cls l ρ K) : ow C n ops cls Q l ρ σ :=
  ow_run (h _ fun _ _ h => h)

theorem ow_nil {σ : Store} {ρ : Env} (h : Q ρ σ) : ow C n ops cls Q [] ρ σ := h

theorem ow_write {σ : Store} {ρ : Env} {k : Nat} {rest : List Nat} {o : Oper} (ho : ops[k]? = some o) (hc : cls k = .write) (hw : awanted n ops ρ o = some true)
    (h : AOp C o (ev n ρ) σ (fun d σ' => ow C n ops cls Q rest (upd ρ o.dst d) σ')) : ow C n ops cls Q (k :: rest) ρ σ :=
  ⟨o, ho, by rw [hc]; exact ⟨true, hw, fun _ => h, fun h => by simp at h⟩⟩

theorem AOp_callS {o : Oper} {σ : Store} {ρ : Env} {K : DV → Store → Prop} {x : Operand} {args : Array Operand} {tys : Array TypeId} {f : FuncId} {first captured : List DV} (hop : o.op = .call ⟨.value x, args, tys⟩) (hx : evs n ρ x = .fn (.func f) first captured)
    (hs : allC n ρ (x :: args.toList) = true) (h : acalls C f (first ++ args.toList.map (evs n ρ) ++ captured) σ K) : AOp C o (ev n ρ) σ K := by
  have h1 : AOp C o (evs n ρ) σ K := AOp_call hop hx h
  intro F w φ hr hS
  refine h1 F w φ (fun y hy => R_sd (hr y hy) ?_) hS
  refine allC_mem hs y ?_
  simp [hop, Op.operands, Call.operands] at hy
  simp
  exact hy

/-- A call that hangs on its arguments alone. -/
theorem ow_callP {σ : Store} {ρ : Env} {k : Nat} {rest : List Nat} {o : Oper} {x : Operand} {args : Array Operand} {tys : Array TypeId} {f : FuncId} {first captured : List DV} {W : Bool} (v : DV) (ho : ops[k]? = some o) (hc : cls k = .pure) (hw : awanted n ops ρ o = some W)
    (hop : o.op = .call ⟨.value x, args, tys⟩) (hx : evs n ρ x = .fn (.func f) first captured) (hs : W = true → allC n ρ (x :: args.toList) = true)
    (h : W = true → ∀ σ, acalls C f (first ++ args.toList.map (evs n ρ) ++ captured) σ (fun d σ' => d = v ∧ σ' = σ)) (hk : ow C n ops cls Q rest (upd ρ o.dst (wrapW o.guard W v)) σ) : ow C n ops cls Q (k :: rest) ρ σ :=
  ⟨o, ho, by rw [hc]; exact ⟨_, ⟨W, v, hw, fun hW σ' => AOp_callS hop hx (hs hW) (h hW σ'), rfl⟩, hk⟩⟩

/-- A call that looks at the store. -/
theorem ow_callR {σ : Store} {ρ : Env} {k : Nat} {rest : List Nat} {o : Oper} {x : Operand} {args : Array Operand} {tys : Array TypeId} {f : FuncId} {first captured : List DV} {W : Bool} (v : DV) (ho : ops[k]? = some o) (hc : cls k = .read) (hw : awanted n ops ρ o = some W)
    (hop : o.op = .call ⟨.value x, args, tys⟩) (hx : evs n ρ x = .fn (.func f) first captured) (hs : W = true → allC n ρ (x :: args.toList) = true)
    (h : W = true → acalls C f (first ++ args.toList.map (evs n ρ) ++ captured) σ (fun d σ' => d = v ∧ σ' = σ)) (hk : ow C n ops cls Q rest (upd ρ o.dst (wrapW o.guard W v)) σ) : ow C n ops cls Q (k :: rest) ρ σ :=
  ⟨o, ho, by rw [hc]; exact ⟨_, ⟨W, v, hw, fun hW => AOp_callS hop hx (hs hW) (h hW), rfl⟩, hk⟩⟩

theorem ow_callW {σ : Store} {ρ : Env} {k : Nat} {rest : List Nat} {o : Oper} {x : Operand} {args : Array Operand} {tys : Array TypeId} {f : FuncId} {first captured : List DV} (ho : ops[k]? = some o) (hc : cls k = .write) (hw : awanted n ops ρ o = some true)
    (hop : o.op = .call ⟨.value x, args, tys⟩) (hx : evs n ρ x = .fn (.func f) first captured) (hs : allC n ρ (x :: args.toList) = true)
    (h : acalls C f (first ++ args.toList.map (evs n ρ) ++ captured) σ (fun d σ' => ow C n ops cls Q rest (upd ρ o.dst d) σ')) : ow C n ops cls Q (k :: rest) ρ σ :=
  ow_write ho hc hw (AOp_callS hop hx hs h)
end
end Go.Arb
end

section
namespace Go.Arb
set_option linter.unusedVariables false
set_option linter.unusedSimpArgs false
open Go

section
variable {C : Cx} {o : Oper} {ε : Operand → DV} {σ : Store} {Q : DV → Store → Prop}

theorem mul_lt_of {i i' sz j : Nat} (h : i' < i) (hj : j < sz) : i' * sz + j < i * sz := by
  have : (i' + 1) * sz ≤ i * sz := Nat.mul_le_mul_right _ h
  rw [Nat.succ_mul] at this
  omega

/-- A store into an element of an owned row. -/
theorem AOp_storeA {t : TypeId} {a x : Operand} {b i off sz c : Nat} {E : TypeId} {elems : List (List DV)} {es cs : List DV} {g : Bool} (ho : o.op = .store t a x) (ha : ε a = .ptr b (i * sz + off)) (hs : σ b = some (.arr E sz elems c))
    (he : elems[i]? = some es) (hc : dcells (ε x) = some cs) (h1 : cs.all one = true) (hl : lk C.P t = some (g, cs.length)) (hfit : off + cs.length ≤ sz) (hq : Q (.tup []) (sset σ b (.arr E sz (elems.set i (setAt es off cs)) c))) : AOp C o ε σ Q := by
  intro F w φ hr hS
  have ha1 := hr a (by simp [ho, Op.operands])
  have hx1 := hr x (by simp [ho, Op.operands])
  rw [ha] at ha1
  obtain ⟨hvl, hvR⟩ := R_cells hx1 hc
  generalize hv : φ a = va at ha1
  cases ha1
  obtain ⟨cur, hb, hsz, hlc, hm, hz, hR⟩ := hS.ob b _ hs
  have hi := lt_of_get he
  have hesl : es.length = sz := hz es (List.mem_of_getElem? he)
  have hone : ∀ u ∈ (φ x).cells, u.oneCell' = true := by
    intro u hu
    obtain ⟨j, hj, rfl⟩ := Array.getElem_of_mem hu
    have hj' : j < cs.length := by omega
    exact R_one (hvR j _ cs[j] (by simp [hj]) (by simp [hj'])) (List.all_eq_true.1 h1 _ (List.getElem_mem _))
  have hpos : (i + 1) * sz ≤ c * sz := Nat.mul_le_mul_right _ (by omega)
  rw [Nat.succ_mul] at hpos
  have hfit' : i * sz + off + (φ x).cells.size ≤ cur.size := by omega
  have hrun : (execOp φ o).run C.P w = .ok .skip (w.setRow b (cur.toList.take (i * sz + off) ++ (φ x).cells.toList ++ cur.toList.drop (i * sz + off + (φ x).cells.size)).toArray) := by
    have hst := run_storeVar' (P := C.P) (w := w) (t := t) (g := g) (b := b) (q := i * sz + off) (cs := cur) (E := E) (v := φ x) (by rw [hvl]; exact hl) hb hfit' hone
    simp [execOp, ho, hv, Instr.storeAt, Instr.sureAddr, hst]
  rw [hrun]
  have hbn : σ b ≠ none := by simp [hs]
  have hn := Sim.write hS (b := b) (w' := w.setRow b (cur.toList.take (i * sz + off) ++ (φ x).cells.toList ++ cur.toList.drop (i * sz + off + (φ x).cells.size)).toArray) hbn (.arr E sz (elems.set i (setAt es off cs)) c) rfl rfl rfl (by simp)
    (fun y hy => setRow_other w b y _ hy) ⟨_, setRow_heap w b cur _ E _ hb, by simp; omega, by simpa using hlc, hm, fun es' hes' => by
      rcases List.mem_or_eq_of_mem_set hes' with h | h
      · exact hz es' h
      · rw [h, setAt_length (by omega)]; exact hesl, by
      intro i' j es' d hi' hj
      have hmono : ∀ v d, R (own F σ) w v d → R (own F σ) (w.setRow b (cur.toList.take (i * sz + off) ++ (φ x).cells.toList ++ cur.toList.drop (i * sz + off + (φ x).cells.size)).toArray) v d :=
        fun v d h => h.mono fun y hy hlt => ⟨setRow_other w b y _ (fun e => hy (.inr (e ▸ hbn))), hy⟩
      have hlen : i * sz + off + (φ x).cells.toList.length ≤ cur.toList.length := by simp; omega
      have hget : ∀ p, ((cur.toList.take (i * sz + off) ++ (φ x).cells.toList ++ cur.toList.drop (i * sz + off + (φ x).cells.size)).toArray)[p]? = if i * sz + off ≤ p ∧ p < i * sz + off + (φ x).cells.toList.length then (φ x).cells.toList[p - (i * sz + off)]? else cur.toList[p]? := by
        intro p
        have := set_get hlen p
        simpa using this
      rw [hget]
      by_cases hii : i' = i
      · subst hii
        rw [List.getElem?_set_self hi] at hi'
        simp at hi'
        subst hi'
        rw [setAt_get (by omega)] at hj
        have hcl : (φ x).cells.toList.length = cs.length := by simp [hvl]
        by_cases hin : off ≤ j ∧ j < off + cs.length
        · rw [if_pos hin] at hj
          rw [if_pos (by omega)]
          have hj1 := lt_of_get hj
          have hj2 : j - off < (φ x).cells.size := by omega
          refine ⟨(φ x).cells[j - off], by rw [show i' * sz + j - (i' * sz + off) = j - off by omega]; simp [hj2], hmono _ _ (hvR (j - off) _ d (by simp [hj2]) hj)⟩
        · rw [if_neg hin] at hj
          rw [if_neg (by omega)]
          obtain ⟨v, hv', hR'⟩ := hR i' j es d he hj
          exact ⟨v, by simpa using hv', hmono _ _ hR'⟩
      · rw [List.getElem?_set_ne (Ne.symm hii)] at hi'
        obtain ⟨v, hv', hR'⟩ := hR i' j es' d hi' hj
        have hjs : j < sz := by rw [← hz es' (List.mem_of_getElem? hi')]; exact lt_of_get hj
        refine ⟨v, ?_, hmono _ _ hR'⟩
        rw [if_neg]
        · simpa using hv'
        · rintro ⟨g1, g2⟩
          rcases Nat.lt_or_gt_of_ne hii with h | h
          · have := mul_lt_of (sz := sz) h hjs; omega
          · have h2 : (i + 1) * sz ≤ i' * sz := Nat.mul_le_mul_right _ h
            rw [Nat.succ_mul] at h2
            have hcl : (φ x).cells.toList.length = cs.length := by simp [hvl]
            omega⟩
  exact ⟨_, _, .tup _ _ rfl (fun j v d h => by simp [undef] at h), hn.1, hn.2, hq⟩

/-- The capacity. -/
theorem y_cap {t : TypeId} {x : Operand} {d : DV} (ho : o.op = .call ⟨.builtin .cap, #[x], #[t]⟩) (hs : (slk C.P t).isSome = true) (hx : (∃ b off n c, ε x = .vw b off n c ∧ d = .i .i64 c) ∨ (ε x = .nilsl ∧ d = .i .i64 0)) : Yields C o ε σ d := .of_run fun F w φ hr hS => by
  have h1 := hr x (by simp [ho, Op.operands, Call.operands])
  obtain ⟨s, hs⟩ := Option.isSome_iff_exists.1 hs
  obtain ⟨e, i, hu, hi, _⟩ := slk_spec hs
  rcases hx with ⟨b, off, n, c, hx, rfl⟩ | ⟨hx, rfl⟩
  · rw [hx] at h1
    generalize hv : φ x = v at h1
    cases h1
    exact ⟨_, by simp [execOp, ho, resolve, invoke, builtin, hv, Builtin.cap_, run_underlying hu]; rfl, .i _ _⟩
  · rw [hx] at h1
    generalize hv : φ x = v at h1
    cases h1
    exact ⟨_, by simp [execOp, ho, resolve, invoke, builtin, hv, Builtin.cap_, run_underlying hu]; rfl, .i _ _⟩
end
end Go.Arb
end

section
namespace Go.Arb
set_option linter.unusedVariables false
set_option linter.unusedSimpArgs false
open Go

/-! ### Equality of what has no addresses -/
def allE {α : Type} (f : α → Option Bool) : List α → Option Bool
  | [] => some true
  | a :: l => match f a with
    | some true => allE f l
    | some false => some false
    | none => none

def both (f : DV → DV → Option Bool) : Option DV → Option DV → Option Bool
  | some a, some b => f a b
  | _, _ => none

def eqT (P : Program) : Nat → TypeId → DV → DV → Option Bool
  | 0, _, _, _ => none
  | d + 1, t, x, y =>
    match P.underlying t, x, y with
    | some .bool, .b a, .b b => some (a == b)
    | some (.int _), .i k a, .i k' b => if k = k' then some (a == b) else none
    | some .string, .s a, .s b => some (a == b)
    | some (.array n e), .agg xs, .agg ys => match lk P e with
      | some (g, s) => allE (fun i => both (eqT P d e) (partD g xs (i * s) s) (partD g ys (i * s) s)) (List.range n)
      | none => none
    | some (.struct fs), .agg xs, .agg ys => if P.stoodInHeld t = true then none else
        allE (fun f => if f.name = "_" then none else match lk P f.type with
          | some (g, s) => both (eqT P d f.type) (partD g xs f.offset s) (partD g ys f.offset s)
          | none => none) fs.toList
    | _, _, _ => none

theorem both_some {f : DV → DV → Option Bool} {a b : Option DV} {r : Bool} (h : both f a b = some r) : ∃ x y, a = some x ∧ b = some y ∧ f x y = some r := by
  cases a with
  | none => simp [both] at h
  | some x => cases b with
    | none => simp [both] at h
    | some y => exact ⟨x, y, rfl, rfl, h⟩

theorem ba_eq {a b : ByteArray} {l m : List UInt8} (h : a.data.toList = l) (h' : b.data.toList = m) : (a.data == b.data) = (l == m) := by
  subst h; subst h'
  rw [Bool.eq_iff_iff]
  simp [beq_iff_eq, Array.toList_inj]

theorem cellsOf_lk {P : Program} {e : TypeId} {g : Bool} {s : Nat} (h : lk P e = some (g, s)) : P.cellsOf e = s := by
  obtain ⟨td, ti, h1, h2, h3, h4⟩ := lk_spec h
  simp [Program.cellsOf, h2, h4]

theorem eqT_sound {P : Program} {w : World} {I : Nat → Prop} : ∀ (d e : Nat) (t : TypeId) (x y : DV) (v u : Value) (r : Bool), R I w v x → R I w u y → eqT P d t x y = some r → (Op.equalIn (d + e) t v u).run P w = .ok r w := by
  intro d
  induction d with
  | zero => intro e t x y v u r _ _ h; simp [eqT] at h
  | succ d ih =>
    intro e t x y v u r hx hy h
    simp only [eqT] at h
    rw [show d + 1 + e = (d + e) + 1 by omega]
    split at h
    · rename_i hu
      cases hx; cases hy
      simp at h; subst h
      simp [Op.equalIn, run_underlying hu]
    · rename_i hu
      cases hx; cases hy
      split at h
      · rename_i hk
        simp at h; subst h
        simp [Op.equalIn, run_underlying hu, hk]
      · simp at h
    · rename_i hu
      cases hx with
      | s xa la hla =>
      cases hy with
      | s xb lb hlb =>
      simp at h; subst h
      simp [Op.equalIn, run_underlying hu]
      exact ba_eq hla hlb
    · rename_i n el xs ys hu
      cases hx with
      | agg vs _ hl hr =>
      cases hy with
      | agg us _ hl' hr' =>
      split at h
      · rename_i g s hlk
        obtain ⟨td, ti, h1, h2, h3, h4⟩ := lk_spec hlk
        rw [run_equalIn_array w (d + e) vs us hu h2, cellsOf_lk hlk]
        generalize List.range n = is at h
        induction is with
        | nil => simp [allE] at h; subst h; simp [Op.eqItems]
        | cons i is ih' =>
          simp only [allE] at h
          split at h
          · rename_i hb
            obtain ⟨a, b, ha, hb', hab⟩ := both_some hb
            obtain ⟨va, hva, hRa⟩ := run_part' (P := P) (w := w) hlk hl hr ha
            obtain ⟨vb, hvb, hRb⟩ := run_part' (P := P) (w := w) hlk hl' hr' hb'
            simp only [Op.eqItems, Sem.run_bind, hva, hvb, Result.andThen_ok, ih e el a b va vb true hRa hRb hab]
            simpa using ih' h
          · rename_i hb
            simp at h; subst h
            obtain ⟨a, b, ha, hb', hab⟩ := both_some hb
            obtain ⟨va, hva, hRa⟩ := run_part' (P := P) (w := w) hlk hl hr ha
            obtain ⟨vb, hvb, hRb⟩ := run_part' (P := P) (w := w) hlk hl' hr' hb'
            simp only [Op.eqItems, Sem.run_bind, hva, hvb, Result.andThen_ok, ih e el a b va vb false hRa hRb hab]
            simp
          · simp at h
      · simp at h
    · rename_i fs xs ys hu
      cases hx with
      | agg vs _ hl hr =>
      cases hy with
      | agg us _ hl' hr' =>
      split at h
      · simp at h
      · rename_i hst
        have hfs : P.fieldsOf t = fs := by simp [Program.fieldsOf, hu]
        rw [run_equalIn_struct w (d + e) t vs us (by rw [hfs]; exact hu) (by simpa using hst), hfs]
        generalize fs.toList = fl at h
        induction fl with
        | nil => simp [allE] at h; subst h; simp [Op.eqFields]
        | cons f fl ih' =>
          simp only [allE] at h
          have key : ∀ q, (if f.name = "_" then none else match lk P f.type with
              | some (g, s) => both (eqT P d f.type) (partD g xs f.offset s) (partD g ys f.offset s)
              | none => none) = some q → f.name ≠ "_" ∧ ∃ va vb, (part f.type vs f.offset).run P w = .ok va w ∧ (part f.type us f.offset).run P w = .ok vb w ∧ (Op.equalIn (d + e) f.type va vb).run P w = .ok q w := by
            intro q hq
            split at hq
            · simp at hq
            · rename_i hn
              refine ⟨hn, ?_⟩
              split at hq
              · rename_i g s hlk
                obtain ⟨a, b, ha, hb', hab⟩ := both_some hq
                obtain ⟨va, hva, hRa⟩ := run_part' (P := P) (w := w) hlk hl hr ha
                obtain ⟨vb, hvb, hRb⟩ := run_part' (P := P) (w := w) hlk hl' hr' hb'
                exact ⟨va, vb, hva, hvb, ih e f.type a b va vb q hRa hRb hab⟩
              · simp at hq
          split at h
          · rename_i hb
            obtain ⟨hn, va, vb, hva, hvb, hab⟩ := key _ hb
            simp only [Op.eqFields, hn, ne_eq, not_false_eq_true, if_true, Sem.run_bind, hva, hvb, Result.andThen_ok, hab]
            simpa using ih' h
          · rename_i hb
            simp at h; subst h
            obtain ⟨hn, va, vb, hva, hvb, hab⟩ := key _ hb
            simp only [Op.eqFields, hn, ne_eq, not_false_eq_true, if_true, Sem.run_bind, hva, hvb, Result.andThen_ok, hab]
            simp
          · simp at h
    · simp at h

theorem equal_sound {P : Program} {w : World} {I : Nat → Prop} {t : TypeId} {x y : DV} {v u : Value} {r : Bool} (hx : R I w v x) (hy : R I w u y) (h : eqT P 6 t x y = some r) : (Op.equal t v u).run P w = .ok r w := eqT_sound 6 9994 t x y v u r hx hy h

end Go.Arb
end
