/- The reading of an operation. -/
import Derived.Test.YtbaongomialaoaaGreatDoorCf
import Derived.Test.YtbaongomialaoaaGreatDoorWb
import Derived.KernelRfl
namespace Go.Arb
set_option linter.unusedVariables false
set_option linter.unusedSimpArgs false
open Go Go.Lib Go.Proofs

section
variable {H : Type} {enc : TypeId × Value → H} {w : World} {base : Nat} {sp : Nat → Bool} {held : Bool}

theorem enc_list {α : Type} (f : α → List DV) {ess : List (List DV)} (h : ∀ es ∈ ess, ∃ m, es = f m) : ∃ ms : List α, ess = ms.map f := by
  induction ess with
  | nil => exact ⟨[], rfl⟩
  | cons e l ih =>
    obtain ⟨m, rfl⟩ := h e (by simp)
    obtain ⟨ms, rfl⟩ := ih fun es hes => h es (by simp [hes])
    exact ⟨m :: ms, rfl⟩
theorem encExprs_map (l : List MExpr) : encExprs l = l.map encExpr := by
  induction l with
  | nil => rfl
  | cons x l ih => simp [encExprs, ih]
theorem PartsD.cons_inv {D : List DV → Prop} {Ds ds} (h : PartsD (D :: Ds) ds) : ∃ d r, D d ∧ PartsD Ds r ∧ ds = d ++ r := by
  cases h with
  | cons h k => exact ⟨_, _, h, k, rfl⟩
theorem PartsD.nil_inv {ds} (h : PartsD [] ds) : ds = [] := by cases h; rfl
theorem RepD.succ_inv {D : List DV → Prop} {k ds} (h : RepD D (k + 1) ds) : ∃ d r, D d ∧ RepD D k r ∧ ds = d ++ r := by
  cases h with
  | succ h k => exact ⟨_, _, h, k, rfl⟩
theorem RepD.zero_inv {D : List DV → Prop} {ds} (h : RepD D 0 ds) : ds = [] := by cases h; rfl

abbrev DInt (k : IntKind) (ds : List DV) : Prop := ∃ z, ds = [.i k z]
abbrev DBool (ds : List DV) : Prop := ∃ z, ds = [.b z]
abbrev DStr (ds : List DV) : Prop := ∃ l, ds = [.s l]
abbrev DOf {α : Type} (f : α → List DV) (ds : List DV) : Prop := ∃ m, ds = f m
abbrev DList {α : Type} (f : α → List DV) (ds : List DV) : Prop := ∃ ms : List α, ds = [.sl (ms.map f)]

theorem reads_list {α : Type} {f : α → List DV} {n t e sz} (ht : Tryz.prog.underlying t = some (.slice e)) (hc : Tryz.prog.cellsOf e = sz) (hsz : 0 < sz) (hl : ∀ m, (f m).length = sz)
    (he : ∀ m, n = m + 1 → ReadsF enc Tryz.prog w base sp held m e (DOf f)) : ReadsF enc Tryz.prog w base sp held n t (DList f) :=
  (reads_slice ht hc hsz (fun ds ⟨m, h⟩ => h ▸ hl m) he).mono fun ds ⟨ess, h1, h2⟩ => by
    obtain ⟨ms, rfl⟩ := enc_list f h1
    exact ⟨ms, h2⟩

theorem rd_int {n} : ReadsF enc Tryz.prog w base sp held n 3 (DInt .i64) := reads_int Tryz.underlying3
theorem rd_bool {n} : ReadsF enc Tryz.prog w base sp held n 4 DBool := reads_bool Tryz.underlying4
theorem rd_str {n} : ReadsF enc Tryz.prog w base sp held n 9 DStr := reads_str Tryz.underlying9

theorem rd_range {n} : ReadsF enc Tryz.prog w base sp held n 118 (DOf encRange) := (reads_struct (Ds := [DInt .i64, DInt .i64]) Tryz.underlying118 (by kernel_rfl) rfl (fun m hm i f D h1 h2 => by
    match i with
    | 0 => simp at h1 h2; subst h1 h2; exact rd_int
    | 1 => simp at h1 h2; subst h1 h2; exact rd_int
    | _ + 2 => simp at h1)).mono fun ds h => by
  obtain ⟨d0, r0, ⟨a, rfl⟩, h1, rfl⟩ := h.cons_inv
  obtain ⟨d1, r1, ⟨b, rfl⟩, h2, rfl⟩ := h1.cons_inv
  cases h2.nil_inv
  exact ⟨⟨a, b⟩, rfl⟩

theorem rd_set {n} : ReadsF enc Tryz.prog w base sp held n 40 (DOf encSet) := (reads_struct (Ds := [DBool, DList encRange, DBool, DList (fun s : List UInt8 => [DV.s s])]) Tryz.underlying40 (by kernel_rfl) rfl (fun m hm i f D h1 h2 => by
    match i with
    | 0 => simp at h1 h2; subst h1 h2; exact rd_bool
    | 1 => simp at h1 h2; subst h1 h2; exact reads_list (sz := 2) Tryz.underlying37 (by kernel_rfl) (by decide) (fun m => rfl) (fun _ _ => rd_range)
    | 2 => simp at h1 h2; subst h1 h2; exact rd_bool
    | 3 => simp at h1 h2; subst h1 h2; exact reads_list (sz := 1) Tryz.underlying38 (by kernel_rfl) (by decide) (fun m => rfl) (fun _ _ => rd_str)
    | _ + 4 => simp at h1)).mono fun ds h => by
  obtain ⟨d0, r0, ⟨a, rfl⟩, h1, rfl⟩ := h.cons_inv
  obtain ⟨d1, r1, ⟨b, rfl⟩, h2, rfl⟩ := h1.cons_inv
  obtain ⟨d2, r2, ⟨c, rfl⟩, h3, rfl⟩ := h2.cons_inv
  obtain ⟨d3, r3, ⟨d, rfl⟩, h4, rfl⟩ := h3.cons_inv
  cases h4.nil_inv
  exact ⟨⟨a, b, c, d⟩, rfl⟩

theorem rd_expr : ∀ n, ReadsF enc Tryz.prog w base sp held n 43 (DOf encExpr) := by
  intro n
  induction n using Nat.strongRecOn with
  | _ n ih =>
    refine (reads_struct (Ds := [DInt .i64, DInt .i64, DOf encSet, DList encExpr]) Tryz.underlying43 (by kernel_rfl) rfl (fun m hm i f D h1 h2 => ?_)).mono fun ds h => ?_
    · match i with
      | 0 => simp at h1 h2; subst h1 h2; exact rd_int
      | 1 => simp at h1 h2; subst h1 h2; exact rd_int
      | 2 => simp at h1 h2; subst h1 h2; exact rd_set
      | 3 => simp at h1 h2; subst h1 h2; exact reads_list (sz := 7) Tryz.underlying41 (by kernel_rfl) (by decide) (fun m => encExpr_length m) (fun k hk => ih k (by omega))
      | _ + 4 => simp at h1
    · obtain ⟨d0, r0, ⟨a, rfl⟩, h1, rfl⟩ := h.cons_inv
      obtain ⟨d1, r1, ⟨b, rfl⟩, h2, rfl⟩ := h1.cons_inv
      obtain ⟨d2, r2, ⟨c, rfl⟩, h3, rfl⟩ := h2.cons_inv
      obtain ⟨d3, r3, ⟨d, rfl⟩, h4, rfl⟩ := h3.cons_inv
      cases h4.nil_inv
      exact ⟨.mk a b c d, by simp [encExpr, encSet, encExprs_map]⟩

theorem rd_value {n} : ReadsF enc Tryz.prog w base sp held n 28 (DOf encValue) := (reads_struct (Ds := [DInt .i64, DInt .i64, DStr]) Tryz.underlying28 (by kernel_rfl) rfl (fun m hm i f D h1 h2 => by
    match i with
    | 0 => simp at h1 h2; subst h1 h2; exact rd_int
    | 1 => simp at h1 h2; subst h1 h2; exact rd_int
    | 2 => simp at h1 h2; subst h1 h2; exact rd_str
    | _ + 3 => simp at h1)).mono fun ds h => by
  obtain ⟨d0, r0, ⟨a, rfl⟩, h1, rfl⟩ := h.cons_inv
  obtain ⟨d1, r1, ⟨b, rfl⟩, h2, rfl⟩ := h1.cons_inv
  obtain ⟨d2, r2, ⟨c, rfl⟩, h3, rfl⟩ := h2.cons_inv
  cases h3.nil_inv
  exact ⟨⟨a, b, c⟩, rfl⟩

theorem rd_event {n} : ReadsF enc Tryz.prog w base sp held n 30 (DOf encEvent) := (reads_array (k := 4) (e := 28) Tryz.underlying30 (by kernel_rfl) (fun m hm => rd_value)).mono fun ds h => by
  obtain ⟨d0, r0, ⟨a, rfl⟩, h1, rfl⟩ := h.succ_inv
  obtain ⟨d1, r1, ⟨b, rfl⟩, h2, rfl⟩ := h1.succ_inv
  obtain ⟨d2, r2, ⟨c, rfl⟩, h3, rfl⟩ := h2.succ_inv
  obtain ⟨d3, r3, ⟨d, rfl⟩, h4, rfl⟩ := h3.succ_inv
  cases h4.zero_inv
  exact ⟨⟨a, b, c, d⟩, by simp [encEvent]⟩

theorem rd_box {n} : ReadsF enc Tryz.prog w base sp held n 112 (DOf encBox) := (reads_array (k := 4) (e := 40) Tryz.underlying112 (by kernel_rfl) (fun m hm => rd_set)).mono fun ds h => by
  obtain ⟨d0, r0, ⟨a, rfl⟩, h1, rfl⟩ := h.succ_inv
  obtain ⟨d1, r1, ⟨b, rfl⟩, h2, rfl⟩ := h1.succ_inv
  obtain ⟨d2, r2, ⟨c, rfl⟩, h3, rfl⟩ := h2.succ_inv
  obtain ⟨d3, r3, ⟨d, rfl⟩, h4, rfl⟩ := h3.succ_inv
  cases h4.zero_inv
  exact ⟨⟨a, b, c, d⟩, by simp [encBox]⟩

theorem rd_entry {n} : ReadsF enc Tryz.prog w base sp held n 64 (DOf encEntry) := (reads_struct (Ds := [DInt .i64, DList encBox, DInt .u64]) Tryz.underlying64 (by kernel_rfl) rfl (fun m hm i f D h1 h2 => by
    match i with
    | 0 => simp at h1 h2; subst h1 h2; exact rd_int
    | 1 => simp at h1 h2; subst h1 h2; exact reads_list (sz := 16) Tryz.underlying62 (by kernel_rfl) (by decide) (fun m => by simp [encBox, encSet]) (fun _ _ => rd_box)
    | 2 => simp at h1 h2; subst h1 h2; exact reads_int (by kernel_rfl)
    | _ + 3 => simp at h1)).mono fun ds h => by
  obtain ⟨d0, r0, ⟨a, rfl⟩, h1, rfl⟩ := h.cons_inv
  obtain ⟨d1, r1, ⟨b, rfl⟩, h2, rfl⟩ := h1.cons_inv
  obtain ⟨d2, r2, ⟨c, rfl⟩, h3, rfl⟩ := h2.cons_inv
  cases h3.nil_inv
  exact ⟨⟨a, b, c⟩, rfl⟩

theorem rd_delta {n} : ReadsF enc Tryz.prog w base sp held n 46 (DOf encDelta) := (reads_struct (Ds := [DList encEntry, DList (fun z : Int => [DV.i .i64 z])]) Tryz.underlying46 (by kernel_rfl) rfl (fun m hm i f D h1 h2 => by
    match i with
    | 0 => simp at h1 h2; subst h1 h2; exact reads_list (sz := 3) Tryz.underlying44 (by kernel_rfl) (by decide) (fun m => rfl) (fun _ _ => rd_entry)
    | 1 => simp at h1 h2; subst h1 h2; exact reads_list (sz := 1) Tryz.underlying22 (by kernel_rfl) (by decide) (fun m => rfl) (fun _ _ => rd_int)
    | _ + 2 => simp at h1)).mono fun ds h => by
  obtain ⟨d0, r0, ⟨a, rfl⟩, h1, rfl⟩ := h.cons_inv
  obtain ⟨d1, r1, ⟨b, rfl⟩, h2, rfl⟩ := h1.cons_inv
  cases h2.nil_inv
  exact ⟨⟨a, b⟩, rfl⟩

theorem rd_pub {n} : ReadsF enc Tryz.prog w base sp held n 48 (DOf encPub) := (reads_struct (Ds := [DInt .i64, DInt .i64, DOf encEvent]) Tryz.underlying48 (by kernel_rfl) rfl (fun m hm i f D h1 h2 => by
    match i with
    | 0 => simp at h1 h2; subst h1 h2; exact rd_int
    | 1 => simp at h1 h2; subst h1 h2; exact rd_int
    | 2 => simp at h1 h2; subst h1 h2; exact rd_event
    | _ + 3 => simp at h1)).mono fun ds h => by
  obtain ⟨d0, r0, ⟨a, rfl⟩, h1, rfl⟩ := h.cons_inv
  obtain ⟨d1, r1, ⟨b, rfl⟩, h2, rfl⟩ := h1.cons_inv
  obtain ⟨d2, r2, ⟨c, rfl⟩, h3, rfl⟩ := h2.cons_inv
  cases h3.nil_inv
  exact ⟨⟨a, b, c⟩, by simp [encPub]⟩

theorem rd_frame {n} : ReadsF enc Tryz.prog w base sp held n 50 (DOf encFrame) := (reads_struct (Ds := [DBool, DOf encDelta, DOf encPub]) Tryz.underlying50 (by kernel_rfl) rfl (fun m hm i f D h1 h2 => by
    match i with
    | 0 => simp at h1 h2; subst h1 h2; exact rd_bool
    | 1 => simp at h1 h2; subst h1 h2; exact rd_delta
    | 2 => simp at h1 h2; subst h1 h2; exact rd_pub
    | _ + 3 => simp at h1)).mono fun ds h => by
  obtain ⟨d0, r0, ⟨a, rfl⟩, h1, rfl⟩ := h.cons_inv
  obtain ⟨d1, r1, ⟨b, rfl⟩, h2, rfl⟩ := h1.cons_inv
  obtain ⟨d2, r2, ⟨c, rfl⟩, h3, rfl⟩ := h2.cons_inv
  cases h3.nil_inv
  exact ⟨⟨a, b, c⟩, by simp [encFrame]⟩

theorem rd_op {n} : ReadsF enc Tryz.prog w base sp held n 52 (DOf encOp19) := (reads_struct (Ds := [DInt .i64, DInt .i64, DInt .i64, DInt .i64, DOf encExpr, DOf encEvent, DOf encFrame]) Tryz.underlying52 (by kernel_rfl) rfl (fun m hm i f D h1 h2 => by
    match i with
    | 0 => simp at h1 h2; subst h1 h2; exact rd_int
    | 1 => simp at h1 h2; subst h1 h2; exact rd_int
    | 2 => simp at h1 h2; subst h1 h2; exact rd_int
    | 3 => simp at h1 h2; subst h1 h2; exact rd_int
    | 4 => simp at h1 h2; subst h1 h2; exact rd_expr m
    | 5 => simp at h1 h2; subst h1 h2; exact rd_event
    | 6 => simp at h1 h2; subst h1 h2; exact rd_frame
    | _ + 7 => simp at h1)).mono fun ds h => by
  obtain ⟨d0, r0, ⟨a, rfl⟩, h1, rfl⟩ := h.cons_inv
  obtain ⟨d1, r1, ⟨b, rfl⟩, h2, rfl⟩ := h1.cons_inv
  obtain ⟨d2, r2, ⟨c, rfl⟩, h3, rfl⟩ := h2.cons_inv
  obtain ⟨d3, r3, ⟨d, rfl⟩, h4, rfl⟩ := h3.cons_inv
  obtain ⟨d4, r4, ⟨e, rfl⟩, h5, rfl⟩ := h4.cons_inv
  obtain ⟨d5, r5, ⟨f, rfl⟩, h6, rfl⟩ := h5.cons_inv
  obtain ⟨d6, r6, ⟨g, rfl⟩, h7, rfl⟩ := h6.cons_inv
  cases h7.nil_inv
  exact ⟨⟨a, b, c, d, e, f, g⟩, by simp [encOp19]⟩
end
end Go.Arb
