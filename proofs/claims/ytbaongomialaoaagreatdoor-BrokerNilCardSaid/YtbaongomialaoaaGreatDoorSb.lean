/- slices.Collect for the machine. -/
import Derived.Test.YtbaongomialaoaaGreatDoorSa
import Derived.Test.YtbaongomialaoaaGreatDoorOb
namespace Go.Arb
set_option linter.unusedVariables false
set_option linter.unusedSimpArgs false
open Go Go.Lib Go.Proofs Go.RowKit Go.Maps Go.Sort Go.WideElems

theorem Sim.of_below {C : Cx} {F σ} {w w' : World} (hS : Sim C F σ w) (hb : Below w.heap.size w w') : Sim C F σ w' ∧ Step σ w σ w' := by
  have hk : ∀ x, x < w.heap.size → w'.heap[x]? = w.heap[x]? := fun x hx => hb.block x hx
  have hst : Step σ w σ w' := ⟨hb.os, hb.tape, hb.output, hb.size, fun x hx h => ⟨hk x hx, h⟩⟩
  refine ⟨⟨fun x hx => ⟨Nat.lt_of_lt_of_le (hS.fr x hx).1 hb.size, (hS.fr x hx).2⟩, fun x o ho => ?_, fun x o ho => ?_⟩, hst⟩
  · have := hS.ob x o ho
    exact this.mono (fun y hy hlt => ⟨hk y hlt, hy⟩) (hk x this.lt)
  · have := hS.gl x o ho
    exact ⟨(hk x (heap_lt this.1)).trans this.1, this.2⟩

theorem Sim.not_own_ge {C : Cx} {F σ} {w : World} (hS : Sim C F σ w) {g : Nat} (hg : w.heap.size ≤ g) : ¬ own F σ g := by
  rintro (h | h)
  · have := (hS.fr g h).1; omega
  · rcases ho : σ g with _ | o
    · exact h ho
    · have := (hS.ob g o ho).lt; omega

def anyR (_ : Value) : Option (DataW Unit × List MemPlace) := some (.nil, [])

theorem coll110 {C : Cx} (hP : C.P = Tryz.prog) : CollOk C 110 111 := by
  intro σ b m kvs Q hb hm hq F w vs hs hr hS
  obtain ⟨v, rfl, hv⟩ := args1 hs hr
  cases hv with
  | fn f' va vc da dc ha hca hra hrc =>
  obtain ⟨va⟩ := va
  obtain ⟨vc⟩ := vc
  match va, ha, vc, hca with
  | [], _, [p], _ =>
  have hp := hrc 0 p _ rfl rfl
  cases hp
  obtain ⟨x0, c0, r0, z0⟩ := cell_of_ob hS hb (off := 0) rfl
  cases r0
  have hblt := (hS.ob b _ hb).lt
  obtain ⟨es, clock, hheap, hsz, hkv, hborn, hnd⟩ := hS.ob m _ hm
  have hent : ∀ args w, (callFunc 111 args).run Tryz.prog w = .ok (.enter 111 args) w := fun args w => entersF Tryz.func111 (by kernel_rfl) (by kernel_rfl) _ _
  have main : ∀ ks : List Int, kvs.map (·.1) = ks.map (fun x => DV.i .i64 x) → ks.length ≤ 1 → (∀ x ∈ ks, (Lit.int .i64 x).wf = true) →
      Calls Tryz.prog 110 #[.func (.func 111) #[] #[.pointer (some ⟨b, 0, none⟩)]] w fun e w' => ∃ v, e = .returned v ∧ w'.ownsRow w.heap.size 3 1 v ks.length (ks.map encZ) ∧ (v = .slice none 0 0 ↔ ks = []) ∧ Below w.heap.size w w' := by
    intro ks hks hlen hwf
    have hl : es.toList.length = ks.length := by
      have := congrArg List.length hks
      simp at this
      simp [hsz, this]
    have hkey : ∀ e ∈ es.toList, ∃ x ∈ ks, e.key = .int .i64 x := by
      intro e he
      obtain ⟨j, hj, rfl⟩ := List.mem_iff_getElem.1 he
      have h1 : (ks.map (fun x => DV.i .i64 x))[j]? = some (DV.i .i64 (ks[j]'(by omega))) := by simp [List.getElem?_map, List.getElem?_eq_getElem (show j < ks.length by omega)]
      rw [← hks, List.getElem?_map] at h1
      obtain ⟨kv, hkv1, hkv2⟩ := Option.map_eq_some_iff.1 h1
      have h2 := (hkv j es.toList[j] kv (by simp at hj ⊢) hkv1).1
      rw [hkv2] at h2
      generalize es.toList[j].key = kk at h2
      cases h2
      exact ⟨_, List.getElem_mem _, rfl⟩
    have hkl : ∀ e ∈ es.toList, ∃ x ∈ ks, rd Tryz.prog 3 anyR e = some (.int .i64 x, .nil) := by
      intro e he
      obtain ⟨x, hx, hk⟩ := hkey e he
      have hw := hwf x hx
      refine ⟨x, hx, ?_⟩
      simp [rd, keyOf, Tryz.underlying3, mapKey, hk, hw, anyR]
    have hown : w.ownsMap Tryz.prog 3 anyR m es.size (.map ((es.toList.map (rg Tryz.prog 3 anyR)).foldr DataW.insert [])) := by
      refine ⟨es, clock, hheap, ⟨?_, ⟨fun x hx => hborn x (by simpa using hx), hnd, ?_⟩, ?_⟩, Nat.le_refl _, rfl⟩
      · have : es.size = ks.length := by simpa using hl
        rw [this]; unfold maxLen; omega
      · match he : es.toList, hl with
        | [], _ => simp
        | [e], _ => simp
        | _ :: _ :: _, hl => simp at hl; omega
      · intro x hx
        obtain ⟨k, _, hk⟩ := hkl x hx
        exact ⟨_, hk⟩
    have hD : intKeys (.map ((es.toList.map (rg Tryz.prog 3 anyR)).foldr DataW.insert [])) = ks := by
      match he : es.toList, ks, hl with
      | [], [], _ => rfl
      | [e], [k], _ =>
        obtain ⟨x, hx, h⟩ := hkl e (by rw [he]; simp)
        simp at hx; subst hx
        simp [rg, h, DataW.insert, intKeys, intOf]
      | _ :: _ :: _, ks, hl => simp at hl; omega
    have hsize : Maps.size (.map ((es.toList.map (rg Tryz.prog 3 anyR)).foldr DataW.insert [])) ≤ 1 := by
      have := hown.size_le
      have h2 : es.size = ks.length := by simpa using hl
      omega
    have hseq := OZ.keys_gives Fence.wide 1 trivial rfl (by omega) b m es.size _ w hblt c0 hown
    refine ((callsIn_wide (n := 3)).1 (OZ.collect_in Fence.wide 3 trivial trivial rfl (by omega) 111 #[.pointer (some ⟨b, 0, none⟩)] trivial hent _ _ (by unfold maxLen; omega) (by omega) w hseq)).mono ?_
    rintro e w' ⟨v, ss, rfl, hperm, hrow, hnil, hbl⟩
    rw [hD] at hperm
    have hss : ss = ks := by
      match ks, hlen with
      | [], _ => exact hperm.eq_nil
      | [k], _ => exact List.perm_singleton.1 hperm
      | _ :: _ :: _, hl => simp at hl
    subst hss
    exact ⟨v, rfl, hrow, hnil, hbl⟩
  have hcall : (callFunc 110 #[.func (.func 111) #[] #[.pointer (some ⟨b, 0, none⟩)]]).run C.P w = .ok (.enter 110 #[.func (.func 111) #[] #[.pointer (some ⟨b, 0, none⟩)]]) w := by
    rw [hP]; exact entersF Tryz.func110 (by kernel_rfl) (by kernel_rfl) _ _
  have hcall' : (callFunc 110 #[.func (.func 111) ⟨[]⟩ ⟨[.pointer (some ⟨b, 0, none⟩)]⟩]).run C.P w = .ok (.enter 110 #[.func (.func 111) #[] #[.pointer (some ⟨b, 0, none⟩)]]) w := hcall
  rw [hcall']
  simp only [opPost]
  rw [hP]
  rcases hq with ⟨rfl, q⟩ | ⟨x, d, rfl, hw, q⟩
  · refine (main [] rfl (by simp) (by simp)).mono ?_
    rintro e w' ⟨v, rfl, hrow, hnil, hbl⟩
    cases hnil.2 rfl
    obtain ⟨S', T'⟩ := hS.of_below hbl
    exact ⟨_, rfl, .nilsl, σ, .nilsl, S', T', q⟩
  · refine (main [x] rfl (by simp) (by simpa using hw)).mono ?_
    rintro e w' ⟨v, rfl, hrow, hnil, hbl⟩
    obtain ⟨S', T'⟩ := hS.of_below hbl
    refine ⟨_, rfl, .sl [[.i .i64 x]], σ, ?_, S', T', q⟩
    rcases hrow.2 with ⟨_, h0⟩ | ⟨g, cap, cur, rfl, hbase, hgb, r1, r2, r3, r4⟩
    · simp at h0
    · have h00 : cur[0]? = some (encZ x) := by
        have h1 : cur.toList[0]? = some (encZ x) := by
          have h2 : (cur.toList.take 1)[0]? = some (encZ x) := by
            have : cur.toList.take ([x].length * 1) = [encZ x] := by simpa using r4
            simp at this
            rw [this]; rfl
          rw [List.getElem?_take] at h2
          simpa using h2
        simpa using h1
      refine .sl g 0 1 cap 1 [[.i .i64 x]] cur 3 (0, 0) (fun _ _ => encZ x) (hS.not_own_ge hbase) hgb rfl (by simpa using r1) (by simp) (fun i j hi hj => ?_) (fun i j es d hi hj => ?_) r2
      · simp at hi; subst hi
        have : j = 0 := by omega
        subst this
        simpa using h00
      · match i, hi with
        | 0, hi =>
          simp at hi; subst hi
          match j, hj with
          | 0, hj => simp at hj; subst hj; exact .i _ _
#print axioms coll110
end Go.Arb
