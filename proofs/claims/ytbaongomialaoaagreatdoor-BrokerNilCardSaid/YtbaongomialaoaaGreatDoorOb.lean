/- sync.Once for the machine. -/
import Derived.Test.YtbaongomialaoaaGreatDoorOa
import Derived.Test.YtbaongomialaoaaGreatDoorCf
namespace Go.Arb
set_option linter.unusedVariables false
set_option linter.unusedSimpArgs false
open Go Go.Lib Go.Proofs

theorem heap_drew (w : World) (x : Nat) : w.drew.heap[x]? = w.heap[x]? := rfl

theorem entersF {P : Program} {f : FuncId} {fn : Func} (hf : P.funcs[f]? = some fn) (hnm : (fn.name == "runtime.NumGoroutine") = false) (hbd : fn.body.isNone = false) (args : Array Value) (w : World) : (callFunc f args).run P w = .ok (.enter f args) w := by
  have hnm' : ¬ fn.name = "runtime.NumGoroutine" := by simpa using hnm
  have hbd' : ¬ fn.body = none := fun h => by simp [h] at hbd
  simp [callFunc, hf, hbd', hnm']

theorem once248 {C : Cx} (hP : C.P = Tryz.prog) : OnceOk C 248 := by
  intro σ b off g a c cs Q hb h0 h1 hcall F w vs hs hr hS
  obtain ⟨v, u, rfl, hv, hu⟩ := args2 hs hr
  cases hv
  cases hu with
  | fn f' va vc da dc ha hca hra hrc =>
  obtain ⟨x0, c0, r0, z0⟩ := cell_of_ob hS hb h0
  cases r0
  obtain ⟨x1, c1, r1, z1⟩ := cell_of_ob hS hb h1
  cases r1
  obtain ⟨hcl, hcc⟩ := hcall
  obtain ⟨fn, hf, hnm, hbd⟩ := hcl
  rw [hP] at hf
  obtain ⟨S1, T1⟩ := Sim.setCell (off := off + 1) hS hb (.i .i32 1)
  have hrun : ∀ w, (callFunc g (va ++ vc)).run Tryz.prog w = .ok (.enter g (va ++ vc)) w := fun w => by
    have hnm' : ¬ fn.name = "runtime.NumGoroutine" := by simpa using hnm
    have hbd' : ¬ fn.body = none := fun h => by simp [h] at hbd
    simp [callFunc, hf, hbd', hnm']
  have hK := hcc F _ (va ++ vc) (by simp [ha, hca]) (fun i v d hv hd => by
    by_cases h1 : i < va.size
    · rw [Array.getElem?_append_left h1] at hv
      rw [List.getElem?_append_left (by omega)] at hd
      exact (hra i v d hv hd).step T1
    · rw [Array.getElem?_append_right (by omega)] at hv
      rw [List.getElem?_append_right (by omega), ← ha] at hd
      exact (hrc _ v d hv hd).step T1) S1
  rw [hP] at hK
  have hslow := slow_any b off g va vc (fun w' => ∃ σ' cs2, Sim C F σ' w' ∧ Step σ w σ' w' ∧ σ' b = some (.cells cs2) ∧ cs2[off]? = some (.i .u32 0) ∧ cs2[off + 1]? = some (.i .i32 1) ∧
      Q (.tup []) (sset σ' b (.cells ((cs2.set off (.i .u32 1)).set (off + 1) (.i .i32 0))))) w c0 c1 z0 z1 hrun
    (hK.mono fun e w' ⟨v, d, σ', he, hv, S2, T2, cs2, hb2, k0, k1, q⟩ => by
      obtain ⟨y0, d0, s0, f0⟩ := cell_of_ob S2 hb2 k0
      cases s0
      obtain ⟨y1, d1, s1, f1⟩ := cell_of_ob S2 hb2 k1
      cases s1
      exact ⟨v, he, d0, d1, f0, f1, σ', cs2, S2, T1.trans T2, hb2, k0, k1, q⟩)
  have hent : (callFunc 248 #[.pointer (some ⟨b, off, none⟩), .func (.func g) va vc]).run C.P w = .ok (.enter 248 #[.pointer (some ⟨b, off, none⟩), .func (.func g) va vc]) w := by
    rw [hP]; exact entersF Tryz.func248 (by kernel_rfl) (by kernel_rfl) _ _
  rw [hent]
  simp only [opPost]
  rw [hP]
  refine hslow.mono ?_
  rintro e w' ⟨rfl, w1, ⟨σ', cs2, S2, T2, hb2, k0, k1, q⟩, rfl⟩
  refine ⟨_, rfl, .tup [], sset σ' b (.cells ((cs2.set off (.i .u32 1)).set (off + 1) (.i .i32 0))), .tup _ _ rfl (fun j v d h => by simp at h), ?_⟩
  have S3 := S2.drew
  obtain ⟨S4, T4⟩ := Sim.setCell (off := off) S3 hb2 (v := .int .u32 1) (.i .u32 1)
  obtain ⟨S5, T5⟩ := Sim.setCell (off := off + 1) S4 (σ := sset σ' b (.cells (cs2.set off (.i .u32 1)))) sset_same (v := .int .i32 0) (.i .i32 0)
  have hss : sset (sset σ' b (.cells (cs2.set off (.i .u32 1)))) b (.cells ((cs2.set off (.i .u32 1)).set (off + 1) (.i .i32 0))) = sset σ' b (.cells ((cs2.set off (.i .u32 1)).set (off + 1) (.i .i32 0))) := by
    funext x; unfold sset; split <;> rfl
  rw [hss] at S5 T5
  exact ⟨S5, T2.trans (Step.drew.trans (T4.trans T5)), q⟩
#print axioms once248
end Go.Arb
