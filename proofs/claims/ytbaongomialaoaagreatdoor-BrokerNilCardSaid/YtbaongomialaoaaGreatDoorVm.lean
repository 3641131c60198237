/- All facts on calls hold. -/
import Derived.Test.YtbaongomialaoaaGreatDoorVf
import Derived.Test.YtbaongomialaoaaGreatDoorSb
namespace Go.Arb
set_option linter.unusedVariables false
set_option maxRecDepth 100000
open Go Go.Lib Go.Proofs
theorem cfgok19 {C : Cx} (hP : C.P = Tryz.prog) : CfgOk C cfg19 where
  mixed := by rw [hP]; exact mixed19
  size := by rw [hP]; exact size19
  bodies := by rw [hP]; exact bodies19
  ext := fun p hp e he => by
    rw [hP]
    simp only [cfg19, List.mem_cons, List.not_mem_nil, or_false] at hp
    rcases hp with rfl | rfl | rfl | rfl | rfl | rfl <;> simp only [extFn] at he <;> first | (cases he; first | exact ext1_240 | exact ext2_194 | exact ext3_251) | cases he
  once := fun p hp e => by
    simp only [cfg19, List.mem_cons, List.not_mem_nil, or_false] at hp
    rcases hp with rfl | rfl | rfl | rfl | rfl | rfl <;> simp only [reduceCtorEq, Nat.reduceEqDiff] at e <;> exact once248 hP
  coll := fun p hp e q hq e' => by
    simp only [cfg19, List.mem_cons, List.not_mem_nil, or_false] at hp hq
    rcases hp with rfl | rfl | rfl | rfl | rfl | rfl <;> simp only [reduceCtorEq, Nat.reduceEqDiff] at e <;>
      rcases hq with rfl | rfl | rfl | rfl | rfl | rfl <;> simp only [reduceCtorEq, Nat.reduceEqDiff] at e' <;> exact coll110 hP
theorem taball {C : Cx} (hP : C.P = Tryz.prog) : TabOk C all4 := by
  have hc := cfgok19 hP
  have h0 : TabOk C all0 := (TabOk.nil C).add hc (by rw [hP]; exact facts0)
  have h1 : TabOk C all1 := h0.add hc (by rw [hP]; exact facts1)
  have h2 : TabOk C all2 := h1.add hc (by rw [hP]; exact facts2)
  have h3 : TabOk C all3 := h2.add hc (by rw [hP]; exact facts3)
  exact h3.add hc (by rw [hP]; exact facts4)
#print axioms taball
end Go.Arb
