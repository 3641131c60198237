/- For every Op the law BrokerNil of arbourlaw19 returns true and its argument reads as before; condition: the three listed package-level tables hold what the program lays in them. -/
import Derived.Test.YtbaongomialaoaaGreatDoorRa
namespace Go.Proofs.YtbaongomialaoaaGreatDoor
open Go Go.ChangeShapes Go.WideShapes Go.ChangeAt Go.RowKit
set_option maxRecDepth 100000
theorem brokerNil_jf : joinedFacts Tryz.pinned.checked.prog 4 Tryz.f4 (OpenSpec.ofChange Rows.brokerNilSpec).bare Rows.brokerNilRow = true := by kernel_rfl
theorem brokerNil_named : Tryz.pinned.checked.prog.funcNamed Rows.brokerNilRow.func = some 4 := by kernel_rfl

theorem brokerNil_said : Rows.BrokerNilSaid :=
  OpenClaim.holds_of_cond 4 Tryz.f4 rfl rfl rfl rfl rfl rfl rfl ⟨rfl, rfl, rfl, rfl, rfl⟩ rfl rfl rfl rfl rfl brokerNil_named Tryz.func4 brokerNil_jf
    (of_decide_eq_true (by kernel_rfl)) (by unfold Func.isWrapper; first | (rw [if_pos (by decide +kernel)]; kernel_rfl) | (rw [if_neg (by decide +kernel)]; exact ⟨rfl, rfl⟩))
    (fun os started H enc _ F => by rw [OpenClaim.pre_eq_preRow]; exact brokerNil_lifted os started H enc F)

theorem brokerNil_plain (f : FuncId) (fn : Func) (hf : Tryz.pinned.checked.prog.funcNamed "arbour/arbourlaw19.BrokerNil" = some f) (hfn : Tryz.pinned.checked.prog.funcs[f]? = some fn) :
    false = Tryz.pinned.checked.prog.looks [] ∧ ∀ (j : Nat) t, fn.params[j]? = some t → Tryz.pinned.checked.prog.wantsStandIn t = false := by
  obtain rfl : f = 4 := Option.some.inj ((show Tryz.prog.funcNamed "arbour/arbourlaw19.BrokerNil" = some 4 by kernel_rfl).symm.trans hf) |>.symm
  obtain rfl : fn = Tryz.f4 := (Option.some.inj (Tryz.func4.symm.trans hfn)).symm
  refine ⟨by kernel_rfl, fun j t ht => ?_⟩
  rw [Tryz.params4] at ht
  obtain rfl : t = 52 := by simpa using Array.mem_of_getElem? ht
  exact (show Tryz.prog.wantsStandIn 52 = false by kernel_rfl)

theorem brokerNil_card : Rows.BrokerNilCardSaid :=
  Claim7.holds_tied_plain_at .later [] _ _ _ _ brokerNil_said (fun _ h => by cases h) (by kernel_rfl) (fun _ h => by cases h) brokerNil_row_tie rfl ⟨rfl, rfl⟩ (by kernel_rfl) rfl brokerNil_plain (by kernel_rfl)
#print axioms brokerNil_card
end Go.Proofs.YtbaongomialaoaaGreatDoor
