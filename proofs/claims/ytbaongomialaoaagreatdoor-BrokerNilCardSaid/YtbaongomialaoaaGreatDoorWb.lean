/- Walks, second part. -/
import Derived.Test.YtbaongomialaoaaGreatDoorWa
import Derived.KernelRfl
section
set_option linter.unusedSimpArgs false
set_option linter.unusedVariables false
namespace Go.Arb
open Go Go.Proofs

theorem few15_spec (G N) (f : MFrame) (σ : Store) : acalls ⟨Tryz.prog, N, G⟩ 18 [.agg (encFrame f)] σ (fun d σ' => d = .b (few15 f) ∧ σ' = σ) := by
  refine acalls_enterL Tryz.func18 rfl Tryz.ntmps18 (by decide) (by simp) ?_
  refine awp_seq ?_
  refine awp_region (awpL_go [] fun K hK => ?_)
  simp [encFrame, encDelta, encPub, encEvent, encValue]
  refine hK _ _ (awpL_nil ?_)
  clear hK
  simp only [Then, InBlock]
  refine awp_seq ?_
  refine awp_region (awpL_go [] fun K hK => ?_)
  simp
  refine hK _ _ ?_
  clear hK
  refine awpL_callS rfl rfl rfl (by simp) (by simp) (few14_spec G N f.d.adds σ) ?_
  rintro _ _ ⟨rfl, hst⟩
  rw [hst]
  refine awpL_go [] fun K hK => ?_
  simp [encInts]
  refine ⟨by rcases h : few14 f.d.adds with _ | _ <;> simp; omega, ?_⟩
  refine hK _ _ (awpL_nil ?_)
  clear hK
  simp only [Then, InBlock]
  refine awp_ret ?_
  have hcast : ((List.length f.d.removes : Int) ≤ 40) ↔ (List.length f.d.removes ≤ 40) := by omega
  simp [Body, few15, hcast]
end Go.Arb
end

section
set_option linter.unusedSimpArgs false
set_option linter.unusedVariables false
namespace Go.Arb
open Go Go.Proofs

theorem home_nil (G N) (c : Int) (σ : Store) : acalls ⟨Tryz.prog, N, G⟩ 29 [.nilp, .i .i64 c] σ (fun d σ' => d = .tup [.nilp, .i .i64 7] ∧ σ' = σ) := by
  refine acalls_enterL Tryz.func29 rfl Tryz.ntmps29 (by decide) (by simp) ?_
  refine awp_seq ?_
  refine awp_region (awpL_go [] fun K hK => ?_)
  simp
  refine hK _ _ (awpL_nil ?_)
  clear hK
  simp only [Then, InBlock]
  refine awp_seq ?_
  refine awp_seq ?_
  refine awp_region (awpL_go [] fun K hK => ?_)
  simp
  refine hK _ _ (awpL_nil ?_)
  clear hK
  simp only [Then, InBlock]
  refine awp_cond rfl (fun hc => ?_) (fun hc => ?_)
  · refine awp_seq ?_
    refine awp_region (awpL_go [] fun K hK => ?_)
    simp
    refine hK _ _ (awpL_nil ?_)
    clear hK
    simp only [Then, InBlock]
    refine awp_ret ?_
    simp [Body]
  · simp at hc

theorem rejected_nil (G N) (σ : Store) : acalls ⟨Tryz.prog, N, G⟩ 21 [.nilp] σ (fun d σ' => d = .i .i64 0 ∧ σ' = σ) := by
  refine acalls_enterL Tryz.func21 rfl Tryz.ntmps21 (by decide) (by simp) ?_
  refine awp_seq ?_
  refine awp_region (awpL_go [] fun K hK => ?_)
  simp
  refine hK _ _ (awpL_nil ?_)
  clear hK
  simp only [Then, InBlock]
  refine awp_seq ?_
  refine awp_seq ?_
  refine awp_region (awpL_go [] fun K hK => ?_)
  simp
  refine hK _ _ (awpL_nil ?_)
  clear hK
  simp only [Then, InBlock]
  refine awp_cond rfl (fun hc => ?_) (fun hc => ?_)
  · refine awp_seq ?_
    refine awp_region (awpL_go [] fun K hK => ?_)
    simp
    refine hK _ _ (awpL_nil ?_)
    clear hK
    simp only [Then, InBlock]
    refine awp_ret ?_
    simp [Body]
  · simp at hc
end Go.Arb
end

section
set_option linter.unusedSimpArgs false
set_option linter.unusedVariables false
namespace Go.Arb
open Go Go.Proofs

theorem table_nil (G N) (c : Int) (σ : Store) : acalls ⟨Tryz.prog, N, G⟩ 16 [.nilp, .i .i64 c] σ (fun d σ' => d = .nilsl ∧ σ' = σ) := by
  refine acalls_enterL Tryz.func16 rfl Tryz.ntmps16 (by decide) (by simp) ?_
  refine awp_seq ?_
  refine awp_region (awpL_go [] fun K hK => ?_)
  simp
  refine hK _ _ (awpL_nil ?_)
  clear hK
  simp only [Then, InBlock]
  refine awp_seq ?_
  refine awp_seq ?_
  refine awp_region (awpL_go [] fun K hK => ?_)
  simp
  refine hK _ _ (awpL_nil ?_)
  clear hK
  simp only [Then, InBlock]
  refine awp_cond rfl (fun hc => ?_) (fun hc => ?_)
  · skip
    refine awp_seq ?_
    refine awp_region (awpL_go [] fun K hK => ?_)
    simp
    refine hK _ _ (awpL_nil ?_)
    clear hK
    simp only [Then, InBlock]
    refine awp_ret ?_
    simp [Body]
  · simp at hc

theorem told_nil (G N) (c : Int) (σ : Store) : acalls ⟨Tryz.prog, N, G⟩ 20 [.nilp, .i .i64 c] σ (fun d σ' => d = .nilsl ∧ σ' = σ) := by
  refine acalls_enterL Tryz.func20 rfl Tryz.ntmps20 (by decide) (by simp) ?_
  refine awp_seq ?_
  refine awp_region (awpL_go [] fun K hK => ?_)
  simp
  refine hK _ _ (awpL_nil ?_)
  clear hK
  simp only [Then, InBlock]
  refine awp_seq ?_
  refine awp_seq ?_
  refine awp_region (awpL_go [] fun K hK => ?_)
  simp
  refine hK _ _ (awpL_nil ?_)
  clear hK
  simp only [Then, InBlock]
  refine awp_cond rfl (fun hc => ?_) (fun hc => ?_)
  · skip
    refine awp_seq ?_
    refine awp_region (awpL_go [] fun K hK => ?_)
    simp
    refine hK _ _ (awpL_nil ?_)
    clear hK
    simp only [Then, InBlock]
    refine awp_ret ?_
    simp [Body]
  · simp at hc

theorem subscribe_nil (G N) (c : Int) (x : MExpr) (σ : Store) : acalls ⟨Tryz.prog, N, G⟩ 8 [.nilp, .i .i64 c, .agg (encExpr x)] σ (fun d σ' => d = .tup [.i .i64 0, .nilsl, .i .i64 7] ∧ σ' = σ) := by
  refine acalls_enterL Tryz.func8 rfl Tryz.ntmps8 (by decide) (by simp) ?_
  refine awp_seq ?_
  refine awp_region (awpL_go [] fun K hK => ?_)
  simp
  refine hK _ _ (awpL_nil ?_)
  clear hK
  simp only [Then, InBlock]
  refine awp_seq ?_
  refine awp_region (awpL_go [] fun K hK => ?_)
  simp
  -- CALL F<(*broker.Broker).home>
  refine hK _ _ (awpL_callS rfl rfl rfl (by simp) (by simp) (home_nil G N c σ) ?_)
  clear hK
  rintro _ _ ⟨rfl, hst⟩
  rw [hst]
  refine awpL_go [] fun K hK => ?_
  simp
  refine hK _ _ (awpL_nil ?_)
  clear hK
  simp only [Then, InBlock]
  refine awp_seq ?_
  refine awp_seq ?_
  refine awp_region (awpL_go [] fun K hK => ?_)
  simp
  refine hK _ _ (awpL_nil ?_)
  clear hK
  simp only [Then, InBlock]
  refine awp_cond rfl (fun hc => ?_) (fun hc => ?_)
  · skip
    refine awp_seq ?_
    refine awp_region (awpL_go [] fun K hK => ?_)
    simp
    refine hK _ _ (awpL_nil ?_)
    clear hK
    simp only [Then, InBlock]
    refine awp_ret ?_
    simp [Body]
  · simp at hc

theorem unsubscribe_nil (G N) (c s : Int) (σ : Store) : acalls ⟨Tryz.prog, N, G⟩ 9 [.nilp, .i .i64 c, .i .i64 s] σ (fun d σ' => d = .tup [.nilsl, .i .i64 7] ∧ σ' = σ) := by
  refine acalls_enterL Tryz.func9 rfl Tryz.ntmps9 (by decide) (by simp) ?_
  refine awp_seq ?_
  refine awp_region (awpL_go [] fun K hK => ?_)
  simp
  refine hK _ _ (awpL_nil ?_)
  clear hK
  simp only [Then, InBlock]
  refine awp_seq ?_
  refine awp_region (awpL_go [] fun K hK => ?_)
  simp
  -- CALL F<(*broker.Broker).home>
  refine hK _ _ (awpL_callS rfl rfl rfl (by simp) (by simp) (home_nil G N c σ) ?_)
  clear hK
  rintro _ _ ⟨rfl, hst⟩
  rw [hst]
  refine awpL_go [] fun K hK => ?_
  simp
  refine hK _ _ (awpL_nil ?_)
  clear hK
  simp only [Then, InBlock]
  refine awp_seq ?_
  refine awp_seq ?_
  refine awp_region (awpL_go [] fun K hK => ?_)
  simp
  refine hK _ _ (awpL_nil ?_)
  clear hK
  simp only [Then, InBlock]
  refine awp_cond rfl (fun hc => ?_) (fun hc => ?_)
  · skip
    refine awp_seq ?_
    refine awp_region (awpL_go [] fun K hK => ?_)
    simp
    refine hK _ _ (awpL_nil ?_)
    clear hK
    simp only [Then, InBlock]
    refine awp_ret ?_
    simp [Body]
  · simp at hc

theorem publish_nil (G N) (p : MPub) (σ : Store) : acalls ⟨Tryz.prog, N, G⟩ 19 [.nilp, .agg (encPub p)] σ (fun d σ' => d = .tup [.nilsl, .nilsl, .i .i64 7] ∧ σ' = σ) := by
  refine acalls_enterL Tryz.func19 rfl Tryz.ntmps19 (by decide) (by simp) ?_
  refine awp_seq ?_
  refine awp_region (awpL_go [] fun K hK => ?_)
  simp [encPub]
  refine hK _ _ (awpL_nil ?_)
  clear hK
  simp only [Then, InBlock]
  refine awp_seq ?_
  refine awp_seq ?_
  refine awp_region (awpL_go [] fun K hK => ?_)
  simp [encPub]
  -- CALL F<(*broker.Broker).home>
  refine hK _ _ (awpL_callS rfl rfl rfl (by simp) (by simp) (home_nil G N p.client σ) ?_)
  clear hK
  rintro _ _ ⟨rfl, hst⟩
  rw [hst]
  refine awpL_go [] fun K hK => ?_
  simp [encPub]
  refine hK _ _ (awpL_nil ?_)
  clear hK
  simp only [Then, InBlock]
  refine awp_seq ?_
  refine awp_region (awpL_go [] fun K hK => ?_)
  simp [encPub]
  refine hK _ _ (awpL_nil ?_)
  clear hK
  simp only [Then, InBlock]
  refine awp_cond rfl (fun hc => ?_) (fun hc => ?_)
  · skip
    refine awp_seq ?_
    refine awp_region (awpL_go [] fun K hK => ?_)
    simp [encPub]
    refine hK _ _ (awpL_nil ?_)
    clear hK
    simp only [Then, InBlock]
    refine awp_ret ?_
    simp [Body]
  · simp at hc

theorem take_nil (G N) (c : Int) (f : MFrame) (σ : Store) : acalls ⟨Tryz.prog, N, G⟩ 10 [.nilp, .i .i64 c, .agg (encFrame f)] σ (fun d σ' => d = .tup [.nilsl, .nilsl, .i .i64 7] ∧ σ' = σ) := by
  refine acalls_enterL Tryz.func10 rfl Tryz.ntmps10 (by decide) (by simp) ?_
  refine awp_seq ?_
  refine awp_region (awpL_go [] fun K hK => ?_)
  simp
  refine hK _ _ (awpL_nil ?_)
  clear hK
  simp only [Then, InBlock]
  refine awp_seq ?_
  refine awp_seq ?_
  refine awp_region (awpL_go [] fun K hK => ?_)
  simp
  refine hK _ _ (awpL_nil ?_)
  clear hK
  simp only [Then, InBlock]
  refine awp_cond rfl (fun hc => ?_) (fun hc => ?_)
  · skip
    refine awp_seq ?_
    refine awp_region (awpL_go [] fun K hK => ?_)
    simp
    refine hK _ _ (awpL_nil ?_)
    clear hK
    simp only [Then, InBlock]
    refine awp_ret ?_
    simp [Body]
  · simp at hc

end Go.Arb
end

section
set_option linter.unusedSimpArgs false
set_option linter.unusedVariables false
namespace Go.Arb
open Go Go.Proofs

theorem sactive_nil (G N)  (σ : Store) : acalls ⟨Tryz.prog, N, G⟩ 39 [.nilp] σ (fun d σ' => d = .nilsl ∧ σ' = σ) := by
  refine acalls_enterL Tryz.func39 rfl Tryz.ntmps39 (by decide) (by simp) ?_
  refine awp_seq ?_
  refine awp_region (awpL_go [] fun K hK => ?_)
  simp
  refine hK _ _ (awpL_nil ?_)
  clear hK
  simp only [Then, InBlock]
  refine awp_seq ?_
  refine awp_seq ?_
  refine awp_region (awpL_go [] fun K hK => ?_)
  simp
  refine hK _ _ (awpL_nil ?_)
  clear hK
  simp only [Then, InBlock]
  refine awp_cond rfl (fun hc => ?_) (fun hc => ?_)
  · skip
    refine awp_seq ?_
    refine awp_region (awpL_go [] fun K hK => ?_)
    simp
    refine hK _ _ (awpL_nil ?_)
    clear hK
    simp only [Then, InBlock]
    refine awp_ret ?_
    simp [Body]
  · simp at hc

theorem sgot_nil (G N)  (σ : Store) : acalls ⟨Tryz.prog, N, G⟩ 41 [.nilp] σ (fun d σ' => d = .nilsl ∧ σ' = σ) := by
  refine acalls_enterL Tryz.func41 rfl Tryz.ntmps41 (by decide) (by simp) ?_
  refine awp_seq ?_
  refine awp_region (awpL_go [] fun K hK => ?_)
  simp
  refine hK _ _ (awpL_nil ?_)
  clear hK
  simp only [Then, InBlock]
  refine awp_seq ?_
  refine awp_seq ?_
  refine awp_region (awpL_go [] fun K hK => ?_)
  simp
  refine hK _ _ (awpL_nil ?_)
  clear hK
  simp only [Then, InBlock]
  refine awp_cond rfl (fun hc => ?_) (fun hc => ?_)
  · skip
    refine awp_seq ?_
    refine awp_region (awpL_go [] fun K hK => ?_)
    simp
    refine hK _ _ (awpL_nil ?_)
    clear hK
    simp only [Then, InBlock]
    refine awp_ret ?_
    simp [Body]
  · simp at hc

theorem active_nil (G N) (c : Int) (σ : Store) : acalls ⟨Tryz.prog, N, G⟩ 11 [.nilp, .i .i64 c] σ (fun d σ' => d = .nilsl ∧ σ' = σ) := by
  refine acalls_enterL Tryz.func11 rfl Tryz.ntmps11 (by decide) (by simp) ?_
  refine awp_seq ?_
  refine awp_region (awpL_go [] fun K hK => ?_)
  simp
  refine hK _ _ (awpL_nil ?_)
  clear hK
  simp only [Then, InBlock]
  refine awp_seq ?_
  refine awp_region (awpL_go [] fun K hK => ?_)
  simp
  -- CALL F<(*broker.Broker).home>
  refine hK _ _ (awpL_callS rfl rfl rfl (by simp) (by simp) (home_nil G N c σ) ?_)
  clear hK
  rintro _ _ ⟨rfl, hst⟩
  rw [hst]
  refine awpL_go [] fun K hK => ?_
  simp
  refine hK _ _ (awpL_nil ?_)
  clear hK
  simp only [Then, InBlock]
  refine awp_seq ?_
  refine awp_region (awpL_go [] fun K hK => ?_)
  simp
  -- CALL F<(*session.Session).Active>
  refine hK _ _ (awpL_callS rfl rfl rfl (by simp) (by simp) (sactive_nil G N σ) ?_)
  clear hK
  rintro _ _ ⟨rfl, hst⟩
  rw [hst]
  refine awpL_go [] fun K hK => ?_
  simp
  refine hK _ _ (awpL_nil ?_)
  clear hK
  simp only [Then, InBlock]
  refine awp_ret ?_
  simp [Body]

theorem got_nil (G N) (c : Int) (σ : Store) : acalls ⟨Tryz.prog, N, G⟩ 13 [.nilp, .i .i64 c] σ (fun d σ' => d = .nilsl ∧ σ' = σ) := by
  refine acalls_enterL Tryz.func13 rfl Tryz.ntmps13 (by decide) (by simp) ?_
  refine awp_seq ?_
  refine awp_region (awpL_go [] fun K hK => ?_)
  simp
  refine hK _ _ (awpL_nil ?_)
  clear hK
  simp only [Then, InBlock]
  refine awp_seq ?_
  refine awp_region (awpL_go [] fun K hK => ?_)
  simp
  -- CALL F<(*broker.Broker).home>
  refine hK _ _ (awpL_callS rfl rfl rfl (by simp) (by simp) (home_nil G N c σ) ?_)
  clear hK
  rintro _ _ ⟨rfl, hst⟩
  rw [hst]
  refine awpL_go [] fun K hK => ?_
  simp
  refine hK _ _ (awpL_nil ?_)
  clear hK
  simp only [Then, InBlock]
  refine awp_seq ?_
  refine awp_region (awpL_go [] fun K hK => ?_)
  simp
  -- CALL F<(*session.Session).Got>
  refine hK _ _ (awpL_callS rfl rfl rfl (by simp) (by simp) (sgot_nil G N σ) ?_)
  clear hK
  rintro _ _ ⟨rfl, hst⟩
  rw [hst]
  refine awpL_go [] fun K hK => ?_
  simp
  refine hK _ _ (awpL_nil ?_)
  clear hK
  simp only [Then, InBlock]
  refine awp_ret ?_
  simp [Body]

end Go.Arb
end

section
set_option linter.unusedSimpArgs false
set_option linter.unusedVariables false
set_option maxRecDepth 10000
namespace Go.Arb
open Go Go.Proofs

structure MOp19 where
  kind : Int
  client : Int
  sub : Int
  from' : Int
  x : MExpr
  e : MEvent
  f : MFrame
def encOp19 (o : MOp19) : List DV := [.i .i64 o.kind, .i .i64 o.client, .i .i64 o.sub, .i .i64 o.from'] ++ encExpr o.x ++ encEvent o.e ++ encFrame o.f

theorem encOp19_x (o : MOp19) : List.take 7 (List.drop 4 (encOp19 o)) = encExpr o.x := by
  unfold encOp19
  have := encExpr_length o.x
  simp [List.drop_append, List.take_append, this]

theorem encOp19_length (o : MOp19) : (encOp19 o).length = 40 := by
  unfold encOp19
  have := encExpr_length o.x
  simp [this, encEvent, encValue, encFrame, encDelta, encPub]

theorem encOp19_f (o : MOp19) : List.take 17 (List.drop 23 (encOp19 o)) = encFrame o.f := by
  unfold encOp19
  have h1 := encExpr_length o.x
  have h2 : (encEvent o.e).length = 12 := by simp [encEvent, encValue]
  have h3 : (encFrame o.f).length = 17 := by simp [encFrame, encDelta, encPub, encEvent, encValue]
  simp [List.drop_append, List.take_append, h1, h2, h3]
  rw [List.drop_of_length_le (by omega)]
  simp
  rw [List.take_of_length_le (by omega)]

theorem encOp19_e (o : MOp19) : List.take 12 (List.drop 11 (encOp19 o)) = encEvent o.e := by
  unfold encOp19
  have h1 := encExpr_length o.x
  have h2 : (encEvent o.e).length = 12 := by simp [encEvent, encValue]
  simp [List.drop_append, List.take_append, h1, h2]
theorem encOp19_0 (o : MOp19) (h : 0 < (encOp19 o).length) : (encOp19 o)[0]'h = .i .i64 o.kind := rfl
theorem encOp19_1 (o : MOp19) (h : 1 < (encOp19 o).length) : (encOp19 o)[1]'h = .i .i64 o.client := rfl
theorem encOp19_2 (o : MOp19) (h : 2 < (encOp19 o).length) : (encOp19 o)[2]'h = .i .i64 o.sub := rfl
theorem encOp19_3 (o : MOp19) (h : 3 < (encOp19 o).length) : (encOp19 o)[3]'h = .i .i64 o.from' := rfl

theorem brokerNil_head (G N) (haw : ∀ σ, acalls ⟨Tryz.prog, N, G⟩ 5 [] σ (fun d σ' => d = .b true ∧ σ' = σ)) (o : MOp19) (σ : Store) : acalls ⟨Tryz.prog, N, G⟩ 4 [.agg (encOp19 o)] σ (fun d σ' => d = .b true ∧ σ' = σ) := by
  refine acalls_enterL Tryz.func4 rfl Tryz.ntmps4 (by decide) (by simp) ?_
  refine awp_seq ?_
  refine awp_region (awpL_go [] fun K hK => ?_)
  simp
  refine hK _ _ (awpL_nil ?_)
  clear hK
  simp only [Then, InBlock]
  refine awp_seq ?_
  refine awp_seq ?_
  refine awp_region (awpL_go [] fun K hK => ?_)
  simp
  refine hK _ _ ?_
  clear hK
  refine awpL_callS rfl rfl rfl (by simp) (by simp) (haw σ) ?_
  rintro _ _ ⟨rfl, hst⟩
  rw [hst]
  refine awpL_go [20] fun K hK => ?_
  simp [encOp19_length, encOp19_x]
  refine hK _ _ ?_
  clear hK
  refine awpL_callG (v := .b (few05 o.x)) rfl rfl rfl rfl (by simp) (by simp) (fun _ => few05_spec G N o.x σ) ?_
  refine awpL_go [26] fun K hK => ?_
  simp [encOp19_length, encOp19_f]
  refine hK _ _ ?_
  clear hK
  refine awpL_callG (v := .b (few15 o.f)) rfl rfl rfl rfl (by simp) (by simp) (fun _ => few15_spec G N o.f σ) ?_
  refine awpL_go [] fun K hK => ?_
  simp
  refine hK _ _ (awpL_nil ?_)
  clear hK
  simp only [Then, InBlock]
  refine awp_cond rfl (fun hc => ?_) (fun hc => ?_)
  · refine awp_seq ?_
    refine awp_region (awpL_go [] fun K hK => ?_)
    simp
    refine hK _ _ ?_
    clear hK
    refine awpL_callS rfl rfl rfl (by simp) (by simp) (haw σ) ?_
    rintro _ _ ⟨rfl, hst⟩
    rw [hst]
    refine awpL_go [] fun K hK => ?_
    simp
    refine hK _ _ (awpL_nil ?_)
    clear hK
    simp only [Then, InBlock]
    refine awp_ret ?_
    simp [Body]
  · skip
    refine awp_skip ?_
    simp only [Then, InBlock]
    refine awp_seq ?_
    refine awp_region (awpL_go [] fun K hK => ?_)
    simp [encOp19_length, encOp19_x, encOp19_f, encOp19_e, encOp19_0, encOp19_1, encOp19_2, encOp19_3]
    refine hK _ _ (awpL_nil ?_)
    clear hK
    simp only [Then, InBlock]
    refine awp_seq ?_
    refine awp_region (awpL_go [] fun K hK => ?_)
    simp [encOp19_length, encOp19_x, encOp19_f, encOp19_e, encOp19_0, encOp19_1, encOp19_2, encOp19_3]
    -- CALL F<(*broker.Broker).Subscribe>
    refine hK _ _ ?_
    clear hK
    refine awpL_callS rfl rfl rfl (by simp) (by simp) (subscribe_nil G N o.client o.x σ) ?_
    rintro _ _ ⟨rfl, hst⟩
    rw [hst]
    refine awpL_go [] fun K hK => ?_
    simp [encOp19_length, encOp19_x, encOp19_f, encOp19_e, encOp19_0, encOp19_1, encOp19_2, encOp19_3]
    refine hK _ _ (awpL_nil ?_)
    clear hK
    simp only [Then, InBlock]
    refine awp_seq ?_
    refine awp_region (awpL_go [] fun K hK => ?_)
    simp [encOp19_length, encOp19_x, encOp19_f, encOp19_e, encOp19_0, encOp19_1, encOp19_2, encOp19_3]
    -- CALL F<(*broker.Broker).Unsubscribe>
    refine hK _ _ ?_
    clear hK
    refine awpL_callS rfl rfl rfl (by simp) (by simp) (unsubscribe_nil G N o.client o.sub σ) ?_
    rintro _ _ ⟨rfl, hst⟩
    rw [hst]
    refine awpL_go [] fun K hK => ?_
    simp [encOp19_length, encOp19_x, encOp19_f, encOp19_e, encOp19_0, encOp19_1, encOp19_2, encOp19_3]
    refine hK _ _ (awpL_nil ?_)
    clear hK
    simp only [Then, InBlock]
    refine awp_seq ?_
    refine awp_region (awpL_go [] fun K hK => ?_)
    simp [encOp19_length, encOp19_x, encOp19_f, encOp19_e, encOp19_0, encOp19_1, encOp19_2, encOp19_3, fillD, setAt, encEvent, encValue, encPub]
    -- CALL F<(*broker.Broker).Publish>
    refine hK _ _ ?_
    clear hK
    refine awpL_callS rfl rfl rfl (by simp) (by simp [encPub, encEvent, encValue]) (publish_nil G N ⟨0, o.client, o.e⟩ σ) ?_
    rintro _ _ ⟨rfl, hst⟩
    rw [hst]
    refine awpL_go [] fun K hK => ?_
    simp [encOp19_length, encOp19_x, encOp19_f, encOp19_e, encOp19_0, encOp19_1, encOp19_2, encOp19_3, fillD, setAt, encEvent, encValue, encPub]
    refine hK _ _ (awpL_nil ?_)
    clear hK
    simp only [Then, InBlock]
    refine awp_seq ?_
    refine awp_region (awpL_go [] fun K hK => ?_)
    simp [encOp19_length, encOp19_x, encOp19_f, encOp19_e, encOp19_0, encOp19_1, encOp19_2, encOp19_3]
    -- CALL F<(*broker.Broker).Take>
    refine hK _ _ ?_
    clear hK
    refine awpL_callS rfl rfl rfl (by simp) (by simp) (take_nil G N o.from' o.f σ) ?_
    rintro _ _ ⟨rfl, hst⟩
    rw [hst]
    refine awpL_go [] fun K hK => ?_
    simp [encOp19_length, encOp19_x, encOp19_f, encOp19_e, encOp19_0, encOp19_1, encOp19_2, encOp19_3]
    refine hK _ _ (awpL_nil ?_)
    clear hK
    simp only [Then, InBlock]
    refine awp_seq ?_
    refine awp_region (awpL_go [] fun K hK => ?_)
    simp [encOp19_length, encOp19_x, encOp19_f, encOp19_e, encOp19_0, encOp19_1, encOp19_2, encOp19_3]
    -- CALL F<(*broker.Broker).Table>
    refine hK _ _ ?_
    clear hK
    refine awpL_callS rfl rfl rfl (by simp) (by simp) (table_nil G N o.from' σ) ?_
    rintro _ _ ⟨rfl, hst⟩
    rw [hst]
    refine awpL_go [] fun K hK => ?_
    simp [encOp19_length, encOp19_x, encOp19_f, encOp19_e, encOp19_0, encOp19_1, encOp19_2, encOp19_3]
    -- CALL F<(*broker.Broker).Told>
    refine hK _ _ ?_
    clear hK
    refine awpL_callS rfl rfl rfl (by simp) (by simp) (told_nil G N o.from' σ) ?_
    rintro _ _ ⟨rfl, hst⟩
    rw [hst]
    refine awpL_go [] fun K hK => ?_
    simp [encOp19_length, encOp19_x, encOp19_f, encOp19_e, encOp19_0, encOp19_1, encOp19_2, encOp19_3]
    -- CALL F<(*broker.Broker).Active>
    refine hK _ _ ?_
    clear hK
    refine awpL_callS rfl rfl rfl (by simp) (by simp) (active_nil G N o.client σ) ?_
    rintro _ _ ⟨rfl, hst⟩
    rw [hst]
    refine awpL_go [] fun K hK => ?_
    simp [encOp19_length, encOp19_x, encOp19_f, encOp19_e, encOp19_0, encOp19_1, encOp19_2, encOp19_3]
    -- CALL F<(*broker.Broker).Got>
    refine hK _ _ ?_
    clear hK
    refine awpL_callS rfl rfl rfl (by simp) (by simp) (got_nil G N o.client σ) ?_
    rintro _ _ ⟨rfl, hst⟩
    rw [hst]
    refine awpL_go [] fun K hK => ?_
    simp [encOp19_length, encOp19_x, encOp19_f, encOp19_e, encOp19_0, encOp19_1, encOp19_2, encOp19_3]
    -- CALL F<(*broker.Broker).Rejected>
    refine hK _ _ ?_
    clear hK
    refine awpL_callS rfl rfl rfl (by simp) (by simp) (rejected_nil G N σ) ?_
    rintro _ _ ⟨rfl, hst⟩
    rw [hst]
    refine awpL_go [] fun K hK => ?_
    simp [encOp19_length, encOp19_x, encOp19_f, encOp19_e, encOp19_0, encOp19_1, encOp19_2, encOp19_3]
    refine hK _ _ (awpL_nil ?_)
    clear hK
    simp only [Then, InBlock]
    refine awp_ret ?_
    simp [Body]
end Go.Arb
end
