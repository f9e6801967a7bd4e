/- Contracts: each Go function computes what its mirror says. -/
import Derived.Test.YtcppaphbpkfgjaaDoorA7
import Derived.Test.YtcppaphbpkfgjaaDoorA5
namespace Go.VS
open Go Go.VS Go.Proofs.Tryd
set_option maxRecDepth 100000
set_option maxHeartbeats 2000000
set_option linter.unusedVariables false
set_option linter.unusedSimpArgs false

def k35 : Nat → List Nat
  | 0 => [1, 0]
  | 1 => [5, 1, 0]
  | 2 => [6, 5, 1, 0]
  | 3 => [7, 6, 5, 1, 0]
  | 4 => [13, 7, 6, 5, 1, 0]
  | 5 => [7, 6, 5, 1, 0]
  | 6 => [8, 7, 6, 5, 1, 0]
  | 7 => [19, 8, 7, 6, 5, 1, 0]
  | 8 => [8, 7, 6, 5, 1, 0]
  | 9 => [28, 8, 7, 6, 5, 1, 0]
  | 10 => [7, 5, 1, 0]
  | 11 => [7, 6, 5, 1, 0]
  | 12 => [4]
  | _ => []
def l35 : Nat → List Nat
  | 0 => [7, 6, 5, 1, 0]
  | 2 => [8, 7, 6, 5, 1, 0]
  | _ => []
attribute [go_sem] k35 l35
noncomputable def F35 (F : Nat) : FS := FS.of [⟨false, []⟩, ⟨false, []⟩] (fun (p : {p : (List UInt8) × (List UInt8) × (List (List UInt8)) // spec_SplitAny F p.1 p.2.1 = some p.2.2}) => [.one (.d (.str (B p.1.1))), .one (.d (.str (B p.1.2.1)))]) (fun p r o => r = .one (.own (.loc 0 .nil) 9 (List.map rS p.1.2.2)))
@[go_sem] theorem F35_rw (F : Nat) : (F35 F).rw = [⟨false, []⟩, ⟨false, []⟩] := rfl
theorem F35_post {F : Nat} {a0 : List UInt8} {a1 : List UInt8} {r : List (List UInt8)} (h : spec_SplitAny F a0 a1 = some r) : (F35 F).post [.one (.d (.str (B a0))), .one (.d (.str (B a1)))] = some (fun r' o => r' = .one (.own (.loc 0 .nil) 9 (List.map rS r))) :=
  FS.of_post (by rintro ⟨⟨a0, a1, r⟩, h⟩ ⟨⟨b0, b1, s⟩, g⟩ e; have e1 : (a0, a1) = (b0, b1) := (by simp [rI_inj, ru8_inj, rS_inj, rB_inj, B_inj, rGEntry_inj, rGNode_inj, rGTie_inj, rGShow_inj, rGState_inj] at e; simp [e]); cases e1; obtain rfl := Option.some.inj ((h).symm.trans g); rfl) (⟨(a0, a1, r), h⟩ : {p : (List UInt8) × (List UInt8) × (List (List UInt8)) // spec_SplitAny F p.1 p.2.1 = some p.2.2})
noncomputable def S35 (F : Nat) : Sys := ⟨cx, lookX [], 44, k35, l35⟩
@[go_sem] theorem S35_C (F : Nat) : (S35 F).C = cx := rfl
@[go_sem] theorem S35_X (F : Nat) : (S35 F).X = lookX [] := rfl
@[go_sem] theorem S35_n (F : Nat) : (S35 F).n = 44 := rfl
@[go_sem] theorem S35_keep (F : Nat) : (S35 F).keep = k35 := rfl
@[go_sem] theorem S35_loopKeep (F : Nat) : (S35 F).loopKeep = l35 := rfl
theorem ok35 (F : Nat) : OkF cx 35 (F35 F) := by
  refine OkF.of (Enters.of func35 rfl (by decide)) ?_
  rintro ⟨⟨a0, a1, r⟩, h⟩
  dsimp only at h
  refine Okp.canon [.own 9] ?_
  refine fun_v (S := S35 F) (GoodT.good GoodT.nil rfl) func35 rfl rfl (by simp [f35]) (by kernel_rfl) false ?_
  dsimp only [f35, List.map, AV.opn, vFun, slim, slimOps, slimOp, gs_zero, gs_succ, creators, creator, creates, Option.map, Option.bind, entry, entryFrom, List.append, List.length, List.cons_append, List.nil_append, Nat.reduceAdd]
  rw [spec_SplitAny] at h
  refine vSC_mid none [(1, .one (.d (.str (B a1)))), (0, .one (.d (.str (B a0))))] (fun K hK => ?_) ?_
  · skip
    simp (decide := true) only [go_sem]
    intros
    refine hK _ ?_ ?_ <;> simp (decide := true) only [go_sem, replicate_map']
  refine vSC_mid (some ([], [(5, 1250, [.keep])])) [(5, .one (.own (.loc 1250 .nil) 9 (List.map rS ([] : List (List UInt8))))), (1, .one (.d (.str (B a1)))), (0, .one (.d (.str (B a0))))] (fun K hK => ?_) ?_
  · skip
    simp (decide := true) only [go_sem]
    intros
    refine hK _ ?_ ?_ <;> simp (decide := true) only [go_sem, replicate_map']
  refine vSC_mid none [(6, .one (.d (.int .i64 0))), (5, .one (.own (.loc 1250 .nil) 9 (List.map rS ([] : List (List UInt8))))), (1, .one (.d (.str (B a1)))), (0, .one (.d (.str (B a0))))] (fun K hK => ?_) ?_
  · skip
    simp (decide := true) only [go_sem]
    intros
    refine hK _ ?_ ?_ <;> simp (decide := true) only [go_sem, replicate_map']
  refine vSC_mid none [(7, .one (.d (.int .i64 0))), (6, .one (.d (.int .i64 0))), (5, .one (.own (.loc 1250 .nil) 9 (List.map rS ([] : List (List UInt8))))), (1, .one (.d (.str (B a1)))), (0, .one (.d (.str (B a0))))] (fun K hK => ?_) ?_
  · skip
    simp (decide := true) only [go_sem]
    intros
    refine hK _ ?_ ?_ <;> simp (decide := true) only [go_sem, replicate_map']
  obtain ⟨k1, hk1, h⟩ := letJ_some h
  refine vSC_blockJ [6, 5, 0] (fun σ => ∃ (v1 : Int) (v2 : List (List UInt8)), σ = [(6, .one (.d (.int .i64 v1))), (5, .one (.own (.loc 1250 .nil) 9 (List.map rS v2))), (0, .one (.d (.str (B a0))))] ∧ k1 v1 v2 = some r) ?_ (fun K1 hN1 hB1 hE1 hR1 => ?_)
  · rintro σ ⟨v1, v2, rfl, h⟩
    rw [hk1] at h
    obtain ⟨g3, h⟩ := guardO_some h
    obtain ⟨g4, h⟩ := guardO_some h
    refine vSC_mid (some ([], [(4, 1200, [.keep])])) [(4, .one (.own (.loc 1200 .nil) 9 (List.map rS (v2 ++ [(a0.drop v1.toNat)]))))] (fun K hK => ?_) ?_
    · skip
      simp (decide := true) only [go_sem, g3, g4]
      intros
      refine hK _ ?_ ?_ <;> simp (decide := true) only [go_sem, replicate_map', g3, g4]
    refine vSC_ret (wEnd_can ?_)
    obtain rfl := Option.some.inj h
    simp (decide := true) only [go_sem, replicate_map']
  refine vSC_loop [] (fun n_ σ => ∃ (u5 : Int) (u6 : Int) (u7 : List (List UInt8)), σ = [(7, .one (.d (.int .i64 u5))), (6, .one (.d (.int .i64 u6))), (5, .one (.own (.loc 1250 .nil) 9 (List.map rS u7))), (1, .one (.d (.str (B a1)))), (0, .one (.d (.str (B a0))))] ∧ spec_SplitAny_L1 F a0 a1 k1 n_ u5 u6 u7 = some r) F ?_ ?_
  · refine ⟨_, _, _, ?_, h⟩
    first | rfl | (simp (decide := true) only [go_sem, replicate_map'])
  · rintro n_ σ ⟨u5, u6, u7, rfl, h⟩ K2 hN2 hE2 hR2
    rcases n_ with _ | n_
    · cases h
    · rw [spec_SplitAny_L1] at h
      refine vSC_mid none [(13, .one (.d (.bool (decide (u5 < (a0.length : Int)))))), (7, .one (.d (.int .i64 u5))), (6, .one (.d (.int .i64 u6))), (5, .one (.own (.loc 1250 .nil) 9 (List.map rS u7))), (1, .one (.d (.str (B a1)))), (0, .one (.d (.str (B a0))))] (fun K hK => ?_) ?_
      · skip
        simp (decide := true) only [go_sem]
        intros
        refine hK _ ?_ ?_ <;> simp (decide := true) only [go_sem, replicate_map']
      refine vSC_condB (decide (u5 < (a0.length : Int))) (by simp (decide := true) only [go_sem]) (fun K3 hN3 hE3 hR3 => ⟨fun hc3 => ?_, fun hc3 => ?_⟩)
      · replace h := iteO_t hc3 h
        refine vSC_done (hN3 _ ?_)
        obtain ⟨k4, hk4, h⟩ := letJ_some h
        refine vSC_blockJ [7, 6, 5, 1, 0] (fun σ => ∃ (v8 : Int) (v9 : List (List UInt8)), σ = [(7, .one (.d (.int .i64 u5))), (6, .one (.d (.int .i64 v8))), (5, .one (.own (.loc 1250 .nil) 9 (List.map rS v9))), (1, .one (.d (.str (B a1)))), (0, .one (.d (.str (B a0))))] ∧ k4 v8 v9 = some r) ?_ (fun K4 hN4 hB4 hE4 hR4 => ?_)
        · rintro σ ⟨v8, v9, rfl, h⟩
          rw [hk4] at h
          refine vSC_mid none [(7, .one (.d (.int .i64 (IntKind.i64.wrap (u5 + 1))))), (6, .one (.d (.int .i64 v8))), (5, .one (.own (.loc 1250 .nil) 9 (List.map rS v9))), (1, .one (.d (.str (B a1)))), (0, .one (.d (.str (B a0))))] (fun K hK => ?_) ?_
          · skip
            simp (decide := true) only [go_sem]
            intros
            refine hK _ ?_ ?_ <;> simp (decide := true) only [go_sem, replicate_map']
          refine vSC_done (hN2 _ ⟨n_, Nat.lt_succ_self n_, _, _, _, ?_, h⟩)
          first | rfl | (simp (decide := true) only [go_sem, replicate_map'])
        refine vSC_mid none [(8, .one (.d (.int .i64 0))), (7, .one (.d (.int .i64 u5))), (6, .one (.d (.int .i64 u6))), (5, .one (.own (.loc 1250 .nil) 9 (List.map rS u7))), (1, .one (.d (.str (B a1)))), (0, .one (.d (.str (B a0))))] (fun K hK => ?_) ?_
        · skip
          simp (decide := true) only [go_sem]
          intros
          refine hK _ ?_ ?_ <;> simp (decide := true) only [go_sem, replicate_map']
        obtain ⟨k5, hk5, h⟩ := letJ_some h
        refine vSC_blockJ [7, 6, 5, 1, 0] (fun σ => ∃ (v10 : Int) (v11 : List (List UInt8)), σ = [(7, .one (.d (.int .i64 u5))), (6, .one (.d (.int .i64 v10))), (5, .one (.own (.loc 1250 .nil) 9 (List.map rS v11))), (1, .one (.d (.str (B a1)))), (0, .one (.d (.str (B a0))))] ∧ k5 v10 v11 = some r) ?_ (fun K5 hN5 hB5 hE5 hR5 => ?_)
        · rintro σ ⟨v10, v11, rfl, h⟩
          rw [hk5] at h
          refine vSC_done (hN4 _ ⟨_, _, ?_, h⟩)
          first | rfl | (simp (decide := true) only [go_sem, replicate_map'])
        refine vSC_loop [] (fun n_ σ => ∃ (u12 : Int), σ = [(8, .one (.d (.int .i64 u12))), (7, .one (.d (.int .i64 u5))), (6, .one (.d (.int .i64 u6))), (5, .one (.own (.loc 1250 .nil) 9 (List.map rS u7))), (1, .one (.d (.str (B a1)))), (0, .one (.d (.str (B a0))))] ∧ spec_SplitAny_L2 F a0 a1 u5 u6 u7 k5 n_ u12 = some r) F ?_ ?_
        · refine ⟨_, ?_, h⟩
          first | rfl | (simp (decide := true) only [go_sem, replicate_map'])
        · rintro n_ σ ⟨u12, rfl, h⟩ K6 hN6 hE6 hR6
          rcases n_ with _ | n_
          · cases h
          · rw [spec_SplitAny_L2] at h
            refine vSC_mid none [(19, .one (.d (.bool (decide (u12 < (a1.length : Int)))))), (8, .one (.d (.int .i64 u12))), (7, .one (.d (.int .i64 u5))), (6, .one (.d (.int .i64 u6))), (5, .one (.own (.loc 1250 .nil) 9 (List.map rS u7))), (1, .one (.d (.str (B a1)))), (0, .one (.d (.str (B a0))))] (fun K hK => ?_) ?_
            · skip
              simp (decide := true) only [go_sem]
              intros
              refine hK _ ?_ ?_ <;> simp (decide := true) only [go_sem, replicate_map']
            refine vSC_condB (decide (u12 < (a1.length : Int))) (by simp (decide := true) only [go_sem]) (fun K7 hN7 hE7 hR7 => ⟨fun hc7 => ?_, fun hc7 => ?_⟩)
            · replace h := iteO_t hc7 h
              refine vSC_done (hN7 _ ?_)
              refine vSC_block (fun K8 hN8 hB8 hE8 hR8 => ?_)
              obtain ⟨g13, h⟩ := guardO_some h
              obtain ⟨g14, h⟩ := guardO_some h
              refine vSC_mid none [(28, .one (.d (.bool (((a0.getD u5.toNat 0).toNat : Int) == ((a1.getD u12.toNat 0).toNat : Int))))), (8, .one (.d (.int .i64 u12))), (7, .one (.d (.int .i64 u5))), (6, .one (.d (.int .i64 u6))), (5, .one (.own (.loc 1250 .nil) 9 (List.map rS u7))), (1, .one (.d (.str (B a1)))), (0, .one (.d (.str (B a0))))] (fun K hK => ?_) ?_
              · skip
                simp (decide := true) only [go_sem, g13, g14]
                intros
                refine hK _ ?_ ?_ <;> simp (decide := true) only [go_sem, replicate_map', g13, g14]
              refine vSC_condB (((a0.getD u5.toNat 0).toNat : Int) == ((a1.getD u12.toNat 0).toNat : Int)) (by simp (decide := true) only [go_sem]) (fun K9 hN9 hE9 hR9 => ⟨fun hc9 => ?_, fun hc9 => ?_⟩)
              · replace h := iteO_t hc9 h
                obtain ⟨g15, h⟩ := guardO_some h
                obtain ⟨g16, h⟩ := guardO_some h
                refine vSC_mid (some ([], [(5, 1250, [.keep])])) [(7, .one (.d (.int .i64 u5))), (5, .one (.own (.loc 1250 .nil) 9 (List.map rS (u7 ++ [((a0.take u5.toNat).drop u6.toNat)])))), (1, .one (.d (.str (B a1)))), (0, .one (.d (.str (B a0))))] (fun K hK => ?_) ?_
                · skip
                  simp (decide := true) only [go_sem, g15, g16]
                  intros
                  refine hK _ ?_ ?_ <;> simp (decide := true) only [go_sem, replicate_map', g15, g16]
                refine vSC_mid none [(7, .one (.d (.int .i64 u5))), (6, .one (.d (.int .i64 (IntKind.i64.wrap (u5 + 1))))), (5, .one (.own (.loc 1250 .nil) 9 (List.map rS (u7 ++ [((a0.take u5.toNat).drop u6.toNat)])))), (1, .one (.d (.str (B a1)))), (0, .one (.d (.str (B a0))))] (fun K hK => ?_) ?_
                · skip
                  simp (decide := true) only [go_sem]
                  intros
                  refine hK _ ?_ ?_ <;> simp (decide := true) only [go_sem, replicate_map']
                refine vSC_exit (hE9 _ _ (hE8 _ _ (by decide) (hE6 _ _ (hB5 _ ⟨_, _, ?_, h⟩))))
                first | rfl | (simp (decide := true) only [go_sem, replicate_map'])
              · replace h := iteO_f hc9 h
                refine vSC_done (hN9 _ ?_)
                refine vSC_done (hN8 _ ?_)
                refine vSC_mid none [(8, .one (.d (.int .i64 (IntKind.i64.wrap (u12 + 1))))), (7, .one (.d (.int .i64 u5))), (6, .one (.d (.int .i64 u6))), (5, .one (.own (.loc 1250 .nil) 9 (List.map rS u7))), (1, .one (.d (.str (B a1)))), (0, .one (.d (.str (B a0))))] (fun K hK => ?_) ?_
                · skip
                  simp (decide := true) only [go_sem]
                  intros
                  refine hK _ ?_ ?_ <;> simp (decide := true) only [go_sem, replicate_map']
                refine vSC_done (hN6 _ ⟨n_, Nat.lt_succ_self n_, _, ?_, h⟩)
                first | rfl | (simp (decide := true) only [go_sem, replicate_map'])
            · replace h := iteO_f hc7 h
              refine vSC_exit (hE7 _ _ (hE6 _ _ (hB5 _ ⟨_, _, ?_, h⟩)))
              first | rfl | (simp (decide := true) only [go_sem, replicate_map'])
      · replace h := iteO_f hc3 h
        refine vSC_exit (hE3 _ _ (hE2 _ _ (hB1 _ ⟨_, _, ?_, h⟩)))
        first | rfl | (simp (decide := true) only [go_sem, replicate_map'])
end Go.VS
namespace Go.VS
open Go Go.VS Go.Proofs.Tryd
set_option maxRecDepth 100000
set_option maxHeartbeats 2000000
set_option linter.unusedVariables false
set_option linter.unusedSimpArgs false

def k70 : Nat → List Nat
  | 0 => [0]
  | 1 => [3, 0]
  | 2 => [7, 3, 0]
  | 3 => [3, 0]
  | 4 => [19, 3, 0]
  | 5 => [2]
  | 6 => [2]
  | _ => []
def l70 : Nat → List Nat
  | 0 => [3, 0]
  | _ => []
attribute [go_sem] k70 l70
noncomputable def F70 (F : Nat) : FS := FS.of [⟨false, []⟩] (fun (p : {p : (List UInt8) × Bool // spec_IsDigits F p.1 = some p.2}) => [.one (.d (.str (B p.1.1)))]) (fun p r o => r = .one (.d (.bool p.1.2)))
@[go_sem] theorem F70_rw (F : Nat) : (F70 F).rw = [⟨false, []⟩] := rfl
theorem F70_post {F : Nat} {a0 : List UInt8} {r : Bool} (h : spec_IsDigits F a0 = some r) : (F70 F).post [.one (.d (.str (B a0)))] = some (fun r' o => r' = .one (.d (.bool r))) :=
  FS.of_post (by rintro ⟨⟨a0, r⟩, h⟩ ⟨⟨b0, s⟩, g⟩ e; have e1 : (a0) = (b0) := (by simp [rI_inj, ru8_inj, rS_inj, rB_inj, B_inj, rGEntry_inj, rGNode_inj, rGTie_inj, rGShow_inj, rGState_inj] at e; simp [e]); cases e1; obtain rfl := Option.some.inj ((h).symm.trans g); rfl) (⟨(a0, r), h⟩ : {p : (List UInt8) × Bool // spec_IsDigits F p.1 = some p.2})
noncomputable def S70 (F : Nat) : Sys := ⟨cx, lookX [], 23, k70, l70⟩
@[go_sem] theorem S70_C (F : Nat) : (S70 F).C = cx := rfl
@[go_sem] theorem S70_X (F : Nat) : (S70 F).X = lookX [] := rfl
@[go_sem] theorem S70_n (F : Nat) : (S70 F).n = 23 := rfl
@[go_sem] theorem S70_keep (F : Nat) : (S70 F).keep = k70 := rfl
@[go_sem] theorem S70_loopKeep (F : Nat) : (S70 F).loopKeep = l70 := rfl
theorem ok70 (F : Nat) : OkF cx 70 (F70 F) := by
  refine OkF.of (Enters.of func70 rfl (by decide)) ?_
  rintro ⟨⟨a0, r⟩, h⟩
  dsimp only at h
  refine fun_v (S := S70 F) (GoodT.good GoodT.nil rfl) func70 rfl rfl (by simp [f70]) (by kernel_rfl) false ?_
  dsimp only [f70, List.map, AV.opn, vFun, slim, slimOps, slimOp, gs_zero, gs_succ, creators, creator, creates, Option.map, Option.bind, entry, entryFrom, List.append, List.length, List.cons_append, List.nil_append, Nat.reduceAdd]
  rw [spec_IsDigits] at h
  refine vSC_mid none [(0, .one (.d (.str (B a0))))] (fun K hK => ?_) ?_
  · skip
    simp (decide := true) only [go_sem]
    intros
    refine hK _ ?_ ?_ <;> simp (decide := true) only [go_sem, replicate_map']
  refine vSC_mid none [(3, .one (.d (.int .i64 0))), (0, .one (.d (.str (B a0))))] (fun K hK => ?_) ?_
  · skip
    simp (decide := true) only [go_sem]
    intros
    refine hK _ ?_ ?_ <;> simp (decide := true) only [go_sem, replicate_map']
  obtain ⟨k1, hk1, h⟩ := letJ_some h
  refine vSC_blockJ [0] (fun σ => σ = [(0, .one (.d (.str (B a0))))] ∧ k1 = some r) ?_ (fun K1 hN1 hB1 hE1 hR1 => ?_)
  · rintro σ ⟨rfl, h⟩
    rw [hk1] at h
    refine vSC_mid none [(2, .one (.d (.bool (decide ((a0.length : Int) > 0)))))] (fun K hK => ?_) ?_
    · skip
      simp (decide := true) only [go_sem]
      intros
      refine hK _ ?_ ?_ <;> simp (decide := true) only [go_sem, replicate_map']
    refine vSC_ret ?_
    obtain rfl := Option.some.inj h
    simp (decide := true) only [go_sem, replicate_map']
  refine vSC_loop [] (fun n_ σ => ∃ (u1 : Int), σ = [(3, .one (.d (.int .i64 u1))), (0, .one (.d (.str (B a0))))] ∧ spec_IsDigits_L1 F a0 k1 n_ u1 = some r) F ?_ ?_
  · refine ⟨_, ?_, h⟩
    first | rfl | (simp (decide := true) only [go_sem, replicate_map'])
  · rintro n_ σ ⟨u1, rfl, h⟩ K2 hN2 hE2 hR2
    rcases n_ with _ | n_
    · cases h
    · rw [spec_IsDigits_L1] at h
      refine vSC_mid none [(7, .one (.d (.bool (decide (u1 < (a0.length : Int)))))), (3, .one (.d (.int .i64 u1))), (0, .one (.d (.str (B a0))))] (fun K hK => ?_) ?_
      · skip
        simp (decide := true) only [go_sem]
        intros
        refine hK _ ?_ ?_ <;> simp (decide := true) only [go_sem, replicate_map']
      refine vSC_condB (decide (u1 < (a0.length : Int))) (by simp (decide := true) only [go_sem]) (fun K3 hN3 hE3 hR3 => ⟨fun hc3 => ?_, fun hc3 => ?_⟩)
      · replace h := iteO_t hc3 h
        refine vSC_done (hN3 _ ?_)
        refine vSC_block (fun K4 hN4 hB4 hE4 hR4 => ?_)
        obtain ⟨g2, h⟩ := guardO_some h
        obtain ⟨b4, e5, h⟩ := bindO_some h
        refine vSC_mid none [(19, .one (.d (.bool b4))), (3, .one (.d (.int .i64 u1))), (0, .one (.d (.str (B a0))))] (fun K hK => ?_) ?_
        · skip
          cases hp1 : (decide (((a0.getD u1.toNat 0).toNat : Int) < 48))
          · skip
            replace e5 := iteO_f (by simp (decide := true) only [go_sem, g2, hp1]) e5
            obtain ⟨g3, e5⟩ := guardO_some e5
            have qe5 := (Option.some.inj e5).symm
            simp (decide := true) only [go_sem, g2, hp1, g3, qe5]
            intros
            refine hK _ ?_ ?_ <;> simp (decide := true) only [go_sem, replicate_map', g2, hp1, g3, qe5]
          · skip
            have qe5 := (Option.some.inj (iteO_t (by simp (decide := true) only [go_sem, g2, hp1]) e5)).symm
            simp (decide := true) only [go_sem, g2, hp1, qe5]
            intros
            refine hK _ ?_ ?_ <;> simp (decide := true) only [go_sem, replicate_map', g2, hp1, qe5]
        refine vSC_condB b4 (by simp (decide := true) only [go_sem]) (fun K5 hN5 hE5 hR5 => ⟨fun hc5 => ?_, fun hc5 => ?_⟩)
        · replace h := iteO_t hc5 h
          refine vSC_mid none [(2, .one (.d (.bool false)))] (fun K hK => ?_) ?_
          · skip
            simp (decide := true) only [go_sem]
            intros
            refine hK _ ?_ ?_ <;> simp (decide := true) only [go_sem, replicate_map']
          refine vSC_ret (hR5 _ (hR4 _ (hR2 _ (hR1 _ ?_))))
          obtain rfl := Option.some.inj h
          simp (decide := true) only [go_sem, replicate_map']
        · replace h := iteO_f hc5 h
          refine vSC_done (hN5 _ ?_)
          refine vSC_done (hN4 _ ?_)
          refine vSC_mid none [(3, .one (.d (.int .i64 (IntKind.i64.wrap (u1 + 1))))), (0, .one (.d (.str (B a0))))] (fun K hK => ?_) ?_
          · skip
            simp (decide := true) only [go_sem]
            intros
            refine hK _ ?_ ?_ <;> simp (decide := true) only [go_sem, replicate_map']
          refine vSC_done (hN2 _ ⟨n_, Nat.lt_succ_self n_, _, ?_, h⟩)
          first | rfl | (simp (decide := true) only [go_sem, replicate_map'])
      · replace h := iteO_f hc3 h
        refine vSC_exit (hE3 _ _ (hE2 _ _ (hB1 _ ⟨?_, h⟩)))
        first | rfl | (simp (decide := true) only [go_sem, replicate_map'])
end Go.VS
namespace Go.VS
open Go Go.VS Go.Proofs.Tryd
set_option maxRecDepth 100000
set_option maxHeartbeats 2000000
set_option linter.unusedVariables false
set_option linter.unusedSimpArgs false

def k53 : Nat → List Nat
  | 0 => [0]
  | 1 => [5, 0]
  | 2 => [8, 0]
  | 3 => [2]
  | 4 => [2]
  | 5 => [3, 0]
  | 6 => [26, 3, 0]
  | 7 => [3, 0]
  | 8 => [3, 0]
  | 9 => [2]
  | _ => []
def l53 : Nat → List Nat
  | 0 => [3, 0]
  | _ => []
attribute [go_sem] k53 l53
noncomputable def F53 (F : Nat) (D_ : Nat) : FS := FS.of [⟨false, []⟩] (fun (p : {p : Int × (List UInt8) // spec_FormatInt F D_ p.1 = some p.2}) => [.one (.d (.int .i64 p.1.1))]) (fun p r o => r = .one (.d (.str (B p.1.2))))
@[go_sem] theorem F53_rw (F : Nat) (D_ : Nat) : (F53 F D_).rw = [⟨false, []⟩] := rfl
theorem F53_post {F : Nat} {D_ : Nat} {a0 : Int} {r : List UInt8} (h : spec_FormatInt F D_ a0 = some r) : (F53 F D_).post [.one (.d (.int .i64 a0))] = some (fun r' o => r' = .one (.d (.str (B r)))) :=
  FS.of_post (by rintro ⟨⟨a0, r⟩, h⟩ ⟨⟨b0, s⟩, g⟩ e; have e1 : (a0) = (b0) := (by simp [rI_inj, ru8_inj, rS_inj, rB_inj, B_inj, rGEntry_inj, rGNode_inj, rGTie_inj, rGShow_inj, rGState_inj] at e; simp [e]); cases e1; obtain rfl := Option.some.inj ((h).symm.trans g); rfl) (⟨(a0, r), h⟩ : {p : Int × (List UInt8) // spec_FormatInt F D_ p.1 = some p.2})
noncomputable def S53 (F : Nat) (D_ : Nat) : Sys := ⟨cx, lookX [(53, F53 F D_)], 44, k53, l53⟩
@[go_sem] theorem S53_C (F : Nat) (D_ : Nat) : (S53 F D_).C = cx := rfl
@[go_sem] theorem S53_X (F : Nat) (D_ : Nat) : (S53 F D_).X = lookX [(53, F53 F D_)] := rfl
@[go_sem] theorem S53_n (F : Nat) (D_ : Nat) : (S53 F D_).n = 44 := rfl
@[go_sem] theorem S53_keep (F : Nat) (D_ : Nat) : (S53 F D_).keep = k53 := rfl
@[go_sem] theorem S53_loopKeep (F : Nat) (D_ : Nat) : (S53 F D_).loopKeep = l53 := rfl
theorem ok53 (F : Nat) : ∀ D_ : Nat, OkF cx 53 (F53 F D_)
  | 0 => OkF.of (Enters.of func53 rfl (by decide)) (by rintro ⟨⟨a0, r⟩, h⟩; exact absurd h (by simp [spec_FormatInt]))
  | D_ + 1 => by
    refine OkF.of (Enters.of func53 rfl (by decide)) ?_
    rintro ⟨⟨a0, r⟩, h⟩
    dsimp only at h
    refine fun_v (S := S53 F D_) (GoodT.good (GoodT.cons (ok53 F D_) GoodT.nil) rfl) func53 rfl rfl (by simp [f53]) (by kernel_rfl) false ?_
    dsimp only [f53, List.map, AV.opn, vFun, slim, slimOps, slimOp, gs_zero, gs_succ, creators, creator, creates, Option.map, Option.bind, entry, entryFrom, List.append, List.length, List.cons_append, List.nil_append, Nat.reduceAdd]
    rw [spec_FormatInt] at h
    refine vSC_mid none [(0, .one (.d (.int .i64 a0)))] (fun K hK => ?_) ?_
    · skip
      simp (decide := true) only [go_sem]
      intros
      refine hK _ ?_ ?_ <;> simp (decide := true) only [go_sem, replicate_map']
    refine vSC_mid none [(5, .one (.d (.bool (decide (a0 < 0))))), (0, .one (.d (.int .i64 a0)))] (fun K hK => ?_) ?_
    · skip
      simp (decide := true) only [go_sem]
      intros
      refine hK _ ?_ ?_ <;> simp (decide := true) only [go_sem, replicate_map']
    refine vSC_condB (decide (a0 < 0)) (by simp (decide := true) only [go_sem]) (fun K1 hN1 hE1 hR1 => ⟨fun hc1 => ?_, fun hc1 => ?_⟩)
    · replace h := iteO_t hc1 h
      obtain ⟨g1, h⟩ := guardO_some h
      refine vSC_mid none [(8, .one (.d (.bool ((IntKind.i64.wrap (Int.tdiv a0 10)) == 0)))), (0, .one (.d (.int .i64 a0)))] (fun K hK => ?_) ?_
      · skip
        simp (decide := true) only [go_sem, g1]
        intros
        refine hK _ ?_ ?_ <;> simp (decide := true) only [go_sem, replicate_map', g1]
      refine vSC_condB ((IntKind.i64.wrap (Int.tdiv a0 10)) == 0) (by simp (decide := true) only [go_sem]) (fun K2 hN2 hE2 hR2 => ⟨fun hc2 => ?_, fun hc2 => ?_⟩)
      · replace h := iteO_t hc2 h
        obtain ⟨g2, h⟩ := guardO_some h
        refine vSC_mid none [(2, .one (.d (.str (B (([45] : List UInt8) ++ (bytesOf ([(IntKind.u8.wrap ((IntKind.i64.wrap ((48 : Int) - a0))))] : List Int)))))))] (fun K hK => ?_) ?_
        · skip
          simp (decide := true) only [go_sem, g2]
          intros
          refine hK _ ?_ ?_ <;> simp (decide := true) only [go_sem, replicate_map', g2]
        refine vSC_ret (hR2 _ (hR1 _ ?_))
        obtain rfl := Option.some.inj h
        simp (decide := true) only [go_sem, replicate_map']
      · replace h := iteO_f hc2 h
        refine vSC_done (hN2 _ ?_)
        obtain ⟨g3, h⟩ := guardO_some h
        obtain ⟨x4, e5, h⟩ := bindO_some h
        obtain ⟨g6, h⟩ := guardO_some h
        obtain ⟨g7, h⟩ := guardO_some h
        refine vSC_mid none [(2, .one (.d (.str (B (x4 ++ (bytesOf ([(IntKind.u8.wrap ((IntKind.i64.wrap ((48 : Int) - (Int.tmod a0 10)))))] : List Int)))))))] (fun K hK => ?_) ?_
        · skip
          simp (decide := true) only [go_sem, g3, (F53_post e5), g6, g7]
          intros
          refine hK _ ?_ ?_ <;> simp (decide := true) only [go_sem, replicate_map', g3, (F53_post e5), g6, g7]
        refine vSC_ret (hR1 _ ?_)
        obtain rfl := Option.some.inj h
        simp (decide := true) only [go_sem, replicate_map']
    · replace h := iteO_f hc1 h
      refine vSC_done (hN1 _ ?_)
      refine vSC_mid none [(3, .one (.d (.str (B ([] : List UInt8))))), (0, .one (.d (.int .i64 a0)))] (fun K hK => ?_) ?_
      · skip
        simp (decide := true) only [go_sem]
        intros
        refine hK _ ?_ ?_ <;> simp (decide := true) only [go_sem, replicate_map']
      obtain ⟨k3, hk3, h⟩ := letJ_some h
      refine vSC_blockJ [3, 0] (fun σ => ∃ (v8 : List UInt8) (v9 : Int), σ = [(3, .one (.d (.str (B v8)))), (0, .one (.d (.int .i64 v9)))] ∧ k3 v8 v9 = some r) ?_ (fun K3 hN3 hB3 hE3 hR3 => ?_)
      · rintro σ ⟨v8, v9, rfl, h⟩
        rw [hk3] at h
        obtain ⟨g10, h⟩ := guardO_some h
        refine vSC_mid none [(2, .one (.d (.str (B ((bytesOf ([(IntKind.u8.wrap ((IntKind.i64.wrap ((48 : Int) + v9))))] : List Int)) ++ v8)))))] (fun K hK => ?_) ?_
        · skip
          simp (decide := true) only [go_sem, g10]
          intros
          refine hK _ ?_ ?_ <;> simp (decide := true) only [go_sem, replicate_map', g10]
        refine vSC_ret ?_
        obtain rfl := Option.some.inj h
        simp (decide := true) only [go_sem, replicate_map']
      refine vSC_loop [] (fun n_ σ => ∃ (u11 : List UInt8) (u12 : Int), σ = [(3, .one (.d (.str (B u11)))), (0, .one (.d (.int .i64 u12)))] ∧ spec_FormatInt_L1 F k3 n_ u11 u12 = some r) F ?_ ?_
      · refine ⟨_, _, ?_, h⟩
        first | rfl | (simp (decide := true) only [go_sem, replicate_map'])
      · rintro n_ σ ⟨u11, u12, rfl, h⟩ K4 hN4 hE4 hR4
        rcases n_ with _ | n_
        · cases h
        · rw [spec_FormatInt_L1] at h
          refine vSC_mid none [(26, .one (.d (.bool (decide (u12 > 9))))), (3, .one (.d (.str (B u11)))), (0, .one (.d (.int .i64 u12)))] (fun K hK => ?_) ?_
          · skip
            simp (decide := true) only [go_sem]
            intros
            refine hK _ ?_ ?_ <;> simp (decide := true) only [go_sem, replicate_map']
          refine vSC_condB (decide (u12 > 9)) (by simp (decide := true) only [go_sem]) (fun K5 hN5 hE5 hR5 => ⟨fun hc5 => ?_, fun hc5 => ?_⟩)
          · replace h := iteO_t hc5 h
            refine vSC_done (hN5 _ ?_)
            refine vSC_block (fun K6 hN6 hB6 hE6 hR6 => ?_)
            obtain ⟨g13, h⟩ := guardO_some h
            obtain ⟨g14, h⟩ := guardO_some h
            refine vSC_mid none [(3, .one (.d (.str (B ((bytesOf ([(IntKind.u8.wrap ((IntKind.i64.wrap ((48 : Int) + (Int.tmod u12 10)))))] : List Int)) ++ u11))))), (0, .one (.d (.int .i64 u12)))] (fun K hK => ?_) ?_
            · skip
              simp (decide := true) only [go_sem, g13, g14]
              intros
              refine hK _ ?_ ?_ <;> simp (decide := true) only [go_sem, replicate_map', g13, g14]
            obtain ⟨g15, h⟩ := guardO_some h
            refine vSC_mid none [(3, .one (.d (.str (B ((bytesOf ([(IntKind.u8.wrap ((IntKind.i64.wrap ((48 : Int) + (Int.tmod u12 10)))))] : List Int)) ++ u11))))), (0, .one (.d (.int .i64 (IntKind.i64.wrap (Int.tdiv u12 10)))))] (fun K hK => ?_) ?_
            · skip
              simp (decide := true) only [go_sem, g15]
              intros
              refine hK _ ?_ ?_ <;> simp (decide := true) only [go_sem, replicate_map', g15]
            refine vSC_done (hN6 _ ?_)
            refine vSC_done (hN4 _ ⟨n_, Nat.lt_succ_self n_, _, _, ?_, h⟩)
            first | rfl | (simp (decide := true) only [go_sem, replicate_map'])
          · replace h := iteO_f hc5 h
            refine vSC_exit (hE5 _ _ (hE4 _ _ (hB3 _ ⟨_, _, ?_, h⟩)))
            first | rfl | (simp (decide := true) only [go_sem, replicate_map'])
end Go.VS
namespace Go.VS
open Go Go.VS Go.Proofs.Tryd
set_option maxRecDepth 100000
set_option maxHeartbeats 2000000
set_option linter.unusedVariables false
set_option linter.unusedSimpArgs false

def k36 : Nat → List Nat
  | 0 => [0]
  | 1 => [4, 0]
  | 2 => [5, 4, 0]
  | 3 => [18, 5, 4, 0]
  | 4 => [5, 4, 0]
  | 5 => [28, 5, 4, 0]
  | 6 => [3, 2]
  | 7 => [6, 5, 4, 0]
  | 8 => [7, 6, 5, 4, 0]
  | 9 => [32, 7, 6, 5, 4, 0]
  | 10 => [7, 6, 5, 4, 0]
  | 11 => [8, 7, 6, 5, 4, 0]
  | 12 => [44, 8, 7, 6, 5, 4, 0]
  | 13 => [3, 2]
  | 14 => [7, 6, 5, 4, 0]
  | 15 => [50, 6, 0]
  | 16 => [52, 6, 0]
  | 17 => [3, 2]
  | 18 => [6, 0]
  | 19 => [58, 6]
  | 20 => [3, 2]
  | 21 => [3, 2]
  | _ => []
def l36 : Nat → List Nat
  | 0 => [7, 6, 5, 4, 0]
  | _ => []
attribute [go_sem] k36 l36
noncomputable def F36 (F : Nat) : FS := FS.of [⟨false, []⟩] (fun (p : {p : (List UInt8) × (Int × Bool) // spec_ParseInt F p.1 = some p.2}) => [.one (.d (.str (B p.1.1)))]) (fun p r o => r = .tup [.one (.d (.int .i64 p.1.2.1)), .one (.d (.bool p.1.2.2))])
@[go_sem] theorem F36_rw (F : Nat) : (F36 F).rw = [⟨false, []⟩] := rfl
theorem F36_post {F : Nat} {a0 : List UInt8} {r : Int × Bool} (h : spec_ParseInt F a0 = some r) : (F36 F).post [.one (.d (.str (B a0)))] = some (fun r' o => r' = .tup [.one (.d (.int .i64 r.1)), .one (.d (.bool r.2))]) :=
  FS.of_post (by rintro ⟨⟨a0, r⟩, h⟩ ⟨⟨b0, s⟩, g⟩ e; have e1 : (a0) = (b0) := (by simp [rI_inj, ru8_inj, rS_inj, rB_inj, B_inj, rGEntry_inj, rGNode_inj, rGTie_inj, rGShow_inj, rGState_inj] at e; simp [e]); cases e1; obtain rfl := Option.some.inj ((h).symm.trans g); rfl) (⟨(a0, r), h⟩ : {p : (List UInt8) × (Int × Bool) // spec_ParseInt F p.1 = some p.2})
noncomputable def S36 (F : Nat) : Sys := ⟨cx, lookX [(70, F70 F), (53, F53 F F)], 60, k36, l36⟩
@[go_sem] theorem S36_C (F : Nat) : (S36 F).C = cx := rfl
@[go_sem] theorem S36_X (F : Nat) : (S36 F).X = lookX [(70, F70 F), (53, F53 F F)] := rfl
@[go_sem] theorem S36_n (F : Nat) : (S36 F).n = 60 := rfl
@[go_sem] theorem S36_keep (F : Nat) : (S36 F).keep = k36 := rfl
@[go_sem] theorem S36_loopKeep (F : Nat) : (S36 F).loopKeep = l36 := rfl
theorem ok36 (F : Nat) : OkF cx 36 (F36 F) := by
  refine OkF.of (Enters.of func36 rfl (by decide)) ?_
  rintro ⟨⟨a0, r⟩, h⟩
  dsimp only at h
  refine fun_v (S := S36 F) (GoodT.good (GoodT.cons (ok70 F) (GoodT.cons (ok53 F F) GoodT.nil)) rfl) func36 rfl rfl (by simp [f36]) (by kernel_rfl) false ?_
  dsimp only [f36, List.map, AV.opn, vFun, slim, slimOps, slimOp, gs_zero, gs_succ, creators, creator, creates, Option.map, Option.bind, entry, entryFrom, List.append, List.length, List.cons_append, List.nil_append, Nat.reduceAdd]
  rw [spec_ParseInt] at h
  refine vSC_mid none [(0, .one (.d (.str (B a0))))] (fun K hK => ?_) ?_
  · skip
    simp (decide := true) only [go_sem]
    intros
    refine hK _ ?_ ?_ <;> simp (decide := true) only [go_sem, replicate_map']
  obtain ⟨b2, e3, h⟩ := bindO_some h
  refine vSC_mid none [(4, .one (.d (.bool b2))), (0, .one (.d (.str (B a0))))] (fun K hK => ?_) ?_
  · skip
    cases hp1 : (decide ((a0.length : Int) > 0))
    · skip
      have qe3 := (Option.some.inj (iteO_f (by simp (decide := true) only [go_sem, hp1]) e3)).symm
      simp (decide := true) only [go_sem, hp1, qe3]
      intros
      refine hK _ ?_ ?_ <;> simp (decide := true) only [go_sem, replicate_map', hp1, qe3]
    · skip
      replace e3 := iteO_t (by simp (decide := true) only [go_sem, hp1]) e3
      obtain ⟨g1, e3⟩ := guardO_some e3
      have qe3 := (Option.some.inj e3).symm
      simp (decide := true) only [go_sem, hp1, g1, qe3]
      intros
      refine hK _ ?_ ?_ <;> simp (decide := true) only [go_sem, replicate_map', hp1, g1, qe3]
  refine vSC_mid none [(5, .one (.d (.str (B a0)))), (4, .one (.d (.bool b2))), (0, .one (.d (.str (B a0))))] (fun K hK => ?_) ?_
  · skip
    simp (decide := true) only [go_sem]
    intros
    refine hK _ ?_ ?_ <;> simp (decide := true) only [go_sem, replicate_map']
  refine vSC_mid none [(18, .one (.d (.bool b2))), (5, .one (.d (.str (B a0)))), (4, .one (.d (.bool b2))), (0, .one (.d (.str (B a0))))] (fun K hK => ?_) ?_
  · skip
    simp (decide := true) only [go_sem]
    intros
    refine hK _ ?_ ?_ <;> simp (decide := true) only [go_sem, replicate_map']
  obtain ⟨k1, hk1, h⟩ := letJ_some h
  refine vSC_condJ b2 (by simp (decide := true) only [go_sem]) [5, 4, 0] (fun σ => ∃ (v4 : List UInt8), σ = [(5, .one (.d (.str (B v4)))), (4, .one (.d (.bool b2))), (0, .one (.d (.str (B a0))))] ∧ k1 v4 = some r) ?_ (fun K1 hN1 hE1 hR1 => ⟨fun hc1 => ?_, fun hc1 => ?_⟩)
  · rintro σ ⟨v4, rfl, h⟩
    rw [hk1] at h
    obtain ⟨x6, e7, h⟩ := bindO_some h
    refine vSC_mid none [(28, .one (.d (.bool ((!x6) || (decide ((v4.length : Int) > 19)))))), (5, .one (.d (.str (B v4)))), (4, .one (.d (.bool b2))), (0, .one (.d (.str (B a0))))] (fun K hK => ?_) ?_
    · skip
      cases hp1 : (!x6)
      · skip
        simp (decide := true) only [go_sem, (F70_post e7), hp1]
        intros
        refine hK _ ?_ ?_ <;> simp (decide := true) only [go_sem, replicate_map', (F70_post e7), hp1]
      · skip
        simp (decide := true) only [go_sem, (F70_post e7), hp1]
        intros
        refine hK _ ?_ ?_ <;> simp (decide := true) only [go_sem, replicate_map', (F70_post e7), hp1]
    refine vSC_condB ((!x6) || (decide ((v4.length : Int) > 19))) (by simp (decide := true) only [go_sem]) (fun K2 hN2 hE2 hR2 => ⟨fun hc2 => ?_, fun hc2 => ?_⟩)
    · replace h := iteO_t hc2 h
      refine vSC_mid none [(3, .one (.d (.bool false))), (2, .one (.d (.int .i64 0)))] (fun K hK => ?_) ?_
      · skip
        simp (decide := true) only [go_sem]
        intros
        refine hK _ ?_ ?_ <;> simp (decide := true) only [go_sem, replicate_map']
      refine vSC_ret (hR2 _ ?_)
      obtain rfl := Option.some.inj h
      simp (decide := true) only [go_sem, replicate_map']
    · replace h := iteO_f hc2 h
      refine vSC_done (hN2 _ ?_)
      refine vSC_mid none [(6, .one (.d (.int .i64 0))), (5, .one (.d (.str (B v4)))), (4, .one (.d (.bool b2))), (0, .one (.d (.str (B a0))))] (fun K hK => ?_) ?_
      · skip
        simp (decide := true) only [go_sem]
        intros
        refine hK _ ?_ ?_ <;> simp (decide := true) only [go_sem, replicate_map']
      refine vSC_mid none [(7, .one (.d (.int .i64 0))), (6, .one (.d (.int .i64 0))), (5, .one (.d (.str (B v4)))), (4, .one (.d (.bool b2))), (0, .one (.d (.str (B a0))))] (fun K hK => ?_) ?_
      · skip
        simp (decide := true) only [go_sem]
        intros
        refine hK _ ?_ ?_ <;> simp (decide := true) only [go_sem, replicate_map']
      obtain ⟨k3, hk3, h⟩ := letJ_some h
      refine vSC_blockJ [6, 4, 0] (fun σ => ∃ (v8 : Int), σ = [(6, .one (.d (.int .i64 v8))), (4, .one (.d (.bool b2))), (0, .one (.d (.str (B a0))))] ∧ k3 v8 = some r) ?_ (fun K3 hN3 hB3 hE3 hR3 => ?_)
      · rintro σ ⟨v8, rfl, h⟩
        rw [hk3] at h
        refine vSC_mid none [(50, .one (.d (.bool (!b2)))), (6, .one (.d (.int .i64 v8))), (0, .one (.d (.str (B a0))))] (fun K hK => ?_) ?_
        · skip
          simp (decide := true) only [go_sem]
          intros
          refine hK _ ?_ ?_ <;> simp (decide := true) only [go_sem, replicate_map']
        obtain ⟨k4, hk4, h⟩ := letJ_some h
        refine vSC_condJ (!b2) (by simp (decide := true) only [go_sem]) [6, 0] (fun σ => ∃ (v9 : Int), σ = [(6, .one (.d (.int .i64 v9))), (0, .one (.d (.str (B a0))))] ∧ k4 v9 = some r) ?_ (fun K4 hN4 hE4 hR4 => ⟨fun hc4 => ?_, fun hc4 => ?_⟩)
        · rintro σ ⟨v9, rfl, h⟩
          rw [hk4] at h
          obtain ⟨x10, e11, h⟩ := bindO_some h
          refine vSC_mid none [(58, .one (.d (.bool (!(x10 == a0))))), (6, .one (.d (.int .i64 v9)))] (fun K hK => ?_) ?_
          · skip
            simp (decide := true) only [go_sem, (F53_post e11)]
            intros
            refine hK _ ?_ ?_ <;> simp (decide := true) only [go_sem, replicate_map', (F53_post e11)]
          refine vSC_condB (!(x10 == a0)) (by simp (decide := true) only [go_sem]) (fun K6 hN6 hE6 hR6 => ⟨fun hc6 => ?_, fun hc6 => ?_⟩)
          · replace h := iteO_t hc6 h
            refine vSC_mid none [(3, .one (.d (.bool false))), (2, .one (.d (.int .i64 0)))] (fun K hK => ?_) ?_
            · skip
              simp (decide := true) only [go_sem]
              intros
              refine hK _ ?_ ?_ <;> simp (decide := true) only [go_sem, replicate_map']
            refine vSC_ret (hR6 _ ?_)
            obtain rfl := Option.some.inj h
            simp (decide := true) only [go_sem, replicate_map']
          · replace h := iteO_f hc6 h
            refine vSC_done (hN6 _ ?_)
            refine vSC_mid none [(3, .one (.d (.bool true))), (2, .one (.d (.int .i64 v9)))] (fun K hK => ?_) ?_
            · skip
              simp (decide := true) only [go_sem]
              intros
              refine hK _ ?_ ?_ <;> simp (decide := true) only [go_sem, replicate_map']
            refine vSC_ret ?_
            obtain rfl := Option.some.inj h
            simp (decide := true) only [go_sem, replicate_map']
        · replace h := iteO_t hc4 h
          refine vSC_mid none [(52, .one (.d (.bool (v8 == (-9223372036854775808))))), (6, .one (.d (.int .i64 v8))), (0, .one (.d (.str (B a0))))] (fun K hK => ?_) ?_
          · skip
            simp (decide := true) only [go_sem]
            intros
            refine hK _ ?_ ?_ <;> simp (decide := true) only [go_sem, replicate_map']
          refine vSC_condB (v8 == (-9223372036854775808)) (by simp (decide := true) only [go_sem]) (fun K5 hN5 hE5 hR5 => ⟨fun hc5 => ?_, fun hc5 => ?_⟩)
          · replace h := iteO_t hc5 h
            refine vSC_mid none [(3, .one (.d (.bool false))), (2, .one (.d (.int .i64 0)))] (fun K hK => ?_) ?_
            · skip
              simp (decide := true) only [go_sem]
              intros
              refine hK _ ?_ ?_ <;> simp (decide := true) only [go_sem, replicate_map']
            refine vSC_ret (hR5 _ (hR4 _ ?_))
            obtain rfl := Option.some.inj h
            simp (decide := true) only [go_sem, replicate_map']
          · replace h := iteO_f hc5 h
            refine vSC_done (hN5 _ ?_)
            refine vSC_mid none [(6, .one (.d (.int .i64 (IntKind.i64.wrap (0 - v8))))), (0, .one (.d (.str (B a0))))] (fun K hK => ?_) ?_
            · skip
              simp (decide := true) only [go_sem]
              intros
              refine hK _ ?_ ?_ <;> simp (decide := true) only [go_sem, replicate_map']
            refine vSC_done (hN4 _ ⟨_, ?_, h⟩)
            first | rfl | (simp (decide := true) only [go_sem, replicate_map'])
        · replace h := iteO_f hc4 h
          refine vSC_done (hN4 _ ⟨_, ?_, h⟩)
          first | rfl | (simp (decide := true) only [go_sem, replicate_map'])
      refine vSC_loop [] (fun n_ σ => ∃ (u12 : Int) (u13 : Int), σ = [(7, .one (.d (.int .i64 u12))), (6, .one (.d (.int .i64 u13))), (5, .one (.d (.str (B v4)))), (4, .one (.d (.bool b2))), (0, .one (.d (.str (B a0))))] ∧ spec_ParseInt_L1 F v4 k3 n_ u12 u13 = some r) F ?_ ?_
      · refine ⟨_, _, ?_, h⟩
        first | rfl | (simp (decide := true) only [go_sem, replicate_map'])
      · rintro n_ σ ⟨u12, u13, rfl, h⟩ K7 hN7 hE7 hR7
        rcases n_ with _ | n_
        · cases h
        · rw [spec_ParseInt_L1] at h
          refine vSC_mid none [(32, .one (.d (.bool (decide (u12 < (v4.length : Int)))))), (7, .one (.d (.int .i64 u12))), (6, .one (.d (.int .i64 u13))), (5, .one (.d (.str (B v4)))), (4, .one (.d (.bool b2))), (0, .one (.d (.str (B a0))))] (fun K hK => ?_) ?_
          · skip
            simp (decide := true) only [go_sem]
            intros
            refine hK _ ?_ ?_ <;> simp (decide := true) only [go_sem, replicate_map']
          refine vSC_condB (decide (u12 < (v4.length : Int))) (by simp (decide := true) only [go_sem]) (fun K8 hN8 hE8 hR8 => ⟨fun hc8 => ?_, fun hc8 => ?_⟩)
          · replace h := iteO_t hc8 h
            refine vSC_done (hN8 _ ?_)
            refine vSC_block (fun K9 hN9 hB9 hE9 hR9 => ?_)
            obtain ⟨g14, h⟩ := guardO_some h
            refine vSC_mid none [(8, .one (.d (.int .i64 (IntKind.i64.wrap ((IntKind.i64.wrap (((v4.getD u12.toNat 0).toNat : Int))) - 48))))), (7, .one (.d (.int .i64 u12))), (6, .one (.d (.int .i64 u13))), (5, .one (.d (.str (B v4)))), (4, .one (.d (.bool b2))), (0, .one (.d (.str (B a0))))] (fun K hK => ?_) ?_
            · skip
              simp (decide := true) only [go_sem, g14]
              intros
              refine hK _ ?_ ?_ <;> simp (decide := true) only [go_sem, replicate_map', g14]
            obtain ⟨g15, h⟩ := guardO_some h
            refine vSC_mid none [(44, .one (.d (.bool (decide (u13 < (IntKind.i64.wrap (Int.tdiv (IntKind.i64.wrap ((-9223372036854775808 : Int) + (IntKind.i64.wrap ((IntKind.i64.wrap (((v4.getD u12.toNat 0).toNat : Int))) - 48)))) 10))))))), (8, .one (.d (.int .i64 (IntKind.i64.wrap ((IntKind.i64.wrap (((v4.getD u12.toNat 0).toNat : Int))) - 48))))), (7, .one (.d (.int .i64 u12))), (6, .one (.d (.int .i64 u13))), (5, .one (.d (.str (B v4)))), (4, .one (.d (.bool b2))), (0, .one (.d (.str (B a0))))] (fun K hK => ?_) ?_
            · skip
              simp (decide := true) only [go_sem, g15]
              intros
              refine hK _ ?_ ?_ <;> simp (decide := true) only [go_sem, replicate_map', g15]
            refine vSC_condB (decide (u13 < (IntKind.i64.wrap (Int.tdiv (IntKind.i64.wrap ((-9223372036854775808 : Int) + (IntKind.i64.wrap ((IntKind.i64.wrap (((v4.getD u12.toNat 0).toNat : Int))) - 48)))) 10)))) (by simp (decide := true) only [go_sem]) (fun K10 hN10 hE10 hR10 => ⟨fun hc10 => ?_, fun hc10 => ?_⟩)
            · replace h := iteO_t hc10 h
              refine vSC_mid none [(3, .one (.d (.bool false))), (2, .one (.d (.int .i64 0)))] (fun K hK => ?_) ?_
              · skip
                simp (decide := true) only [go_sem]
                intros
                refine hK _ ?_ ?_ <;> simp (decide := true) only [go_sem, replicate_map']
              refine vSC_ret (hR10 _ (hR9 _ (hR7 _ (hR3 _ ?_))))
              obtain rfl := Option.some.inj h
              simp (decide := true) only [go_sem, replicate_map']
            · replace h := iteO_f hc10 h
              refine vSC_done (hN10 _ ?_)
              refine vSC_mid none [(7, .one (.d (.int .i64 u12))), (6, .one (.d (.int .i64 (IntKind.i64.wrap ((IntKind.i64.wrap (u13 * 10)) - (IntKind.i64.wrap ((IntKind.i64.wrap (((v4.getD u12.toNat 0).toNat : Int))) - 48))))))), (5, .one (.d (.str (B v4)))), (4, .one (.d (.bool b2))), (0, .one (.d (.str (B a0))))] (fun K hK => ?_) ?_
              · skip
                simp (decide := true) only [go_sem]
                intros
                refine hK _ ?_ ?_ <;> simp (decide := true) only [go_sem, replicate_map']
              refine vSC_done (hN9 _ ?_)
              refine vSC_mid none [(7, .one (.d (.int .i64 (IntKind.i64.wrap (u12 + 1))))), (6, .one (.d (.int .i64 (IntKind.i64.wrap ((IntKind.i64.wrap (u13 * 10)) - (IntKind.i64.wrap ((IntKind.i64.wrap (((v4.getD u12.toNat 0).toNat : Int))) - 48))))))), (5, .one (.d (.str (B v4)))), (4, .one (.d (.bool b2))), (0, .one (.d (.str (B a0))))] (fun K hK => ?_) ?_
              · skip
                simp (decide := true) only [go_sem]
                intros
                refine hK _ ?_ ?_ <;> simp (decide := true) only [go_sem, replicate_map']
              refine vSC_done (hN7 _ ⟨n_, Nat.lt_succ_self n_, _, _, ?_, h⟩)
              first | rfl | (simp (decide := true) only [go_sem, replicate_map'])
          · replace h := iteO_f hc8 h
            refine vSC_exit (hE8 _ _ (hE7 _ _ (hB3 _ ⟨_, ?_, h⟩)))
            first | rfl | (simp (decide := true) only [go_sem, replicate_map'])
  · replace h := iteO_t hc1 h
    obtain ⟨g5, h⟩ := guardO_some h
    refine vSC_mid none [(5, .one (.d (.str (B (a0.drop (1 : Int).toNat))))), (4, .one (.d (.bool b2))), (0, .one (.d (.str (B a0))))] (fun K hK => ?_) ?_
    · skip
      simp (decide := true) only [go_sem, g5]
      intros
      refine hK _ ?_ ?_ <;> simp (decide := true) only [go_sem, replicate_map', g5]
    refine vSC_done (hN1 _ ⟨_, ?_, h⟩)
    first | rfl | (simp (decide := true) only [go_sem, replicate_map'])
  · replace h := iteO_f hc1 h
    refine vSC_done (hN1 _ ⟨_, ?_, h⟩)
    first | rfl | (simp (decide := true) only [go_sem, replicate_map'])
end Go.VS
namespace Go.VS
open Go Go.VS Go.Proofs.Tryd
set_option maxRecDepth 100000
set_option maxHeartbeats 2000000
set_option linter.unusedVariables false
set_option linter.unusedSimpArgs false

def k37 : Nat → List Nat
  | 0 => [0]
  | 1 => [4, 0]
  | 2 => [11, 4, 0]
  | 3 => [3, 2]
  | 4 => [16, 15, 14, 4]
  | 5 => [17, 16, 15, 14, 4]
  | 6 => [16, 15, 14, 6, 4]
  | 7 => [16, 15, 14, 8, 7, 4]
  | 8 => [26, 16, 15, 14, 7, 4]
  | 9 => [3, 2]
  | 10 => [16, 15, 14, 4]
  | 11 => [16, 15, 14, 4]
  | 12 => [3, 2]
  | _ => []
def l37 : Nat → List Nat
  | 0 => [16, 15, 14, 4]
  | _ => []
attribute [go_sem] k37 l37
noncomputable def F37 (F : Nat) : FS := FS.of [⟨false, []⟩] (fun (p : {p : (List UInt8) × (List Int × Bool) // spec_l25Parse F p.1 = some p.2}) => [.one (.d (.str (B p.1.1)))]) (fun p r o => r = .tup [.one (.own (.loc 0 .nil) 3 (List.map rI p.1.2.1)), .one (.d (.bool p.1.2.2))])
@[go_sem] theorem F37_rw (F : Nat) : (F37 F).rw = [⟨false, []⟩] := rfl
theorem F37_post {F : Nat} {a0 : List UInt8} {r : List Int × Bool} (h : spec_l25Parse F a0 = some r) : (F37 F).post [.one (.d (.str (B a0)))] = some (fun r' o => r' = .tup [.one (.own (.loc 0 .nil) 3 (List.map rI r.1)), .one (.d (.bool r.2))]) :=
  FS.of_post (by rintro ⟨⟨a0, r⟩, h⟩ ⟨⟨b0, s⟩, g⟩ e; have e1 : (a0) = (b0) := (by simp [rI_inj, ru8_inj, rS_inj, rB_inj, B_inj, rGEntry_inj, rGNode_inj, rGTie_inj, rGShow_inj, rGState_inj] at e; simp [e]); cases e1; obtain rfl := Option.some.inj ((h).symm.trans g); rfl) (⟨(a0, r), h⟩ : {p : (List UInt8) × (List Int × Bool) // spec_l25Parse F p.1 = some p.2})
noncomputable def S37 (F : Nat) : Sys := ⟨cx, lookX [(35, F35 F), (36, F36 F)], 33, k37, l37⟩
@[go_sem] theorem S37_C (F : Nat) : (S37 F).C = cx := rfl
@[go_sem] theorem S37_X (F : Nat) : (S37 F).X = lookX [(35, F35 F), (36, F36 F)] := rfl
@[go_sem] theorem S37_n (F : Nat) : (S37 F).n = 33 := rfl
@[go_sem] theorem S37_keep (F : Nat) : (S37 F).keep = k37 := rfl
@[go_sem] theorem S37_loopKeep (F : Nat) : (S37 F).loopKeep = l37 := rfl
theorem ok37 (F : Nat) : OkF cx 37 (F37 F) := by
  refine OkF.of (Enters.of func37 rfl (by decide)) ?_
  rintro ⟨⟨a0, r⟩, h⟩
  dsimp only at h
  refine Okp.canon [.own 3, .keep] ?_
  refine fun_v (S := S37 F) (GoodT.good (GoodT.cons (ok35 F) (GoodT.cons (ok36 F) GoodT.nil)) rfl) func37 rfl rfl (by simp [f37]) (by kernel_rfl) false ?_
  dsimp only [f37, List.map, AV.opn, vFun, slim, slimOps, slimOp, gs_zero, gs_succ, creators, creator, creates, Option.map, Option.bind, entry, entryFrom, List.append, List.length, List.cons_append, List.nil_append, Nat.reduceAdd]
  rw [spec_l25Parse] at h
  refine vSC_mid none [(0, .one (.d (.str (B a0))))] (fun K hK => ?_) ?_
  · skip
    simp (decide := true) only [go_sem]
    intros
    refine hK _ ?_ ?_ <;> simp (decide := true) only [go_sem, replicate_map']
  refine vSC_mid (some ([], [(4, 1200, [.keep])])) [(4, .one (.own (.loc 1200 .nil) 3 (List.map rI ([] : List Int)))), (0, .one (.d (.str (B a0))))] (fun K hK => ?_) ?_
  · skip
    simp (decide := true) only [go_sem]
    intros
    refine hK _ ?_ ?_ <;> simp (decide := true) only [go_sem, replicate_map']
  refine vSC_mid none [(11, .one (.d (.bool (a0 == ([45] : List UInt8))))), (4, .one (.own (.loc 1200 .nil) 3 (List.map rI ([] : List Int)))), (0, .one (.d (.str (B a0))))] (fun K hK => ?_) ?_
  · skip
    simp (decide := true) only [go_sem]
    intros
    refine hK _ ?_ ?_ <;> simp (decide := true) only [go_sem, replicate_map']
  refine vSC_condB (a0 == ([45] : List UInt8)) (by simp (decide := true) only [go_sem]) (fun K1 hN1 hE1 hR1 => ⟨fun hc1 => ?_, fun hc1 => ?_⟩)
  · replace h := iteO_t hc1 h
    refine vSC_mid (some ([], [(2, 1100, [.keep])])) [(3, .one (.d (.bool true))), (2, .one (.own (.loc 1100 .nil) 3 (List.map rI ([] : List Int))))] (fun K hK => ?_) ?_
    · skip
      simp (decide := true) only [go_sem]
      intros
      refine hK _ ?_ ?_ <;> simp (decide := true) only [go_sem, replicate_map']
    refine vSC_ret (hR1 _ (wEnd_can ?_))
    obtain rfl := Option.some.inj h
    simp (decide := true) only [go_sem, replicate_map']
  · replace h := iteO_f hc1 h
    refine vSC_done (hN1 _ ?_)
    obtain ⟨x1, e2, h⟩ := bindO_some h
    refine vSC_mid (some ([.loc 14 (.loc 0 .nil)], [(4, 1200, [.keep])])) [(16, .one (.d (.int .i64 0))), (15, .one (.d (.int .i64 (x1.length : Int)))), (14, .one (.d (.list 1 (List.map rS x1)))), (4, .one (.own (.loc 1200 .nil) 3 (List.map rI ([] : List Int))))] (fun K hK => ?_) ?_
    · skip
      simp (decide := true) only [go_sem, (F35_post e2)]
      intros
      refine hK _ ?_ ?_ <;> simp (decide := true) only [go_sem, replicate_map', (F35_post e2)]
    obtain ⟨k2, hk2, h⟩ := letJ_some h
    refine vSC_blockJ [4] (fun σ => ∃ (v3 : List Int), σ = [(4, .one (.own (.loc 1200 .nil) 3 (List.map rI v3)))] ∧ k2 v3 = some r) ?_ (fun K2 hN2 hB2 hE2 hR2 => ?_)
    · rintro σ ⟨v3, rfl, h⟩
      rw [hk2] at h
      refine vSC_mid (some ([], [(2, 1100, [.keep])])) [(3, .one (.d (.bool true))), (2, .one (.own (.loc 1100 .nil) 3 (List.map rI v3)))] (fun K hK => ?_) ?_
      · skip
        simp (decide := true) only [go_sem]
        intros
        refine hK _ ?_ ?_ <;> simp (decide := true) only [go_sem, replicate_map']
      refine vSC_ret (wEnd_can ?_)
      obtain rfl := Option.some.inj h
      simp (decide := true) only [go_sem, replicate_map']
    refine vSC_loop [] (fun n_ σ => ∃ (u4 : Int) (u5 : List Int), σ = [(16, .one (.d (.int .i64 u4))), (15, .one (.d (.int .i64 (x1.length : Int)))), (14, .one (.d (.list 1 (List.map rS x1)))), (4, .one (.own (.loc 1200 .nil) 3 (List.map rI u5)))] ∧ spec_l25Parse_L1 F x1 k2 n_ u4 u5 = some r) F ?_ ?_
    · refine ⟨_, _, ?_, h⟩
      first | rfl | (simp (decide := true) only [go_sem, replicate_map'])
    · rintro n_ σ ⟨u4, u5, rfl, h⟩ K3 hN3 hE3 hR3
      rcases n_ with _ | n_
      · cases h
      · rw [spec_l25Parse_L1] at h
        refine vSC_mid none [(17, .one (.d (.bool (decide (u4 < (x1.length : Int)))))), (16, .one (.d (.int .i64 u4))), (15, .one (.d (.int .i64 (x1.length : Int)))), (14, .one (.d (.list 1 (List.map rS x1)))), (4, .one (.own (.loc 1200 .nil) 3 (List.map rI u5)))] (fun K hK => ?_) ?_
        · skip
          simp (decide := true) only [go_sem]
          intros
          refine hK _ ?_ ?_ <;> simp (decide := true) only [go_sem, replicate_map']
        refine vSC_condB (decide (u4 < (x1.length : Int))) (by simp (decide := true) only [go_sem]) (fun K4 hN4 hE4 hR4 => ⟨fun hc4 => ?_, fun hc4 => ?_⟩)
        · replace h := iteO_t hc4 h
          refine vSC_done (hN4 _ ?_)
          refine vSC_block (fun K5 hN5 hB5 hE5 hR5 => ?_)
          obtain ⟨g6, h⟩ := guardO_some h
          refine vSC_mid none [(16, .one (.d (.int .i64 u4))), (15, .one (.d (.int .i64 (x1.length : Int)))), (14, .one (.d (.list 1 (List.map rS x1)))), (6, .one (.d (.str (B (x1.getD u4.toNat default))))), (4, .one (.own (.loc 1200 .nil) 3 (List.map rI u5)))] (fun K hK => ?_) ?_
          · skip
            simp (decide := true) only [go_sem, g6]
            intros
            refine hK _ ?_ ?_ <;> simp (decide := true) only [go_sem, replicate_map', g6]
          obtain ⟨x7, e8, h⟩ := bindO_some h
          refine vSC_mid none [(16, .one (.d (.int .i64 u4))), (15, .one (.d (.int .i64 (x1.length : Int)))), (14, .one (.d (.list 1 (List.map rS x1)))), (8, .one (.d (.bool x7.2))), (7, .one (.d (.int .i64 x7.1))), (4, .one (.own (.loc 1200 .nil) 3 (List.map rI u5)))] (fun K hK => ?_) ?_
          · skip
            simp (decide := true) only [go_sem, (F36_post e8)]
            intros
            refine hK _ ?_ ?_ <;> simp (decide := true) only [go_sem, replicate_map', (F36_post e8)]
          refine vSC_mid none [(26, .one (.d (.bool (!x7.2)))), (16, .one (.d (.int .i64 u4))), (15, .one (.d (.int .i64 (x1.length : Int)))), (14, .one (.d (.list 1 (List.map rS x1)))), (7, .one (.d (.int .i64 x7.1))), (4, .one (.own (.loc 1200 .nil) 3 (List.map rI u5)))] (fun K hK => ?_) ?_
          · skip
            simp (decide := true) only [go_sem]
            intros
            refine hK _ ?_ ?_ <;> simp (decide := true) only [go_sem, replicate_map']
          refine vSC_condB (!x7.2) (by simp (decide := true) only [go_sem]) (fun K6 hN6 hE6 hR6 => ⟨fun hc6 => ?_, fun hc6 => ?_⟩)
          · replace h := iteO_t hc6 h
            refine vSC_mid (some ([], [(2, 1100, [.own 3])])) [(3, .one (.d (.bool false))), (2, .one (.own (.loc 1100 .nil) 3 (List.map rI [])))] (fun K hK => ?_) ?_
            · skip
              simp (decide := true) only [go_sem]
              intros
              refine hK _ ?_ ?_ <;> simp (decide := true) only [go_sem, replicate_map']
            refine vSC_ret (hR6 _ (hR5 _ (hR3 _ (hR2 _ (wEnd_can ?_)))))
            obtain rfl := Option.some.inj h
            simp (decide := true) only [go_sem, replicate_map']
          · replace h := iteO_f hc6 h
            refine vSC_done (hN6 _ ?_)
            obtain ⟨g9, h⟩ := guardO_some h
            refine vSC_mid (some ([], [(4, 1200, [.keep])])) [(16, .one (.d (.int .i64 u4))), (15, .one (.d (.int .i64 (x1.length : Int)))), (14, .one (.d (.list 1 (List.map rS x1)))), (4, .one (.own (.loc 1200 .nil) 3 (List.map rI (u5 ++ [x7.1]))))] (fun K hK => ?_) ?_
            · skip
              simp (decide := true) only [go_sem, g9]
              intros
              refine hK _ ?_ ?_ <;> simp (decide := true) only [go_sem, replicate_map', g9]
            refine vSC_done (hN5 _ ?_)
            refine vSC_mid none [(16, .one (.d (.int .i64 (IntKind.i64.wrap (u4 + 1))))), (15, .one (.d (.int .i64 (x1.length : Int)))), (14, .one (.d (.list 1 (List.map rS x1)))), (4, .one (.own (.loc 1200 .nil) 3 (List.map rI (u5 ++ [x7.1]))))] (fun K hK => ?_) ?_
            · skip
              simp (decide := true) only [go_sem]
              intros
              refine hK _ ?_ ?_ <;> simp (decide := true) only [go_sem, replicate_map']
            refine vSC_done (hN3 _ ⟨n_, Nat.lt_succ_self n_, _, _, ?_, h⟩)
            first | rfl | (simp (decide := true) only [go_sem, replicate_map'])
        · replace h := iteO_f hc4 h
          refine vSC_exit (hE4 _ _ (hE3 _ _ (hB2 _ ⟨_, ?_, h⟩)))
          first | rfl | (simp (decide := true) only [go_sem, replicate_map'])
end Go.VS
namespace Go.VS
open Go Go.VS Go.Proofs.Tryd
set_option maxRecDepth 100000
set_option maxHeartbeats 2000000
set_option linter.unusedVariables false
set_option linter.unusedSimpArgs false

def k8 : Nat → List Nat
  | 0 => [2, 0]
  | 1 => [4, 2]
  | 2 => [17, 4, 2]
  | 3 => [3, 2]
  | 4 => [6, 5, 4, 2]
  | 5 => [8, 7, 6, 5, 4, 2]
  | 6 => [10, 9, 8, 7, 6, 5, 4, 2]
  | 7 => [12, 11, 10, 9, 8, 7, 6, 5, 2]
  | 8 => [60, 11, 9, 7, 5, 2]
  | 9 => [3, 2]
  | 10 => [3, 2]
  | _ => []
def l8 : Nat → List Nat
  | _ => []
attribute [go_sem] k8 l8
noncomputable def F8 (F : Nat) : FS := FS.of [⟨false, []⟩] (fun (p : {p : (List UInt8) × (GEntry × Bool) // spec_ParseEntry F p.1 = some p.2}) => [.one (.d (.str (B p.1.1)))]) (fun p r o => r = .tup [.agg [.d (.int .i64 p.1.2.1.fNow), .own (.loc 1 .nil) 3 (List.map rI p.1.2.1.fTies), .own (.loc 2 .nil) 3 (List.map rI p.1.2.1.fNodes), .own (.loc 3 .nil) 3 (List.map rI p.1.2.1.fValues)], .one (.d (.bool p.1.2.2))])
@[go_sem] theorem F8_rw (F : Nat) : (F8 F).rw = [⟨false, []⟩] := rfl
theorem F8_post {F : Nat} {a0 : List UInt8} {r : GEntry × Bool} (h : spec_ParseEntry F a0 = some r) : (F8 F).post [.one (.d (.str (B a0)))] = some (fun r' o => r' = .tup [.agg [.d (.int .i64 r.1.fNow), .own (.loc 1 .nil) 3 (List.map rI r.1.fTies), .own (.loc 2 .nil) 3 (List.map rI r.1.fNodes), .own (.loc 3 .nil) 3 (List.map rI r.1.fValues)], .one (.d (.bool r.2))]) :=
  FS.of_post (by rintro ⟨⟨a0, r⟩, h⟩ ⟨⟨b0, s⟩, g⟩ e; have e1 : (a0) = (b0) := (by simp [rI_inj, ru8_inj, rS_inj, rB_inj, B_inj, rGEntry_inj, rGNode_inj, rGTie_inj, rGShow_inj, rGState_inj] at e; simp [e]); cases e1; obtain rfl := Option.some.inj ((h).symm.trans g); rfl) (⟨(a0, r), h⟩ : {p : (List UInt8) × (GEntry × Bool) // spec_ParseEntry F p.1 = some p.2})
noncomputable def S8 (F : Nat) : Sys := ⟨cx, lookX [(35, F35 F), (36, F36 F), (37, F37 F)], 67, k8, l8⟩
@[go_sem] theorem S8_C (F : Nat) : (S8 F).C = cx := rfl
@[go_sem] theorem S8_X (F : Nat) : (S8 F).X = lookX [(35, F35 F), (36, F36 F), (37, F37 F)] := rfl
@[go_sem] theorem S8_n (F : Nat) : (S8 F).n = 67 := rfl
@[go_sem] theorem S8_keep (F : Nat) : (S8 F).keep = k8 := rfl
@[go_sem] theorem S8_loopKeep (F : Nat) : (S8 F).loopKeep = l8 := rfl
theorem ok8 (F : Nat) : OkF cx 8 (F8 F) := by
  refine OkF.of (Enters.of func8 rfl (by decide)) ?_
  rintro ⟨⟨a0, r⟩, h⟩
  dsimp only at h
  refine Okp.canon [.keep, .own 3, .own 3, .own 3, .keep] ?_
  refine fun_v (S := S8 F) (GoodT.good (GoodT.cons (ok35 F) (GoodT.cons (ok36 F) (GoodT.cons (ok37 F) GoodT.nil))) rfl) func8 rfl rfl (by simp [f8]) (by kernel_rfl) false ?_
  dsimp only [f8, List.map, AV.opn, vFun, slim, slimOps, slimOp, gs_zero, gs_succ, creators, creator, creates, Option.map, Option.bind, entry, entryFrom, List.append, List.length, List.cons_append, List.nil_append, Nat.reduceAdd]
  rw [spec_ParseEntry] at h
  refine vSC_mid (some ([], [(2, 1100, [.keep, .own 3, .own 3, .own 3])])) [(2, .one (.ptr (.loc 1100 .nil) 0 [.d (.int .i64 0), .own (.loc 1102 .nil) 3 (List.map rI []), .own (.loc 1103 .nil) 3 (List.map rI []), .own (.loc 1104 .nil) 3 (List.map rI [])])), (0, .one (.d (.str (B a0))))] (fun K hK => ?_) ?_
  · skip
    simp (decide := true) only [go_sem]
    intros
    refine hK _ ?_ ?_ <;> simp (decide := true) only [go_sem, replicate_map']
  obtain ⟨x1, e2, h⟩ := bindO_some h
  refine vSC_mid (some ([.loc 14 (.loc 0 .nil)], [(2, 1100, [.keep, .keep, .keep, .keep])])) [(4, .one (.d (.list 1 (List.map rS x1)))), (2, .one (.ptr (.loc 1100 .nil) 0 [.d (.int .i64 0), .own (.loc 1102 .nil) 3 (List.map rI []), .own (.loc 1103 .nil) 3 (List.map rI []), .own (.loc 1104 .nil) 3 (List.map rI [])]))] (fun K hK => ?_) ?_
  · skip
    simp (decide := true) only [go_sem, (F35_post e2)]
    intros
    refine hK _ ?_ ?_ <;> simp (decide := true) only [go_sem, replicate_map', (F35_post e2)]
  refine vSC_mid none [(17, .one (.d (.bool ((x1.length : Int) != 4)))), (4, .one (.d (.list 1 (List.map rS x1)))), (2, .one (.ptr (.loc 1100 .nil) 0 [.d (.int .i64 0), .own (.loc 1102 .nil) 3 (List.map rI []), .own (.loc 1103 .nil) 3 (List.map rI []), .own (.loc 1104 .nil) 3 (List.map rI [])]))] (fun K hK => ?_) ?_
  · skip
    simp (decide := true) only [go_sem]
    intros
    refine hK _ ?_ ?_ <;> simp (decide := true) only [go_sem, replicate_map']
  refine vSC_condB ((x1.length : Int) != 4) (by simp (decide := true) only [go_sem]) (fun K1 hN1 hE1 hR1 => ⟨fun hc1 => ?_, fun hc1 => ?_⟩)
  · replace h := iteO_t hc1 h
    refine vSC_mid (some ([], [(2, 1100, [.keep, .own 3, .own 3, .own 3])])) [(3, .one (.d (.bool false))), (2, .one (.ptr (.loc 1100 .nil) 0 [.d (.int .i64 0), .own (.loc 1102 .nil) 3 (List.map rI []), .own (.loc 1103 .nil) 3 (List.map rI []), .own (.loc 1104 .nil) 3 (List.map rI [])]))] (fun K hK => ?_) ?_
    · skip
      simp (decide := true) only [go_sem]
      intros
      refine hK _ ?_ ?_ <;> simp (decide := true) only [go_sem, replicate_map']
    refine vSC_ret (hR1 _ (wEnd_can ?_))
    obtain rfl := Option.some.inj h
    simp (decide := true) only [go_sem, replicate_map']
  · replace h := iteO_f hc1 h
    refine vSC_done (hN1 _ ?_)
    obtain ⟨g3, h⟩ := guardO_some h
    obtain ⟨x4, e5, h⟩ := bindO_some h
    refine vSC_mid none [(6, .one (.d (.bool x4.2))), (5, .one (.d (.int .i64 x4.1))), (4, .one (.d (.list 1 (List.map rS x1)))), (2, .one (.ptr (.loc 1100 .nil) 0 [.d (.int .i64 0), .own (.loc 1102 .nil) 3 (List.map rI []), .own (.loc 1103 .nil) 3 (List.map rI []), .own (.loc 1104 .nil) 3 (List.map rI [])]))] (fun K hK => ?_) ?_
    · skip
      simp (decide := true) only [go_sem, g3, (F36_post e5)]
      intros
      refine hK _ ?_ ?_ <;> simp (decide := true) only [go_sem, replicate_map', g3, (F36_post e5)]
    obtain ⟨g6, h⟩ := guardO_some h
    obtain ⟨x7, e8, h⟩ := bindO_some h
    refine vSC_mid (some ([], [(7, 1350, [.keep]), (2, 1100, [.keep, .keep, .keep, .keep])])) [(8, .one (.d (.bool x7.2))), (7, .one (.own (.loc 1350 .nil) 3 (List.map rI x7.1))), (6, .one (.d (.bool x4.2))), (5, .one (.d (.int .i64 x4.1))), (4, .one (.d (.list 1 (List.map rS x1)))), (2, .one (.ptr (.loc 1100 .nil) 0 [.d (.int .i64 0), .own (.loc 1102 .nil) 3 (List.map rI []), .own (.loc 1103 .nil) 3 (List.map rI []), .own (.loc 1104 .nil) 3 (List.map rI [])]))] (fun K hK => ?_) ?_
    · skip
      simp (decide := true) only [go_sem, g6, (F37_post e8)]
      intros
      refine hK _ ?_ ?_ <;> simp (decide := true) only [go_sem, replicate_map', g6, (F37_post e8)]
    obtain ⟨g9, h⟩ := guardO_some h
    obtain ⟨x10, e11, h⟩ := bindO_some h
    refine vSC_mid (some ([], [(9, 1450, [.keep]), (7, 1350, [.keep]), (2, 1100, [.keep, .keep, .keep, .keep])])) [(10, .one (.d (.bool x10.2))), (9, .one (.own (.loc 1450 .nil) 3 (List.map rI x10.1))), (8, .one (.d (.bool x7.2))), (7, .one (.own (.loc 1350 .nil) 3 (List.map rI x7.1))), (6, .one (.d (.bool x4.2))), (5, .one (.d (.int .i64 x4.1))), (4, .one (.d (.list 1 (List.map rS x1)))), (2, .one (.ptr (.loc 1100 .nil) 0 [.d (.int .i64 0), .own (.loc 1102 .nil) 3 (List.map rI []), .own (.loc 1103 .nil) 3 (List.map rI []), .own (.loc 1104 .nil) 3 (List.map rI [])]))] (fun K hK => ?_) ?_
    · skip
      simp (decide := true) only [go_sem, g9, (F37_post e11)]
      intros
      refine hK _ ?_ ?_ <;> simp (decide := true) only [go_sem, replicate_map', g9, (F37_post e11)]
    obtain ⟨g12, h⟩ := guardO_some h
    obtain ⟨x13, e14, h⟩ := bindO_some h
    refine vSC_mid (some ([], [(11, 1550, [.keep]), (9, 1450, [.keep]), (7, 1350, [.keep]), (2, 1100, [.keep, .keep, .keep, .keep])])) [(12, .one (.d (.bool x13.2))), (11, .one (.own (.loc 1550 .nil) 3 (List.map rI x13.1))), (10, .one (.d (.bool x10.2))), (9, .one (.own (.loc 1450 .nil) 3 (List.map rI x10.1))), (8, .one (.d (.bool x7.2))), (7, .one (.own (.loc 1350 .nil) 3 (List.map rI x7.1))), (6, .one (.d (.bool x4.2))), (5, .one (.d (.int .i64 x4.1))), (2, .one (.ptr (.loc 1100 .nil) 0 [.d (.int .i64 0), .own (.loc 1102 .nil) 3 (List.map rI []), .own (.loc 1103 .nil) 3 (List.map rI []), .own (.loc 1104 .nil) 3 (List.map rI [])]))] (fun K hK => ?_) ?_
    · skip
      simp (decide := true) only [go_sem, g12, (F37_post e14)]
      intros
      refine hK _ ?_ ?_ <;> simp (decide := true) only [go_sem, replicate_map', g12, (F37_post e14)]
    refine vSC_mid none [(60, .one (.d (.bool ((((!x4.2) || (!x7.2)) || (!x10.2)) || (!x13.2))))), (11, .one (.own (.loc 1550 .nil) 3 (List.map rI x13.1))), (9, .one (.own (.loc 1450 .nil) 3 (List.map rI x10.1))), (7, .one (.own (.loc 1350 .nil) 3 (List.map rI x7.1))), (5, .one (.d (.int .i64 x4.1))), (2, .one (.ptr (.loc 1100 .nil) 0 [.d (.int .i64 0), .own (.loc 1102 .nil) 3 (List.map rI []), .own (.loc 1103 .nil) 3 (List.map rI []), .own (.loc 1104 .nil) 3 (List.map rI [])]))] (fun K hK => ?_) ?_
    · skip
      cases hp1 : (!x4.2)
      · skip
        cases hp2 : (!x7.2)
        · skip
          cases hp3 : (!x10.2)
          · skip
            simp (decide := true) only [go_sem, hp1, hp2, hp3]
            intros
            refine hK _ ?_ ?_ <;> simp (decide := true) only [go_sem, replicate_map', hp1, hp2, hp3]
          · skip
            simp (decide := true) only [go_sem, hp1, hp2, hp3]
            intros
            refine hK _ ?_ ?_ <;> simp (decide := true) only [go_sem, replicate_map', hp1, hp2, hp3]
        · skip
          simp (decide := true) only [go_sem, hp1, hp2]
          intros
          refine hK _ ?_ ?_ <;> simp (decide := true) only [go_sem, replicate_map', hp1, hp2]
      · skip
        simp (decide := true) only [go_sem, hp1]
        intros
        refine hK _ ?_ ?_ <;> simp (decide := true) only [go_sem, replicate_map', hp1]
    refine vSC_condB ((((!x4.2) || (!x7.2)) || (!x10.2)) || (!x13.2)) (by simp (decide := true) only [go_sem]) (fun K2 hN2 hE2 hR2 => ⟨fun hc2 => ?_, fun hc2 => ?_⟩)
    · replace h := iteO_t hc2 h
      refine vSC_mid (some ([], [(2, 1100, [.keep, .own 3, .own 3, .own 3])])) [(3, .one (.d (.bool false))), (2, .one (.ptr (.loc 1100 .nil) 0 [.d (.int .i64 0), .own (.loc 1102 .nil) 3 (List.map rI []), .own (.loc 1103 .nil) 3 (List.map rI []), .own (.loc 1104 .nil) 3 (List.map rI [])]))] (fun K hK => ?_) ?_
      · skip
        simp (decide := true) only [go_sem]
        intros
        refine hK _ ?_ ?_ <;> simp (decide := true) only [go_sem, replicate_map']
      refine vSC_ret (hR2 _ (wEnd_can ?_))
      obtain rfl := Option.some.inj h
      simp (decide := true) only [go_sem, replicate_map']
    · replace h := iteO_f hc2 h
      refine vSC_done (hN2 _ ?_)
      refine vSC_mid (some ([], [(2, 1100, [.keep, .keep, .keep, .keep])])) [(3, .one (.d (.bool true))), (2, .one (.ptr (.loc 1100 .nil) 0 [.d (.int .i64 x4.1), .own (.loc 1102 .nil) 3 (List.map rI x7.1), .own (.loc 1103 .nil) 3 (List.map rI x10.1), .own (.loc 1104 .nil) 3 (List.map rI x13.1)]))] (fun K hK => ?_) ?_
      · skip
        simp (decide := true) only [go_sem]
        intros
        refine hK _ ?_ ?_ <;> simp (decide := true) only [go_sem, replicate_map']
      refine vSC_ret (wEnd_can ?_)
      obtain rfl := Option.some.inj h
      simp (decide := true) only [go_sem, replicate_map']
end Go.VS
namespace Go.VS
open Go Go.VS Go.Proofs Go.Proofs.Tryd Go.RowKit
set_option linter.unusedVariables false
set_option linter.unusedSimpArgs false

noncomputable def F71 (F : Nat) : FS := FS.of [⟨false, []⟩, ⟨false, []⟩] (fun (p : {p : (List UInt8) × Int × Int // lib_IndexByte F p.1 p.2.1 = some p.2.2}) => [.one (.d (.str (B p.1.1))), .one (.d (.int .u8 p.1.2.1))]) (fun p r o => r = .one (.d (.int .i64 p.1.2.2)))
@[go_sem] theorem F71_rw (F : Nat) : (F71 F).rw = [⟨false, []⟩, ⟨false, []⟩] := rfl
theorem F71_post {F : Nat} {a0 : List UInt8} {a1 : Int} {r : Int} (h : lib_IndexByte F a0 a1 = some r) : (F71 F).post [.one (.d (.str (B a0))), .one (.d (.int .u8 a1))] = some (fun r' o => r' = .one (.d (.int .i64 r))) :=
  FS.of_post (by rintro ⟨⟨a0, a1, r⟩, h⟩ ⟨⟨b0, b1, s⟩, g⟩ e; have e1 : (a0, a1) = (b0, b1) := (by simp [rI_inj, ru8_inj, rS_inj, rB_inj, B_inj, rGEntry_inj, rGNode_inj, rGTie_inj, rGShow_inj, rGState_inj] at e; simp [e]); cases e1; obtain rfl := Option.some.inj ((h).symm.trans g); rfl) (⟨(a0, a1, r), h⟩ : {p : (List UInt8) × Int × Int // lib_IndexByte F p.1 p.2.1 = some p.2.2})
theorem ok71 (F : Nat) : OkF cx 71 (F71 F) := by
  refine OkF.of (Enters.of func71 rfl (by decide)) ?_
  rintro ⟨⟨a0, a1, r⟩, h⟩
  dsimp only at h
  unfold lib_IndexByte at h
  obtain rfl := Option.some.inj h
  dsimp only
  refine okp_scalar [.str (B a0), .int .u8 a1] #[.string (B a0), .int .u8 a1] (fun w Φ vs hs hv => ?_) (fun w hG => ?_) rfl
  · exact two_vals hs hv (fun v h => by cases h; rfl) (fun v h => by cases h; rfl)
  · refine (Tryd.strings_IndexByte (B a0) a1 w).mono ?_
    rintro e w' ⟨rfl, rfl⟩
    rw [B_data]
    exact ⟨_, rfl, fun w Φ H => .one _ _ (.d _ _ (.int _ _)), Below.refl _ _⟩
end Go.VS
namespace Go.VS
open Go Go.VS Go.Proofs.Tryd
set_option maxRecDepth 100000
set_option maxHeartbeats 2000000
set_option linter.unusedVariables false
set_option linter.unusedSimpArgs false

def k38 : Nat → List Nat
  | 0 => [1, 0]
  | 1 => [5, 1, 0]
  | 2 => [6, 5, 1, 0]
  | 3 => [7, 6, 5, 1, 0]
  | 4 => [11, 7, 6, 5, 1, 0]
  | 5 => [7, 6, 5, 1, 0]
  | 6 => [19, 7, 6, 5, 1, 0]
  | 7 => [7, 6, 5, 1, 0]
  | 8 => [4]
  | _ => []
def l38 : Nat → List Nat
  | 0 => [7, 6, 5, 1, 0]
  | _ => []
attribute [go_sem] k38 l38
noncomputable def F38 (F : Nat) : FS := FS.of [⟨false, []⟩, ⟨false, []⟩] (fun (p : {p : (List UInt8) × (List UInt8) × (List (List UInt8)) // impl_SplitAny F p.1 p.2.1 = some p.2.2}) => [.one (.d (.str (B p.1.1))), .one (.d (.str (B p.1.2.1)))]) (fun p r o => r = .one (.own (.loc 0 .nil) 9 (List.map rS p.1.2.2)))
@[go_sem] theorem F38_rw (F : Nat) : (F38 F).rw = [⟨false, []⟩, ⟨false, []⟩] := rfl
theorem F38_post {F : Nat} {a0 : List UInt8} {a1 : List UInt8} {r : List (List UInt8)} (h : impl_SplitAny F a0 a1 = some r) : (F38 F).post [.one (.d (.str (B a0))), .one (.d (.str (B a1)))] = some (fun r' o => r' = .one (.own (.loc 0 .nil) 9 (List.map rS r))) :=
  FS.of_post (by rintro ⟨⟨a0, a1, r⟩, h⟩ ⟨⟨b0, b1, s⟩, g⟩ e; have e1 : (a0, a1) = (b0, b1) := (by simp [rI_inj, ru8_inj, rS_inj, rB_inj, B_inj, rGEntry_inj, rGNode_inj, rGTie_inj, rGShow_inj, rGState_inj] at e; simp [e]); cases e1; obtain rfl := Option.some.inj ((h).symm.trans g); rfl) (⟨(a0, a1, r), h⟩ : {p : (List UInt8) × (List UInt8) × (List (List UInt8)) // impl_SplitAny F p.1 p.2.1 = some p.2.2})
noncomputable def S38 (F : Nat) : Sys := ⟨cx, lookX [(71, F71 F)], 35, k38, l38⟩
@[go_sem] theorem S38_C (F : Nat) : (S38 F).C = cx := rfl
@[go_sem] theorem S38_X (F : Nat) : (S38 F).X = lookX [(71, F71 F)] := rfl
@[go_sem] theorem S38_n (F : Nat) : (S38 F).n = 35 := rfl
@[go_sem] theorem S38_keep (F : Nat) : (S38 F).keep = k38 := rfl
@[go_sem] theorem S38_loopKeep (F : Nat) : (S38 F).loopKeep = l38 := rfl
theorem ok38 (F : Nat) : OkF cx 38 (F38 F) := by
  refine OkF.of (Enters.of func38 rfl (by decide)) ?_
  rintro ⟨⟨a0, a1, r⟩, h⟩
  dsimp only at h
  refine Okp.canon [.own 9] ?_
  refine fun_v (S := S38 F) (GoodT.good (GoodT.cons (ok71 F) GoodT.nil) rfl) func38 rfl rfl (by simp [f38]) (by kernel_rfl) false ?_
  dsimp only [f38, List.map, AV.opn, vFun, slim, slimOps, slimOp, gs_zero, gs_succ, creators, creator, creates, Option.map, Option.bind, entry, entryFrom, List.append, List.length, List.cons_append, List.nil_append, Nat.reduceAdd]
  rw [impl_SplitAny] at h
  refine vSC_mid none [(1, .one (.d (.str (B a1)))), (0, .one (.d (.str (B a0))))] (fun K hK => ?_) ?_
  · skip
    simp (decide := true) only [go_sem]
    intros
    refine hK _ ?_ ?_ <;> simp (decide := true) only [go_sem, replicate_map']
  refine vSC_mid (some ([], [(5, 1250, [.own 9])])) [(5, .one (.own (.loc 1250 .nil) 9 (List.map rS []))), (1, .one (.d (.str (B a1)))), (0, .one (.d (.str (B a0))))] (fun K hK => ?_) ?_
  · skip
    simp (decide := true) only [go_sem]
    intros
    refine hK _ ?_ ?_ <;> simp (decide := true) only [go_sem, replicate_map']
  refine vSC_mid none [(6, .one (.d (.int .i64 0))), (5, .one (.own (.loc 1250 .nil) 9 (List.map rS []))), (1, .one (.d (.str (B a1)))), (0, .one (.d (.str (B a0))))] (fun K hK => ?_) ?_
  · skip
    simp (decide := true) only [go_sem]
    intros
    refine hK _ ?_ ?_ <;> simp (decide := true) only [go_sem, replicate_map']
  refine vSC_mid none [(7, .one (.d (.int .i64 0))), (6, .one (.d (.int .i64 0))), (5, .one (.own (.loc 1250 .nil) 9 (List.map rS []))), (1, .one (.d (.str (B a1)))), (0, .one (.d (.str (B a0))))] (fun K hK => ?_) ?_
  · skip
    simp (decide := true) only [go_sem]
    intros
    refine hK _ ?_ ?_ <;> simp (decide := true) only [go_sem, replicate_map']
  obtain ⟨k1, hk1, h⟩ := letJ_some h
  refine vSC_blockJ [6, 5, 0] (fun σ => ∃ (v1 : Int) (v2 : List (List UInt8)), σ = [(6, .one (.d (.int .i64 v1))), (5, .one (.own (.loc 1250 .nil) 9 (List.map rS v2))), (0, .one (.d (.str (B a0))))] ∧ k1 v1 v2 = some r) ?_ (fun K1 hN1 hB1 hE1 hR1 => ?_)
  · rintro σ ⟨v1, v2, rfl, h⟩
    rw [hk1] at h
    obtain ⟨g3, h⟩ := guardO_some h
    obtain ⟨g4, h⟩ := guardO_some h
    refine vSC_mid (some ([], [(4, 1200, [.keep])])) [(4, .one (.own (.loc 1200 .nil) 9 (List.map rS (v2 ++ [(a0.drop v1.toNat)]))))] (fun K hK => ?_) ?_
    · skip
      simp (decide := true) only [go_sem, g3, g4]
      intros
      refine hK _ ?_ ?_ <;> simp (decide := true) only [go_sem, replicate_map', g3, g4]
    refine vSC_ret (wEnd_can ?_)
    obtain rfl := Option.some.inj h
    simp (decide := true) only [go_sem, replicate_map']
  refine vSC_loop [] (fun n_ σ => ∃ (u5 : Int) (u6 : Int) (u7 : List (List UInt8)), σ = [(7, .one (.d (.int .i64 u5))), (6, .one (.d (.int .i64 u6))), (5, .one (.own (.loc 1250 .nil) 9 (List.map rS u7))), (1, .one (.d (.str (B a1)))), (0, .one (.d (.str (B a0))))] ∧ impl_SplitAny_L1 F a0 a1 k1 n_ u5 u6 u7 = some r) F ?_ ?_
  · refine ⟨_, _, _, ?_, h⟩
    first | rfl | (simp (decide := true) only [go_sem, replicate_map'])
  · rintro n_ σ ⟨u5, u6, u7, rfl, h⟩ K2 hN2 hE2 hR2
    rcases n_ with _ | n_
    · cases h
    · rw [impl_SplitAny_L1] at h
      refine vSC_mid none [(11, .one (.d (.bool (decide (u5 < (a0.length : Int)))))), (7, .one (.d (.int .i64 u5))), (6, .one (.d (.int .i64 u6))), (5, .one (.own (.loc 1250 .nil) 9 (List.map rS u7))), (1, .one (.d (.str (B a1)))), (0, .one (.d (.str (B a0))))] (fun K hK => ?_) ?_
      · skip
        simp (decide := true) only [go_sem]
        intros
        refine hK _ ?_ ?_ <;> simp (decide := true) only [go_sem, replicate_map']
      refine vSC_condB (decide (u5 < (a0.length : Int))) (by simp (decide := true) only [go_sem]) (fun K3 hN3 hE3 hR3 => ⟨fun hc3 => ?_, fun hc3 => ?_⟩)
      · replace h := iteO_t hc3 h
        refine vSC_done (hN3 _ ?_)
        refine vSC_block (fun K4 hN4 hB4 hE4 hR4 => ?_)
        obtain ⟨g8, h⟩ := guardO_some h
        obtain ⟨x9, e10, h⟩ := bindO_some h
        refine vSC_mid none [(19, .one (.d (.bool (decide (x9 ≥ 0))))), (7, .one (.d (.int .i64 u5))), (6, .one (.d (.int .i64 u6))), (5, .one (.own (.loc 1250 .nil) 9 (List.map rS u7))), (1, .one (.d (.str (B a1)))), (0, .one (.d (.str (B a0))))] (fun K hK => ?_) ?_
        · skip
          simp (decide := true) only [go_sem, g8, (F71_post e10)]
          intros
          refine hK _ ?_ ?_ <;> simp (decide := true) only [go_sem, replicate_map', g8, (F71_post e10)]
        obtain ⟨k5, hk5, h⟩ := letJ_some h
        refine vSC_condJ (decide (x9 ≥ 0)) (by simp (decide := true) only [go_sem]) [7, 6, 5, 1, 0] (fun σ => ∃ (v11 : Int) (v12 : List (List UInt8)), σ = [(7, .one (.d (.int .i64 u5))), (6, .one (.d (.int .i64 v11))), (5, .one (.own (.loc 1250 .nil) 9 (List.map rS v12))), (1, .one (.d (.str (B a1)))), (0, .one (.d (.str (B a0))))] ∧ k5 v11 v12 = some r) ?_ (fun K5 hN5 hE5 hR5 => ⟨fun hc5 => ?_, fun hc5 => ?_⟩)
        · rintro σ ⟨v11, v12, rfl, h⟩
          rw [hk5] at h
          refine vSC_done (hN4 _ ?_)
          refine vSC_mid none [(7, .one (.d (.int .i64 (IntKind.i64.wrap (u5 + 1))))), (6, .one (.d (.int .i64 v11))), (5, .one (.own (.loc 1250 .nil) 9 (List.map rS v12))), (1, .one (.d (.str (B a1)))), (0, .one (.d (.str (B a0))))] (fun K hK => ?_) ?_
          · skip
            simp (decide := true) only [go_sem]
            intros
            refine hK _ ?_ ?_ <;> simp (decide := true) only [go_sem, replicate_map']
          refine vSC_done (hN2 _ ⟨n_, Nat.lt_succ_self n_, _, _, _, ?_, h⟩)
          first | rfl | (simp (decide := true) only [go_sem, replicate_map'])
        · replace h := iteO_t hc5 h
          obtain ⟨g13, h⟩ := guardO_some h
          obtain ⟨g14, h⟩ := guardO_some h
          refine vSC_mid (some ([], [(5, 1250, [.keep])])) [(7, .one (.d (.int .i64 u5))), (6, .one (.d (.int .i64 (IntKind.i64.wrap (u5 + 1))))), (5, .one (.own (.loc 1250 .nil) 9 (List.map rS (u7 ++ [((a0.take u5.toNat).drop u6.toNat)])))), (1, .one (.d (.str (B a1)))), (0, .one (.d (.str (B a0))))] (fun K hK => ?_) ?_
          · skip
            simp (decide := true) only [go_sem, g13, g14]
            intros
            refine hK _ ?_ ?_ <;> simp (decide := true) only [go_sem, replicate_map', g13, g14]
          refine vSC_done (hN5 _ ⟨_, _, ?_, h⟩)
          first | rfl | (simp (decide := true) only [go_sem, replicate_map'])
        · replace h := iteO_f hc5 h
          refine vSC_done (hN5 _ ⟨_, _, ?_, h⟩)
          first | rfl | (simp (decide := true) only [go_sem, replicate_map'])
      · replace h := iteO_f hc3 h
        refine vSC_exit (hE3 _ _ (hE2 _ _ (hB1 _ ⟨_, _, ?_, h⟩)))
        first | rfl | (simp (decide := true) only [go_sem, replicate_map'])
end Go.VS
namespace Go.VS
open Go Go.VS Go.Proofs Go.Proofs.Tryd Go.RowKit
set_option linter.unusedVariables false
set_option linter.unusedSimpArgs false

noncomputable def F72 (F : Nat) : FS := FS.of [⟨false, []⟩] (fun (p : {p : (List UInt8) × (Int × Bool) // lib_Atoi F p.1 = some p.2}) => [.one (.d (.str (B p.1.1)))]) (fun p r o => r = .tup [.one (.d (.int .i64 p.1.2.1)), .one (.d (.err p.1.2.2))])
@[go_sem] theorem F72_rw (F : Nat) : (F72 F).rw = [⟨false, []⟩] := rfl
theorem F72_post {F : Nat} {a0 : List UInt8} {r : Int × Bool} (h : lib_Atoi F a0 = some r) : (F72 F).post [.one (.d (.str (B a0)))] = some (fun r' o => r' = .tup [.one (.d (.int .i64 r.1)), .one (.d (.err r.2))]) :=
  FS.of_post (by rintro ⟨⟨a0, r⟩, h⟩ ⟨⟨b0, s⟩, g⟩ e; have e1 : (a0) = (b0) := (by simp [rI_inj, ru8_inj, rS_inj, rB_inj, B_inj, rGEntry_inj, rGNode_inj, rGTie_inj, rGShow_inj, rGState_inj] at e; simp [e]); cases e1; obtain rfl := Option.some.inj ((h).symm.trans g); rfl) (⟨(a0, r), h⟩ : {p : (List UInt8) × (Int × Bool) // lib_Atoi F p.1 = some p.2})
theorem ok72 (F : Nat) : OkF cx 72 (F72 F) := by
  refine OkF.of (Enters.of func72 rfl (by decide)) ?_
  rintro ⟨⟨a0, r⟩, h⟩
  dsimp only at h
  unfold lib_Atoi at h
  obtain ⟨hl, h⟩ := guardO_some h
  obtain rfl := Option.some.inj h
  dsimp only
  refine okp_scalar [.str (B a0)] #[.string (B a0)] (fun w Φ vs hs hv => ?_) (fun w hG => ?_) rfl
  · exact one_str hs hv
  · have hs : (B a0).size ≤ 281474976710656 := by rw [B_size]; exact hl
    have hra : ∀ (n : Int) (v : Value) (b : Bool), (∀ w Φ, RC w Φ v (.err b)) → ∀ w Φ H, RA cx w Φ H (.tuple #[.int .i64 n, v]) (.tup [.one (.d (.int .i64 n)), .one (.d (.err b))]) := by
      intro n v b hb w Φ H
      refine .tup _ _ rfl (fun i v' a h1 h2 => ?_)
      rcases i with _ | _ | i
      · simp at h1 h2; subst h1; subst h2; exact .one _ _ (.d _ _ (.int _ _))
      · simp at h1 h2; subst h1; subst h2; exact .one _ _ (.d _ _ (hb _ _))
      · simp at h2
    unfold atoiRes
    cases hd : Lib.atoiAll a0 with
    | ok v =>
      refine (Tryd.strconv_Atoi_ok (B a0) (by omega) v (by rw [B_data]; exact hd) w).mono ?_
      rintro e w' ⟨rfl, hw⟩
      refine ⟨_, rfl, hra v _ false (fun _ _ => .err0), ?_⟩
      rcases hw with rfl | ⟨t, rfl⟩
      · exact Below.refl _ _
      · exact Lib.bytesWorld_below _ _ _
    | range =>
      obtain ⟨tp, p, hv⟩ := hG.rng
      refine (Tryd.strconv_Atoi_range_var (B a0) hs (by rw [B_data]; exact hd) tp p w hv).mono ?_
      rintro e w' ⟨N, rfl, -, -, hb⟩
      rw [B_data]
      exact ⟨_, rfl, hra _ _ true (fun _ _ => .err1 _ _), hb⟩
    | _ =>
      obtain ⟨tp, p, hv⟩ := hG.syn
      refine (Any.strconv_Atoi_syntax_var Tryd.laysC172 (B a0) hs (by rw [B_data]; exact hd) tp p w hv).mono ?_
      rintro e w' ⟨N, rfl, -, -, hb⟩
      exact ⟨_, rfl, hra 0 _ true (fun _ _ => .err1 _ _), hb⟩
end Go.VS
namespace Go.VS
open Go Go.VS Go.Proofs Go.Proofs.Tryd Go.RowKit
set_option linter.unusedVariables false
set_option linter.unusedSimpArgs false

noncomputable def F76 (F : Nat) : FS := FS.of [⟨false, []⟩] (fun (p : {p : Int × (List UInt8) // lib_Itoa F p.1 = some p.2}) => [.one (.d (.int .i64 p.1.1))]) (fun p r o => r = .one (.d (.str (B p.1.2))))
@[go_sem] theorem F76_rw (F : Nat) : (F76 F).rw = [⟨false, []⟩] := rfl
theorem F76_post {F : Nat} {a0 : Int} {r : List UInt8} (h : lib_Itoa F a0 = some r) : (F76 F).post [.one (.d (.int .i64 a0))] = some (fun r' o => r' = .one (.d (.str (B r)))) :=
  FS.of_post (by rintro ⟨⟨a0, r⟩, h⟩ ⟨⟨b0, s⟩, g⟩ e; have e1 : (a0) = (b0) := (by simp [rI_inj, ru8_inj, rS_inj, rB_inj, B_inj, rGEntry_inj, rGNode_inj, rGTie_inj, rGShow_inj, rGState_inj] at e; simp [e]); cases e1; obtain rfl := Option.some.inj ((h).symm.trans g); rfl) (⟨(a0, r), h⟩ : {p : Int × (List UInt8) // lib_Itoa F p.1 = some p.2})
theorem ok76 (F : Nat) : OkF cx 76 (F76 F) := by
  refine OkF.of (Enters.of func76 rfl (by decide)) ?_
  rintro ⟨⟨a0, r⟩, h⟩
  dsimp only at h
  unfold lib_Itoa at h
  obtain ⟨⟨h0, h1⟩, h⟩ := guardO_some h
  obtain rfl := Option.some.inj h
  dsimp only
  refine okp_scalar [.int .i64 a0] #[.int .i64 a0] (fun w Φ vs hs hv => ?_) (fun w hG => ?_) rfl
  · exact one_int hs hv
  · refine (Tryd.strconv_Itoa a0 h0 h1 w hG.tab).mono ?_
    rintro e w' ⟨rfl, k, os, rfl⟩
    exact ⟨_, rfl, fun w Φ H => .one _ _ (.d _ _ (.str _)), below_grow _ _ _⟩
end Go.VS
namespace Go.VS
open Go Go.VS Go.Proofs.Tryd
set_option maxRecDepth 100000
set_option maxHeartbeats 2000000
set_option linter.unusedVariables false
set_option linter.unusedSimpArgs false

def k47 : Nat → List Nat
  | 0 => [0]
  | 1 => [2]
  | _ => []
def l47 : Nat → List Nat
  | _ => []
attribute [go_sem] k47 l47
noncomputable def F47 (F : Nat) : FS := FS.of [⟨false, []⟩] (fun (p : {p : Int × (List UInt8) // impl_FormatInt F p.1 = some p.2}) => [.one (.d (.int .i64 p.1.1))]) (fun p r o => r = .one (.d (.str (B p.1.2))))
@[go_sem] theorem F47_rw (F : Nat) : (F47 F).rw = [⟨false, []⟩] := rfl
theorem F47_post {F : Nat} {a0 : Int} {r : List UInt8} (h : impl_FormatInt F a0 = some r) : (F47 F).post [.one (.d (.int .i64 a0))] = some (fun r' o => r' = .one (.d (.str (B r)))) :=
  FS.of_post (by rintro ⟨⟨a0, r⟩, h⟩ ⟨⟨b0, s⟩, g⟩ e; have e1 : (a0) = (b0) := (by simp [rI_inj, ru8_inj, rS_inj, rB_inj, B_inj, rGEntry_inj, rGNode_inj, rGTie_inj, rGShow_inj, rGState_inj] at e; simp [e]); cases e1; obtain rfl := Option.some.inj ((h).symm.trans g); rfl) (⟨(a0, r), h⟩ : {p : Int × (List UInt8) // impl_FormatInt F p.1 = some p.2})
noncomputable def S47 (F : Nat) : Sys := ⟨cx, lookX [(76, F76 F)], 5, k47, l47⟩
@[go_sem] theorem S47_C (F : Nat) : (S47 F).C = cx := rfl
@[go_sem] theorem S47_X (F : Nat) : (S47 F).X = lookX [(76, F76 F)] := rfl
@[go_sem] theorem S47_n (F : Nat) : (S47 F).n = 5 := rfl
@[go_sem] theorem S47_keep (F : Nat) : (S47 F).keep = k47 := rfl
@[go_sem] theorem S47_loopKeep (F : Nat) : (S47 F).loopKeep = l47 := rfl
theorem ok47 (F : Nat) : OkF cx 47 (F47 F) := by
  refine OkF.of (Enters.of func47 rfl (by decide)) ?_
  rintro ⟨⟨a0, r⟩, h⟩
  dsimp only at h
  refine fun_v (S := S47 F) (GoodT.good (GoodT.cons (ok76 F) GoodT.nil) rfl) func47 rfl rfl (by simp [f47]) (by kernel_rfl) false ?_
  dsimp only [f47, List.map, AV.opn, vFun, slim, slimOps, slimOp, gs_zero, gs_succ, creators, creator, creates, Option.map, Option.bind, entry, entryFrom, List.append, List.length, List.cons_append, List.nil_append, Nat.reduceAdd]
  rw [impl_FormatInt] at h
  refine vSC_mid none [(0, .one (.d (.int .i64 a0)))] (fun K hK => ?_) ?_
  · skip
    simp (decide := true) only [go_sem]
    intros
    refine hK _ ?_ ?_ <;> simp (decide := true) only [go_sem, replicate_map']
  obtain ⟨x1, e2, h⟩ := bindO_some h
  refine vSC_mid none [(2, .one (.d (.str (B x1))))] (fun K hK => ?_) ?_
  · skip
    simp (decide := true) only [go_sem, (F76_post e2)]
    intros
    refine hK _ ?_ ?_ <;> simp (decide := true) only [go_sem, replicate_map', (F76_post e2)]
  refine vSC_ret ?_
  obtain rfl := Option.some.inj h
  simp (decide := true) only [go_sem, replicate_map']
end Go.VS
namespace Go.VS
open Go Go.VS Go.Proofs.Tryd
set_option maxRecDepth 100000
set_option maxHeartbeats 2000000
set_option linter.unusedVariables false
set_option linter.unusedSimpArgs false

def k39 : Nat → List Nat
  | 0 => [0]
  | 1 => [5, 4, 0]
  | 2 => [18, 4]
  | 3 => [3, 2]
  | 4 => [3, 2]
  | _ => []
def l39 : Nat → List Nat
  | _ => []
attribute [go_sem] k39 l39
noncomputable def F39 (F : Nat) : FS := FS.of [⟨false, []⟩] (fun (p : {p : (List UInt8) × (Int × Bool) // impl_ParseInt F p.1 = some p.2}) => [.one (.d (.str (B p.1.1)))]) (fun p r o => r = .tup [.one (.d (.int .i64 p.1.2.1)), .one (.d (.bool p.1.2.2))])
@[go_sem] theorem F39_rw (F : Nat) : (F39 F).rw = [⟨false, []⟩] := rfl
theorem F39_post {F : Nat} {a0 : List UInt8} {r : Int × Bool} (h : impl_ParseInt F a0 = some r) : (F39 F).post [.one (.d (.str (B a0)))] = some (fun r' o => r' = .tup [.one (.d (.int .i64 r.1)), .one (.d (.bool r.2))]) :=
  FS.of_post (by rintro ⟨⟨a0, r⟩, h⟩ ⟨⟨b0, s⟩, g⟩ e; have e1 : (a0) = (b0) := (by simp [rI_inj, ru8_inj, rS_inj, rB_inj, B_inj, rGEntry_inj, rGNode_inj, rGTie_inj, rGShow_inj, rGState_inj] at e; simp [e]); cases e1; obtain rfl := Option.some.inj ((h).symm.trans g); rfl) (⟨(a0, r), h⟩ : {p : (List UInt8) × (Int × Bool) // impl_ParseInt F p.1 = some p.2})
noncomputable def S39 (F : Nat) : Sys := ⟨cx, lookX [(72, F72 F), (47, F47 F)], 20, k39, l39⟩
@[go_sem] theorem S39_C (F : Nat) : (S39 F).C = cx := rfl
@[go_sem] theorem S39_X (F : Nat) : (S39 F).X = lookX [(72, F72 F), (47, F47 F)] := rfl
@[go_sem] theorem S39_n (F : Nat) : (S39 F).n = 20 := rfl
@[go_sem] theorem S39_keep (F : Nat) : (S39 F).keep = k39 := rfl
@[go_sem] theorem S39_loopKeep (F : Nat) : (S39 F).loopKeep = l39 := rfl
theorem ok39 (F : Nat) : OkF cx 39 (F39 F) := by
  refine OkF.of (Enters.of func39 rfl (by decide)) ?_
  rintro ⟨⟨a0, r⟩, h⟩
  dsimp only at h
  refine fun_v (S := S39 F) (GoodT.good (GoodT.cons (ok72 F) (GoodT.cons (ok47 F) GoodT.nil)) rfl) func39 rfl rfl (by simp [f39]) (by kernel_rfl) false ?_
  dsimp only [f39, List.map, AV.opn, vFun, slim, slimOps, slimOp, gs_zero, gs_succ, creators, creator, creates, Option.map, Option.bind, entry, entryFrom, List.append, List.length, List.cons_append, List.nil_append, Nat.reduceAdd]
  rw [impl_ParseInt] at h
  refine vSC_mid none [(0, .one (.d (.str (B a0))))] (fun K hK => ?_) ?_
  · skip
    simp (decide := true) only [go_sem]
    intros
    refine hK _ ?_ ?_ <;> simp (decide := true) only [go_sem, replicate_map']
  obtain ⟨x1, e2, h⟩ := bindO_some h
  refine vSC_mid none [(5, .one (.d (.err x1.2))), (4, .one (.d (.int .i64 x1.1))), (0, .one (.d (.str (B a0))))] (fun K hK => ?_) ?_
  · skip
    simp (decide := true) only [go_sem, (F72_post e2)]
    intros
    refine hK _ ?_ ?_ <;> simp (decide := true) only [go_sem, replicate_map', (F72_post e2)]
  obtain ⟨b5, e6, h⟩ := bindO_some h
  refine vSC_mid none [(18, .one (.d (.bool b5))), (4, .one (.d (.int .i64 x1.1)))] (fun K hK => ?_) ?_
  · skip
    cases hp1 : x1.2
    · skip
      replace e6 := iteO_f (by simp (decide := true) only [go_sem, hp1]) e6
      obtain ⟨x3, e4, e6⟩ := bindO_some e6
      have qe6 := (Option.some.inj e6).symm
      simp (decide := true) only [go_sem, hp1, (F47_post e4), qe6]
      intros
      refine hK _ ?_ ?_ <;> simp (decide := true) only [go_sem, replicate_map', hp1, (F47_post e4), qe6]
    · skip
      have qe6 := (Option.some.inj (iteO_t (by simp (decide := true) only [go_sem, hp1]) e6)).symm
      simp (decide := true) only [go_sem, hp1, qe6]
      intros
      refine hK _ ?_ ?_ <;> simp (decide := true) only [go_sem, replicate_map', hp1, qe6]
  refine vSC_condB b5 (by simp (decide := true) only [go_sem]) (fun K1 hN1 hE1 hR1 => ⟨fun hc1 => ?_, fun hc1 => ?_⟩)
  · replace h := iteO_t hc1 h
    refine vSC_mid none [(3, .one (.d (.bool false))), (2, .one (.d (.int .i64 0)))] (fun K hK => ?_) ?_
    · skip
      simp (decide := true) only [go_sem]
      intros
      refine hK _ ?_ ?_ <;> simp (decide := true) only [go_sem, replicate_map']
    refine vSC_ret (hR1 _ ?_)
    obtain rfl := Option.some.inj h
    simp (decide := true) only [go_sem, replicate_map']
  · replace h := iteO_f hc1 h
    refine vSC_done (hN1 _ ?_)
    refine vSC_mid none [(3, .one (.d (.bool true))), (2, .one (.d (.int .i64 x1.1)))] (fun K hK => ?_) ?_
    · skip
      simp (decide := true) only [go_sem]
      intros
      refine hK _ ?_ ?_ <;> simp (decide := true) only [go_sem, replicate_map']
    refine vSC_ret ?_
    obtain rfl := Option.some.inj h
    simp (decide := true) only [go_sem, replicate_map']
end Go.VS
namespace Go.VS
open Go Go.VS Go.Proofs.Tryd
set_option maxRecDepth 100000
set_option maxHeartbeats 2000000
set_option linter.unusedVariables false
set_option linter.unusedSimpArgs false

def k40 : Nat → List Nat
  | 0 => [0]
  | 1 => [10, 0]
  | 2 => [3, 2]
  | 3 => [4, 0]
  | 4 => [14, 13, 12, 4]
  | 5 => [15, 14, 13, 12, 4]
  | 6 => [14, 13, 12, 6, 4]
  | 7 => [14, 13, 12, 8, 7, 4]
  | 8 => [24, 14, 13, 12, 7, 4]
  | 9 => [3, 2]
  | 10 => [14, 13, 12, 4]
  | 11 => [14, 13, 12, 4]
  | 12 => [3, 2]
  | _ => []
def l40 : Nat → List Nat
  | 0 => [14, 13, 12, 4]
  | _ => []
attribute [go_sem] k40 l40
noncomputable def F40 (F : Nat) : FS := FS.of [⟨false, []⟩] (fun (p : {p : (List UInt8) × (List Int × Bool) // impl_readList F p.1 = some p.2}) => [.one (.d (.str (B p.1.1)))]) (fun p r o => r = .tup [.one (.own (.loc 0 .nil) 3 (List.map rI p.1.2.1)), .one (.d (.bool p.1.2.2))])
@[go_sem] theorem F40_rw (F : Nat) : (F40 F).rw = [⟨false, []⟩] := rfl
theorem F40_post {F : Nat} {a0 : List UInt8} {r : List Int × Bool} (h : impl_readList F a0 = some r) : (F40 F).post [.one (.d (.str (B a0)))] = some (fun r' o => r' = .tup [.one (.own (.loc 0 .nil) 3 (List.map rI r.1)), .one (.d (.bool r.2))]) :=
  FS.of_post (by rintro ⟨⟨a0, r⟩, h⟩ ⟨⟨b0, s⟩, g⟩ e; have e1 : (a0) = (b0) := (by simp [rI_inj, ru8_inj, rS_inj, rB_inj, B_inj, rGEntry_inj, rGNode_inj, rGTie_inj, rGShow_inj, rGState_inj] at e; simp [e]); cases e1; obtain rfl := Option.some.inj ((h).symm.trans g); rfl) (⟨(a0, r), h⟩ : {p : (List UInt8) × (List Int × Bool) // impl_readList F p.1 = some p.2})
noncomputable def S40 (F : Nat) : Sys := ⟨cx, lookX [(38, F38 F), (39, F39 F)], 31, k40, l40⟩
@[go_sem] theorem S40_C (F : Nat) : (S40 F).C = cx := rfl
@[go_sem] theorem S40_X (F : Nat) : (S40 F).X = lookX [(38, F38 F), (39, F39 F)] := rfl
@[go_sem] theorem S40_n (F : Nat) : (S40 F).n = 31 := rfl
@[go_sem] theorem S40_keep (F : Nat) : (S40 F).keep = k40 := rfl
@[go_sem] theorem S40_loopKeep (F : Nat) : (S40 F).loopKeep = l40 := rfl
theorem ok40 (F : Nat) : OkF cx 40 (F40 F) := by
  refine OkF.of (Enters.of func40 rfl (by decide)) ?_
  rintro ⟨⟨a0, r⟩, h⟩
  dsimp only at h
  refine Okp.canon [.own 3, .keep] ?_
  refine fun_v (S := S40 F) (GoodT.good (GoodT.cons (ok38 F) (GoodT.cons (ok39 F) GoodT.nil)) rfl) func40 rfl rfl (by simp [f40]) (by kernel_rfl) false ?_
  dsimp only [f40, List.map, AV.opn, vFun, slim, slimOps, slimOp, gs_zero, gs_succ, creators, creator, creates, Option.map, Option.bind, entry, entryFrom, List.append, List.length, List.cons_append, List.nil_append, Nat.reduceAdd]
  rw [impl_readList] at h
  refine vSC_mid none [(0, .one (.d (.str (B a0))))] (fun K hK => ?_) ?_
  · skip
    simp (decide := true) only [go_sem]
    intros
    refine hK _ ?_ ?_ <;> simp (decide := true) only [go_sem, replicate_map']
  refine vSC_mid none [(10, .one (.d (.bool (a0 == ([45] : List UInt8))))), (0, .one (.d (.str (B a0))))] (fun K hK => ?_) ?_
  · skip
    simp (decide := true) only [go_sem]
    intros
    refine hK _ ?_ ?_ <;> simp (decide := true) only [go_sem, replicate_map']
  refine vSC_condB (a0 == ([45] : List UInt8)) (by simp (decide := true) only [go_sem]) (fun K1 hN1 hE1 hR1 => ⟨fun hc1 => ?_, fun hc1 => ?_⟩)
  · replace h := iteO_t hc1 h
    refine vSC_mid (some ([], [(2, 1100, [.own 3])])) [(3, .one (.d (.bool true))), (2, .one (.own (.loc 1100 .nil) 3 (List.map rI [])))] (fun K hK => ?_) ?_
    · skip
      simp (decide := true) only [go_sem]
      intros
      refine hK _ ?_ ?_ <;> simp (decide := true) only [go_sem, replicate_map']
    refine vSC_ret (hR1 _ (wEnd_can ?_))
    obtain rfl := Option.some.inj h
    simp (decide := true) only [go_sem, replicate_map']
  · replace h := iteO_f hc1 h
    refine vSC_done (hN1 _ ?_)
    refine vSC_mid (some ([], [(4, 1200, [.own 3])])) [(4, .one (.own (.loc 1200 .nil) 3 (List.map rI []))), (0, .one (.d (.str (B a0))))] (fun K hK => ?_) ?_
    · skip
      simp (decide := true) only [go_sem]
      intros
      refine hK _ ?_ ?_ <;> simp (decide := true) only [go_sem, replicate_map']
    obtain ⟨x1, e2, h⟩ := bindO_some h
    refine vSC_mid (some ([.loc 12 (.loc 0 .nil)], [(4, 1200, [.keep])])) [(14, .one (.d (.int .i64 0))), (13, .one (.d (.int .i64 (x1.length : Int)))), (12, .one (.d (.list 1 (List.map rS x1)))), (4, .one (.own (.loc 1200 .nil) 3 (List.map rI [])))] (fun K hK => ?_) ?_
    · skip
      simp (decide := true) only [go_sem, (F38_post e2)]
      intros
      refine hK _ ?_ ?_ <;> simp (decide := true) only [go_sem, replicate_map', (F38_post e2)]
    obtain ⟨k2, hk2, h⟩ := letJ_some h
    refine vSC_blockJ [4] (fun σ => ∃ (v3 : List Int), σ = [(4, .one (.own (.loc 1200 .nil) 3 (List.map rI v3)))] ∧ k2 v3 = some r) ?_ (fun K2 hN2 hB2 hE2 hR2 => ?_)
    · rintro σ ⟨v3, rfl, h⟩
      rw [hk2] at h
      refine vSC_mid (some ([], [(2, 1100, [.keep])])) [(3, .one (.d (.bool true))), (2, .one (.own (.loc 1100 .nil) 3 (List.map rI v3)))] (fun K hK => ?_) ?_
      · skip
        simp (decide := true) only [go_sem]
        intros
        refine hK _ ?_ ?_ <;> simp (decide := true) only [go_sem, replicate_map']
      refine vSC_ret (wEnd_can ?_)
      obtain rfl := Option.some.inj h
      simp (decide := true) only [go_sem, replicate_map']
    refine vSC_loop [] (fun n_ σ => ∃ (u4 : Int) (u5 : List Int), σ = [(14, .one (.d (.int .i64 u4))), (13, .one (.d (.int .i64 (x1.length : Int)))), (12, .one (.d (.list 1 (List.map rS x1)))), (4, .one (.own (.loc 1200 .nil) 3 (List.map rI u5)))] ∧ impl_readList_L1 F x1 k2 n_ u4 u5 = some r) F ?_ ?_
    · refine ⟨_, _, ?_, h⟩
      first | rfl | (simp (decide := true) only [go_sem, replicate_map'])
    · rintro n_ σ ⟨u4, u5, rfl, h⟩ K3 hN3 hE3 hR3
      rcases n_ with _ | n_
      · cases h
      · rw [impl_readList_L1] at h
        refine vSC_mid none [(15, .one (.d (.bool (decide (u4 < (x1.length : Int)))))), (14, .one (.d (.int .i64 u4))), (13, .one (.d (.int .i64 (x1.length : Int)))), (12, .one (.d (.list 1 (List.map rS x1)))), (4, .one (.own (.loc 1200 .nil) 3 (List.map rI u5)))] (fun K hK => ?_) ?_
        · skip
          simp (decide := true) only [go_sem]
          intros
          refine hK _ ?_ ?_ <;> simp (decide := true) only [go_sem, replicate_map']
        refine vSC_condB (decide (u4 < (x1.length : Int))) (by simp (decide := true) only [go_sem]) (fun K4 hN4 hE4 hR4 => ⟨fun hc4 => ?_, fun hc4 => ?_⟩)
        · replace h := iteO_t hc4 h
          refine vSC_done (hN4 _ ?_)
          refine vSC_block (fun K5 hN5 hB5 hE5 hR5 => ?_)
          obtain ⟨g6, h⟩ := guardO_some h
          refine vSC_mid none [(14, .one (.d (.int .i64 u4))), (13, .one (.d (.int .i64 (x1.length : Int)))), (12, .one (.d (.list 1 (List.map rS x1)))), (6, .one (.d (.str (B (x1.getD u4.toNat default))))), (4, .one (.own (.loc 1200 .nil) 3 (List.map rI u5)))] (fun K hK => ?_) ?_
          · skip
            simp (decide := true) only [go_sem, g6]
            intros
            refine hK _ ?_ ?_ <;> simp (decide := true) only [go_sem, replicate_map', g6]
          obtain ⟨x7, e8, h⟩ := bindO_some h
          refine vSC_mid none [(14, .one (.d (.int .i64 u4))), (13, .one (.d (.int .i64 (x1.length : Int)))), (12, .one (.d (.list 1 (List.map rS x1)))), (8, .one (.d (.bool x7.2))), (7, .one (.d (.int .i64 x7.1))), (4, .one (.own (.loc 1200 .nil) 3 (List.map rI u5)))] (fun K hK => ?_) ?_
          · skip
            simp (decide := true) only [go_sem, (F39_post e8)]
            intros
            refine hK _ ?_ ?_ <;> simp (decide := true) only [go_sem, replicate_map', (F39_post e8)]
          refine vSC_mid none [(24, .one (.d (.bool (!x7.2)))), (14, .one (.d (.int .i64 u4))), (13, .one (.d (.int .i64 (x1.length : Int)))), (12, .one (.d (.list 1 (List.map rS x1)))), (7, .one (.d (.int .i64 x7.1))), (4, .one (.own (.loc 1200 .nil) 3 (List.map rI u5)))] (fun K hK => ?_) ?_
          · skip
            simp (decide := true) only [go_sem]
            intros
            refine hK _ ?_ ?_ <;> simp (decide := true) only [go_sem, replicate_map']
          refine vSC_condB (!x7.2) (by simp (decide := true) only [go_sem]) (fun K6 hN6 hE6 hR6 => ⟨fun hc6 => ?_, fun hc6 => ?_⟩)
          · replace h := iteO_t hc6 h
            refine vSC_mid (some ([], [(2, 1100, [.own 3])])) [(3, .one (.d (.bool false))), (2, .one (.own (.loc 1100 .nil) 3 (List.map rI [])))] (fun K hK => ?_) ?_
            · skip
              simp (decide := true) only [go_sem]
              intros
              refine hK _ ?_ ?_ <;> simp (decide := true) only [go_sem, replicate_map']
            refine vSC_ret (hR6 _ (hR5 _ (hR3 _ (hR2 _ (wEnd_can ?_)))))
            obtain rfl := Option.some.inj h
            simp (decide := true) only [go_sem, replicate_map']
          · replace h := iteO_f hc6 h
            refine vSC_done (hN6 _ ?_)
            obtain ⟨g9, h⟩ := guardO_some h
            refine vSC_mid (some ([], [(4, 1200, [.keep])])) [(14, .one (.d (.int .i64 u4))), (13, .one (.d (.int .i64 (x1.length : Int)))), (12, .one (.d (.list 1 (List.map rS x1)))), (4, .one (.own (.loc 1200 .nil) 3 (List.map rI (u5 ++ [x7.1]))))] (fun K hK => ?_) ?_
            · skip
              simp (decide := true) only [go_sem, g9]
              intros
              refine hK _ ?_ ?_ <;> simp (decide := true) only [go_sem, replicate_map', g9]
            refine vSC_done (hN5 _ ?_)
            refine vSC_mid none [(14, .one (.d (.int .i64 (IntKind.i64.wrap (u4 + 1))))), (13, .one (.d (.int .i64 (x1.length : Int)))), (12, .one (.d (.list 1 (List.map rS x1)))), (4, .one (.own (.loc 1200 .nil) 3 (List.map rI (u5 ++ [x7.1]))))] (fun K hK => ?_) ?_
            · skip
              simp (decide := true) only [go_sem]
              intros
              refine hK _ ?_ ?_ <;> simp (decide := true) only [go_sem, replicate_map']
            refine vSC_done (hN3 _ ⟨n_, Nat.lt_succ_self n_, _, _, ?_, h⟩)
            first | rfl | (simp (decide := true) only [go_sem, replicate_map'])
        · replace h := iteO_f hc4 h
          refine vSC_exit (hE4 _ _ (hE3 _ _ (hB2 _ ⟨_, ?_, h⟩)))
          first | rfl | (simp (decide := true) only [go_sem, replicate_map'])
end Go.VS
namespace Go.VS
open Go Go.VS Go.Proofs.Tryd
set_option maxRecDepth 100000
set_option maxHeartbeats 2000000
set_option linter.unusedVariables false
set_option linter.unusedSimpArgs false

def k9 : Nat → List Nat
  | 0 => [2, 0]
  | 1 => [4, 2]
  | 2 => [17, 4, 2]
  | 3 => [3, 2]
  | 4 => [6, 5, 4, 2]
  | 5 => [8, 7, 6, 5, 4, 2]
  | 6 => [10, 9, 8, 7, 6, 5, 4, 2]
  | 7 => [12, 11, 10, 9, 8, 7, 6, 5, 2]
  | 8 => [60, 11, 9, 7, 5, 2]
  | 9 => [3, 2]
  | 10 => [3, 2]
  | _ => []
def l9 : Nat → List Nat
  | _ => []
attribute [go_sem] k9 l9
noncomputable def F9 (F : Nat) : FS := FS.of [⟨false, []⟩] (fun (p : {p : (List UInt8) × (GEntry × Bool) // impl_ParseEntry F p.1 = some p.2}) => [.one (.d (.str (B p.1.1)))]) (fun p r o => r = .tup [.agg [.d (.int .i64 p.1.2.1.fNow), .own (.loc 1 .nil) 3 (List.map rI p.1.2.1.fTies), .own (.loc 2 .nil) 3 (List.map rI p.1.2.1.fNodes), .own (.loc 3 .nil) 3 (List.map rI p.1.2.1.fValues)], .one (.d (.bool p.1.2.2))])
@[go_sem] theorem F9_rw (F : Nat) : (F9 F).rw = [⟨false, []⟩] := rfl
theorem F9_post {F : Nat} {a0 : List UInt8} {r : GEntry × Bool} (h : impl_ParseEntry F a0 = some r) : (F9 F).post [.one (.d (.str (B a0)))] = some (fun r' o => r' = .tup [.agg [.d (.int .i64 r.1.fNow), .own (.loc 1 .nil) 3 (List.map rI r.1.fTies), .own (.loc 2 .nil) 3 (List.map rI r.1.fNodes), .own (.loc 3 .nil) 3 (List.map rI r.1.fValues)], .one (.d (.bool r.2))]) :=
  FS.of_post (by rintro ⟨⟨a0, r⟩, h⟩ ⟨⟨b0, s⟩, g⟩ e; have e1 : (a0) = (b0) := (by simp [rI_inj, ru8_inj, rS_inj, rB_inj, B_inj, rGEntry_inj, rGNode_inj, rGTie_inj, rGShow_inj, rGState_inj] at e; simp [e]); cases e1; obtain rfl := Option.some.inj ((h).symm.trans g); rfl) (⟨(a0, r), h⟩ : {p : (List UInt8) × (GEntry × Bool) // impl_ParseEntry F p.1 = some p.2})
noncomputable def S9 (F : Nat) : Sys := ⟨cx, lookX [(38, F38 F), (39, F39 F), (40, F40 F)], 67, k9, l9⟩
@[go_sem] theorem S9_C (F : Nat) : (S9 F).C = cx := rfl
@[go_sem] theorem S9_X (F : Nat) : (S9 F).X = lookX [(38, F38 F), (39, F39 F), (40, F40 F)] := rfl
@[go_sem] theorem S9_n (F : Nat) : (S9 F).n = 67 := rfl
@[go_sem] theorem S9_keep (F : Nat) : (S9 F).keep = k9 := rfl
@[go_sem] theorem S9_loopKeep (F : Nat) : (S9 F).loopKeep = l9 := rfl
theorem ok9 (F : Nat) : OkF cx 9 (F9 F) := by
  refine OkF.of (Enters.of func9 rfl (by decide)) ?_
  rintro ⟨⟨a0, r⟩, h⟩
  dsimp only at h
  refine Okp.canon [.keep, .own 3, .own 3, .own 3, .keep] ?_
  refine fun_v (S := S9 F) (GoodT.good (GoodT.cons (ok38 F) (GoodT.cons (ok39 F) (GoodT.cons (ok40 F) GoodT.nil))) rfl) func9 rfl rfl (by simp [f9]) (by kernel_rfl) false ?_
  dsimp only [f9, List.map, AV.opn, vFun, slim, slimOps, slimOp, gs_zero, gs_succ, creators, creator, creates, Option.map, Option.bind, entry, entryFrom, List.append, List.length, List.cons_append, List.nil_append, Nat.reduceAdd]
  rw [impl_ParseEntry] at h
  refine vSC_mid (some ([], [(2, 1100, [.keep, .own 3, .own 3, .own 3])])) [(2, .one (.ptr (.loc 1100 .nil) 0 [.d (.int .i64 0), .own (.loc 1102 .nil) 3 (List.map rI []), .own (.loc 1103 .nil) 3 (List.map rI []), .own (.loc 1104 .nil) 3 (List.map rI [])])), (0, .one (.d (.str (B a0))))] (fun K hK => ?_) ?_
  · skip
    simp (decide := true) only [go_sem]
    intros
    refine hK _ ?_ ?_ <;> simp (decide := true) only [go_sem, replicate_map']
  obtain ⟨x1, e2, h⟩ := bindO_some h
  refine vSC_mid (some ([.loc 14 (.loc 0 .nil)], [(2, 1100, [.keep, .keep, .keep, .keep])])) [(4, .one (.d (.list 1 (List.map rS x1)))), (2, .one (.ptr (.loc 1100 .nil) 0 [.d (.int .i64 0), .own (.loc 1102 .nil) 3 (List.map rI []), .own (.loc 1103 .nil) 3 (List.map rI []), .own (.loc 1104 .nil) 3 (List.map rI [])]))] (fun K hK => ?_) ?_
  · skip
    simp (decide := true) only [go_sem, (F38_post e2)]
    intros
    refine hK _ ?_ ?_ <;> simp (decide := true) only [go_sem, replicate_map', (F38_post e2)]
  refine vSC_mid none [(17, .one (.d (.bool ((x1.length : Int) != 4)))), (4, .one (.d (.list 1 (List.map rS x1)))), (2, .one (.ptr (.loc 1100 .nil) 0 [.d (.int .i64 0), .own (.loc 1102 .nil) 3 (List.map rI []), .own (.loc 1103 .nil) 3 (List.map rI []), .own (.loc 1104 .nil) 3 (List.map rI [])]))] (fun K hK => ?_) ?_
  · skip
    simp (decide := true) only [go_sem]
    intros
    refine hK _ ?_ ?_ <;> simp (decide := true) only [go_sem, replicate_map']
  refine vSC_condB ((x1.length : Int) != 4) (by simp (decide := true) only [go_sem]) (fun K1 hN1 hE1 hR1 => ⟨fun hc1 => ?_, fun hc1 => ?_⟩)
  · replace h := iteO_t hc1 h
    refine vSC_mid (some ([], [(2, 1100, [.keep, .own 3, .own 3, .own 3])])) [(3, .one (.d (.bool false))), (2, .one (.ptr (.loc 1100 .nil) 0 [.d (.int .i64 0), .own (.loc 1102 .nil) 3 (List.map rI []), .own (.loc 1103 .nil) 3 (List.map rI []), .own (.loc 1104 .nil) 3 (List.map rI [])]))] (fun K hK => ?_) ?_
    · skip
      simp (decide := true) only [go_sem]
      intros
      refine hK _ ?_ ?_ <;> simp (decide := true) only [go_sem, replicate_map']
    refine vSC_ret (hR1 _ (wEnd_can ?_))
    obtain rfl := Option.some.inj h
    simp (decide := true) only [go_sem, replicate_map']
  · replace h := iteO_f hc1 h
    refine vSC_done (hN1 _ ?_)
    obtain ⟨g3, h⟩ := guardO_some h
    obtain ⟨x4, e5, h⟩ := bindO_some h
    refine vSC_mid none [(6, .one (.d (.bool x4.2))), (5, .one (.d (.int .i64 x4.1))), (4, .one (.d (.list 1 (List.map rS x1)))), (2, .one (.ptr (.loc 1100 .nil) 0 [.d (.int .i64 0), .own (.loc 1102 .nil) 3 (List.map rI []), .own (.loc 1103 .nil) 3 (List.map rI []), .own (.loc 1104 .nil) 3 (List.map rI [])]))] (fun K hK => ?_) ?_
    · skip
      simp (decide := true) only [go_sem, g3, (F39_post e5)]
      intros
      refine hK _ ?_ ?_ <;> simp (decide := true) only [go_sem, replicate_map', g3, (F39_post e5)]
    obtain ⟨g6, h⟩ := guardO_some h
    obtain ⟨x7, e8, h⟩ := bindO_some h
    refine vSC_mid (some ([], [(7, 1350, [.keep]), (2, 1100, [.keep, .keep, .keep, .keep])])) [(8, .one (.d (.bool x7.2))), (7, .one (.own (.loc 1350 .nil) 3 (List.map rI x7.1))), (6, .one (.d (.bool x4.2))), (5, .one (.d (.int .i64 x4.1))), (4, .one (.d (.list 1 (List.map rS x1)))), (2, .one (.ptr (.loc 1100 .nil) 0 [.d (.int .i64 0), .own (.loc 1102 .nil) 3 (List.map rI []), .own (.loc 1103 .nil) 3 (List.map rI []), .own (.loc 1104 .nil) 3 (List.map rI [])]))] (fun K hK => ?_) ?_
    · skip
      simp (decide := true) only [go_sem, g6, (F40_post e8)]
      intros
      refine hK _ ?_ ?_ <;> simp (decide := true) only [go_sem, replicate_map', g6, (F40_post e8)]
    obtain ⟨g9, h⟩ := guardO_some h
    obtain ⟨x10, e11, h⟩ := bindO_some h
    refine vSC_mid (some ([], [(9, 1450, [.keep]), (7, 1350, [.keep]), (2, 1100, [.keep, .keep, .keep, .keep])])) [(10, .one (.d (.bool x10.2))), (9, .one (.own (.loc 1450 .nil) 3 (List.map rI x10.1))), (8, .one (.d (.bool x7.2))), (7, .one (.own (.loc 1350 .nil) 3 (List.map rI x7.1))), (6, .one (.d (.bool x4.2))), (5, .one (.d (.int .i64 x4.1))), (4, .one (.d (.list 1 (List.map rS x1)))), (2, .one (.ptr (.loc 1100 .nil) 0 [.d (.int .i64 0), .own (.loc 1102 .nil) 3 (List.map rI []), .own (.loc 1103 .nil) 3 (List.map rI []), .own (.loc 1104 .nil) 3 (List.map rI [])]))] (fun K hK => ?_) ?_
    · skip
      simp (decide := true) only [go_sem, g9, (F40_post e11)]
      intros
      refine hK _ ?_ ?_ <;> simp (decide := true) only [go_sem, replicate_map', g9, (F40_post e11)]
    obtain ⟨g12, h⟩ := guardO_some h
    obtain ⟨x13, e14, h⟩ := bindO_some h
    refine vSC_mid (some ([], [(11, 1550, [.keep]), (9, 1450, [.keep]), (7, 1350, [.keep]), (2, 1100, [.keep, .keep, .keep, .keep])])) [(12, .one (.d (.bool x13.2))), (11, .one (.own (.loc 1550 .nil) 3 (List.map rI x13.1))), (10, .one (.d (.bool x10.2))), (9, .one (.own (.loc 1450 .nil) 3 (List.map rI x10.1))), (8, .one (.d (.bool x7.2))), (7, .one (.own (.loc 1350 .nil) 3 (List.map rI x7.1))), (6, .one (.d (.bool x4.2))), (5, .one (.d (.int .i64 x4.1))), (2, .one (.ptr (.loc 1100 .nil) 0 [.d (.int .i64 0), .own (.loc 1102 .nil) 3 (List.map rI []), .own (.loc 1103 .nil) 3 (List.map rI []), .own (.loc 1104 .nil) 3 (List.map rI [])]))] (fun K hK => ?_) ?_
    · skip
      simp (decide := true) only [go_sem, g12, (F40_post e14)]
      intros
      refine hK _ ?_ ?_ <;> simp (decide := true) only [go_sem, replicate_map', g12, (F40_post e14)]
    refine vSC_mid none [(60, .one (.d (.bool ((((!x4.2) || (!x7.2)) || (!x10.2)) || (!x13.2))))), (11, .one (.own (.loc 1550 .nil) 3 (List.map rI x13.1))), (9, .one (.own (.loc 1450 .nil) 3 (List.map rI x10.1))), (7, .one (.own (.loc 1350 .nil) 3 (List.map rI x7.1))), (5, .one (.d (.int .i64 x4.1))), (2, .one (.ptr (.loc 1100 .nil) 0 [.d (.int .i64 0), .own (.loc 1102 .nil) 3 (List.map rI []), .own (.loc 1103 .nil) 3 (List.map rI []), .own (.loc 1104 .nil) 3 (List.map rI [])]))] (fun K hK => ?_) ?_
    · skip
      cases hp1 : (!x4.2)
      · skip
        cases hp2 : (!x7.2)
        · skip
          cases hp3 : (!x10.2)
          · skip
            simp (decide := true) only [go_sem, hp1, hp2, hp3]
            intros
            refine hK _ ?_ ?_ <;> simp (decide := true) only [go_sem, replicate_map', hp1, hp2, hp3]
          · skip
            simp (decide := true) only [go_sem, hp1, hp2, hp3]
            intros
            refine hK _ ?_ ?_ <;> simp (decide := true) only [go_sem, replicate_map', hp1, hp2, hp3]
        · skip
          simp (decide := true) only [go_sem, hp1, hp2]
          intros
          refine hK _ ?_ ?_ <;> simp (decide := true) only [go_sem, replicate_map', hp1, hp2]
      · skip
        simp (decide := true) only [go_sem, hp1]
        intros
        refine hK _ ?_ ?_ <;> simp (decide := true) only [go_sem, replicate_map', hp1]
    refine vSC_condB ((((!x4.2) || (!x7.2)) || (!x10.2)) || (!x13.2)) (by simp (decide := true) only [go_sem]) (fun K2 hN2 hE2 hR2 => ⟨fun hc2 => ?_, fun hc2 => ?_⟩)
    · replace h := iteO_t hc2 h
      refine vSC_mid (some ([], [(2, 1100, [.keep, .own 3, .own 3, .own 3])])) [(3, .one (.d (.bool false))), (2, .one (.ptr (.loc 1100 .nil) 0 [.d (.int .i64 0), .own (.loc 1102 .nil) 3 (List.map rI []), .own (.loc 1103 .nil) 3 (List.map rI []), .own (.loc 1104 .nil) 3 (List.map rI [])]))] (fun K hK => ?_) ?_
      · skip
        simp (decide := true) only [go_sem]
        intros
        refine hK _ ?_ ?_ <;> simp (decide := true) only [go_sem, replicate_map']
      refine vSC_ret (hR2 _ (wEnd_can ?_))
      obtain rfl := Option.some.inj h
      simp (decide := true) only [go_sem, replicate_map']
    · replace h := iteO_f hc2 h
      refine vSC_done (hN2 _ ?_)
      refine vSC_mid (some ([], [(2, 1100, [.keep, .keep, .keep, .keep])])) [(3, .one (.d (.bool true))), (2, .one (.ptr (.loc 1100 .nil) 0 [.d (.int .i64 x4.1), .own (.loc 1102 .nil) 3 (List.map rI x7.1), .own (.loc 1103 .nil) 3 (List.map rI x10.1), .own (.loc 1104 .nil) 3 (List.map rI x13.1)]))] (fun K hK => ?_) ?_
      · skip
        simp (decide := true) only [go_sem]
        intros
        refine hK _ ?_ ?_ <;> simp (decide := true) only [go_sem, replicate_map']
      refine vSC_ret (wEnd_can ?_)
      obtain rfl := Option.some.inj h
      simp (decide := true) only [go_sem, replicate_map']
end Go.VS
namespace Go.VS
open Go Go.VS Go.Proofs.Tryd
set_option maxRecDepth 100000
set_option maxHeartbeats 2000000
set_option linter.unusedVariables false
set_option linter.unusedSimpArgs false

def k41 : Nat → List Nat
  | 0 => [1, 0]
  | 1 => [10, 1, 0]
  | 2 => [4]
  | 3 => [5, 1, 0]
  | 4 => [14, 5, 1, 0]
  | 5 => [5, 1, 0]
  | 6 => [25, 5, 1, 0]
  | 7 => [4]
  | 8 => [4]
  | _ => []
def l41 : Nat → List Nat
  | 0 => [5, 1, 0]
  | _ => []
attribute [go_sem] k41 l41
noncomputable def F41 (F : Nat) : FS := FS.of [⟨false, [2]⟩, ⟨false, [2]⟩] (fun (p : {p : (List Int) × (List Int) × Bool // laws_eqIntS F p.1 p.2.1 = some p.2.2}) => [.one (.d (.list 1 (List.map rI p.1.1))), .one (.d (.list 1 (List.map rI p.1.2.1)))]) (fun p r o => r = .one (.d (.bool p.1.2.2)))
@[go_sem] theorem F41_rw (F : Nat) : (F41 F).rw = [⟨false, [2]⟩, ⟨false, [2]⟩] := rfl
theorem F41_post {F : Nat} {a0 : List Int} {a1 : List Int} {r : Bool} (h : laws_eqIntS F a0 a1 = some r) : (F41 F).post [.one (.d (.list 1 (List.map rI a0))), .one (.d (.list 1 (List.map rI a1)))] = some (fun r' o => r' = .one (.d (.bool r))) :=
  FS.of_post (by rintro ⟨⟨a0, a1, r⟩, h⟩ ⟨⟨b0, b1, s⟩, g⟩ e; have e1 : (a0, a1) = (b0, b1) := (by simp [rI_inj, ru8_inj, rS_inj, rB_inj, B_inj, rGEntry_inj, rGNode_inj, rGTie_inj, rGShow_inj, rGState_inj] at e; simp [e]); cases e1; obtain rfl := Option.some.inj ((h).symm.trans g); rfl) (⟨(a0, a1, r), h⟩ : {p : (List Int) × (List Int) × Bool // laws_eqIntS F p.1 p.2.1 = some p.2.2})
noncomputable def S41 (F : Nat) : Sys := ⟨cx, lookX [], 26, k41, l41⟩
@[go_sem] theorem S41_C (F : Nat) : (S41 F).C = cx := rfl
@[go_sem] theorem S41_X (F : Nat) : (S41 F).X = lookX [] := rfl
@[go_sem] theorem S41_n (F : Nat) : (S41 F).n = 26 := rfl
@[go_sem] theorem S41_keep (F : Nat) : (S41 F).keep = k41 := rfl
@[go_sem] theorem S41_loopKeep (F : Nat) : (S41 F).loopKeep = l41 := rfl
theorem ok41 (F : Nat) : OkF cx 41 (F41 F) := by
  refine OkF.of (Enters.of func41 rfl (by decide)) ?_
  rintro ⟨⟨a0, a1, r⟩, h⟩
  dsimp only at h
  refine fun_v (S := S41 F) (GoodT.good GoodT.nil rfl) func41 rfl rfl (by simp [f41]) (by kernel_rfl) false ?_
  dsimp only [f41, List.map, AV.opn, vFun, slim, slimOps, slimOp, gs_zero, gs_succ, creators, creator, creates, Option.map, Option.bind, entry, entryFrom, List.append, List.length, List.cons_append, List.nil_append, Nat.reduceAdd]
  rw [laws_eqIntS] at h
  refine vSC_mid none [(1, .one (.d (.list 1 (List.map rI a1)))), (0, .one (.d (.list 1 (List.map rI a0))))] (fun K hK => ?_) ?_
  · skip
    simp (decide := true) only [go_sem]
    intros
    refine hK _ ?_ ?_ <;> simp (decide := true) only [go_sem, replicate_map']
  refine vSC_mid none [(10, .one (.d (.bool ((a0.length : Int) != (a1.length : Int))))), (1, .one (.d (.list 1 (List.map rI a1)))), (0, .one (.d (.list 1 (List.map rI a0))))] (fun K hK => ?_) ?_
  · skip
    simp (decide := true) only [go_sem]
    intros
    refine hK _ ?_ ?_ <;> simp (decide := true) only [go_sem, replicate_map']
  refine vSC_condB ((a0.length : Int) != (a1.length : Int)) (by simp (decide := true) only [go_sem]) (fun K1 hN1 hE1 hR1 => ⟨fun hc1 => ?_, fun hc1 => ?_⟩)
  · replace h := iteO_t hc1 h
    refine vSC_mid none [(4, .one (.d (.bool false)))] (fun K hK => ?_) ?_
    · skip
      simp (decide := true) only [go_sem]
      intros
      refine hK _ ?_ ?_ <;> simp (decide := true) only [go_sem, replicate_map']
    refine vSC_ret (hR1 _ ?_)
    obtain rfl := Option.some.inj h
    simp (decide := true) only [go_sem, replicate_map']
  · replace h := iteO_f hc1 h
    refine vSC_done (hN1 _ ?_)
    refine vSC_mid none [(5, .one (.d (.int .i64 0))), (1, .one (.d (.list 1 (List.map rI a1)))), (0, .one (.d (.list 1 (List.map rI a0))))] (fun K hK => ?_) ?_
    · skip
      simp (decide := true) only [go_sem]
      intros
      refine hK _ ?_ ?_ <;> simp (decide := true) only [go_sem, replicate_map']
    obtain ⟨k2, hk2, h⟩ := letJ_some h
    refine vSC_blockJ [] (fun σ => σ = [] ∧ k2 = some r) ?_ (fun K2 hN2 hB2 hE2 hR2 => ?_)
    · rintro σ ⟨rfl, h⟩
      rw [hk2] at h
      refine vSC_mid none [(4, .one (.d (.bool true)))] (fun K hK => ?_) ?_
      · skip
        simp (decide := true) only [go_sem]
        intros
        refine hK _ ?_ ?_ <;> simp (decide := true) only [go_sem, replicate_map']
      refine vSC_ret ?_
      obtain rfl := Option.some.inj h
      simp (decide := true) only [go_sem, replicate_map']
    refine vSC_loop [] (fun n_ σ => ∃ (u1 : Int), σ = [(5, .one (.d (.int .i64 u1))), (1, .one (.d (.list 1 (List.map rI a1)))), (0, .one (.d (.list 1 (List.map rI a0))))] ∧ laws_eqIntS_L1 F a0 a1 k2 n_ u1 = some r) F ?_ ?_
    · refine ⟨_, ?_, h⟩
      first | rfl | (simp (decide := true) only [go_sem, replicate_map'])
    · rintro n_ σ ⟨u1, rfl, h⟩ K3 hN3 hE3 hR3
      rcases n_ with _ | n_
      · cases h
      · rw [laws_eqIntS_L1] at h
        refine vSC_mid none [(14, .one (.d (.bool (decide (u1 < (a0.length : Int)))))), (5, .one (.d (.int .i64 u1))), (1, .one (.d (.list 1 (List.map rI a1)))), (0, .one (.d (.list 1 (List.map rI a0))))] (fun K hK => ?_) ?_
        · skip
          simp (decide := true) only [go_sem]
          intros
          refine hK _ ?_ ?_ <;> simp (decide := true) only [go_sem, replicate_map']
        refine vSC_condB (decide (u1 < (a0.length : Int))) (by simp (decide := true) only [go_sem]) (fun K4 hN4 hE4 hR4 => ⟨fun hc4 => ?_, fun hc4 => ?_⟩)
        · replace h := iteO_t hc4 h
          refine vSC_done (hN4 _ ?_)
          refine vSC_block (fun K5 hN5 hB5 hE5 hR5 => ?_)
          obtain ⟨g2, h⟩ := guardO_some h
          obtain ⟨g3, h⟩ := guardO_some h
          refine vSC_mid none [(25, .one (.d (.bool ((a0.getD u1.toNat default) != (a1.getD u1.toNat default))))), (5, .one (.d (.int .i64 u1))), (1, .one (.d (.list 1 (List.map rI a1)))), (0, .one (.d (.list 1 (List.map rI a0))))] (fun K hK => ?_) ?_
          · skip
            simp (decide := true) only [go_sem, g2, g3]
            intros
            refine hK _ ?_ ?_ <;> simp (decide := true) only [go_sem, replicate_map', g2, g3]
          refine vSC_condB ((a0.getD u1.toNat default) != (a1.getD u1.toNat default)) (by simp (decide := true) only [go_sem]) (fun K6 hN6 hE6 hR6 => ⟨fun hc6 => ?_, fun hc6 => ?_⟩)
          · replace h := iteO_t hc6 h
            refine vSC_mid none [(4, .one (.d (.bool false)))] (fun K hK => ?_) ?_
            · skip
              simp (decide := true) only [go_sem]
              intros
              refine hK _ ?_ ?_ <;> simp (decide := true) only [go_sem, replicate_map']
            refine vSC_ret (hR6 _ (hR5 _ (hR3 _ (hR2 _ ?_))))
            obtain rfl := Option.some.inj h
            simp (decide := true) only [go_sem, replicate_map']
          · replace h := iteO_f hc6 h
            refine vSC_done (hN6 _ ?_)
            refine vSC_done (hN5 _ ?_)
            refine vSC_mid none [(5, .one (.d (.int .i64 (IntKind.i64.wrap (u1 + 1))))), (1, .one (.d (.list 1 (List.map rI a1)))), (0, .one (.d (.list 1 (List.map rI a0))))] (fun K hK => ?_) ?_
            · skip
              simp (decide := true) only [go_sem]
              intros
              refine hK _ ?_ ?_ <;> simp (decide := true) only [go_sem, replicate_map']
            refine vSC_done (hN3 _ ⟨n_, Nat.lt_succ_self n_, _, ?_, h⟩)
            first | rfl | (simp (decide := true) only [go_sem, replicate_map'])
        · replace h := iteO_f hc4 h
          refine vSC_exit (hE4 _ _ (hE3 _ _ (hB2 _ ⟨?_, h⟩)))
          first | rfl | (simp (decide := true) only [go_sem, replicate_map'])
end Go.VS
namespace Go.VS
open Go Go.VS Go.Proofs.Tryd
set_option maxRecDepth 100000
set_option maxHeartbeats 2000000
set_option linter.unusedVariables false
set_option linter.unusedSimpArgs false

def k10 : Nat → List Nat
  | 0 => [3, 2]
  | 1 => [9, 3, 2]
  | 2 => [4]
  | 3 => [15, 3, 2]
  | 4 => [4]
  | 5 => [21, 3, 2]
  | 6 => [4]
  | 7 => [27]
  | 8 => [4]
  | 9 => [4]
  | _ => []
def l10 : Nat → List Nat
  | _ => []
attribute [go_sem] k10 l10
noncomputable def F10 (F : Nat) : FS := FS.of [⟨false, [0, 2, 2, 2]⟩, ⟨false, [0, 2, 2, 2]⟩] (fun (p : {p : GEntry × GEntry × Bool // laws_eqEntry F p.1 p.2.1 = some p.2.2}) => [.agg [.d (.int .i64 p.1.1.fNow), .d (.list 1 (List.map rI p.1.1.fTies)), .d (.list 1 (List.map rI p.1.1.fNodes)), .d (.list 1 (List.map rI p.1.1.fValues))], .agg [.d (.int .i64 p.1.2.1.fNow), .d (.list 1 (List.map rI p.1.2.1.fTies)), .d (.list 1 (List.map rI p.1.2.1.fNodes)), .d (.list 1 (List.map rI p.1.2.1.fValues))]]) (fun p r o => r = .one (.d (.bool p.1.2.2)))
@[go_sem] theorem F10_rw (F : Nat) : (F10 F).rw = [⟨false, [0, 2, 2, 2]⟩, ⟨false, [0, 2, 2, 2]⟩] := rfl
theorem F10_post {F : Nat} {a0 : GEntry} {a1 : GEntry} {r : Bool} (h : laws_eqEntry F a0 a1 = some r) : (F10 F).post [.agg [.d (.int .i64 a0.fNow), .d (.list 1 (List.map rI a0.fTies)), .d (.list 1 (List.map rI a0.fNodes)), .d (.list 1 (List.map rI a0.fValues))], .agg [.d (.int .i64 a1.fNow), .d (.list 1 (List.map rI a1.fTies)), .d (.list 1 (List.map rI a1.fNodes)), .d (.list 1 (List.map rI a1.fValues))]] = some (fun r' o => r' = .one (.d (.bool r))) :=
  FS.of_post (by rintro ⟨⟨⟨a0_0, a0_1, a0_2, a0_3⟩, ⟨a1_0, a1_1, a1_2, a1_3⟩, r⟩, h⟩ ⟨⟨⟨b0_0, b0_1, b0_2, b0_3⟩, ⟨b1_0, b1_1, b1_2, b1_3⟩, s⟩, g⟩ e; have e1 : ((⟨a0_0, a0_1, a0_2, a0_3⟩ : GEntry), (⟨a1_0, a1_1, a1_2, a1_3⟩ : GEntry)) = ((⟨b0_0, b0_1, b0_2, b0_3⟩ : GEntry), (⟨b1_0, b1_1, b1_2, b1_3⟩ : GEntry)) := (by simp [rI_inj, ru8_inj, rS_inj, rB_inj, B_inj, rGEntry_inj, rGNode_inj, rGTie_inj, rGShow_inj, rGState_inj] at e; simp [e]); cases e1; obtain rfl := Option.some.inj ((h).symm.trans g); rfl) (⟨(a0, a1, r), h⟩ : {p : GEntry × GEntry × Bool // laws_eqEntry F p.1 p.2.1 = some p.2.2})
noncomputable def S10 (F : Nat) : Sys := ⟨cx, lookX [(41, F41 F)], 28, k10, l10⟩
@[go_sem] theorem S10_C (F : Nat) : (S10 F).C = cx := rfl
@[go_sem] theorem S10_X (F : Nat) : (S10 F).X = lookX [(41, F41 F)] := rfl
@[go_sem] theorem S10_n (F : Nat) : (S10 F).n = 28 := rfl
@[go_sem] theorem S10_keep (F : Nat) : (S10 F).keep = k10 := rfl
@[go_sem] theorem S10_loopKeep (F : Nat) : (S10 F).loopKeep = l10 := rfl
theorem ok10 (F : Nat) : OkF cx 10 (F10 F) := by
  refine OkF.of (Enters.of func10 rfl (by decide)) ?_
  rintro ⟨⟨a0, a1, r⟩, h⟩
  dsimp only at h
  refine fun_v (S := S10 F) (GoodT.good (GoodT.cons (ok41 F) GoodT.nil) rfl) func10 rfl rfl (by simp [f10]) (by kernel_rfl) false ?_
  dsimp only [f10, List.map, AV.opn, vFun, slim, slimOps, slimOp, gs_zero, gs_succ, creators, creator, creates, Option.map, Option.bind, entry, entryFrom, List.append, List.length, List.cons_append, List.nil_append, Nat.reduceAdd]
  rw [laws_eqEntry] at h
  refine vSC_mid (some ([], [(3, 1150, [.keep, .keep, .keep, .keep]), (2, 1100, [.keep, .keep, .keep, .keep])])) [(3, .one (.ptr (.loc 1150 .nil) 0 [.d (.int .i64 a1.fNow), .d (.list 1 (List.map rI a1.fTies)), .d (.list 1 (List.map rI a1.fNodes)), .d (.list 1 (List.map rI a1.fValues))])), (2, .one (.ptr (.loc 1100 .nil) 0 [.d (.int .i64 a0.fNow), .d (.list 1 (List.map rI a0.fTies)), .d (.list 1 (List.map rI a0.fNodes)), .d (.list 1 (List.map rI a0.fValues))]))] (fun K hK => ?_) ?_
  · skip
    simp (decide := true) only [go_sem]
    intros
    refine hK _ ?_ ?_ <;> simp (decide := true) only [go_sem, replicate_map']
  refine vSC_mid none [(9, .one (.d (.bool (a0.fNow != a1.fNow)))), (3, .one (.ptr (.loc 1150 .nil) 0 [.d (.int .i64 a1.fNow), .d (.list 1 (List.map rI a1.fTies)), .d (.list 1 (List.map rI a1.fNodes)), .d (.list 1 (List.map rI a1.fValues))])), (2, .one (.ptr (.loc 1100 .nil) 0 [.d (.int .i64 a0.fNow), .d (.list 1 (List.map rI a0.fTies)), .d (.list 1 (List.map rI a0.fNodes)), .d (.list 1 (List.map rI a0.fValues))]))] (fun K hK => ?_) ?_
  · skip
    simp (decide := true) only [go_sem]
    intros
    refine hK _ ?_ ?_ <;> simp (decide := true) only [go_sem, replicate_map']
  refine vSC_condB (a0.fNow != a1.fNow) (by simp (decide := true) only [go_sem]) (fun K1 hN1 hE1 hR1 => ⟨fun hc1 => ?_, fun hc1 => ?_⟩)
  · replace h := iteO_t hc1 h
    refine vSC_mid none [(4, .one (.d (.bool false)))] (fun K hK => ?_) ?_
    · skip
      simp (decide := true) only [go_sem]
      intros
      refine hK _ ?_ ?_ <;> simp (decide := true) only [go_sem, replicate_map']
    refine vSC_ret (hR1 _ ?_)
    obtain rfl := Option.some.inj h
    simp (decide := true) only [go_sem, replicate_map']
  · replace h := iteO_f hc1 h
    refine vSC_done (hN1 _ ?_)
    obtain ⟨x1, e2, h⟩ := bindO_some h
    refine vSC_mid none [(15, .one (.d (.bool (!x1)))), (3, .one (.ptr (.loc 1150 .nil) 0 [.d (.int .i64 a1.fNow), .d (.list 1 (List.map rI a1.fTies)), .d (.list 1 (List.map rI a1.fNodes)), .d (.list 1 (List.map rI a1.fValues))])), (2, .one (.ptr (.loc 1100 .nil) 0 [.d (.int .i64 a0.fNow), .d (.list 1 (List.map rI a0.fTies)), .d (.list 1 (List.map rI a0.fNodes)), .d (.list 1 (List.map rI a0.fValues))]))] (fun K hK => ?_) ?_
    · skip
      simp (decide := true) only [go_sem, (F41_post e2)]
      intros
      refine hK _ ?_ ?_ <;> simp (decide := true) only [go_sem, replicate_map', (F41_post e2)]
    refine vSC_condB (!x1) (by simp (decide := true) only [go_sem]) (fun K2 hN2 hE2 hR2 => ⟨fun hc2 => ?_, fun hc2 => ?_⟩)
    · replace h := iteO_t hc2 h
      refine vSC_mid none [(4, .one (.d (.bool false)))] (fun K hK => ?_) ?_
      · skip
        simp (decide := true) only [go_sem]
        intros
        refine hK _ ?_ ?_ <;> simp (decide := true) only [go_sem, replicate_map']
      refine vSC_ret (hR2 _ ?_)
      obtain rfl := Option.some.inj h
      simp (decide := true) only [go_sem, replicate_map']
    · replace h := iteO_f hc2 h
      refine vSC_done (hN2 _ ?_)
      obtain ⟨x3, e4, h⟩ := bindO_some h
      refine vSC_mid none [(21, .one (.d (.bool (!x3)))), (3, .one (.ptr (.loc 1150 .nil) 0 [.d (.int .i64 a1.fNow), .d (.list 1 (List.map rI a1.fTies)), .d (.list 1 (List.map rI a1.fNodes)), .d (.list 1 (List.map rI a1.fValues))])), (2, .one (.ptr (.loc 1100 .nil) 0 [.d (.int .i64 a0.fNow), .d (.list 1 (List.map rI a0.fTies)), .d (.list 1 (List.map rI a0.fNodes)), .d (.list 1 (List.map rI a0.fValues))]))] (fun K hK => ?_) ?_
      · skip
        simp (decide := true) only [go_sem, (F41_post e4)]
        intros
        refine hK _ ?_ ?_ <;> simp (decide := true) only [go_sem, replicate_map', (F41_post e4)]
      refine vSC_condB (!x3) (by simp (decide := true) only [go_sem]) (fun K3 hN3 hE3 hR3 => ⟨fun hc3 => ?_, fun hc3 => ?_⟩)
      · replace h := iteO_t hc3 h
        refine vSC_mid none [(4, .one (.d (.bool false)))] (fun K hK => ?_) ?_
        · skip
          simp (decide := true) only [go_sem]
          intros
          refine hK _ ?_ ?_ <;> simp (decide := true) only [go_sem, replicate_map']
        refine vSC_ret (hR3 _ ?_)
        obtain rfl := Option.some.inj h
        simp (decide := true) only [go_sem, replicate_map']
      · replace h := iteO_f hc3 h
        refine vSC_done (hN3 _ ?_)
        obtain ⟨x5, e6, h⟩ := bindO_some h
        refine vSC_mid none [(27, .one (.d (.bool (!x5))))] (fun K hK => ?_) ?_
        · skip
          simp (decide := true) only [go_sem, (F41_post e6)]
          intros
          refine hK _ ?_ ?_ <;> simp (decide := true) only [go_sem, replicate_map', (F41_post e6)]
        refine vSC_condB (!x5) (by simp (decide := true) only [go_sem]) (fun K4 hN4 hE4 hR4 => ⟨fun hc4 => ?_, fun hc4 => ?_⟩)
        · replace h := iteO_t hc4 h
          refine vSC_mid none [(4, .one (.d (.bool false)))] (fun K hK => ?_) ?_
          · skip
            simp (decide := true) only [go_sem]
            intros
            refine hK _ ?_ ?_ <;> simp (decide := true) only [go_sem, replicate_map']
          refine vSC_ret (hR4 _ ?_)
          obtain rfl := Option.some.inj h
          simp (decide := true) only [go_sem, replicate_map']
        · replace h := iteO_f hc4 h
          refine vSC_done (hN4 _ ?_)
          refine vSC_mid none [(4, .one (.d (.bool true)))] (fun K hK => ?_) ?_
          · skip
            simp (decide := true) only [go_sem]
            intros
            refine hK _ ?_ ?_ <;> simp (decide := true) only [go_sem, replicate_map']
          refine vSC_ret ?_
          obtain rfl := Option.some.inj h
          simp (decide := true) only [go_sem, replicate_map']
end Go.VS
namespace Go.VS
open Go Go.VS Go.Proofs.Tryd
set_option maxRecDepth 100000
set_option maxHeartbeats 2000000
set_option linter.unusedVariables false
set_option linter.unusedSimpArgs false

def k42 : Nat → List Nat
  | 0 => [19, 1, 0]
  | 1 => [19, 5, 1, 0]
  | 2 => [19, 9, 5, 1, 0]
  | 3 => [19, 5, 1, 0]
  | 4 => [19, 5, 1, 0]
  | 5 => [19, 5, 1, 0]
  | 6 => [19, 4]
  | _ => []
def l42 : Nat → List Nat
  | 0 => [19, 5, 1, 0]
  | _ => []
attribute [go_sem] k42 l42
noncomputable def F42 (F : Nat) : FS := FS.of [⟨true, [4]⟩, ⟨false, []⟩] (fun (p : {p : Tag × (List Int) × Int × (Int × List Int) // laws_markIntS F p.2.1 p.2.2.1 = some p.2.2.2}) => [.one (.own (.par p.1.1) 3 (List.map rI p.1.2.1)), .one (.d (.int .i64 p.1.2.2.1))]) (fun p r o => r = .one (.d (.int .i64 p.1.2.2.2.1)) ∧ o = [.one (.own (.par p.1.1) 3 (List.map rI p.1.2.2.2.2)), .one .top])
@[go_sem] theorem F42_rw (F : Nat) : (F42 F).rw = [⟨true, [4]⟩, ⟨false, []⟩] := rfl
theorem F42_post {F : Nat} (g0 : Tag) {a0 : List Int} {a1 : Int} {r : Int × List Int} (h : laws_markIntS F a0 a1 = some r) : (F42 F).post [.one (.own (.par g0) 3 (List.map rI a0)), .one (.d (.int .i64 a1))] = some (fun r' o => r' = .one (.d (.int .i64 r.1)) ∧ o = [.one (.own (.par g0) 3 (List.map rI r.2)), .one .top]) :=
  FS.of_post (by rintro ⟨⟨t0, a0, a1, r⟩, h⟩ ⟨⟨u0, b0, b1, s⟩, g⟩ e; have e1 : (t0, a0, a1) = (u0, b0, b1) := (by simp [rI_inj, ru8_inj, rS_inj, rB_inj, B_inj, rGEntry_inj, rGNode_inj, rGTie_inj, rGShow_inj, rGState_inj] at e; simp [e]); cases e1; obtain rfl := Option.some.inj ((h).symm.trans g); rfl) (⟨(g0, a0, a1, r), h⟩ : {p : Tag × (List Int) × Int × (Int × List Int) // laws_markIntS F p.2.1 p.2.2.1 = some p.2.2.2})
noncomputable def S42 (F : Nat) : Sys := ⟨cx, lookX [], 19, k42, l42⟩
@[go_sem] theorem S42_C (F : Nat) : (S42 F).C = cx := rfl
@[go_sem] theorem S42_X (F : Nat) : (S42 F).X = lookX [] := rfl
@[go_sem] theorem S42_n (F : Nat) : (S42 F).n = 19 := rfl
@[go_sem] theorem S42_keep (F : Nat) : (S42 F).keep = k42 := rfl
@[go_sem] theorem S42_loopKeep (F : Nat) : (S42 F).loopKeep = l42 := rfl
theorem ok42 (F : Nat) : OkF cx 42 (F42 F) := by
  refine OkF.of (Enters.of func42 rfl (by decide)) ?_
  rintro ⟨⟨g0, a0, a1, r⟩, h⟩
  dsimp only at h
  refine fun_v (S := S42 F) (GoodT.good GoodT.nil rfl) func42 rfl rfl (by simp [f42]) (by kernel_rfl) false ?_
  dsimp only [f42, List.map, AV.opn, vFun, slim, slimOps, slimOp, gs_zero, gs_succ, creators, creator, creates, Option.map, Option.bind, entry, entryFrom, List.append, List.length, List.cons_append, List.nil_append, Nat.reduceAdd]
  rw [laws_markIntS] at h
  refine vSC_mid none [(19, .one (.own (.par g0) 3 (List.map rI a0))), (1, .one (.d (.int .i64 a1))), (0, .one (.own (.par g0) 3 (List.map rI a0)))] (fun K hK => ?_) ?_
  · skip
    simp (decide := true) only [go_sem]
    intros
    refine hK _ ?_ ?_ <;> simp (decide := true) only [go_sem, replicate_map']
  refine vSC_mid none [(19, .one (.own (.par g0) 3 (List.map rI a0))), (5, .one (.d (.int .i64 0))), (1, .one (.d (.int .i64 a1))), (0, .one (.own (.par g0) 3 (List.map rI a0)))] (fun K hK => ?_) ?_
  · skip
    simp (decide := true) only [go_sem]
    intros
    refine hK _ ?_ ?_ <;> simp (decide := true) only [go_sem, replicate_map']
  obtain ⟨k1, hk1, h⟩ := letJ_some h
  refine vSC_blockJ [19, 1] (fun σ => ∃ (v1 : List Int) (v2 : Int), σ = [(19, .one (.own (.par g0) 3 (List.map rI v1))), (1, .one (.d (.int .i64 v2)))] ∧ k1 v1 v2 = some r) ?_ (fun K1 hN1 hB1 hE1 hR1 => ?_)
  · rintro σ ⟨v1, v2, rfl, h⟩
    rw [hk1] at h
    refine vSC_mid none [(19, .one (.own (.par g0) 3 (List.map rI v1))), (4, .one (.d (.int .i64 v2)))] (fun K hK => ?_) ?_
    · skip
      simp (decide := true) only [go_sem]
      intros
      refine hK _ ?_ ?_ <;> simp (decide := true) only [go_sem, replicate_map']
    refine vSC_ret ?_
    obtain rfl := Option.some.inj h
    simp (decide := true) only [go_sem, replicate_map']
  refine vSC_loop [] (fun n_ σ => ∃ (u3 : List Int) (u4 : Int) (u5 : Int), σ = [(19, .one (.own (.par g0) 3 (List.map rI u3))), (5, .one (.d (.int .i64 u4))), (1, .one (.d (.int .i64 u5))), (0, .one (.own (.par g0) 3 (List.map rI u3)))] ∧ laws_markIntS_L1 F k1 n_ u3 u4 u5 = some r) F ?_ ?_
  · refine ⟨_, _, _, ?_, h⟩
    first | rfl | (simp (decide := true) only [go_sem, replicate_map'])
  · rintro n_ σ ⟨u3, u4, u5, rfl, h⟩ K2 hN2 hE2 hR2
    rcases n_ with _ | n_
    · cases h
    · rw [laws_markIntS_L1] at h
      refine vSC_mid none [(19, .one (.own (.par g0) 3 (List.map rI u3))), (9, .one (.d (.bool (decide (u4 < (u3.length : Int)))))), (5, .one (.d (.int .i64 u4))), (1, .one (.d (.int .i64 u5))), (0, .one (.own (.par g0) 3 (List.map rI u3)))] (fun K hK => ?_) ?_
      · skip
        simp (decide := true) only [go_sem]
        intros
        refine hK _ ?_ ?_ <;> simp (decide := true) only [go_sem, replicate_map']
      refine vSC_condB (decide (u4 < (u3.length : Int))) (by simp (decide := true) only [go_sem]) (fun K3 hN3 hE3 hR3 => ⟨fun hc3 => ?_, fun hc3 => ?_⟩)
      · replace h := iteO_t hc3 h
        refine vSC_done (hN3 _ ?_)
        refine vSC_block (fun K4 hN4 hB4 hE4 hR4 => ?_)
        obtain ⟨g6, h⟩ := guardO_some h
        refine vSC_mid none [(19, .one (.own (.par g0) 3 (List.map rI (u3.set u4.toNat u5)))), (5, .one (.d (.int .i64 u4))), (1, .one (.d (.int .i64 u5))), (0, .one (.own (.par g0) 3 (List.map rI (u3.set u4.toNat u5))))] (fun K hK => ?_) ?_
        · skip
          simp (decide := true) only [go_sem, g6]
          intros
          refine hK _ ?_ ?_ <;> simp (decide := true) only [go_sem, replicate_map', g6]
        refine vSC_mid none [(19, .one (.own (.par g0) 3 (List.map rI (u3.set u4.toNat u5)))), (5, .one (.d (.int .i64 u4))), (1, .one (.d (.int .i64 (IntKind.i64.wrap (u5 + 1))))), (0, .one (.own (.par g0) 3 (List.map rI (u3.set u4.toNat u5))))] (fun K hK => ?_) ?_
        · skip
          simp (decide := true) only [go_sem]
          intros
          refine hK _ ?_ ?_ <;> simp (decide := true) only [go_sem, replicate_map']
        refine vSC_done (hN4 _ ?_)
        refine vSC_mid none [(19, .one (.own (.par g0) 3 (List.map rI (u3.set u4.toNat u5)))), (5, .one (.d (.int .i64 (IntKind.i64.wrap (u4 + 1))))), (1, .one (.d (.int .i64 (IntKind.i64.wrap (u5 + 1))))), (0, .one (.own (.par g0) 3 (List.map rI (u3.set u4.toNat u5))))] (fun K hK => ?_) ?_
        · skip
          simp (decide := true) only [go_sem]
          intros
          refine hK _ ?_ ?_ <;> simp (decide := true) only [go_sem, replicate_map']
        refine vSC_done (hN2 _ ⟨n_, Nat.lt_succ_self n_, _, _, _, ?_, h⟩)
        first | rfl | (simp (decide := true) only [go_sem, replicate_map'])
      · replace h := iteO_f hc3 h
        refine vSC_exit (hE3 _ _ (hE2 _ _ (hB1 _ ⟨_, _, ?_, h⟩)))
        first | rfl | (simp (decide := true) only [go_sem, replicate_map'])
end Go.VS
namespace Go.VS
open Go Go.VS Go.Proofs.Tryd
set_option maxRecDepth 100000
set_option maxHeartbeats 2000000
set_option linter.unusedVariables false
set_option linter.unusedSimpArgs false

def k11 : Nat → List Nat
  | 0 => [18, 2, 1]
  | 1 => [18, 2, 1]
  | 2 => [18, 2, 1]
  | 3 => [18, 1]
  | 4 => [18, 4]
  | _ => []
def l11 : Nat → List Nat
  | _ => []
attribute [go_sem] k11 l11
noncomputable def F11 (F : Nat) : FS := FS.of [⟨true, [0, 4, 4, 4]⟩, ⟨false, []⟩] (fun (p : {p : Tag × Tag × Tag × GEntry × Int × (Int × GEntry) // laws_markEntry F p.2.2.2.1 p.2.2.2.2.1 = some p.2.2.2.2.2 ∧ p.1 ≠ p.2.1 ∧ p.1 ≠ p.2.2.1 ∧ p.2.1 ≠ p.2.2.1}) => [.agg [.d (.int .i64 p.1.2.2.2.1.fNow), .own (.par p.1.1) 3 (List.map rI p.1.2.2.2.1.fTies), .own (.par p.1.2.1) 3 (List.map rI p.1.2.2.2.1.fNodes), .own (.par p.1.2.2.1) 3 (List.map rI p.1.2.2.2.1.fValues)], .one (.d (.int .i64 p.1.2.2.2.2.1))]) (fun p r o => r = .one (.d (.int .i64 p.1.2.2.2.2.2.1)) ∧ o = [.agg [.d (.int .i64 p.1.2.2.2.2.2.2.fNow), .own (.par p.1.1) 3 (List.map rI p.1.2.2.2.2.2.2.fTies), .own (.par p.1.2.1) 3 (List.map rI p.1.2.2.2.2.2.2.fNodes), .own (.par p.1.2.2.1) 3 (List.map rI p.1.2.2.2.2.2.2.fValues)], .one .top])
@[go_sem] theorem F11_rw (F : Nat) : (F11 F).rw = [⟨true, [0, 4, 4, 4]⟩, ⟨false, []⟩] := rfl
theorem F11_post {F : Nat} (g0 : Tag) (g1 : Tag) (g2 : Tag) {a0 : GEntry} {a1 : Int} {r : Int × GEntry} (h : laws_markEntry F a0 a1 = some r) (hd0 : g0 ≠ g1) (hd1 : g0 ≠ g2) (hd2 : g1 ≠ g2) : (F11 F).post [.agg [.d (.int .i64 a0.fNow), .own (.par g0) 3 (List.map rI a0.fTies), .own (.par g1) 3 (List.map rI a0.fNodes), .own (.par g2) 3 (List.map rI a0.fValues)], .one (.d (.int .i64 a1))] = some (fun r' o => r' = .one (.d (.int .i64 r.1)) ∧ o = [.agg [.d (.int .i64 r.2.fNow), .own (.par g0) 3 (List.map rI r.2.fTies), .own (.par g1) 3 (List.map rI r.2.fNodes), .own (.par g2) 3 (List.map rI r.2.fValues)], .one .top]) :=
  FS.of_post (by rintro ⟨⟨t0, t1, t2, ⟨a0_0, a0_1, a0_2, a0_3⟩, a1, r⟩, h⟩ ⟨⟨u0, u1, u2, ⟨b0_0, b0_1, b0_2, b0_3⟩, b1, s⟩, g⟩ e; have e1 : (t0, t1, t2, (⟨a0_0, a0_1, a0_2, a0_3⟩ : GEntry), a1) = (u0, u1, u2, (⟨b0_0, b0_1, b0_2, b0_3⟩ : GEntry), b1) := (by simp [rI_inj, ru8_inj, rS_inj, rB_inj, B_inj, rGEntry_inj, rGNode_inj, rGTie_inj, rGShow_inj, rGState_inj] at e; simp [e]); cases e1; obtain rfl := Option.some.inj ((h.1).symm.trans g.1); rfl) (⟨(g0, g1, g2, a0, a1, r), ⟨h, hd0, hd1, hd2⟩⟩ : {p : Tag × Tag × Tag × GEntry × Int × (Int × GEntry) // laws_markEntry F p.2.2.2.1 p.2.2.2.2.1 = some p.2.2.2.2.2 ∧ p.1 ≠ p.2.1 ∧ p.1 ≠ p.2.2.1 ∧ p.2.1 ≠ p.2.2.1})
noncomputable def S11 (F : Nat) : Sys := ⟨cx, lookX [(42, F42 F)], 18, k11, l11⟩
@[go_sem] theorem S11_C (F : Nat) : (S11 F).C = cx := rfl
@[go_sem] theorem S11_X (F : Nat) : (S11 F).X = lookX [(42, F42 F)] := rfl
@[go_sem] theorem S11_n (F : Nat) : (S11 F).n = 18 := rfl
@[go_sem] theorem S11_keep (F : Nat) : (S11 F).keep = k11 := rfl
@[go_sem] theorem S11_loopKeep (F : Nat) : (S11 F).loopKeep = l11 := rfl
theorem ok11 (F : Nat) : OkF cx 11 (F11 F) := by
  refine OkF.of (Enters.of func11 rfl (by decide)) ?_
  rintro ⟨⟨g0, g1, g2, a0, a1, r⟩, ⟨h, hd0, hd1, hd2⟩⟩
  dsimp only at h hd0 hd1 hd2
  refine fun_v (S := S11 F) (GoodT.good (GoodT.cons (ok42 F) GoodT.nil) rfl) func11 rfl rfl (by simp [f11]) (by kernel_rfl) false ?_
  dsimp only [f11, List.map, AV.opn, vFun, slim, slimOps, slimOp, gs_zero, gs_succ, creators, creator, creates, Option.map, Option.bind, entry, entryFrom, List.append, List.length, List.cons_append, List.nil_append, Nat.reduceAdd]
  rw [laws_markEntry] at h
  refine vSC_mid (some ([], [(18, 1900, [.keep, .keep, .keep, .keep]), (2, 1100, [.keep, .keep, .keep, .keep])])) [(18, .agg [.d (.int .i64 a0.fNow), .own (.par g0) 3 (List.map rI a0.fTies), .own (.par g1) 3 (List.map rI a0.fNodes), .own (.par g2) 3 (List.map rI a0.fValues)]), (2, .one (.ptr (.loc 1100 .nil) 0 [.d (.int .i64 a0.fNow), .own (.par g0) 3 (List.map rI a0.fTies), .own (.par g1) 3 (List.map rI a0.fNodes), .own (.par g2) 3 (List.map rI a0.fValues)])), (1, .one (.d (.int .i64 a1)))] (fun K hK => ?_) ?_
  · skip
    simp (decide := true) only [go_sem, Tag.par.injEq, beq_iff_eq, hd0, hd1, hd2, hd0.symm, hd1.symm, hd2.symm]
    intros
    refine hK _ ?_ ?_ <;> simp (decide := true) only [go_sem, replicate_map', Tag.par.injEq, beq_iff_eq, hd0, hd1, hd2, hd0.symm, hd1.symm, hd2.symm]
  obtain ⟨x1, e2, h⟩ := bindO_some h
  refine vSC_mid (some ([], [(18, 1900, [.keep, .keep, .keep, .keep]), (2, 1100, [.keep, .keep, .keep, .keep])])) [(18, .agg [.d (.int .i64 a0.fNow), .own (.par g0) 3 (List.map rI x1.2), .own (.par g1) 3 (List.map rI a0.fNodes), .own (.par g2) 3 (List.map rI a0.fValues)]), (2, .one (.ptr (.loc 1100 .nil) 0 [.d (.int .i64 a0.fNow), .own (.par g0) 3 (List.map rI x1.2), .own (.par g1) 3 (List.map rI a0.fNodes), .own (.par g2) 3 (List.map rI a0.fValues)])), (1, .one (.d (.int .i64 x1.1)))] (fun K hK => ?_) ?_
  · skip
    simp (decide := true) only [go_sem, Tag.par.injEq, beq_iff_eq, hd0, hd1, hd2, hd0.symm, hd1.symm, hd2.symm, (F42_post (.par g0) e2)]
    intros
    refine hK _ ?_ ?_ <;> simp (decide := true) only [go_sem, replicate_map', Tag.par.injEq, beq_iff_eq, hd0, hd1, hd2, hd0.symm, hd1.symm, hd2.symm, (F42_post (.par g0) e2)]
  obtain ⟨x3, e4, h⟩ := bindO_some h
  refine vSC_mid (some ([], [(18, 1900, [.keep, .keep, .keep, .keep]), (2, 1100, [.keep, .keep, .keep, .keep])])) [(18, .agg [.d (.int .i64 a0.fNow), .own (.par g0) 3 (List.map rI x1.2), .own (.par g1) 3 (List.map rI x3.2), .own (.par g2) 3 (List.map rI a0.fValues)]), (2, .one (.ptr (.loc 1100 .nil) 0 [.d (.int .i64 a0.fNow), .own (.par g0) 3 (List.map rI x1.2), .own (.par g1) 3 (List.map rI x3.2), .own (.par g2) 3 (List.map rI a0.fValues)])), (1, .one (.d (.int .i64 x3.1)))] (fun K hK => ?_) ?_
  · skip
    simp (decide := true) only [go_sem, Tag.par.injEq, beq_iff_eq, hd0, hd1, hd2, hd0.symm, hd1.symm, hd2.symm, (F42_post (.par g1) e4)]
    intros
    refine hK _ ?_ ?_ <;> simp (decide := true) only [go_sem, replicate_map', Tag.par.injEq, beq_iff_eq, hd0, hd1, hd2, hd0.symm, hd1.symm, hd2.symm, (F42_post (.par g1) e4)]
  obtain ⟨x5, e6, h⟩ := bindO_some h
  refine vSC_mid none [(18, .agg [.d (.int .i64 a0.fNow), .own (.par g0) 3 (List.map rI x1.2), .own (.par g1) 3 (List.map rI x3.2), .own (.par g2) 3 (List.map rI x5.2)]), (1, .one (.d (.int .i64 x5.1)))] (fun K hK => ?_) ?_
  · skip
    simp (decide := true) only [go_sem, Tag.par.injEq, beq_iff_eq, hd0, hd1, hd2, hd0.symm, hd1.symm, hd2.symm, (F42_post (.par g2) e6)]
    intros
    refine hK _ ?_ ?_ <;> simp (decide := true) only [go_sem, replicate_map', Tag.par.injEq, beq_iff_eq, hd0, hd1, hd2, hd0.symm, hd1.symm, hd2.symm, (F42_post (.par g2) e6)]
  refine vSC_mid none [(18, .agg [.d (.int .i64 a0.fNow), .own (.par g0) 3 (List.map rI x1.2), .own (.par g1) 3 (List.map rI x3.2), .own (.par g2) 3 (List.map rI x5.2)]), (4, .one (.d (.int .i64 x5.1)))] (fun K hK => ?_) ?_
  · skip
    simp (decide := true) only [go_sem, Tag.par.injEq, beq_iff_eq, hd0, hd1, hd2, hd0.symm, hd1.symm, hd2.symm]
    intros
    refine hK _ ?_ ?_ <;> simp (decide := true) only [go_sem, replicate_map', Tag.par.injEq, beq_iff_eq, hd0, hd1, hd2, hd0.symm, hd1.symm, hd2.symm]
  refine vSC_ret ?_
  obtain rfl := Option.some.inj h
  simp (decide := true) only [go_sem, replicate_map']
end Go.VS
namespace Go.VS
open Go Go.VS Go.Proofs.Tryd
set_option maxRecDepth 100000
set_option maxHeartbeats 2000000
set_option linter.unusedVariables false
set_option linter.unusedSimpArgs false

def k43 : Nat → List Nat
  | 0 => [1, 0]
  | 1 => [5, 1, 0]
  | 2 => [9, 5, 1, 0]
  | 3 => [5, 1, 0]
  | 4 => [17, 5, 1, 0]
  | 5 => [4]
  | 6 => [5, 1, 0]
  | 7 => [4]
  | _ => []
def l43 : Nat → List Nat
  | 0 => [5, 1, 0]
  | _ => []
attribute [go_sem] k43 l43
noncomputable def F43 (F : Nat) : FS := FS.of [⟨false, [2]⟩, ⟨false, []⟩] (fun (p : {p : (List Int) × Int × Int // laws_heldIntS F p.1 p.2.1 = some p.2.2}) => [.one (.d (.list 1 (List.map rI p.1.1))), .one (.d (.int .i64 p.1.2.1))]) (fun p r o => r = .one (.d (.int .i64 p.1.2.2)))
@[go_sem] theorem F43_rw (F : Nat) : (F43 F).rw = [⟨false, [2]⟩, ⟨false, []⟩] := rfl
theorem F43_post {F : Nat} {a0 : List Int} {a1 : Int} {r : Int} (h : laws_heldIntS F a0 a1 = some r) : (F43 F).post [.one (.d (.list 1 (List.map rI a0))), .one (.d (.int .i64 a1))] = some (fun r' o => r' = .one (.d (.int .i64 r))) :=
  FS.of_post (by rintro ⟨⟨a0, a1, r⟩, h⟩ ⟨⟨b0, b1, s⟩, g⟩ e; have e1 : (a0, a1) = (b0, b1) := (by simp [rI_inj, ru8_inj, rS_inj, rB_inj, B_inj, rGEntry_inj, rGNode_inj, rGTie_inj, rGShow_inj, rGState_inj] at e; simp [e]); cases e1; obtain rfl := Option.some.inj ((h).symm.trans g); rfl) (⟨(a0, a1, r), h⟩ : {p : (List Int) × Int × Int // laws_heldIntS F p.1 p.2.1 = some p.2.2})
noncomputable def S43 (F : Nat) : Sys := ⟨cx, lookX [], 21, k43, l43⟩
@[go_sem] theorem S43_C (F : Nat) : (S43 F).C = cx := rfl
@[go_sem] theorem S43_X (F : Nat) : (S43 F).X = lookX [] := rfl
@[go_sem] theorem S43_n (F : Nat) : (S43 F).n = 21 := rfl
@[go_sem] theorem S43_keep (F : Nat) : (S43 F).keep = k43 := rfl
@[go_sem] theorem S43_loopKeep (F : Nat) : (S43 F).loopKeep = l43 := rfl
theorem ok43 (F : Nat) : OkF cx 43 (F43 F) := by
  refine OkF.of (Enters.of func43 rfl (by decide)) ?_
  rintro ⟨⟨a0, a1, r⟩, h⟩
  dsimp only at h
  refine fun_v (S := S43 F) (GoodT.good GoodT.nil rfl) func43 rfl rfl (by simp [f43]) (by kernel_rfl) false ?_
  dsimp only [f43, List.map, AV.opn, vFun, slim, slimOps, slimOp, gs_zero, gs_succ, creators, creator, creates, Option.map, Option.bind, entry, entryFrom, List.append, List.length, List.cons_append, List.nil_append, Nat.reduceAdd]
  rw [laws_heldIntS] at h
  refine vSC_mid none [(1, .one (.d (.int .i64 a1))), (0, .one (.d (.list 1 (List.map rI a0))))] (fun K hK => ?_) ?_
  · skip
    simp (decide := true) only [go_sem]
    intros
    refine hK _ ?_ ?_ <;> simp (decide := true) only [go_sem, replicate_map']
  refine vSC_mid none [(5, .one (.d (.int .i64 0))), (1, .one (.d (.int .i64 a1))), (0, .one (.d (.list 1 (List.map rI a0))))] (fun K hK => ?_) ?_
  · skip
    simp (decide := true) only [go_sem]
    intros
    refine hK _ ?_ ?_ <;> simp (decide := true) only [go_sem, replicate_map']
  obtain ⟨k1, hk1, h⟩ := letJ_some h
  refine vSC_blockJ [1] (fun σ => ∃ (v1 : Int), σ = [(1, .one (.d (.int .i64 v1)))] ∧ k1 v1 = some r) ?_ (fun K1 hN1 hB1 hE1 hR1 => ?_)
  · rintro σ ⟨v1, rfl, h⟩
    rw [hk1] at h
    refine vSC_mid none [(4, .one (.d (.int .i64 v1)))] (fun K hK => ?_) ?_
    · skip
      simp (decide := true) only [go_sem]
      intros
      refine hK _ ?_ ?_ <;> simp (decide := true) only [go_sem, replicate_map']
    refine vSC_ret ?_
    obtain rfl := Option.some.inj h
    simp (decide := true) only [go_sem, replicate_map']
  refine vSC_loop [] (fun n_ σ => ∃ (u2 : Int) (u3 : Int), σ = [(5, .one (.d (.int .i64 u2))), (1, .one (.d (.int .i64 u3))), (0, .one (.d (.list 1 (List.map rI a0))))] ∧ laws_heldIntS_L1 F a0 k1 n_ u2 u3 = some r) F ?_ ?_
  · refine ⟨_, _, ?_, h⟩
    first | rfl | (simp (decide := true) only [go_sem, replicate_map'])
  · rintro n_ σ ⟨u2, u3, rfl, h⟩ K2 hN2 hE2 hR2
    rcases n_ with _ | n_
    · cases h
    · rw [laws_heldIntS_L1] at h
      refine vSC_mid none [(9, .one (.d (.bool (decide (u2 < (a0.length : Int)))))), (5, .one (.d (.int .i64 u2))), (1, .one (.d (.int .i64 u3))), (0, .one (.d (.list 1 (List.map rI a0))))] (fun K hK => ?_) ?_
      · skip
        simp (decide := true) only [go_sem]
        intros
        refine hK _ ?_ ?_ <;> simp (decide := true) only [go_sem, replicate_map']
      refine vSC_condB (decide (u2 < (a0.length : Int))) (by simp (decide := true) only [go_sem]) (fun K3 hN3 hE3 hR3 => ⟨fun hc3 => ?_, fun hc3 => ?_⟩)
      · replace h := iteO_t hc3 h
        refine vSC_done (hN3 _ ?_)
        refine vSC_block (fun K4 hN4 hB4 hE4 hR4 => ?_)
        obtain ⟨g4, h⟩ := guardO_some h
        refine vSC_mid none [(17, .one (.d (.bool ((a0.getD u2.toNat default) != u3)))), (5, .one (.d (.int .i64 u2))), (1, .one (.d (.int .i64 u3))), (0, .one (.d (.list 1 (List.map rI a0))))] (fun K hK => ?_) ?_
        · skip
          simp (decide := true) only [go_sem, g4]
          intros
          refine hK _ ?_ ?_ <;> simp (decide := true) only [go_sem, replicate_map', g4]
        refine vSC_condB ((a0.getD u2.toNat default) != u3) (by simp (decide := true) only [go_sem]) (fun K5 hN5 hE5 hR5 => ⟨fun hc5 => ?_, fun hc5 => ?_⟩)
        · replace h := iteO_t hc5 h
          refine vSC_mid none [(4, .one (.d (.int .i64 (-1))))] (fun K hK => ?_) ?_
          · skip
            simp (decide := true) only [go_sem]
            intros
            refine hK _ ?_ ?_ <;> simp (decide := true) only [go_sem, replicate_map']
          refine vSC_ret (hR5 _ (hR4 _ (hR2 _ (hR1 _ ?_))))
          obtain rfl := Option.some.inj h
          simp (decide := true) only [go_sem, replicate_map']
        · replace h := iteO_f hc5 h
          refine vSC_done (hN5 _ ?_)
          refine vSC_mid none [(5, .one (.d (.int .i64 u2))), (1, .one (.d (.int .i64 (IntKind.i64.wrap (u3 + 1))))), (0, .one (.d (.list 1 (List.map rI a0))))] (fun K hK => ?_) ?_
          · skip
            simp (decide := true) only [go_sem]
            intros
            refine hK _ ?_ ?_ <;> simp (decide := true) only [go_sem, replicate_map']
          refine vSC_done (hN4 _ ?_)
          refine vSC_mid none [(5, .one (.d (.int .i64 (IntKind.i64.wrap (u2 + 1))))), (1, .one (.d (.int .i64 (IntKind.i64.wrap (u3 + 1))))), (0, .one (.d (.list 1 (List.map rI a0))))] (fun K hK => ?_) ?_
          · skip
            simp (decide := true) only [go_sem]
            intros
            refine hK _ ?_ ?_ <;> simp (decide := true) only [go_sem, replicate_map']
          refine vSC_done (hN2 _ ⟨n_, Nat.lt_succ_self n_, _, _, ?_, h⟩)
          first | rfl | (simp (decide := true) only [go_sem, replicate_map'])
      · replace h := iteO_f hc3 h
        refine vSC_exit (hE3 _ _ (hE2 _ _ (hB1 _ ⟨_, ?_, h⟩)))
        first | rfl | (simp (decide := true) only [go_sem, replicate_map'])
end Go.VS
namespace Go.VS
open Go Go.VS Go.Proofs.Tryd
set_option maxRecDepth 100000
set_option maxHeartbeats 2000000
set_option linter.unusedVariables false
set_option linter.unusedSimpArgs false

def k12 : Nat → List Nat
  | 0 => [2, 1]
  | 1 => [2, 1]
  | 2 => [10, 2, 1]
  | 3 => [4]
  | 4 => [2, 1]
  | 5 => [16, 2, 1]
  | 6 => [4]
  | 7 => [1]
  | 8 => [22, 1]
  | 9 => [4]
  | 10 => [4]
  | _ => []
def l12 : Nat → List Nat
  | _ => []
attribute [go_sem] k12 l12
noncomputable def F12 (F : Nat) : FS := FS.of [⟨false, [0, 2, 2, 2]⟩, ⟨false, []⟩] (fun (p : {p : GEntry × Int × Int // laws_heldEntry F p.1 p.2.1 = some p.2.2}) => [.agg [.d (.int .i64 p.1.1.fNow), .d (.list 1 (List.map rI p.1.1.fTies)), .d (.list 1 (List.map rI p.1.1.fNodes)), .d (.list 1 (List.map rI p.1.1.fValues))], .one (.d (.int .i64 p.1.2.1))]) (fun p r o => r = .one (.d (.int .i64 p.1.2.2)))
@[go_sem] theorem F12_rw (F : Nat) : (F12 F).rw = [⟨false, [0, 2, 2, 2]⟩, ⟨false, []⟩] := rfl
theorem F12_post {F : Nat} {a0 : GEntry} {a1 : Int} {r : Int} (h : laws_heldEntry F a0 a1 = some r) : (F12 F).post [.agg [.d (.int .i64 a0.fNow), .d (.list 1 (List.map rI a0.fTies)), .d (.list 1 (List.map rI a0.fNodes)), .d (.list 1 (List.map rI a0.fValues))], .one (.d (.int .i64 a1))] = some (fun r' o => r' = .one (.d (.int .i64 r))) :=
  FS.of_post (by rintro ⟨⟨⟨a0_0, a0_1, a0_2, a0_3⟩, a1, r⟩, h⟩ ⟨⟨⟨b0_0, b0_1, b0_2, b0_3⟩, b1, s⟩, g⟩ e; have e1 : ((⟨a0_0, a0_1, a0_2, a0_3⟩ : GEntry), a1) = ((⟨b0_0, b0_1, b0_2, b0_3⟩ : GEntry), b1) := (by simp [rI_inj, ru8_inj, rS_inj, rB_inj, B_inj, rGEntry_inj, rGNode_inj, rGTie_inj, rGShow_inj, rGState_inj] at e; simp [e]); cases e1; obtain rfl := Option.some.inj ((h).symm.trans g); rfl) (⟨(a0, a1, r), h⟩ : {p : GEntry × Int × Int // laws_heldEntry F p.1 p.2.1 = some p.2.2})
noncomputable def S12 (F : Nat) : Sys := ⟨cx, lookX [(43, F43 F)], 24, k12, l12⟩
@[go_sem] theorem S12_C (F : Nat) : (S12 F).C = cx := rfl
@[go_sem] theorem S12_X (F : Nat) : (S12 F).X = lookX [(43, F43 F)] := rfl
@[go_sem] theorem S12_n (F : Nat) : (S12 F).n = 24 := rfl
@[go_sem] theorem S12_keep (F : Nat) : (S12 F).keep = k12 := rfl
@[go_sem] theorem S12_loopKeep (F : Nat) : (S12 F).loopKeep = l12 := rfl
theorem ok12 (F : Nat) : OkF cx 12 (F12 F) := by
  refine OkF.of (Enters.of func12 rfl (by decide)) ?_
  rintro ⟨⟨a0, a1, r⟩, h⟩
  dsimp only at h
  refine fun_v (S := S12 F) (GoodT.good (GoodT.cons (ok43 F) GoodT.nil) rfl) func12 rfl rfl (by simp [f12]) (by kernel_rfl) false ?_
  dsimp only [f12, List.map, AV.opn, vFun, slim, slimOps, slimOp, gs_zero, gs_succ, creators, creator, creates, Option.map, Option.bind, entry, entryFrom, List.append, List.length, List.cons_append, List.nil_append, Nat.reduceAdd]
  rw [laws_heldEntry] at h
  refine vSC_mid (some ([], [(2, 1100, [.keep, .keep, .keep, .keep])])) [(2, .one (.ptr (.loc 1100 .nil) 0 [.d (.int .i64 a0.fNow), .d (.list 1 (List.map rI a0.fTies)), .d (.list 1 (List.map rI a0.fNodes)), .d (.list 1 (List.map rI a0.fValues))])), (1, .one (.d (.int .i64 a1)))] (fun K hK => ?_) ?_
  · skip
    simp (decide := true) only [go_sem]
    intros
    refine hK _ ?_ ?_ <;> simp (decide := true) only [go_sem, replicate_map']
  obtain ⟨x1, e2, h⟩ := bindO_some h
  refine vSC_mid none [(2, .one (.ptr (.loc 1100 .nil) 0 [.d (.int .i64 a0.fNow), .d (.list 1 (List.map rI a0.fTies)), .d (.list 1 (List.map rI a0.fNodes)), .d (.list 1 (List.map rI a0.fValues))])), (1, .one (.d (.int .i64 x1)))] (fun K hK => ?_) ?_
  · skip
    simp (decide := true) only [go_sem, (F43_post e2)]
    intros
    refine hK _ ?_ ?_ <;> simp (decide := true) only [go_sem, replicate_map', (F43_post e2)]
  refine vSC_mid none [(10, .one (.d (.bool (decide (x1 < 0))))), (2, .one (.ptr (.loc 1100 .nil) 0 [.d (.int .i64 a0.fNow), .d (.list 1 (List.map rI a0.fTies)), .d (.list 1 (List.map rI a0.fNodes)), .d (.list 1 (List.map rI a0.fValues))])), (1, .one (.d (.int .i64 x1)))] (fun K hK => ?_) ?_
  · skip
    simp (decide := true) only [go_sem]
    intros
    refine hK _ ?_ ?_ <;> simp (decide := true) only [go_sem, replicate_map']
  refine vSC_condB (decide (x1 < 0)) (by simp (decide := true) only [go_sem]) (fun K1 hN1 hE1 hR1 => ⟨fun hc1 => ?_, fun hc1 => ?_⟩)
  · replace h := iteO_t hc1 h
    refine vSC_mid none [(4, .one (.d (.int .i64 (-1))))] (fun K hK => ?_) ?_
    · skip
      simp (decide := true) only [go_sem]
      intros
      refine hK _ ?_ ?_ <;> simp (decide := true) only [go_sem, replicate_map']
    refine vSC_ret (hR1 _ ?_)
    obtain rfl := Option.some.inj h
    simp (decide := true) only [go_sem, replicate_map']
  · replace h := iteO_f hc1 h
    refine vSC_done (hN1 _ ?_)
    obtain ⟨x3, e4, h⟩ := bindO_some h
    refine vSC_mid none [(2, .one (.ptr (.loc 1100 .nil) 0 [.d (.int .i64 a0.fNow), .d (.list 1 (List.map rI a0.fTies)), .d (.list 1 (List.map rI a0.fNodes)), .d (.list 1 (List.map rI a0.fValues))])), (1, .one (.d (.int .i64 x3)))] (fun K hK => ?_) ?_
    · skip
      simp (decide := true) only [go_sem, (F43_post e4)]
      intros
      refine hK _ ?_ ?_ <;> simp (decide := true) only [go_sem, replicate_map', (F43_post e4)]
    refine vSC_mid none [(16, .one (.d (.bool (decide (x3 < 0))))), (2, .one (.ptr (.loc 1100 .nil) 0 [.d (.int .i64 a0.fNow), .d (.list 1 (List.map rI a0.fTies)), .d (.list 1 (List.map rI a0.fNodes)), .d (.list 1 (List.map rI a0.fValues))])), (1, .one (.d (.int .i64 x3)))] (fun K hK => ?_) ?_
    · skip
      simp (decide := true) only [go_sem]
      intros
      refine hK _ ?_ ?_ <;> simp (decide := true) only [go_sem, replicate_map']
    refine vSC_condB (decide (x3 < 0)) (by simp (decide := true) only [go_sem]) (fun K2 hN2 hE2 hR2 => ⟨fun hc2 => ?_, fun hc2 => ?_⟩)
    · replace h := iteO_t hc2 h
      refine vSC_mid none [(4, .one (.d (.int .i64 (-1))))] (fun K hK => ?_) ?_
      · skip
        simp (decide := true) only [go_sem]
        intros
        refine hK _ ?_ ?_ <;> simp (decide := true) only [go_sem, replicate_map']
      refine vSC_ret (hR2 _ ?_)
      obtain rfl := Option.some.inj h
      simp (decide := true) only [go_sem, replicate_map']
    · replace h := iteO_f hc2 h
      refine vSC_done (hN2 _ ?_)
      obtain ⟨x5, e6, h⟩ := bindO_some h
      refine vSC_mid none [(1, .one (.d (.int .i64 x5)))] (fun K hK => ?_) ?_
      · skip
        simp (decide := true) only [go_sem, (F43_post e6)]
        intros
        refine hK _ ?_ ?_ <;> simp (decide := true) only [go_sem, replicate_map', (F43_post e6)]
      refine vSC_mid none [(22, .one (.d (.bool (decide (x5 < 0))))), (1, .one (.d (.int .i64 x5)))] (fun K hK => ?_) ?_
      · skip
        simp (decide := true) only [go_sem]
        intros
        refine hK _ ?_ ?_ <;> simp (decide := true) only [go_sem, replicate_map']
      refine vSC_condB (decide (x5 < 0)) (by simp (decide := true) only [go_sem]) (fun K3 hN3 hE3 hR3 => ⟨fun hc3 => ?_, fun hc3 => ?_⟩)
      · replace h := iteO_t hc3 h
        refine vSC_mid none [(4, .one (.d (.int .i64 (-1))))] (fun K hK => ?_) ?_
        · skip
          simp (decide := true) only [go_sem]
          intros
          refine hK _ ?_ ?_ <;> simp (decide := true) only [go_sem, replicate_map']
        refine vSC_ret (hR3 _ ?_)
        obtain rfl := Option.some.inj h
        simp (decide := true) only [go_sem, replicate_map']
      · replace h := iteO_f hc3 h
        refine vSC_done (hN3 _ ?_)
        refine vSC_mid none [(4, .one (.d (.int .i64 x5)))] (fun K hK => ?_) ?_
        · skip
          simp (decide := true) only [go_sem]
          intros
          refine hK _ ?_ ?_ <;> simp (decide := true) only [go_sem, replicate_map']
        refine vSC_ret ?_
        obtain rfl := Option.some.inj h
        simp (decide := true) only [go_sem, replicate_map']
end Go.VS
namespace Go.VS
open Go Go.VS Go.Proofs.Tryd
set_option maxRecDepth 100000
set_option maxHeartbeats 2000000
set_option linter.unusedVariables false
set_option linter.unusedSimpArgs false

def k3 : Nat → List Nat
  | 0 => [0]
  | 1 => [13, 0]
  | 2 => [2]
  | 3 => [4, 3, 0]
  | 4 => [6, 5, 4, 3, 0]
  | 5 => [32, 5, 4, 3, 0]
  | 6 => [2]
  | 7 => [7, 5, 4, 3, 0]
  | 8 => [7, 5, 4, 3, 0]
  | 9 => [8, 7, 5, 4, 3, 0]
  | 10 => [8, 7, 5, 4, 3, 0]
  | 11 => [40, 8, 7, 5, 4, 3, 0]
  | 12 => [2]
  | 13 => [43, 7, 5, 4, 3, 0]
  | 14 => [2]
  | 15 => [10, 9, 7, 5, 4, 3]
  | 16 => [57, 7, 5]
  | 17 => [2]
  | 18 => [8, 7, 5]
  | 19 => [8, 7]
  | 20 => [62, 8, 7]
  | 21 => [2]
  | 22 => [65]
  | 23 => [2]
  | 24 => [2]
  | _ => []
def l3 : Nat → List Nat
  | _ => []
attribute [go_sem] k3 l3
noncomputable def F3 (F : Nat) : FS := FS.of [⟨false, []⟩] (fun (p : {p : (List UInt8) × Bool // laws_FnExactParseEntry F p.1 = some p.2}) => [.one (.d (.str (B p.1.1)))]) (fun p r o => r = .one (.d (.bool p.1.2)))
@[go_sem] theorem F3_rw (F : Nat) : (F3 F).rw = [⟨false, []⟩] := rfl
theorem F3_post {F : Nat} {a0 : List UInt8} {r : Bool} (h : laws_FnExactParseEntry F a0 = some r) : (F3 F).post [.one (.d (.str (B a0)))] = some (fun r' o => r' = .one (.d (.bool r))) :=
  FS.of_post (by rintro ⟨⟨a0, r⟩, h⟩ ⟨⟨b0, s⟩, g⟩ e; have e1 : (a0) = (b0) := (by simp [rI_inj, ru8_inj, rS_inj, rB_inj, B_inj, rGEntry_inj, rGNode_inj, rGTie_inj, rGShow_inj, rGState_inj] at e; simp [e]); cases e1; obtain rfl := Option.some.inj ((h).symm.trans g); rfl) (⟨(a0, r), h⟩ : {p : (List UInt8) × Bool // laws_FnExactParseEntry F p.1 = some p.2})
noncomputable def S3 (F : Nat) : Sys := ⟨cx, lookX [(8, F8 F), (9, F9 F), (10, F10 F), (11, F11 F), (12, F12 F)], 66, k3, l3⟩
@[go_sem] theorem S3_C (F : Nat) : (S3 F).C = cx := rfl
@[go_sem] theorem S3_X (F : Nat) : (S3 F).X = lookX [(8, F8 F), (9, F9 F), (10, F10 F), (11, F11 F), (12, F12 F)] := rfl
@[go_sem] theorem S3_n (F : Nat) : (S3 F).n = 66 := rfl
@[go_sem] theorem S3_keep (F : Nat) : (S3 F).keep = k3 := rfl
@[go_sem] theorem S3_loopKeep (F : Nat) : (S3 F).loopKeep = l3 := rfl
theorem ok3 (F : Nat) : OkF cx 3 (F3 F) := by
  refine OkF.of (Enters.of func3 rfl (by decide)) ?_
  rintro ⟨⟨a0, r⟩, h⟩
  dsimp only at h
  refine fun_v (S := S3 F) (GoodT.good (GoodT.cons (ok8 F) (GoodT.cons (ok9 F) (GoodT.cons (ok10 F) (GoodT.cons (ok11 F) (GoodT.cons (ok12 F) GoodT.nil))))) rfl) func3 rfl rfl (by simp [f3]) (by kernel_rfl) false ?_
  dsimp only [f3, List.map, AV.opn, vFun, slim, slimOps, slimOp, gs_zero, gs_succ, creators, creator, creates, Option.map, Option.bind, entry, entryFrom, List.append, List.length, List.cons_append, List.nil_append, Nat.reduceAdd]
  rw [laws_FnExactParseEntry] at h
  refine vSC_mid none [(0, .one (.d (.str (B a0))))] (fun K hK => ?_) ?_
  · skip
    simp (decide := true) only [go_sem]
    intros
    refine hK _ ?_ ?_ <;> simp (decide := true) only [go_sem, replicate_map']
  refine vSC_mid none [(13, .one (.d (.bool (decide ((a0.length : Int) > 1048576))))), (0, .one (.d (.str (B a0))))] (fun K hK => ?_) ?_
  · skip
    simp (decide := true) only [go_sem]
    intros
    refine hK _ ?_ ?_ <;> simp (decide := true) only [go_sem, replicate_map']
  refine vSC_condB (decide ((a0.length : Int) > 1048576)) (by simp (decide := true) only [go_sem]) (fun K1 hN1 hE1 hR1 => ⟨fun hc1 => ?_, fun hc1 => ?_⟩)
  · replace h := iteO_t hc1 h
    refine vSC_mid none [(2, .one (.d (.bool true)))] (fun K hK => ?_) ?_
    · skip
      simp (decide := true) only [go_sem]
      intros
      refine hK _ ?_ ?_ <;> simp (decide := true) only [go_sem, replicate_map']
    refine vSC_ret (hR1 _ ?_)
    obtain rfl := Option.some.inj h
    simp (decide := true) only [go_sem, replicate_map']
  · replace h := iteO_f hc1 h
    refine vSC_done (hN1 _ ?_)
    obtain ⟨x1, e2, h⟩ := bindO_some h
    refine vSC_mid (some ([.loc 16 (.loc 1 .nil), .loc 16 (.loc 2 .nil), .loc 16 (.loc 3 .nil)], [(3, 1150, [.keep, .keep, .keep, .keep])])) [(4, .one (.d (.bool x1.2))), (3, .one (.ptr (.loc 1150 .nil) 0 [.d (.int .i64 x1.1.fNow), .d (.list 1 (List.map rI x1.1.fTies)), .d (.list 1 (List.map rI x1.1.fNodes)), .d (.list 1 (List.map rI x1.1.fValues))])), (0, .one (.d (.str (B a0))))] (fun K hK => ?_) ?_
    · skip
      simp (decide := true) only [go_sem, (F8_post e2)]
      intros
      refine hK _ ?_ ?_ <;> simp (decide := true) only [go_sem, replicate_map', (F8_post e2)]
    obtain ⟨x3, e4, h⟩ := bindO_some h
    refine vSC_mid (some ([], [(5, 1250, [.keep, .keep, .keep, .keep]), (3, 1150, [.keep, .keep, .keep, .keep])])) [(6, .one (.d (.bool x3.2))), (5, .one (.ptr (.loc 1250 .nil) 0 [.d (.int .i64 x3.1.fNow), .own (.loc 1252 .nil) 3 (List.map rI x3.1.fTies), .own (.loc 1253 .nil) 3 (List.map rI x3.1.fNodes), .own (.loc 1254 .nil) 3 (List.map rI x3.1.fValues)])), (4, .one (.d (.bool x1.2))), (3, .one (.ptr (.loc 1150 .nil) 0 [.d (.int .i64 x1.1.fNow), .d (.list 1 (List.map rI x1.1.fTies)), .d (.list 1 (List.map rI x1.1.fNodes)), .d (.list 1 (List.map rI x1.1.fValues))])), (0, .one (.d (.str (B a0))))] (fun K hK => ?_) ?_
    · skip
      simp (decide := true) only [go_sem, (F9_post e4)]
      intros
      refine hK _ ?_ ?_ <;> simp (decide := true) only [go_sem, replicate_map', (F9_post e4)]
    obtain ⟨x5, e6, h⟩ := bindO_some h
    refine vSC_mid none [(32, .one (.d (.bool ((!x5) || (!(x3.2 == x1.2)))))), (5, .one (.ptr (.loc 1250 .nil) 0 [.d (.int .i64 x3.1.fNow), .own (.loc 1252 .nil) 3 (List.map rI x3.1.fTies), .own (.loc 1253 .nil) 3 (List.map rI x3.1.fNodes), .own (.loc 1254 .nil) 3 (List.map rI x3.1.fValues)])), (4, .one (.d (.bool x1.2))), (3, .one (.ptr (.loc 1150 .nil) 0 [.d (.int .i64 x1.1.fNow), .d (.list 1 (List.map rI x1.1.fTies)), .d (.list 1 (List.map rI x1.1.fNodes)), .d (.list 1 (List.map rI x1.1.fValues))])), (0, .one (.d (.str (B a0))))] (fun K hK => ?_) ?_
    · skip
      cases hp1 : (!x5)
      · skip
        simp (decide := true) only [go_sem, (F10_post e6), hp1]
        intros
        refine hK _ ?_ ?_ <;> simp (decide := true) only [go_sem, replicate_map', (F10_post e6), hp1]
      · skip
        simp (decide := true) only [go_sem, (F10_post e6), hp1]
        intros
        refine hK _ ?_ ?_ <;> simp (decide := true) only [go_sem, replicate_map', (F10_post e6), hp1]
    refine vSC_condB ((!x5) || (!(x3.2 == x1.2))) (by simp (decide := true) only [go_sem]) (fun K2 hN2 hE2 hR2 => ⟨fun hc2 => ?_, fun hc2 => ?_⟩)
    · replace h := iteO_t hc2 h
      refine vSC_mid none [(2, .one (.d (.bool false)))] (fun K hK => ?_) ?_
      · skip
        simp (decide := true) only [go_sem]
        intros
        refine hK _ ?_ ?_ <;> simp (decide := true) only [go_sem, replicate_map']
      refine vSC_ret (hR2 _ ?_)
      obtain rfl := Option.some.inj h
      simp (decide := true) only [go_sem, replicate_map']
    · replace h := iteO_f hc2 h
      refine vSC_done (hN2 _ ?_)
      refine vSC_mid none [(7, .one (.d (.int .i64 1))), (5, .one (.ptr (.loc 1250 .nil) 0 [.d (.int .i64 x3.1.fNow), .own (.loc 1252 .nil) 3 (List.map rI x3.1.fTies), .own (.loc 1253 .nil) 3 (List.map rI x3.1.fNodes), .own (.loc 1254 .nil) 3 (List.map rI x3.1.fValues)])), (4, .one (.d (.bool x1.2))), (3, .one (.ptr (.loc 1150 .nil) 0 [.d (.int .i64 x1.1.fNow), .d (.list 1 (List.map rI x1.1.fTies)), .d (.list 1 (List.map rI x1.1.fNodes)), .d (.list 1 (List.map rI x1.1.fValues))])), (0, .one (.d (.str (B a0))))] (fun K hK => ?_) ?_
      · skip
        simp (decide := true) only [go_sem]
        intros
        refine hK _ ?_ ?_ <;> simp (decide := true) only [go_sem, replicate_map']
      obtain ⟨x7, e8, h⟩ := bindO_some h
      refine vSC_mid none [(7, .one (.d (.int .i64 x7.1))), (5, .one (.ptr (.loc 1250 .nil) 0 [.d (.int .i64 x3.1.fNow), .own (.loc 1252 .nil) 3 (List.map rI x7.2.fTies), .own (.loc 1253 .nil) 3 (List.map rI x7.2.fNodes), .own (.loc 1254 .nil) 3 (List.map rI x7.2.fValues)])), (4, .one (.d (.bool x1.2))), (3, .one (.ptr (.loc 1150 .nil) 0 [.d (.int .i64 x1.1.fNow), .d (.list 1 (List.map rI x1.1.fTies)), .d (.list 1 (List.map rI x1.1.fNodes)), .d (.list 1 (List.map rI x1.1.fValues))])), (0, .one (.d (.str (B a0))))] (fun K hK => ?_) ?_
      · skip
        simp (decide := true) only [go_sem, (F11_post (.loc 1252 .nil) (.loc 1253 .nil) (.loc 1254 .nil) e8)]
        intros
        refine hK _ ?_ ?_ <;> simp (decide := true) only [go_sem, replicate_map', (F11_post (.loc 1252 .nil) (.loc 1253 .nil) (.loc 1254 .nil) e8)]
      refine vSC_mid none [(8, .one (.d (.int .i64 1))), (7, .one (.d (.int .i64 x7.1))), (5, .one (.ptr (.loc 1250 .nil) 0 [.d (.int .i64 x3.1.fNow), .own (.loc 1252 .nil) 3 (List.map rI x7.2.fTies), .own (.loc 1253 .nil) 3 (List.map rI x7.2.fNodes), .own (.loc 1254 .nil) 3 (List.map rI x7.2.fValues)])), (4, .one (.d (.bool x1.2))), (3, .one (.ptr (.loc 1150 .nil) 0 [.d (.int .i64 x1.1.fNow), .d (.list 1 (List.map rI x1.1.fTies)), .d (.list 1 (List.map rI x1.1.fNodes)), .d (.list 1 (List.map rI x1.1.fValues))])), (0, .one (.d (.str (B a0))))] (fun K hK => ?_) ?_
      · skip
        simp (decide := true) only [go_sem]
        intros
        refine hK _ ?_ ?_ <;> simp (decide := true) only [go_sem, replicate_map']
      obtain ⟨x9, e10, h⟩ := bindO_some h
      refine vSC_mid none [(8, .one (.d (.int .i64 x9))), (7, .one (.d (.int .i64 x7.1))), (5, .one (.ptr (.loc 1250 .nil) 0 [.d (.int .i64 x3.1.fNow), .own (.loc 1252 .nil) 3 (List.map rI x7.2.fTies), .own (.loc 1253 .nil) 3 (List.map rI x7.2.fNodes), .own (.loc 1254 .nil) 3 (List.map rI x7.2.fValues)])), (4, .one (.d (.bool x1.2))), (3, .one (.ptr (.loc 1150 .nil) 0 [.d (.int .i64 x1.1.fNow), .d (.list 1 (List.map rI x1.1.fTies)), .d (.list 1 (List.map rI x1.1.fNodes)), .d (.list 1 (List.map rI x1.1.fValues))])), (0, .one (.d (.str (B a0))))] (fun K hK => ?_) ?_
      · skip
        simp (decide := true) only [go_sem, (F12_post e10)]
        intros
        refine hK _ ?_ ?_ <;> simp (decide := true) only [go_sem, replicate_map', (F12_post e10)]
      refine vSC_mid none [(40, .one (.d (.bool (decide (x9 < 0))))), (8, .one (.d (.int .i64 x9))), (7, .one (.d (.int .i64 x7.1))), (5, .one (.ptr (.loc 1250 .nil) 0 [.d (.int .i64 x3.1.fNow), .own (.loc 1252 .nil) 3 (List.map rI x7.2.fTies), .own (.loc 1253 .nil) 3 (List.map rI x7.2.fNodes), .own (.loc 1254 .nil) 3 (List.map rI x7.2.fValues)])), (4, .one (.d (.bool x1.2))), (3, .one (.ptr (.loc 1150 .nil) 0 [.d (.int .i64 x1.1.fNow), .d (.list 1 (List.map rI x1.1.fTies)), .d (.list 1 (List.map rI x1.1.fNodes)), .d (.list 1 (List.map rI x1.1.fValues))])), (0, .one (.d (.str (B a0))))] (fun K hK => ?_) ?_
      · skip
        simp (decide := true) only [go_sem]
        intros
        refine hK _ ?_ ?_ <;> simp (decide := true) only [go_sem, replicate_map']
      refine vSC_condB (decide (x9 < 0)) (by simp (decide := true) only [go_sem]) (fun K3 hN3 hE3 hR3 => ⟨fun hc3 => ?_, fun hc3 => ?_⟩)
      · replace h := iteO_t hc3 h
        refine vSC_mid none [(2, .one (.d (.bool false)))] (fun K hK => ?_) ?_
        · skip
          simp (decide := true) only [go_sem]
          intros
          refine hK _ ?_ ?_ <;> simp (decide := true) only [go_sem, replicate_map']
        refine vSC_ret (hR3 _ ?_)
        obtain rfl := Option.some.inj h
        simp (decide := true) only [go_sem, replicate_map']
      · replace h := iteO_f hc3 h
        refine vSC_done (hN3 _ ?_)
        refine vSC_mid none [(43, .one (.d (.bool (x9 != x7.1)))), (7, .one (.d (.int .i64 x7.1))), (5, .one (.ptr (.loc 1250 .nil) 0 [.d (.int .i64 x3.1.fNow), .own (.loc 1252 .nil) 3 (List.map rI x7.2.fTies), .own (.loc 1253 .nil) 3 (List.map rI x7.2.fNodes), .own (.loc 1254 .nil) 3 (List.map rI x7.2.fValues)])), (4, .one (.d (.bool x1.2))), (3, .one (.ptr (.loc 1150 .nil) 0 [.d (.int .i64 x1.1.fNow), .d (.list 1 (List.map rI x1.1.fTies)), .d (.list 1 (List.map rI x1.1.fNodes)), .d (.list 1 (List.map rI x1.1.fValues))])), (0, .one (.d (.str (B a0))))] (fun K hK => ?_) ?_
        · skip
          simp (decide := true) only [go_sem]
          intros
          refine hK _ ?_ ?_ <;> simp (decide := true) only [go_sem, replicate_map']
        refine vSC_condB (x9 != x7.1) (by simp (decide := true) only [go_sem]) (fun K4 hN4 hE4 hR4 => ⟨fun hc4 => ?_, fun hc4 => ?_⟩)
        · replace h := iteO_t hc4 h
          refine vSC_mid none [(2, .one (.d (.bool false)))] (fun K hK => ?_) ?_
          · skip
            simp (decide := true) only [go_sem]
            intros
            refine hK _ ?_ ?_ <;> simp (decide := true) only [go_sem, replicate_map']
          refine vSC_ret (hR4 _ ?_)
          obtain rfl := Option.some.inj h
          simp (decide := true) only [go_sem, replicate_map']
        · replace h := iteO_f hc4 h
          refine vSC_done (hN4 _ ?_)
          obtain ⟨x11, e12, h⟩ := bindO_some h
          refine vSC_mid (some ([.loc 46 (.loc 1 .nil), .loc 46 (.loc 2 .nil), .loc 46 (.loc 3 .nil)], [(9, 1450, [.keep, .keep, .keep, .keep]), (5, 1250, [.keep, .keep, .keep, .keep]), (3, 1150, [.keep, .keep, .keep, .keep])])) [(10, .one (.d (.bool x11.2))), (9, .one (.ptr (.loc 1450 .nil) 0 [.d (.int .i64 x11.1.fNow), .d (.list 1 (List.map rI x11.1.fTies)), .d (.list 1 (List.map rI x11.1.fNodes)), .d (.list 1 (List.map rI x11.1.fValues))])), (7, .one (.d (.int .i64 x7.1))), (5, .one (.ptr (.loc 1250 .nil) 0 [.d (.int .i64 x3.1.fNow), .own (.loc 1252 .nil) 3 (List.map rI x7.2.fTies), .own (.loc 1253 .nil) 3 (List.map rI x7.2.fNodes), .own (.loc 1254 .nil) 3 (List.map rI x7.2.fValues)])), (4, .one (.d (.bool x1.2))), (3, .one (.ptr (.loc 1150 .nil) 0 [.d (.int .i64 x1.1.fNow), .d (.list 1 (List.map rI x1.1.fTies)), .d (.list 1 (List.map rI x1.1.fNodes)), .d (.list 1 (List.map rI x1.1.fValues))]))] (fun K hK => ?_) ?_
          · skip
            simp (decide := true) only [go_sem, (F9_post e12)]
            intros
            refine hK _ ?_ ?_ <;> simp (decide := true) only [go_sem, replicate_map', (F9_post e12)]
          obtain ⟨x13, e14, h⟩ := bindO_some h
          refine vSC_mid none [(57, .one (.d (.bool ((!x13) || (!(x11.2 == x1.2)))))), (7, .one (.d (.int .i64 x7.1))), (5, .one (.ptr (.loc 1250 .nil) 0 [.d (.int .i64 x3.1.fNow), .own (.loc 1252 .nil) 3 (List.map rI x7.2.fTies), .own (.loc 1253 .nil) 3 (List.map rI x7.2.fNodes), .own (.loc 1254 .nil) 3 (List.map rI x7.2.fValues)]))] (fun K hK => ?_) ?_
          · skip
            cases hp1 : (!x13)
            · skip
              simp (decide := true) only [go_sem, (F10_post e14), hp1]
              intros
              refine hK _ ?_ ?_ <;> simp (decide := true) only [go_sem, replicate_map', (F10_post e14), hp1]
            · skip
              simp (decide := true) only [go_sem, (F10_post e14), hp1]
              intros
              refine hK _ ?_ ?_ <;> simp (decide := true) only [go_sem, replicate_map', (F10_post e14), hp1]
          refine vSC_condB ((!x13) || (!(x11.2 == x1.2))) (by simp (decide := true) only [go_sem]) (fun K5 hN5 hE5 hR5 => ⟨fun hc5 => ?_, fun hc5 => ?_⟩)
          · replace h := iteO_t hc5 h
            refine vSC_mid none [(2, .one (.d (.bool false)))] (fun K hK => ?_) ?_
            · skip
              simp (decide := true) only [go_sem]
              intros
              refine hK _ ?_ ?_ <;> simp (decide := true) only [go_sem, replicate_map']
            refine vSC_ret (hR5 _ ?_)
            obtain rfl := Option.some.inj h
            simp (decide := true) only [go_sem, replicate_map']
          · replace h := iteO_f hc5 h
            refine vSC_done (hN5 _ ?_)
            refine vSC_mid none [(8, .one (.d (.int .i64 1))), (7, .one (.d (.int .i64 x7.1))), (5, .one (.ptr (.loc 1250 .nil) 0 [.d (.int .i64 x3.1.fNow), .own (.loc 1252 .nil) 3 (List.map rI x7.2.fTies), .own (.loc 1253 .nil) 3 (List.map rI x7.2.fNodes), .own (.loc 1254 .nil) 3 (List.map rI x7.2.fValues)]))] (fun K hK => ?_) ?_
            · skip
              simp (decide := true) only [go_sem]
              intros
              refine hK _ ?_ ?_ <;> simp (decide := true) only [go_sem, replicate_map']
            obtain ⟨x15, e16, h⟩ := bindO_some h
            refine vSC_mid none [(8, .one (.d (.int .i64 x15))), (7, .one (.d (.int .i64 x7.1)))] (fun K hK => ?_) ?_
            · skip
              simp (decide := true) only [go_sem, (F12_post e16)]
              intros
              refine hK _ ?_ ?_ <;> simp (decide := true) only [go_sem, replicate_map', (F12_post e16)]
            refine vSC_mid none [(62, .one (.d (.bool (decide (x15 < 0))))), (8, .one (.d (.int .i64 x15))), (7, .one (.d (.int .i64 x7.1)))] (fun K hK => ?_) ?_
            · skip
              simp (decide := true) only [go_sem]
              intros
              refine hK _ ?_ ?_ <;> simp (decide := true) only [go_sem, replicate_map']
            refine vSC_condB (decide (x15 < 0)) (by simp (decide := true) only [go_sem]) (fun K6 hN6 hE6 hR6 => ⟨fun hc6 => ?_, fun hc6 => ?_⟩)
            · replace h := iteO_t hc6 h
              refine vSC_mid none [(2, .one (.d (.bool false)))] (fun K hK => ?_) ?_
              · skip
                simp (decide := true) only [go_sem]
                intros
                refine hK _ ?_ ?_ <;> simp (decide := true) only [go_sem, replicate_map']
              refine vSC_ret (hR6 _ ?_)
              obtain rfl := Option.some.inj h
              simp (decide := true) only [go_sem, replicate_map']
            · replace h := iteO_f hc6 h
              refine vSC_done (hN6 _ ?_)
              refine vSC_mid none [(65, .one (.d (.bool (x15 != x7.1))))] (fun K hK => ?_) ?_
              · skip
                simp (decide := true) only [go_sem]
                intros
                refine hK _ ?_ ?_ <;> simp (decide := true) only [go_sem, replicate_map']
              refine vSC_condB (x15 != x7.1) (by simp (decide := true) only [go_sem]) (fun K7 hN7 hE7 hR7 => ⟨fun hc7 => ?_, fun hc7 => ?_⟩)
              · replace h := iteO_t hc7 h
                refine vSC_mid none [(2, .one (.d (.bool false)))] (fun K hK => ?_) ?_
                · skip
                  simp (decide := true) only [go_sem]
                  intros
                  refine hK _ ?_ ?_ <;> simp (decide := true) only [go_sem, replicate_map']
                refine vSC_ret (hR7 _ ?_)
                obtain rfl := Option.some.inj h
                simp (decide := true) only [go_sem, replicate_map']
              · replace h := iteO_f hc7 h
                refine vSC_done (hN7 _ ?_)
                refine vSC_mid none [(2, .one (.d (.bool true)))] (fun K hK => ?_) ?_
                · skip
                  simp (decide := true) only [go_sem]
                  intros
                  refine hK _ ?_ ?_ <;> simp (decide := true) only [go_sem, replicate_map']
                refine vSC_ret ?_
                obtain rfl := Option.some.inj h
                simp (decide := true) only [go_sem, replicate_map']
end Go.VS
