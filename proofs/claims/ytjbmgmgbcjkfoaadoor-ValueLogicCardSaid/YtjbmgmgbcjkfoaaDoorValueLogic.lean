/- The statement ValueLogic: of true, false, and what is an error, or, and, not are just these. No condition. -/
import Derived.Test.YtjbmgmgbcjkfoaaDoorValueBase
import Derived.ProofKit
import Derived.Lay
import Derived.LaidOnce
import Derived.Test.YtjbmgmgbcjkfoaaDoorRows
import Derived.Test.YtjbmgmgbcjkfoaaDoorTie
import Derived.Test.YtjbmgmgbcjkfoaaDoorCards
namespace Go.Proofs.YtjbmgmgbcjkfoaaDoor
open Go.RowKit Go.Am
open Go.ChangeShapes Go.WideShapes Go.ChangeAt Go.Lib
set_option maxRecDepth 100000
noncomputable def logicRun (x y : Nat) : Bool := yes (run Tryd.prog (picks [⟨0, 3, x⟩, ⟨1, 3, y⟩]) 1000 4 (ghosts Tryd.prog 2) (mem0 Tryd.prog 2))
theorem logic_run00 : logicRun 0 0 = true := by kernel_rfl
theorem logic_run01 : logicRun 0 1 = true := by kernel_rfl
theorem logic_run02 : logicRun 0 2 = true := by kernel_rfl
theorem logic_run10 : logicRun 1 0 = true := by kernel_rfl
theorem logic_run11 : logicRun 1 1 = true := by kernel_rfl
theorem logic_run12 : logicRun 1 2 = true := by kernel_rfl
theorem logic_run20 : logicRun 2 0 = true := by kernel_rfl
theorem logic_run21 : logicRun 2 1 = true := by kernel_rfl
theorem logic_run22 : logicRun 2 2 = true := by kernel_rfl
theorem logic_all (x y : Nat) (hx : x < 3) (hy : y < 3) : logicRun x y = true := by
  match x, y, hx, hy with
  | 0, 0, _, _ => exact logic_run00
  | 0, 1, _, _ => exact logic_run01
  | 0, 2, _, _ => exact logic_run02
  | 1, 0, _, _ => exact logic_run10
  | 1, 1, _, _ => exact logic_run11
  | 1, 2, _, _ => exact logic_run12
  | 2, 0, _, _ => exact logic_run20
  | 2, 1, _, _ => exact logic_run21
  | 2, 2, _, _ => exact logic_run22
theorem logic_says (n m : Int) : Says Tryd.prog 4 #[.int .i64 n, .int .i64 m] (.bool true) := by
  obtain ⟨h0, e0⟩ := mod_ok (n := n) (k := 3) (by omega)
  obtain ⟨h1, e1⟩ := mod_ok (n := m) (k := 3) (by omega)
  refine law_calls (vs := [.int .i64 n, .int .i64 m]) (fun w d => picks_ok (l := [⟨0, 3, (n % 3).toNat⟩, ⟨1, 3, (m % 3).toNat⟩]) ?_ _ _ _) rfl Tryd.func4 (by kernel_rfl) (by kernel_rfl) (logic_all _ _ h0 h1)
  intro q hq
  rcases List.mem_cons.1 hq with rfl | hq
  · exact ⟨n, rfl, e0⟩
  · rw [List.mem_singleton.1 hq]; exact ⟨m, rfl, e1⟩
theorem valueLogic_lifted (os : Os) (started : os.Started) (H : Type) (enc : TypeId × Value → H) :
    ReturnsInHanded {} Tryd.checked os 4 .any (fun w args => (Rows.valueLogicSpec.pre enc Tryd.prog Tryd.f4 [] false w args ∧ laidMetH Tryd.prog Rows.valueLogicRow.laid w) ∧ sizedMet enc Tryd.prog Tryd.f4 (OpenSpec.ofChange Rows.valueLogicSpec) false w args)
      (Rows.valueLogicSpec.post enc Tryd.prog Tryd.f4 false true false false) := by
  refine returnsInHanded_of_change_and (C := Tryd.checked) (X := fun w _ => laidMetH Tryd.prog Rows.valueLogicRow.laid w) (fun _ _ _ hh h => h.of_heap hh) own started (by kernel_rfl) Tryd.func4
    (ChangeSpec.witness_shaped (enc := enc) (C := Tryd.checked) (os := os) (X := fun w _ => laidMetH Tryd.prog Rows.valueLogicRow.laid w) false (World.laidAll Tryd.prog os Rows.valueLogicRow.laid) #[.int .i64 0, .int .i64 0] 8 (World.laidAll_os _ _ _)
      (World.shaped_of_ZipB (by kernel_rfl) (by kernel_rfl)) (by kernel_rfl) (by kernel_rfl) (by kernel_rfl)
      (by rw [MakeChecks.laidMetH_plain _ _ _ (by kernel_rfl)]; exact laidMet_laidAll _ (by kernel_rfl) (by kernel_rfl))) ?_
  intro W base args ds gs before hval0 hW _ _ hL _
  have hval : ∀ (j : Nat) t v, Tryd.f4.params[j]? = some t → args[j]? = some v → Value.okWide Tryd.prog W .any base t v := hval0
  have hW' := hW
  obtain ⟨p, q, hA0, hV, rfl, _, _⟩ := hW
  have hA : DataW.TrodAll enc Tryd.prog W 0 (fun _ => true) true Tryd.f4.params.toList args.toList ds p := hA0
  rw [Tryd.params4] at hA hval
  obtain ⟨v0, v1, d0, d1, p0, p1, rfl, rfl, rfl, h0, h1⟩ := trodAll_two hA
  obtain ⟨rfl, rfl⟩ := trodVars_none hV
  obtain ⟨x0, rfl, rfl, rfl, w0⟩ := open_int Tryd.underlying3 (hval 0 3 v0 rfl rfl) h0
  obtain ⟨x1, rfl, rfl, rfl, w1⟩ := open_int Tryd.underlying3 (hval 1 3 v1 rfl rfl) h1
  simp only [List.append_nil] at hW'
  refine (logic_says x0 x1 W).mono fun e W' ⟨he, hb⟩ => ?_
  subst he
  exact ⟨_, rfl, _, _, _, [], [], [], hW', trodAll_mk1 (shut_bool Tryd.underlying4 _), trodAll_mk2 (shut_int Tryd.underlying3 w0) (shut_int Tryd.underlying3 w1), rfl, hb.frame _, fun h => by cases h⟩
theorem valueLogic_holds : Rows.ValueLogicSaid :=
  OpenClaim.holds_of_wide 4 Tryd.f4 rfl rfl rfl rfl rfl rfl rfl ⟨rfl, rfl, rfl, rfl, rfl⟩ rfl rfl rfl rfl rfl (by kernel_rfl) Tryd.func4 (by kernel_rfl)
    (of_decide_eq_true (by kernel_rfl)) (by unfold Func.isWrapper; first | (rw [if_pos (by decide +kernel)]; kernel_rfl) | (rw [if_neg (by decide +kernel)]; exact ⟨rfl, rfl⟩))
    (fun os started H enc _ => valueLogic_lifted os started H enc)
theorem valueLogic_card_holds : Rows.ValueLogicCardSaid :=
  Claim7.holds_tied_plain_at .later [] [.data, .data, .data, .data, .pinned] true (true, "0cc28ae8ca8db464ce7eac448b4bad5630fae9ac4c14ee31a6dcf5f14c6f1685") false valueLogic_holds (fun _ h => by cases h) (by kernel_rfl) (fun _ h => by cases h) valueLogic_row_tie rfl ⟨rfl, rfl⟩ (by kernel_rfl) rfl
    (fun f fn hf hfn => by
      obtain rfl : f = 4 := Option.some.inj ((show Tryd.prog.funcNamed "triad/triadlaw15.ValueLogic" = some 4 by kernel_rfl).symm.trans hf) |>.symm
      obtain rfl : fn = Tryd.f4 := (Option.some.inj (Tryd.func4.symm.trans hfn)).symm
      exact ⟨by kernel_rfl, fun j t ht => by
        rw [Tryd.params4] at ht
        have hm : t ∈ [3, 3] := by simpa using Array.mem_of_getElem? ht
        have hall : ([3, 3].all fun u => !Tryd.prog.wantsStandIn u) = true := by kernel_rfl
        exact (show Tryd.prog.wantsStandIn t = false by simpa using List.all_eq_true.1 hall t hm)⟩)
    (by kernel_rfl)
#print axioms valueLogic_card_holds
end Go.Proofs.YtjbmgmgbcjkfoaaDoor
