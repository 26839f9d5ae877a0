/- The statement DecPrints: any decimal is printed as the document says, and read as it was; for all numbers. No condition. -/
import Derived.Test.YtoieohcleepmmaaDoorDeN
import Derived.ProofKit
import Derived.Lay
import Derived.LaidOnce
import Derived.Test.YtoieohcleepmmaaDoorRows
import Derived.Test.YtoieohcleepmmaaDoorTie
import Derived.Test.YtoieohcleepmmaaDoorCards
namespace Go.Proofs.YtoieohcleepmmaaDoor
open Go.RowKit Go.Am
open Go.ChangeShapes Go.WideShapes Go.ChangeAt Go.Lib
set_option maxRecDepth 1000000
set_option linter.unusedSimpArgs false
set_option linter.unusedVariables false
/-! ### the law -/
theorem eqS_self (s : ByteArray) : eqS s s = true := by
  unfold eqS strL; rw [eqL_eq]; exact BEq.rfl
noncomputable abbrev s5 : List KSpec := [(9, knownS), (13, goodS), (16, printS), (17, printS), (11, parseS)]
theorem prints_says (m p : Int) : Says Tryd.prog 5 ⟨[.int .i64 m, .int .i64 p]⟩ (.bool true) := by
  refine says_of_K masks (s := s5) (fun x h => ?_) none 0 Tryd.func5 (by kernel_rfl) (c := code 5) (by kernel_rfl) (by kernel_rfl) rfl rfl rfl ?_
  · simp only [List.mem_cons, List.not_mem_nil, or_false] at h
    rcases h with rfl | rfl | rfl | rfl | rfl
    · exact known_h
    · exact good_h
    · exact print_h
    · exact rprint_h
    · exact parse_h
  refine Eq.trans ?_ ((K5 m p (ltow Tryd.prog (fiAt fis 5) (kcall s5) none 0).lp (ltow Tryd.prog (fiAt fis 5) (kcall s5) none 0).gs).trans ?_)
  · rfl
  have vA := good_valid m p
  obtain ⟨h1, h2, h3, h4⟩ := back _ _ vA
  rw [vA, h1, h2, h3, h4, eqS_self]
  simp only [eqI_self]
  rfl
theorem own : ownKnob Tryd.prog.godebug = none := by kernel_rfl
theorem decPrints_lifted (os : Os) (started : os.Started) (H : Type) (enc : TypeId × Value → H) :
    ReturnsInHanded {} Tryd.checked os 5 .any (fun w args => (Rows.decPrintsSpec.pre enc Tryd.prog Tryd.f5 [] false w args ∧ laidMetH Tryd.prog Rows.decPrintsRow.laid w) ∧ sizedMet enc Tryd.prog Tryd.f5 (OpenSpec.ofChange Rows.decPrintsSpec) false w args)
      (Rows.decPrintsSpec.post enc Tryd.prog Tryd.f5 false true false false) := by
  refine returnsInHanded_of_change_and (C := Tryd.checked) (X := fun w _ => laidMetH Tryd.prog Rows.decPrintsRow.laid w) (fun _ _ _ hh h => h.of_heap hh) own started (by kernel_rfl) Tryd.func5
    (ChangeSpec.witness_shaped (enc := enc) (C := Tryd.checked) (os := os) (X := fun w _ => laidMetH Tryd.prog Rows.decPrintsRow.laid w) false (World.laidAll Tryd.prog os Rows.decPrintsRow.laid) #[.int .i64 0, .int .i64 0] 8 (World.laidAll_os _ _ _)
      (World.shaped_of_ZipB (by kernel_rfl) (by kernel_rfl)) (by kernel_rfl) (by kernel_rfl) (by kernel_rfl)
      (by rw [MakeChecks.laidMetH_plain _ _ _ (by kernel_rfl)]; exact laidMet_laidAll _ (by kernel_rfl) (by kernel_rfl))) ?_
  intro W base args ds gs before hval0 hW _ _ hL _
  have hval : ∀ (j : Nat) t v, Tryd.f5.params[j]? = some t → args[j]? = some v → Value.okWide Tryd.prog W .any base t v := hval0
  have hW' := hW
  obtain ⟨p, q, hA0, hV, rfl, _, _⟩ := hW
  have hA : DataW.TrodAll enc Tryd.prog W 0 (fun _ => true) true Tryd.f5.params.toList args.toList ds p := hA0
  rw [Tryd.params5] at hA hval
  obtain ⟨v0, v1, d0, d1, p0, p1, rfl, rfl, rfl, h0, h1⟩ := trodAll_two hA
  obtain ⟨rfl, rfl⟩ := trodVars_none hV
  obtain ⟨x0, rfl, rfl, rfl, w0⟩ := open_int Tryd.underlying3 (hval 0 3 v0 rfl rfl) h0
  obtain ⟨x1, rfl, rfl, rfl, w1⟩ := open_int Tryd.underlying3 (hval 1 3 v1 rfl rfl) h1
  simp only [List.append_nil] at hW'
  refine (prints_says x0 x1 W).mono fun e W' ⟨he, hb⟩ => ?_
  subst he
  exact ⟨_, rfl, _, _, _, [], [], [], hW', trodAll_mk1 (shut_bool Tryd.underlying4 _), trodAll_mk2 (shut_int Tryd.underlying3 w0) (shut_int Tryd.underlying3 w1), rfl, hb.frame _, fun h => by cases h⟩
theorem decPrints_holds : Rows.DecPrintsSaid :=
  OpenClaim.holds_of_wide 5 Tryd.f5 rfl rfl rfl rfl rfl rfl rfl ⟨rfl, rfl, rfl, rfl, rfl⟩ rfl rfl rfl rfl rfl (by kernel_rfl) Tryd.func5 (by kernel_rfl)
    (of_decide_eq_true (by kernel_rfl)) (by unfold Func.isWrapper; first | (rw [if_pos (by decide +kernel)]; kernel_rfl) | (rw [if_neg (by decide +kernel)]; exact ⟨rfl, rfl⟩))
    (fun os started H enc _ => decPrints_lifted os started H enc)
theorem decPrints_card_holds : Rows.DecPrintsCardSaid :=
  Claim7.holds_tied_plain_at .later [] [.data, .pinned] true (true, "2bf8501facfaf03854a4f07ca71da2acdc182553b4ab1e5061d6595639656f6e") false decPrints_holds (fun _ h => by cases h) (by kernel_rfl) (fun _ h => by cases h) decPrints_row_tie rfl ⟨rfl, rfl⟩ (by kernel_rfl) rfl
    (fun f fn hf hfn => by
      obtain rfl : f = 5 := Option.some.inj ((show Tryd.prog.funcNamed "triad/triadlaw13.DecPrints" = some 5 by kernel_rfl).symm.trans hf) |>.symm
      obtain rfl : fn = Tryd.f5 := (Option.some.inj (Tryd.func5.symm.trans hfn)).symm
      exact ⟨by kernel_rfl, fun j t ht => by
        rw [Tryd.params5] at ht
        have hm : t ∈ [3, 3] := by simpa using Array.mem_of_getElem? ht
        have hall : ([3, 3].all fun u => !Tryd.prog.wantsStandIn u) = true := by kernel_rfl
        exact (show Tryd.prog.wantsStandIn t = false by simpa using List.all_eq_true.1 hall t hm)⟩)
    (by kernel_rfl)
#print axioms decPrints_card_holds
end Go.Proofs.YtoieohcleepmmaaDoor
