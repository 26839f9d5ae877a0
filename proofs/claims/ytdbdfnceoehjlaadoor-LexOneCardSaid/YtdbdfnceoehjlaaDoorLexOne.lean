/- The statement LexOne: each of the texts is one token of its kind, with just that text. No condition. -/
import Derived.Test.YtdbdfnceoehjlaaDoorLexBase
import Derived.ProofKit
import Derived.Lay
import Derived.LaidOnce
import Derived.Test.YtdbdfnceoehjlaaDoorRows
import Derived.Test.YtdbdfnceoehjlaaDoorTie
import Derived.Test.YtdbdfnceoehjlaaDoorCards
namespace Go.Proofs.YtdbdfnceoehjlaaDoor
open Go.RowKit Go.Am
open Go.ChangeShapes Go.WideShapes Go.ChangeAt Go.Lib
set_option maxRecDepth 100000
noncomputable def oneRun (x : Nat) : Bool := yes (run Tryd.prog (picks [⟨0, 21, x⟩]) 1000 4 (ghosts Tryd.prog 1) (mem0 Tryd.prog 1))
theorem one_all : (List.range 21).all oneRun = true := by kernel_rfl
theorem one_says (n : Int) : Says Tryd.prog 4 #[.int .i64 n] (.bool true) := by
  have h0 := Int.emod_nonneg n (show (21 : Int) ≠ 0 by omega)
  have h1 := Int.emod_lt_of_pos n (show (0 : Int) < 21 by omega)
  have hr : oneRun (n % 21).toNat = true := List.all_eq_true.1 one_all _ (List.mem_range.2 (by omega))
  refine law_calls (vs := [.int .i64 n]) (fun w => picks_ok (l := [⟨0, 21, (n % 21).toNat⟩]) ?_ _ _) rfl Tryd.func4 (by kernel_rfl) (by kernel_rfl) hr
  intro q hq
  rw [List.mem_singleton.1 hq]
  exact ⟨n, rfl, (Int.toNat_of_nonneg h0).symm⟩
theorem lexOne_lifted (os : Os) (started : os.Started) (H : Type) (enc : TypeId × Value → H) :
    ReturnsInHanded {} Tryd.checked os 4 .any (fun w args => (Rows.lexOneSpec.pre enc Tryd.prog Tryd.f4 [] false w args ∧ laidMetH Tryd.prog Rows.lexOneRow.laid w) ∧ sizedMet enc Tryd.prog Tryd.f4 (OpenSpec.ofChange Rows.lexOneSpec) false w args)
      (Rows.lexOneSpec.post enc Tryd.prog Tryd.f4 false true false false) := by
  refine returnsInHanded_of_change_and (C := Tryd.checked) (X := fun w _ => laidMetH Tryd.prog Rows.lexOneRow.laid w) (fun _ _ _ hh h => h.of_heap hh) own started (by kernel_rfl) Tryd.func4
    (ChangeSpec.witness_shaped (enc := enc) (C := Tryd.checked) (os := os) (X := fun w _ => laidMetH Tryd.prog Rows.lexOneRow.laid w) false (World.laidAll Tryd.prog os Rows.lexOneRow.laid) #[.int .i64 0] 8 (World.laidAll_os _ _ _)
      (World.shaped_of_ZipB (by kernel_rfl) (by kernel_rfl)) (by kernel_rfl) (by kernel_rfl) (by kernel_rfl)
      (by rw [MakeChecks.laidMetH_plain _ _ _ (by kernel_rfl)]; exact laidMet_laidAll _ (by kernel_rfl) (by kernel_rfl))) ?_
  intro W base args ds gs before hval0 hW _ _ hL _
  have hval : ∀ (j : Nat) t v, Tryd.f4.params[j]? = some t → args[j]? = some v → Value.okWide Tryd.prog W .any base t v := hval0
  have hW' := hW
  obtain ⟨p, q, hA0, hV, rfl, _, _⟩ := hW
  have hA : DataW.TrodAll enc Tryd.prog W 0 (fun _ => true) true Tryd.f4.params.toList args.toList ds p := hA0
  rw [Tryd.params4] at hA hval
  obtain ⟨v0, d0, rfl, rfl, h0⟩ := trodAll_one hA
  obtain ⟨rfl, rfl⟩ := trodVars_none hV
  obtain ⟨x0, rfl, rfl, rfl, w0⟩ := open_int Tryd.underlying3 (hval 0 3 v0 rfl rfl) h0
  simp only [List.append_nil] at hW'
  refine (one_says x0 W).mono fun e W' ⟨he, hb⟩ => ?_
  subst he
  exact ⟨_, rfl, _, _, _, [], [], [], hW', trodAll_mk1 (shut_bool Tryd.underlying4 _), trodAll_mk1 (shut_int Tryd.underlying3 w0), rfl, hb.frame _, fun h => by cases h⟩
theorem lexOne_holds : Rows.LexOneSaid :=
  OpenClaim.holds_of_wide 4 Tryd.f4 rfl rfl rfl rfl rfl rfl rfl ⟨rfl, rfl, rfl, rfl, rfl⟩ rfl rfl rfl rfl rfl (by kernel_rfl) Tryd.func4 (by kernel_rfl)
    (of_decide_eq_true (by kernel_rfl)) (by unfold Func.isWrapper; first | (rw [if_pos (by decide +kernel)]; kernel_rfl) | (rw [if_neg (by decide +kernel)]; exact ⟨rfl, rfl⟩))
    (fun os started H enc _ => lexOne_lifted os started H enc)
theorem lexOne_card_holds : Rows.LexOneCardSaid :=
  Claim7.holds_tied_plain_at .later [] [.data, .pinned] true (true, "3327ba9a901b8587d948e925069a134ed569003d2d7c39c78880c65991dc96b7") false lexOne_holds (fun _ h => by cases h) (by kernel_rfl) (fun _ h => by cases h) lexOne_row_tie rfl ⟨rfl, rfl⟩ (by kernel_rfl) rfl
    (fun f fn hf hfn => by
      obtain rfl : f = 4 := Option.some.inj ((show Tryd.prog.funcNamed "triad/triadlaw11.LexOne" = some 4 by kernel_rfl).symm.trans hf) |>.symm
      obtain rfl : fn = Tryd.f4 := (Option.some.inj (Tryd.func4.symm.trans hfn)).symm
      exact ⟨by kernel_rfl, fun j t ht => by
        rw [Tryd.params4] at ht
        have hm : t ∈ [3] := by simpa using Array.mem_of_getElem? ht
        have hall : ([3].all fun u => !Tryd.prog.wantsStandIn u) = true := by kernel_rfl
        exact (show Tryd.prog.wantsStandIn t = false by simpa using List.all_eq_true.1 hall t hm)⟩)
    (by kernel_rfl)
#print axioms lexOne_card_holds
end Go.Proofs.YtdbdfnceoehjlaaDoor
