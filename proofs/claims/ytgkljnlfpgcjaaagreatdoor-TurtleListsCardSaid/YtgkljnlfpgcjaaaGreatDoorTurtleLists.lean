/- The statement TurtleLists: a collection of n objects is 2 n triples, that lead from its first blank to nil. No condition. -/
import Derived.Test.YtgkljnlfpgcjaaaGreatDoorTurParseA
import Derived.Test.YtgkljnlfpgcjaaaGreatDoorTurParseB
import Derived.Test.YtgkljnlfpgcjaaaGreatDoorTurParseC
import Derived.Test.YtgkljnlfpgcjaaaGreatDoorTurListsRuns
import Derived.ProofKit
import Derived.Lay
import Derived.LaidOnce
import Derived.Test.YtgkljnlfpgcjaaaGreatDoorRows
import Derived.Test.YtgkljnlfpgcjaaaGreatDoorTie
import Derived.Test.YtgkljnlfpgcjaaaGreatDoorCards
namespace Go.Proofs.YtgkljnlfpgcjaaaGreatDoor
open Go.RowKit Go.Am
open Go.ChangeShapes Go.WideShapes Go.ChangeAt Go.Lib
set_option maxRecDepth 100000
theorem parse_all : ∀ x, x < 30 → parseIs x = true
  | 0, _ => parse_is0
  | 1, _ => parse_is1
  | 2, _ => parse_is2
  | 3, _ => parse_is3
  | 4, _ => parse_is4
  | 5, _ => parse_is5
  | 6, _ => parse_is6
  | 7, _ => parse_is7
  | 8, _ => parse_is8
  | 9, _ => parse_is9
  | 10, _ => parse_is10
  | 11, _ => parse_is11
  | 12, _ => parse_is12
  | 13, _ => parse_is13
  | 14, _ => parse_is14
  | 15, _ => parse_is15
  | 16, _ => parse_is16
  | 17, _ => parse_is17
  | 18, _ => parse_is18
  | 19, _ => parse_is19
  | 20, _ => parse_is20
  | 21, _ => parse_is21
  | 22, _ => parse_is22
  | 23, _ => parse_is23
  | 24, _ => parse_is24
  | 25, _ => parse_is25
  | 26, _ => parse_is26
  | 27, _ => parse_is27
  | 28, _ => parse_is28
  | 29, _ => parse_is29
  | n + 30, h => absurd h (by omega)
theorem lists_all : ∀ x, x < 30 → listsRun x = true
  | 0, _ => lists_run0
  | 1, _ => lists_run1
  | 2, _ => lists_run2
  | 3, _ => lists_run3
  | 4, _ => lists_run4
  | 5, _ => lists_run5
  | 6, _ => lists_run6
  | 7, _ => lists_run7
  | 8, _ => lists_run8
  | 9, _ => lists_run9
  | 10, _ => lists_run10
  | 11, _ => lists_run11
  | 12, _ => lists_run12
  | 13, _ => lists_run13
  | 14, _ => lists_run14
  | 15, _ => lists_run15
  | 16, _ => lists_run16
  | 17, _ => lists_run17
  | 18, _ => lists_run18
  | 19, _ => lists_run19
  | 20, _ => lists_run20
  | 21, _ => lists_run21
  | 22, _ => lists_run22
  | 23, _ => lists_run23
  | 24, _ => lists_run24
  | 25, _ => lists_run25
  | 26, _ => lists_run26
  | 27, _ => lists_run27
  | 28, _ => lists_run28
  | 29, _ => lists_run29
  | n + 30, h => absurd h (by omega)
theorem lists_says (n : Int) : Says Tryz.prog 4 #[.int .i64 n] (.bool true) := by
  obtain ⟨h0, e0⟩ := mod_ok (n := n) (k := 30) (by omega)
  refine law_calls (vs := [.int .i64 n]) (H := hints masks (listsL (n % 30).toNat)) (fun w d => hints_ok fun p hp => ?_) rfl Tryz.func4 (by kernel_rfl) (by kernel_rfl) (lists_all _ h0)
  rcases List.mem_cons.1 hp with rfl | hp
  · dsimp only
    refine madeG_ok Tryz.func9 (by kernel_rfl) (by kernel_rfl) fun q hq => ?_
    rw [List.mem_singleton.1 hq]
    have h := parse_all _ h0
    unfold parseIs at h
    rw [Bool.and_eq_true] at h
    obtain ⟨h1, h2⟩ := makes_of_run (H := hints masks refL) (fun w d => hints_ok (refL_ok _ _)) Tryz.func9 (by kernel_rfl) (by kernel_rfl) h.1 h.2
    exact ⟨h.1, h1, h2⟩
  · refine pickL_ok (l := [⟨0, 30, (n % 30).toNat⟩]) ?_ _ _ _ p hp
    intro q hq
    rw [List.mem_singleton.1 hq]; exact ⟨n, rfl, e0⟩
theorem turtleLists_lifted (os : Os) (started : os.Started) (H : Type) (enc : TypeId × Value → H) :
    ReturnsInHanded {} Tryz.checked os 4 .any (fun w args => (Rows.turtleListsSpec.pre enc Tryz.prog Tryz.f4 [] false w args ∧ laidMetH Tryz.prog Rows.turtleListsRow.laid w) ∧ sizedMet enc Tryz.prog Tryz.f4 (OpenSpec.ofChange Rows.turtleListsSpec) false w args)
      (Rows.turtleListsSpec.post enc Tryz.prog Tryz.f4 false true false false) := by
  refine returnsInHanded_of_change_and (C := Tryz.checked) (X := fun w _ => laidMetH Tryz.prog Rows.turtleListsRow.laid w) (fun _ _ _ hh h => h.of_heap hh) own started (by kernel_rfl) Tryz.func4
    (ChangeSpec.witness_shaped (enc := enc) (C := Tryz.checked) (os := os) (X := fun w _ => laidMetH Tryz.prog Rows.turtleListsRow.laid w) false (World.laidAll Tryz.prog os Rows.turtleListsRow.laid) #[.int .i64 0] 8 (World.laidAll_os _ _ _)
      (World.shaped_of_ZipB (by kernel_rfl) (by kernel_rfl)) (by kernel_rfl) (by kernel_rfl) (by kernel_rfl)
      (by rw [MakeChecks.laidMetH_plain _ _ _ (by kernel_rfl)]; exact laidMet_laidAll _ (by kernel_rfl) (by kernel_rfl))) ?_
  intro W base args ds gs before hval0 hW _ _ hL _
  have hval : ∀ (j : Nat) t v, Tryz.f4.params[j]? = some t → args[j]? = some v → Value.okWide Tryz.prog W .any base t v := hval0
  have hW' := hW
  obtain ⟨p, q, hA0, hV, rfl, _, _⟩ := hW
  have hA : DataW.TrodAll enc Tryz.prog W 0 (fun _ => true) true Tryz.f4.params.toList args.toList ds p := hA0
  rw [Tryz.params4] at hA hval
  obtain ⟨v0, d0, rfl, rfl, h0⟩ := trodAll_one hA
  obtain ⟨rfl, rfl⟩ := trodVars_none hV
  obtain ⟨x0, rfl, rfl, rfl, w0⟩ := open_int Tryz.underlying3 (hval 0 3 v0 rfl rfl) h0
  simp only [List.append_nil] at hW'
  refine (lists_says x0 W).mono fun e W' ⟨he, hb⟩ => ?_
  subst he
  exact ⟨_, rfl, _, _, _, [], [], [], hW', trodAll_mk1 (shut_bool Tryz.underlying4 _), trodAll_mk1 (shut_int Tryz.underlying3 w0), rfl, hb.frame _, fun h => by cases h⟩
theorem turtleLists_holds : Rows.TurtleListsSaid :=
  OpenClaim.holds_of_wide 4 Tryz.f4 rfl rfl rfl rfl rfl rfl rfl ⟨rfl, rfl, rfl, rfl, rfl⟩ rfl rfl rfl rfl rfl (by kernel_rfl) Tryz.func4 (by kernel_rfl)
    (of_decide_eq_true (by kernel_rfl)) (by unfold Func.isWrapper; first | (rw [if_pos (by decide +kernel)]; kernel_rfl) | (rw [if_neg (by decide +kernel)]; exact ⟨rfl, rfl⟩))
    (fun os started H enc _ => turtleLists_lifted os started H enc)
theorem turtleLists_card_holds : Rows.TurtleListsCardSaid :=
  Claim7.holds_tied_plain_at .later [] [.data, .data, .data, .data, .pinned] true (true, "46bd06f576f661aebf6048772f8addc6aba452f4a71bab95078b53e4f38ea8e2") false turtleLists_holds (fun _ h => by cases h) (by kernel_rfl) (fun _ h => by cases h) turtleLists_row_tie rfl ⟨rfl, rfl⟩ (by kernel_rfl) rfl
    (fun f fn hf hfn => by
      obtain rfl : f = 4 := Option.some.inj ((show Tryz.prog.funcNamed "triad/triadlaw12.TurtleLists" = some 4 by kernel_rfl).symm.trans hf) |>.symm
      obtain rfl : fn = Tryz.f4 := (Option.some.inj (Tryz.func4.symm.trans hfn)).symm
      exact ⟨by kernel_rfl, fun j t ht => by
        rw [Tryz.params4] at ht
        have hm : t ∈ [3] := by simpa using Array.mem_of_getElem? ht
        have hall : ([3].all fun u => !Tryz.prog.wantsStandIn u) = true := by kernel_rfl
        exact (show Tryz.prog.wantsStandIn t = false by simpa using List.all_eq_true.1 hall t hm)⟩)
    (by kernel_rfl)
#print axioms turtleLists_card_holds
