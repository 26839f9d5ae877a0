/- The statement LexTwo: pieces with a blank between are read one by one, each as it is alone. No condition. -/
import Derived.Test.YtfgokimdbodjaaaDoorLexTwoA
import Derived.Test.YtfgokimdbodjaaaDoorLexTwoB
import Derived.Test.YtfgokimdbodjaaaDoorLexTwoC
import Derived.Test.YtfgokimdbodjaaaDoorLexTwoD
import Derived.ProofKit
import Derived.Lay
import Derived.LaidOnce
import Derived.Test.YtfgokimdbodjaaaDoorRows
import Derived.Test.YtfgokimdbodjaaaDoorTie
import Derived.Test.YtfgokimdbodjaaaDoorCards
namespace Go.Proofs.YtfgokimdbodjaaaDoor
open Go.RowKit Go.Am
open Go.ChangeShapes Go.WideShapes Go.ChangeAt Go.Lib
set_option maxRecDepth 100000
theorem two_all : ∀ x, x < 54 → (List.range 54).all (twoRun x) = true
  | 0, _ => two_run0
  | 1, _ => two_run1
  | 2, _ => two_run2
  | 3, _ => two_run3
  | 4, _ => two_run4
  | 5, _ => two_run5
  | 6, _ => two_run6
  | 7, _ => two_run7
  | 8, _ => two_run8
  | 9, _ => two_run9
  | 10, _ => two_run10
  | 11, _ => two_run11
  | 12, _ => two_run12
  | 13, _ => two_run13
  | 14, _ => two_run14
  | 15, _ => two_run15
  | 16, _ => two_run16
  | 17, _ => two_run17
  | 18, _ => two_run18
  | 19, _ => two_run19
  | 20, _ => two_run20
  | 21, _ => two_run21
  | 22, _ => two_run22
  | 23, _ => two_run23
  | 24, _ => two_run24
  | 25, _ => two_run25
  | 26, _ => two_run26
  | 27, _ => two_run27
  | 28, _ => two_run28
  | 29, _ => two_run29
  | 30, _ => two_run30
  | 31, _ => two_run31
  | 32, _ => two_run32
  | 33, _ => two_run33
  | 34, _ => two_run34
  | 35, _ => two_run35
  | 36, _ => two_run36
  | 37, _ => two_run37
  | 38, _ => two_run38
  | 39, _ => two_run39
  | 40, _ => two_run40
  | 41, _ => two_run41
  | 42, _ => two_run42
  | 43, _ => two_run43
  | 44, _ => two_run44
  | 45, _ => two_run45
  | 46, _ => two_run46
  | 47, _ => two_run47
  | 48, _ => two_run48
  | 49, _ => two_run49
  | 50, _ => two_run50
  | 51, _ => two_run51
  | 52, _ => two_run52
  | 53, _ => two_run53
  | n + 54, h => absurd h (by omega)
theorem two_says (n m : Int) : Says Tryd.prog 3 #[.int .i64 n, .int .i64 m] (.bool true) := by
  obtain ⟨h0, e0⟩ := mod_ok (n := n) (k := 54) (by omega)
  obtain ⟨h1, e1⟩ := mod_ok (n := m) (k := 54) (by omega)
  refine law_calls (vs := [.int .i64 n, .int .i64 m]) (H := hints masks (twoL (n % 54).toNat (m % 54).toNat)) (fun w d => hints_ok fun p hp => ?_) rfl Tryd.func3 (by kernel_rfl) (by kernel_rfl) (List.all_eq_true.1 (two_all _ h0) _ (List.mem_range.2 h1))
  rcases List.mem_cons.1 hp with rfl | hp
  · dsimp only
    refine ghostG_ok Tryd.func7 (by kernel_rfl) (by kernel_rfl) fun q hq => ?_
    rcases List.mem_cons.1 hq with rfl | hq
    · exact ⟨(piece_says h0 e0).1, _, rfl, (piece_says h0 e0).2⟩
    · rw [List.mem_singleton.1 hq]
      exact ⟨(piece_says h1 e1).1, _, rfl, (piece_says h1 e1).2⟩
  · rcases List.mem_cons.1 hp with rfl | hp
    · dsimp only
      exact madeL_ok _ _
    · exact pickL_ok (l := []) (fun q hq => by cases hq) _ _ _ p hp
theorem lexTwo_lifted (os : Os) (started : os.Started) (H : Type) (enc : TypeId × Value → H) :
    ReturnsInHanded {} Tryd.checked os 3 .any (fun w args => (Rows.lexTwoSpec.pre enc Tryd.prog Tryd.f3 [] false w args ∧ laidMetH Tryd.prog Rows.lexTwoRow.laid w) ∧ sizedMet enc Tryd.prog Tryd.f3 (OpenSpec.ofChange Rows.lexTwoSpec) false w args)
      (Rows.lexTwoSpec.post enc Tryd.prog Tryd.f3 false true false false) := by
  refine returnsInHanded_of_change_and (C := Tryd.checked) (X := fun w _ => laidMetH Tryd.prog Rows.lexTwoRow.laid w) (fun _ _ _ hh h => h.of_heap hh) own started (by kernel_rfl) Tryd.func3
    (ChangeSpec.witness_shaped (enc := enc) (C := Tryd.checked) (os := os) (X := fun w _ => laidMetH Tryd.prog Rows.lexTwoRow.laid w) false (World.laidAll Tryd.prog os Rows.lexTwoRow.laid) #[.int .i64 0, .int .i64 0] 8 (World.laidAll_os _ _ _)
      (World.shaped_of_ZipB (by kernel_rfl) (by kernel_rfl)) (by kernel_rfl) (by kernel_rfl) (by kernel_rfl)
      (by rw [MakeChecks.laidMetH_plain _ _ _ (by kernel_rfl)]; exact laidMet_laidAll _ (by kernel_rfl) (by kernel_rfl))) ?_
  intro W base args ds gs before hval0 hW _ _ hL _
  have hval : ∀ (j : Nat) t v, Tryd.f3.params[j]? = some t → args[j]? = some v → Value.okWide Tryd.prog W .any base t v := hval0
  have hW' := hW
  obtain ⟨p, q, hA0, hV, rfl, _, _⟩ := hW
  have hA : DataW.TrodAll enc Tryd.prog W 0 (fun _ => true) true Tryd.f3.params.toList args.toList ds p := hA0
  rw [Tryd.params3] at hA hval
  obtain ⟨v0, v1, d0, d1, p0, p1, rfl, rfl, rfl, h0, h1⟩ := trodAll_two hA
  obtain ⟨rfl, rfl⟩ := trodVars_none hV
  obtain ⟨x0, rfl, rfl, rfl, w0⟩ := open_int Tryd.underlying3 (hval 0 3 v0 rfl rfl) h0
  obtain ⟨x1, rfl, rfl, rfl, w1⟩ := open_int Tryd.underlying3 (hval 1 3 v1 rfl rfl) h1
  simp only [List.append_nil] at hW'
  refine (two_says x0 x1 W).mono fun e W' ⟨he, hb⟩ => ?_
  subst he
  exact ⟨_, rfl, _, _, _, [], [], [], hW', trodAll_mk1 (shut_bool Tryd.underlying4 _), trodAll_mk2 (shut_int Tryd.underlying3 w0) (shut_int Tryd.underlying3 w1), rfl, hb.frame _, fun h => by cases h⟩
theorem lexTwo_holds : Rows.LexTwoSaid :=
  OpenClaim.holds_of_wide 3 Tryd.f3 rfl rfl rfl rfl rfl rfl rfl ⟨rfl, rfl, rfl, rfl, rfl⟩ rfl rfl rfl rfl rfl (by kernel_rfl) Tryd.func3 (by kernel_rfl)
    (of_decide_eq_true (by kernel_rfl)) (by unfold Func.isWrapper; first | (rw [if_pos (by decide +kernel)]; kernel_rfl) | (rw [if_neg (by decide +kernel)]; exact ⟨rfl, rfl⟩))
    (fun os started H enc _ => lexTwo_lifted os started H enc)
theorem lexTwo_card_holds : Rows.LexTwoCardSaid :=
  Claim7.holds_tied_plain_at .later [] [.data, .pinned] true (true, "2bcb87b5218921a9def3ca41b6bce6a4f643da416ecea8b8ddc7f9ac0d70ac07") false lexTwo_holds (fun _ h => by cases h) (by kernel_rfl) (fun _ h => by cases h) lexTwo_row_tie rfl ⟨rfl, rfl⟩ (by kernel_rfl) rfl
    (fun f fn hf hfn => by
      obtain rfl : f = 3 := Option.some.inj ((show Tryd.prog.funcNamed "triad/triadlaw11.LexTwo" = some 3 by kernel_rfl).symm.trans hf) |>.symm
      obtain rfl : fn = Tryd.f3 := (Option.some.inj (Tryd.func3.symm.trans hfn)).symm
      exact ⟨by kernel_rfl, fun j t ht => by
        rw [Tryd.params3] at ht
        have hm : t ∈ [3, 3] := by simpa using Array.mem_of_getElem? ht
        have hall : ([3, 3].all fun u => !Tryd.prog.wantsStandIn u) = true := by kernel_rfl
        exact (show Tryd.prog.wantsStandIn t = false by simpa using List.all_eq_true.1 hall t hm)⟩)
    (by kernel_rfl)
#print axioms lexTwo_card_holds
