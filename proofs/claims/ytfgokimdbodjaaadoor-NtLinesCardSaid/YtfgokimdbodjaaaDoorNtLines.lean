/- The statement NtLines: the line that is told is the first one that does not fit. No condition. -/
import Derived.Test.YtfgokimdbodjaaaDoorNtLinesA
import Derived.Test.YtfgokimdbodjaaaDoorNtLinesB
import Derived.Test.YtfgokimdbodjaaaDoorNtLinesC
import Derived.Test.YtfgokimdbodjaaaDoorNtLinesD
import Derived.ProofKit
import Derived.Lay
import Derived.LaidOnce
import Derived.Test.YtfgokimdbodjaaaDoorRows
import Derived.Test.YtfgokimdbodjaaaDoorTie
import Derived.Test.YtfgokimdbodjaaaDoorCards
namespace Go.Proofs.YtfgokimdbodjaaaDoor
open Go.RowKit Go.Am
open Go.ChangeShapes Go.WideShapes Go.ChangeAt Go.Lib
set_option maxRecDepth 100000
theorem lines_z0 : ∀ x, x < 5 → (List.range 5).all (linesRun 0 x) = true
  | 0, _ => lines_run0_0
  | 1, _ => lines_run0_1
  | 2, _ => lines_run0_2
  | 3, _ => lines_run0_3
  | 4, _ => lines_run0_4
  | n + 5, h => absurd h (by omega)
theorem lines_z1 : ∀ x, x < 5 → (List.range 5).all (linesRun 1 x) = true
  | 0, _ => lines_run1_0
  | 1, _ => lines_run1_1
  | 2, _ => lines_run1_2
  | 3, _ => lines_run1_3
  | 4, _ => lines_run1_4
  | n + 5, h => absurd h (by omega)
theorem lines_z2 : ∀ x, x < 5 → (List.range 5).all (linesRun 2 x) = true
  | 0, _ => lines_run2_0
  | 1, _ => lines_run2_1
  | 2, _ => lines_run2_2
  | 3, _ => lines_run2_3
  | 4, _ => lines_run2_4
  | n + 5, h => absurd h (by omega)
theorem lines_z3 : ∀ x, x < 5 → (List.range 5).all (linesRun 3 x) = true
  | 0, _ => lines_run3_0
  | 1, _ => lines_run3_1
  | 2, _ => lines_run3_2
  | 3, _ => lines_run3_3
  | 4, _ => lines_run3_4
  | n + 5, h => absurd h (by omega)
theorem lines_z4 : ∀ x, x < 5 → (List.range 5).all (linesRun 4 x) = true
  | 0, _ => lines_run4_0
  | 1, _ => lines_run4_1
  | 2, _ => lines_run4_2
  | 3, _ => lines_run4_3
  | 4, _ => lines_run4_4
  | n + 5, h => absurd h (by omega)
theorem lines_z5 : ∀ x, x < 5 → (List.range 5).all (linesRun 5 x) = true
  | 0, _ => lines_run5_0
  | 1, _ => lines_run5_1
  | 2, _ => lines_run5_2
  | 3, _ => lines_run5_3
  | 4, _ => lines_run5_4
  | n + 5, h => absurd h (by omega)
theorem lines_z6 : ∀ x, x < 5 → (List.range 5).all (linesRun 6 x) = true
  | 0, _ => lines_run6_0
  | 1, _ => lines_run6_1
  | 2, _ => lines_run6_2
  | 3, _ => lines_run6_3
  | 4, _ => lines_run6_4
  | n + 5, h => absurd h (by omega)
theorem lines_z7 : ∀ x, x < 5 → (List.range 5).all (linesRun 7 x) = true
  | 0, _ => lines_run7_0
  | 1, _ => lines_run7_1
  | 2, _ => lines_run7_2
  | 3, _ => lines_run7_3
  | 4, _ => lines_run7_4
  | n + 5, h => absurd h (by omega)
theorem lines_z8 : ∀ x, x < 5 → (List.range 5).all (linesRun 8 x) = true
  | 0, _ => lines_run8_0
  | 1, _ => lines_run8_1
  | 2, _ => lines_run8_2
  | 3, _ => lines_run8_3
  | 4, _ => lines_run8_4
  | n + 5, h => absurd h (by omega)
theorem lines_z9 : ∀ x, x < 5 → (List.range 5).all (linesRun 9 x) = true
  | 0, _ => lines_run9_0
  | 1, _ => lines_run9_1
  | 2, _ => lines_run9_2
  | 3, _ => lines_run9_3
  | 4, _ => lines_run9_4
  | n + 5, h => absurd h (by omega)
theorem lines_z10 : ∀ x, x < 5 → (List.range 5).all (linesRun 10 x) = true
  | 0, _ => lines_run10_0
  | 1, _ => lines_run10_1
  | 2, _ => lines_run10_2
  | 3, _ => lines_run10_3
  | 4, _ => lines_run10_4
  | n + 5, h => absurd h (by omega)
theorem lines_z11 : ∀ x, x < 5 → (List.range 5).all (linesRun 11 x) = true
  | 0, _ => lines_run11_0
  | 1, _ => lines_run11_1
  | 2, _ => lines_run11_2
  | 3, _ => lines_run11_3
  | 4, _ => lines_run11_4
  | n + 5, h => absurd h (by omega)
theorem lines_z12 : ∀ x, x < 5 → (List.range 5).all (linesRun 12 x) = true
  | 0, _ => lines_run12_0
  | 1, _ => lines_run12_1
  | 2, _ => lines_run12_2
  | 3, _ => lines_run12_3
  | 4, _ => lines_run12_4
  | n + 5, h => absurd h (by omega)
theorem lines_z13 : ∀ x, x < 5 → (List.range 5).all (linesRun 13 x) = true
  | 0, _ => lines_run13_0
  | 1, _ => lines_run13_1
  | 2, _ => lines_run13_2
  | 3, _ => lines_run13_3
  | 4, _ => lines_run13_4
  | n + 5, h => absurd h (by omega)
theorem lines_z14 : ∀ x, x < 5 → (List.range 5).all (linesRun 14 x) = true
  | 0, _ => lines_run14_0
  | 1, _ => lines_run14_1
  | 2, _ => lines_run14_2
  | 3, _ => lines_run14_3
  | 4, _ => lines_run14_4
  | n + 5, h => absurd h (by omega)
theorem lines_z15 : ∀ x, x < 5 → (List.range 5).all (linesRun 15 x) = true
  | 0, _ => lines_run15_0
  | 1, _ => lines_run15_1
  | 2, _ => lines_run15_2
  | 3, _ => lines_run15_3
  | 4, _ => lines_run15_4
  | n + 5, h => absurd h (by omega)
theorem lines_z16 : ∀ x, x < 5 → (List.range 5).all (linesRun 16 x) = true
  | 0, _ => lines_run16_0
  | 1, _ => lines_run16_1
  | 2, _ => lines_run16_2
  | 3, _ => lines_run16_3
  | 4, _ => lines_run16_4
  | n + 5, h => absurd h (by omega)
theorem lines_z17 : ∀ x, x < 5 → (List.range 5).all (linesRun 17 x) = true
  | 0, _ => lines_run17_0
  | 1, _ => lines_run17_1
  | 2, _ => lines_run17_2
  | 3, _ => lines_run17_3
  | 4, _ => lines_run17_4
  | n + 5, h => absurd h (by omega)
theorem lines_z18 : ∀ x, x < 5 → (List.range 5).all (linesRun 18 x) = true
  | 0, _ => lines_run18_0
  | 1, _ => lines_run18_1
  | 2, _ => lines_run18_2
  | 3, _ => lines_run18_3
  | 4, _ => lines_run18_4
  | n + 5, h => absurd h (by omega)
theorem lines_z19 : ∀ x, x < 5 → (List.range 5).all (linesRun 19 x) = true
  | 0, _ => lines_run19_0
  | 1, _ => lines_run19_1
  | 2, _ => lines_run19_2
  | 3, _ => lines_run19_3
  | 4, _ => lines_run19_4
  | n + 5, h => absurd h (by omega)
theorem lines_x : ∀ x, x < 20 → ∀ z, z < 5 → (List.range 5).all (linesRun x z) = true
  | 0, _ => lines_z0
  | 1, _ => lines_z1
  | 2, _ => lines_z2
  | 3, _ => lines_z3
  | 4, _ => lines_z4
  | 5, _ => lines_z5
  | 6, _ => lines_z6
  | 7, _ => lines_z7
  | 8, _ => lines_z8
  | 9, _ => lines_z9
  | 10, _ => lines_z10
  | 11, _ => lines_z11
  | 12, _ => lines_z12
  | 13, _ => lines_z13
  | 14, _ => lines_z14
  | 15, _ => lines_z15
  | 16, _ => lines_z16
  | 17, _ => lines_z17
  | 18, _ => lines_z18
  | 19, _ => lines_z19
  | n + 20, h => absurd h (by omega)
theorem lines_says (n m o : Int) : Says Tryd.prog 4 #[.int .i64 n, .int .i64 m, .int .i64 o] (.bool true) := by
  obtain ⟨h0, e0⟩ := mod_ok (n := n) (k := 20) (by omega)
  obtain ⟨h1, e1⟩ := mod_ok (n := m) (k := 5) (by omega)
  obtain ⟨h2, e2⟩ := mod_ok (n := o) (k := 5) (by omega)
  refine law_calls (vs := [.int .i64 n, .int .i64 m, .int .i64 o]) (fun w d => picks_ok (l := [⟨0, 20, (n % 20).toNat⟩, ⟨1, 5, (m % 5).toNat⟩, ⟨2, 5, (o % 5).toNat⟩]) ?_ _ _ _) rfl Tryd.func4 (by kernel_rfl) (by kernel_rfl) (List.all_eq_true.1 (lines_x _ h0 _ h2) _ (List.mem_range.2 h1))
  intro q hq
  rcases List.mem_cons.1 hq with rfl | hq
  · exact ⟨n, rfl, e0⟩
  · rcases List.mem_cons.1 hq with rfl | hq
    · exact ⟨m, rfl, e1⟩
    · rw [List.mem_singleton.1 hq]; exact ⟨o, rfl, e2⟩
theorem ntLines_lifted (os : Os) (started : os.Started) (H : Type) (enc : TypeId × Value → H) :
    ReturnsInHanded {} Tryd.checked os 4 .any (fun w args => (Rows.ntLinesSpec.pre enc Tryd.prog Tryd.f4 [] false w args ∧ laidMetH Tryd.prog Rows.ntLinesRow.laid w) ∧ sizedMet enc Tryd.prog Tryd.f4 (OpenSpec.ofChange Rows.ntLinesSpec) false w args)
      (Rows.ntLinesSpec.post enc Tryd.prog Tryd.f4 false true false false) := by
  refine returnsInHanded_of_change_and (C := Tryd.checked) (X := fun w _ => laidMetH Tryd.prog Rows.ntLinesRow.laid w) (fun _ _ _ hh h => h.of_heap hh) own started (by kernel_rfl) Tryd.func4
    (ChangeSpec.witness_shaped (enc := enc) (C := Tryd.checked) (os := os) (X := fun w _ => laidMetH Tryd.prog Rows.ntLinesRow.laid w) false (World.laidAll Tryd.prog os Rows.ntLinesRow.laid) #[.int .i64 0, .int .i64 0, .int .i64 0] 8 (World.laidAll_os _ _ _)
      (World.shaped_of_ZipB (by kernel_rfl) (by kernel_rfl)) (by kernel_rfl) (by kernel_rfl) (by kernel_rfl)
      (by rw [MakeChecks.laidMetH_plain _ _ _ (by kernel_rfl)]; exact laidMet_laidAll _ (by kernel_rfl) (by kernel_rfl))) ?_
  intro W base args ds gs before hval0 hW _ _ hL _
  have hval : ∀ (j : Nat) t v, Tryd.f4.params[j]? = some t → args[j]? = some v → Value.okWide Tryd.prog W .any base t v := hval0
  have hW' := hW
  obtain ⟨p, q, hA0, hV, rfl, _, _⟩ := hW
  have hA : DataW.TrodAll enc Tryd.prog W 0 (fun _ => true) true Tryd.f4.params.toList args.toList ds p := hA0
  rw [Tryd.params4] at hA hval
  obtain ⟨v0, v1, v2, d0, d1, d2, p0, p1, p2, rfl, rfl, rfl, h0, h1, h2⟩ := trodAll_three hA
  obtain ⟨rfl, rfl⟩ := trodVars_none hV
  obtain ⟨x0, rfl, rfl, rfl, w0⟩ := open_int Tryd.underlying3 (hval 0 3 v0 rfl rfl) h0
  obtain ⟨x1, rfl, rfl, rfl, w1⟩ := open_int Tryd.underlying3 (hval 1 3 v1 rfl rfl) h1
  obtain ⟨x2, rfl, rfl, rfl, w2⟩ := open_int Tryd.underlying3 (hval 2 3 v2 rfl rfl) h2
  simp only [List.append_nil] at hW'
  refine (lines_says x0 x1 x2 W).mono fun e W' ⟨he, hb⟩ => ?_
  subst he
  exact ⟨_, rfl, _, _, _, [], [], [], hW', trodAll_mk1 (shut_bool Tryd.underlying4 _), trodAll_mk3 (shut_int Tryd.underlying3 w0) (shut_int Tryd.underlying3 w1) (shut_int Tryd.underlying3 w2), rfl, hb.frame _, fun h => by cases h⟩
theorem ntLines_holds : Rows.NtLinesSaid :=
  OpenClaim.holds_of_wide 4 Tryd.f4 rfl rfl rfl rfl rfl rfl rfl ⟨rfl, rfl, rfl, rfl, rfl⟩ rfl rfl rfl rfl rfl (by kernel_rfl) Tryd.func4 (by kernel_rfl)
    (of_decide_eq_true (by kernel_rfl)) (by unfold Func.isWrapper; first | (rw [if_pos (by decide +kernel)]; kernel_rfl) | (rw [if_neg (by decide +kernel)]; exact ⟨rfl, rfl⟩))
    (fun os started H enc _ => ntLines_lifted os started H enc)
theorem ntLines_card_holds : Rows.NtLinesCardSaid :=
  Claim7.holds_tied_plain_at .later [] [.data, .pinned] true (true, "2bcb87b5218921a9def3ca41b6bce6a4f643da416ecea8b8ddc7f9ac0d70ac07") false ntLines_holds (fun _ h => by cases h) (by kernel_rfl) (fun _ h => by cases h) ntLines_row_tie rfl ⟨rfl, rfl⟩ (by kernel_rfl) rfl
    (fun f fn hf hfn => by
      obtain rfl : f = 4 := Option.some.inj ((show Tryd.prog.funcNamed "triad/triadlaw9.NtLines" = some 4 by kernel_rfl).symm.trans hf) |>.symm
      obtain rfl : fn = Tryd.f4 := (Option.some.inj (Tryd.func4.symm.trans hfn)).symm
      exact ⟨by kernel_rfl, fun j t ht => by
        rw [Tryd.params4] at ht
        have hm : t ∈ [3, 3, 3] := by simpa using Array.mem_of_getElem? ht
        have hall : ([3, 3, 3].all fun u => !Tryd.prog.wantsStandIn u) = true := by kernel_rfl
        exact (show Tryd.prog.wantsStandIn t = false by simpa using List.all_eq_true.1 hall t hm)⟩)
    (by kernel_rfl)
#print axioms ntLines_card_holds
