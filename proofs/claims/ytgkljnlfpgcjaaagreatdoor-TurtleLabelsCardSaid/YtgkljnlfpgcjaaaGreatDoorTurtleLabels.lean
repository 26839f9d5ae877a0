/- The statement TurtleLabels: blanks of brackets have the label that was given, and numbers from 1 on, as they come. No condition. -/
import Derived.Test.YtgkljnlfpgcjaaaGreatDoorLabRunsA
import Derived.Test.YtgkljnlfpgcjaaaGreatDoorLabRunsB
import Derived.Test.YtgkljnlfpgcjaaaGreatDoorLabRunsC
import Derived.Test.YtgkljnlfpgcjaaaGreatDoorLabRunsD
import Derived.ProofKit
import Derived.Lay
import Derived.LaidOnce
import Derived.Test.YtgkljnlfpgcjaaaGreatDoorRows
import Derived.Test.YtgkljnlfpgcjaaaGreatDoorTie
import Derived.Test.YtgkljnlfpgcjaaaGreatDoorCards
namespace Go.Proofs.YtgkljnlfpgcjaaaGreatDoor
open Go.RowKit Go.Am
open Go.ChangeShapes Go.WideShapes Go.ChangeAt Go.Lib
set_option maxRecDepth 100000
theorem lab_b0_0 : ∀ b, labIs 0 0 b = true
  | false => lab_is0_0_0
  | true => lab_is0_0_1
theorem lab_b0_1 : ∀ b, labIs 0 1 b = true
  | false => lab_is0_1_0
  | true => lab_is0_1_1
theorem lab_b0_2 : ∀ b, labIs 0 2 b = true
  | false => lab_is0_2_0
  | true => lab_is0_2_1
theorem lab_b0_3 : ∀ b, labIs 0 3 b = true
  | false => lab_is0_3_0
  | true => lab_is0_3_1
theorem lab_b0_4 : ∀ b, labIs 0 4 b = true
  | false => lab_is0_4_0
  | true => lab_is0_4_1
theorem lab_b0_5 : ∀ b, labIs 0 5 b = true
  | false => lab_is0_5_0
  | true => lab_is0_5_1
theorem lab_b0_6 : ∀ b, labIs 0 6 b = true
  | false => lab_is0_6_0
  | true => lab_is0_6_1
theorem lab_b0_7 : ∀ b, labIs 0 7 b = true
  | false => lab_is0_7_0
  | true => lab_is0_7_1
theorem lab_b0_8 : ∀ b, labIs 0 8 b = true
  | false => lab_is0_8_0
  | true => lab_is0_8_1
theorem lab_n0 : ∀ x, x < 9 → ∀ b, labIs 0 x b = true
  | 0, _ => lab_b0_0
  | 1, _ => lab_b0_1
  | 2, _ => lab_b0_2
  | 3, _ => lab_b0_3
  | 4, _ => lab_b0_4
  | 5, _ => lab_b0_5
  | 6, _ => lab_b0_6
  | 7, _ => lab_b0_7
  | 8, _ => lab_b0_8
  | n + 9, h => absurd h (by omega)
theorem lab_b1_0 : ∀ b, labIs 1 0 b = true
  | false => lab_is1_0_0
  | true => lab_is1_0_1
theorem lab_b1_1 : ∀ b, labIs 1 1 b = true
  | false => lab_is1_1_0
  | true => lab_is1_1_1
theorem lab_b1_2 : ∀ b, labIs 1 2 b = true
  | false => lab_is1_2_0
  | true => lab_is1_2_1
theorem lab_b1_3 : ∀ b, labIs 1 3 b = true
  | false => lab_is1_3_0
  | true => lab_is1_3_1
theorem lab_b1_4 : ∀ b, labIs 1 4 b = true
  | false => lab_is1_4_0
  | true => lab_is1_4_1
theorem lab_b1_5 : ∀ b, labIs 1 5 b = true
  | false => lab_is1_5_0
  | true => lab_is1_5_1
theorem lab_b1_6 : ∀ b, labIs 1 6 b = true
  | false => lab_is1_6_0
  | true => lab_is1_6_1
theorem lab_b1_7 : ∀ b, labIs 1 7 b = true
  | false => lab_is1_7_0
  | true => lab_is1_7_1
theorem lab_b1_8 : ∀ b, labIs 1 8 b = true
  | false => lab_is1_8_0
  | true => lab_is1_8_1
theorem lab_n1 : ∀ x, x < 9 → ∀ b, labIs 1 x b = true
  | 0, _ => lab_b1_0
  | 1, _ => lab_b1_1
  | 2, _ => lab_b1_2
  | 3, _ => lab_b1_3
  | 4, _ => lab_b1_4
  | 5, _ => lab_b1_5
  | 6, _ => lab_b1_6
  | 7, _ => lab_b1_7
  | 8, _ => lab_b1_8
  | n + 9, h => absurd h (by omega)
theorem lab_b2_0 : ∀ b, labIs 2 0 b = true
  | false => lab_is2_0_0
  | true => lab_is2_0_1
theorem lab_b2_1 : ∀ b, labIs 2 1 b = true
  | false => lab_is2_1_0
  | true => lab_is2_1_1
theorem lab_b2_2 : ∀ b, labIs 2 2 b = true
  | false => lab_is2_2_0
  | true => lab_is2_2_1
theorem lab_b2_3 : ∀ b, labIs 2 3 b = true
  | false => lab_is2_3_0
  | true => lab_is2_3_1
theorem lab_b2_4 : ∀ b, labIs 2 4 b = true
  | false => lab_is2_4_0
  | true => lab_is2_4_1
theorem lab_b2_5 : ∀ b, labIs 2 5 b = true
  | false => lab_is2_5_0
  | true => lab_is2_5_1
theorem lab_b2_6 : ∀ b, labIs 2 6 b = true
  | false => lab_is2_6_0
  | true => lab_is2_6_1
theorem lab_b2_7 : ∀ b, labIs 2 7 b = true
  | false => lab_is2_7_0
  | true => lab_is2_7_1
theorem lab_b2_8 : ∀ b, labIs 2 8 b = true
  | false => lab_is2_8_0
  | true => lab_is2_8_1
theorem lab_n2 : ∀ x, x < 9 → ∀ b, labIs 2 x b = true
  | 0, _ => lab_b2_0
  | 1, _ => lab_b2_1
  | 2, _ => lab_b2_2
  | 3, _ => lab_b2_3
  | 4, _ => lab_b2_4
  | 5, _ => lab_b2_5
  | 6, _ => lab_b2_6
  | 7, _ => lab_b2_7
  | 8, _ => lab_b2_8
  | n + 9, h => absurd h (by omega)
theorem lab_b3_0 : ∀ b, labIs 3 0 b = true
  | false => lab_is3_0_0
  | true => lab_is3_0_1
theorem lab_b3_1 : ∀ b, labIs 3 1 b = true
  | false => lab_is3_1_0
  | true => lab_is3_1_1
theorem lab_b3_2 : ∀ b, labIs 3 2 b = true
  | false => lab_is3_2_0
  | true => lab_is3_2_1
theorem lab_b3_3 : ∀ b, labIs 3 3 b = true
  | false => lab_is3_3_0
  | true => lab_is3_3_1
theorem lab_b3_4 : ∀ b, labIs 3 4 b = true
  | false => lab_is3_4_0
  | true => lab_is3_4_1
theorem lab_b3_5 : ∀ b, labIs 3 5 b = true
  | false => lab_is3_5_0
  | true => lab_is3_5_1
theorem lab_b3_6 : ∀ b, labIs 3 6 b = true
  | false => lab_is3_6_0
  | true => lab_is3_6_1
theorem lab_b3_7 : ∀ b, labIs 3 7 b = true
  | false => lab_is3_7_0
  | true => lab_is3_7_1
theorem lab_b3_8 : ∀ b, labIs 3 8 b = true
  | false => lab_is3_8_0
  | true => lab_is3_8_1
theorem lab_n3 : ∀ x, x < 9 → ∀ b, labIs 3 x b = true
  | 0, _ => lab_b3_0
  | 1, _ => lab_b3_1
  | 2, _ => lab_b3_2
  | 3, _ => lab_b3_3
  | 4, _ => lab_b3_4
  | 5, _ => lab_b3_5
  | 6, _ => lab_b3_6
  | 7, _ => lab_b3_7
  | 8, _ => lab_b3_8
  | n + 9, h => absurd h (by omega)
theorem lab_b4_0 : ∀ b, labIs 4 0 b = true
  | false => lab_is4_0_0
  | true => lab_is4_0_1
theorem lab_b4_1 : ∀ b, labIs 4 1 b = true
  | false => lab_is4_1_0
  | true => lab_is4_1_1
theorem lab_b4_2 : ∀ b, labIs 4 2 b = true
  | false => lab_is4_2_0
  | true => lab_is4_2_1
theorem lab_b4_3 : ∀ b, labIs 4 3 b = true
  | false => lab_is4_3_0
  | true => lab_is4_3_1
theorem lab_b4_4 : ∀ b, labIs 4 4 b = true
  | false => lab_is4_4_0
  | true => lab_is4_4_1
theorem lab_b4_5 : ∀ b, labIs 4 5 b = true
  | false => lab_is4_5_0
  | true => lab_is4_5_1
theorem lab_b4_6 : ∀ b, labIs 4 6 b = true
  | false => lab_is4_6_0
  | true => lab_is4_6_1
theorem lab_b4_7 : ∀ b, labIs 4 7 b = true
  | false => lab_is4_7_0
  | true => lab_is4_7_1
theorem lab_b4_8 : ∀ b, labIs 4 8 b = true
  | false => lab_is4_8_0
  | true => lab_is4_8_1
theorem lab_n4 : ∀ x, x < 9 → ∀ b, labIs 4 x b = true
  | 0, _ => lab_b4_0
  | 1, _ => lab_b4_1
  | 2, _ => lab_b4_2
  | 3, _ => lab_b4_3
  | 4, _ => lab_b4_4
  | 5, _ => lab_b4_5
  | 6, _ => lab_b4_6
  | 7, _ => lab_b4_7
  | 8, _ => lab_b4_8
  | n + 9, h => absurd h (by omega)
theorem lab_m : ∀ x, x < 5 → ∀ n, n < 9 → ∀ b, labIs x n b = true
  | 0, _ => lab_n0
  | 1, _ => lab_n1
  | 2, _ => lab_n2
  | 3, _ => lab_n3
  | 4, _ => lab_n4
  | n + 5, h => absurd h (by omega)
theorem labels_says (n m : Int) (b : Bool) : Says Tryz.prog 5 #[.int .i64 n, .int .i64 m, .bool b] (.bool true) := by
  obtain ⟨h0, e0⟩ := mod_ok (n := n) (k := 9) (by omega)
  obtain ⟨h1, e1⟩ := mod_ok (n := m) (k := 5) (by omega)
  have h := lab_m _ h1 _ h0 b
  unfold labIs at h
  rw [Bool.and_eq_true] at h
  intro w
  refine law_calls_args (vs := [.int .i64 n, .int .i64 m, .bool b]) (args := [ghost Tryz.prog 0, ghost Tryz.prog 1, .bool b]) (H := hints masks (labL (m % 5).toNat (n % 9).toNat b)) (fun d => hints_ok fun p hp => ?_) rfl rfl ?_ Tryz.func5 (by kernel_rfl) (by kernel_rfl) h.2
  · rcases List.mem_cons.1 hp with rfl | hp
    · dsimp only
      refine madeG_ok Tryz.func9 (by kernel_rfl) (by kernel_rfl) fun q hq => ?_
      rw [List.mem_singleton.1 hq]
      have h := h.1
      unfold lparseIs at h
      rw [Bool.and_eq_true] at h
      obtain ⟨h1, h2⟩ := makes_of_run (H := hints masks refL2) (fun w d => hints_ok (refL2_ok _ _)) Tryz.func9 (by kernel_rfl) (by kernel_rfl) h.1 h.2
      exact ⟨h.1, h1, h2⟩
    · refine pickL_ok (l := [⟨0, 9, (n % 9).toNat⟩, ⟨1, 5, (m % 5).toNat⟩]) ?_ _ _ _ p hp
      intro q hq
      rcases List.mem_cons.1 hq with rfl | hq
      · exact ⟨n, rfl, e0⟩
      · rw [List.mem_singleton.1 hq]; exact ⟨m, rfl, e1⟩
  · intro i v v' h1 h2
    match i with
    | 0 => exact .inl (Option.some.inj h1).symm
    | 1 => exact .inl (Option.some.inj h1).symm
    | 2 => exact .inr ⟨(Option.some.inj h1).symm.trans (Option.some.inj h2), by rw [← Option.some.inj h1]; rfl⟩
    | i + 3 => simp at h1
theorem turtleLabels_lifted (os : Os) (started : os.Started) (H : Type) (enc : TypeId × Value → H) :
    ReturnsInHanded {} Tryz.checked os 5 .any (fun w args => (Rows.turtleLabelsSpec.pre enc Tryz.prog Tryz.f5 [] false w args ∧ laidMetH Tryz.prog Rows.turtleLabelsRow.laid w) ∧ sizedMet enc Tryz.prog Tryz.f5 (OpenSpec.ofChange Rows.turtleLabelsSpec) false w args)
      (Rows.turtleLabelsSpec.post enc Tryz.prog Tryz.f5 false true false false) := by
  refine returnsInHanded_of_change_and (C := Tryz.checked) (X := fun w _ => laidMetH Tryz.prog Rows.turtleLabelsRow.laid w) (fun _ _ _ hh h => h.of_heap hh) own started (by kernel_rfl) Tryz.func5
    (ChangeSpec.witness_shaped (enc := enc) (C := Tryz.checked) (os := os) (X := fun w _ => laidMetH Tryz.prog Rows.turtleLabelsRow.laid w) false (World.laidAll Tryz.prog os Rows.turtleLabelsRow.laid) #[.int .i64 0, .int .i64 0, .bool false] 8 (World.laidAll_os _ _ _)
      (World.shaped_of_ZipB (by kernel_rfl) (by kernel_rfl)) (by kernel_rfl) (by kernel_rfl) (by kernel_rfl)
      (by rw [MakeChecks.laidMetH_plain _ _ _ (by kernel_rfl)]; exact laidMet_laidAll _ (by kernel_rfl) (by kernel_rfl))) ?_
  intro W base args ds gs before hval0 hW _ _ hL _
  have hval : ∀ (j : Nat) t v, Tryz.f5.params[j]? = some t → args[j]? = some v → Value.okWide Tryz.prog W .any base t v := hval0
  have hW' := hW
  obtain ⟨p, q, hA0, hV, rfl, _, _⟩ := hW
  have hA : DataW.TrodAll enc Tryz.prog W 0 (fun _ => true) true Tryz.f5.params.toList args.toList ds p := hA0
  rw [Tryz.params5] at hA hval
  obtain ⟨v0, v1, v2, d0, d1, d2, p0, p1, p2, rfl, rfl, rfl, h0, h1, h2⟩ := trodAll_three hA
  obtain ⟨rfl, rfl⟩ := trodVars_none hV
  obtain ⟨x0, rfl, rfl, rfl, w0⟩ := open_int Tryz.underlying3 (hval 0 3 v0 rfl rfl) h0
  obtain ⟨x1, rfl, rfl, rfl, w1⟩ := open_int Tryz.underlying3 (hval 1 3 v1 rfl rfl) h1
  obtain ⟨x2, rfl, rfl, rfl⟩ := open_bool Tryz.underlying4 (hval 2 4 v2 rfl rfl) h2
  simp only [List.append_nil] at hW'
  refine (labels_says x0 x1 x2 W).mono fun e W' ⟨he, hb⟩ => ?_
  subst he
  exact ⟨_, rfl, _, _, _, [], [], [], hW', trodAll_mk1 (shut_bool Tryz.underlying4 _), trodAll_mk3 (shut_int Tryz.underlying3 w0) (shut_int Tryz.underlying3 w1) (shut_bool Tryz.underlying4 x2), rfl, hb.frame _, fun h => by cases h⟩
theorem turtleLabels_holds : Rows.TurtleLabelsSaid :=
  OpenClaim.holds_of_wide 5 Tryz.f5 rfl rfl rfl rfl rfl rfl rfl ⟨rfl, rfl, rfl, rfl, rfl⟩ rfl rfl rfl rfl rfl (by kernel_rfl) Tryz.func5 (by kernel_rfl)
    (of_decide_eq_true (by kernel_rfl)) (by unfold Func.isWrapper; first | (rw [if_pos (by decide +kernel)]; kernel_rfl) | (rw [if_neg (by decide +kernel)]; exact ⟨rfl, rfl⟩))
    (fun os started H enc _ => turtleLabels_lifted os started H enc)
theorem turtleLabels_card_holds : Rows.TurtleLabelsCardSaid :=
  Claim7.holds_tied_plain_at .later [] [.data, .data, .data, .data, .pinned] true (true, "46bd06f576f661aebf6048772f8addc6aba452f4a71bab95078b53e4f38ea8e2") false turtleLabels_holds (fun _ h => by cases h) (by kernel_rfl) (fun _ h => by cases h) turtleLabels_row_tie rfl ⟨rfl, rfl⟩ (by kernel_rfl) rfl
    (fun f fn hf hfn => by
      obtain rfl : f = 5 := Option.some.inj ((show Tryz.prog.funcNamed "triad/triadlaw12.TurtleLabels" = some 5 by kernel_rfl).symm.trans hf) |>.symm
      obtain rfl : fn = Tryz.f5 := (Option.some.inj (Tryz.func5.symm.trans hfn)).symm
      exact ⟨by kernel_rfl, fun j t ht => by
        rw [Tryz.params5] at ht
        have hm : t ∈ [3, 3, 4] := by simpa using Array.mem_of_getElem? ht
        have hall : ([3, 3, 4].all fun u => !Tryz.prog.wantsStandIn u) = true := by kernel_rfl
        exact (show Tryz.prog.wantsStandIn t = false by simpa using List.all_eq_true.1 hall t hm)⟩)
    (by kernel_rfl)
#print axioms turtleLabels_card_holds
