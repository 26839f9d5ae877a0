/- The statement TurtleKnown. No condition. -/
import Derived.Test.YtgkljnlfpgcjaaaGreatDoorTurtleKnownA
import Derived.Test.YtgkljnlfpgcjaaaGreatDoorTurtleKnownB
import Derived.Test.YtgkljnlfpgcjaaaGreatDoorTurtleKnownC
import Derived.ProofKit
import Derived.Lay
import Derived.LaidOnce
import Derived.Test.YtgkljnlfpgcjaaaGreatDoorRows
import Derived.Test.YtgkljnlfpgcjaaaGreatDoorTie
import Derived.Test.YtgkljnlfpgcjaaaGreatDoorCards
namespace Go.Proofs.YtgkljnlfpgcjaaaGreatDoor
open Go.RowKit Go.Am
open Go.ChangeShapes Go.WideShapes Go.ChangeAt Go.Lib
set_option maxRecDepth 100000
theorem turtleKnown_at (x : Nat) (h : x < 21) : turtleKnownRun  x = true := by
  by_cases h0 : 0 ≤ x ∧ x < 4
  · have := List.all_eq_true.1 turtleKnown_run_0 _ (List.mem_map.2 ⟨x - 0, List.mem_range.2 (by omega), rfl⟩)
    rwa [show Nat.add 0 (x - 0) = x from by show 0 + (x - 0) = x; omega] at this
  by_cases h4 : 4 ≤ x ∧ x < 8
  · have := List.all_eq_true.1 turtleKnown_run_4 _ (List.mem_map.2 ⟨x - 4, List.mem_range.2 (by omega), rfl⟩)
    rwa [show Nat.add 4 (x - 4) = x from by show 4 + (x - 4) = x; omega] at this
  by_cases h8 : 8 ≤ x ∧ x < 12
  · have := List.all_eq_true.1 turtleKnown_run_8 _ (List.mem_map.2 ⟨x - 8, List.mem_range.2 (by omega), rfl⟩)
    rwa [show Nat.add 8 (x - 8) = x from by show 8 + (x - 8) = x; omega] at this
  by_cases h12 : 12 ≤ x ∧ x < 16
  · have := List.all_eq_true.1 turtleKnown_run_12 _ (List.mem_map.2 ⟨x - 12, List.mem_range.2 (by omega), rfl⟩)
    rwa [show Nat.add 12 (x - 12) = x from by show 12 + (x - 12) = x; omega] at this
  by_cases h16 : 16 ≤ x ∧ x < 20
  · have := List.all_eq_true.1 turtleKnown_run_16 _ (List.mem_map.2 ⟨x - 16, List.mem_range.2 (by omega), rfl⟩)
    rwa [show Nat.add 16 (x - 16) = x from by show 16 + (x - 16) = x; omega] at this
  by_cases h20 : 20 ≤ x ∧ x < 21
  · have := List.all_eq_true.1 turtleKnown_run_20 _ (List.mem_map.2 ⟨x - 20, List.mem_range.2 (by omega), rfl⟩)
    rwa [show Nat.add 20 (x - 20) = x from by show 20 + (x - 20) = x; omega] at this
  exfalso; omega
theorem turtleKnown_says (x : Int) : Says Tryz.prog 3 #[.int .i64 x] (.bool true) := by
  obtain ⟨h0, e0⟩ := mod_ok (n := x) (k := 21) (by omega)
  intro w
  refine law_calls_args (vs := [.int .i64 x]) (args := [ghost Tryz.prog 0]) (fun d => mores_ok (l := [⟨0, 21, (x % 21).toNat⟩]) ?_ _ _ d) rfl rfl ?_ Tryz.func3 (by kernel_rfl) (by kernel_rfl) (turtleKnown_at _ h0)
  · intro q hq
    simp only [List.mem_cons, List.not_mem_nil, or_false] at hq
    rcases hq with rfl
    · exact ⟨x, rfl, e0⟩
  · intro i v v' h1 h2
    match i with
    | 0 => exact .inl (Option.some.inj h1).symm
    | i + 1 => simp at h1
theorem turtleKnown_lifted (os : Os) (started : os.Started) (H : Type) (enc : TypeId × Value → H) :
    ReturnsInHanded {} Tryz.checked os 3 .any (fun w args => (Rows.turtleKnownSpec.pre enc Tryz.prog Tryz.f3 [] false w args ∧ laidMetH Tryz.prog Rows.turtleKnownRow.laid w) ∧ sizedMet enc Tryz.prog Tryz.f3 (OpenSpec.ofChange Rows.turtleKnownSpec) false w args)
      (Rows.turtleKnownSpec.post enc Tryz.prog Tryz.f3 false true false false) := by
  refine returnsInHanded_of_change_and (C := Tryz.checked) (X := fun w _ => laidMetH Tryz.prog Rows.turtleKnownRow.laid w) (fun _ _ _ hh h => h.of_heap hh) own started (by kernel_rfl) Tryz.func3
    (ChangeSpec.witness_shaped (enc := enc) (C := Tryz.checked) (os := os) (X := fun w _ => laidMetH Tryz.prog Rows.turtleKnownRow.laid w) false (World.laidAll Tryz.prog os Rows.turtleKnownRow.laid) #[.int .i64 0] 8 (World.laidAll_os _ _ _)
      (World.shaped_of_ZipB (by kernel_rfl) (by kernel_rfl)) (by kernel_rfl) (by kernel_rfl) (by kernel_rfl)
      (by rw [MakeChecks.laidMetH_plain _ _ _ (by kernel_rfl)]; exact laidMet_laidAll _ (by kernel_rfl) (by kernel_rfl))) ?_
  intro W base args ds gs before hval0 hW _ _ hL _
  have hval : ∀ (j : Nat) t v, Tryz.f3.params[j]? = some t → args[j]? = some v → Value.okWide Tryz.prog W .any base t v := hval0
  have hW' := hW
  obtain ⟨p, q, hA0, hV, rfl, _, _⟩ := hW
  have hA : DataW.TrodAll enc Tryz.prog W 0 (fun _ => true) true Tryz.f3.params.toList args.toList ds p := hA0
  rw [Tryz.params3] at hA hval
  obtain ⟨v0, d0, rfl, rfl, h0⟩ := trodAll_one hA
  obtain ⟨rfl, rfl⟩ := trodVars_none hV
  obtain ⟨x0, rfl, rfl, rfl, w0⟩ := open_int Tryz.underlying3 (hval 0 3 v0 rfl rfl) h0
  simp only [List.append_nil, List.nil_append] at hW'
  refine (turtleKnown_says x0 W).mono fun e W' ⟨he, hb⟩ => ?_
  subst he
  exact ⟨_, rfl, _, _, _, [], [], [], hW', trodAll_mk1 (shut_bool Tryz.underlying4 _), trodAll_mk1 (shut_int Tryz.underlying3 w0), rfl, hb.frame _, fun h => by cases h⟩
theorem turtleKnown_holds : Rows.TurtleKnownSaid :=
  OpenClaim.holds_of_wide 3 Tryz.f3 rfl rfl rfl rfl rfl rfl rfl ⟨rfl, rfl, rfl, rfl, rfl⟩ rfl rfl rfl rfl rfl (by kernel_rfl) Tryz.func3 (by kernel_rfl)
    (of_decide_eq_true (by kernel_rfl)) (by unfold Func.isWrapper; first | (rw [if_pos (by decide +kernel)]; kernel_rfl) | (rw [if_neg (by decide +kernel)]; exact ⟨rfl, rfl⟩))
    (fun os started H enc _ => turtleKnown_lifted os started H enc)
theorem turtleKnown_card_holds : Rows.TurtleKnownCardSaid :=
  Claim7.holds_tied_plain_at .later [] [.data, .data, .data, .data, .pinned] true (true, "46bd06f576f661aebf6048772f8addc6aba452f4a71bab95078b53e4f38ea8e2") false turtleKnown_holds (fun _ h => by cases h) (by kernel_rfl) (fun _ h => by cases h) turtleKnown_row_tie rfl ⟨rfl, rfl⟩ (by kernel_rfl) rfl
    (fun f fn hf hfn => by
      obtain rfl : f = 3 := Option.some.inj ((show Tryz.prog.funcNamed "triad/triadlaw12.TurtleKnown" = some 3 by kernel_rfl).symm.trans hf) |>.symm
      obtain rfl : fn = Tryz.f3 := (Option.some.inj (Tryz.func3.symm.trans hfn)).symm
      exact ⟨by kernel_rfl, fun j t ht => by
        rw [Tryz.params3] at ht
        have hm : t ∈ [3] := by simpa using Array.mem_of_getElem? ht
        have hall : ([3].all fun u => !Tryz.prog.wantsStandIn u) = true := by kernel_rfl
        exact (show Tryz.prog.wantsStandIn t = false by simpa using List.all_eq_true.1 hall t hm)⟩)
    (by kernel_rfl)
#print axioms turtleKnown_card_holds
