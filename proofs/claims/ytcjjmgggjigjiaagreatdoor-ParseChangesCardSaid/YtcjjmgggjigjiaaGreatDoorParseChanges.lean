/- The statement ParseChanges: each of such texts is refused just so, or is read. No condition. -/
import Derived.Test.YtcjjmgggjigjiaaGreatDoorParChangeA
import Derived.Test.YtcjjmgggjigjiaaGreatDoorParChangeB
import Derived.Shelf.Vars
import Derived.ProofKit
import Derived.Lay
import Derived.LaidOnce
import Derived.Test.YtcjjmgggjigjiaaGreatDoorRows
import Derived.Test.YtcjjmgggjigjiaaGreatDoorTie
import Derived.Test.YtcjjmgggjigjiaaGreatDoorCards
namespace Go.Proofs.YtcjjmgggjigjiaaGreatDoor
open Go.RowKit Go.Am
open Go.ChangeShapes Go.WideShapes Go.ChangeAt Go.Lib
set_option maxRecDepth 100000
theorem change_all : ∀ x, x < 17 → changeRun x = true
  | 0, _ => change_run0
  | 1, _ => change_run1
  | 2, _ => change_run2
  | 3, _ => change_run3
  | 4, _ => change_run4
  | 5, _ => change_run5
  | 6, _ => change_run6
  | 7, _ => change_run7
  | 8, _ => change_run8
  | 9, _ => change_run9
  | 10, _ => change_run10
  | 11, _ => change_run11
  | 12, _ => change_run12
  | 13, _ => change_run13
  | 14, _ => change_run14
  | 15, _ => change_run15
  | 16, _ => change_run16
  | n + 17, h => absurd h (by omega)
theorem parchange_says (n : Int) (W : World) (h : laidMet Tryz.prog [errSyntaxLaid] W) : Calls Tryz.prog 5 #[.int .i64 n] W fun e w' => e = .returned (.bool true) ∧ Below W.heap.size W w' := by
  obtain ⟨h0, e0⟩ := mod_ok (n := n) (k := 17) (by omega)
  refine law_calls_at (vs := [.int .i64 n]) (fun d => moreL_ok (l := [⟨0, 17, (n % 17).toNat⟩]) ?_ h d) rfl Tryz.func5 (by kernel_rfl) (by kernel_rfl) (change_all _ h0)
  intro q hq
  rw [List.mem_singleton.1 hq]
  exact ⟨n, rfl, e0⟩
theorem parseChanges_lifted (os : Os) (started : os.Started) (H : Type) (enc : TypeId × Value → H) :
    ReturnsInHanded {} Tryz.checked os 5 .any (fun w args => (Rows.parseChangesSpec.pre enc Tryz.prog Tryz.f5 [] false w args ∧ laidMetH Tryz.prog Rows.parseChangesRow.laid w) ∧ sizedMet enc Tryz.prog Tryz.f5 (OpenSpec.ofChange Rows.parseChangesSpec) false w args)
      (Rows.parseChangesSpec.post enc Tryz.prog Tryz.f5 false true false false) := by
  refine returnsInHanded_of_change_and (C := Tryz.checked) (X := fun w _ => laidMetH Tryz.prog Rows.parseChangesRow.laid w) (fun _ _ _ hh h => h.of_heap hh) own started (by kernel_rfl) Tryz.func5
    (ChangeSpec.witness_shaped (enc := enc) (C := Tryz.checked) (os := os) (X := fun w _ => laidMetH Tryz.prog Rows.parseChangesRow.laid w) false (World.laidAll Tryz.prog os Rows.parseChangesRow.laid) #[.int .i64 0] 8 (World.laidAll_os _ _ _)
      (World.shaped_of_ZipB (by kernel_rfl) (by kernel_rfl)) (by kernel_rfl) (by kernel_rfl) (by kernel_rfl)
      (by rw [MakeChecks.laidMetH_plain _ _ _ (by kernel_rfl)]; exact laidMet_laidAll _ (by kernel_rfl) (by kernel_rfl))) ?_
  intro W base args ds gs before hval0 hW _ _ hL _
  have hval : ∀ (j : Nat) t v, Tryz.f5.params[j]? = some t → args[j]? = some v → Value.okWide Tryz.prog W .any base t v := hval0
  have hW' := hW
  obtain ⟨p, q, hA0, hV, rfl, _, _⟩ := hW
  have hA : DataW.TrodAll enc Tryz.prog W 0 (fun _ => true) true Tryz.f5.params.toList args.toList ds p := hA0
  rw [Tryz.params5] at hA hval
  obtain ⟨v0, d0, rfl, rfl, h0⟩ := trodAll_one hA
  obtain ⟨rfl, rfl⟩ := trodVars_none hV
  obtain ⟨x0, rfl, rfl, rfl, w0⟩ := open_int Tryz.underlying3 (hval 0 3 v0 rfl rfl) h0
  simp only [List.append_nil, List.nil_append] at hW'
  refine (parchange_says x0 W (laid_err (l := Rows.parseChangesRow.laid) hL (by kernel_rfl))).mono fun e W' ⟨he, hb⟩ => ?_
  subst he
  exact ⟨_, rfl, _, _, _, [], [], [], hW', trodAll_mk1 (shut_bool Tryz.underlying4 _), trodAll_mk1 (shut_int Tryz.underlying3 w0), rfl, hb.frame _, fun h => by cases h⟩
theorem parseChanges_holds : Rows.ParseChangesSaid :=
  OpenClaim.holds_of_wide 5 Tryz.f5 rfl rfl rfl rfl rfl rfl rfl ⟨rfl, rfl, rfl, rfl, rfl⟩ rfl rfl rfl rfl rfl (by kernel_rfl) Tryz.func5 (by kernel_rfl)
    (of_decide_eq_true (by kernel_rfl)) (by unfold Func.isWrapper; first | (rw [if_pos (by decide +kernel)]; kernel_rfl) | (rw [if_neg (by decide +kernel)]; exact ⟨rfl, rfl⟩))
    (fun os started H enc _ => parseChanges_lifted os started H enc)
theorem parseChanges_card_holds : Rows.ParseChangesCardSaid :=
  Claim7.holds_tied_plain_at .later [] [.data, .data, .data, .data, .sentinel, .sentinel, .data, .data, .pinned, .pinned] true (true, "b579cfe58eb3148e8f4116c15536690b8739eda915b1307d80c64b55de1768b0") true parseChanges_holds (fun _ h => by cases h) (by kernel_rfl) (fun _ h => by cases h) parseChanges_row_tie rfl ⟨rfl, rfl⟩ (by kernel_rfl) rfl
    (fun f fn hf hfn => by
      obtain rfl : f = 5 := Option.some.inj ((show Tryz.prog.funcNamed "triad/triadlaw14.ParseChanges" = some 5 by kernel_rfl).symm.trans hf) |>.symm
      obtain rfl : fn = Tryz.f5 := (Option.some.inj (Tryz.func5.symm.trans hfn)).symm
      exact ⟨by kernel_rfl, fun j t ht => by
        rw [Tryz.params5] at ht
        have hm : t ∈ [3] := by simpa using Array.mem_of_getElem? ht
        have hall : ([3].all fun u => !Tryz.prog.wantsStandIn u) = true := by kernel_rfl
        exact (show Tryz.prog.wantsStandIn t = false by simpa using List.all_eq_true.1 hall t hm)⟩)
    (by kernel_rfl)
#print axioms parseChanges_card_holds
end Go.Proofs.YtcjjmgggjigjiaaGreatDoor
