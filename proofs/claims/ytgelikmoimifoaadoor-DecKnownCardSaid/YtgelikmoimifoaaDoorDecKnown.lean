/- The statement DecKnown: each of such sums, products, quotients is just that, or over. No condition. -/
import Derived.Test.YtgelikmoimifoaaDoorDecBase
import Derived.ProofKit
import Derived.Lay
import Derived.LaidOnce
import Derived.Test.YtgelikmoimifoaaDoorRows
import Derived.Test.YtgelikmoimifoaaDoorTie
import Derived.Test.YtgelikmoimifoaaDoorCards
namespace Go.Proofs.YtgelikmoimifoaaDoor
open Go.RowKit Go.Am
open Go.ChangeShapes Go.WideShapes Go.ChangeAt Go.Lib
set_option maxRecDepth 100000
/-- a text, the decimal that it is. -/
noncomputable def ofRow (x : List UInt8 × Int × Nat) : List Value × Value := ([.string ⟨⟨x.1⟩⟩], .agg ⟨[.int .i64 x.2.1, .int .i64 (.ofNat x.2.2)]⟩)
noncomputable def ofTexts : List (List UInt8 × Int × Nat) := [([48, 46, 49], (.ofNat 1), 1), ([48, 46, 53], (.ofNat 5), 1), ([57, 57, 57, 57, 57, 57, 57, 57, 57, 57, 57, 57, 57, 57, 57], (.ofNat 999999999999999), 0), ([57, 57, 57, 57, 57, 57, 57, 57, 57, 57, 57, 57, 57, 57, 46, 57], (.ofNat 999999999999999), 1), ([48, 46, 48, 48, 49], (.ofNat 1), 3), ([45, 55], (.negSucc 6), 0), ([49, 48, 48, 48, 48, 48, 48], (.ofNat 1000000), 0), ([57, 57, 57, 57, 57, 57, 57, 57, 57], (.ofNat 999999999), 0), ([48, 46, 48, 48, 48, 48, 48, 49], (.ofNat 1), 6), ([49, 50, 46, 53], (.ofNat 125), 1), ([48, 46, 50], (.ofNat 2), 1), ([45, 48, 46, 53], (.negSucc 4), 1), ([49], (.ofNat 1), 0), ([49, 48, 48, 48, 48, 48, 49], (.ofNat 1000001), 0), ([56], (.ofNat 8), 0)]
noncomputable def ofIs (x : List UInt8 × Int × Nat) : Bool := answers (ofRow x).2 (run Tryd.prog plain 1000 25 (ofRow x).1 (mem0 Tryd.prog 0))
theorem of_texts : ofTexts.all ofIs = true := by kernel_rfl
noncomputable def knownH (l : List Mod) : Hints := hints masks ((25, tabG (ofTexts.map ofRow)) :: pickL l)
theorem knownH_ok {vs : List Value} {l : List Mod} (hl : ModsOk vs l) (base : Nat) (wo : World) (d : Nat → Prop) : KnownOk Tryd.prog base ((orig Tryd.prog vs wo).at d) (knownH l) := by
  refine hints_ok fun p hp => ?_
  rcases List.mem_cons.1 hp with rfl | hp
  · dsimp only
    refine tab_ok Tryd.func25 (by kernel_rfl) (by kernel_rfl) fun q hq => ?_
    obtain ⟨t, ht, rfl⟩ := List.mem_map.1 hq
    exact ⟨rfl, rfl, says_of_run (fun _ _ => plain_ok _ _) Tryd.func25 (by kernel_rfl) (by kernel_rfl) rfl rfl (List.all_eq_true.1 of_texts t ht)⟩
  · exact pickL_ok hl base wo d p hp
noncomputable def knownRun (x : Nat) : Bool := yes (run Tryd.prog (knownH [⟨0, 10, x⟩]) 1000 8 (ghosts Tryd.prog 1) (mem0 Tryd.prog 1))
theorem known_run0 : knownRun 0 = true := by kernel_rfl
theorem known_run1 : knownRun 1 = true := by kernel_rfl
theorem known_run2 : knownRun 2 = true := by kernel_rfl
theorem known_run3 : knownRun 3 = true := by kernel_rfl
theorem known_run4 : knownRun 4 = true := by kernel_rfl
theorem known_run5 : knownRun 5 = true := by kernel_rfl
theorem known_run6 : knownRun 6 = true := by kernel_rfl
theorem known_run7 : knownRun 7 = true := by kernel_rfl
theorem known_run8 : knownRun 8 = true := by kernel_rfl
theorem known_run9 : knownRun 9 = true := by kernel_rfl
theorem known_all (x : Nat) (hx : x < 10) : knownRun x = true := by
  match x, hx with
  | 0, _ => exact known_run0
  | 1, _ => exact known_run1
  | 2, _ => exact known_run2
  | 3, _ => exact known_run3
  | 4, _ => exact known_run4
  | 5, _ => exact known_run5
  | 6, _ => exact known_run6
  | 7, _ => exact known_run7
  | 8, _ => exact known_run8
  | 9, _ => exact known_run9
theorem known_says (n : Int) : Says Tryd.prog 8 #[.int .i64 n] (.bool true) := by
  obtain ⟨h0, e0⟩ := mod_ok (n := n) (k := 10) (by omega)
  refine law_calls (vs := [.int .i64 n]) (fun w d => knownH_ok (l := [⟨0, 10, (n % 10).toNat⟩]) ?_ _ _ _) rfl Tryd.func8 (by kernel_rfl) (by kernel_rfl) (known_all _ h0)
  intro q hq
  rw [List.mem_singleton.1 hq]
  exact ⟨n, rfl, e0⟩
theorem decKnown_lifted (os : Os) (started : os.Started) (H : Type) (enc : TypeId × Value → H) :
    ReturnsInHanded {} Tryd.checked os 8 .any (fun w args => (Rows.decKnownSpec.pre enc Tryd.prog Tryd.f8 [] false w args ∧ laidMetH Tryd.prog Rows.decKnownRow.laid w) ∧ sizedMet enc Tryd.prog Tryd.f8 (OpenSpec.ofChange Rows.decKnownSpec) false w args)
      (Rows.decKnownSpec.post enc Tryd.prog Tryd.f8 false true false false) := by
  refine returnsInHanded_of_change_and (C := Tryd.checked) (X := fun w _ => laidMetH Tryd.prog Rows.decKnownRow.laid w) (fun _ _ _ hh h => h.of_heap hh) own started (by kernel_rfl) Tryd.func8
    (ChangeSpec.witness_shaped (enc := enc) (C := Tryd.checked) (os := os) (X := fun w _ => laidMetH Tryd.prog Rows.decKnownRow.laid w) false (World.laidAll Tryd.prog os Rows.decKnownRow.laid) #[.int .i64 0] 8 (World.laidAll_os _ _ _)
      (World.shaped_of_ZipB (by kernel_rfl) (by kernel_rfl)) (by kernel_rfl) (by kernel_rfl) (by kernel_rfl)
      (by rw [MakeChecks.laidMetH_plain _ _ _ (by kernel_rfl)]; exact laidMet_laidAll _ (by kernel_rfl) (by kernel_rfl))) ?_
  intro W base args ds gs before hval0 hW _ _ hL _
  have hval : ∀ (j : Nat) t v, Tryd.f8.params[j]? = some t → args[j]? = some v → Value.okWide Tryd.prog W .any base t v := hval0
  have hW' := hW
  obtain ⟨p, q, hA0, hV, rfl, _, _⟩ := hW
  have hA : DataW.TrodAll enc Tryd.prog W 0 (fun _ => true) true Tryd.f8.params.toList args.toList ds p := hA0
  rw [Tryd.params8] at hA hval
  obtain ⟨v0, d0, rfl, rfl, h0⟩ := trodAll_one hA
  obtain ⟨rfl, rfl⟩ := trodVars_none hV
  obtain ⟨x0, rfl, rfl, rfl, w0⟩ := open_int Tryd.underlying3 (hval 0 3 v0 rfl rfl) h0
  simp only [List.append_nil] at hW'
  refine (known_says x0 W).mono fun e W' ⟨he, hb⟩ => ?_
  subst he
  exact ⟨_, rfl, _, _, _, [], [], [], hW', trodAll_mk1 (shut_bool Tryd.underlying4 _), trodAll_mk1 (shut_int Tryd.underlying3 w0), rfl, hb.frame _, fun h => by cases h⟩
theorem decKnown_holds : Rows.DecKnownSaid :=
  OpenClaim.holds_of_wide 8 Tryd.f8 rfl rfl rfl rfl rfl rfl rfl ⟨rfl, rfl, rfl, rfl, rfl⟩ rfl rfl rfl rfl rfl (by kernel_rfl) Tryd.func8 (by kernel_rfl)
    (of_decide_eq_true (by kernel_rfl)) (by unfold Func.isWrapper; first | (rw [if_pos (by decide +kernel)]; kernel_rfl) | (rw [if_neg (by decide +kernel)]; exact ⟨rfl, rfl⟩))
    (fun os started H enc _ => decKnown_lifted os started H enc)
theorem decKnown_card_holds : Rows.DecKnownCardSaid :=
  Claim7.holds_tied_plain_at .later [] [.data, .pinned] true (true, "0924c5abfc446fe383bb651d63ad14a64d2b7a08a746e213af61a4b07028f36e") false decKnown_holds (fun _ h => by cases h) (by kernel_rfl) (fun _ h => by cases h) decKnown_row_tie rfl ⟨rfl, rfl⟩ (by kernel_rfl) rfl
    (fun f fn hf hfn => by
      obtain rfl : f = 8 := Option.some.inj ((show Tryd.prog.funcNamed "triad/triadlaw13.DecKnown" = some 8 by kernel_rfl).symm.trans hf) |>.symm
      obtain rfl : fn = Tryd.f8 := (Option.some.inj (Tryd.func8.symm.trans hfn)).symm
      exact ⟨by kernel_rfl, fun j t ht => by
        rw [Tryd.params8] at ht
        have hm : t ∈ [3] := by simpa using Array.mem_of_getElem? ht
        have hall : ([3].all fun u => !Tryd.prog.wantsStandIn u) = true := by kernel_rfl
        exact (show Tryd.prog.wantsStandIn t = false by simpa using List.all_eq_true.1 hall t hm)⟩)
    (by kernel_rfl)
#print axioms decKnown_card_holds
end Go.Proofs.YtgelikmoimifoaaDoor
