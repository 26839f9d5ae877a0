/- The statement LexBad: what is no token is refused; texts that are too long, too. No condition. -/
import Derived.Test.YtdbdfnceoehjlaaDoorLexBase
import Derived.ProofKit
import Derived.Lay
import Derived.LaidOnce
import Derived.Test.YtdbdfnceoehjlaaDoorRows
import Derived.Test.YtdbdfnceoehjlaaDoorTie
import Derived.Test.YtdbdfnceoehjlaaDoorCards
namespace Go.Proofs.YtdbdfnceoehjlaaDoor
open Go.RowKit Go.Am
open Go.ChangeShapes Go.WideShapes Go.ChangeAt Go.Lib
set_option maxRecDepth 100000
/-- a text that is refused, what is answered. -/
noncomputable def badRow (l : List UInt8) : List Value × Value := ([.string ⟨⟨97 :: 32 :: l⟩⟩], .tuple ⟨[.slice none 0 0, .int .i64 (.ofNat 6)]⟩)
noncomputable def badTexts : List (List UInt8) := [[34, 97], [39, 97, 10, 39], [34, 92, 113, 34], [95, 58], [64], [36], [92], [38], [37], [34, 97, 92], [95], [195, 169]]
noncomputable def badIs (l : List UInt8) : Bool := answers (badRow l).2 (run Tryd.prog plain 1000 9 (badRow l).1 (mem0 Tryd.prog 0))
theorem bad_texts : badTexts.all badIs = true := by kernel_rfl
noncomputable def badH (l : List Mod) : Hints := hints masks ((9, tabG (badTexts.map badRow)) :: pickL l)
theorem badH_ok {vs : List Value} {l : List Mod} (hl : ModsOk vs l) (base : Nat) (wo : World) : KnownOk Tryd.prog base (orig Tryd.prog vs wo) (badH l) := by
  refine hints_ok fun p hp => ?_
  rcases List.mem_cons.1 hp with rfl | hp
  · dsimp only
    refine tab_ok Tryd.func9 (by kernel_rfl) (by kernel_rfl) fun q hq => ?_
    obtain ⟨t, ht, rfl⟩ := List.mem_map.1 hq
    exact ⟨rfl, rfl, says_of_run (fun _ => plain_ok _ _) Tryd.func9 (by kernel_rfl) (by kernel_rfl) rfl rfl (List.all_eq_true.1 bad_texts t ht)⟩
  · exact pickL_ok hl base wo p hp
noncomputable def badRun (x y : Nat) : Bool := yes (run Tryd.prog (badH [⟨0, 12, x⟩, ⟨1, 9, y⟩]) 1000 6 (ghosts Tryd.prog 2) (mem0 Tryd.prog 2))
noncomputable def badLine (x : Nat) : Bool := (List.range 9).all (badRun x)
theorem bad_line0 : badLine 0 = true := by kernel_rfl
theorem bad_line1 : badLine 1 = true := by kernel_rfl
theorem bad_line2 : badLine 2 = true := by kernel_rfl
theorem bad_line3 : badLine 3 = true := by kernel_rfl
theorem bad_line4 : badLine 4 = true := by kernel_rfl
theorem bad_line5 : badLine 5 = true := by kernel_rfl
theorem bad_line6 : badLine 6 = true := by kernel_rfl
theorem bad_line7 : badLine 7 = true := by kernel_rfl
theorem bad_line8 : badLine 8 = true := by kernel_rfl
theorem bad_line9 : badLine 9 = true := by kernel_rfl
theorem bad_line10 : badLine 10 = true := by kernel_rfl
theorem bad_line11 : badLine 11 = true := by kernel_rfl
theorem bad_all (x : Nat) (hx : x < 12) : badLine x = true := by
  match x, hx with
  | 0, _ => exact bad_line0
  | 1, _ => exact bad_line1
  | 2, _ => exact bad_line2
  | 3, _ => exact bad_line3
  | 4, _ => exact bad_line4
  | 5, _ => exact bad_line5
  | 6, _ => exact bad_line6
  | 7, _ => exact bad_line7
  | 8, _ => exact bad_line8
  | 9, _ => exact bad_line9
  | 10, _ => exact bad_line10
  | 11, _ => exact bad_line11
theorem bad_says (n m : Int) : Says Tryd.prog 6 #[.int .i64 n, .int .i64 m] (.bool true) := by
  obtain ⟨h0, e0⟩ := mod_ok (n := n) (k := 12) (by omega)
  obtain ⟨h1, e1⟩ := mod_ok (n := m) (k := 9) (by omega)
  have hr : badRun (n % 12).toNat (m % 9).toNat = true := List.all_eq_true.1 (bad_all _ h0) _ (List.mem_range.2 h1)
  refine law_calls (vs := [.int .i64 n, .int .i64 m]) (fun w => badH_ok (l := [⟨0, 12, (n % 12).toNat⟩, ⟨1, 9, (m % 9).toNat⟩]) ?_ _ _) rfl Tryd.func6 (by kernel_rfl) (by kernel_rfl) hr
  intro q hq
  rcases List.mem_cons.1 hq with rfl | hq
  · exact ⟨n, rfl, e0⟩
  · rw [List.mem_singleton.1 hq]; exact ⟨m, rfl, e1⟩
theorem lexBad_lifted (os : Os) (started : os.Started) (H : Type) (enc : TypeId × Value → H) :
    ReturnsInHanded {} Tryd.checked os 6 .any (fun w args => (Rows.lexBadSpec.pre enc Tryd.prog Tryd.f6 [] false w args ∧ laidMetH Tryd.prog Rows.lexBadRow.laid w) ∧ sizedMet enc Tryd.prog Tryd.f6 (OpenSpec.ofChange Rows.lexBadSpec) false w args)
      (Rows.lexBadSpec.post enc Tryd.prog Tryd.f6 false true false false) := by
  refine returnsInHanded_of_change_and (C := Tryd.checked) (X := fun w _ => laidMetH Tryd.prog Rows.lexBadRow.laid w) (fun _ _ _ hh h => h.of_heap hh) own started (by kernel_rfl) Tryd.func6
    (ChangeSpec.witness_shaped (enc := enc) (C := Tryd.checked) (os := os) (X := fun w _ => laidMetH Tryd.prog Rows.lexBadRow.laid w) false (World.laidAll Tryd.prog os Rows.lexBadRow.laid) #[.int .i64 0, .int .i64 0] 8 (World.laidAll_os _ _ _)
      (World.shaped_of_ZipB (by kernel_rfl) (by kernel_rfl)) (by kernel_rfl) (by kernel_rfl) (by kernel_rfl)
      (by rw [MakeChecks.laidMetH_plain _ _ _ (by kernel_rfl)]; exact laidMet_laidAll _ (by kernel_rfl) (by kernel_rfl))) ?_
  intro W base args ds gs before hval0 hW _ _ hL _
  have hval : ∀ (j : Nat) t v, Tryd.f6.params[j]? = some t → args[j]? = some v → Value.okWide Tryd.prog W .any base t v := hval0
  have hW' := hW
  obtain ⟨p, q, hA0, hV, rfl, _, _⟩ := hW
  have hA : DataW.TrodAll enc Tryd.prog W 0 (fun _ => true) true Tryd.f6.params.toList args.toList ds p := hA0
  rw [Tryd.params6] at hA hval
  obtain ⟨v0, v1, d0, d1, p0, p1, rfl, rfl, rfl, h0, h1⟩ := trodAll_two hA
  obtain ⟨rfl, rfl⟩ := trodVars_none hV
  obtain ⟨x0, rfl, rfl, rfl, w0⟩ := open_int Tryd.underlying3 (hval 0 3 v0 rfl rfl) h0
  obtain ⟨x1, rfl, rfl, rfl, w1⟩ := open_int Tryd.underlying3 (hval 1 3 v1 rfl rfl) h1
  simp only [List.append_nil] at hW'
  refine (bad_says x0 x1 W).mono fun e W' ⟨he, hb⟩ => ?_
  subst he
  exact ⟨_, rfl, _, _, _, [], [], [], hW', trodAll_mk1 (shut_bool Tryd.underlying4 _), trodAll_mk2 (shut_int Tryd.underlying3 w0) (shut_int Tryd.underlying3 w1), rfl, hb.frame _, fun h => by cases h⟩
theorem lexBad_holds : Rows.LexBadSaid :=
  OpenClaim.holds_of_wide 6 Tryd.f6 rfl rfl rfl rfl rfl rfl rfl ⟨rfl, rfl, rfl, rfl, rfl⟩ rfl rfl rfl rfl rfl (by kernel_rfl) Tryd.func6 (by kernel_rfl)
    (of_decide_eq_true (by kernel_rfl)) (by unfold Func.isWrapper; first | (rw [if_pos (by decide +kernel)]; kernel_rfl) | (rw [if_neg (by decide +kernel)]; exact ⟨rfl, rfl⟩))
    (fun os started H enc _ => lexBad_lifted os started H enc)
theorem lexBad_card_holds : Rows.LexBadCardSaid :=
  Claim7.holds_tied_plain_at .later [] [.data, .pinned] true (true, "3327ba9a901b8587d948e925069a134ed569003d2d7c39c78880c65991dc96b7") false lexBad_holds (fun _ h => by cases h) (by kernel_rfl) (fun _ h => by cases h) lexBad_row_tie rfl ⟨rfl, rfl⟩ (by kernel_rfl) rfl
    (fun f fn hf hfn => by
      obtain rfl : f = 6 := Option.some.inj ((show Tryd.prog.funcNamed "triad/triadlaw11.LexBad" = some 6 by kernel_rfl).symm.trans hf) |>.symm
      obtain rfl : fn = Tryd.f6 := (Option.some.inj (Tryd.func6.symm.trans hfn)).symm
      exact ⟨by kernel_rfl, fun j t ht => by
        rw [Tryd.params6] at ht
        have hm : t ∈ [3, 3] := by simpa using Array.mem_of_getElem? ht
        have hall : ([3, 3].all fun u => !Tryd.prog.wantsStandIn u) = true := by kernel_rfl
        exact (show Tryd.prog.wantsStandIn t = false by simpa using List.all_eq_true.1 hall t hm)⟩)
    (by kernel_rfl)
#print axioms lexBad_card_holds
end Go.Proofs.YtdbdfnceoehjlaaDoor
