/- The statement DecAdds: sums and what is the other way about are the document's; a sum less one is the other one; for all numbers. No condition. -/
import Derived.Test.YtoieohcleepmmaaDoorDeH
import Derived.ProofKit
import Derived.Lay
import Derived.LaidOnce
import Derived.Test.YtoieohcleepmmaaDoorRows
import Derived.Test.YtoieohcleepmmaaDoorTie
import Derived.Test.YtoieohcleepmmaaDoorCards
namespace Go.Proofs.YtoieohcleepmmaaDoor
open Go.RowKit Go.Am
open Go.ChangeShapes Go.WideShapes Go.ChangeAt Go.Lib
set_option maxRecDepth 1000000
set_option linter.unusedSimpArgs false
set_option linter.unusedVariables false
theorem neg_valid {m s : Int} (h : Sp.valid m s = true) : Sp.valid (Int.neg m) s = true ∧ Sp.val (Int.neg m) s = -(Sp.val m s) := by
  obtain ⟨a, b, c, d, e⟩ := valid_iff.1 h
  refine ⟨valid_iff.2 ⟨by show _ < -m; omega, by show -m < _; omega, c, d, ?_⟩, by show -m * _ = -(m * _); rw [Int.neg_mul]⟩
  rcases e with e | e
  · exact .inl e
  · refine .inr ?_
    show (-m).tmod 10 ≠ 0
    rw [Int.neg_tmod]; omega
noncomputable abbrev s7 : List KSpec := [(9, knownS), (13, goodS), (20, addS), (21, addS), (22, negS), (23, negS), (14, cmpS)]
theorem adds_says (m p n q : Int) : Says Tryd.prog 7 ⟨[.int .i64 m, .int .i64 p, .int .i64 n, .int .i64 q]⟩ (.bool true) := by
  refine says_of_K masks (s := s7) (fun x h => ?_) none 0 Tryd.func7 (by kernel_rfl) (c := code 7) (by kernel_rfl) (by kernel_rfl) rfl rfl rfl ?_
  · simp only [List.mem_cons, List.not_mem_nil, or_false] at h
    rcases h with rfl | rfl | rfl | rfl | rfl | rfl | rfl
    · exact known_h
    · exact good_h
    · exact add_h
    · exact radd_h
    · exact neg_h
    · exact rneg_h
    · exact cmp_h
  refine Eq.trans ?_ ((K7 m p n q (ltow Tryd.prog (fiAt fis 7) (kcall s7) none 0).lp (ltow Tryd.prog (fiAt fis 7) (kcall s7) none 0).gs).trans ?_)
  · rfl
  have vA := good_valid m p
  have vB := good_valid n q
  obtain ⟨nB, eB⟩ := neg_valid vB
  have r1 := res_valid vA
  have oA := valid_ok vA
  have oB := valid_ok vB
  have o0 : Sp.ok 0 0 = true := by decide
  have z0 : Sp.val 0 0 = 0 := by decide
  rw [show Int.add (Sp.val (Sp.gM n q) (Sp.gS n q)) (Sp.val (Sp.gM m p) (Sp.gS m p)) = Int.add (Sp.val (Sp.gM m p) (Sp.gS m p)) (Sp.val (Sp.gM n q) (Sp.gS n q)) from Int.add_comm _ _]
  rw [vA, vB, oA, oB, o0, z0, nB, eB]
  cases hO : Sp.rOk (Int.add (Sp.val (Sp.gM m p) (Sp.gS m p)) (Sp.val (Sp.gM n q) (Sp.gS n q))) 6 with
  | false =>
    obtain ⟨e1, e2⟩ := res_none hO
    rw [e1, e2]
    simp only [eqI_self]
    rfl
  | true =>
    obtain ⟨v1, v2⟩ := res_some hO
    rw [v1, v2, valid_ok v1]
    have e3 : Int.add (Int.add (Sp.val (Sp.gM m p) (Sp.gS m p)) (Sp.val (Sp.gM n q) (Sp.gS n q))) (-(Sp.val (Sp.gM n q) (Sp.gS n q))) = Sp.val (Sp.gM m p) (Sp.gS m p) := by
      show Sp.val (Sp.gM m p) (Sp.gS m p) + Sp.val (Sp.gM n q) (Sp.gS n q) + -(Sp.val (Sp.gM n q) (Sp.gS n q)) = _
      omega
    rw [e3, r1.1, r1.2.1, r1.2.2]
    have c : eqI (Sp.cmp (Int.add (Sp.val (Sp.gM m p) (Sp.gS m p)) (Sp.val (Sp.gM n q) (Sp.gS n q))) (Sp.val (Sp.gM m p) (Sp.gS m p))) (Sp.cmp (Sp.val (Sp.gM n q) (Sp.gS n q)) 0) = true := by
      rw [eqI_dec]
      simp only [decide_eq_true_eq]
      have a := cmp3b (Int.add (Sp.val (Sp.gM m p) (Sp.gS m p)) (Sp.val (Sp.gM n q) (Sp.gS n q))) (Sp.val (Sp.gM m p) (Sp.gS m p))
      have b := cmp3b (Sp.val (Sp.gM n q) (Sp.gS n q)) 0
      have e : Int.add (Sp.val (Sp.gM m p) (Sp.gS m p)) (Sp.val (Sp.gM n q) (Sp.gS n q)) = Sp.val (Sp.gM m p) (Sp.gS m p) + Sp.val (Sp.gM n q) (Sp.gS n q) := rfl
      omega
    rw [c]
    simp only [eqI_self]
    rfl
theorem own : ownKnob Tryd.prog.godebug = none := by kernel_rfl
theorem decAdds_lifted (os : Os) (started : os.Started) (H : Type) (enc : TypeId × Value → H) :
    ReturnsInHanded {} Tryd.checked os 7 .any (fun w args => (Rows.decAddsSpec.pre enc Tryd.prog Tryd.f7 [] false w args ∧ laidMetH Tryd.prog Rows.decAddsRow.laid w) ∧ sizedMet enc Tryd.prog Tryd.f7 (OpenSpec.ofChange Rows.decAddsSpec) false w args)
      (Rows.decAddsSpec.post enc Tryd.prog Tryd.f7 false true false false) := by
  refine returnsInHanded_of_change_and (C := Tryd.checked) (X := fun w _ => laidMetH Tryd.prog Rows.decAddsRow.laid w) (fun _ _ _ hh h => h.of_heap hh) own started (by kernel_rfl) Tryd.func7
    (ChangeSpec.witness_shaped (enc := enc) (C := Tryd.checked) (os := os) (X := fun w _ => laidMetH Tryd.prog Rows.decAddsRow.laid w) false (World.laidAll Tryd.prog os Rows.decAddsRow.laid) #[.int .i64 0, .int .i64 0, .int .i64 0, .int .i64 0] 8 (World.laidAll_os _ _ _)
      (World.shaped_of_ZipB (by kernel_rfl) (by kernel_rfl)) (by kernel_rfl) (by kernel_rfl) (by kernel_rfl)
      (by rw [MakeChecks.laidMetH_plain _ _ _ (by kernel_rfl)]; exact laidMet_laidAll _ (by kernel_rfl) (by kernel_rfl))) ?_
  intro W base args ds gs before hval0 hW _ _ hL _
  have hval : ∀ (j : Nat) t v, Tryd.f7.params[j]? = some t → args[j]? = some v → Value.okWide Tryd.prog W .any base t v := hval0
  have hW' := hW
  obtain ⟨p, q, hA0, hV, rfl, _, _⟩ := hW
  have hA : DataW.TrodAll enc Tryd.prog W 0 (fun _ => true) true Tryd.f7.params.toList args.toList ds p := hA0
  rw [Tryd.params7] at hA hval
  obtain ⟨v0, v1, v2, v3, d0, d1, d2, d3, p0, p1, p2, p3, rfl, rfl, rfl, h0, h1, h2, h3⟩ := trodAll_four hA
  obtain ⟨rfl, rfl⟩ := trodVars_none hV
  obtain ⟨x0, rfl, rfl, rfl, w0⟩ := open_int Tryd.underlying3 (hval 0 3 v0 rfl rfl) h0
  obtain ⟨x1, rfl, rfl, rfl, w1⟩ := open_int Tryd.underlying3 (hval 1 3 v1 rfl rfl) h1
  obtain ⟨x2, rfl, rfl, rfl, w2⟩ := open_int Tryd.underlying3 (hval 2 3 v2 rfl rfl) h2
  obtain ⟨x3, rfl, rfl, rfl, w3⟩ := open_int Tryd.underlying3 (hval 3 3 v3 rfl rfl) h3
  simp only [List.append_nil] at hW'
  refine (adds_says x0 x1 x2 x3 W).mono fun e W' ⟨he, hb⟩ => ?_
  subst he
  exact ⟨_, rfl, _, _, _, [], [], [], hW', trodAll_mk1 (shut_bool Tryd.underlying4 _), trodAll_mk4 (shut_int Tryd.underlying3 w0) (shut_int Tryd.underlying3 w1) (shut_int Tryd.underlying3 w2) (shut_int Tryd.underlying3 w3), rfl, hb.frame _, fun h => by cases h⟩
theorem decAdds_holds : Rows.DecAddsSaid :=
  OpenClaim.holds_of_wide 7 Tryd.f7 rfl rfl rfl rfl rfl rfl rfl ⟨rfl, rfl, rfl, rfl, rfl⟩ rfl rfl rfl rfl rfl (by kernel_rfl) Tryd.func7 (by kernel_rfl)
    (of_decide_eq_true (by kernel_rfl)) (by unfold Func.isWrapper; first | (rw [if_pos (by decide +kernel)]; kernel_rfl) | (rw [if_neg (by decide +kernel)]; exact ⟨rfl, rfl⟩))
    (fun os started H enc _ => decAdds_lifted os started H enc)
theorem decAdds_card_holds : Rows.DecAddsCardSaid :=
  Claim7.holds_tied_plain_at .later [] [.data, .pinned] true (true, "2bf8501facfaf03854a4f07ca71da2acdc182553b4ab1e5061d6595639656f6e") false decAdds_holds (fun _ h => by cases h) (by kernel_rfl) (fun _ h => by cases h) decAdds_row_tie rfl ⟨rfl, rfl⟩ (by kernel_rfl) rfl
    (fun f fn hf hfn => by
      obtain rfl : f = 7 := Option.some.inj ((show Tryd.prog.funcNamed "triad/triadlaw13.DecAdds" = some 7 by kernel_rfl).symm.trans hf) |>.symm
      obtain rfl : fn = Tryd.f7 := (Option.some.inj (Tryd.func7.symm.trans hfn)).symm
      exact ⟨by kernel_rfl, fun j t ht => by
        rw [Tryd.params7] at ht
        have hm : t ∈ [3, 3, 3, 3] := by simpa using Array.mem_of_getElem? ht
        have hall : ([3, 3, 3, 3].all fun u => !Tryd.prog.wantsStandIn u) = true := by kernel_rfl
        exact (show Tryd.prog.wantsStandIn t = false by simpa using List.all_eq_true.1 hall t hm)⟩)
    (by kernel_rfl)
#print axioms decAdds_card_holds
end Go.Proofs.YtoieohcleepmmaaDoor
