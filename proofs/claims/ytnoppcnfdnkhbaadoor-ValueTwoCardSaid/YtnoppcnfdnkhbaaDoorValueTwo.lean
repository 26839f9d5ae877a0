/- The statement ValueTwo: of any two terms whether one is true, both are equal, the one is less, is the document's. No condition. -/
import Derived.Test.YtnoppcnfdnkhbaaDoorVaH
import Derived.ProofKit
import Derived.Lay
import Derived.LaidOnce
import Derived.ChangeMaps5
import Derived.ChangeSlices
import Derived.Test.YtnoppcnfdnkhbaaDoorRows
import Derived.Test.YtnoppcnfdnkhbaaDoorTie
import Derived.Test.YtnoppcnfdnkhbaaDoorCards
namespace Go.Proofs.YtnoppcnfdnkhbaaDoor
open Go.RowKit Go.Am
open Go.ChangeShapes Go.WideShapes Go.ChangeAt Go.Lib Go.ChangeMaps
set_option maxRecDepth 1000000
set_option linter.unusedSimpArgs false
set_option linter.unusedVariables false
theorem okWide_term {W : World} {r : Reach} {base : Nat} {v : Value} (h : Value.okWide Tryd.prog W r base 23 v) : ∃ k s g t, v = .agg ⟨[.int .i64 k, .string s, .string g, .string t]⟩ := by
  obtain ⟨fs, ht⟩ : ∃ fs, Tryd.prog.underlying 23 = some (.struct fs) := ⟨_, Tryd.underlying23⟩
  simp only [Value.okWide, ht] at h
  obtain ⟨cs, rfl, hsz, ts, hts, -, hc⟩ := h
  obtain rfl : [3, 9, 9, 9] = ts := Option.some.inj ((show Tryd.prog.cellTypes Tryd.prog.depth 23 = some [3, 9, 9, 9] by kernel_rfl).symm.trans hts)
  rw [show Tryd.prog.cellsOf 23 = 4 by kernel_rfl] at hsz
  obtain ⟨l⟩ := cs
  match l, hsz with
  | [a, b, c, d], _ =>
    obtain ⟨u0, e0, w0⟩ := hc 0 a rfl
    obtain ⟨u1, e1, w1⟩ := hc 1 b rfl
    obtain ⟨u2, e2, w2⟩ := hc 2 c rfl
    obtain ⟨u3, e3, w3⟩ := hc 3 d rfl
    obtain rfl : 3 = u0 := Option.some.inj e0
    obtain rfl : 9 = u1 := Option.some.inj e1
    obtain rfl : 9 = u2 := Option.some.inj e2
    obtain rfl : 9 = u3 := Option.some.inj e3
    have s9 : ∀ x, Cell.okWide Tryd.prog W r base 9 x → ∃ s, x = .string s := by
      intro x hx
      simp only [Cell.okWide, Tryd.underlying9] at hx
      cases x <;> simp_all [Cell.ok, Tryd.underlying9]
    obtain ⟨s, rfl⟩ := s9 _ w1
    obtain ⟨g, rfl⟩ := s9 _ w2
    obtain ⟨t, rfl⟩ := s9 _ w3
    have s3' : ∃ k, a = .int .i64 k := by
      simp only [Cell.okWide, Tryd.underlying3] at w0
      cases a <;> simp_all [Cell.ok, Tryd.underlying3]
    obtain ⟨k, rfl⟩ := s3'
    exact ⟨k, s, g, t, rfl⟩
theorem two_law {H : Type} {enc : TypeId × Value → H} {W : World} {v0 v1 : Value} {d0 d1 : DataW H} {p0 p1 : List MemPlace} (hs0 : ∃ k s g t, v0 = .agg ⟨[.int .i64 k, .string s, .string g, .string t]⟩) (_h0 : DataW.Trod enc Tryd.prog W 0 (fun _ => true) true 23 v0 d0 p0)
    (hs1 : ∃ k s g t, v1 = .agg ⟨[.int .i64 k, .string s, .string g, .string t]⟩) (_h1 : DataW.Trod enc Tryd.prog W 0 (fun _ => true) true 23 v1 d1 p1) (n m : Int) :
    Calls Tryd.prog 3 #[v0, v1, .int .i64 n, .int .i64 m] W fun e w' => e = .returned (.bool true) ∧ Below W.heap.size W w' := by
  obtain ⟨k, s, g, t, rfl⟩ := hs0
  obtain ⟨k', s', g', t', rfl⟩ := hs1
  obtain ⟨fn, hf, hn, hb, h⟩ := law_h
  exact (h [.agg ⟨[.int .i64 k, .string s, .string g, .string t]⟩, .agg ⟨[.int .i64 k', .string s', .string g', .string t']⟩, .int .i64 n, .int .i64 m] (.bool true) rfl).2.2 W
theorem own : ownKnob Tryd.prog.godebug = none := by kernel_rfl
theorem laid_out : laidOutB Tryd.prog = true := by kernel_rfl
theorem valueTwo_lifted (os : Os) (started : os.Started) (H : Type) (enc : TypeId × Value → H) :
    ReturnsInHanded {} Tryd.checked os 3 .any (fun w args => (Rows.valueTwoSpec.pre enc Tryd.prog Tryd.f3 [] false w args ∧ laidMetH Tryd.prog Rows.valueTwoRow.laid w) ∧ sizedMet enc Tryd.prog Tryd.f3 (OpenSpec.ofChange Rows.valueTwoSpec) false w args)
      (Rows.valueTwoSpec.post enc Tryd.prog Tryd.f3 false true false false) := by
  refine returnsInHanded_of_change_and (C := Tryd.checked) (X := fun w _ => laidMetH Tryd.prog Rows.valueTwoRow.laid w) (fun _ _ _ hh h => h.of_heap hh) own started (by kernel_rfl) Tryd.func3
    (ChangeSpec.witness_shaped (enc := enc) (C := Tryd.checked) (os := os) (X := fun w _ => laidMetH Tryd.prog Rows.valueTwoRow.laid w) false (World.laidAll Tryd.prog os Rows.valueTwoRow.laid) #[.agg ⟨[.int .i64 0, .string ⟨#[]⟩, .string ⟨#[]⟩, .string ⟨#[]⟩]⟩, .agg ⟨[.int .i64 0, .string ⟨#[]⟩, .string ⟨#[]⟩, .string ⟨#[]⟩]⟩, .int .i64 0, .int .i64 0] 8 (World.laidAll_os _ _ _)
      (World.shaped_of_ZipB (by kernel_rfl) (by kernel_rfl)) (by kernel_rfl) (by kernel_rfl) (by kernel_rfl)
      (by rw [MakeChecks.laidMetH_plain _ _ _ (by kernel_rfl)]; exact laidMet_laidAll _ (by kernel_rfl) (by kernel_rfl))) ?_
  intro W base args ds gs before hval0 hW _ _ hL _
  have hval : ∀ (j : Nat) t v, Tryd.f3.params[j]? = some t → args[j]? = some v → Value.okWide Tryd.prog W .any base t v := hval0
  have hW' := hW
  obtain ⟨p, q, hA0, hV, rfl, _, _⟩ := hW
  have hA : DataW.TrodAll enc Tryd.prog W 0 (fun _ => true) true Tryd.f3.params.toList args.toList ds p := hA0
  rw [Tryd.params3] at hA hval
  obtain ⟨v0, v1, v2, v3, d0, d1, d2, d3, p0, p1, p2, p3, rfl, rfl, rfl, h0, h1, h2, h3⟩ := trodAll_four hA
  obtain ⟨rfl, rfl⟩ := trodVars_none hV
  have hs0 := okWide_term (hval 0 23 v0 rfl rfl)
  have hs1 := okWide_term (hval 1 23 v1 rfl rfl)
  obtain ⟨x2, rfl, rfl, rfl, w2⟩ := open_int Tryd.underlying3 (hval 2 3 v2 rfl rfl) h2
  obtain ⟨x3, rfl, rfl, rfl, w3⟩ := open_int Tryd.underlying3 (hval 3 3 v3 rfl rfl) h3
  simp only [List.append_nil, List.nil_append] at hW'
  have hlt0 : ∀ x ∈ p0, x.block < W.heap.size := fun x hx => by have := hW'.lt x (by simp [hx]); simpa using this
  have hlt1 : ∀ x ∈ p1, x.block < W.heap.size := fun x hx => by have := hW'.lt x (by simp [hx]); simpa using this
  refine (two_law hs0 h0 hs1 h1 x2 x3).mono fun e W' ⟨he, hb⟩ => ?_
  subst he
  exact ⟨_, rfl, _, _, _, [], _, [], hW', trodAll_mk1 (shut_bool Tryd.underlying4 _), trodAll_mk4 (Below.trod laid_out (by kernel_rfl) (of_decide_eq_true (by kernel_rfl)) h0 hb hlt0) (Below.trod laid_out (by kernel_rfl) (of_decide_eq_true (by kernel_rfl)) h1 hb hlt1) (shut_int Tryd.underlying3 w2) (shut_int Tryd.underlying3 w3), rfl, hb.frame _, fun h => by cases h⟩
theorem valueTwo_holds : Rows.ValueTwoSaid :=
  OpenClaim.holds_of_wide 3 Tryd.f3 rfl rfl rfl rfl rfl rfl rfl ⟨rfl, rfl, rfl, rfl, rfl⟩ rfl rfl rfl rfl rfl (by kernel_rfl) Tryd.func3 (by kernel_rfl)
    (of_decide_eq_true (by kernel_rfl)) (by unfold Func.isWrapper; first | (rw [if_pos (by decide +kernel)]; kernel_rfl) | (rw [if_neg (by decide +kernel)]; exact ⟨rfl, rfl⟩))
    (fun os started H enc _ => valueTwo_lifted os started H enc)
theorem valueTwo_card_holds : Rows.ValueTwoCardSaid :=
  Claim7.holds_tied_plain_at .later [] [.data, .pinned] true (true, "279a78bdbb69ae8294cbf3c220d4e490f559a7a07e61d72745daf195b67cb076") false valueTwo_holds (fun _ h => by cases h) (by kernel_rfl) (fun _ h => by cases h) valueTwo_row_tie rfl ⟨rfl, rfl⟩ (by kernel_rfl) rfl
    (fun f fn hf hfn => by
      obtain rfl : f = 3 := Option.some.inj ((show Tryd.prog.funcNamed "triad/triadlaw15.ValueTwo" = some 3 by kernel_rfl).symm.trans hf) |>.symm
      obtain rfl : fn = Tryd.f3 := (Option.some.inj (Tryd.func3.symm.trans hfn)).symm
      exact ⟨by kernel_rfl, fun j t ht => by
        rw [Tryd.params3] at ht
        have hm : t ∈ [23, 23, 3, 3] := by simpa using Array.mem_of_getElem? ht
        have hall : ([23, 23, 3, 3].all fun u => !Tryd.prog.wantsStandIn u) = true := by kernel_rfl
        exact (show Tryd.prog.wantsStandIn t = false by simpa using List.all_eq_true.1 hall t hm)⟩)
    (by kernel_rfl)
#print axioms valueTwo_card_holds
end Go.Proofs.YtnoppcnfdnkhbaaDoor
