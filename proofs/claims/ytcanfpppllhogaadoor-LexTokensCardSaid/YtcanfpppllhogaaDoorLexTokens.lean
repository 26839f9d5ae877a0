/- The statement LexTokens: of any text the tokens are the document's, or it is refused as it says; for all numbers and texts. No condition. -/
import Derived.Test.YtcanfpppllhogaaDoorLtLD
import Derived.ProofKit
import Derived.Lay
import Derived.LaidOnce
import Derived.ChangeMaps5
import Derived.ChangeSlices
import Derived.Test.YtcanfpppllhogaaDoorRows
import Derived.Test.YtcanfpppllhogaaDoorTie
import Derived.Test.YtcanfpppllhogaaDoorCards
namespace Go.Proofs.YtcanfpppllhogaaDoor.Lx
open Go.RowKit Go.Am
open Go.ChangeShapes Go.WideShapes Go.ChangeAt Go.Lib Go.ChangeMaps
set_option maxRecDepth 1000000
set_option linter.unusedSimpArgs false
set_option linter.unusedVariables false
/-- every row of numbers has its text. -/
theorem texts_ok {H : Type} {enc : TypeId × Value → H} {W : World} {v : Value} {d : DataW H} {ps : List MemPlace} (hval : ∃ a len cap, v = .slice a len cap) (h : DataW.Trod enc Tryd.prog W 0 (fun _ => true) true 22 v d ps) : TextOk W v := by
  obtain ⟨fuel, hf⟩ := h
  obtain ⟨a0, len0, cap0, rfl⟩ := hval
  rcases Go.ChangeShapes.open_ints Tryd.underlying22 Tryd.underlying3 (by kernel_rfl) hf with ⟨hcs, -⟩ | ⟨a, len, cap, zs, hcs, -, hl, -, hzl, -, hc, -⟩
  · obtain ⟨rfl, rfl, rfl⟩ : a0 = none ∧ len0 = 0 ∧ cap0 = 0 := by
      have : (Value.slice a0 len0 cap0) = .slice none 0 0 := List.cons.inj (show [Value.slice a0 len0 cap0] = _ from hcs) |>.1
      cases this; exact ⟨rfl, rfl, rfl⟩
    exact fun raw _ w _ => text_zero none 0 raw w
  · obtain ⟨rfl, rfl, rfl⟩ : a0 = some a ∧ len0 = len ∧ cap0 = cap := by
      have : (Value.slice a0 len0 cap0) = .slice (some a) len cap := List.cons.inj (show [Value.slice a0 len0 cap0] = _ from hcs) |>.1
      cases this; exact ⟨rfl, rfl, rfl⟩
    by_cases h0 : len0 = 0
    · subst h0
      exact fun raw _ w _ => text_zero _ _ raw w
    · rw [if_pos rfl] at hzl
      obtain ⟨blk, off, spot⟩ := a
      have c0 := hc 0 (by omega)
      have hsp : spot = none := by
        cases spot with
        | none => rfl
        | some x =>
          have e : Addr.add ⟨blk, off, some x⟩ 0 = ⟨blk, off, some x⟩ := rfl
          rw [e] at c0
          unfold World.cell? at c0
          split at c0 <;> simp at c0
      subst hsp
      have hcell : ∀ i, i < len0 → ∃ z : Int, W.cell? ⟨blk, off + i, none⟩ = some (.int .i64 z) := fun i hi => by
        have := hc i (by omega)
        rw [Addr.add_lit] at this
        exact ⟨_, this⟩
      have hblk : blk < W.heap.size := by
        obtain ⟨z, hz⟩ := hcell 0 (by omega)
        unfold World.cell? at hz
        split at hz
        · rename_i c el fz he; exact (Array.getElem?_eq_some_iff.1 he).1
        · cases hz
      exact fun raw hr w hw => text_calls W blk off len0 cap0 hblk hcell raw hr w hw
theorem lex_law {H : Type} {enc : TypeId × Value → H} {W : World} {v : Value} {d : DataW H} {ps : List MemPlace} (hval : ∃ a len cap, v = .slice a len cap) (h : DataW.Trod enc Tryd.prog W 0 (fun _ => true) true 22 v d ps) (raw : ByteArray) :
    Calls Tryd.prog 3 #[v, .string raw] W fun e w' => e = .returned (.bool true) ∧ Below W.heap.size W w' :=
  law_calls v raw W (texts_ok hval h)
theorem own : ownKnob Tryd.prog.godebug = none := by kernel_rfl
end Go.Proofs.YtcanfpppllhogaaDoor.Lx
namespace Go.Proofs.YtcanfpppllhogaaDoor
open Go.RowKit Go.Am
open Go.ChangeShapes Go.WideShapes Go.ChangeAt Go.Lib Go.ChangeMaps
set_option maxRecDepth 1000000
set_option linter.unusedSimpArgs false
set_option linter.unusedVariables false
theorem laid_out : laidOutB Tryd.prog = true := by kernel_rfl
theorem lexTokens_lifted (os : Os) (started : os.Started) (H : Type) (enc : TypeId × Value → H) :
    ReturnsInHanded {} Tryd.checked os 3 .any (fun w args => (Rows.lexTokensSpec.pre enc Tryd.prog Tryd.f3 [] false w args ∧ laidMetH Tryd.prog Rows.lexTokensRow.laid w) ∧ sizedMet enc Tryd.prog Tryd.f3 (OpenSpec.ofChange Rows.lexTokensSpec) false w args)
      (Rows.lexTokensSpec.post enc Tryd.prog Tryd.f3 false true false false) := by
  refine returnsInHanded_of_change_and (C := Tryd.checked) (X := fun w _ => laidMetH Tryd.prog Rows.lexTokensRow.laid w) (fun _ _ _ hh h => h.of_heap hh) own started (by kernel_rfl) Tryd.func3
    (ChangeSpec.witness_shaped (enc := enc) (C := Tryd.checked) (os := os) (X := fun w _ => laidMetH Tryd.prog Rows.lexTokensRow.laid w) false (World.laidAll Tryd.prog os Rows.lexTokensRow.laid) #[.slice none 0 0, .string ⟨#[]⟩] 8 (World.laidAll_os _ _ _)
      (World.shaped_of_ZipB (by kernel_rfl) (by kernel_rfl)) (by kernel_rfl) (by kernel_rfl) (by kernel_rfl)
      (by rw [MakeChecks.laidMetH_plain _ _ _ (by kernel_rfl)]; exact laidMet_laidAll _ (by kernel_rfl) (by kernel_rfl))) ?_
  intro W base args ds gs before hval0 hW _ _ hL _
  have hval : ∀ (j : Nat) t v, Tryd.f3.params[j]? = some t → args[j]? = some v → Value.okWide Tryd.prog W .any base t v := hval0
  have hW' := hW
  obtain ⟨p, q, hA0, hV, rfl, _, _⟩ := hW
  have hA : DataW.TrodAll enc Tryd.prog W 0 (fun _ => true) true Tryd.f3.params.toList args.toList ds p := hA0
  rw [Tryd.params3] at hA hval
  obtain ⟨v0, v1, d0, d1, p0, p1, rfl, rfl, rfl, h0, h1⟩ := trodAll_two hA
  obtain ⟨rfl, rfl⟩ := trodVars_none hV
  have hs0 := okWide_slice Tryd.underlying22 (hval 0 22 v0 rfl rfl)
  obtain ⟨x1, rfl, rfl, rfl, w1⟩ := open_string Tryd.underlying9 (hval 1 9 v1 rfl rfl) h1
  simp only [List.append_nil, List.nil_append] at hW'
  have hlt0 : ∀ x ∈ p0, x.block < W.heap.size := fun x hx => by have := hW'.lt x (by simp [hx]); simpa using this
  refine (Lx.lex_law hs0 h0 x1).mono fun e W' ⟨he, hb⟩ => ?_
  subst he
  exact ⟨_, rfl, _, _, _, [], _, [], hW', trodAll_mk1 (shut_bool Tryd.underlying4 _), trodAll_mk2 (Below.trod laid_out (by kernel_rfl) (of_decide_eq_true (by kernel_rfl)) h0 hb hlt0) (shut_string Tryd.underlying9 w1), rfl, hb.frame _, fun h => by cases h⟩
theorem lexTokens_holds : Rows.LexTokensSaid :=
  OpenClaim.holds_of_wide 3 Tryd.f3 rfl rfl rfl rfl rfl rfl rfl ⟨rfl, rfl, rfl, rfl, rfl⟩ rfl rfl rfl rfl rfl (by kernel_rfl) Tryd.func3 (by kernel_rfl)
    (of_decide_eq_true (by kernel_rfl)) (by unfold Func.isWrapper; first | (rw [if_pos (by decide +kernel)]; kernel_rfl) | (rw [if_neg (by decide +kernel)]; exact ⟨rfl, rfl⟩))
    (fun os started H enc _ => lexTokens_lifted os started H enc)
theorem lexTokens_card_holds : Rows.LexTokensCardSaid :=
  Claim7.holds_tied_plain_at .later [] [.data, .pinned] true (true, "fabb65250c0ea02e849842be7bd32005da43c86bf11623c19102c85bfdc40186") false lexTokens_holds (fun _ h => by cases h) (by kernel_rfl) (fun _ h => by cases h) lexTokens_row_tie rfl ⟨rfl, rfl⟩ (by kernel_rfl) rfl
    (fun f fn hf hfn => by
      obtain rfl : f = 3 := Option.some.inj ((show Tryd.prog.funcNamed "triad/triadlaw11.LexTokens" = some 3 by kernel_rfl).symm.trans hf) |>.symm
      obtain rfl : fn = Tryd.f3 := (Option.some.inj (Tryd.func3.symm.trans hfn)).symm
      exact ⟨by kernel_rfl, fun j t ht => by
        rw [Tryd.params3] at ht
        have hm : t ∈ [22, 9] := by simpa using Array.mem_of_getElem? ht
        have hall : ([22, 9].all fun u => !Tryd.prog.wantsStandIn u) = true := by kernel_rfl
        exact (show Tryd.prog.wantsStandIn t = false by simpa using List.all_eq_true.1 hall t hm)⟩)
    (by kernel_rfl)
#print axioms lexTokens_card_holds
end Go.Proofs.YtcanfpppllhogaaDoor
