/- The statement PathMore: of more triples a way leads at least as far; for all rows of numbers. No condition. -/
import Derived.Test.YtaeiikielelicaaPtMore
import Derived.ProofKit
import Derived.Lay
import Derived.LaidOnce
import Derived.ChangeMaps5
import Derived.ChangeSlices
import Derived.SizedLaws
import Derived.Test.YtaeiikielelicaaRows
set_option linter.unusedVariables false
set_option linter.unusedSimpArgs false
set_option linter.unusedSectionVars false
set_option linter.deprecated false
namespace Go.Proofs.Ytaeiikielelicaa.Pt
open Go.RowKit Go.Am
open Go.ChangeShapes Go.WideShapes Go.ChangeAt Go.Lib Go.ChangeMaps
set_option maxRecDepth 1000000
set_option linter.unusedSimpArgs false
set_option linter.unusedVariables false
theorem bytes3 : Try.prog.bytesOf 3 = 8 := by kernel_rfl
theorem ns_sized {H : Type} {enc : TypeId × Value → H} {W : World} {v : Value} {d : DataW H} {ps : List MemPlace} (hval : ∃ a len cap, v = .slice a len cap) (h : DataW.Trod enc Try.prog W 0 (fun _ => true) true 22 v d ps) {ts : List TypeId} {ds : List (DataW H)}
    (hsz : (DataW.weightsEach Try.prog ts ds).all (· ≤ reachBytes) = true) {j : Nat} (ht : ts[j]? = some 22) (hd : ds[j]? = some d) : (∀ ns, NsOk W v ns → ns.length ≤ 1000000000000000) ∧ (v = .slice none 0 0 ∨ ∃ ad len cap, v = .slice (some ad) len cap) := by
  obtain ⟨fuel, hf⟩ := h
  obtain ⟨a0, len0, cap0, rfl⟩ := hval
  rcases Go.ChangeShapes.open_ints (show Try.prog.underlying 22 = some (.slice 3) by kernel_rfl) Try.underlying3 (by kernel_rfl) hf with ⟨hcs, -⟩ | ⟨a, len, cap, zs, hcs, -, hl, hm, hzl, hx, -, -⟩
  · have : (Value.slice a0 len0 cap0) = .slice none 0 0 := List.cons.inj (show [Value.slice a0 len0 cap0] = _ from hcs) |>.1
    cases this
    exact ⟨fun ns ⟨ad, cap, e, _⟩ => by obtain ⟨-, e, -⟩ := Value.slice.inj e; omega, .inl rfl⟩
  · have : (Value.slice a0 len0 cap0) = .slice (some a) len cap := List.cons.inj (show [Value.slice a0 len0 cap0] = _ from hcs) |>.1
    cases this
    obtain ⟨rfl, -⟩ := Prod.mk.inj hx
    have h8 := sized_slice hsz ht hd und22
    rw [bytes3] at h8
    rw [if_pos rfl] at hzl
    simp only [lits, List.length_map, List.length_take, List.length_drop, reachBytes] at h8
    exact ⟨fun ns ⟨ad, cap, e, _⟩ => by obtain ⟨-, e, -⟩ := Value.slice.inj e; omega, .inr ⟨_, _, _, rfl⟩⟩
theorem path_more {H : Type} {enc : TypeId × Value → H} {W : World} {v0 v1 v2 : Value} {d0 d1 d2 : DataW H} {p0 p1 p2 : List MemPlace} {ts : List TypeId} {ds : List (DataW H)}
    (hsz : (DataW.weightsEach Try.prog ts ds).all (· ≤ reachBytes) = true) (ht0 : ts[0]? = some 22) (hd0 : ds[0]? = some d0) (ht1 : ts[1]? = some 22) (hd1 : ds[1]? = some d1)
    (hs0 : ∃ a len cap, v0 = .slice a len cap) (h0 : DataW.Trod enc Try.prog W 0 (fun _ => true) true 22 v0 d0 p0) (hs1 : ∃ a len cap, v1 = .slice a len cap) (h1 : DataW.Trod enc Try.prog W 0 (fun _ => true) true 22 v1 d1 p1) (hs2 : ∃ a len cap, v2 = .slice a len cap) (h2 : DataW.Trod enc Try.prog W 0 (fun _ => true) true 22 v2 d2 p2) :
    Calls Try.prog 8 #[v0, v1, v2] W fun e w' => e = .returned (.bool true) ∧ Below W.heap.size W w' := by
  obtain ⟨gs, hg, -⟩ := ns_open hs0 h0
  obtain ⟨ms, hm, -⟩ := ns_open hs1 h1
  obtain ⟨ws, hw, hwl⟩ := ns_open hs2 h2
  obtain ⟨hl0, hf0⟩ := ns_sized hs0 h0 hsz ht0 hd0
  obtain ⟨hl1, hf1⟩ := ns_sized hs1 h1 hsz ht1 hd1
  exact more_law v0 v1 v2 gs ms ws W hg hm hw (ns_src hg hf0) (ns_src hm hf1) (hl0 gs hg) (hl1 ms hm) hwl
theorem own : ownKnob Try.prog.godebug = none := by kernel_rfl
theorem laid_out : laidOutB Try.prog = true := by kernel_rfl
theorem pathMore_lifted (os : Os) (started : os.Started) (H : Type) (enc : TypeId × Value → H) :
    ReturnsInHanded {} Try.checked os 8 .any (Rows.pathMoreSpec.pre6 enc Try.prog Try.f8 Rows.pathMoreRow.domain false)
      (Rows.pathMoreSpec.post enc Try.prog Try.f8 false true false false) := by
  refine returnsInHanded_of_change_sized (C := Try.checked) own started (by kernel_rfl) Try.func8
    (ChangeSpec.witness6 (enc := enc) (C := Try.checked) false ⟨#[], #[.slice none 0 0, .slice none 0 0, .slice none 0 0], []⟩ 8 (by kernel_rfl) (by kernel_rfl) (by kernel_rfl) (by kernel_rfl)) ?_
  intro W base args ds gs before hval0 hW _ hsz0 _
  have hval : ∀ (j : Nat) t v, Try.f8.params[j]? = some t → args[j]? = some v → Value.okWide Try.prog W .any base t v := hval0
  have hW' := hW
  obtain ⟨p, q, hA0, hV, rfl, _, _⟩ := hW
  have hA : DataW.TrodAll enc Try.prog W 0 (fun _ => true) true Try.f8.params.toList args.toList ds p := hA0
  rw [Try.params8] at hA hval
  obtain ⟨v0, v1, v2, d0, d1, d2, p0, p1, p2, rfl, rfl, rfl, h0, h1, h2⟩ := trodAll_three hA
  obtain ⟨rfl, rfl⟩ := trodVars_none hV
  have hs0 := okWide_slice Try.underlying22 (hval 0 22 v0 rfl rfl)
  have hs1 := okWide_slice Try.underlying22 (hval 1 22 v1 rfl rfl)
  have hs2 := okWide_slice Try.underlying22 (hval 2 22 v2 rfl rfl)
  simp only [List.append_nil, List.nil_append] at hW'
  have hlt0 : ∀ x ∈ p0, x.block < W.heap.size := fun x hx => by have := hW'.lt x (by simp [hx]); simpa using this
  have hlt1 : ∀ x ∈ p1, x.block < W.heap.size := fun x hx => by have := hW'.lt x (by simp [hx]); simpa using this
  have hlt2 : ∀ x ∈ p2, x.block < W.heap.size := fun x hx => by have := hW'.lt x (by simp [hx]); simpa using this
  refine (path_more hsz0 rfl rfl rfl rfl hs0 h0 hs1 h1 hs2 h2).mono fun e W' ⟨he, hb⟩ => ?_
  subst he
  exact ⟨_, rfl, _, _, _, [], _, [], hW', trodAll_mk1 (shut_bool Try.underlying4 _), trodAll_mk3 (Below.trod laid_out (by kernel_rfl) (of_decide_eq_true (by kernel_rfl)) h0 hb hlt0) (Below.trod laid_out (by kernel_rfl) (of_decide_eq_true (by kernel_rfl)) h1 hb hlt1) (Below.trod laid_out (by kernel_rfl) (of_decide_eq_true (by kernel_rfl)) h2 hb hlt2), rfl, hb.frame _, fun h => by cases h⟩
theorem pathMore_holds : Rows.PathMoreSaid :=
  OpenClaim.holds_of_wide 8 Try.f8 rfl rfl rfl rfl rfl rfl rfl ⟨rfl, rfl, rfl, rfl, rfl⟩ rfl rfl rfl rfl rfl (by kernel_rfl) Try.func8 (by kernel_rfl)
    (of_decide_eq_true (by kernel_rfl)) (by unfold Func.isWrapper; first | (rw [if_pos (by decide +kernel)]; kernel_rfl) | (rw [if_neg (by decide +kernel)]; exact ⟨rfl, rfl⟩))
    (fun os started H enc _ => pathMore_lifted os started H enc)
#print axioms pathMore_holds
