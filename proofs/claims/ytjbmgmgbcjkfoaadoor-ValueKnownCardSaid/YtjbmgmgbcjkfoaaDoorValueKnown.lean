/- The statement ValueKnown: each of such expressions is just that, or an error. No condition. -/
import Derived.Test.YtjbmgmgbcjkfoaaDoorValueBase
import Derived.Test.YtjbmgmgbcjkfoaaDoorAmLaw
import Derived.Shelf.Vars
import Derived.ProofKit
import Derived.Lay
import Derived.LaidOnce
import Derived.Test.YtjbmgmgbcjkfoaaDoorRows
import Derived.Test.YtjbmgmgbcjkfoaaDoorTie
import Derived.Test.YtjbmgmgbcjkfoaaDoorCards
namespace Go.Proofs.YtjbmgmgbcjkfoaaDoor
open Go.RowKit Go.Am
open Go.ChangeShapes Go.WideShapes Go.ChangeAt Go.Lib
set_option maxRecDepth 100000
noncomputable def knownL (l : List Mod) : List Hint := (41, pureG containsH) :: pickL l
theorem knownL_ok {vs : List Value} {l : List Mod} (hl : ModsOk vs l) {W : World} (h : W.ShapedOpen Tryd.prog) (d : Nat → Prop) : KnownOk Tryd.prog W.heap.size ((orig Tryd.prog vs W).at d) (hints masks (knownL l)) := by
  refine hints_ok fun p hp => ?_
  rcases List.mem_cons.1 hp with rfl | hp
  · obtain ⟨x, hx⟩ := cell_of_shapedOpen_int (g := 0) (t := 3) (zero := #[.int .i64 0]) (k := .i64) h (of_decide_eq_true (by kernel_rfl)) (by kernel_rfl) rfl (by kernel_rfl) (by kernel_rfl) Tryd.underlying3
    refine containsH_ok (g := 0) (x := x) Tryd.func41 (by kernel_rfl) (by kernel_rfl) (fun s sub m w hs hm => Tryd.strings_Contains s sub m w hs hm) ?_ hx
    rcases Nat.eq_zero_or_pos W.heap.size with e | e
    · have : W.cell? ⟨0, 0, none⟩ = none := by
        have : W.heap[0]? = none := Array.getElem?_eq_none (by omega)
        simp [World.cell?, this]
      rw [this] at hx; cases hx
    · exact e
  · exact pickL_ok hl _ _ d p hp
noncomputable def knownRun (x : Nat) : Bool := yes (run Tryd.prog (hints masks (knownL [⟨0, 28, x⟩])) 1000 5 (ghosts Tryd.prog 1) (mem0 Tryd.prog 1))
theorem known_run0 : knownRun 0 = true := by kernel_rfl
theorem known_run1 : knownRun 1 = true := by kernel_rfl
theorem known_run2 : knownRun 2 = true := by kernel_rfl
theorem known_run3 : knownRun 3 = true := by kernel_rfl
theorem known_run4 : knownRun 4 = true := by kernel_rfl
theorem known_run5 : knownRun 5 = true := by kernel_rfl
theorem known_run6 : knownRun 6 = true := by kernel_rfl
theorem known_run7 : knownRun 7 = true := by kernel_rfl
theorem known_run8 : knownRun 8 = true := by kernel_rfl
theorem known_run9 : knownRun 9 = true := by kernel_rfl
theorem known_run10 : knownRun 10 = true := by kernel_rfl
theorem known_run11 : knownRun 11 = true := by kernel_rfl
theorem known_run12 : knownRun 12 = true := by kernel_rfl
theorem known_run13 : knownRun 13 = true := by kernel_rfl
theorem known_run14 : knownRun 14 = true := by kernel_rfl
theorem known_run15 : knownRun 15 = true := by kernel_rfl
theorem known_run16 : knownRun 16 = true := by kernel_rfl
theorem known_run17 : knownRun 17 = true := by kernel_rfl
theorem known_run18 : knownRun 18 = true := by kernel_rfl
theorem known_run19 : knownRun 19 = true := by kernel_rfl
theorem known_run20 : knownRun 20 = true := by kernel_rfl
theorem known_run21 : knownRun 21 = true := by kernel_rfl
theorem known_run22 : knownRun 22 = true := by kernel_rfl
theorem known_run23 : knownRun 23 = true := by kernel_rfl
theorem known_run24 : knownRun 24 = true := by kernel_rfl
theorem known_run25 : knownRun 25 = true := by kernel_rfl
theorem known_run26 : knownRun 26 = true := by kernel_rfl
theorem known_run27 : knownRun 27 = true := by kernel_rfl
theorem known_all : ∀ x, x < 28 → knownRun x = true
  | 0, _ => known_run0
  | 1, _ => known_run1
  | 2, _ => known_run2
  | 3, _ => known_run3
  | 4, _ => known_run4
  | 5, _ => known_run5
  | 6, _ => known_run6
  | 7, _ => known_run7
  | 8, _ => known_run8
  | 9, _ => known_run9
  | 10, _ => known_run10
  | 11, _ => known_run11
  | 12, _ => known_run12
  | 13, _ => known_run13
  | 14, _ => known_run14
  | 15, _ => known_run15
  | 16, _ => known_run16
  | 17, _ => known_run17
  | 18, _ => known_run18
  | 19, _ => known_run19
  | 20, _ => known_run20
  | 21, _ => known_run21
  | 22, _ => known_run22
  | 23, _ => known_run23
  | 24, _ => known_run24
  | 25, _ => known_run25
  | 26, _ => known_run26
  | 27, _ => known_run27
  | n + 28, h => absurd h (by omega)
theorem known_says (n : Int) (W : World) (h : W.ShapedOpen Tryd.prog) : Calls Tryd.prog 5 #[.int .i64 n] W fun e w' => e = .returned (.bool true) ∧ Below W.heap.size W w' := by
  obtain ⟨h0, e0⟩ := mod_ok (n := n) (k := 28) (by omega)
  refine law_calls_at (vs := [.int .i64 n]) (fun d => knownL_ok (l := [⟨0, 28, (n % 28).toNat⟩]) ?_ h d) rfl Tryd.func5 (by kernel_rfl) (by kernel_rfl) (known_all _ h0)
  intro q hq
  rw [List.mem_singleton.1 hq]
  exact ⟨n, rfl, e0⟩
theorem valueKnown_lifted (os : Os) (started : os.Started) (H : Type) (enc : TypeId × Value → H) :
    ReturnsInHanded {} Tryd.checked os 5 .any (fun w args => (Rows.valueKnownSpec.pre enc Tryd.prog Tryd.f5 [] false w args ∧ laidMetH Tryd.prog Rows.valueKnownRow.laid w) ∧ sizedMet enc Tryd.prog Tryd.f5 (OpenSpec.ofChange Rows.valueKnownSpec) false w args)
      (Rows.valueKnownSpec.post enc Tryd.prog Tryd.f5 false true false false) := by
  refine returns_and_shaped (C := Tryd.checked) (X := fun w _ => laidMetH Tryd.prog Rows.valueKnownRow.laid w) (fun _ _ _ hh h => h.of_heap hh) own started (by kernel_rfl) Tryd.func5
    (ChangeSpec.witness_shaped (enc := enc) (C := Tryd.checked) (os := os) (X := fun w _ => laidMetH Tryd.prog Rows.valueKnownRow.laid w) false (World.laidAll Tryd.prog os Rows.valueKnownRow.laid) #[.int .i64 0] 8 (World.laidAll_os _ _ _)
      (World.shaped_of_ZipB (by kernel_rfl) (by kernel_rfl)) (by kernel_rfl) (by kernel_rfl) (by kernel_rfl)
      (by rw [MakeChecks.laidMetH_plain _ _ _ (by kernel_rfl)]; exact laidMet_laidAll _ (by kernel_rfl) (by kernel_rfl))) ?_
  intro W base args ds gs before hval0 hW _ _ hL hsh _
  have hval : ∀ (j : Nat) t v, Tryd.f5.params[j]? = some t → args[j]? = some v → Value.okWide Tryd.prog W .any base t v := hval0
  have hW' := hW
  obtain ⟨p, q, hA0, hV, rfl, _, _⟩ := hW
  have hA : DataW.TrodAll enc Tryd.prog W 0 (fun _ => true) true Tryd.f5.params.toList args.toList ds p := hA0
  rw [Tryd.params5] at hA hval
  obtain ⟨v0, d0, rfl, rfl, h0⟩ := trodAll_one hA
  obtain ⟨rfl, rfl⟩ := trodVars_none hV
  obtain ⟨x0, rfl, rfl, rfl, w0⟩ := open_int Tryd.underlying3 (hval 0 3 v0 rfl rfl) h0
  simp only [List.append_nil] at hW'
  refine (known_says x0 W hsh).mono fun e W' ⟨he, hb⟩ => ?_
  subst he
  exact ⟨_, rfl, _, _, _, [], [], [], hW', trodAll_mk1 (shut_bool Tryd.underlying4 _), trodAll_mk1 (shut_int Tryd.underlying3 w0), rfl, hb.frame _, fun h => by cases h⟩
theorem valueKnown_holds : Rows.ValueKnownSaid :=
  OpenClaim.holds_of_wide 5 Tryd.f5 rfl rfl rfl rfl rfl rfl rfl ⟨rfl, rfl, rfl, rfl, rfl⟩ rfl rfl rfl rfl rfl (by kernel_rfl) Tryd.func5 (by kernel_rfl)
    (of_decide_eq_true (by kernel_rfl)) (by unfold Func.isWrapper; first | (rw [if_pos (by decide +kernel)]; kernel_rfl) | (rw [if_neg (by decide +kernel)]; exact ⟨rfl, rfl⟩))
    (fun os started H enc _ => valueKnown_lifted os started H enc)
theorem valueKnown_card_holds : Rows.ValueKnownCardSaid :=
  Claim7.holds_tied_plain_at .later [] [.data, .data, .data, .data, .pinned] true (true, "0cc28ae8ca8db464ce7eac448b4bad5630fae9ac4c14ee31a6dcf5f14c6f1685") false valueKnown_holds (fun _ h => by cases h) (by kernel_rfl) (fun _ h => by cases h) valueKnown_row_tie rfl ⟨rfl, rfl⟩ (by kernel_rfl) rfl
    (fun f fn hf hfn => by
      obtain rfl : f = 5 := Option.some.inj ((show Tryd.prog.funcNamed "triad/triadlaw15.ValueKnown" = some 5 by kernel_rfl).symm.trans hf) |>.symm
      obtain rfl : fn = Tryd.f5 := (Option.some.inj (Tryd.func5.symm.trans hfn)).symm
      exact ⟨by kernel_rfl, fun j t ht => by
        rw [Tryd.params5] at ht
        have hm : t ∈ [3] := by simpa using Array.mem_of_getElem? ht
        have hall : ([3].all fun u => !Tryd.prog.wantsStandIn u) = true := by kernel_rfl
        exact (show Tryd.prog.wantsStandIn t = false by simpa using List.all_eq_true.1 hall t hm)⟩)
    (by kernel_rfl)
#print axioms valueKnown_card_holds
