/- The statement ValueSums: sums, differences, products of numbers are dec's, whole ones of whole ones; over they are errors. No condition. -/
import Derived.Test.YtjbmgmgbcjkfoaaGreatDoorSumsTabs
import Derived.ProofKit
import Derived.Lay
import Derived.LaidOnce
import Derived.Test.YtjbmgmgbcjkfoaaGreatDoorRows
import Derived.Test.YtjbmgmgbcjkfoaaGreatDoorTie
import Derived.Test.YtjbmgmgbcjkfoaaGreatDoorCards
namespace Go.Proofs.YtjbmgmgbcjkfoaaGreatDoor
open Go.RowKit Go.Am
open Go.ChangeShapes Go.WideShapes Go.ChangeAt Go.Lib
set_option maxRecDepth 100000
noncomputable def sumsL : List Hint := [(12, tabF numT), (39, tabF numT), (14, tabF addT), (70, tabF addT), (16, tabF mulT), (71, tabF mulT), (18, tabF printT), (72, tabF printT)]
theorem sumsL_ok (base : Nat) (wo : Orig) : ∀ p ∈ sumsL, HintOk Tryz.prog base wo p.1 p.2 := by
  intro p hp
  simp only [sumsL, List.mem_cons, List.not_mem_nil, or_false] at hp
  rcases hp with rfl | rfl | rfl | rfl | rfl | rfl | rfl | rfl
  · exact rows_ok are12 Tryz.func12 (by kernel_rfl) (by kernel_rfl) base wo
  · exact rows_ok are39 Tryz.func39 (by kernel_rfl) (by kernel_rfl) base wo
  · exact rows_ok are14 Tryz.func14 (by kernel_rfl) (by kernel_rfl) base wo
  · exact rows_ok are70 Tryz.func70 (by kernel_rfl) (by kernel_rfl) base wo
  · exact rows_ok are16 Tryz.func16 (by kernel_rfl) (by kernel_rfl) base wo
  · exact rows_ok are71 Tryz.func71 (by kernel_rfl) (by kernel_rfl) base wo
  · exact rows_ok are18 Tryz.func18 (by kernel_rfl) (by kernel_rfl) base wo
  · exact rows_ok are72 Tryz.func72 (by kernel_rfl) (by kernel_rfl) base wo
noncomputable def sumsH (x y k : Nat) : Hints := hints masks ((11, ghostG Tryz.prog.globals.size [⟨0, term x⟩, ⟨1, term y⟩]) :: (sumsL ++ pickL [⟨2, 3, k⟩]))
noncomputable def sumsRun (x k y : Nat) : Bool := yes (run Tryz.prog (sumsH x y k) 1000 4 (ghosts Tryz.prog 3) (mem0 Tryz.prog 3))
theorem sums_run0_0 : (List.range 24).all (sumsRun 0 0) = true := by kernel_rfl
theorem sums_run0_1 : (List.range 24).all (sumsRun 0 1) = true := by kernel_rfl
theorem sums_run0_2 : (List.range 24).all (sumsRun 0 2) = true := by kernel_rfl
theorem sums_run1_0 : (List.range 24).all (sumsRun 1 0) = true := by kernel_rfl
theorem sums_run1_1 : (List.range 24).all (sumsRun 1 1) = true := by kernel_rfl
theorem sums_run1_2 : (List.range 24).all (sumsRun 1 2) = true := by kernel_rfl
theorem sums_run2_0 : (List.range 24).all (sumsRun 2 0) = true := by kernel_rfl
theorem sums_run2_1 : (List.range 24).all (sumsRun 2 1) = true := by kernel_rfl
theorem sums_run2_2 : (List.range 24).all (sumsRun 2 2) = true := by kernel_rfl
theorem sums_run3_0 : (List.range 24).all (sumsRun 3 0) = true := by kernel_rfl
theorem sums_run3_1 : (List.range 24).all (sumsRun 3 1) = true := by kernel_rfl
theorem sums_run3_2 : (List.range 24).all (sumsRun 3 2) = true := by kernel_rfl
theorem sums_run4_0 : (List.range 24).all (sumsRun 4 0) = true := by kernel_rfl
theorem sums_run4_1 : (List.range 24).all (sumsRun 4 1) = true := by kernel_rfl
theorem sums_run4_2 : (List.range 24).all (sumsRun 4 2) = true := by kernel_rfl
theorem sums_run5_0 : (List.range 24).all (sumsRun 5 0) = true := by kernel_rfl
theorem sums_run5_1 : (List.range 24).all (sumsRun 5 1) = true := by kernel_rfl
theorem sums_run5_2 : (List.range 24).all (sumsRun 5 2) = true := by kernel_rfl
theorem sums_run6_0 : (List.range 24).all (sumsRun 6 0) = true := by kernel_rfl
theorem sums_run6_1 : (List.range 24).all (sumsRun 6 1) = true := by kernel_rfl
theorem sums_run6_2 : (List.range 24).all (sumsRun 6 2) = true := by kernel_rfl
theorem sums_run7_0 : (List.range 24).all (sumsRun 7 0) = true := by kernel_rfl
theorem sums_run7_1 : (List.range 24).all (sumsRun 7 1) = true := by kernel_rfl
theorem sums_run7_2 : (List.range 24).all (sumsRun 7 2) = true := by kernel_rfl
theorem sums_run8_0 : (List.range 24).all (sumsRun 8 0) = true := by kernel_rfl
theorem sums_run8_1 : (List.range 24).all (sumsRun 8 1) = true := by kernel_rfl
theorem sums_run8_2 : (List.range 24).all (sumsRun 8 2) = true := by kernel_rfl
theorem sums_run9_0 : (List.range 24).all (sumsRun 9 0) = true := by kernel_rfl
theorem sums_run9_1 : (List.range 24).all (sumsRun 9 1) = true := by kernel_rfl
theorem sums_run9_2 : (List.range 24).all (sumsRun 9 2) = true := by kernel_rfl
theorem sums_run10_0 : (List.range 24).all (sumsRun 10 0) = true := by kernel_rfl
theorem sums_run10_1 : (List.range 24).all (sumsRun 10 1) = true := by kernel_rfl
theorem sums_run10_2 : (List.range 24).all (sumsRun 10 2) = true := by kernel_rfl
theorem sums_run11_0 : (List.range 24).all (sumsRun 11 0) = true := by kernel_rfl
theorem sums_run11_1 : (List.range 24).all (sumsRun 11 1) = true := by kernel_rfl
theorem sums_run11_2 : (List.range 24).all (sumsRun 11 2) = true := by kernel_rfl
theorem sums_run12_0 : (List.range 24).all (sumsRun 12 0) = true := by kernel_rfl
theorem sums_run12_1 : (List.range 24).all (sumsRun 12 1) = true := by kernel_rfl
theorem sums_run12_2 : (List.range 24).all (sumsRun 12 2) = true := by kernel_rfl
theorem sums_run13_0 : (List.range 24).all (sumsRun 13 0) = true := by kernel_rfl
theorem sums_run13_1 : (List.range 24).all (sumsRun 13 1) = true := by kernel_rfl
theorem sums_run13_2 : (List.range 24).all (sumsRun 13 2) = true := by kernel_rfl
theorem sums_run14_0 : (List.range 24).all (sumsRun 14 0) = true := by kernel_rfl
theorem sums_run14_1 : (List.range 24).all (sumsRun 14 1) = true := by kernel_rfl
theorem sums_run14_2 : (List.range 24).all (sumsRun 14 2) = true := by kernel_rfl
theorem sums_run15_0 : (List.range 24).all (sumsRun 15 0) = true := by kernel_rfl
theorem sums_run15_1 : (List.range 24).all (sumsRun 15 1) = true := by kernel_rfl
theorem sums_run15_2 : (List.range 24).all (sumsRun 15 2) = true := by kernel_rfl
theorem sums_run16_0 : (List.range 24).all (sumsRun 16 0) = true := by kernel_rfl
theorem sums_run16_1 : (List.range 24).all (sumsRun 16 1) = true := by kernel_rfl
theorem sums_run16_2 : (List.range 24).all (sumsRun 16 2) = true := by kernel_rfl
theorem sums_run17_0 : (List.range 24).all (sumsRun 17 0) = true := by kernel_rfl
theorem sums_run17_1 : (List.range 24).all (sumsRun 17 1) = true := by kernel_rfl
theorem sums_run17_2 : (List.range 24).all (sumsRun 17 2) = true := by kernel_rfl
theorem sums_run18_0 : (List.range 24).all (sumsRun 18 0) = true := by kernel_rfl
theorem sums_run18_1 : (List.range 24).all (sumsRun 18 1) = true := by kernel_rfl
theorem sums_run18_2 : (List.range 24).all (sumsRun 18 2) = true := by kernel_rfl
theorem sums_run19_0 : (List.range 24).all (sumsRun 19 0) = true := by kernel_rfl
theorem sums_run19_1 : (List.range 24).all (sumsRun 19 1) = true := by kernel_rfl
theorem sums_run19_2 : (List.range 24).all (sumsRun 19 2) = true := by kernel_rfl
theorem sums_run20_0 : (List.range 24).all (sumsRun 20 0) = true := by kernel_rfl
theorem sums_run20_1 : (List.range 24).all (sumsRun 20 1) = true := by kernel_rfl
theorem sums_run20_2 : (List.range 24).all (sumsRun 20 2) = true := by kernel_rfl
theorem sums_run21_0 : (List.range 24).all (sumsRun 21 0) = true := by kernel_rfl
theorem sums_run21_1 : (List.range 24).all (sumsRun 21 1) = true := by kernel_rfl
theorem sums_run21_2 : (List.range 24).all (sumsRun 21 2) = true := by kernel_rfl
theorem sums_run22_0 : (List.range 24).all (sumsRun 22 0) = true := by kernel_rfl
theorem sums_run22_1 : (List.range 24).all (sumsRun 22 1) = true := by kernel_rfl
theorem sums_run22_2 : (List.range 24).all (sumsRun 22 2) = true := by kernel_rfl
theorem sums_run23_0 : (List.range 24).all (sumsRun 23 0) = true := by kernel_rfl
theorem sums_run23_1 : (List.range 24).all (sumsRun 23 1) = true := by kernel_rfl
theorem sums_run23_2 : (List.range 24).all (sumsRun 23 2) = true := by kernel_rfl
theorem sums_k0 : ∀ k, k < 3 → (List.range 24).all (sumsRun 0 k) = true
  | 0, _ => sums_run0_0
  | 1, _ => sums_run0_1
  | 2, _ => sums_run0_2
  | n + 3, h => absurd h (by omega)
theorem sums_k1 : ∀ k, k < 3 → (List.range 24).all (sumsRun 1 k) = true
  | 0, _ => sums_run1_0
  | 1, _ => sums_run1_1
  | 2, _ => sums_run1_2
  | n + 3, h => absurd h (by omega)
theorem sums_k2 : ∀ k, k < 3 → (List.range 24).all (sumsRun 2 k) = true
  | 0, _ => sums_run2_0
  | 1, _ => sums_run2_1
  | 2, _ => sums_run2_2
  | n + 3, h => absurd h (by omega)
theorem sums_k3 : ∀ k, k < 3 → (List.range 24).all (sumsRun 3 k) = true
  | 0, _ => sums_run3_0
  | 1, _ => sums_run3_1
  | 2, _ => sums_run3_2
  | n + 3, h => absurd h (by omega)
theorem sums_k4 : ∀ k, k < 3 → (List.range 24).all (sumsRun 4 k) = true
  | 0, _ => sums_run4_0
  | 1, _ => sums_run4_1
  | 2, _ => sums_run4_2
  | n + 3, h => absurd h (by omega)
theorem sums_k5 : ∀ k, k < 3 → (List.range 24).all (sumsRun 5 k) = true
  | 0, _ => sums_run5_0
  | 1, _ => sums_run5_1
  | 2, _ => sums_run5_2
  | n + 3, h => absurd h (by omega)
theorem sums_k6 : ∀ k, k < 3 → (List.range 24).all (sumsRun 6 k) = true
  | 0, _ => sums_run6_0
  | 1, _ => sums_run6_1
  | 2, _ => sums_run6_2
  | n + 3, h => absurd h (by omega)
theorem sums_k7 : ∀ k, k < 3 → (List.range 24).all (sumsRun 7 k) = true
  | 0, _ => sums_run7_0
  | 1, _ => sums_run7_1
  | 2, _ => sums_run7_2
  | n + 3, h => absurd h (by omega)
theorem sums_k8 : ∀ k, k < 3 → (List.range 24).all (sumsRun 8 k) = true
  | 0, _ => sums_run8_0
  | 1, _ => sums_run8_1
  | 2, _ => sums_run8_2
  | n + 3, h => absurd h (by omega)
theorem sums_k9 : ∀ k, k < 3 → (List.range 24).all (sumsRun 9 k) = true
  | 0, _ => sums_run9_0
  | 1, _ => sums_run9_1
  | 2, _ => sums_run9_2
  | n + 3, h => absurd h (by omega)
theorem sums_k10 : ∀ k, k < 3 → (List.range 24).all (sumsRun 10 k) = true
  | 0, _ => sums_run10_0
  | 1, _ => sums_run10_1
  | 2, _ => sums_run10_2
  | n + 3, h => absurd h (by omega)
theorem sums_k11 : ∀ k, k < 3 → (List.range 24).all (sumsRun 11 k) = true
  | 0, _ => sums_run11_0
  | 1, _ => sums_run11_1
  | 2, _ => sums_run11_2
  | n + 3, h => absurd h (by omega)
theorem sums_k12 : ∀ k, k < 3 → (List.range 24).all (sumsRun 12 k) = true
  | 0, _ => sums_run12_0
  | 1, _ => sums_run12_1
  | 2, _ => sums_run12_2
  | n + 3, h => absurd h (by omega)
theorem sums_k13 : ∀ k, k < 3 → (List.range 24).all (sumsRun 13 k) = true
  | 0, _ => sums_run13_0
  | 1, _ => sums_run13_1
  | 2, _ => sums_run13_2
  | n + 3, h => absurd h (by omega)
theorem sums_k14 : ∀ k, k < 3 → (List.range 24).all (sumsRun 14 k) = true
  | 0, _ => sums_run14_0
  | 1, _ => sums_run14_1
  | 2, _ => sums_run14_2
  | n + 3, h => absurd h (by omega)
theorem sums_k15 : ∀ k, k < 3 → (List.range 24).all (sumsRun 15 k) = true
  | 0, _ => sums_run15_0
  | 1, _ => sums_run15_1
  | 2, _ => sums_run15_2
  | n + 3, h => absurd h (by omega)
theorem sums_k16 : ∀ k, k < 3 → (List.range 24).all (sumsRun 16 k) = true
  | 0, _ => sums_run16_0
  | 1, _ => sums_run16_1
  | 2, _ => sums_run16_2
  | n + 3, h => absurd h (by omega)
theorem sums_k17 : ∀ k, k < 3 → (List.range 24).all (sumsRun 17 k) = true
  | 0, _ => sums_run17_0
  | 1, _ => sums_run17_1
  | 2, _ => sums_run17_2
  | n + 3, h => absurd h (by omega)
theorem sums_k18 : ∀ k, k < 3 → (List.range 24).all (sumsRun 18 k) = true
  | 0, _ => sums_run18_0
  | 1, _ => sums_run18_1
  | 2, _ => sums_run18_2
  | n + 3, h => absurd h (by omega)
theorem sums_k19 : ∀ k, k < 3 → (List.range 24).all (sumsRun 19 k) = true
  | 0, _ => sums_run19_0
  | 1, _ => sums_run19_1
  | 2, _ => sums_run19_2
  | n + 3, h => absurd h (by omega)
theorem sums_k20 : ∀ k, k < 3 → (List.range 24).all (sumsRun 20 k) = true
  | 0, _ => sums_run20_0
  | 1, _ => sums_run20_1
  | 2, _ => sums_run20_2
  | n + 3, h => absurd h (by omega)
theorem sums_k21 : ∀ k, k < 3 → (List.range 24).all (sumsRun 21 k) = true
  | 0, _ => sums_run21_0
  | 1, _ => sums_run21_1
  | 2, _ => sums_run21_2
  | n + 3, h => absurd h (by omega)
theorem sums_k22 : ∀ k, k < 3 → (List.range 24).all (sumsRun 22 k) = true
  | 0, _ => sums_run22_0
  | 1, _ => sums_run22_1
  | 2, _ => sums_run22_2
  | n + 3, h => absurd h (by omega)
theorem sums_k23 : ∀ k, k < 3 → (List.range 24).all (sumsRun 23 k) = true
  | 0, _ => sums_run23_0
  | 1, _ => sums_run23_1
  | 2, _ => sums_run23_2
  | n + 3, h => absurd h (by omega)
theorem sums_x : ∀ x, x < 24 → ∀ k, k < 3 → (List.range 24).all (sumsRun x k) = true
  | 0, _ => sums_k0
  | 1, _ => sums_k1
  | 2, _ => sums_k2
  | 3, _ => sums_k3
  | 4, _ => sums_k4
  | 5, _ => sums_k5
  | 6, _ => sums_k6
  | 7, _ => sums_k7
  | 8, _ => sums_k8
  | 9, _ => sums_k9
  | 10, _ => sums_k10
  | 11, _ => sums_k11
  | 12, _ => sums_k12
  | 13, _ => sums_k13
  | 14, _ => sums_k14
  | 15, _ => sums_k15
  | 16, _ => sums_k16
  | 17, _ => sums_k17
  | 18, _ => sums_k18
  | 19, _ => sums_k19
  | 20, _ => sums_k20
  | 21, _ => sums_k21
  | 22, _ => sums_k22
  | 23, _ => sums_k23
  | n + 24, h => absurd h (by omega)
theorem sums_all (x k y : Nat) (hx : x < 24) (hk : k < 3) (hy : y < 24) : sumsRun x k y = true := List.all_eq_true.1 (sums_x x hx k hk) y (List.mem_range.2 hy)
theorem sums_says (n m o : Int) : Says Tryz.prog 4 #[.int .i64 n, .int .i64 m, .int .i64 o] (.bool true) := by
  obtain ⟨h0, e0⟩ := mod_ok (n := n) (k := 24) (by omega)
  obtain ⟨h1, e1⟩ := mod_ok (n := m) (k := 24) (by omega)
  obtain ⟨h2, e2⟩ := mod_ok (n := o) (k := 3) (by omega)
  refine law_calls (vs := [.int .i64 n, .int .i64 m, .int .i64 o]) (H := sumsH (n % 24).toNat (m % 24).toNat (o % 3).toNat) (fun w d => hints_ok fun p hp => ?_) rfl Tryz.func4 (by kernel_rfl) (by kernel_rfl) (sums_all _ _ _ h0 h2 h1)
  rcases List.mem_cons.1 hp with rfl | hp
  · refine ghostG_ok Tryz.func11 (by kernel_rfl) (by kernel_rfl) fun q hq => ?_
    rcases List.mem_cons.1 hq with rfl | hq
    · exact ⟨(term_says h0 e0).1, _, rfl, (term_says h0 e0).2⟩
    · rw [List.mem_singleton.1 hq]
      exact ⟨(term_says h1 e1).1, _, rfl, (term_says h1 e1).2⟩
  · rcases List.mem_append.1 hp with hp | hp
    · exact sumsL_ok _ _ p hp
    · refine pickL_ok (l := [⟨2, 3, (o % 3).toNat⟩]) ?_ _ _ _ p hp
      intro q hq
      rw [List.mem_singleton.1 hq]; exact ⟨o, rfl, e2⟩
theorem valueSums_lifted (os : Os) (started : os.Started) (H : Type) (enc : TypeId × Value → H) :
    ReturnsInHanded {} Tryz.checked os 4 .any (fun w args => (Rows.valueSumsSpec.pre enc Tryz.prog Tryz.f4 [] false w args ∧ laidMetH Tryz.prog Rows.valueSumsRow.laid w) ∧ sizedMet enc Tryz.prog Tryz.f4 (OpenSpec.ofChange Rows.valueSumsSpec) false w args)
      (Rows.valueSumsSpec.post enc Tryz.prog Tryz.f4 false true false false) := by
  refine returnsInHanded_of_change_and (C := Tryz.checked) (X := fun w _ => laidMetH Tryz.prog Rows.valueSumsRow.laid w) (fun _ _ _ hh h => h.of_heap hh) own started (by kernel_rfl) Tryz.func4
    (ChangeSpec.witness_shaped (enc := enc) (C := Tryz.checked) (os := os) (X := fun w _ => laidMetH Tryz.prog Rows.valueSumsRow.laid w) false (World.laidAll Tryz.prog os Rows.valueSumsRow.laid) #[.int .i64 0, .int .i64 0, .int .i64 0] 8 (World.laidAll_os _ _ _)
      (World.shaped_of_ZipB (by kernel_rfl) (by kernel_rfl)) (by kernel_rfl) (by kernel_rfl) (by kernel_rfl)
      (by rw [MakeChecks.laidMetH_plain _ _ _ (by kernel_rfl)]; exact laidMet_laidAll _ (by kernel_rfl) (by kernel_rfl))) ?_
  intro W base args ds gs before hval0 hW _ _ hL _
  have hval : ∀ (j : Nat) t v, Tryz.f4.params[j]? = some t → args[j]? = some v → Value.okWide Tryz.prog W .any base t v := hval0
  have hW' := hW
  obtain ⟨p, q, hA0, hV, rfl, _, _⟩ := hW
  have hA : DataW.TrodAll enc Tryz.prog W 0 (fun _ => true) true Tryz.f4.params.toList args.toList ds p := hA0
  rw [Tryz.params4] at hA hval
  obtain ⟨v0, v1, v2, d0, d1, d2, p0, p1, p2, rfl, rfl, rfl, h0, h1, h2⟩ := trodAll_three hA
  obtain ⟨rfl, rfl⟩ := trodVars_none hV
  obtain ⟨x0, rfl, rfl, rfl, w0⟩ := open_int Tryz.underlying3 (hval 0 3 v0 rfl rfl) h0
  obtain ⟨x1, rfl, rfl, rfl, w1⟩ := open_int Tryz.underlying3 (hval 1 3 v1 rfl rfl) h1
  obtain ⟨x2, rfl, rfl, rfl, w2⟩ := open_int Tryz.underlying3 (hval 2 3 v2 rfl rfl) h2
  simp only [List.append_nil] at hW'
  refine (sums_says x0 x1 x2 W).mono fun e W' ⟨he, hb⟩ => ?_
  subst he
  exact ⟨_, rfl, _, _, _, [], [], [], hW', trodAll_mk1 (shut_bool Tryz.underlying4 _), trodAll_mk3 (shut_int Tryz.underlying3 w0) (shut_int Tryz.underlying3 w1) (shut_int Tryz.underlying3 w2), rfl, hb.frame _, fun h => by cases h⟩
theorem valueSums_holds : Rows.ValueSumsSaid :=
  OpenClaim.holds_of_wide 4 Tryz.f4 rfl rfl rfl rfl rfl rfl rfl ⟨rfl, rfl, rfl, rfl, rfl⟩ rfl rfl rfl rfl rfl (by kernel_rfl) Tryz.func4 (by kernel_rfl)
    (of_decide_eq_true (by kernel_rfl)) (by unfold Func.isWrapper; first | (rw [if_pos (by decide +kernel)]; kernel_rfl) | (rw [if_neg (by decide +kernel)]; exact ⟨rfl, rfl⟩))
    (fun os started H enc _ => valueSums_lifted os started H enc)
theorem valueSums_card_holds : Rows.ValueSumsCardSaid :=
  Claim7.holds_tied_plain_at .later [] [.data, .data, .data, .data, .pinned] true (true, "a038beec734311b60c32e82bbb9948876e3fda60c2b750a8a16722ef62eced28") false valueSums_holds (fun _ h => by cases h) (by kernel_rfl) (fun _ h => by cases h) valueSums_row_tie rfl ⟨rfl, rfl⟩ (by kernel_rfl) rfl
    (fun f fn hf hfn => by
      obtain rfl : f = 4 := Option.some.inj ((show Tryz.prog.funcNamed "triad/triadlaw15.ValueSums" = some 4 by kernel_rfl).symm.trans hf) |>.symm
      obtain rfl : fn = Tryz.f4 := (Option.some.inj (Tryz.func4.symm.trans hfn)).symm
      exact ⟨by kernel_rfl, fun j t ht => by
        rw [Tryz.params4] at ht
        have hm : t ∈ [3, 3, 3] := by simpa using Array.mem_of_getElem? ht
        have hall : ([3, 3, 3].all fun u => !Tryz.prog.wantsStandIn u) = true := by kernel_rfl
        exact (show Tryz.prog.wantsStandIn t = false by simpa using List.all_eq_true.1 hall t hm)⟩)
    (by kernel_rfl)
#print axioms valueSums_card_holds
