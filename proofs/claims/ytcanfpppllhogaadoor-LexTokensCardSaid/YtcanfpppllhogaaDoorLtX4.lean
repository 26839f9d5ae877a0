/- What lex and the reference answer, function by function (LexTokens, part X4). -/
import Derived.Test.YtcanfpppllhogaaDoorLtX3
import Derived.Laws.ResultCell
import Derived.Laws.Concat
namespace Go.Proofs.YtcanfpppllhogaaDoor.Lx
open Go.RowKit Go.Proofs
open Go.Am (spanL)
noncomputable section

/-! ### the reference's token, leaf by leaf (gen_one.py) -/
set_option maxHeartbeats 4000000 in
set_option maxRecDepth 1000000 in
theorem rone_at2N (s : ByteArray) (n : Nat) (w : World) (hn : n < s.size) (hs : s.size ≤ 4000) (hI : ririE s n = 0) (hl : n + 1 < s.size) (hQ : s[n].toNat = 64) (E : Nat) (hE : s[n + 1].toNat = E) (hE1 : 97 ≤ E) (hE2 : ¬ E ≤ 122) (hZ : rsignE (dropS s n) = 0) :
    Calls Tryd.prog 21 #[.string s, .int .i64 (n : Int)] w fun e w' => OnePost (none) e ∧ Below w.heap.size w w' := by
  have hnI : (n : Int) < (s.size : Int) := by omega
  have cI := iri_no s n w hn hs hI
  clear hI
  have h0a : (0 : Int) ≤ (n : Int) + 1 := by omega
  have h0b : (0 : Int) ≤ (n : Int) + 2 := by omega
  have hu0 := Und.start w
  have hE256 : E < 256 := by rw [← hE]; exact s[n + 1].toNat_lt
  have i1 : (97 : Int) ≤ (E : Int) := by omega
  have i2 : ¬ (E : Int) ≤ 122 := by omega
  have cD : ∀ W, Und w W → Calls Tryd.prog 44 #[.int .u8 64] W fun e w' => e = .returned (.bool false) ∧ Und w w' := digit_b 64 w false (by decide) rfl
  have cL : ∀ W, Und w W → Calls Tryd.prog 41 #[.int .u8 64] W fun e w' => e = .returned (.bool false) ∧ Und w w' := letter_b 64 w false (by decide) rfl
  have cS := sign_at s n w 0 hn hs hZ
  clear hZ
  go_enter Tryd.func21, Tryd.ntmps21
  have hlI : (n : Int) + 1 < (s.size : Int) := by omega
  go_wp2_with (first
    | (go_at_call_of 41 (Value.int IntKind.u8 64); refine (cL _ (by assumption)).mono ?_; rintro e w1 ⟨rfl, hb1⟩; have a0 := hb1.c0; have a1 := hb1.f0; have a2 := hb1.c1 (.int .i64 0); have a3 := hb1.f1 (.int .i64 0); have a4 := hb1.d0 (.int .i64 0) (.string (⟨#[]⟩)); have a5 := hb1.d1 (.int .i64 0) (.string (⟨#[]⟩)))
    | (go_at_call 44; refine (cD _ (by assumption)).mono ?_; rintro e w1 ⟨rfl, hb1⟩; have a0 := hb1.c0; have a1 := hb1.f0; have a2 := hb1.c1 (.int .i64 0); have a3 := hb1.f1 (.int .i64 0); have a4 := hb1.d0 (.int .i64 0) (.string (⟨#[]⟩)); have a5 := hb1.d1 (.int .i64 0) (.string (⟨#[]⟩)))
    | (go_at_call 47; refine (cS _ (by assumption)).mono ?_; rintro e w1 ⟨rfl, hb1⟩; have a0 := hb1.c0; have a1 := hb1.f0; have a2 := hb1.c1 (.int .i64 0); have a3 := hb1.f1 (.int .i64 0); have a4 := hb1.d0 (.int .i64 0) (.string (⟨#[]⟩)); have a5 := hb1.d1 (.int .i64 0) (.string (⟨#[]⟩)))
    | (go_at_call 39; refine (cI _ (by assumption)).mono ?_; rintro e w1 ⟨rfl, hb1⟩))
  try simp only [Exit.inBlock, Exit.then]
  refine bodyPost_ret (v := .tuple #[.agg #[.int .i64 0, .string ⟨#[]⟩], .int .i64 0]) ?_ rfl ⟨⟨_, _, rfl⟩, hb1.last _ _⟩
  rw [results_cell_tmp rfl]
  go_simp
set_option maxHeartbeats 4000000 in
set_option maxRecDepth 1000000 in
theorem rone_at2Z (s : ByteArray) (n : Nat) (w : World) (hn : n < s.size) (hs : s.size ≤ 4000) (hI : ririE s n = 0) (hl : n + 1 < s.size) (hQ : s[n].toNat = 64) (E : Nat) (hE : s[n + 1].toNat = E) (hE1 : 97 ≤ E) (hE2 : ¬ E ≤ 122) (Z : Nat) (hZ : rsignE (dropS s n) = Z) (hZ0 : 0 < Z) :
    Calls Tryd.prog 21 #[.string s, .int .i64 (n : Int)] w fun e w' => OnePost (some ((9, s.extract n (n + Z)), n + Z)) e ∧ Below w.heap.size w w' := by
  have hnI : (n : Int) < (s.size : Int) := by omega
  have cI := iri_no s n w hn hs hI
  clear hI
  have h0a : (0 : Int) ≤ (n : Int) + 1 := by omega
  have h0b : (0 : Int) ≤ (n : Int) + 2 := by omega
  have hu0 := Und.start w
  have hE256 : E < 256 := by rw [← hE]; exact s[n + 1].toNat_lt
  have i1 : (97 : Int) ≤ (E : Int) := by omega
  have i2 : ¬ (E : Int) ≤ 122 := by omega
  have cD : ∀ W, Und w W → Calls Tryd.prog 44 #[.int .u8 64] W fun e w' => e = .returned (.bool false) ∧ Und w w' := digit_b 64 w false (by decide) rfl
  have cL : ∀ W, Und w W → Calls Tryd.prog 41 #[.int .u8 64] W fun e w' => e = .returned (.bool false) ∧ Und w w' := letter_b 64 w false (by decide) rfl
  have hZ2 : n + Z ≤ s.size := rsign_le hn hZ
  have hZ3 : ¬ (Z : Int) = 0 := by omega
  have hZ4 : (n : Int) + (Z : Int) ≤ (s.size : Int) := by omega
  have hZ6 : (0 : Int) ≤ (n : Int) + (Z : Int) := by omega
  have hZ7 : (n : Int) ≤ (n : Int) + (Z : Int) := by omega
  have hZ8 : ((n : Int) + (Z : Int)).toNat = n + Z := by omega
  have hZ5 : ((Z : Int) == 0) = false := beq_eq_false_iff_ne.2 hZ3
  have cS := sign_at s n w Z hn hs hZ
  clear hZ
  go_enter Tryd.func21, Tryd.ntmps21
  have hlI : (n : Int) + 1 < (s.size : Int) := by omega
  go_wp2_with (first
    | (go_at_call_of 41 (Value.int IntKind.u8 64); refine (cL _ (by assumption)).mono ?_; rintro e w1 ⟨rfl, hb1⟩; have a0 := hb1.c0; have a1 := hb1.f0; have a2 := hb1.c1 (.int .i64 9); have a3 := hb1.f1 (.int .i64 9); have a4 := hb1.d0 (.int .i64 9) (.string (s.extract n (n + Z))); have a5 := hb1.d1 (.int .i64 9) (.string (s.extract n (n + Z))))
    | (go_at_call 44; refine (cD _ (by assumption)).mono ?_; rintro e w1 ⟨rfl, hb1⟩; have a0 := hb1.c0; have a1 := hb1.f0; have a2 := hb1.c1 (.int .i64 9); have a3 := hb1.f1 (.int .i64 9); have a4 := hb1.d0 (.int .i64 9) (.string (s.extract n (n + Z))); have a5 := hb1.d1 (.int .i64 9) (.string (s.extract n (n + Z))))
    | (go_at_call 47; refine (cS _ (by assumption)).mono ?_; rintro e w1 ⟨rfl, hb1⟩; have a0 := hb1.c0; have a1 := hb1.f0; have a2 := hb1.c1 (.int .i64 9); have a3 := hb1.f1 (.int .i64 9); have a4 := hb1.d0 (.int .i64 9) (.string (s.extract n (n + Z))); have a5 := hb1.d1 (.int .i64 9) (.string (s.extract n (n + Z))))
    | (go_at_call 39; refine (cI _ (by assumption)).mono ?_; rintro e w1 ⟨rfl, hb1⟩))
  try simp only [Exit.inBlock, Exit.then]
  refine bodyPost_ret (v := .tuple #[.agg #[.int .i64 9, .string (s.extract n (n + Z))], .int .i64 ((n : Int) + (Z : Int))]) ?_ rfl ⟨one_some (by omega), hb1.last _ _⟩
  rw [results_cell_tmp rfl]
  go_simp
set_option maxHeartbeats 4000000 in
set_option maxRecDepth 1000000 in
theorem rone_at3N (s : ByteArray) (n : Nat) (w : World) (hn : n < s.size) (hs : s.size ≤ 4000) (hI : ririE s n = 0) (hl : ¬ n + 1 < s.size) (hQ : s[n].toNat = 64) (hZ : rsignE (dropS s n) = 0) :
    Calls Tryd.prog 21 #[.string s, .int .i64 (n : Int)] w fun e w' => OnePost (none) e ∧ Below w.heap.size w w' := by
  have hnI : (n : Int) < (s.size : Int) := by omega
  have cI := iri_no s n w hn hs hI
  clear hI
  have h0a : (0 : Int) ≤ (n : Int) + 1 := by omega
  have h0b : (0 : Int) ≤ (n : Int) + 2 := by omega
  have hu0 := Und.start w
  have cD : ∀ W, Und w W → Calls Tryd.prog 44 #[.int .u8 64] W fun e w' => e = .returned (.bool false) ∧ Und w w' := digit_b 64 w false (by decide) rfl
  have cL : ∀ W, Und w W → Calls Tryd.prog 41 #[.int .u8 64] W fun e w' => e = .returned (.bool false) ∧ Und w w' := letter_b 64 w false (by decide) rfl
  have cS := sign_at s n w 0 hn hs hZ
  clear hZ
  go_enter Tryd.func21, Tryd.ntmps21
  have hlI : ¬ (n : Int) + 1 < (s.size : Int) := by omega
  go_wp2_with (first
    | (go_at_call_of 41 (Value.int IntKind.u8 64); refine (cL _ (by assumption)).mono ?_; rintro e w1 ⟨rfl, hb1⟩; have a0 := hb1.c0; have a1 := hb1.f0; have a2 := hb1.c1 (.int .i64 0); have a3 := hb1.f1 (.int .i64 0); have a4 := hb1.d0 (.int .i64 0) (.string (⟨#[]⟩)); have a5 := hb1.d1 (.int .i64 0) (.string (⟨#[]⟩)))
    | (go_at_call 44; refine (cD _ (by assumption)).mono ?_; rintro e w1 ⟨rfl, hb1⟩; have a0 := hb1.c0; have a1 := hb1.f0; have a2 := hb1.c1 (.int .i64 0); have a3 := hb1.f1 (.int .i64 0); have a4 := hb1.d0 (.int .i64 0) (.string (⟨#[]⟩)); have a5 := hb1.d1 (.int .i64 0) (.string (⟨#[]⟩)))
    | (go_at_call 47; refine (cS _ (by assumption)).mono ?_; rintro e w1 ⟨rfl, hb1⟩; have a0 := hb1.c0; have a1 := hb1.f0; have a2 := hb1.c1 (.int .i64 0); have a3 := hb1.f1 (.int .i64 0); have a4 := hb1.d0 (.int .i64 0) (.string (⟨#[]⟩)); have a5 := hb1.d1 (.int .i64 0) (.string (⟨#[]⟩)))
    | (go_at_call 39; refine (cI _ (by assumption)).mono ?_; rintro e w1 ⟨rfl, hb1⟩))
  try simp only [Exit.inBlock, Exit.then]
  refine bodyPost_ret (v := .tuple #[.agg #[.int .i64 0, .string ⟨#[]⟩], .int .i64 0]) ?_ rfl ⟨⟨_, _, rfl⟩, hb1.last _ _⟩
  rw [results_cell_tmp rfl]
  go_simp
set_option maxHeartbeats 4000000 in
set_option maxRecDepth 1000000 in
theorem rone_at3Z (s : ByteArray) (n : Nat) (w : World) (hn : n < s.size) (hs : s.size ≤ 4000) (hI : ririE s n = 0) (hl : ¬ n + 1 < s.size) (hQ : s[n].toNat = 64) (Z : Nat) (hZ : rsignE (dropS s n) = Z) (hZ0 : 0 < Z) :
    Calls Tryd.prog 21 #[.string s, .int .i64 (n : Int)] w fun e w' => OnePost (some ((9, s.extract n (n + Z)), n + Z)) e ∧ Below w.heap.size w w' := by
  have hnI : (n : Int) < (s.size : Int) := by omega
  have cI := iri_no s n w hn hs hI
  clear hI
  have h0a : (0 : Int) ≤ (n : Int) + 1 := by omega
  have h0b : (0 : Int) ≤ (n : Int) + 2 := by omega
  have hu0 := Und.start w
  have cD : ∀ W, Und w W → Calls Tryd.prog 44 #[.int .u8 64] W fun e w' => e = .returned (.bool false) ∧ Und w w' := digit_b 64 w false (by decide) rfl
  have cL : ∀ W, Und w W → Calls Tryd.prog 41 #[.int .u8 64] W fun e w' => e = .returned (.bool false) ∧ Und w w' := letter_b 64 w false (by decide) rfl
  have hZ2 : n + Z ≤ s.size := rsign_le hn hZ
  have hZ3 : ¬ (Z : Int) = 0 := by omega
  have hZ4 : (n : Int) + (Z : Int) ≤ (s.size : Int) := by omega
  have hZ6 : (0 : Int) ≤ (n : Int) + (Z : Int) := by omega
  have hZ7 : (n : Int) ≤ (n : Int) + (Z : Int) := by omega
  have hZ8 : ((n : Int) + (Z : Int)).toNat = n + Z := by omega
  have hZ5 : ((Z : Int) == 0) = false := beq_eq_false_iff_ne.2 hZ3
  have cS := sign_at s n w Z hn hs hZ
  clear hZ
  go_enter Tryd.func21, Tryd.ntmps21
  have hlI : ¬ (n : Int) + 1 < (s.size : Int) := by omega
  go_wp2_with (first
    | (go_at_call_of 41 (Value.int IntKind.u8 64); refine (cL _ (by assumption)).mono ?_; rintro e w1 ⟨rfl, hb1⟩; have a0 := hb1.c0; have a1 := hb1.f0; have a2 := hb1.c1 (.int .i64 9); have a3 := hb1.f1 (.int .i64 9); have a4 := hb1.d0 (.int .i64 9) (.string (s.extract n (n + Z))); have a5 := hb1.d1 (.int .i64 9) (.string (s.extract n (n + Z))))
    | (go_at_call 44; refine (cD _ (by assumption)).mono ?_; rintro e w1 ⟨rfl, hb1⟩; have a0 := hb1.c0; have a1 := hb1.f0; have a2 := hb1.c1 (.int .i64 9); have a3 := hb1.f1 (.int .i64 9); have a4 := hb1.d0 (.int .i64 9) (.string (s.extract n (n + Z))); have a5 := hb1.d1 (.int .i64 9) (.string (s.extract n (n + Z))))
    | (go_at_call 47; refine (cS _ (by assumption)).mono ?_; rintro e w1 ⟨rfl, hb1⟩; have a0 := hb1.c0; have a1 := hb1.f0; have a2 := hb1.c1 (.int .i64 9); have a3 := hb1.f1 (.int .i64 9); have a4 := hb1.d0 (.int .i64 9) (.string (s.extract n (n + Z))); have a5 := hb1.d1 (.int .i64 9) (.string (s.extract n (n + Z))))
    | (go_at_call 39; refine (cI _ (by assumption)).mono ?_; rintro e w1 ⟨rfl, hb1⟩))
  try simp only [Exit.inBlock, Exit.then]
  refine bodyPost_ret (v := .tuple #[.agg #[.int .i64 9, .string (s.extract n (n + Z))], .int .i64 ((n : Int) + (Z : Int))]) ?_ rfl ⟨one_some (by omega), hb1.last _ _⟩
  rw [results_cell_tmp rfl]
  go_simp
set_option maxHeartbeats 4000000 in
set_option maxRecDepth 1000000 in
theorem rone_anyN (s : ByteArray) (n : Nat) (w : World) (hn : n < s.size) (hs : s.size ≤ 4000) (hI : ririE s n = 0) (hne : s[n].toNat ≠ 95 ∧ s[n].toNat ≠ 63 ∧ s[n].toNat ≠ 36 ∧ s[n].toNat ≠ 34 ∧ s[n].toNat ≠ 39 ∧ s[n].toNat ≠ 64 ∧ s[n].toNat ≠ 58) (hD : digitP s[n].toNat = false) (hL : letterP s[n].toNat = false) (hZ : rsignE (dropS s n) = 0) :
    Calls Tryd.prog 21 #[.string s, .int .i64 (n : Int)] w fun e w' => OnePost (none) e ∧ Below w.heap.size w w' := by
  have hnI : (n : Int) < (s.size : Int) := by omega
  have cI := iri_no s n w hn hs hI
  clear hI
  have h0a : (0 : Int) ≤ (n : Int) + 1 := by omega
  have h0b : (0 : Int) ≤ (n : Int) + 2 := by omega
  have hu0 := Und.start w
  obtain ⟨Q, hQ⟩ : ∃ Q, s[n].toNat = Q := ⟨_, rfl⟩
  have hQ256 : Q < 256 := by rw [← hQ]; exact s[n].toNat_lt
  rw [hQ] at hne hD hL
  have nQ95 : ¬ (Q : Int) = 95 := by omega
  have bQ95 : ((Q : Int) == 95) = false := beq_eq_false_iff_ne.2 nQ95
  have nQ63 : ¬ (Q : Int) = 63 := by omega
  have bQ63 : ((Q : Int) == 63) = false := beq_eq_false_iff_ne.2 nQ63
  have nQ36 : ¬ (Q : Int) = 36 := by omega
  have bQ36 : ((Q : Int) == 36) = false := beq_eq_false_iff_ne.2 nQ36
  have nQ34 : ¬ (Q : Int) = 34 := by omega
  have bQ34 : ((Q : Int) == 34) = false := beq_eq_false_iff_ne.2 nQ34
  have nQ39 : ¬ (Q : Int) = 39 := by omega
  have bQ39 : ((Q : Int) == 39) = false := beq_eq_false_iff_ne.2 nQ39
  have nQ64 : ¬ (Q : Int) = 64 := by omega
  have bQ64 : ((Q : Int) == 64) = false := beq_eq_false_iff_ne.2 nQ64
  have nQ58 : ¬ (Q : Int) = 58 := by omega
  have bQ58 : ((Q : Int) == 58) = false := beq_eq_false_iff_ne.2 nQ58
  clear hne
  have cD := digit_b Q w false hQ256 hD
  have cL := letter_b Q w false hQ256 hL
  clear hD hL
  have cS := sign_at s n w 0 hn hs hZ
  clear hZ
  go_enter Tryd.func21, Tryd.ntmps21
  by_cases hl : n + 1 < s.size
  · have hlI : (n : Int) + 1 < (s.size : Int) := by omega
    obtain ⟨E, hE⟩ : ∃ E, s[n + 1].toNat = E := ⟨_, rfl⟩
    have hE256 : E < 256 := by rw [← hE]; exact s[n + 1].toNat_lt
    go_wp2_with (first
      | (go_at_call_of 41 (Value.int IntKind.u8 (Q : Int)); refine (cL _ (by assumption)).mono ?_; rintro e w1 ⟨rfl, hb1⟩; have a0 := hb1.c0; have a1 := hb1.f0; have a2 := hb1.c1 (.int .i64 0); have a3 := hb1.f1 (.int .i64 0); have a4 := hb1.d0 (.int .i64 0) (.string (⟨#[]⟩)); have a5 := hb1.d1 (.int .i64 0) (.string (⟨#[]⟩)))
      | (go_at_call 44; refine (cD _ (by assumption)).mono ?_; rintro e w1 ⟨rfl, hb1⟩; have a0 := hb1.c0; have a1 := hb1.f0; have a2 := hb1.c1 (.int .i64 0); have a3 := hb1.f1 (.int .i64 0); have a4 := hb1.d0 (.int .i64 0) (.string (⟨#[]⟩)); have a5 := hb1.d1 (.int .i64 0) (.string (⟨#[]⟩)))
      | (go_at_call 47; refine (cS _ (by assumption)).mono ?_; rintro e w1 ⟨rfl, hb1⟩; have a0 := hb1.c0; have a1 := hb1.f0; have a2 := hb1.c1 (.int .i64 0); have a3 := hb1.f1 (.int .i64 0); have a4 := hb1.d0 (.int .i64 0) (.string (⟨#[]⟩)); have a5 := hb1.d1 (.int .i64 0) (.string (⟨#[]⟩)))
      | (go_at_call 39; refine (cI _ (by assumption)).mono ?_; rintro e w1 ⟨rfl, hb1⟩))
    try simp only [Exit.inBlock, Exit.then]
    refine bodyPost_ret (v := .tuple #[.agg #[.int .i64 0, .string ⟨#[]⟩], .int .i64 0]) ?_ rfl ⟨⟨_, _, rfl⟩, hb1.last _ _⟩
    rw [results_cell_tmp rfl]
    go_simp
  · have hlI : ¬ (n : Int) + 1 < (s.size : Int) := by omega
    go_wp2_with (first
      | (go_at_call_of 41 (Value.int IntKind.u8 (Q : Int)); refine (cL _ (by assumption)).mono ?_; rintro e w1 ⟨rfl, hb1⟩; have a0 := hb1.c0; have a1 := hb1.f0; have a2 := hb1.c1 (.int .i64 0); have a3 := hb1.f1 (.int .i64 0); have a4 := hb1.d0 (.int .i64 0) (.string (⟨#[]⟩)); have a5 := hb1.d1 (.int .i64 0) (.string (⟨#[]⟩)))
      | (go_at_call 44; refine (cD _ (by assumption)).mono ?_; rintro e w1 ⟨rfl, hb1⟩; have a0 := hb1.c0; have a1 := hb1.f0; have a2 := hb1.c1 (.int .i64 0); have a3 := hb1.f1 (.int .i64 0); have a4 := hb1.d0 (.int .i64 0) (.string (⟨#[]⟩)); have a5 := hb1.d1 (.int .i64 0) (.string (⟨#[]⟩)))
      | (go_at_call 47; refine (cS _ (by assumption)).mono ?_; rintro e w1 ⟨rfl, hb1⟩; have a0 := hb1.c0; have a1 := hb1.f0; have a2 := hb1.c1 (.int .i64 0); have a3 := hb1.f1 (.int .i64 0); have a4 := hb1.d0 (.int .i64 0) (.string (⟨#[]⟩)); have a5 := hb1.d1 (.int .i64 0) (.string (⟨#[]⟩)))
      | (go_at_call 39; refine (cI _ (by assumption)).mono ?_; rintro e w1 ⟨rfl, hb1⟩))
    try simp only [Exit.inBlock, Exit.then]
    refine bodyPost_ret (v := .tuple #[.agg #[.int .i64 0, .string ⟨#[]⟩], .int .i64 0]) ?_ rfl ⟨⟨_, _, rfl⟩, hb1.last _ _⟩
    rw [results_cell_tmp rfl]
    go_simp
set_option maxHeartbeats 4000000 in
set_option maxRecDepth 1000000 in
theorem rone_anyZ (s : ByteArray) (n : Nat) (w : World) (hn : n < s.size) (hs : s.size ≤ 4000) (hI : ririE s n = 0) (hne : s[n].toNat ≠ 95 ∧ s[n].toNat ≠ 63 ∧ s[n].toNat ≠ 36 ∧ s[n].toNat ≠ 34 ∧ s[n].toNat ≠ 39 ∧ s[n].toNat ≠ 64 ∧ s[n].toNat ≠ 58) (hD : digitP s[n].toNat = false) (hL : letterP s[n].toNat = false) (Z : Nat) (hZ : rsignE (dropS s n) = Z) (hZ0 : 0 < Z) :
    Calls Tryd.prog 21 #[.string s, .int .i64 (n : Int)] w fun e w' => OnePost (some ((9, s.extract n (n + Z)), n + Z)) e ∧ Below w.heap.size w w' := by
  have hnI : (n : Int) < (s.size : Int) := by omega
  have cI := iri_no s n w hn hs hI
  clear hI
  have h0a : (0 : Int) ≤ (n : Int) + 1 := by omega
  have h0b : (0 : Int) ≤ (n : Int) + 2 := by omega
  have hu0 := Und.start w
  obtain ⟨Q, hQ⟩ : ∃ Q, s[n].toNat = Q := ⟨_, rfl⟩
  have hQ256 : Q < 256 := by rw [← hQ]; exact s[n].toNat_lt
  rw [hQ] at hne hD hL
  have nQ95 : ¬ (Q : Int) = 95 := by omega
  have bQ95 : ((Q : Int) == 95) = false := beq_eq_false_iff_ne.2 nQ95
  have nQ63 : ¬ (Q : Int) = 63 := by omega
  have bQ63 : ((Q : Int) == 63) = false := beq_eq_false_iff_ne.2 nQ63
  have nQ36 : ¬ (Q : Int) = 36 := by omega
  have bQ36 : ((Q : Int) == 36) = false := beq_eq_false_iff_ne.2 nQ36
  have nQ34 : ¬ (Q : Int) = 34 := by omega
  have bQ34 : ((Q : Int) == 34) = false := beq_eq_false_iff_ne.2 nQ34
  have nQ39 : ¬ (Q : Int) = 39 := by omega
  have bQ39 : ((Q : Int) == 39) = false := beq_eq_false_iff_ne.2 nQ39
  have nQ64 : ¬ (Q : Int) = 64 := by omega
  have bQ64 : ((Q : Int) == 64) = false := beq_eq_false_iff_ne.2 nQ64
  have nQ58 : ¬ (Q : Int) = 58 := by omega
  have bQ58 : ((Q : Int) == 58) = false := beq_eq_false_iff_ne.2 nQ58
  clear hne
  have cD := digit_b Q w false hQ256 hD
  have cL := letter_b Q w false hQ256 hL
  clear hD hL
  have hZ2 : n + Z ≤ s.size := rsign_le hn hZ
  have hZ3 : ¬ (Z : Int) = 0 := by omega
  have hZ4 : (n : Int) + (Z : Int) ≤ (s.size : Int) := by omega
  have hZ6 : (0 : Int) ≤ (n : Int) + (Z : Int) := by omega
  have hZ7 : (n : Int) ≤ (n : Int) + (Z : Int) := by omega
  have hZ8 : ((n : Int) + (Z : Int)).toNat = n + Z := by omega
  have hZ5 : ((Z : Int) == 0) = false := beq_eq_false_iff_ne.2 hZ3
  have cS := sign_at s n w Z hn hs hZ
  clear hZ
  go_enter Tryd.func21, Tryd.ntmps21
  by_cases hl : n + 1 < s.size
  · have hlI : (n : Int) + 1 < (s.size : Int) := by omega
    obtain ⟨E, hE⟩ : ∃ E, s[n + 1].toNat = E := ⟨_, rfl⟩
    have hE256 : E < 256 := by rw [← hE]; exact s[n + 1].toNat_lt
    go_wp2_with (first
      | (go_at_call_of 41 (Value.int IntKind.u8 (Q : Int)); refine (cL _ (by assumption)).mono ?_; rintro e w1 ⟨rfl, hb1⟩; have a0 := hb1.c0; have a1 := hb1.f0; have a2 := hb1.c1 (.int .i64 9); have a3 := hb1.f1 (.int .i64 9); have a4 := hb1.d0 (.int .i64 9) (.string (s.extract n (n + Z))); have a5 := hb1.d1 (.int .i64 9) (.string (s.extract n (n + Z))))
      | (go_at_call 44; refine (cD _ (by assumption)).mono ?_; rintro e w1 ⟨rfl, hb1⟩; have a0 := hb1.c0; have a1 := hb1.f0; have a2 := hb1.c1 (.int .i64 9); have a3 := hb1.f1 (.int .i64 9); have a4 := hb1.d0 (.int .i64 9) (.string (s.extract n (n + Z))); have a5 := hb1.d1 (.int .i64 9) (.string (s.extract n (n + Z))))
      | (go_at_call 47; refine (cS _ (by assumption)).mono ?_; rintro e w1 ⟨rfl, hb1⟩; have a0 := hb1.c0; have a1 := hb1.f0; have a2 := hb1.c1 (.int .i64 9); have a3 := hb1.f1 (.int .i64 9); have a4 := hb1.d0 (.int .i64 9) (.string (s.extract n (n + Z))); have a5 := hb1.d1 (.int .i64 9) (.string (s.extract n (n + Z))))
      | (go_at_call 39; refine (cI _ (by assumption)).mono ?_; rintro e w1 ⟨rfl, hb1⟩))
    try simp only [Exit.inBlock, Exit.then]
    refine bodyPost_ret (v := .tuple #[.agg #[.int .i64 9, .string (s.extract n (n + Z))], .int .i64 ((n : Int) + (Z : Int))]) ?_ rfl ⟨one_some (by omega), hb1.last _ _⟩
    rw [results_cell_tmp rfl]
    go_simp
  · have hlI : ¬ (n : Int) + 1 < (s.size : Int) := by omega
    go_wp2_with (first
      | (go_at_call_of 41 (Value.int IntKind.u8 (Q : Int)); refine (cL _ (by assumption)).mono ?_; rintro e w1 ⟨rfl, hb1⟩; have a0 := hb1.c0; have a1 := hb1.f0; have a2 := hb1.c1 (.int .i64 9); have a3 := hb1.f1 (.int .i64 9); have a4 := hb1.d0 (.int .i64 9) (.string (s.extract n (n + Z))); have a5 := hb1.d1 (.int .i64 9) (.string (s.extract n (n + Z))))
      | (go_at_call 44; refine (cD _ (by assumption)).mono ?_; rintro e w1 ⟨rfl, hb1⟩; have a0 := hb1.c0; have a1 := hb1.f0; have a2 := hb1.c1 (.int .i64 9); have a3 := hb1.f1 (.int .i64 9); have a4 := hb1.d0 (.int .i64 9) (.string (s.extract n (n + Z))); have a5 := hb1.d1 (.int .i64 9) (.string (s.extract n (n + Z))))
      | (go_at_call 47; refine (cS _ (by assumption)).mono ?_; rintro e w1 ⟨rfl, hb1⟩; have a0 := hb1.c0; have a1 := hb1.f0; have a2 := hb1.c1 (.int .i64 9); have a3 := hb1.f1 (.int .i64 9); have a4 := hb1.d0 (.int .i64 9) (.string (s.extract n (n + Z))); have a5 := hb1.d1 (.int .i64 9) (.string (s.extract n (n + Z))))
      | (go_at_call 39; refine (cI _ (by assumption)).mono ?_; rintro e w1 ⟨rfl, hb1⟩))
    try simp only [Exit.inBlock, Exit.then]
    refine bodyPost_ret (v := .tuple #[.agg #[.int .i64 9, .string (s.extract n (n + Z))], .int .i64 ((n : Int) + (Z : Int))]) ?_ rfl ⟨one_some (by omega), hb1.last _ _⟩
    rw [results_cell_tmp rfl]
    go_simp
end
end Go.Proofs.YtcanfpppllhogaaDoor.Lx
