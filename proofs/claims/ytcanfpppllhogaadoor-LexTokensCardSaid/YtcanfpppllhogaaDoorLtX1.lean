/- What lex and the reference answer, function by function (LexTokens, part X1). -/
import Derived.Test.YtcanfpppllhogaaDoorLtW
import Derived.Laws.ResultCell
import Derived.Laws.Concat
namespace Go.Proofs.YtcanfpppllhogaaDoor.Lx
open Go.RowKit Go.Proofs
open Go.Am (spanL)
noncomputable section

/-! ### the reference's token, leaf by leaf (gen_one.py) -/
set_option maxHeartbeats 4000000 in
set_option maxRecDepth 1000000 in
theorem rone_blank (s : ByteArray) (n : Nat) (w : World) (hn : n < s.size) (hs : s.size ≤ 4000) (hI : ririE s n = 0) (hl : n + 1 < s.size) (hQ : s[n].toNat = 95) (hE : s[n + 1].toNat = 58) (K : Nat) (hK : n + 2 + sp nameP s (n + 2) = K) (h2 : n + 2 < K) :
    Calls Tryd.prog 21 #[.string s, .int .i64 (n : Int)] w fun e w' => OnePost (some ((3, s.extract (n + 2) K), K)) e ∧ Below w.heap.size w w' := by
  have hnI : (n : Int) < (s.size : Int) := by omega
  have cI := iri_no s n w hn hs hI
  clear hI
  have h0a : (0 : Int) ≤ (n : Int) + 1 := by omega
  have h0b : (0 : Int) ≤ (n : Int) + 2 := by omega
  have hu0 := Und.start w
  have hKs : K ≤ s.size := by have := sp_le nameP s (n + 2); omega
  have hK1 : (n : Int) + 2 ≤ (K : Int) := by omega
  have hK2 : (K : Int) ≤ (s.size : Int) := by omega
  have hK3 : (n : Int) + 2 < (K : Int) := by omega
  have cW := words_ff s (n + 2) w K hs (by omega) hK
  clear hK
  go_enter Tryd.func21, Tryd.ntmps21
  have hlI : (n : Int) + 1 < (s.size : Int) := by omega
  go_wp2_with (first
    | (go_at_call 40; refine (cW _ _ (by omega) (by assumption)).mono ?_; rintro e w1 ⟨rfl, hb1⟩; have a0 := hb1.c0; have a1 := hb1.f0; have a2 := hb1.c1 (.int .i64 3); have a3 := hb1.f1 (.int .i64 3); have a4 := hb1.d0 (.int .i64 3) (.string (s.extract (n + 2) K)); have a5 := hb1.d1 (.int .i64 3) (.string (s.extract (n + 2) K)))
    | (go_at_call 39; refine (cI _ (by assumption)).mono ?_; rintro e w1 ⟨rfl, hb1⟩))
  try simp only [Exit.inBlock, Exit.then]
  refine bodyPost_ret (v := .tuple #[.agg #[.int .i64 3, .string (s.extract (n + 2) K)], .int .i64 (K : Int)]) ?_ rfl ⟨one_some (by omega), hb1.last _ _⟩
  rw [results_cell_tmp rfl]
  go_simp
set_option maxHeartbeats 4000000 in
set_option maxRecDepth 1000000 in
theorem rone_var63 (s : ByteArray) (n : Nat) (w : World) (hn : n < s.size) (hs : s.size ≤ 4000) (hI : ririE s n = 0) (hl : n + 1 < s.size) (hQ : s[n].toNat = 63) (E : Nat) (hE : s[n + 1].toNat = E) (hL : letterP E = true) (K : Nat) (hK : n + 1 + sp nameP s (n + 1) = K) :
    Calls Tryd.prog 21 #[.string s, .int .i64 (n : Int)] w fun e w' => OnePost (some ((4, s.extract (n + 1) K), K)) e ∧ Below w.heap.size w w' := by
  have hnI : (n : Int) < (s.size : Int) := by omega
  have cI := iri_no s n w hn hs hI
  clear hI
  have h0a : (0 : Int) ≤ (n : Int) + 1 := by omega
  have h0b : (0 : Int) ≤ (n : Int) + 2 := by omega
  have hu0 := Und.start w
  have hE256 : E < 256 := by rw [← hE]; exact s[n + 1].toNat_lt
  have hKs : K ≤ s.size := by have := sp_le nameP s (n + 1); omega
  have hK1 : (n : Int) + 1 ≤ (K : Int) := by omega
  have hK2 : (K : Int) ≤ (s.size : Int) := by omega
  have cW := words_ff s (n + 1) w K hs (by omega) hK
  have cL := letter_b E w true hE256 hL
  clear hK hL
  go_enter Tryd.func21, Tryd.ntmps21
  have hlI : (n : Int) + 1 < (s.size : Int) := by omega
  go_wp2_with (first
    | (go_at_call 40; refine (cW _ _ (by omega) (by assumption)).mono ?_; rintro e w1 ⟨rfl, hb1⟩; have a0 := hb1.c0; have a1 := hb1.f0; have a2 := hb1.c1 (.int .i64 4); have a3 := hb1.f1 (.int .i64 4); have a4 := hb1.d0 (.int .i64 4) (.string (s.extract (n + 1) K)); have a5 := hb1.d1 (.int .i64 4) (.string (s.extract (n + 1) K)))
    | (go_at_call_of 41 (Value.int IntKind.u8 (E : Int)); refine (cL _ (by assumption)).mono ?_; rintro e w1 ⟨rfl, hb1⟩; have a0 := hb1.c0; have a1 := hb1.f0; have a2 := hb1.c1 (.int .i64 4); have a3 := hb1.f1 (.int .i64 4); have a4 := hb1.d0 (.int .i64 4) (.string (s.extract (n + 1) K)); have a5 := hb1.d1 (.int .i64 4) (.string (s.extract (n + 1) K)))
    | (go_at_call 39; refine (cI _ (by assumption)).mono ?_; rintro e w1 ⟨rfl, hb1⟩))
  try simp only [Exit.inBlock, Exit.then]
  refine bodyPost_ret (v := .tuple #[.agg #[.int .i64 4, .string (s.extract (n + 1) K)], .int .i64 (K : Int)]) ?_ rfl ⟨one_some (by omega), hb1.last _ _⟩
  rw [results_cell_tmp rfl]
  go_simp
set_option maxHeartbeats 4000000 in
set_option maxRecDepth 1000000 in
theorem rone_var36 (s : ByteArray) (n : Nat) (w : World) (hn : n < s.size) (hs : s.size ≤ 4000) (hI : ririE s n = 0) (hl : n + 1 < s.size) (hQ : s[n].toNat = 36) (E : Nat) (hE : s[n + 1].toNat = E) (hL : letterP E = true) (K : Nat) (hK : n + 1 + sp nameP s (n + 1) = K) :
    Calls Tryd.prog 21 #[.string s, .int .i64 (n : Int)] w fun e w' => OnePost (some ((4, s.extract (n + 1) K), K)) e ∧ Below w.heap.size w w' := by
  have hnI : (n : Int) < (s.size : Int) := by omega
  have cI := iri_no s n w hn hs hI
  clear hI
  have h0a : (0 : Int) ≤ (n : Int) + 1 := by omega
  have h0b : (0 : Int) ≤ (n : Int) + 2 := by omega
  have hu0 := Und.start w
  have hE256 : E < 256 := by rw [← hE]; exact s[n + 1].toNat_lt
  have hKs : K ≤ s.size := by have := sp_le nameP s (n + 1); omega
  have hK1 : (n : Int) + 1 ≤ (K : Int) := by omega
  have hK2 : (K : Int) ≤ (s.size : Int) := by omega
  have cW := words_ff s (n + 1) w K hs (by omega) hK
  have cL := letter_b E w true hE256 hL
  clear hK hL
  go_enter Tryd.func21, Tryd.ntmps21
  have hlI : (n : Int) + 1 < (s.size : Int) := by omega
  go_wp2_with (first
    | (go_at_call 40; refine (cW _ _ (by omega) (by assumption)).mono ?_; rintro e w1 ⟨rfl, hb1⟩; have a0 := hb1.c0; have a1 := hb1.f0; have a2 := hb1.c1 (.int .i64 4); have a3 := hb1.f1 (.int .i64 4); have a4 := hb1.d0 (.int .i64 4) (.string (s.extract (n + 1) K)); have a5 := hb1.d1 (.int .i64 4) (.string (s.extract (n + 1) K)))
    | (go_at_call_of 41 (Value.int IntKind.u8 (E : Int)); refine (cL _ (by assumption)).mono ?_; rintro e w1 ⟨rfl, hb1⟩; have a0 := hb1.c0; have a1 := hb1.f0; have a2 := hb1.c1 (.int .i64 4); have a3 := hb1.f1 (.int .i64 4); have a4 := hb1.d0 (.int .i64 4) (.string (s.extract (n + 1) K)); have a5 := hb1.d1 (.int .i64 4) (.string (s.extract (n + 1) K)))
    | (go_at_call 39; refine (cI _ (by assumption)).mono ?_; rintro e w1 ⟨rfl, hb1⟩))
  try simp only [Exit.inBlock, Exit.then]
  refine bodyPost_ret (v := .tuple #[.agg #[.int .i64 4, .string (s.extract (n + 1) K)], .int .i64 (K : Int)]) ?_ rfl ⟨one_some (by omega), hb1.last _ _⟩
  rw [results_cell_tmp rfl]
  go_simp
set_option maxHeartbeats 4000000 in
set_option maxRecDepth 1000000 in
theorem rone_text34 (s : ByteArray) (n : Nat) (w : World) (hn : n < s.size) (hs : s.size ≤ 4000) (hI : ririE s n = 0) (hQ : s[n].toNat = 34) (b : List UInt8) (K : Nat) (hT : txt s 34 s.size (n + 1) [] = some (b, K)) :
    Calls Tryd.prog 21 #[.string s, .int .i64 (n : Int)] w fun e w' => OnePost (some ((5, ⟨b.toArray⟩), K)) e ∧ Below w.heap.size w w' := by
  have hnI : (n : Int) < (s.size : Int) := by omega
  have cI := iri_no s n w hn hs hI
  clear hI
  have h0a : (0 : Int) ≤ (n : Int) + 1 := by omega
  have h0b : (0 : Int) ≤ (n : Int) + 2 := by omega
  have hu0 := Und.start w
  have cT := text_some s n w hn hs (by rw [atB_in hn, hQ]; exact hT)
  clear hT
  go_enter Tryd.func21, Tryd.ntmps21
  by_cases hl : n + 1 < s.size
  · have hlI : (n : Int) + 1 < (s.size : Int) := by omega
    obtain ⟨E, hE⟩ : ∃ E, s[n + 1].toNat = E := ⟨_, rfl⟩
    have hE256 : E < 256 := by rw [← hE]; exact s[n + 1].toNat_lt
    go_wp2_with (first
      | (go_at_call 42; refine (cT _ (by assumption)).mono ?_; rintro e w1 ⟨rfl, hb1⟩; have a0 := hb1.c0; have a1 := hb1.f0; have a2 := hb1.c1 (.int .i64 5); have a3 := hb1.f1 (.int .i64 5); have a4 := hb1.d0 (.int .i64 5) (.string (⟨b.toArray⟩)); have a5 := hb1.d1 (.int .i64 5) (.string (⟨b.toArray⟩)))
      | (go_at_call 39; refine (cI _ (by assumption)).mono ?_; rintro e w1 ⟨rfl, hb1⟩))
    try simp only [Exit.inBlock, Exit.then]
    refine bodyPost_ret (v := .tuple #[.agg #[.int .i64 5, .string (⟨b.toArray⟩)], .int .i64 (K : Int)]) ?_ rfl ⟨one_some (by omega), hb1.last _ _⟩
    rw [results_cell_tmp rfl]
    go_simp
  · have hlI : ¬ (n : Int) + 1 < (s.size : Int) := by omega
    go_wp2_with (first
      | (go_at_call 42; refine (cT _ (by assumption)).mono ?_; rintro e w1 ⟨rfl, hb1⟩; have a0 := hb1.c0; have a1 := hb1.f0; have a2 := hb1.c1 (.int .i64 5); have a3 := hb1.f1 (.int .i64 5); have a4 := hb1.d0 (.int .i64 5) (.string (⟨b.toArray⟩)); have a5 := hb1.d1 (.int .i64 5) (.string (⟨b.toArray⟩)))
      | (go_at_call 39; refine (cI _ (by assumption)).mono ?_; rintro e w1 ⟨rfl, hb1⟩))
    try simp only [Exit.inBlock, Exit.then]
    refine bodyPost_ret (v := .tuple #[.agg #[.int .i64 5, .string (⟨b.toArray⟩)], .int .i64 (K : Int)]) ?_ rfl ⟨one_some (by omega), hb1.last _ _⟩
    rw [results_cell_tmp rfl]
    go_simp
set_option maxHeartbeats 4000000 in
set_option maxRecDepth 1000000 in
theorem rone_textN34 (s : ByteArray) (n : Nat) (w : World) (hn : n < s.size) (hs : s.size ≤ 4000) (hI : ririE s n = 0) (hQ : s[n].toNat = 34) (hT : txt s 34 s.size (n + 1) [] = none) :
    Calls Tryd.prog 21 #[.string s, .int .i64 (n : Int)] w fun e w' => OnePost (none) e ∧ Below w.heap.size w w' := by
  have hnI : (n : Int) < (s.size : Int) := by omega
  have cI := iri_no s n w hn hs hI
  clear hI
  have h0a : (0 : Int) ≤ (n : Int) + 1 := by omega
  have h0b : (0 : Int) ≤ (n : Int) + 2 := by omega
  have hu0 := Und.start w
  have cT := text_none s n w hn hs (by rw [atB_in hn, hQ]; exact hT)
  clear hT
  go_enter Tryd.func21, Tryd.ntmps21
  by_cases hl : n + 1 < s.size
  · have hlI : (n : Int) + 1 < (s.size : Int) := by omega
    obtain ⟨E, hE⟩ : ∃ E, s[n + 1].toNat = E := ⟨_, rfl⟩
    have hE256 : E < 256 := by rw [← hE]; exact s[n + 1].toNat_lt
    go_wp2_with (first
      | (go_at_call 42; refine (cT _ (by assumption)).mono ?_; rintro e w1 ⟨rfl, hb1⟩; have a0 := hb1.c0; have a1 := hb1.f0; have a2 := hb1.c1 (.int .i64 5); have a3 := hb1.f1 (.int .i64 5); have a4 := hb1.d0 (.int .i64 5) (.string (⟨#[]⟩)); have a5 := hb1.d1 (.int .i64 5) (.string (⟨#[]⟩)))
      | (go_at_call 39; refine (cI _ (by assumption)).mono ?_; rintro e w1 ⟨rfl, hb1⟩))
    try simp only [Exit.inBlock, Exit.then]
    refine bodyPost_ret (v := .tuple #[.agg #[.int .i64 5, .string ⟨#[]⟩], .int .i64 0]) ?_ rfl ⟨⟨_, _, rfl⟩, hb1.last _ _⟩
    rw [results_cell_tmp rfl]
    go_simp
  · have hlI : ¬ (n : Int) + 1 < (s.size : Int) := by omega
    go_wp2_with (first
      | (go_at_call 42; refine (cT _ (by assumption)).mono ?_; rintro e w1 ⟨rfl, hb1⟩; have a0 := hb1.c0; have a1 := hb1.f0; have a2 := hb1.c1 (.int .i64 5); have a3 := hb1.f1 (.int .i64 5); have a4 := hb1.d0 (.int .i64 5) (.string (⟨#[]⟩)); have a5 := hb1.d1 (.int .i64 5) (.string (⟨#[]⟩)))
      | (go_at_call 39; refine (cI _ (by assumption)).mono ?_; rintro e w1 ⟨rfl, hb1⟩))
    try simp only [Exit.inBlock, Exit.then]
    refine bodyPost_ret (v := .tuple #[.agg #[.int .i64 5, .string ⟨#[]⟩], .int .i64 0]) ?_ rfl ⟨⟨_, _, rfl⟩, hb1.last _ _⟩
    rw [results_cell_tmp rfl]
    go_simp
set_option maxHeartbeats 4000000 in
set_option maxRecDepth 1000000 in
theorem rone_text39 (s : ByteArray) (n : Nat) (w : World) (hn : n < s.size) (hs : s.size ≤ 4000) (hI : ririE s n = 0) (hQ : s[n].toNat = 39) (b : List UInt8) (K : Nat) (hT : txt s 39 s.size (n + 1) [] = some (b, K)) :
    Calls Tryd.prog 21 #[.string s, .int .i64 (n : Int)] w fun e w' => OnePost (some ((5, ⟨b.toArray⟩), K)) e ∧ Below w.heap.size w w' := by
  have hnI : (n : Int) < (s.size : Int) := by omega
  have cI := iri_no s n w hn hs hI
  clear hI
  have h0a : (0 : Int) ≤ (n : Int) + 1 := by omega
  have h0b : (0 : Int) ≤ (n : Int) + 2 := by omega
  have hu0 := Und.start w
  have cT := text_some s n w hn hs (by rw [atB_in hn, hQ]; exact hT)
  clear hT
  go_enter Tryd.func21, Tryd.ntmps21
  by_cases hl : n + 1 < s.size
  · have hlI : (n : Int) + 1 < (s.size : Int) := by omega
    obtain ⟨E, hE⟩ : ∃ E, s[n + 1].toNat = E := ⟨_, rfl⟩
    have hE256 : E < 256 := by rw [← hE]; exact s[n + 1].toNat_lt
    go_wp2_with (first
      | (go_at_call 42; refine (cT _ (by assumption)).mono ?_; rintro e w1 ⟨rfl, hb1⟩; have a0 := hb1.c0; have a1 := hb1.f0; have a2 := hb1.c1 (.int .i64 5); have a3 := hb1.f1 (.int .i64 5); have a4 := hb1.d0 (.int .i64 5) (.string (⟨b.toArray⟩)); have a5 := hb1.d1 (.int .i64 5) (.string (⟨b.toArray⟩)))
      | (go_at_call 39; refine (cI _ (by assumption)).mono ?_; rintro e w1 ⟨rfl, hb1⟩))
    try simp only [Exit.inBlock, Exit.then]
    refine bodyPost_ret (v := .tuple #[.agg #[.int .i64 5, .string (⟨b.toArray⟩)], .int .i64 (K : Int)]) ?_ rfl ⟨one_some (by omega), hb1.last _ _⟩
    rw [results_cell_tmp rfl]
    go_simp
  · have hlI : ¬ (n : Int) + 1 < (s.size : Int) := by omega
    go_wp2_with (first
      | (go_at_call 42; refine (cT _ (by assumption)).mono ?_; rintro e w1 ⟨rfl, hb1⟩; have a0 := hb1.c0; have a1 := hb1.f0; have a2 := hb1.c1 (.int .i64 5); have a3 := hb1.f1 (.int .i64 5); have a4 := hb1.d0 (.int .i64 5) (.string (⟨b.toArray⟩)); have a5 := hb1.d1 (.int .i64 5) (.string (⟨b.toArray⟩)))
      | (go_at_call 39; refine (cI _ (by assumption)).mono ?_; rintro e w1 ⟨rfl, hb1⟩))
    try simp only [Exit.inBlock, Exit.then]
    refine bodyPost_ret (v := .tuple #[.agg #[.int .i64 5, .string (⟨b.toArray⟩)], .int .i64 (K : Int)]) ?_ rfl ⟨one_some (by omega), hb1.last _ _⟩
    rw [results_cell_tmp rfl]
    go_simp
set_option maxHeartbeats 4000000 in
set_option maxRecDepth 1000000 in
theorem rone_textN39 (s : ByteArray) (n : Nat) (w : World) (hn : n < s.size) (hs : s.size ≤ 4000) (hI : ririE s n = 0) (hQ : s[n].toNat = 39) (hT : txt s 39 s.size (n + 1) [] = none) :
    Calls Tryd.prog 21 #[.string s, .int .i64 (n : Int)] w fun e w' => OnePost (none) e ∧ Below w.heap.size w w' := by
  have hnI : (n : Int) < (s.size : Int) := by omega
  have cI := iri_no s n w hn hs hI
  clear hI
  have h0a : (0 : Int) ≤ (n : Int) + 1 := by omega
  have h0b : (0 : Int) ≤ (n : Int) + 2 := by omega
  have hu0 := Und.start w
  have cT := text_none s n w hn hs (by rw [atB_in hn, hQ]; exact hT)
  clear hT
  go_enter Tryd.func21, Tryd.ntmps21
  by_cases hl : n + 1 < s.size
  · have hlI : (n : Int) + 1 < (s.size : Int) := by omega
    obtain ⟨E, hE⟩ : ∃ E, s[n + 1].toNat = E := ⟨_, rfl⟩
    have hE256 : E < 256 := by rw [← hE]; exact s[n + 1].toNat_lt
    go_wp2_with (first
      | (go_at_call 42; refine (cT _ (by assumption)).mono ?_; rintro e w1 ⟨rfl, hb1⟩; have a0 := hb1.c0; have a1 := hb1.f0; have a2 := hb1.c1 (.int .i64 5); have a3 := hb1.f1 (.int .i64 5); have a4 := hb1.d0 (.int .i64 5) (.string (⟨#[]⟩)); have a5 := hb1.d1 (.int .i64 5) (.string (⟨#[]⟩)))
      | (go_at_call 39; refine (cI _ (by assumption)).mono ?_; rintro e w1 ⟨rfl, hb1⟩))
    try simp only [Exit.inBlock, Exit.then]
    refine bodyPost_ret (v := .tuple #[.agg #[.int .i64 5, .string ⟨#[]⟩], .int .i64 0]) ?_ rfl ⟨⟨_, _, rfl⟩, hb1.last _ _⟩
    rw [results_cell_tmp rfl]
    go_simp
  · have hlI : ¬ (n : Int) + 1 < (s.size : Int) := by omega
    go_wp2_with (first
      | (go_at_call 42; refine (cT _ (by assumption)).mono ?_; rintro e w1 ⟨rfl, hb1⟩; have a0 := hb1.c0; have a1 := hb1.f0; have a2 := hb1.c1 (.int .i64 5); have a3 := hb1.f1 (.int .i64 5); have a4 := hb1.d0 (.int .i64 5) (.string (⟨#[]⟩)); have a5 := hb1.d1 (.int .i64 5) (.string (⟨#[]⟩)))
      | (go_at_call 39; refine (cI _ (by assumption)).mono ?_; rintro e w1 ⟨rfl, hb1⟩))
    try simp only [Exit.inBlock, Exit.then]
    refine bodyPost_ret (v := .tuple #[.agg #[.int .i64 5, .string ⟨#[]⟩], .int .i64 0]) ?_ rfl ⟨⟨_, _, rfl⟩, hb1.last _ _⟩
    rw [results_cell_tmp rfl]
    go_simp
set_option maxHeartbeats 4000000 in
set_option maxRecDepth 1000000 in
theorem rone_lang (s : ByteArray) (n : Nat) (w : World) (hn : n < s.size) (hs : s.size ≤ 4000) (hI : ririE s n = 0) (hl : n + 1 < s.size) (hQ : s[n].toNat = 64) (E : Nat) (hE : s[n + 1].toNat = E) (hE1 : 97 ≤ E) (hE2 : E ≤ 122) (K : Nat) (hK : n + 1 + sp langP s (n + 1) = K) :
    Calls Tryd.prog 21 #[.string s, .int .i64 (n : Int)] w fun e w' => OnePost (some ((6, s.extract (n + 1) K), K)) e ∧ Below w.heap.size w w' := by
  have hnI : (n : Int) < (s.size : Int) := by omega
  have cI := iri_no s n w hn hs hI
  clear hI
  have h0a : (0 : Int) ≤ (n : Int) + 1 := by omega
  have h0b : (0 : Int) ≤ (n : Int) + 2 := by omega
  have hu0 := Und.start w
  have i1 : (97 : Int) ≤ (E : Int) := by omega
  have i2 : (E : Int) ≤ 122 := by omega
  have hKs : K ≤ s.size := by have := sp_le langP s (n + 1); omega
  have hK1 : (n : Int) + 1 ≤ (K : Int) := by omega
  have hK2 : (K : Int) ≤ (s.size : Int) := by omega
  have cG := lang_at s (n + 1) w K hs (by omega) hK
  clear hK
  go_enter Tryd.func21, Tryd.ntmps21
  have hlI : (n : Int) + 1 < (s.size : Int) := by omega
  go_wp2_with (first
    | (go_at_call 43; refine (cG _ _ (by omega) (by assumption)).mono ?_; rintro e w1 ⟨rfl, hb1⟩; have a0 := hb1.c0; have a1 := hb1.f0; have a2 := hb1.c1 (.int .i64 6); have a3 := hb1.f1 (.int .i64 6); have a4 := hb1.d0 (.int .i64 6) (.string (s.extract (n + 1) K)); have a5 := hb1.d1 (.int .i64 6) (.string (s.extract (n + 1) K)))
    | (go_at_call 39; refine (cI _ (by assumption)).mono ?_; rintro e w1 ⟨rfl, hb1⟩))
  try simp only [Exit.inBlock, Exit.then]
  refine bodyPost_ret (v := .tuple #[.agg #[.int .i64 6, .string (s.extract (n + 1) K)], .int .i64 (K : Int)]) ?_ rfl ⟨one_some (by omega), hb1.last _ _⟩
  rw [results_cell_tmp rfl]
  go_simp
set_option maxHeartbeats 4000000 in
set_option maxRecDepth 1000000 in
theorem rone_num (s : ByteArray) (n : Nat) (w : World) (hn : n < s.size) (hs : s.size ≤ 4000) (hI : ririE s n = 0) (hD : digitP s[n].toNat = true) (K : Nat) (hK : rnumE s n = K) :
    Calls Tryd.prog 21 #[.string s, .int .i64 (n : Int)] w fun e w' => OnePost (some ((7, s.extract n K), K)) e ∧ Below w.heap.size w w' := by
  have hnI : (n : Int) < (s.size : Int) := by omega
  have cI := iri_no s n w hn hs hI
  clear hI
  have h0a : (0 : Int) ≤ (n : Int) + 1 := by omega
  have h0b : (0 : Int) ≤ (n : Int) + 2 := by omega
  have hu0 := Und.start w
  obtain ⟨Q, hQ⟩ : ∃ Q, s[n].toNat = Q := ⟨_, rfl⟩
  have hQ256 : Q < 256 := by rw [← hQ]; exact s[n].toNat_lt
  rw [hQ] at hD
  have hQr := digit_in hD
  have nQ95 : ¬ (Q : Int) = 95 := by omega
  have bQ95 : ((Q : Int) == 95) = false := beq_eq_false_iff_ne.2 nQ95
  have nQ63 : ¬ (Q : Int) = 63 := by omega
  have bQ63 : ((Q : Int) == 63) = false := beq_eq_false_iff_ne.2 nQ63
  have nQ36 : ¬ (Q : Int) = 36 := by omega
  have bQ36 : ((Q : Int) == 36) = false := beq_eq_false_iff_ne.2 nQ36
  have nQ34 : ¬ (Q : Int) = 34 := by omega
  have bQ34 : ((Q : Int) == 34) = false := beq_eq_false_iff_ne.2 nQ34
  have nQ39 : ¬ (Q : Int) = 39 := by omega
  have bQ39 : ((Q : Int) == 39) = false := beq_eq_false_iff_ne.2 nQ39
  have nQ64 : ¬ (Q : Int) = 64 := by omega
  have bQ64 : ((Q : Int) == 64) = false := beq_eq_false_iff_ne.2 nQ64
  have hKs := rnum_le hK (by omega)
  have hK1 : (n : Int) ≤ (K : Int) := by omega
  have hK2 : (K : Int) ≤ (s.size : Int) := by omega
  have cD := digit_b Q w true hQ256 hD
  have cN := num_at s n w K hs (by omega) hK
  clear hK hD hQr
  go_enter Tryd.func21, Tryd.ntmps21
  by_cases hl : n + 1 < s.size
  · have hlI : (n : Int) + 1 < (s.size : Int) := by omega
    obtain ⟨E, hE⟩ : ∃ E, s[n + 1].toNat = E := ⟨_, rfl⟩
    have hE256 : E < 256 := by rw [← hE]; exact s[n + 1].toNat_lt
    go_wp2_with (first
      | (go_at_call 45; refine (cN _ (by assumption)).mono ?_; rintro e w1 ⟨rfl, hb1⟩; have a0 := hb1.c0; have a1 := hb1.f0; have a2 := hb1.c1 (.int .i64 7); have a3 := hb1.f1 (.int .i64 7); have a4 := hb1.d0 (.int .i64 7) (.string (s.extract n K)); have a5 := hb1.d1 (.int .i64 7) (.string (s.extract n K)))
      | (go_at_call 44; refine (cD _ (by assumption)).mono ?_; rintro e w1 ⟨rfl, hb1⟩; have a0 := hb1.c0; have a1 := hb1.f0; have a2 := hb1.c1 (.int .i64 7); have a3 := hb1.f1 (.int .i64 7); have a4 := hb1.d0 (.int .i64 7) (.string (s.extract n K)); have a5 := hb1.d1 (.int .i64 7) (.string (s.extract n K)))
      | (go_at_call 39; refine (cI _ (by assumption)).mono ?_; rintro e w1 ⟨rfl, hb1⟩))
    try simp only [Exit.inBlock, Exit.then]
    refine bodyPost_ret (v := .tuple #[.agg #[.int .i64 7, .string (s.extract n K)], .int .i64 (K : Int)]) ?_ rfl ⟨one_some (by omega), hb1.last _ _⟩
    rw [results_cell_tmp rfl]
    go_simp
  · have hlI : ¬ (n : Int) + 1 < (s.size : Int) := by omega
    go_wp2_with (first
      | (go_at_call 45; refine (cN _ (by assumption)).mono ?_; rintro e w1 ⟨rfl, hb1⟩; have a0 := hb1.c0; have a1 := hb1.f0; have a2 := hb1.c1 (.int .i64 7); have a3 := hb1.f1 (.int .i64 7); have a4 := hb1.d0 (.int .i64 7) (.string (s.extract n K)); have a5 := hb1.d1 (.int .i64 7) (.string (s.extract n K)))
      | (go_at_call 44; refine (cD _ (by assumption)).mono ?_; rintro e w1 ⟨rfl, hb1⟩; have a0 := hb1.c0; have a1 := hb1.f0; have a2 := hb1.c1 (.int .i64 7); have a3 := hb1.f1 (.int .i64 7); have a4 := hb1.d0 (.int .i64 7) (.string (s.extract n K)); have a5 := hb1.d1 (.int .i64 7) (.string (s.extract n K)))
      | (go_at_call 39; refine (cI _ (by assumption)).mono ?_; rintro e w1 ⟨rfl, hb1⟩))
    try simp only [Exit.inBlock, Exit.then]
    refine bodyPost_ret (v := .tuple #[.agg #[.int .i64 7, .string (s.extract n K)], .int .i64 (K : Int)]) ?_ rfl ⟨one_some (by omega), hb1.last _ _⟩
    rw [results_cell_tmp rfl]
    go_simp
set_option maxHeartbeats 4000000 in
set_option maxRecDepth 1000000 in
theorem rone_name58 (s : ByteArray) (n : Nat) (w : World) (hn : n < s.size) (hs : s.size ≤ 4000) (hI : ririE s n = 0) (hQ : s[n].toNat = 58) (K : Nat) (hK : rnameE s n = K) (h0 : 0 < K) (hK1 : n ≤ K) (hKs : K ≤ s.size) :
    Calls Tryd.prog 21 #[.string s, .int .i64 (n : Int)] w fun e w' => OnePost (some ((2, s.extract n K), K)) e ∧ Below w.heap.size w w' := by
  have hnI : (n : Int) < (s.size : Int) := by omega
  have cI := iri_no s n w hn hs hI
  clear hI
  have h0a : (0 : Int) ≤ (n : Int) + 1 := by omega
  have h0b : (0 : Int) ≤ (n : Int) + 2 := by omega
  have hu0 := Und.start w
  have hK0 : (0 : Int) < (K : Int) := by omega
  have hK3 : (n : Int) ≤ (K : Int) := by omega
  have hK2 : (K : Int) ≤ (s.size : Int) := by omega
  have cD : ∀ W, Und w W → Calls Tryd.prog 44 #[.int .u8 58] W fun e w' => e = .returned (.bool false) ∧ Und w w' := digit_b 58 w false (by decide) rfl
  have cL : ∀ W, Und w W → Calls Tryd.prog 41 #[.int .u8 58] W fun e w' => e = .returned (.bool false) ∧ Und w w' := letter_b 58 w false (by decide) rfl
  have cN := name_at s n w K hn hs hK
  clear hK
  go_enter Tryd.func21, Tryd.ntmps21
  by_cases hl : n + 1 < s.size
  · have hlI : (n : Int) + 1 < (s.size : Int) := by omega
    obtain ⟨E, hE⟩ : ∃ E, s[n + 1].toNat = E := ⟨_, rfl⟩
    have hE256 : E < 256 := by rw [← hE]; exact s[n + 1].toNat_lt
    go_wp2_with (first
      | (go_at_call 46; refine (cN _ (by assumption)).mono ?_; rintro e w1 ⟨rfl, hb1⟩; have a0 := hb1.c0; have a1 := hb1.f0; have a2 := hb1.c1 (.int .i64 2); have a3 := hb1.f1 (.int .i64 2); have a4 := hb1.d0 (.int .i64 2) (.string (s.extract n K)); have a5 := hb1.d1 (.int .i64 2) (.string (s.extract n K)))
      | (go_at_call 41; refine (cL _ (by assumption)).mono ?_; rintro e w1 ⟨rfl, hb1⟩; have a0 := hb1.c0; have a1 := hb1.f0; have a2 := hb1.c1 (.int .i64 2); have a3 := hb1.f1 (.int .i64 2); have a4 := hb1.d0 (.int .i64 2) (.string (s.extract n K)); have a5 := hb1.d1 (.int .i64 2) (.string (s.extract n K)))
      | (go_at_call 44; refine (cD _ (by assumption)).mono ?_; rintro e w1 ⟨rfl, hb1⟩; have a0 := hb1.c0; have a1 := hb1.f0; have a2 := hb1.c1 (.int .i64 2); have a3 := hb1.f1 (.int .i64 2); have a4 := hb1.d0 (.int .i64 2) (.string (s.extract n K)); have a5 := hb1.d1 (.int .i64 2) (.string (s.extract n K)))
      | (go_at_call 39; refine (cI _ (by assumption)).mono ?_; rintro e w1 ⟨rfl, hb1⟩))
    try simp only [Exit.inBlock, Exit.then]
    refine bodyPost_ret (v := .tuple #[.agg #[.int .i64 2, .string (s.extract n K)], .int .i64 (K : Int)]) ?_ rfl ⟨one_some (by omega), hb1.last _ _⟩
    rw [results_cell_tmp rfl]
    go_simp
  · have hlI : ¬ (n : Int) + 1 < (s.size : Int) := by omega
    go_wp2_with (first
      | (go_at_call 46; refine (cN _ (by assumption)).mono ?_; rintro e w1 ⟨rfl, hb1⟩; have a0 := hb1.c0; have a1 := hb1.f0; have a2 := hb1.c1 (.int .i64 2); have a3 := hb1.f1 (.int .i64 2); have a4 := hb1.d0 (.int .i64 2) (.string (s.extract n K)); have a5 := hb1.d1 (.int .i64 2) (.string (s.extract n K)))
      | (go_at_call 41; refine (cL _ (by assumption)).mono ?_; rintro e w1 ⟨rfl, hb1⟩; have a0 := hb1.c0; have a1 := hb1.f0; have a2 := hb1.c1 (.int .i64 2); have a3 := hb1.f1 (.int .i64 2); have a4 := hb1.d0 (.int .i64 2) (.string (s.extract n K)); have a5 := hb1.d1 (.int .i64 2) (.string (s.extract n K)))
      | (go_at_call 44; refine (cD _ (by assumption)).mono ?_; rintro e w1 ⟨rfl, hb1⟩; have a0 := hb1.c0; have a1 := hb1.f0; have a2 := hb1.c1 (.int .i64 2); have a3 := hb1.f1 (.int .i64 2); have a4 := hb1.d0 (.int .i64 2) (.string (s.extract n K)); have a5 := hb1.d1 (.int .i64 2) (.string (s.extract n K)))
      | (go_at_call 39; refine (cI _ (by assumption)).mono ?_; rintro e w1 ⟨rfl, hb1⟩))
    try simp only [Exit.inBlock, Exit.then]
    refine bodyPost_ret (v := .tuple #[.agg #[.int .i64 2, .string (s.extract n K)], .int .i64 (K : Int)]) ?_ rfl ⟨one_some (by omega), hb1.last _ _⟩
    rw [results_cell_tmp rfl]
    go_simp
set_option maxHeartbeats 4000000 in
set_option maxRecDepth 1000000 in
theorem rone_name (s : ByteArray) (n : Nat) (w : World) (hn : n < s.size) (hs : s.size ≤ 4000) (hI : ririE s n = 0) (hL : letterP s[n].toNat = true) (K : Nat) (hK : rnameE s n = K) (h0 : 0 < K) (hK1 : n ≤ K) (hKs : K ≤ s.size) :
    Calls Tryd.prog 21 #[.string s, .int .i64 (n : Int)] w fun e w' => OnePost (some ((2, s.extract n K), K)) e ∧ Below w.heap.size w w' := by
  have hnI : (n : Int) < (s.size : Int) := by omega
  have cI := iri_no s n w hn hs hI
  clear hI
  have h0a : (0 : Int) ≤ (n : Int) + 1 := by omega
  have h0b : (0 : Int) ≤ (n : Int) + 2 := by omega
  have hu0 := Und.start w
  obtain ⟨Q, hQ⟩ : ∃ Q, s[n].toNat = Q := ⟨_, rfl⟩
  have hQ256 : Q < 256 := by rw [← hQ]; exact s[n].toNat_lt
  rw [hQ] at hL
  have hQr := letter_in hL
  have nQ95 : ¬ (Q : Int) = 95 := by omega
  have bQ95 : ((Q : Int) == 95) = false := beq_eq_false_iff_ne.2 nQ95
  have nQ63 : ¬ (Q : Int) = 63 := by omega
  have bQ63 : ((Q : Int) == 63) = false := beq_eq_false_iff_ne.2 nQ63
  have nQ36 : ¬ (Q : Int) = 36 := by omega
  have bQ36 : ((Q : Int) == 36) = false := beq_eq_false_iff_ne.2 nQ36
  have nQ34 : ¬ (Q : Int) = 34 := by omega
  have bQ34 : ((Q : Int) == 34) = false := beq_eq_false_iff_ne.2 nQ34
  have nQ39 : ¬ (Q : Int) = 39 := by omega
  have bQ39 : ((Q : Int) == 39) = false := beq_eq_false_iff_ne.2 nQ39
  have nQ64 : ¬ (Q : Int) = 64 := by omega
  have bQ64 : ((Q : Int) == 64) = false := beq_eq_false_iff_ne.2 nQ64
  have nQ58 : ¬ (Q : Int) = 58 := by omega
  have bQ58 : ((Q : Int) == 58) = false := beq_eq_false_iff_ne.2 nQ58
  have hK0 : (0 : Int) < (K : Int) := by omega
  have hK3 : (n : Int) ≤ (K : Int) := by omega
  have hK2 : (K : Int) ≤ (s.size : Int) := by omega
  have cD := digit_b Q w false hQ256 (letter_digit hL)
  have cL := letter_b Q w true hQ256 hL
  have cN := name_at s n w K hn hs hK
  clear hK hL hQr
  go_enter Tryd.func21, Tryd.ntmps21
  by_cases hl : n + 1 < s.size
  · have hlI : (n : Int) + 1 < (s.size : Int) := by omega
    obtain ⟨E, hE⟩ : ∃ E, s[n + 1].toNat = E := ⟨_, rfl⟩
    have hE256 : E < 256 := by rw [← hE]; exact s[n + 1].toNat_lt
    go_wp2_with (first
      | (go_at_call 46; refine (cN _ (by assumption)).mono ?_; rintro e w1 ⟨rfl, hb1⟩; have a0 := hb1.c0; have a1 := hb1.f0; have a2 := hb1.c1 (.int .i64 2); have a3 := hb1.f1 (.int .i64 2); have a4 := hb1.d0 (.int .i64 2) (.string (s.extract n K)); have a5 := hb1.d1 (.int .i64 2) (.string (s.extract n K)))
      | (go_at_call 41; refine (cL _ (by assumption)).mono ?_; rintro e w1 ⟨rfl, hb1⟩; have a0 := hb1.c0; have a1 := hb1.f0; have a2 := hb1.c1 (.int .i64 2); have a3 := hb1.f1 (.int .i64 2); have a4 := hb1.d0 (.int .i64 2) (.string (s.extract n K)); have a5 := hb1.d1 (.int .i64 2) (.string (s.extract n K)))
      | (go_at_call 44; refine (cD _ (by assumption)).mono ?_; rintro e w1 ⟨rfl, hb1⟩; have a0 := hb1.c0; have a1 := hb1.f0; have a2 := hb1.c1 (.int .i64 2); have a3 := hb1.f1 (.int .i64 2); have a4 := hb1.d0 (.int .i64 2) (.string (s.extract n K)); have a5 := hb1.d1 (.int .i64 2) (.string (s.extract n K)))
      | (go_at_call 39; refine (cI _ (by assumption)).mono ?_; rintro e w1 ⟨rfl, hb1⟩))
    try simp only [Exit.inBlock, Exit.then]
    refine bodyPost_ret (v := .tuple #[.agg #[.int .i64 2, .string (s.extract n K)], .int .i64 (K : Int)]) ?_ rfl ⟨one_some (by omega), hb1.last _ _⟩
    rw [results_cell_tmp rfl]
    go_simp
  · have hlI : ¬ (n : Int) + 1 < (s.size : Int) := by omega
    go_wp2_with (first
      | (go_at_call 46; refine (cN _ (by assumption)).mono ?_; rintro e w1 ⟨rfl, hb1⟩; have a0 := hb1.c0; have a1 := hb1.f0; have a2 := hb1.c1 (.int .i64 2); have a3 := hb1.f1 (.int .i64 2); have a4 := hb1.d0 (.int .i64 2) (.string (s.extract n K)); have a5 := hb1.d1 (.int .i64 2) (.string (s.extract n K)))
      | (go_at_call 41; refine (cL _ (by assumption)).mono ?_; rintro e w1 ⟨rfl, hb1⟩; have a0 := hb1.c0; have a1 := hb1.f0; have a2 := hb1.c1 (.int .i64 2); have a3 := hb1.f1 (.int .i64 2); have a4 := hb1.d0 (.int .i64 2) (.string (s.extract n K)); have a5 := hb1.d1 (.int .i64 2) (.string (s.extract n K)))
      | (go_at_call 44; refine (cD _ (by assumption)).mono ?_; rintro e w1 ⟨rfl, hb1⟩; have a0 := hb1.c0; have a1 := hb1.f0; have a2 := hb1.c1 (.int .i64 2); have a3 := hb1.f1 (.int .i64 2); have a4 := hb1.d0 (.int .i64 2) (.string (s.extract n K)); have a5 := hb1.d1 (.int .i64 2) (.string (s.extract n K)))
      | (go_at_call 39; refine (cI _ (by assumption)).mono ?_; rintro e w1 ⟨rfl, hb1⟩))
    try simp only [Exit.inBlock, Exit.then]
    refine bodyPost_ret (v := .tuple #[.agg #[.int .i64 2, .string (s.extract n K)], .int .i64 (K : Int)]) ?_ rfl ⟨one_some (by omega), hb1.last _ _⟩
    rw [results_cell_tmp rfl]
    go_simp
set_option maxHeartbeats 4000000 in
set_option maxRecDepth 1000000 in
theorem rone_word (s : ByteArray) (n : Nat) (w : World) (hn : n < s.size) (hs : s.size ≤ 4000) (hI : ririE s n = 0) (hL : letterP s[n].toNat = true) (hN : rnameE s n = 0) (K : Nat) (hK : n + sp nameP s n = K) :
    Calls Tryd.prog 21 #[.string s, .int .i64 (n : Int)] w fun e w' => OnePost (some ((8, s.extract n K), K)) e ∧ Below w.heap.size w w' := by
  have hnI : (n : Int) < (s.size : Int) := by omega
  have cI := iri_no s n w hn hs hI
  clear hI
  have h0a : (0 : Int) ≤ (n : Int) + 1 := by omega
  have h0b : (0 : Int) ≤ (n : Int) + 2 := by omega
  have hu0 := Und.start w
  obtain ⟨Q, hQ⟩ : ∃ Q, s[n].toNat = Q := ⟨_, rfl⟩
  have hQ256 : Q < 256 := by rw [← hQ]; exact s[n].toNat_lt
  rw [hQ] at hL
  have hQr := letter_in hL
  have nQ95 : ¬ (Q : Int) = 95 := by omega
  have bQ95 : ((Q : Int) == 95) = false := beq_eq_false_iff_ne.2 nQ95
  have nQ63 : ¬ (Q : Int) = 63 := by omega
  have bQ63 : ((Q : Int) == 63) = false := beq_eq_false_iff_ne.2 nQ63
  have nQ36 : ¬ (Q : Int) = 36 := by omega
  have bQ36 : ((Q : Int) == 36) = false := beq_eq_false_iff_ne.2 nQ36
  have nQ34 : ¬ (Q : Int) = 34 := by omega
  have bQ34 : ((Q : Int) == 34) = false := beq_eq_false_iff_ne.2 nQ34
  have nQ39 : ¬ (Q : Int) = 39 := by omega
  have bQ39 : ((Q : Int) == 39) = false := beq_eq_false_iff_ne.2 nQ39
  have nQ64 : ¬ (Q : Int) = 64 := by omega
  have bQ64 : ((Q : Int) == 64) = false := beq_eq_false_iff_ne.2 nQ64
  have nQ58 : ¬ (Q : Int) = 58 := by omega
  have bQ58 : ((Q : Int) == 58) = false := beq_eq_false_iff_ne.2 nQ58
  have hKs : K ≤ s.size := by have := sp_le nameP s n; omega
  have hK3 : (n : Int) ≤ (K : Int) := by omega
  have hK2 : (K : Int) ≤ (s.size : Int) := by omega
  have cD := digit_b Q w false hQ256 (letter_digit hL)
  have cL := letter_b Q w true hQ256 hL
  have cN := name_at s n w 0 hn hs hN
  have cW := words_ff s n w K hs (by omega) hK
  clear hK hL hQr hN
  go_enter Tryd.func21, Tryd.ntmps21
  by_cases hl : n + 1 < s.size
  · have hlI : (n : Int) + 1 < (s.size : Int) := by omega
    obtain ⟨E, hE⟩ : ∃ E, s[n + 1].toNat = E := ⟨_, rfl⟩
    have hE256 : E < 256 := by rw [← hE]; exact s[n + 1].toNat_lt
    go_wp2_with (first
      | (go_at_call 40; refine (cW _ _ (by omega) (by assumption)).mono ?_; rintro e w1 ⟨rfl, hb1⟩; have a0 := hb1.c0; have a1 := hb1.f0; have a2 := hb1.c1 (.int .i64 8); have a3 := hb1.f1 (.int .i64 8); have a4 := hb1.d0 (.int .i64 8) (.string (s.extract n K)); have a5 := hb1.d1 (.int .i64 8) (.string (s.extract n K)))
      | (go_at_call 46; refine (cN _ (by assumption)).mono ?_; rintro e w1 ⟨rfl, hb1⟩; have a0 := hb1.c0; have a1 := hb1.f0; have a2 := hb1.c1 (.int .i64 8); have a3 := hb1.f1 (.int .i64 8); have a4 := hb1.d0 (.int .i64 8) (.string (s.extract n K)); have a5 := hb1.d1 (.int .i64 8) (.string (s.extract n K)))
      | (go_at_call 41; refine (cL _ (by assumption)).mono ?_; rintro e w1 ⟨rfl, hb1⟩; have a0 := hb1.c0; have a1 := hb1.f0; have a2 := hb1.c1 (.int .i64 8); have a3 := hb1.f1 (.int .i64 8); have a4 := hb1.d0 (.int .i64 8) (.string (s.extract n K)); have a5 := hb1.d1 (.int .i64 8) (.string (s.extract n K)))
      | (go_at_call 44; refine (cD _ (by assumption)).mono ?_; rintro e w1 ⟨rfl, hb1⟩; have a0 := hb1.c0; have a1 := hb1.f0; have a2 := hb1.c1 (.int .i64 8); have a3 := hb1.f1 (.int .i64 8); have a4 := hb1.d0 (.int .i64 8) (.string (s.extract n K)); have a5 := hb1.d1 (.int .i64 8) (.string (s.extract n K)))
      | (go_at_call 39; refine (cI _ (by assumption)).mono ?_; rintro e w1 ⟨rfl, hb1⟩))
    try simp only [Exit.inBlock, Exit.then]
    refine bodyPost_ret (v := .tuple #[.agg #[.int .i64 8, .string (s.extract n K)], .int .i64 (K : Int)]) ?_ rfl ⟨one_some (by omega), hb1.last _ _⟩
    rw [results_cell_tmp rfl]
    go_simp
  · have hlI : ¬ (n : Int) + 1 < (s.size : Int) := by omega
    go_wp2_with (first
      | (go_at_call 40; refine (cW _ _ (by omega) (by assumption)).mono ?_; rintro e w1 ⟨rfl, hb1⟩; have a0 := hb1.c0; have a1 := hb1.f0; have a2 := hb1.c1 (.int .i64 8); have a3 := hb1.f1 (.int .i64 8); have a4 := hb1.d0 (.int .i64 8) (.string (s.extract n K)); have a5 := hb1.d1 (.int .i64 8) (.string (s.extract n K)))
      | (go_at_call 46; refine (cN _ (by assumption)).mono ?_; rintro e w1 ⟨rfl, hb1⟩; have a0 := hb1.c0; have a1 := hb1.f0; have a2 := hb1.c1 (.int .i64 8); have a3 := hb1.f1 (.int .i64 8); have a4 := hb1.d0 (.int .i64 8) (.string (s.extract n K)); have a5 := hb1.d1 (.int .i64 8) (.string (s.extract n K)))
      | (go_at_call 41; refine (cL _ (by assumption)).mono ?_; rintro e w1 ⟨rfl, hb1⟩; have a0 := hb1.c0; have a1 := hb1.f0; have a2 := hb1.c1 (.int .i64 8); have a3 := hb1.f1 (.int .i64 8); have a4 := hb1.d0 (.int .i64 8) (.string (s.extract n K)); have a5 := hb1.d1 (.int .i64 8) (.string (s.extract n K)))
      | (go_at_call 44; refine (cD _ (by assumption)).mono ?_; rintro e w1 ⟨rfl, hb1⟩; have a0 := hb1.c0; have a1 := hb1.f0; have a2 := hb1.c1 (.int .i64 8); have a3 := hb1.f1 (.int .i64 8); have a4 := hb1.d0 (.int .i64 8) (.string (s.extract n K)); have a5 := hb1.d1 (.int .i64 8) (.string (s.extract n K)))
      | (go_at_call 39; refine (cI _ (by assumption)).mono ?_; rintro e w1 ⟨rfl, hb1⟩))
    try simp only [Exit.inBlock, Exit.then]
    refine bodyPost_ret (v := .tuple #[.agg #[.int .i64 8, .string (s.extract n K)], .int .i64 (K : Int)]) ?_ rfl ⟨one_some (by omega), hb1.last _ _⟩
    rw [results_cell_tmp rfl]
    go_simp
end
end Go.Proofs.YtcanfpppllhogaaDoor.Lx
