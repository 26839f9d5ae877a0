/- What lex and the reference answer, function by function (LexTokens, part W). -/
import Derived.Test.YtcanfpppllhogaaDoorLtS
import Derived.Laws.ResultCell
import Derived.Laws.Concat
namespace Go.Proofs.YtcanfpppllhogaaDoor.Lx
open Go.RowKit Go.Proofs
open Go.Am (spanL)
noncomputable section

/-! ### the reference's token -/
def OnePost (r : Option (Tok × Nat)) (e : Ending) : Prop := match r with
  | some (k, m) => e = .returned (.tuple #[.agg #[.int .i64 k.1, .string k.2], .int .i64 (m : Int)])
  | none => ∃ (k : Int) (t : ByteArray), e = .returned (.tuple #[.agg #[.int .i64 k, .string t], .int .i64 0])
theorem one_some {k : Int} {t : ByteArray} {m : Nat} {i : Int} (h : i = (m : Int)) : OnePost (some ((k, t), m)) (.returned (.tuple #[.agg #[.int .i64 k, .string t], .int .i64 i])) := by
  subst h
  exact rfl
/-- what is above the place of the token that is told. -/
structure Und (w W : World) : Prop where
  below : Below w.heap.size w W
  box : W.heap[w.heap.size]? = some (.cells #[.int .i64 0, .string ⟨#[]⟩] 35 (0, 0))
theorem Und.start (w : World) : Und w (w.alloc (.cells #[.int .i64 0, .string ⟨#[]⟩] 35)) := ⟨(Below.refl _ _).alloc (Nat.le_refl _) _, heap_new _ _⟩
theorem Und.drew {w W : World} (h : Und w W) : Und w W.drew := ⟨h.below.trans ⟨rfl, rfl, rfl, Nat.le_refl _, fun _ _ => rfl⟩, h.box⟩
theorem Und.next {w W W' : World} (h : Und w W) (hb : Below W.heap.size W W') : Und w W' :=
  ⟨h.below.trans (hb.mono h.below.size), (hb.block _ (Array.getElem?_eq_some_iff.1 h.box).1).trans h.box⟩
theorem Und.c0 {w W : World} (h : Und w W) : W.cell? ⟨w.heap.size, 0, none⟩ = some (.int .i64 0) := two0 h.box
theorem Und.f0 {w W : World} (h : Und w W) : W.frozen? ⟨w.heap.size, 0, none⟩ = false := twoF 0 h.box
theorem Und.c1 {w W : World} (h : Und w W) (u : Value) : (W.setCell ⟨w.heap.size, 0, none⟩ u).cell? ⟨w.heap.size, 1, none⟩ = some (.string ⟨#[]⟩) := two1 (two_set0 u h.box)
theorem Und.f1 {w W : World} (h : Und w W) (u : Value) : (W.setCell ⟨w.heap.size, 0, none⟩ u).frozen? ⟨w.heap.size, 1, none⟩ = false := twoF 1 (two_set0 u h.box)
theorem Und.d0 {w W : World} (h : Und w W) (u v : Value) : ((W.setCell ⟨w.heap.size, 0, none⟩ u).setCell ⟨w.heap.size, 1, none⟩ v).cell? ⟨w.heap.size, 0, none⟩ = some u := two0 (two_set1 v (two_set0 u h.box))
theorem Und.d1 {w W : World} (h : Und w W) (u v : Value) : ((W.setCell ⟨w.heap.size, 0, none⟩ u).setCell ⟨w.heap.size, 1, none⟩ v).cell? ⟨w.heap.size, 1, none⟩ = some v := two1 (two_set1 v (two_set0 u h.box))
theorem Und.last {w W : World} (h : Und w W) (u v : Value) : Below w.heap.size w ((W.setCell ⟨w.heap.size, 0, none⟩ u).setCell ⟨w.heap.size, 1, none⟩ v) :=
  (h.below.setCell (p := ⟨w.heap.size, 0, none⟩) (Nat.le_refl _) _).setCell (p := ⟨w.heap.size, 1, none⟩) (Nat.le_refl _) _
theorem under {g : Nat} {args : Array Value} {w : World} {E : Ending} (h : ∀ W, Calls Tryd.prog g args W fun e w' => e = E ∧ Below W.heap.size W w') (W : World) (hu : Und w W) :
    Calls Tryd.prog g args W fun e w' => e = E ∧ Und w w' :=
  (h W).mono fun _ _ h => ⟨h.1, hu.next h.2⟩
theorem ririE_le {s : ByteArray} {n I : Nat} (h : ririE s n = I) (h0 : 0 < I) : n + 2 ≤ I ∧ I ≤ s.size := by
  unfold ririE at h
  split at h
  · rename_i c
    have : n + 1 + sp iriP s (n + 1) < s.size := Classical.byContradiction fun hh => by
      have := c.2
      rw [atB_out hh] at this
      cases this
    omega
  · omega
theorem under' {g : Nat} {args : Array Value} {w : World} {F : Ending → Prop} (h : ∀ W, Calls Tryd.prog g args W fun e w' => F e ∧ Below W.heap.size W w') (W : World) (hu : Und w W) :
    Calls Tryd.prog g args W fun e w' => F e ∧ Und w w' :=
  (h W).mono fun _ _ h => ⟨h.1, hu.next h.2⟩
theorem iri_no (s : ByteArray) (n : Nat) (w : World) (hn : n < s.size) (hs : s.size ≤ 4000) (hI : ririE s n = 0) (W : World) (hu : Und w W) :
    Calls Tryd.prog 39 #[.string s, .int .i64 (n : Int)] W fun e w' => e = .returned (.int .i64 0) ∧ Und w w' := by
  have := under (w := w) (fun W => riri_calls s n W hn hs) W hu
  rw [show ((if atB s n = 60 ∧ atB s (n + 1 + sp iriP s (n + 1)) = 62 then n + 2 + sp iriP s (n + 1) else 0 : Nat) : Nat) = 0 from hI] at this
  exact this
theorem words_ff (s : ByteArray) (a : Nat) (w : World) (K : Nat) (hs : s.size ≤ 4000) (ha : a ≤ 5000) (hK : a + sp nameP s a = K) (W : World) (i : Int) (e : i = (a : Int)) (hu : Und w W) :
    Calls Tryd.prog 40 #[.string s, .int .i64 i, .bool false, .bool false] W fun e w' => e = .returned (.int .i64 (K : Int)) ∧ Und w w' := by
  subst e
  have := under (w := w) (fun W => rwords_FF s a W ha hs) W hu
  rw [dash_FF, hK] at this
  exact this
theorem lang_at (s : ByteArray) (a : Nat) (w : World) (K : Nat) (hs : s.size ≤ 4000) (ha : a ≤ 5000) (hK : a + sp langP s a = K) (W : World) (i : Int) (e : i = (a : Int)) (hu : Und w W) :
    Calls Tryd.prog 43 #[.string s, .int .i64 i] W fun e w' => e = .returned (.int .i64 (K : Int)) ∧ Und w w' := by
  subst e
  have := under (w := w) (fun W => rlang_calls s a W ha hs) W hu
  rw [hK] at this
  exact this
theorem num_at (s : ByteArray) (a : Nat) (w : World) (K : Nat) (hs : s.size ≤ 4000) (ha : a ≤ 5000) (hK : rnumE s a = K) (W : World) (hu : Und w W) :
    Calls Tryd.prog 45 #[.string s, .int .i64 (a : Int)] W fun e w' => e = .returned (.int .i64 (K : Int)) ∧ Und w w' := by
  have := under (w := w) (fun W => rnumber_calls s a W ha hs) W hu
  rw [hK] at this
  exact this
theorem name_at (s : ByteArray) (a : Nat) (w : World) (K : Nat) (hn : a < s.size) (hs : s.size ≤ 4000) (hK : rnameE s a = K) (W : World) (hu : Und w W) :
    Calls Tryd.prog 46 #[.string s, .int .i64 (a : Int)] W fun e w' => e = .returned (.int .i64 (K : Int)) ∧ Und w w' := by
  have := under (w := w) (fun W => rname_calls s a W hn hs) W hu
  rw [hK] at this
  exact this
theorem text_some (s : ByteArray) (n : Nat) (w : World) (hn : n < s.size) (hs : s.size ≤ 4000) {b : List UInt8} {K : Nat} (hT : txt s (atB s n) s.size (n + 1) [] = some (b, K)) (W : World) (hu : Und w W) :
    Calls Tryd.prog 42 #[.string s, .int .i64 (n : Int)] W fun e w' => e = .returned (.tuple #[.string ⟨b.toArray⟩, .int .i64 (K : Int)]) ∧ Und w w' := by
  have := under' (w := w) (fun W => rtext_calls s n W hn hs) W hu
  rw [hT] at this
  exact this
theorem text_none (s : ByteArray) (n : Nat) (w : World) (hn : n < s.size) (hs : s.size ≤ 4000) (hT : txt s (atB s n) s.size (n + 1) [] = none) (W : World) (hu : Und w W) :
    Calls Tryd.prog 42 #[.string s, .int .i64 (n : Int)] W fun e w' => e = .returned (.tuple #[.string ⟨#[]⟩, .int .i64 0]) ∧ Und w w' := by
  have := under' (w := w) (fun W => rtext_calls s n W hn hs) W hu
  rw [hT] at this
  exact this
theorem sign_at (s : ByteArray) (n : Nat) (w : World) (Z : Nat) (hn : n < s.size) (hs : s.size ≤ 4000) (hZ : rsignE (dropS s n) = Z) (W : World) (hu : Und w W) :
    Calls Tryd.prog 47 #[.string (s.extract n s.size)] W fun e w' => e = .returned (.int .i64 (Z : Int)) ∧ Und w w' := by
  have := under (w := w) (fun W => rsign_calls' (dropS s n) W (by rw [dropS_size]; omega) (by rw [dropS_size]; omega)) W hu
  rw [hZ] at this
  exact this
theorem letter_b (c : Nat) (w : World) (b : Bool) (hc : c < 256) (h : letterP c = b) (W : World) (hu : Und w W) :
    Calls Tryd.prog 41 #[.int .u8 (c : Int)] W fun e w' => e = .returned (.bool b) ∧ Und w w' := by
  have := under (w := w) (fun W => rletter_calls c hc W) W hu
  dsimp only at this
  rw [h] at this
  exact this
theorem digit_b (c : Nat) (w : World) (b : Bool) (hc : c < 256) (h : digitP c = b) (W : World) (hu : Und w W) :
    Calls Tryd.prog 44 #[.int .u8 (c : Int)] W fun e w' => e = .returned (.bool b) ∧ Und w w' := by
  have := under (w := w) (fun W => rdigit_calls c hc W) W hu
  dsimp only at this
  rw [h] at this
  exact this
theorem letter_c (c : Nat) (w : World) (b : Bool) (hc : c < 256) (h : letterP c = b) (W : World) {i : Int} (hu : Und w W) (e : i = (c : Int) := by rfl) :
    Calls Tryd.prog 41 #[.int .u8 i] W fun e w' => e = .returned (.bool b) ∧ Und w w' := by subst e; exact letter_b c w b hc h W hu
theorem digit_c (c : Nat) (w : World) (b : Bool) (hc : c < 256) (h : digitP c = b) (W : World) {i : Int} (hu : Und w W) (e : i = (c : Int) := by rfl) :
    Calls Tryd.prog 44 #[.int .u8 i] W fun e w' => e = .returned (.bool b) ∧ Und w w' := by subst e; exact digit_b c w b hc h W hu
theorem digit_in {c : Nat} (h : digitP c = true) : 48 ≤ c ∧ c ≤ 57 := by
  unfold digitP at h
  rw [Bool.and_eq_true] at h
  exact ⟨Nat.le_of_ble_eq_true h.1, Nat.le_of_ble_eq_true h.2⟩
theorem letter_in {c : Nat} (h : letterP c = true) : (97 ≤ c ∧ c ≤ 122) ∨ (65 ≤ c ∧ c ≤ 90) := by
  unfold letterP at h
  rw [Bool.or_eq_true, Bool.and_eq_true, Bool.and_eq_true] at h
  rcases h with h | h
  · exact .inl ⟨Nat.le_of_ble_eq_true h.1, Nat.le_of_ble_eq_true h.2⟩
  · exact .inr ⟨Nat.le_of_ble_eq_true h.1, Nat.le_of_ble_eq_true h.2⟩
theorem letter_digit {c : Nat} (h : letterP c = true) : digitP c = false := by
  cases hd : digitP c with
  | false => rfl
  | true => have := letter_in h; have := digit_in hd; omega
theorem rnum_le {s : ByteArray} {n K : Nat} (h : rnumE s n = K) (hn : n ≤ s.size) : n ≤ K ∧ K ≤ s.size := by
  have h1 := sp_le digitP s n
  have h2 := sp_le digitP s (n + sp digitP s n + 1)
  unfold rnumE at h
  split at h
  · rename_i c
    have : n + sp digitP s n < s.size := Classical.byContradiction fun hh => by
      have := c.1
      rw [atB_out hh] at this
      cases this
    omega
  · omega
theorem rsign_le {s : ByteArray} {n Z : Nat} (hn : n < s.size) (h : rsignE (dropS s n) = Z) : n + Z ≤ s.size := by
  unfold rsignE at h
  cases hf : twos.find? (hasP (dropS s n)) with
  | some p =>
    have h1 := hasP_le (List.find?_some hf)
    have h2 := twos_size p (List.mem_of_find?_eq_some hf)
    rw [dropS_size] at h1
    rw [hf] at h
    dsimp only at h
    omega
  | none =>
    rw [hf] at h
    dsimp only at h
    split at h <;> omega
set_option maxHeartbeats 4000000 in
set_option maxRecDepth 1000000 in
theorem rone_iri (s : ByteArray) (n : Nat) (w : World) (hn : n < s.size) (hs : s.size ≤ 4000) (J : Nat) (hI : ririE s n = J + 1) :
    Calls Tryd.prog 21 #[.string s, .int .i64 (n : Int)] w fun e w' => OnePost (some ((1, s.extract (n + 1) J), J + 1)) e ∧ Below w.heap.size w w' := by
  have hnI : (n : Int) < (s.size : Int) := by omega
  have hn256 : s[n].toNat < 256 := s[n].toNat_lt
  have cI := under (w := w) fun W => riri_calls s n W hn hs
  rw [show ((if atB s n = 60 ∧ atB s (n + 1 + sp iriP s (n + 1)) = 62 then n + 2 + sp iriP s (n + 1) else 0 : Nat) : Nat) = J + 1 from hI] at cI
  obtain ⟨Q, hQ⟩ : ∃ Q, s[n].toNat = Q := ⟨_, rfl⟩
  rw [hQ] at hn256
  have hu0 := Und.start w
  have hle := ririE_le hI (by omega)
  have h0I : (0 : Int) < (J : Int) + 1 := by omega
  have q1 : IntKind.i64.wrap ((n : Int) + 1) = (n : Int) + 1 := by rw [IntKind.wrap_i64]; omega
  have q2 : IntKind.i64.wrap (J : Int) = (J : Int) := by rw [IntKind.wrap_i64]; omega
  have hIa : (n : Int) + 1 ≤ (J : Int) := by omega
  have hIb : (J : Int) ≤ (s.size : Int) := by omega
  go_enter Tryd.func21, Tryd.ntmps21
  by_cases hl : n + 1 < s.size
  · have hlI : (n : Int) + 1 < (s.size : Int) := by omega
    have hE256 : s[n + 1].toNat < 256 := s[n + 1].toNat_lt
    go_wp2_with (go_at_call 39; refine (cI _ (by assumption)).mono ?_; rintro e w1 ⟨rfl, hb1⟩)
    go_region_with (go_at_call 39; refine (cI _ (by first | assumption | exact Und.drew (by assumption))).mono ?_; rintro e w2 ⟨rfl, hb2⟩; have q3 := hb2.c0; have q4 := hb2.f0; have q5 := hb2.c1 (.int .i64 1); have q6 := hb2.f1 (.int .i64 1); have q7 := hb2.d0 (.int .i64 1) (.string (s.extract (n + 1) J)); have q8 := hb2.d1 (.int .i64 1) (.string (s.extract (n + 1) J)))
    all_goals go_wp2
    try simp only [Exit.inBlock, Exit.then]
    refine bodyPost_ret (v := .tuple #[.agg #[.int .i64 1, .string (s.extract (n + 1) J)], .int .i64 ((J : Int) + 1)]) ?_ rfl ⟨one_some (by omega), hb2.last _ _⟩
    rw [results_cell_tmp rfl]
    go_simp
  · omega
end
end Go.Proofs.YtcanfpppllhogaaDoor.Lx
