/- The scanner of lex: what its methods answer, and what they leave in memory. -/
import Derived.Shelf.Lays
import Derived.WalkKit
import Derived.Deep.LoopGhost
import Derived.Lib.SliceRun
import Derived.Deep.RegionWith
import Derived.Deep.QuietTactic
import Derived.Laws.AppendOwn
import Derived.Test.YtcanfpppllhogaaDoorPreds
namespace Go.Proofs.YtcanfpppllhogaaDoor.Lx
open Go.RowKit Go.Proofs
open Go.Am (spanL)
noncomputable section
theorem spanL_cons (p : Nat → Bool) (b : UInt8) (l : List UInt8) (k : Nat) : spanL p (b :: l) k = if p b.toNat then spanL p l (k + 1) else k := by
  show (match p b.toNat with | true => spanL p l (k + 1) | false => k) = _
  cases p b.toNat <;> rfl

/-- the byte at a place; behind the end nought. -/
def atB (s : ByteArray) (i : Nat) : Nat := ((s.data.toList[i]?).map UInt8.toNat).getD 0
theorem atB_in {s : ByteArray} {i : Nat} (h : i < s.size) : atB s i = s[i].toNat := by
  unfold atB
  rw [List.getElem?_eq_getElem (by rw [Array.length_toList]; exact h)]
  rfl
theorem atB_out {s : ByteArray} {i : Nat} (h : ¬ i < s.size) : atB s i = 0 := by
  unfold atB
  rw [List.getElem?_eq_none (by rw [Array.length_toList]; exact Nat.le_of_not_lt h)]
  rfl
theorem atB_lt (s : ByteArray) (i : Nat) : atB s i < 256 := by
  by_cases h : i < s.size
  · rw [atB_in h]; exact s[i].toNat_lt
  · rw [atB_out h]; omega
set_option maxHeartbeats 2000000 in
set_option maxRecDepth 1000000 in
theorem at_calls (x o i : Nat) (s : ByteArray) (w : World) (hc : w.cell? ⟨x, o, none⟩ = some (.string s)) :
    Calls Tryd.prog 29 #[.pointer (some ⟨x, o, none⟩), .int .i64 (i : Int)] w fun e w' => e = .returned (.int .i32 (atB s i : Nat)) ∧ w' = w := by
  go_enter Tryd.func29, Tryd.ntmps29
  by_cases h : i < s.size
  · have hI : (i : Int) < (s.size : Int) := by omega
    rw [atB_in h]
    have h256 : s[i].toNat < 256 := s[i].toNat_lt
    go_wp2
    go_ret
    exact ⟨rfl, rfl⟩
  · have hI : ¬ (i : Int) < (s.size : Int) := by omega
    rw [atB_out h]
    go_wp2
    go_ret
    exact ⟨rfl, rfl⟩

/-- a token: its kind, its bytes. -/
abbrev Tok := Int × ByteArray
def cellsT (l : List Tok) : List Value := l.flatMap fun p => [.int .i64 p.1, .string p.2]
theorem cellsT_len (l : List Tok) : (cellsT l).length = l.length * 2 := by
  induction l with
  | nil => rfl
  | cons p l ih => simp only [cellsT, List.flatMap_cons, List.length_append, List.length_cons, List.length_nil] at ih ⊢; omega
theorem cellsT_snoc (l : List Tok) (p : Tok) : cellsT (l ++ [p]) = cellsT l ++ [.int .i64 p.1, .string p.2] := by simp [cellsT]
/-- what is left of a text. -/
def dropS (s : ByteArray) (n : Nat) : ByteArray := s.extract n s.size
/-- the scanner: block x holds the text that is left, and the row of tokens told. -/
structure Sc (w : World) (x : Nat) (s : ByteArray) (l : List Tok) : Prop where
  out : ∃ v, w.heap[x]? = some (.cells #[.string s, v] 39 (0, 0)) ∧ w.ownsRow (x + 1) 35 2 v l.length (cellsT l)
theorem own_below {w w' : World} {B e size n : Nat} {v : Value} {xs : List Value} (h : w.ownsRow B e size v n xs) (hb : Below w.heap.size w w') : w'.ownsRow B e size v n xs := by
  refine ⟨h.1, ?_⟩
  rcases h.2 with hn | ⟨g, cap, cur, rfl, hg, hgg, rest⟩
  · exact .inl hn
  · exact .inr ⟨g, cap, cur, rfl, hg, by rw [hb.block g (Array.getElem?_eq_some_iff.1 hgg).1]; exact hgg, rest⟩
theorem Sc.lt {w : World} {x : Nat} {s : ByteArray} {l : List Tok} (h : Sc w x s l) : x < w.heap.size := by
  obtain ⟨v, h1, _⟩ := h.out
  exact (Array.getElem?_eq_some_iff.1 h1).1
theorem Sc.cell {w : World} {x : Nat} {s : ByteArray} {l : List Tok} (h : Sc w x s l) : w.cell? ⟨x, 0, none⟩ = some (.string s) := by
  obtain ⟨v, h1, _⟩ := h.out
  simp [World.cell?, h1]
theorem Sc.below {w w' : World} {x : Nat} {s : ByteArray} {l : List Tok} (h : Sc w x s l) (hb : Below w.heap.size w w') : Sc w' x s l := by
  obtain ⟨v, h1, h2⟩ := h.out
  exact ⟨v, (hb.block x h.lt).trans h1, own_below h2 hb⟩
theorem cell_two (w : World) (a b : Value) (t : TypeId) : ∀ j u, [a, b][j]? = some u → (w.alloc (.cells #[a, b] t)).cell? ((⟨w.heap.size, 0, none⟩ : Addr).add j) = some u := by
  intro j u hj
  match j, hj with
  | 0, hj => simp at hj; subst hj; simp [Addr.add]
  | 1, hj => simp at hj; subst hj; simp [Addr.add]
  | (j + 2), hj => simp at hj
section
variable {w : World} {x : Nat} {a b : Value} {t : TypeId}
theorem two0 (h : w.heap[x]? = some (.cells #[a, b] t (0, 0))) : w.cell? ⟨x, 0, none⟩ = some a := by simp [World.cell?, h]
theorem two1 (h : w.heap[x]? = some (.cells #[a, b] t (0, 0))) : w.cell? ⟨x, 1, none⟩ = some b := by simp [World.cell?, h]
theorem twoF (i : Nat) (h : w.heap[x]? = some (.cells #[a, b] t (0, 0))) : w.frozen? ⟨x, i, none⟩ = false := by simp [World.frozen?, h]
theorem two_set0 (u : Value) (h : w.heap[x]? = some (.cells #[a, b] t (0, 0))) : (w.setCell ⟨x, 0, none⟩ u).heap[x]? = some (.cells #[u, b] t (0, 0)) := by
  rw [heap_setCell_same w x 0 _ t u h]; rfl
theorem two_set1 (u : Value) (h : w.heap[x]? = some (.cells #[a, b] t (0, 0))) : (w.setCell ⟨x, 1, none⟩ u).heap[x]? = some (.cells #[a, u] t (0, 0)) := by
  rw [heap_setCell_same w x 1 _ t u h]; rfl
theorem own_set {B e size n i : Nat} {v u : Value} {xs : List Value} (h : w.ownsRow B e size v n xs) (hx : x < B) : (w.setCell ⟨x, i, none⟩ u).ownsRow B e size v n xs := by
  refine ⟨h.1, ?_⟩
  rcases h.2 with hn | ⟨g, cap, cur, rfl, hg, hgg, rest⟩
  · exact .inl hn
  · exact .inr ⟨g, cap, cur, rfl, hg, by rw [heap_setCell_other _ _ _ _ (by show g ≠ x; omega)]; exact hgg, rest⟩
theorem two_grown {w3 : World} {v : Value} {o : Obj} {c : Obj} {B e size n : Nat} {xs : List Value} (h : w.heap[x]? = some c) (hg : (w.alloc o).grownBy w3 v.ownBlock) (hown : w.ownsRow B e size v n xs) (hx : x < B) : w3.heap[x]? = some c := by
  have hlt := (Array.getElem?_eq_some_iff.1 h).1
  rw [hg.block x (by simp; omega) ?_]
  · simp only [World.alloc]
    rw [Array.getElem?_push_lt hlt]
    exact (Array.getElem?_eq_getElem hlt).symm.trans h
  · intro e
    rcases hown.2 with ⟨rfl, _⟩ | ⟨g, cap, cur, rfl, hgB, _⟩
    · cases e
    · simp only [Value.ownBlock, Option.some.injEq] at e; omega
theorem own_some {B e size n : Nat} {v : Value} {xs : List Value} (h : w.ownsRow B e size v (n + 1) xs) : ∃ g cap, v = .slice (some ⟨g, 0, none⟩) (n + 1) cap := by
  rcases h.2 with ⟨_, h⟩ | ⟨g, cap, _, h, _⟩
  · omega
  · exact ⟨g, cap, h⟩
theorem own_lt {B e size n : Nat} {v : Value} {xs : List Value} (h : w.ownsRow B e size v n xs) : ∀ k, v.ownBlock = some k → B ≤ k := by
  intro k hk
  rcases h.2 with ⟨rfl, _⟩ | ⟨g, cap, cur, rfl, hgB, _⟩
  · cases hk
  · simp only [Value.ownBlock, Option.some.injEq] at hk; omega
end
set_option maxHeartbeats 4000000 in
set_option maxRecDepth 1000000 in
theorem token_calls (x n : Nat) (k : Int) (t s : ByteArray) (l : List Tok) (w : World) (h : Sc w x s l) (hn : n ≤ s.size) (hl : l.length ≤ 1000000) :
    Calls Tryd.prog 30 #[.pointer (some ⟨x, 0, none⟩), .int .i64 k, .string t, .int .i64 (n : Int)] w fun e w' => e = .returned (.bool true) ∧ Sc w' x (dropS s n) (l ++ [(k, t)]) ∧ Below x w w' := by
  obtain ⟨v, h1, h2⟩ := h.out
  have hx := h.lt
  have c0 : w.cell? ⟨x, 0, none⟩ = some (.string s) := h.cell
  have c1 : w.cell? ⟨x, 1, none⟩ = some v := by simp [World.cell?, h1]
  have hnI : (n : Int) ≤ (s.size : Int) := by omega
  obtain ⟨i0, hi, hz0, hz1, hz2⟩ := info_parts (show (Tryd.prog.info? 35).map (fun i => (i.zero, i.size, i.bytes)) = some (some (.agg #[.int .i64 0, .string ⟨#[]⟩]), 2, 24) by kernel_rfl)
  go_enter Tryd.func30, Tryd.ntmps30
  go_wp2_with (at_builtin; refine wpList_append_own _ rfl (.tmp 13) (.tmp 17) 26 rfl (x + 1) 35 i0 (.agg #[.int .i64 0, .string ⟨#[]⟩]) 2 24 Tryd.underlying26 hi hz0 hz1 hz2 rfl (by decide) _ _ _ rfl (h2.alloc _) ⟨w.heap.size, 0, none⟩ 1 1 [.int .i64 k, .string t] rfl rfl (cell_two _ _ _ _) (by intro u hu; simp at hu; rcases hu with rfl | rfl <;> rfl) (by unfold maxLen; omega) (by omega) (by simp; omega) ?_; intro v3 w3 hown3 hgrow3 hnil3; obtain ⟨g3, cap3, rfl⟩ := own_some hown3; have g1 := two_grown h1 hgrow3 h2 (Nat.lt_succ_self x); have q1 := two1 g1; have q2 := twoF 1 g1; have g2 := two_set1 (.slice (some ⟨g3, 0, none⟩) (l.length + 1) cap3) g1; have q3 := two0 g2; have q4 := twoF 0 g2)
  go_ret
  refine ⟨rfl, ⟨_, two_set0 _ g2, ?_⟩, ?_⟩
  · rw [cellsT_snoc, List.length_append]
    exact own_set (own_set hown3 (Nat.lt_succ_self x)) (Nat.lt_succ_self x)
  · exact ((((Below.refl x w).alloc (Nat.le_of_lt hx) _).grown hgrow3 (by simp; omega) (fun k hk => by have := own_lt h2 k hk; omega)).setCell (p := ⟨x, 1, none⟩) (Nat.le_refl _) _).setCell (p := ⟨x, 0, none⟩) (Nat.le_refl _) _

theorem at_callsZ (x : Nat) (s : ByteArray) (w : World) (hc : w.cell? ⟨x, 0, none⟩ = some (.string s)) (i : Int) (e : 0 ≤ i) :
    Calls Tryd.prog 29 #[.pointer (some ⟨x, 0, none⟩), .int .i64 i] w fun e w' => e = .returned (.int .i32 (atB s i.toNat : Nat)) ∧ w' = w := by
  obtain ⟨k, rfl⟩ := Int.eq_ofNat_of_zero_le e
  exact at_calls x 0 k s w hc
theorem token_callsI (x n : Nat) (k : Int) (t s : ByteArray) (l : List Tok) (w : World) (h : Sc w x s l) (hn : n ≤ s.size) (hl : l.length ≤ 1000000) (i : Int) (e : i = (n : Int)) :
    Calls Tryd.prog 30 #[.pointer (some ⟨x, 0, none⟩), .int .i64 k, .string t, .int .i64 i] w fun e w' => e = .returned (.bool true) ∧ Sc w' x (dropS s n) (l ++ [(k, t)]) ∧ Below x w w' := by subst e; exact token_calls x n k t s l w h hn hl
/-- how many such bytes from a place on. -/
abbrev sp (p : Nat → Bool) (s : ByteArray) (n : Nat) : Nat := spanL p (s.data.toList.drop n) 0
theorem spanL_add (p : Nat → Bool) : ∀ (l : List UInt8) (k : Nat), spanL p l k = k + spanL p l 0 := by
  intro l
  induction l with
  | nil => intro k; rfl
  | cons b l ih =>
    intro k
    rw [spanL_cons, spanL_cons]
    cases p b.toNat
    · simp
    · simp only [if_true]; rw [ih (k + 1), ih 1]; omega
theorem spanL_le (p : Nat → Bool) : ∀ l : List UInt8, spanL p l 0 ≤ l.length := by
  intro l
  induction l with
  | nil => exact Nat.le_refl _
  | cons b l ih =>
    rw [spanL_cons]
    cases p b.toNat
    · simp
    · simp only [if_true]; rw [spanL_add]; simp only [List.length_cons]; omega
theorem sp_le (p : Nat → Bool) (s : ByteArray) (n : Nat) : sp p s n ≤ s.size - n := by
  have := spanL_le p (s.data.toList.drop n)
  rw [List.length_drop, Array.length_toList] at this
  exact this
/-- what a method of the scanner answers: a token and how many bytes it takes, or none. -/
def After (w : World) (x : Nat) (s : ByteArray) (l : List Tok) (r : Option (Tok × Nat)) (w' : World) : Prop :=
  match r with
  | none => Below w.heap.size w w'
  | some (k, n) => n ≤ s.size ∧ Sc w' x (dropS s n) (l ++ [k]) ∧ Below x w w'
def MOk (f : Nat) (mT : ByteArray → Option (Tok × Nat)) : Prop :=
  ∀ (x : Nat) (s : ByteArray) (l : List Tok) (w : World), Sc w x s l → s.size ≤ 9000000 → l.length ≤ 1000000 → 0 < s.size →
    Calls Tryd.prog f #[.pointer (some ⟨x, 0, none⟩)] w fun e w' => e = .returned (.bool (mT s).isSome) ∧ After w x s l (mT s) w'
def iriT (s : ByteArray) : Option (Tok × Nat) :=
  if atB s 0 = 60 ∧ atB s (1 + sp iriP s 1) = 62 then some ((1, s.extract 1 (1 + sp iriP s 1)), sp iriP s 1 + 2) else none
theorem toNat0 : Int.toNat 0 = 0 := rfl
theorem toNat1 : Int.toNat 1 = 1 := rfl
set_option maxHeartbeats 4000000 in
set_option maxRecDepth 1000000 in
theorem iri_ok : MOk 11 iriT := by
  intro x s l w h hs hl h0
  have hR := predTab_ok (27, iriP) (by simp [predTab]) x 0 1 s w (by omega) (by omega) h.cell
  obtain ⟨N, hN⟩ : ∃ N, spanL iriP (s.data.toList.drop 1) 0 = N := ⟨_, rfl⟩
  have hNle : N ≤ s.size - 1 := hN ▸ sp_le iriP s 1
  dsimp only at hR
  rw [hN] at hR
  unfold iriT
  rw [show sp iriP s 1 = N from hN]
  clear hN
  obtain ⟨A, hA⟩ : ∃ A, atB s 0 = A := ⟨_, rfl⟩
  obtain ⟨B, hB⟩ : ∃ B, atB s (1 + N) = B := ⟨_, rfl⟩
  have hx := Nat.le_of_lt h.lt
  rw [hA, hB]
  go_enter Tryd.func11, Tryd.ntmps11
  by_cases c0 : A = 60
  · by_cases c1 : B = 62
    · have hlt : 1 + N < s.size := by
        by_cases hx : 1 + N < s.size
        · exact hx
        · rw [atB_out hx] at hB; omega
      rw [if_pos ⟨c0, c1⟩]
      subst c0; subst c1
      have b1 : (1 : Int) ≤ 1 + (N : Int) := by omega
      have b2 : 1 + (N : Int) ≤ (s.size : Int) := by omega
      go_wp2_with (first
        | (go_at_call 25; refine hR.mono ?_; rintro e w1 ⟨rfl, hb1⟩; have h1 := h.below hb1; have k0 := h1.cell)
        | (go_at_call 29; refine (at_callsZ x s _ k0 _ (by omega)).mono ?_; rintro e w2 ⟨rfl, rfl⟩; first | rw [toNat0, hA] | rw [show (1 + (N : Int)).toNat = 1 + N by omega, hB])
        | (go_at_call 30; refine (token_callsI x (N + 2) _ _ s l _ h1 (by omega) hl _ (by omega)).mono ?_; rintro e w3 ⟨rfl, h3, hb3⟩))
      go_ret
      exact ⟨rfl, by omega, h3, (hb1.mono hx).trans hb3⟩
    · rw [if_neg (fun e => c1 e.2)]
      subst c0
      have c1I : ¬ (B : Int) = 62 := by omega
      go_wp2_with (first
        | (go_at_call 25; refine hR.mono ?_; rintro e w1 ⟨rfl, hb1⟩; have h1 := h.below hb1; have k0 := h1.cell)
        | (go_at_call 29; refine (at_callsZ x s _ k0 _ (by omega)).mono ?_; rintro e w2 ⟨rfl, rfl⟩; first | rw [toNat0, hA] | rw [show (1 + (N : Int)).toNat = 1 + N by omega, hB])
        | (go_at_call 30; refine (token_callsI x (N + 2) _ _ s l _ h1 (by omega) hl _ (by omega)).mono ?_; rintro e w3 ⟨rfl, h3, hb3⟩))
      go_ret
      exact ⟨rfl, hb1⟩
  · rw [if_neg (fun e => c0 e.1)]
    have c0I : ¬ (A : Int) = 60 := by omega
    · go_wp2_with (first
        | (go_at_call 25; refine hR.mono ?_; rintro e w1 ⟨rfl, hb1⟩; have h1 := h.below hb1; have k0 := h1.cell)
        | (go_at_call 29; refine (at_callsZ x s _ k0 _ (by omega)).mono ?_; rintro e w2 ⟨rfl, rfl⟩; first | rw [toNat0, hA] | rw [show (1 + (N : Int)).toNat = 1 + N by omega, hB])
        | (go_at_call 30; refine (token_callsI x (N + 2) _ _ s l _ h1 (by omega) hl _ (by omega)).mono ?_; rintro e w3 ⟨rfl, h3, hb3⟩))
      go_ret
      exact ⟨rfl, hb1⟩
end
end Go.Proofs.YtcanfpppllhogaaDoor.Lx
