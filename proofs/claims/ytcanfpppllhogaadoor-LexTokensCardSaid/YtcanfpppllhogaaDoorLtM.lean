/- What lex and the reference answer, function by function (LexTokens, part M). -/
import Derived.Test.YtcanfpppllhogaaDoorLtL
import Derived.Laws.ResultCell
import Derived.Laws.Concat
namespace Go.Proofs.YtcanfpppllhogaaDoor.Lx
open Go.RowKit Go.Proofs
open Go.Am (spanL)
noncomputable section

def tokensP (s : ByteArray) : Option (List Tok) := toks (s.size + 1) (skB s) []
/-- what Tokens answers. -/
def TokPost (r : Option (List Tok)) (w w' : World) (e : Ending) : Prop :=
  match r with
  | none => e = .returned (.tuple #[.slice none 0 0, .int .i64 6])
  | some l => ∃ v, e = .returned (.tuple #[v, .int .i64 0]) ∧ w'.ownsRow w.heap.size 35 2 v l.length (cellsT l) ∧ l.length ≤ 4000
theorem heap_new (w : World) (o : Obj) : (w.alloc o).heap[w.heap.size]? = some o := by
  show (w.heap.push o)[w.heap.size]? = _
  simp
theorem own_base {w : World} {B B' e size n : Nat} {v : Value} {xs : List Value} (h : w.ownsRow B e size v n xs) (hb : B' ≤ B) : w.ownsRow B' e size v n xs := by
  refine ⟨h.1, ?_⟩
  rcases h.2 with hn | ⟨g, cap, cur, rfl, hg, rest⟩
  · exact .inl hn
  · exact .inr ⟨g, cap, cur, rfl, Nat.le_trans hb hg, rest⟩
set_option maxHeartbeats 8000000 in
set_option maxRecDepth 1000000 in
theorem tokens_long (s : ByteArray) (w : World) (hs : 4000 < s.size) :
    Calls Tryd.prog 6 #[.string s] w fun e w' => Below w.heap.size w w' ∧ e = .returned (.tuple #[.slice none 0 0, .int .i64 5]) := by
  have hsI : (4000 : Int) < (s.size : Int) := by omega
  go_enter Tryd.func6, Tryd.ntmps6
  go_wp2
  go_ret2
  exact ⟨Below.refl _ _, rfl⟩
set_option maxHeartbeats 16000000 in
set_option maxRecDepth 1000000 in
theorem tokens_calls (s : ByteArray) (w : World) (hs : s.size ≤ 4000) :
    Calls Tryd.prog 6 #[.string s] w fun e w' => Below w.heap.size w w' ∧ TokPost (tokensP s) w w' e := by
  have hsI : ¬ (4000 : Int) < (s.size : Int) := by omega
  obtain ⟨R, hR⟩ : ∃ R, tokensP s = R := ⟨_, rfl⟩
  rw [hR]
  unfold tokensP at hR
  have hSc : Sc (w.alloc (.cells #[.string s, .slice none 0 0] 39)) w.heap.size s [] := ⟨_, heap_new _ _, World.ownsRow_nil _ _ _ _⟩
  have hb0 : Below w.heap.size w (w.alloc (.cells #[.string s, .slice none 0 0] 39)) := (Below.refl _ _).alloc (Nat.le_refl _) _
  go_enter Tryd.func6, Tryd.ntmps6
  go_wp2_with (go_at_call 10; refine (blanks_calls _ _ _ _ hSc (by omega)).mono ?_; rintro e w2 ⟨rfl, s2, h2, he2, hb2⟩)
  obtain rfl : s2 = skB s := bytes_ext he2
  go_loopg [] (s.size + 1) (fun gf wx => ∃ (s2 : ByteArray) (l : List Tok), Sc wx w.heap.size s2 l ∧ toks gf s2 l = toks (s.size + 1) (skB s) [] ∧ s2.size < gf ∧ l.length + s2.size ≤ s.size ∧ Below w.heap.size w wx)
  case atStart => exact ⟨_, [], h2, rfl, by have := skB_size s; omega, by have := skB_size s; simp only [List.length_nil]; omega, hb0.trans hb2⟩
  case round =>
    obtain ⟨s2, l, hS, htk, hfu, hll, hbw⟩ := hrel
    have k2 := hS.cell
    obtain ⟨g', rfl⟩ : ∃ g', gk = g' + 1 := ⟨gk - 1, by omega⟩
    rw [toks] at htk
    by_cases hz : s2.size = 0
    · rw [if_pos hz] at htk
      rw [← htk] at hR
      subst hR
      obtain rfl : s2 = ⟨#[]⟩ := bytes_ext (List.length_eq_zero_iff.1 (by rw [← size_eq]; exact hz))
      obtain ⟨v, hheap, hown⟩ := hS.out
      have kv := two1 hheap
      go_wp2_with (go_at_call 20; refine (clone_calls _ _ _ _ hown (by omega)).mono ?_; rintro e w6 ⟨v6, rfl, hown6, hb6⟩)
      go_ret2
      exact ⟨hbw.trans (hb6.mono hbw.size), _, rfl, own_base hown6 hbw.size, by omega⟩
    · rw [if_neg hz] at htk
      have hne : s2.toList.isEmpty = false := by
        rw [ByteArray.toList_eq]
        cases hd : s2.data.toList with
        | nil => exact absurd (by rw [size_eq, hd]; rfl) hz
        | cons c r => rfl
      have hl6 : l.length ≤ 1000000 := by omega
      have hs9 : s2.size ≤ 9000000 := by omega
      have hs0 : 0 < s2.size := by omega
      have hxle := Nat.le_of_lt hS.lt
      cases e0 : iriT s2 with
      | some r =>
        obtain ⟨k, n⟩ := r
        have hst : step s2 = some (k, n) := by unfold step; rw [e0]; rfl
        have hpos := step_pos hst
        rw [hst] at htk
        go_wp2_with (first
          | (go_at_call 11; refine (iri_ok _ s2 l _ hS hs9 hl6 hs0).mono ?_; rintro e u0 ⟨rfl, a0⟩; rw [e0] at a0 ⊢; obtain ⟨hnl, ht, hbt0⟩ := a0; have hbt : Below w.heap.size wr u0 := hbt0)
          | (go_at_call 10; refine (blanks_calls _ _ _ _ ht (by rw [dropS_size]; omega)).mono ?_; rintro e w5 ⟨rfl, s5, h5, he5, hb5⟩))
        obtain rfl : s5 = skB (dropS s2 n) := bytes_ext he5
        go_roundg g'
        case measure => omega
        case rel =>
          have e1 := skB_size (dropS s2 n)
          rw [dropS_size] at e1
          exact ⟨_, _, h5, htk, by omega, by rw [List.length_append]; simp only [List.length_cons, List.length_nil]; omega, hbw.trans (hbt.trans hb5)⟩
      | none =>
        cases e1 : blankT s2 with
        | some r =>
          obtain ⟨k, n⟩ := r
          have hst : step s2 = some (k, n) := by unfold step; rw [e0, e1]; rfl
          have hpos := step_pos hst
          rw [hst] at htk
          go_wp2_with (first
            | (go_at_call 11; refine (iri_ok _ s2 l _ hS hs9 hl6 hs0).mono ?_; rintro e u0 ⟨rfl, a0⟩; rw [e0] at a0 ⊢; have S0 := hS.below a0; have B0 : Below w.heap.size wr u0 := a0.mono hxle)
            | (go_at_call 12; refine (blank_ok _ s2 l _ S0 hs9 hl6 hs0).mono ?_; rintro e u1 ⟨rfl, a1⟩; rw [e1] at a1 ⊢; obtain ⟨hnl, ht, hbt0⟩ := a1; have hbt : Below w.heap.size wr u1 := B0.trans hbt0)
            | (go_at_call 10; refine (blanks_calls _ _ _ _ ht (by rw [dropS_size]; omega)).mono ?_; rintro e w5 ⟨rfl, s5, h5, he5, hb5⟩))
          obtain rfl : s5 = skB (dropS s2 n) := bytes_ext he5
          go_roundg g'
          case measure => omega
          case rel =>
            have e1 := skB_size (dropS s2 n)
            rw [dropS_size] at e1
            exact ⟨_, _, h5, htk, by omega, by rw [List.length_append]; simp only [List.length_cons, List.length_nil]; omega, hbw.trans (hbt.trans hb5)⟩
        | none =>
          cases e2 : varT s2 with
          | some r =>
            obtain ⟨k, n⟩ := r
            have hst : step s2 = some (k, n) := by unfold step; rw [e0, e1, e2]; rfl
            have hpos := step_pos hst
            rw [hst] at htk
            go_wp2_with (first
              | (go_at_call 11; refine (iri_ok _ s2 l _ hS hs9 hl6 hs0).mono ?_; rintro e u0 ⟨rfl, a0⟩; rw [e0] at a0 ⊢; have S0 := hS.below a0; have B0 : Below w.heap.size wr u0 := a0.mono hxle)
              | (go_at_call 12; refine (blank_ok _ s2 l _ S0 hs9 hl6 hs0).mono ?_; rintro e u1 ⟨rfl, a1⟩; rw [e1] at a1 ⊢; have S1 := S0.below a1; have B1 : Below w.heap.size wr u1 := B0.trans (a1.mono (Nat.le_of_lt S0.lt)))
              | (go_at_call 13; refine (variable_ok _ s2 l _ S1 hs9 hl6 hs0).mono ?_; rintro e u2 ⟨rfl, a2⟩; rw [e2] at a2 ⊢; obtain ⟨hnl, ht, hbt0⟩ := a2; have hbt : Below w.heap.size wr u2 := B1.trans hbt0)
              | (go_at_call 10; refine (blanks_calls _ _ _ _ ht (by rw [dropS_size]; omega)).mono ?_; rintro e w5 ⟨rfl, s5, h5, he5, hb5⟩))
            obtain rfl : s5 = skB (dropS s2 n) := bytes_ext he5
            go_roundg g'
            case measure => omega
            case rel =>
              have e1 := skB_size (dropS s2 n)
              rw [dropS_size] at e1
              exact ⟨_, _, h5, htk, by omega, by rw [List.length_append]; simp only [List.length_cons, List.length_nil]; omega, hbw.trans (hbt.trans hb5)⟩
          | none =>
            cases e3 : textT s2 with
            | some r =>
              obtain ⟨k, n⟩ := r
              have hst : step s2 = some (k, n) := by unfold step; rw [e0, e1, e2, e3]; rfl
              have hpos := step_pos hst
              rw [hst] at htk
              go_wp2_with (first
                | (go_at_call 11; refine (iri_ok _ s2 l _ hS hs9 hl6 hs0).mono ?_; rintro e u0 ⟨rfl, a0⟩; rw [e0] at a0 ⊢; have S0 := hS.below a0; have B0 : Below w.heap.size wr u0 := a0.mono hxle)
                | (go_at_call 12; refine (blank_ok _ s2 l _ S0 hs9 hl6 hs0).mono ?_; rintro e u1 ⟨rfl, a1⟩; rw [e1] at a1 ⊢; have S1 := S0.below a1; have B1 : Below w.heap.size wr u1 := B0.trans (a1.mono (Nat.le_of_lt S0.lt)))
                | (go_at_call 13; refine (variable_ok _ s2 l _ S1 hs9 hl6 hs0).mono ?_; rintro e u2 ⟨rfl, a2⟩; rw [e2] at a2 ⊢; have S2 := S1.below a2; have B2 : Below w.heap.size wr u2 := B1.trans (a2.mono (Nat.le_of_lt S1.lt)))
                | (go_at_call 14; refine (text_ok _ s2 l _ S2 hs9 hl6 hs0).mono ?_; rintro e u3 ⟨rfl, a3⟩; rw [e3] at a3 ⊢; obtain ⟨hnl, ht, hbt0⟩ := a3; have hbt : Below w.heap.size wr u3 := B2.trans hbt0)
                | (go_at_call 10; refine (blanks_calls _ _ _ _ ht (by rw [dropS_size]; omega)).mono ?_; rintro e w5 ⟨rfl, s5, h5, he5, hb5⟩))
              obtain rfl : s5 = skB (dropS s2 n) := bytes_ext he5
              go_roundg g'
              case measure => omega
              case rel =>
                have e1 := skB_size (dropS s2 n)
                rw [dropS_size] at e1
                exact ⟨_, _, h5, htk, by omega, by rw [List.length_append]; simp only [List.length_cons, List.length_nil]; omega, hbw.trans (hbt.trans hb5)⟩
            | none =>
              cases e4 : langT s2 with
              | some r =>
                obtain ⟨k, n⟩ := r
                have hst : step s2 = some (k, n) := by unfold step; rw [e0, e1, e2, e3, e4]; rfl
                have hpos := step_pos hst
                rw [hst] at htk
                go_wp2_with (first
                  | (go_at_call 11; refine (iri_ok _ s2 l _ hS hs9 hl6 hs0).mono ?_; rintro e u0 ⟨rfl, a0⟩; rw [e0] at a0 ⊢; have S0 := hS.below a0; have B0 : Below w.heap.size wr u0 := a0.mono hxle)
                  | (go_at_call 12; refine (blank_ok _ s2 l _ S0 hs9 hl6 hs0).mono ?_; rintro e u1 ⟨rfl, a1⟩; rw [e1] at a1 ⊢; have S1 := S0.below a1; have B1 : Below w.heap.size wr u1 := B0.trans (a1.mono (Nat.le_of_lt S0.lt)))
                  | (go_at_call 13; refine (variable_ok _ s2 l _ S1 hs9 hl6 hs0).mono ?_; rintro e u2 ⟨rfl, a2⟩; rw [e2] at a2 ⊢; have S2 := S1.below a2; have B2 : Below w.heap.size wr u2 := B1.trans (a2.mono (Nat.le_of_lt S1.lt)))
                  | (go_at_call 14; refine (text_ok _ s2 l _ S2 hs9 hl6 hs0).mono ?_; rintro e u3 ⟨rfl, a3⟩; rw [e3] at a3 ⊢; have S3 := S2.below a3; have B3 : Below w.heap.size wr u3 := B2.trans (a3.mono (Nat.le_of_lt S2.lt)))
                  | (go_at_call 15; refine (language_ok _ s2 l _ S3 hs9 hl6 hs0).mono ?_; rintro e u4 ⟨rfl, a4⟩; rw [e4] at a4 ⊢; obtain ⟨hnl, ht, hbt0⟩ := a4; have hbt : Below w.heap.size wr u4 := B3.trans hbt0)
                  | (go_at_call 10; refine (blanks_calls _ _ _ _ ht (by rw [dropS_size]; omega)).mono ?_; rintro e w5 ⟨rfl, s5, h5, he5, hb5⟩))
                obtain rfl : s5 = skB (dropS s2 n) := bytes_ext he5
                go_roundg g'
                case measure => omega
                case rel =>
                  have e1 := skB_size (dropS s2 n)
                  rw [dropS_size] at e1
                  exact ⟨_, _, h5, htk, by omega, by rw [List.length_append]; simp only [List.length_cons, List.length_nil]; omega, hbw.trans (hbt.trans hb5)⟩
              | none =>
                cases e5 : numT s2 with
                | some r =>
                  obtain ⟨k, n⟩ := r
                  have hst : step s2 = some (k, n) := by unfold step; rw [e0, e1, e2, e3, e4, e5]; rfl
                  have hpos := step_pos hst
                  rw [hst] at htk
                  go_wp2_with (first
                    | (go_at_call 11; refine (iri_ok _ s2 l _ hS hs9 hl6 hs0).mono ?_; rintro e u0 ⟨rfl, a0⟩; rw [e0] at a0 ⊢; have S0 := hS.below a0; have B0 : Below w.heap.size wr u0 := a0.mono hxle)
                    | (go_at_call 12; refine (blank_ok _ s2 l _ S0 hs9 hl6 hs0).mono ?_; rintro e u1 ⟨rfl, a1⟩; rw [e1] at a1 ⊢; have S1 := S0.below a1; have B1 : Below w.heap.size wr u1 := B0.trans (a1.mono (Nat.le_of_lt S0.lt)))
                    | (go_at_call 13; refine (variable_ok _ s2 l _ S1 hs9 hl6 hs0).mono ?_; rintro e u2 ⟨rfl, a2⟩; rw [e2] at a2 ⊢; have S2 := S1.below a2; have B2 : Below w.heap.size wr u2 := B1.trans (a2.mono (Nat.le_of_lt S1.lt)))
                    | (go_at_call 14; refine (text_ok _ s2 l _ S2 hs9 hl6 hs0).mono ?_; rintro e u3 ⟨rfl, a3⟩; rw [e3] at a3 ⊢; have S3 := S2.below a3; have B3 : Below w.heap.size wr u3 := B2.trans (a3.mono (Nat.le_of_lt S2.lt)))
                    | (go_at_call 15; refine (language_ok _ s2 l _ S3 hs9 hl6 hs0).mono ?_; rintro e u4 ⟨rfl, a4⟩; rw [e4] at a4 ⊢; have S4 := S3.below a4; have B4 : Below w.heap.size wr u4 := B3.trans (a4.mono (Nat.le_of_lt S3.lt)))
                    | (go_at_call 16; refine (number_ok _ s2 l _ S4 hs9 hl6 hs0).mono ?_; rintro e u5 ⟨rfl, a5⟩; rw [e5] at a5 ⊢; obtain ⟨hnl, ht, hbt0⟩ := a5; have hbt : Below w.heap.size wr u5 := B4.trans hbt0)
                    | (go_at_call 10; refine (blanks_calls _ _ _ _ ht (by rw [dropS_size]; omega)).mono ?_; rintro e w5 ⟨rfl, s5, h5, he5, hb5⟩))
                  obtain rfl : s5 = skB (dropS s2 n) := bytes_ext he5
                  go_roundg g'
                  case measure => omega
                  case rel =>
                    have e1 := skB_size (dropS s2 n)
                    rw [dropS_size] at e1
                    exact ⟨_, _, h5, htk, by omega, by rw [List.length_append]; simp only [List.length_cons, List.length_nil]; omega, hbw.trans (hbt.trans hb5)⟩
                | none =>
                  cases e6 : nameT s2 with
                  | some r =>
                    obtain ⟨k, n⟩ := r
                    have hst : step s2 = some (k, n) := by unfold step; rw [e0, e1, e2, e3, e4, e5, e6]; rfl
                    have hpos := step_pos hst
                    rw [hst] at htk
                    go_wp2_with (first
                      | (go_at_call 11; refine (iri_ok _ s2 l _ hS hs9 hl6 hs0).mono ?_; rintro e u0 ⟨rfl, a0⟩; rw [e0] at a0 ⊢; have S0 := hS.below a0; have B0 : Below w.heap.size wr u0 := a0.mono hxle)
                      | (go_at_call 12; refine (blank_ok _ s2 l _ S0 hs9 hl6 hs0).mono ?_; rintro e u1 ⟨rfl, a1⟩; rw [e1] at a1 ⊢; have S1 := S0.below a1; have B1 : Below w.heap.size wr u1 := B0.trans (a1.mono (Nat.le_of_lt S0.lt)))
                      | (go_at_call 13; refine (variable_ok _ s2 l _ S1 hs9 hl6 hs0).mono ?_; rintro e u2 ⟨rfl, a2⟩; rw [e2] at a2 ⊢; have S2 := S1.below a2; have B2 : Below w.heap.size wr u2 := B1.trans (a2.mono (Nat.le_of_lt S1.lt)))
                      | (go_at_call 14; refine (text_ok _ s2 l _ S2 hs9 hl6 hs0).mono ?_; rintro e u3 ⟨rfl, a3⟩; rw [e3] at a3 ⊢; have S3 := S2.below a3; have B3 : Below w.heap.size wr u3 := B2.trans (a3.mono (Nat.le_of_lt S2.lt)))
                      | (go_at_call 15; refine (language_ok _ s2 l _ S3 hs9 hl6 hs0).mono ?_; rintro e u4 ⟨rfl, a4⟩; rw [e4] at a4 ⊢; have S4 := S3.below a4; have B4 : Below w.heap.size wr u4 := B3.trans (a4.mono (Nat.le_of_lt S3.lt)))
                      | (go_at_call 16; refine (number_ok _ s2 l _ S4 hs9 hl6 hs0).mono ?_; rintro e u5 ⟨rfl, a5⟩; rw [e5] at a5 ⊢; have S5 := S4.below a5; have B5 : Below w.heap.size wr u5 := B4.trans (a5.mono (Nat.le_of_lt S4.lt)))
                      | (go_at_call 17; refine (name_ok _ s2 l _ S5 hs9 hl6 hs0).mono ?_; rintro e u6 ⟨rfl, a6⟩; rw [e6] at a6 ⊢; obtain ⟨hnl, ht, hbt0⟩ := a6; have hbt : Below w.heap.size wr u6 := B5.trans hbt0)
                      | (go_at_call 10; refine (blanks_calls _ _ _ _ ht (by rw [dropS_size]; omega)).mono ?_; rintro e w5 ⟨rfl, s5, h5, he5, hb5⟩))
                    obtain rfl : s5 = skB (dropS s2 n) := bytes_ext he5
                    go_roundg g'
                    case measure => omega
                    case rel =>
                      have e1 := skB_size (dropS s2 n)
                      rw [dropS_size] at e1
                      exact ⟨_, _, h5, htk, by omega, by rw [List.length_append]; simp only [List.length_cons, List.length_nil]; omega, hbw.trans (hbt.trans hb5)⟩
                  | none =>
                    cases e7 : wordT s2 with
                    | some r =>
                      obtain ⟨k, n⟩ := r
                      have hst : step s2 = some (k, n) := by unfold step; rw [e0, e1, e2, e3, e4, e5, e6, e7]; rfl
                      have hpos := step_pos hst
                      rw [hst] at htk
                      go_wp2_with (first
                        | (go_at_call 11; refine (iri_ok _ s2 l _ hS hs9 hl6 hs0).mono ?_; rintro e u0 ⟨rfl, a0⟩; rw [e0] at a0 ⊢; have S0 := hS.below a0; have B0 : Below w.heap.size wr u0 := a0.mono hxle)
                        | (go_at_call 12; refine (blank_ok _ s2 l _ S0 hs9 hl6 hs0).mono ?_; rintro e u1 ⟨rfl, a1⟩; rw [e1] at a1 ⊢; have S1 := S0.below a1; have B1 : Below w.heap.size wr u1 := B0.trans (a1.mono (Nat.le_of_lt S0.lt)))
                        | (go_at_call 13; refine (variable_ok _ s2 l _ S1 hs9 hl6 hs0).mono ?_; rintro e u2 ⟨rfl, a2⟩; rw [e2] at a2 ⊢; have S2 := S1.below a2; have B2 : Below w.heap.size wr u2 := B1.trans (a2.mono (Nat.le_of_lt S1.lt)))
                        | (go_at_call 14; refine (text_ok _ s2 l _ S2 hs9 hl6 hs0).mono ?_; rintro e u3 ⟨rfl, a3⟩; rw [e3] at a3 ⊢; have S3 := S2.below a3; have B3 : Below w.heap.size wr u3 := B2.trans (a3.mono (Nat.le_of_lt S2.lt)))
                        | (go_at_call 15; refine (language_ok _ s2 l _ S3 hs9 hl6 hs0).mono ?_; rintro e u4 ⟨rfl, a4⟩; rw [e4] at a4 ⊢; have S4 := S3.below a4; have B4 : Below w.heap.size wr u4 := B3.trans (a4.mono (Nat.le_of_lt S3.lt)))
                        | (go_at_call 16; refine (number_ok _ s2 l _ S4 hs9 hl6 hs0).mono ?_; rintro e u5 ⟨rfl, a5⟩; rw [e5] at a5 ⊢; have S5 := S4.below a5; have B5 : Below w.heap.size wr u5 := B4.trans (a5.mono (Nat.le_of_lt S4.lt)))
                        | (go_at_call 17; refine (name_ok _ s2 l _ S5 hs9 hl6 hs0).mono ?_; rintro e u6 ⟨rfl, a6⟩; rw [e6] at a6 ⊢; have S6 := S5.below a6; have B6 : Below w.heap.size wr u6 := B5.trans (a6.mono (Nat.le_of_lt S5.lt)))
                        | (go_at_call 18; refine (word_ok _ s2 l _ S6 hs9 hl6 hs0).mono ?_; rintro e u7 ⟨rfl, a7⟩; rw [e7] at a7 ⊢; obtain ⟨hnl, ht, hbt0⟩ := a7; have hbt : Below w.heap.size wr u7 := B6.trans hbt0)
                        | (go_at_call 10; refine (blanks_calls _ _ _ _ ht (by rw [dropS_size]; omega)).mono ?_; rintro e w5 ⟨rfl, s5, h5, he5, hb5⟩))
                      obtain rfl : s5 = skB (dropS s2 n) := bytes_ext he5
                      go_roundg g'
                      case measure => omega
                      case rel =>
                        have e1 := skB_size (dropS s2 n)
                        rw [dropS_size] at e1
                        exact ⟨_, _, h5, htk, by omega, by rw [List.length_append]; simp only [List.length_cons, List.length_nil]; omega, hbw.trans (hbt.trans hb5)⟩
                    | none =>
                      cases e8 : signT s2 with
                      | some r =>
                        obtain ⟨k, n⟩ := r
                        have hst : step s2 = some (k, n) := by unfold step; rw [e0, e1, e2, e3, e4, e5, e6, e7, e8]; rfl
                        have hpos := step_pos hst
                        rw [hst] at htk
                        go_wp2_with (first
                          | (go_at_call 11; refine (iri_ok _ s2 l _ hS hs9 hl6 hs0).mono ?_; rintro e u0 ⟨rfl, a0⟩; rw [e0] at a0 ⊢; have S0 := hS.below a0; have B0 : Below w.heap.size wr u0 := a0.mono hxle)
                          | (go_at_call 12; refine (blank_ok _ s2 l _ S0 hs9 hl6 hs0).mono ?_; rintro e u1 ⟨rfl, a1⟩; rw [e1] at a1 ⊢; have S1 := S0.below a1; have B1 : Below w.heap.size wr u1 := B0.trans (a1.mono (Nat.le_of_lt S0.lt)))
                          | (go_at_call 13; refine (variable_ok _ s2 l _ S1 hs9 hl6 hs0).mono ?_; rintro e u2 ⟨rfl, a2⟩; rw [e2] at a2 ⊢; have S2 := S1.below a2; have B2 : Below w.heap.size wr u2 := B1.trans (a2.mono (Nat.le_of_lt S1.lt)))
                          | (go_at_call 14; refine (text_ok _ s2 l _ S2 hs9 hl6 hs0).mono ?_; rintro e u3 ⟨rfl, a3⟩; rw [e3] at a3 ⊢; have S3 := S2.below a3; have B3 : Below w.heap.size wr u3 := B2.trans (a3.mono (Nat.le_of_lt S2.lt)))
                          | (go_at_call 15; refine (language_ok _ s2 l _ S3 hs9 hl6 hs0).mono ?_; rintro e u4 ⟨rfl, a4⟩; rw [e4] at a4 ⊢; have S4 := S3.below a4; have B4 : Below w.heap.size wr u4 := B3.trans (a4.mono (Nat.le_of_lt S3.lt)))
                          | (go_at_call 16; refine (number_ok _ s2 l _ S4 hs9 hl6 hs0).mono ?_; rintro e u5 ⟨rfl, a5⟩; rw [e5] at a5 ⊢; have S5 := S4.below a5; have B5 : Below w.heap.size wr u5 := B4.trans (a5.mono (Nat.le_of_lt S4.lt)))
                          | (go_at_call 17; refine (name_ok _ s2 l _ S5 hs9 hl6 hs0).mono ?_; rintro e u6 ⟨rfl, a6⟩; rw [e6] at a6 ⊢; have S6 := S5.below a6; have B6 : Below w.heap.size wr u6 := B5.trans (a6.mono (Nat.le_of_lt S5.lt)))
                          | (go_at_call 18; refine (word_ok _ s2 l _ S6 hs9 hl6 hs0).mono ?_; rintro e u7 ⟨rfl, a7⟩; rw [e7] at a7 ⊢; have S7 := S6.below a7; have B7 : Below w.heap.size wr u7 := B6.trans (a7.mono (Nat.le_of_lt S6.lt)))
                          | (go_at_call 19; refine (sign_ok _ s2 l _ S7 hs9 hl6 hs0).mono ?_; rintro e u8 ⟨rfl, a8⟩; rw [e8] at a8 ⊢; obtain ⟨hnl, ht, hbt0⟩ := a8; have hbt : Below w.heap.size wr u8 := B7.trans hbt0)
                          | (go_at_call 10; refine (blanks_calls _ _ _ _ ht (by rw [dropS_size]; omega)).mono ?_; rintro e w5 ⟨rfl, s5, h5, he5, hb5⟩))
                        obtain rfl : s5 = skB (dropS s2 n) := bytes_ext he5
                        go_roundg g'
                        case measure => omega
                        case rel =>
                          have e1 := skB_size (dropS s2 n)
                          rw [dropS_size] at e1
                          exact ⟨_, _, h5, htk, by omega, by rw [List.length_append]; simp only [List.length_cons, List.length_nil]; omega, hbw.trans (hbt.trans hb5)⟩
                      | none =>
                        have hst : step s2 = none := by unfold step; rw [e0, e1, e2, e3, e4, e5, e6, e7, e8]; rfl
                        rw [hst] at htk
                        have hn : toks (s.size + 1) (skB s) [] = none := htk.symm
                        rw [hn] at hR
                        subst hR
                        go_wp2_with (first
                            | (go_at_call 11; refine (iri_ok _ s2 l _ hS hs9 hl6 hs0).mono ?_; rintro e u0 ⟨rfl, a0⟩; rw [e0] at a0 ⊢; have S0 := hS.below a0; have B0 : Below w.heap.size wr u0 := a0.mono hxle)
                            | (go_at_call 12; refine (blank_ok _ s2 l _ S0 hs9 hl6 hs0).mono ?_; rintro e u1 ⟨rfl, a1⟩; rw [e1] at a1 ⊢; have S1 := S0.below a1; have B1 : Below w.heap.size wr u1 := B0.trans (a1.mono (Nat.le_of_lt S0.lt)))
                            | (go_at_call 13; refine (variable_ok _ s2 l _ S1 hs9 hl6 hs0).mono ?_; rintro e u2 ⟨rfl, a2⟩; rw [e2] at a2 ⊢; have S2 := S1.below a2; have B2 : Below w.heap.size wr u2 := B1.trans (a2.mono (Nat.le_of_lt S1.lt)))
                            | (go_at_call 14; refine (text_ok _ s2 l _ S2 hs9 hl6 hs0).mono ?_; rintro e u3 ⟨rfl, a3⟩; rw [e3] at a3 ⊢; have S3 := S2.below a3; have B3 : Below w.heap.size wr u3 := B2.trans (a3.mono (Nat.le_of_lt S2.lt)))
                            | (go_at_call 15; refine (language_ok _ s2 l _ S3 hs9 hl6 hs0).mono ?_; rintro e u4 ⟨rfl, a4⟩; rw [e4] at a4 ⊢; have S4 := S3.below a4; have B4 : Below w.heap.size wr u4 := B3.trans (a4.mono (Nat.le_of_lt S3.lt)))
                            | (go_at_call 16; refine (number_ok _ s2 l _ S4 hs9 hl6 hs0).mono ?_; rintro e u5 ⟨rfl, a5⟩; rw [e5] at a5 ⊢; have S5 := S4.below a5; have B5 : Below w.heap.size wr u5 := B4.trans (a5.mono (Nat.le_of_lt S4.lt)))
                            | (go_at_call 17; refine (name_ok _ s2 l _ S5 hs9 hl6 hs0).mono ?_; rintro e u6 ⟨rfl, a6⟩; rw [e6] at a6 ⊢; have S6 := S5.below a6; have B6 : Below w.heap.size wr u6 := B5.trans (a6.mono (Nat.le_of_lt S5.lt)))
                            | (go_at_call 18; refine (word_ok _ s2 l _ S6 hs9 hl6 hs0).mono ?_; rintro e u7 ⟨rfl, a7⟩; rw [e7] at a7 ⊢; have S7 := S6.below a7; have B7 : Below w.heap.size wr u7 := B6.trans (a7.mono (Nat.le_of_lt S6.lt)))
                            | (go_at_call 19; refine (sign_ok _ s2 l _ S7 hs9 hl6 hs0).mono ?_; rintro e u8 ⟨rfl, a8⟩; rw [e8] at a8 ⊢; have S8 := S7.below a8; have B8 : Below w.heap.size wr u8 := B7.trans (a8.mono (Nat.le_of_lt S7.lt))))
                        go_ret2
                        exact ⟨hbw.trans B8, rfl⟩
end
end Go.Proofs.YtcanfpppllhogaaDoor.Lx
