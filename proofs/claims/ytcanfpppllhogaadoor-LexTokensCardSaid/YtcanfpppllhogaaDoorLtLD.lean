/- The law's walk (LexTokens, part LD). -/
import Derived.Test.YtcanfpppllhogaaDoorLtLC
import Derived.Laws.ResultCell
import Derived.Laws.Concat
namespace Go.Proofs.YtcanfpppllhogaaDoor.Lx
open Go.RowKit Go.Proofs
open Go.Am (spanL)
noncomputable section

/-! ### the law -/
set_option maxHeartbeats 4000000 in
set_option maxRecDepth 1000000 in
theorem text_zero (a : Option Addr) (cap : Nat) (raw : ByteArray) (w : World) :
    Calls Tryd.prog 5 #[.slice a 0 cap, .string raw] w fun e w' => (∃ t : ByteArray, t.size ≤ 4000 ∧ e = .returned (.string t)) ∧ Below w.heap.size w w' := by
  go_enter Tryd.func5, Tryd.ntmps5
  go_wp2
  go_loopg [5, 6] 1 (fun gf v i wx => i = .int .i64 0 ∧ v = .string ⟨#[]⟩ ∧ wx = w ∧ 0 < gf)
  case atStart => exact ⟨rfl, rfl, rfl, by omega⟩
  case round =>
    obtain ⟨rfl, rfl, rfl, hfu⟩ := hrel
    go_wp2
    go_ret
    exact ⟨⟨⟨#[]⟩, by show 0 ≤ 4000; omega, rfl⟩, Below.refl _ _⟩
/-- every row of numbers has its text. -/
def TextOk (W : World) (v : Value) : Prop := ∀ (raw : ByteArray), raw.size ≤ 100 → ∀ w, Below W.heap.size W w →
  Calls Tryd.prog 5 #[v, .string raw] w fun e w' => (∃ t : ByteArray, t.size ≤ 4000 ∧ e = .returned (.string t)) ∧ Below w.heap.size w w'
theorem tokens_some {t : ByteArray} {l : List Tok} (hP : tokensP t = some l) (w : World) (ht : t.size ≤ 4000) :
    Calls Tryd.prog 6 #[.string t] w fun e w' => ∃ v, e = .returned (.tuple #[v, .int .i64 0]) ∧ w'.ownsRow w.heap.size 35 2 v l.length (cellsT l) ∧ l.length ≤ 4000 ∧ Below w.heap.size w w' :=
  (tokens_calls t w ht).mono fun e w' h => by
    obtain ⟨hb, hp⟩ := h
    rw [hP] at hp
    obtain ⟨v, h1, h2, h3⟩ := hp
    exact ⟨v, h1, h2, h3, hb⟩
theorem tokens_none {t : ByteArray} (hP : tokensP t = none) (w : World) (ht : t.size ≤ 4000) :
    Calls Tryd.prog 6 #[.string t] w fun e w' => e = .returned (.tuple #[.slice none 0 0, .int .i64 6]) ∧ Below w.heap.size w w' :=
  (tokens_calls t w ht).mono fun e w' h => by
    obtain ⟨hb, hp⟩ := h
    rw [hP] at hp
    exact ⟨hp, hb⟩
theorem rtokens_some {t : ByteArray} {l : List Tok} (hP : tokensP t = some l) (w : World) (ht : t.size ≤ 4000) :
    Calls Tryd.prog 7 #[.string t] w fun e w' => ∃ v, e = .returned (.tuple #[v, .int .i64 0]) ∧ w'.ownsRow w.heap.size 35 2 v l.length (cellsT l) ∧ l.length ≤ 4000 ∧ Below w.heap.size w w' :=
  (rtokens_calls t w ht).mono fun e w' h => by
    obtain ⟨hb, hp⟩ := h
    rw [hP] at hp
    obtain ⟨v, h1, h2, h3⟩ := hp
    exact ⟨v, h1, h2, h3, hb⟩
theorem rtokens_none {t : ByteArray} (hP : tokensP t = none) (w : World) (ht : t.size ≤ 4000) :
    Calls Tryd.prog 7 #[.string t] w fun e w' => e = .returned (.tuple #[.slice none 0 0, .int .i64 6]) ∧ Below w.heap.size w w' :=
  (rtokens_calls t w ht).mono fun e w' h => by
    obtain ⟨hb, hp⟩ := h
    rw [hP] at hp
    exact ⟨hp, hb⟩
theorem three_at (w : World) (a b c : ByteArray) (t : TypeId) (ha : a.size ≤ 4000) (hb : b.size ≤ 4000) (hc : c.size ≤ 4000) (j : Nat) (hj : j < 3) :
    ∃ s : ByteArray, s.size ≤ 4000 ∧ (w.alloc (.cells #[.string a, .string b, .string c] t)).cell? ⟨w.heap.size, j, none⟩ = some (.string s) := by
  match j, hj with
  | 0, _ => exact ⟨a, ha, by simp⟩
  | 1, _ => exact ⟨b, hb, by simp⟩
  | 2, _ => exact ⟨c, hc, by simp⟩
set_option maxHeartbeats 8000000 in
set_option maxRecDepth 1000000 in
theorem law_calls (v : Value) (raw : ByteArray) (w : World) (hT : TextOk w v) :
    Calls Tryd.prog 3 #[v, .string raw] w fun e w' => e = .returned (.bool true) ∧ Below w.heap.size w w' := by
  have cK := fun W => known_is W
  by_cases hr : raw.size ≤ 100
  · have hrI : ¬ (100 : Int) < (raw.size : Int) := by omega
    go_enter Tryd.func3, Tryd.ntmps3
    go_wp2_with (first
      | (go_at_call 4; refine (cK _).mono ?_; rintro e w1 ⟨rfl, hb1⟩)
      | (go_at_call 5; refine (hT raw hr w2 hb2).mono ?_; rintro e w3 ⟨⟨t2, ht2, rfl⟩, hb3⟩)
      | (go_at_call 5; refine (hT ⟨#[]⟩ (by decide) w1 hb1).mono ?_; rintro e w2 ⟨⟨t1, ht1, rfl⟩, hbx⟩; have hb2 := hb1.trans (hbx.mono hb1.size)))
    have hb3' := hb2.trans (hb3.mono hb2.size)
    obtain ⟨w4, hw4⟩ : ∃ w4, w3.alloc (.cells #[.string t1, .string t2, .string raw] 9) = w4 := ⟨_, rfl⟩
    have hcell : ∀ j, j < 3 → ∃ s : ByteArray, s.size ≤ 4000 ∧ w4.cell? ⟨w3.heap.size, j, none⟩ = some (.string s) := fun j hj => by
      rw [← hw4]; exact three_at w3 t1 t2 raw _ ht1 ht2 (by omega) j hj
    have hb4 : Below w.heap.size w w4 := by rw [← hw4]; exact hb3'.alloc hb3'.size _
    have hlt4 : w3.heap.size < w4.heap.size := by rw [← hw4]; simp
    rw [hw4]
    clear hw4 hT cK
    go_loopg [6] 4 (fun gf i wx => ∃ j : Nat, i = .int .i64 (j : Int) ∧ j ≤ 3 ∧ Below w4.heap.size w4 wx ∧ 4 ≤ gf + j)
    case atStart => exact ⟨0, rfl, by omega, Below.refl _ _, by omega⟩
    case round =>
      obtain ⟨j, rfl, hj, hbw, hfu⟩ := hrel
      by_cases hj3 : j < 3
      · have hjI : (j : Int) < 3 := by omega
        obtain ⟨g', rfl⟩ : ∃ g', gk = g' + 1 := ⟨gk - 1, by omega⟩
        obtain ⟨s, hs, c0⟩ := hcell j hj3
        have c1 := (hbw.cell (p := ⟨w3.heap.size, j, none⟩) hlt4).trans c0
        have hltr := Nat.lt_of_lt_of_le hlt4 hbw.size
        clear hcell c0
        cases hP : tokensP s with
        | none =>
          have cA := fun W => tokens_none hP W hs
          have cB := fun W => rtokens_none hP W hs
          clear hP
          go_wp2_with (first
            | (go_at_call 6; refine (cA _).mono ?_; rintro e w5 ⟨rfl, hb5⟩; have c2 := (hb5.cell (p := ⟨w3.heap.size, j, none⟩) hltr).trans c1)
            | (go_at_call 7; refine (cB _).mono ?_; rintro e w6 ⟨rfl, hb6⟩)
            | (go_at_call 8; refine (same_none w6 none none 0 0).mono ?_; rintro e w7 ⟨rfl, hb7⟩))
          go_roundg g'
          case measure => omega
          case rel => exact ⟨j + 1, congrArg (Value.int .i64) (by omega), by omega, hbw.trans ((hb5.trans ((hb6.trans (hb7.mono hb6.size)).mono hb5.size)).mono hbw.size), by omega⟩
        | some l =>
          have cA := fun W => tokens_some hP W hs
          have cB := fun W => rtokens_some hP W hs
          clear hP
          go_wp2_with (first
            | (go_at_call 6; refine (cA _).mono ?_; rintro e w5 ⟨v5, rfl, o5, hl5, hb5⟩; have c2 := (hb5.cell (p := ⟨w3.heap.size, j, none⟩) hltr).trans c1)
            | (go_at_call 7; refine (cB _).mono ?_; rintro e w6 ⟨v6, rfl, o6, hl6, hb6⟩)
            | (go_at_call 8; refine (same_calls l w6 (own_below o5 hb6) o6 hl5).mono ?_; rintro e w7 ⟨rfl, hb7⟩))
          go_roundg g'
          case measure => omega
          case rel => exact ⟨j + 1, congrArg (Value.int .i64) (by omega), by omega, hbw.trans ((hb5.trans ((hb6.trans (hb7.mono hb6.size)).mono hb5.size)).mono hbw.size), by omega⟩
      · have hjI : ¬ (j : Int) < 3 := by omega
        go_wp2
        go_ret
        exact ⟨rfl, hb4.trans (hbw.mono hb4.size)⟩
  · have hrI : (100 : Int) < (raw.size : Int) := by omega
    go_enter Tryd.func3, Tryd.ntmps3
    go_wp2_with (go_at_call 4; refine (cK _).mono ?_; rintro e w1 ⟨rfl, hb1⟩)
    go_ret
    exact ⟨rfl, hb1⟩
end
end Go.Proofs.YtcanfpppllhogaaDoor.Lx
