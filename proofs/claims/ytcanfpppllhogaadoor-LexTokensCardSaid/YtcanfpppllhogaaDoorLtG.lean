/- What lex and the reference answer, function by function (LexTokens, part G). -/
import Derived.Test.YtcanfpppllhogaaDoorLtF
import Derived.Laws.ResultCell
import Derived.Laws.Concat
namespace Go.Proofs.YtcanfpppllhogaaDoor.Lx
open Go.RowKit Go.Proofs
open Go.Am (spanL)
noncomputable section

def twos : List ByteArray := [⟨#[38, 38]⟩, ⟨#[124, 124]⟩, ⟨#[33, 61]⟩, ⟨#[60, 61]⟩, ⟨#[62, 61]⟩, ⟨#[94, 94]⟩]
def ones : List UInt8 := [123, 125, 40, 41, 91, 93, 46, 59, 44, 61, 60, 62, 33, 43, 45, 42, 47, 124, 94, 63]
def hasP (s p : ByteArray) : Bool := Lib.hasPrefix s.data.toList p.data.toList
def signT (s : ByteArray) : Option (Tok × Nat) :=
  match twos.find? (hasP s) with
  | some p => some ((9, p), 2)
  | none => if Lib.indexByte ones (atB s 0).toUInt8 < 0 then none else some ((9, s.extract 0 1), 1)
theorem hasP_le {s p : ByteArray} (h : hasP s p = true) : p.size ≤ s.size := by
  have := (List.isPrefixOf_iff_prefix.1 h).length_le
  rw [Array.length_toList, Array.length_toList] at this
  exact this
theorem twos_at {j : Nat} (h : j < 6) : ∃ p, twos[j]? = some p ∧ p.size = 2 ∧ twos.drop j = p :: twos.drop (j + 1) := by
  match j, h with
  | 0, _ => exact ⟨_, rfl, rfl, rfl⟩
  | 1, _ => exact ⟨_, rfl, rfl, rfl⟩
  | 2, _ => exact ⟨_, rfl, rfl, rfl⟩
  | 3, _ => exact ⟨_, rfl, rfl, rfl⟩
  | 4, _ => exact ⟨_, rfl, rfl, rfl⟩
  | 5, _ => exact ⟨_, rfl, rfl, rfl⟩
  | j + 6, h => omega
set_option maxHeartbeats 8000000 in
set_option maxRecDepth 1000000 in
theorem sign_ok : MOk 19 signT := by
  intro x s l w h hs hl h0
  have k0 := h.cell
  have hx := Nat.le_of_lt h.lt
  have hc0 : atB s 0 = s[0].toNat := atB_in h0
  have h0I : (0 : Int) < (s.size : Int) := by omega
  obtain ⟨R, hR⟩ : ∃ R, signT s = R := ⟨_, rfl⟩
  rw [hR]
  unfold signT at hR
  go_enter Tryd.func19, Tryd.ntmps19
  go_wp2
  obtain ⟨w1, hw1⟩ : ∃ w1, w.alloc (.cells #[.string ⟨#[38, 38]⟩, .string ⟨#[124, 124]⟩, .string ⟨#[33, 61]⟩, .string ⟨#[60, 61]⟩, .string ⟨#[62, 61]⟩, .string ⟨#[94, 94]⟩] 9) = w1 := ⟨_, rfl⟩
  have hcell : ∀ (j : Nat) (p : ByteArray), twos[j]? = some p → w1.cell? ⟨w.heap.size, j, none⟩ = some (.string p) := by
    intro j p hp
    rw [← hw1]
    match j, hp with
    | 0, hp => obtain rfl := Option.some.inj hp; simp
    | 1, hp => obtain rfl := Option.some.inj hp; simp
    | 2, hp => obtain rfl := Option.some.inj hp; simp
    | 3, hp => obtain rfl := Option.some.inj hp; simp
    | 4, hp => obtain rfl := Option.some.inj hp; simp
    | 5, hp => obtain rfl := Option.some.inj hp; simp
    | j + 6, hp => simp [twos] at hp
  have hb1 : Below w.heap.size w w1 := by rw [← hw1]; exact (Below.refl _ _).alloc (Nat.le_refl _) _
  have h1 := h.below hb1
  have k1 := h1.cell
  rw [hw1]
  clear hw1
  go_loopg [7] 7 (fun gf i wx => ∃ j : Nat, i = .int .i64 (j : Int) ∧ j ≤ 6 ∧ twos.find? (hasP s) = (twos.drop j).find? (hasP s) ∧ wx = w1 ∧ 7 ≤ gf + j)
  case atStart => exact ⟨0, rfl, by omega, rfl, rfl, by omega⟩
  case round =>
    obtain ⟨j, rfl, hj, hf, rfl, hfu⟩ := hrel
    by_cases hj6 : j < 6
    · obtain ⟨p, hp, hp2, hd⟩ := twos_at hj6
      have cj := hcell j p hp
      have hjI : (j : Int) < 6 := by omega
      have hpI : (p.size : Int) = 2 := by omega
      obtain ⟨g', rfl⟩ : ∃ g', gk = g' + 1 := ⟨gk - 1, by omega⟩
      rw [hd, List.find?_cons] at hf
      have hHP := Tryd.strings_HasPrefix s p
      cases hh : hasP s p with
      | true =>
        have hle := hasP_le hh
        rw [hh] at hf
        rw [hf] at hR
        subst hR
        go_wp2_with (first
          | (go_at_call 24; refine (hHP _).mono ?_; rintro e w2 ⟨rfl, rfl⟩; rw [show Lib.hasPrefix s.data.toList p.data.toList = true from hh])
          | (go_at_call 30; refine (token_callsI x 2 _ _ s l _ h1 (by omega) hl _ (by omega)).mono ?_; rintro e w3 ⟨rfl, h3, hb3⟩))
        go_ret
        exact ⟨rfl, by omega, h3, (hb1.mono hx).trans hb3⟩
      | false =>
        rw [hh] at hf
        go_wp2_with (go_at_call 24; refine (hHP _).mono ?_; rintro e w2 ⟨rfl, rfl⟩; rw [show Lib.hasPrefix s.data.toList p.data.toList = false from hh])
        go_roundg g'
        case measure => omega
        case rel => exact ⟨j + 1, by simp, by omega, hf, rfl, by omega⟩
    · obtain rfl : j = 6 := by omega
      have hfn : twos.find? (hasP s) = none := hf
      rw [hfn] at hR
      have hI : ∀ W, Calls Tryd.prog 28 #[.string ⟨#[123, 125, 40, 41, 91, 93, 46, 59, 44, 61, 60, 62, 33, 43, 45, 42, 47, 124, 94, 63]⟩, .int .u8 (s[0].toNat : Int)] W fun e w' => e = .returned (.int .i64 (Lib.indexByte ones (atB s 0).toUInt8)) ∧ w' = W := by
        intro W
        refine (Tryd.strings_IndexByte _ _ W).mono ?_
        rintro e w' ⟨rfl, rfl⟩
        rw [hc0]
        exact ⟨rfl, rfl⟩
      obtain ⟨I, hIe⟩ : ∃ I, Lib.indexByte ones (atB s 0).toUInt8 = I := ⟨_, rfl⟩
      rw [hIe] at hI
      dsimp only at hR
      rw [hIe] at hR
      by_cases hneg : I < 0
      · rw [if_pos hneg] at hR
        subst hR
        go_wp2_with (go_at_call 28; refine (hI _).mono ?_; rintro e w2 ⟨rfl, rfl⟩)
        go_ret
        exact ⟨rfl, hb1⟩
      · rw [if_neg hneg] at hR
        subst hR
        go_wp2_with (first
          | (go_at_call 28; refine (hI _).mono ?_; rintro e w2 ⟨rfl, rfl⟩)
          | (go_at_call 30; refine (token_callsI x 1 _ _ s l _ h1 (by omega) hl _ (by omega)).mono ?_; rintro e w3 ⟨rfl, h3, hb3⟩))
        go_ret
        exact ⟨rfl, by omega, h3, (hb1.mono hx).trans hb3⟩
end
end Go.Proofs.YtcanfpppllhogaaDoor.Lx
