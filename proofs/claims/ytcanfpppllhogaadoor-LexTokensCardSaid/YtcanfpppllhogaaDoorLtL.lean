/- What lex and the reference answer, function by function (LexTokens, part L). -/
import Derived.Test.YtcanfpppllhogaaDoorLtK
import Derived.Laws.ResultCell
import Derived.Laws.Concat
namespace Go.Proofs.YtcanfpppllhogaaDoor.Lx
open Go.RowKit Go.Proofs
open Go.Am (spanL)
noncomputable section

/-! ### all tokens -/
def orE {α : Type} (a b : Option α) : Option α := match a with
  | some r => some r
  | none => b
/-- the first of the methods that answers. -/
def step (s : ByteArray) : Option (Tok × Nat) := orE (iriT s) (orE (blankT s) (orE (varT s) (orE (textT s) (orE (langT s) (orE (numT s) (orE (nameT s) (orE (wordT s) (signT s))))))))
/-- what is left behind blanks. -/
def skB (s : ByteArray) : ByteArray := ⟨(skp false s.data.toList).toArray⟩
/-- the tokens of a text that begins with no blank. -/
def toks : Nat → ByteArray → List Tok → Option (List Tok)
  | 0, _, _ => none
  | f + 1, s, acc => if s.size = 0 then some acc else match step s with
    | none => none
    | some (k, n) => toks f (skB (dropS s n)) (acc ++ [k])
theorem skp_len : ∀ (l : List UInt8) (b : Bool), (skp b l).length ≤ l.length := by
  intro l
  induction l with
  | nil => intro b; cases b <;> simp [skp]
  | cons c l ih =>
    intro b
    cases b with
    | true =>
      unfold skp
      split
      · have := ih false; simp only [List.length_cons]; omega
      · have := ih true; simp only [List.length_cons]; omega
    | false =>
      unfold skp
      split
      · have := ih false; simp only [List.length_cons]; omega
      · split
        · have := ih true; simp only [List.length_cons]; omega
        · exact Nat.le_refl _
theorem size_eq (s : ByteArray) : s.size = s.data.toList.length := Array.length_toList.symm
theorem dropS_size (s : ByteArray) (n : Nat) : (dropS s n).size = s.size - n := by
  rw [size_eq, size_eq]; unfold dropS; rw [extract_list, List.length_drop]
theorem skB_size (s : ByteArray) : (skB s).size ≤ s.size := by
  rw [size_eq, size_eq]
  exact skp_len _ _
theorem bytes_ext {a b : ByteArray} (h : a.data.toList = b.data.toList) : a = b := by
  cases a; cases b; simp only at h; rw [Array.toList_inj] at h; simp [h]
theorem txt_pos {s : ByteArray} {q : Nat} : ∀ (f i : Nat) (out : List UInt8) (r : List UInt8 × Nat), txt s q f i out = some r → i + 1 ≤ r.2 := by
  intro f
  induction f with
  | zero => intro i out r h; cases h
  | succ f ih =>
    intro i out r h
    rw [txt] at h
    split at h
    · split at h
      · cases h; exact Nat.le_refl _
      · split at h
        · cases h
        · split at h
          · split at h
            · cases h
            · have := ih _ _ _ h; omega
          · have := ih _ _ _ h; omega
    · cases h
theorem bd_pos {s : ByteArray} {K : Nat} (h : atB s K ≠ 46) : ∀ M, K + 1 ≤ bd s (K + 1 + M) := by
  intro M
  induction M with
  | zero => rw [Nat.add_zero, bd_stop h]; exact Nat.le_refl _
  | succ M ih =>
    rw [show K + 1 + (M + 1) = (K + 1 + M) + 1 by omega, bd]
    split
    · exact ih
    · omega
/-- a token takes a byte at least. -/
theorem step_pos {s : ByteArray} {k : Tok} {n : Nat} (h : step s = some (k, n)) : 1 ≤ n := by
  unfold step at h
  have orE_some : ∀ {a b : Option (Tok × Nat)}, orE a b = some (k, n) → a = some (k, n) ∨ b = some (k, n) := by
    intro a b h
    cases a with
    | some r => exact .inl h
    | none => exact .inr h
  rcases orE_some h with h | h
  · unfold iriT at h; split at h
    · cases h; omega
    · cases h
  rcases orE_some h with h | h
  · unfold blankT at h; split at h
    · cases h; omega
    · cases h
  rcases orE_some h with h | h
  · unfold varT at h; split at h
    · cases h; omega
    · cases h
  rcases orE_some h with h | h
  · unfold textT at h; split at h
    · obtain ⟨r, hr, he⟩ := Option.map_eq_some_iff.1 h
      have := txt_pos _ _ _ _ hr
      cases he; omega
    · cases h
  rcases orE_some h with h | h
  · unfold langT at h; split at h
    · cases h; omega
    · cases h
  rcases orE_some h with h | h
  · unfold numT at h; split at h
    · cases h
    · rename_i hz
      cases h
      unfold numLen
      split <;> omega
  rcases orE_some h with h | h
  · unfold nameT at h; split at h
    · rename_i h58
      cases h
      have := bd_pos (K := nameAt s) (s := s) (by omega) (sp nameBP s (nameAt s + 1))
      unfold nameEnd
      omega
    · cases h
  rcases orE_some h with h | h
  · unfold wordT at h; split at h
    · rename_i hl
      cases h
      unfold sp
      rw [List.drop_zero]
      cases hd : s.data.toList with
      | nil => rw [atB_toList, hd] at hl; cases hl
      | cons c r =>
        have hc : atB s 0 = c.toNat := by rw [atB_toList, hd]; rfl
        rw [hc] at hl
        rw [spanL_cons, show nameP c.toNat = true by unfold nameP; rw [hl]; rfl]
        simp only [if_true]; rw [spanL_add]; omega
    · cases h
  · unfold signT at h
    split at h
    · cases h; omega
    · split at h
      · cases h
      · cases h; omega
end
end Go.Proofs.YtcanfpppllhogaaDoor.Lx
