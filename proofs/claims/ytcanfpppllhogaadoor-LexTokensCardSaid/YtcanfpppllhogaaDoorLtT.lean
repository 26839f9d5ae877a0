/- The reference's token in plain words is the scanner's (LexTokens, part T). -/
import Derived.Test.YtcanfpppllhogaaDoorLtR
import Derived.Laws.ResultCell
import Derived.Laws.Concat
namespace Go.Proofs.YtcanfpppllhogaaDoor.Lx
open Go.RowKit Go.Proofs
open Go.Am (spanL)
noncomputable section

/-! ### the reference's token in plain words -/
theorem ext_list (s : ByteArray) (a b : Nat) : (s.extract a b).data.toList = (s.data.toList.drop a).take (b - a) := by
  rw [ByteArray.data_extract, Array.toList_extract, List.extract_eq_take_drop]
theorem drop_at (s : ByteArray) (n i : Nat) : atB (dropS s n) i = atB s (n + i) := by
  unfold atB dropS
  rw [extract_list, List.getElem?_drop]
theorem drop_sp (p : Nat → Bool) (s : ByteArray) (n i : Nat) : sp p (dropS s n) i = sp p s (n + i) := by
  unfold sp dropS
  rw [extract_list, List.drop_drop]
theorem drop_ext (s : ByteArray) (n a b : Nat) : (dropS s n).extract a b = s.extract (n + a) (n + b) := by
  apply bytes_ext
  rw [ext_list, ext_list]
  unfold dropS
  rw [extract_list, List.drop_drop, show n + b - (n + a) = b - a by omega]
theorem drop_bd (s : ByteArray) (n K : Nat) (h : atB (dropS s n) K ≠ 46) : ∀ M, bd s (n + (K + 1 + M)) = n + bd (dropS s n) (K + 1 + M) := by
  intro M
  induction M with
  | zero =>
    rw [Nat.add_zero, bd_stop h, show n + (K + 1) = (n + K) + 1 by omega, bd_stop (by rw [← drop_at]; exact h)]
  | succ M ih =>
    rw [show n + (K + 1 + (M + 1)) = (n + (K + 1 + M)) + 1 by omega, show K + 1 + (M + 1) = (K + 1 + M) + 1 by omega]
    by_cases c : atB (dropS s n) (K + 1 + M) = 46
    · rw [bd_go (s := s) (by rw [← drop_at]; exact c), bd_go c, ih]
    · rw [bd_stop (s := s) (by rw [← drop_at]; exact c), bd_stop c]
      omega
theorem txt_fuel (s : ByteArray) (q : Nat) : ∀ (f g i : Nat) (out : List UInt8), s.size ≤ f + i → s.size ≤ g + i → txt s q f i out = txt s q g i out := by
  intro f
  induction f with
  | zero =>
    intro g i out h h'
    cases g with
    | zero => rfl
    | succ g => rw [txt, txt, if_neg (by omega)]
  | succ f ih =>
    intro g i out h h'
    cases g with
    | zero => rw [txt, txt, if_neg (by omega)]
    | succ g => rw [txt, txt, ih g (i + 2) _ (by omega) (by omega), ih g (i + 1) _ (by omega) (by omega)]
theorem drop_txt (s : ByteArray) (n q : Nat) : ∀ (f i : Nat) (out : List UInt8), txt s q f (n + i) out = (txt (dropS s n) q f i out).map fun r => (r.1, n + r.2) := by
  intro f
  induction f with
  | zero => intro i out; rfl
  | succ f ih =>
    intro i out
    rw [txt, txt, drop_at, drop_at, dropS_size]
    by_cases h : n + i < s.size
    · rw [if_pos h, if_pos (show i < s.size - n by omega)]
      by_cases h1 : atB s (n + i) = q
      · rw [if_pos h1, if_pos h1]; rfl
      · rw [if_neg h1, if_neg h1]
        by_cases h2 : atB s (n + i) = 10
        · rw [if_pos h2, if_pos h2]; rfl
        · rw [if_neg h2, if_neg h2]
          by_cases h3 : atB s (n + i) = 92
          · rw [if_pos h3, if_pos h3, show n + (i + 1) = n + i + 1 by omega]
            by_cases h4 : escB (atB s (n + i + 1)) = 0
            · rw [if_pos h4, if_pos h4]; rfl
            · rw [if_neg h4, if_neg h4, show n + i + 2 = n + (i + 2) by omega]; exact ih _ _
          · rw [if_neg h3, if_neg h3, show n + i + 1 = n + (i + 1) by omega]; exact ih _ _
    · rw [if_neg h, if_neg (show ¬ i < s.size - n by omega)]; rfl
/-- what the reference takes for an IRI: behind it; nought: none. -/
def ririE (s : ByteArray) (n : Nat) : Nat := if atB s n = 60 ∧ atB s (n + 1 + sp iriP s (n + 1)) = 62 then n + 2 + sp iriP s (n + 1) else 0
/-- the token at a place as the reference looks for it. -/
def rone (s : ByteArray) (n : Nat) : Option (Tok × Nat) :=
  if 0 < ririE s n then some ((1, s.extract (n + 1) (ririE s n - 1)), ririE s n)
  else if atB s n = 95 ∧ atB s (n + 1) = 58 ∧ 0 < sp nameP s (n + 2) then some ((3, s.extract (n + 2) (n + 2 + sp nameP s (n + 2))), n + 2 + sp nameP s (n + 2))
  else if (atB s n = 63 ∨ atB s n = 36) ∧ letterP (atB s (n + 1)) = true then some ((4, s.extract (n + 1) (n + 1 + sp nameP s (n + 1))), n + 1 + sp nameP s (n + 1))
  else if atB s n = 34 ∨ atB s n = 39 then (txt s (atB s n) s.size (n + 1) []).map fun r => ((5, ⟨r.1.toArray⟩), r.2)
  else if atB s n = 64 ∧ lowP (atB s (n + 1)) = true then some ((6, s.extract (n + 1) (n + 1 + sp langP s (n + 1))), n + 1 + sp langP s (n + 1))
  else if digitP (atB s n) = true then some ((7, s.extract n (rnumE s n)), rnumE s n)
  else if (letterP (atB s n) = true ∨ atB s n = 58) ∧ 0 < rnameE s n then some ((2, s.extract n (rnameE s n)), rnameE s n)
  else if letterP (atB s n) = true then some ((8, s.extract n (n + sp nameP s n)), n + sp nameP s n)
  else if rsignE (dropS s n) = 0 then none else some ((9, s.extract n (n + rsignE (dropS s n))), n + rsignE (dropS s n))
theorem sp_no {p : Nat → Bool} {d : ByteArray} (h : p (atB d 0) = false) : sp p d 0 = 0 := by
  unfold sp
  rw [List.drop_zero]
  cases hd : d.data.toList with
  | nil => rfl
  | cons c r =>
    have hc : atB d 0 = c.toNat := by rw [atB_toList, hd]; rfl
    rw [hc] at h
    rw [spanL_cons, h]
    rfl
theorem sp_yes {p : Nat → Bool} {d : ByteArray} (h : p (atB d 0) = true) (h0 : 0 < d.size) : sp p d 0 ≠ 0 := by
  unfold sp
  rw [List.drop_zero]
  cases hd : d.data.toList with
  | nil => rw [size_eq, hd] at h0; exact absurd h0 (Nat.lt_irrefl 0)
  | cons c r =>
    have hc : atB d 0 = c.toNat := by rw [atB_toList, hd]; rfl
    rw [hc] at h
    rw [spanL_cons, h]
    simp only [if_true]
    rw [spanL_add]
    omega
theorem dash_TF : dashP true false = nameAP := by funext c; unfold dashP nameAP; simp
theorem dash_TT : dashP true true = nameBP := by funext c; unfold dashP nameBP; simp
theorem dash_FF : dashP false false = nameP := by funext c; unfold dashP; simp
theorem hasP_first {d p : ByteArray} (h : hasP d p = true) (h2 : p.size = 2) : atB d 0 = atB p 0 := by
  have := List.isPrefixOf_iff_prefix.1 h
  obtain ⟨t, ht⟩ := this
  unfold atB
  rw [← ht, List.getElem?_append_left (by rw [← size_eq]; omega)]
theorem twos_first : ∀ p ∈ twos, atB p 0 ≠ 34 ∧ atB p 0 ≠ 39 := by decide +kernel
theorem ext_all {d p : ByteArray} (h : hasP d p = true) (h2 : p.size = 2) : d.extract 0 2 = p := by
  apply bytes_ext
  rw [ext_list, List.drop_zero]
  have h3 : p.data.toList.length = 2 := by rw [← size_eq]; exact h2
  have := List.prefix_iff_eq_take.1 (List.isPrefixOf_iff_prefix.1 h)
  rw [h3] at this
  exact this.symm
theorem ones_index : ∀ c : UInt8, (Lib.indexByte ones c < 0) = (ones.contains c = false) := by
  have : ∀ n : Fin 256, decide (Lib.indexByte ones (UInt8.ofNat n.val) < 0) = !(ones.contains (UInt8.ofNat n.val)) := by decide +kernel
  intro c
  have h := this ⟨c.toNat, c.toNat_lt⟩
  simp only [UInt8.ofNat_toNat] at h
  cases hc : ones.contains c <;> rw [hc] at h <;> simpa using h
theorem sign_plain (d : ByteArray) : signT d = if rsignE d = 0 then none else some ((9, d.extract 0 (rsignE d)), rsignE d) := by
  unfold signT rsignE
  cases hf : twos.find? (hasP d) with
  | some p =>
    have hp := List.find?_some hf
    have hm := twos_size p (List.mem_of_find?_eq_some hf)
    simp only [if_neg (show ¬ (2 : Nat) = 0 by decide)]
    rw [ext_all hp hm]
  | none =>
    simp only
    cases hc : ones.contains (atB d 0).toUInt8 with
    | true => rw [if_neg (by rw [ones_index, hc]; decide)]; rfl
    | false => rw [if_pos (by rw [ones_index]; exact hc)]; rfl
theorem sign_quote {d : ByteArray} (h : atB d 0 = 34 ∨ atB d 0 = 39) : signT d = none := by
  rw [sign_plain]
  have : rsignE d = 0 := by
    unfold rsignE
    have hf : twos.find? (hasP d) = none := by
      rw [List.find?_eq_none]
      intro p hp hh
      have h1 := hasP_first hh (twos_size p hp)
      have h2 := twos_first p hp
      omega
    rw [hf]
    rcases h with h | h <;> rw [h] <;> rfl
  rw [this]
  rfl
theorem rnum_num (s : ByteArray) (n : Nat) : rnumE s n = n + numLen (dropS s n) := by
  unfold rnumE numLen
  rw [drop_at, drop_at, drop_sp, drop_sp]
  simp only [Nat.add_zero, Nat.add_assoc]
  split <;> omega
theorem rname_name (s : ByteArray) (n : Nat) : rnameE s n = if atB (dropS s n) (nameAt (dropS s n)) = 58 then n + bd (dropS s n) (nameEnd (dropS s n)) else 0 := by
  have hK : nameK s n = n + nameAt (dropS s n) := by
    unfold nameK nameAt
    rw [drop_at, drop_sp, dash_TF]
    simp only [Nat.add_zero]
    split <;> rfl
  unfold rnameE
  rw [hK, drop_at]
  by_cases h : atB s (n + nameAt (dropS s n)) = 58
  · rw [if_pos h, if_pos h]
    unfold nameEnd
    rw [← drop_bd s n (nameAt (dropS s n)) (by rw [drop_at, h]; decide), drop_sp, dash_TT]
    simp only [Nat.add_assoc]
  · rw [if_neg h, if_neg h]
theorem orE_none {α : Type} (b : Option α) : orE none b = b := rfl
theorem orE_some {α : Type} (a : α) (b : Option α) : orE (some a) b = some a := rfl
theorem orE_nones {α : Type} (a : Option α) : orE a none = a := by cases a <;> rfl
theorem rone_step (s : ByteArray) (n : Nat) (hn : n < s.size) : rone s n = (step (dropS s n)).map fun p => (p.1, n + p.2) := by
  have hd0 : 0 < (dropS s n).size := by rw [dropS_size]; omega
  have hc : atB (dropS s n) 0 = atB s n := drop_at s n 0
  unfold rone step
  by_cases c1 : atB s n = 60 ∧ atB s (n + 1 + sp iriP s (n + 1)) = 62
  · have e1 : ririE s n = n + 2 + sp iriP s (n + 1) := by unfold ririE; rw [if_pos c1]
    have e2 : iriT (dropS s n) = some ((1, (dropS s n).extract 1 (1 + sp iriP (dropS s n) 1)), sp iriP (dropS s n) 1 + 2) := by
      unfold iriT
      rw [if_pos]
      rw [drop_at, drop_at, drop_sp, ← Nat.add_assoc]
      exact c1
    rw [e2, if_pos (by omega), e1, orE_some, drop_sp, drop_ext]
    simp only [Option.map_some, Option.some.injEq, Prod.mk.injEq, true_and]
    exact ⟨by congr 1; omega, by omega⟩
  have e1 : ririE s n = 0 := by unfold ririE; rw [if_neg c1]
  have e2 : iriT (dropS s n) = none := by
    unfold iriT
    rw [if_neg]
    rw [drop_at, drop_at, drop_sp, ← Nat.add_assoc]
    exact c1
  rw [e2, orE_none, e1, if_neg (by omega)]
  by_cases c2 : atB s n = 95 ∧ atB s (n + 1) = 58 ∧ 0 < sp nameP s (n + 2)
  · rw [if_pos c2, show blankT (dropS s n) = some ((3, (dropS s n).extract 2 (2 + sp nameP (dropS s n) 2)), 2 + sp nameP (dropS s n) 2) by
      unfold blankT; rw [if_pos]; rw [drop_at, drop_at, drop_sp]; exact c2]
    rw [orE_some, drop_sp, drop_ext]
    simp only [Option.map_some, Nat.add_assoc]
  rw [if_neg c2, show blankT (dropS s n) = none by unfold blankT; rw [if_neg]; rw [drop_at, drop_at, drop_sp]; exact c2, orE_none]
  by_cases c3 : (atB s n = 63 ∨ atB s n = 36) ∧ letterP (atB s (n + 1)) = true
  · rw [if_pos c3, show varT (dropS s n) = some ((4, (dropS s n).extract 1 (1 + sp nameP (dropS s n) 1)), 1 + sp nameP (dropS s n) 1) by
      unfold varT; rw [if_pos]; rw [drop_at, drop_at]; exact c3]
    rw [orE_some, drop_sp, drop_ext]
    simp only [Option.map_some, Nat.add_assoc]
  rw [if_neg c3, show varT (dropS s n) = none by unfold varT; rw [if_neg]; rw [drop_at, drop_at]; exact c3, orE_none]
  have hnum : digitP (atB s n) = false → numT (dropS s n) = none := fun h => by
    unfold numT
    rw [if_pos (sp_no (by rw [hc]; exact h))]
  by_cases c4 : atB s n = 34 ∨ atB s n = 39
  · have hL : letterP (atB s n) = false := by rcases c4 with h | h <;> rw [h] <;> rfl
    have hD : digitP (atB s n) = false := by rcases c4 with h | h <;> rw [h] <;> rfl
    rw [if_pos c4, show langT (dropS s n) = none by unfold langT; rw [if_neg]; rw [hc]; omega, hnum hD,
      show nameT (dropS s n) = none by
        unfold nameT nameAt
        rw [hc, hL]
        simp only [Bool.false_eq_true, if_false]
        rw [hc, if_neg (by omega)],
      show wordT (dropS s n) = none by unfold wordT; rw [hc, hL]; rfl, sign_quote (by rw [hc]; exact c4)]
    rw [orE_none, orE_none, orE_none, orE_none, orE_nones]
    unfold textT
    rw [if_pos (by rw [hc]; exact c4), hc, drop_txt, txt_fuel _ _ s.size (dropS s n).size 1 [] (by rw [dropS_size]; omega) (by omega)]
    cases txt (dropS s n) (atB s n) (dropS s n).size 1 [] <;> rfl
  rw [if_neg c4, show textT (dropS s n) = none by unfold textT; rw [if_neg]; rw [hc]; exact c4, orE_none]
  by_cases c5 : atB s n = 64 ∧ lowP (atB s (n + 1)) = true
  · rw [if_pos c5, show langT (dropS s n) = some ((6, (dropS s n).extract 1 (1 + sp langP (dropS s n) 1)), 1 + sp langP (dropS s n) 1) by
      unfold langT; rw [if_pos]; rw [drop_at, drop_at]; exact c5]
    rw [orE_some, drop_sp, drop_ext]
    simp only [Option.map_some, Nat.add_assoc]
  rw [if_neg c5, show langT (dropS s n) = none by unfold langT; rw [if_neg]; rw [drop_at, drop_at]; exact c5, orE_none]
  by_cases c6 : digitP (atB s n) = true
  · rw [if_pos c6, show numT (dropS s n) = some ((7, (dropS s n).extract 0 (numLen (dropS s n))), numLen (dropS s n)) by
      unfold numT; rw [if_neg (sp_yes (by rw [hc]; exact c6) hd0)]]
    rw [orE_some, drop_ext, rnum_num]
    rfl
  rw [if_neg c6, hnum (by simpa using c6), orE_none, rname_name]
  by_cases c7 : atB (dropS s n) (nameAt (dropS s n)) = 58
  · have hp := bd_pos (K := nameAt (dropS s n)) (s := dropS s n) (by omega) (sp nameBP (dropS s n) (nameAt (dropS s n) + 1))
    have hl : letterP (atB s n) = true ∨ atB s n = 58 := by
      by_cases hl : letterP (atB s n) = true
      · exact .inl hl
      · right
        unfold nameAt at c7
        rw [hc, if_neg hl, hc] at c7
        exact c7
    rw [if_pos c7, if_pos ⟨hl, by unfold nameEnd; omega⟩, show nameT (dropS s n) = some ((2, (dropS s n).extract 0 (bd (dropS s n) (nameEnd (dropS s n)))), bd (dropS s n) (nameEnd (dropS s n))) by
      unfold nameT; rw [if_pos c7]]
    rw [orE_some, drop_ext]
    rfl
  rw [if_neg c7, if_neg (by omega), show nameT (dropS s n) = none by unfold nameT; rw [if_neg c7], orE_none]
  by_cases c8 : letterP (atB s n) = true
  · rw [if_pos c8, show wordT (dropS s n) = some ((8, (dropS s n).extract 0 (sp nameP (dropS s n) 0)), sp nameP (dropS s n) 0) by
      unfold wordT; rw [if_pos]; rw [hc]; exact c8]
    rw [orE_some, drop_sp, drop_ext]
    rfl
  rw [if_neg c8, show wordT (dropS s n) = none by unfold wordT; rw [if_neg]; rw [hc]; exact c8, orE_none, sign_plain]
  by_cases c9 : rsignE (dropS s n) = 0
  · rw [if_pos c9, if_pos c9]; rfl
  · rw [if_neg c9, if_neg c9, drop_ext]; rfl
end
end Go.Proofs.YtcanfpppllhogaaDoor.Lx
