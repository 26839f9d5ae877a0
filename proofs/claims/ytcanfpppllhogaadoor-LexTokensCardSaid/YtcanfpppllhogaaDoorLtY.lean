/- What lex and the reference answer, function by function (LexTokens, part Y). -/
import Derived.Test.YtcanfpppllhogaaDoorLtX4
import Derived.Laws.ResultCell
import Derived.Laws.Concat
namespace Go.Proofs.YtcanfpppllhogaaDoor.Lx
open Go.RowKit Go.Proofs
open Go.Am (spanL)
noncomputable section

/-! ### the reference's token: all leaves -/
theorem rname_le {s : ByteArray} {n : Nat} (h0 : 0 < rnameE s n) : n ≤ rnameE s n ∧ rnameE s n ≤ s.size := by
  rw [rname_name] at h0 ⊢
  split at h0
  · rename_i c
    rw [if_pos c]
    have h1 : nameAt (dropS s n) < (dropS s n).size := Classical.byContradiction fun hh => by
      rw [atB_out hh] at c
      cases c
    have h2 := sp_le nameBP (dropS s n) (nameAt (dropS s n) + 1)
    have h3 := bd_le (dropS s n) (nameEnd (dropS s n))
    unfold nameEnd at h3 ⊢
    rw [dropS_size] at h1 h2
    omega
  · omega
theorem rname_58 {s : ByteArray} {n : Nat} (h : atB s n = 58) : 0 < rnameE s n := by
  have hc : atB (dropS s n) 0 = 58 := by rw [drop_at]; exact h
  have hK : nameAt (dropS s n) = 0 := by unfold nameAt; rw [hc]; rfl
  rw [rname_name, hK, if_pos hc]
  have := bd_pos (K := nameAt (dropS s n)) (s := dropS s n) (by rw [hK, hc]; decide) (sp nameBP (dropS s n) (nameAt (dropS s n) + 1))
  unfold nameEnd
  omega
theorem low_in {c : Nat} : lowP c = true ↔ 97 ≤ c ∧ c ≤ 122 := by
  unfold lowP
  rw [Bool.and_eq_true]
  exact ⟨fun h => ⟨Nat.le_of_ble_eq_true h.1, Nat.le_of_ble_eq_true h.2⟩, fun h => ⟨Nat.ble_eq_true_of_le h.1, Nat.ble_eq_true_of_le h.2⟩⟩
theorem rone_calls (s : ByteArray) (n : Nat) (w : World) (hn : n < s.size) (hs : s.size ≤ 4000) :
    Calls Tryd.prog 21 #[.string s, .int .i64 (n : Int)] w fun e w' => OnePost (rone s n) e ∧ Below w.heap.size w w' := by
  have hat : atB s n = s[n].toNat := atB_in hn
  have hin : ∀ {c : Nat}, c ≠ 0 → atB s (n + 1) = c → n + 1 < s.size := fun {c} h0 h => Classical.byContradiction fun hh => by
    rw [atB_out hh] at h
    exact h0 h.symm
  unfold rone
  rw [hat]
  by_cases c1 : 0 < ririE s n
  · obtain ⟨J, hJ⟩ : ∃ J, ririE s n = J + 1 := ⟨ririE s n - 1, by omega⟩
    rw [if_pos c1, hJ, Nat.add_sub_cancel]
    exact rone_iri s n w hn hs J hJ
  rw [if_neg c1]
  have hI : ririE s n = 0 := by omega
  by_cases c2 : s[n].toNat = 95 ∧ atB s (n + 1) = 58 ∧ 0 < sp nameP s (n + 2)
  · rw [if_pos c2]
    have hl := hin (by decide) c2.2.1
    exact rone_blank s n w hn hs hI hl c2.1 (by rw [← atB_in hl]; exact c2.2.1) _ rfl (by omega)
  rw [if_neg c2]
  by_cases c3 : (s[n].toNat = 63 ∨ s[n].toNat = 36) ∧ letterP (atB s (n + 1)) = true
  · rw [if_pos c3]
    have hl : n + 1 < s.size := Classical.byContradiction fun hh => by
      have := c3.2
      rw [atB_out hh] at this
      cases this
    have hL := c3.2
    rw [atB_in hl] at hL
    rcases c3.1 with h | h
    · exact rone_var63 s n w hn hs hI hl h _ rfl hL _ rfl
    · exact rone_var36 s n w hn hs hI hl h _ rfl hL _ rfl
  rw [if_neg c3]
  by_cases c4 : s[n].toNat = 34 ∨ s[n].toNat = 39
  · rw [if_pos c4]
    rcases c4 with h | h <;> rw [h]
    · cases hT : txt s 34 s.size (n + 1) [] with
      | none => exact rone_textN34 s n w hn hs hI h hT
      | some r => exact rone_text34 s n w hn hs hI h r.1 r.2 hT
    · cases hT : txt s 39 s.size (n + 1) [] with
      | none => exact rone_textN39 s n w hn hs hI h hT
      | some r => exact rone_text39 s n w hn hs hI h r.1 r.2 hT
  rw [if_neg c4]
  by_cases c5 : s[n].toNat = 64 ∧ lowP (atB s (n + 1)) = true
  · rw [if_pos c5]
    have h5 := low_in.1 c5.2
    have hl := hin (by omega) rfl
    rw [atB_in hl] at h5
    exact rone_lang s n w hn hs hI hl c5.1 _ rfl h5.1 h5.2 _ rfl
  rw [if_neg c5]
  by_cases c6 : digitP s[n].toNat = true
  · rw [if_pos c6]
    exact rone_num s n w hn hs hI c6 _ rfl
  rw [if_neg c6]
  by_cases c7 : (letterP s[n].toNat = true ∨ s[n].toNat = 58) ∧ 0 < rnameE s n
  · rw [if_pos c7]
    have hb := rname_le c7.2
    rcases c7.1 with h | h
    · exact rone_name s n w hn hs hI h _ rfl c7.2 hb.1 hb.2
    · exact rone_name58 s n w hn hs hI h _ rfl c7.2 hb.1 hb.2
  rw [if_neg c7]
  have h58 : s[n].toNat ≠ 58 := fun h => c7 ⟨.inr h, rname_58 (by rw [hat]; exact h)⟩
  by_cases c8 : letterP s[n].toNat = true
  · rw [if_pos c8]
    exact rone_word s n w hn hs hI c8 (Nat.eq_zero_of_not_pos fun h => c7 ⟨.inl c8, h⟩) _ rfl
  rw [if_neg c8]
  have hL : letterP s[n].toNat = false := by simpa using c8
  have hD : digitP s[n].toNat = false := by simpa using c6
  by_cases h95 : s[n].toNat = 95
  · by_cases hl : n + 1 < s.size
    · by_cases h5 : s[n + 1].toNat = 58
      · have hK : n + 2 + sp nameP s (n + 2) = n + 2 := by
          have : ¬ 0 < sp nameP s (n + 2) := fun h => c2 ⟨h95, by rw [atB_in hl]; exact h5, h⟩
          omega
        by_cases hZ : rsignE (dropS s n) = 0
        · rw [if_pos hZ]; exact rone_us2N s n w hn hs hI hl h95 h5 hK hZ
        · rw [if_neg hZ]; exact rone_us2Z s n w hn hs hI hl h95 h5 hK _ rfl (by omega)
      · by_cases hZ : rsignE (dropS s n) = 0
        · rw [if_pos hZ]; exact rone_us1N s n w hn hs hI hl h95 _ rfl h5 hZ
        · rw [if_neg hZ]; exact rone_us1Z s n w hn hs hI hl h95 _ rfl h5 _ rfl (by omega)
    · by_cases hZ : rsignE (dropS s n) = 0
      · rw [if_pos hZ]; exact rone_us3N s n w hn hs hI hl h95 hZ
      · rw [if_neg hZ]; exact rone_us3Z s n w hn hs hI hl h95 _ rfl (by omega)
  by_cases h63 : s[n].toNat = 63
  · by_cases hl : n + 1 < s.size
    · have hE : letterP s[n + 1].toNat = false := by
        cases h : letterP s[n + 1].toNat with
        | false => rfl
        | true => exact absurd ⟨.inl h63, by rw [atB_in hl]; exact h⟩ c3
      by_cases hZ : rsignE (dropS s n) = 0
      · rw [if_pos hZ]; exact rone_v63aN s n w hn hs hI hl h63 _ rfl hE hZ
      · rw [if_neg hZ]; exact rone_v63aZ s n w hn hs hI hl h63 _ rfl hE _ rfl (by omega)
    · by_cases hZ : rsignE (dropS s n) = 0
      · rw [if_pos hZ]; exact rone_v63bN s n w hn hs hI hl h63 hZ
      · rw [if_neg hZ]; exact rone_v63bZ s n w hn hs hI hl h63 _ rfl (by omega)
  by_cases h36 : s[n].toNat = 36
  · by_cases hl : n + 1 < s.size
    · have hE : letterP s[n + 1].toNat = false := by
        cases h : letterP s[n + 1].toNat with
        | false => rfl
        | true => exact absurd ⟨.inr h36, by rw [atB_in hl]; exact h⟩ c3
      by_cases hZ : rsignE (dropS s n) = 0
      · rw [if_pos hZ]; exact rone_v36aN s n w hn hs hI hl h36 _ rfl hE hZ
      · rw [if_neg hZ]; exact rone_v36aZ s n w hn hs hI hl h36 _ rfl hE _ rfl (by omega)
    · by_cases hZ : rsignE (dropS s n) = 0
      · rw [if_pos hZ]; exact rone_v36bN s n w hn hs hI hl h36 hZ
      · rw [if_neg hZ]; exact rone_v36bZ s n w hn hs hI hl h36 _ rfl (by omega)
  by_cases h64 : s[n].toNat = 64
  · by_cases hl : n + 1 < s.size
    · by_cases h1 : 97 ≤ s[n + 1].toNat
      · have h2 : ¬ s[n + 1].toNat ≤ 122 := fun h2 => c5 ⟨h64, low_in.2 (by rw [atB_in hl]; exact ⟨h1, h2⟩)⟩
        by_cases hZ : rsignE (dropS s n) = 0
        · rw [if_pos hZ]; exact rone_at2N s n w hn hs hI hl h64 _ rfl h1 h2 hZ
        · rw [if_neg hZ]; exact rone_at2Z s n w hn hs hI hl h64 _ rfl h1 h2 _ rfl (by omega)
      · by_cases hZ : rsignE (dropS s n) = 0
        · rw [if_pos hZ]; exact rone_at1N s n w hn hs hI hl h64 _ rfl h1 hZ
        · rw [if_neg hZ]; exact rone_at1Z s n w hn hs hI hl h64 _ rfl h1 _ rfl (by omega)
    · by_cases hZ : rsignE (dropS s n) = 0
      · rw [if_pos hZ]; exact rone_at3N s n w hn hs hI hl h64 hZ
      · rw [if_neg hZ]; exact rone_at3Z s n w hn hs hI hl h64 _ rfl (by omega)
  have hne : s[n].toNat ≠ 95 ∧ s[n].toNat ≠ 63 ∧ s[n].toNat ≠ 36 ∧ s[n].toNat ≠ 34 ∧ s[n].toNat ≠ 39 ∧ s[n].toNat ≠ 64 ∧ s[n].toNat ≠ 58 := by omega
  by_cases hZ : rsignE (dropS s n) = 0
  · rw [if_pos hZ]; exact rone_anyN s n w hn hs hI hne hD hL hZ
  · rw [if_neg hZ]; exact rone_anyZ s n w hn hs hI hne hD hL _ rfl (by omega)
end
end Go.Proofs.YtcanfpppllhogaaDoor.Lx
