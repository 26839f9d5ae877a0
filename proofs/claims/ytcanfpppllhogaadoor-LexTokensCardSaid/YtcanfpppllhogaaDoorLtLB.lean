/- What lex and the reference answer, function by function (LexTokens, part LB). -/
import Derived.Test.YtcanfpppllhogaaDoorLtLA
import Derived.Laws.ResultCell
import Derived.Laws.Concat
namespace Go.Proofs.YtcanfpppllhogaaDoor.Lx
open Go.RowKit Go.Proofs
open Go.Am (spanL)
noncomputable section

/-! ### the law's texts -/
def okPiece : Option Value → Bool
  | some (.string t) => Nat.ble t.size 12
  | _ => false
theorem piece_at : ∀ k : Fin 54, okPiece ((#[.string ⟨#[60, 97, 62]⟩, .string ⟨#[60, 104, 116, 116, 112, 58, 47, 47, 120, 47, 121, 62]⟩, .string ⟨#[120, 58, 121]⟩, .string ⟨#[58, 122]⟩, .string ⟨#[95, 58, 98, 49]⟩, .string ⟨#[63, 118]⟩, .string ⟨#[36, 119]⟩, .string ⟨#[34, 116, 92, 110, 34]⟩, .string ⟨#[39, 117, 39]⟩, .string ⟨#[64, 101, 110]⟩, .string ⟨#[49, 50]⟩, .string ⟨#[51, 46, 53, 48]⟩, .string ⟨#[83, 69, 76, 69, 67, 84]⟩, .string ⟨#[97]⟩, .string ⟨#[116, 114, 117, 101]⟩, .string ⟨#[38, 38]⟩, .string ⟨#[124, 124]⟩, .string ⟨#[33, 61]⟩, .string ⟨#[60, 61]⟩, .string ⟨#[62, 61]⟩, .string ⟨#[94, 94]⟩, .string ⟨#[123]⟩, .string ⟨#[125]⟩, .string ⟨#[40]⟩, .string ⟨#[41]⟩, .string ⟨#[91]⟩, .string ⟨#[93]⟩, .string ⟨#[46]⟩, .string ⟨#[59]⟩, .string ⟨#[44]⟩, .string ⟨#[61]⟩, .string ⟨#[60]⟩, .string ⟨#[62]⟩, .string ⟨#[33]⟩, .string ⟨#[43]⟩, .string ⟨#[45]⟩, .string ⟨#[42]⟩, .string ⟨#[47]⟩, .string ⟨#[124]⟩, .string ⟨#[94]⟩, .string ⟨#[63]⟩, .string ⟨#[32]⟩, .string ⟨#[10]⟩, .string ⟨#[35, 32, 99, 10]⟩, .string ⟨#[34]⟩, .string ⟨#[120, 58]⟩, .string ⟨#[120, 58, 121, 46]⟩, .string ⟨#[49, 46]⟩, .string ⟨#[60, 97, 32, 98, 62]⟩, .string ⟨#[95, 58]⟩, .string ⟨#[64]⟩, .string ⟨#[92]⟩, .string ⟨#[38]⟩, .string ⟨#[195, 169]⟩] : Array Value)[k.val]?) = true := by decide +kernel
theorem piece_cell (w w1 : World) (hw : w.alloc (.cells #[.string ⟨#[60, 97, 62]⟩, .string ⟨#[60, 104, 116, 116, 112, 58, 47, 47, 120, 47, 121, 62]⟩, .string ⟨#[120, 58, 121]⟩, .string ⟨#[58, 122]⟩, .string ⟨#[95, 58, 98, 49]⟩, .string ⟨#[63, 118]⟩, .string ⟨#[36, 119]⟩, .string ⟨#[34, 116, 92, 110, 34]⟩, .string ⟨#[39, 117, 39]⟩, .string ⟨#[64, 101, 110]⟩, .string ⟨#[49, 50]⟩, .string ⟨#[51, 46, 53, 48]⟩, .string ⟨#[83, 69, 76, 69, 67, 84]⟩, .string ⟨#[97]⟩, .string ⟨#[116, 114, 117, 101]⟩, .string ⟨#[38, 38]⟩, .string ⟨#[124, 124]⟩, .string ⟨#[33, 61]⟩, .string ⟨#[60, 61]⟩, .string ⟨#[62, 61]⟩, .string ⟨#[94, 94]⟩, .string ⟨#[123]⟩, .string ⟨#[125]⟩, .string ⟨#[40]⟩, .string ⟨#[41]⟩, .string ⟨#[91]⟩, .string ⟨#[93]⟩, .string ⟨#[46]⟩, .string ⟨#[59]⟩, .string ⟨#[44]⟩, .string ⟨#[61]⟩, .string ⟨#[60]⟩, .string ⟨#[62]⟩, .string ⟨#[33]⟩, .string ⟨#[43]⟩, .string ⟨#[45]⟩, .string ⟨#[42]⟩, .string ⟨#[47]⟩, .string ⟨#[124]⟩, .string ⟨#[94]⟩, .string ⟨#[63]⟩, .string ⟨#[32]⟩, .string ⟨#[10]⟩, .string ⟨#[35, 32, 99, 10]⟩, .string ⟨#[34]⟩, .string ⟨#[120, 58]⟩, .string ⟨#[120, 58, 121, 46]⟩, .string ⟨#[49, 46]⟩, .string ⟨#[60, 97, 32, 98, 62]⟩, .string ⟨#[95, 58]⟩, .string ⟨#[64]⟩, .string ⟨#[92]⟩, .string ⟨#[38]⟩, .string ⟨#[195, 169]⟩] 9) = w1) (k : Nat) (hk : k < 54) : ∃ t : ByteArray, t.size ≤ 12 ∧ w1.cell? ⟨w.heap.size, k, none⟩ = some (.string t) := by
  have h := piece_at ⟨k, hk⟩
  subst hw
  generalize (#[.string ⟨#[60, 97, 62]⟩, .string ⟨#[60, 104, 116, 116, 112, 58, 47, 47, 120, 47, 121, 62]⟩, .string ⟨#[120, 58, 121]⟩, .string ⟨#[58, 122]⟩, .string ⟨#[95, 58, 98, 49]⟩, .string ⟨#[63, 118]⟩, .string ⟨#[36, 119]⟩, .string ⟨#[34, 116, 92, 110, 34]⟩, .string ⟨#[39, 117, 39]⟩, .string ⟨#[64, 101, 110]⟩, .string ⟨#[49, 50]⟩, .string ⟨#[51, 46, 53, 48]⟩, .string ⟨#[83, 69, 76, 69, 67, 84]⟩, .string ⟨#[97]⟩, .string ⟨#[116, 114, 117, 101]⟩, .string ⟨#[38, 38]⟩, .string ⟨#[124, 124]⟩, .string ⟨#[33, 61]⟩, .string ⟨#[60, 61]⟩, .string ⟨#[62, 61]⟩, .string ⟨#[94, 94]⟩, .string ⟨#[123]⟩, .string ⟨#[125]⟩, .string ⟨#[40]⟩, .string ⟨#[41]⟩, .string ⟨#[91]⟩, .string ⟨#[93]⟩, .string ⟨#[46]⟩, .string ⟨#[59]⟩, .string ⟨#[44]⟩, .string ⟨#[61]⟩, .string ⟨#[60]⟩, .string ⟨#[62]⟩, .string ⟨#[33]⟩, .string ⟨#[43]⟩, .string ⟨#[45]⟩, .string ⟨#[42]⟩, .string ⟨#[47]⟩, .string ⟨#[124]⟩, .string ⟨#[94]⟩, .string ⟨#[63]⟩, .string ⟨#[32]⟩, .string ⟨#[10]⟩, .string ⟨#[35, 32, 99, 10]⟩, .string ⟨#[34]⟩, .string ⟨#[120, 58]⟩, .string ⟨#[120, 58, 121, 46]⟩, .string ⟨#[49, 46]⟩, .string ⟨#[60, 97, 32, 98, 62]⟩, .string ⟨#[95, 58]⟩, .string ⟨#[64]⟩, .string ⟨#[92]⟩, .string ⟨#[38]⟩, .string ⟨#[195, 169]⟩] : Array Value) = cs at h ⊢
  have e : (w.alloc (.cells cs 9)).cell? ⟨w.heap.size, k, none⟩ = cs[k]? := by
    unfold World.cell?
    rw [heap_new]
    rfl
  rw [e]
  unfold okPiece at h
  split at h
  · rename_i t ht
    exact ⟨t, Nat.le_of_ble_eq_true h, ht⟩
  · cases h
set_option maxHeartbeats 4000000 in
set_option maxRecDepth 1000000 in
theorem piece_calls (z : Int) (w : World) :
    Calls Tryd.prog 9 #[.int .i64 z] w fun e w' => (∃ t : ByteArray, t.size ≤ 12 ∧ e = .returned (.string t)) ∧ Below w.heap.size w w' := by
  have hk0 := Int.emod_nonneg z (show (54 : Int) ≠ 0 by omega)
  have hk1 := Int.emod_lt_of_pos z (show (0 : Int) < 54 by omega)
  obtain ⟨k, hk⟩ : ∃ k : Nat, z % 54 = (k : Int) := ⟨(z % 54).toNat, by omega⟩
  rw [hk] at hk0 hk1
  obtain ⟨w1, hw1⟩ : ∃ w1, w.alloc (.cells #[.string ⟨#[60, 97, 62]⟩, .string ⟨#[60, 104, 116, 116, 112, 58, 47, 47, 120, 47, 121, 62]⟩, .string ⟨#[120, 58, 121]⟩, .string ⟨#[58, 122]⟩, .string ⟨#[95, 58, 98, 49]⟩, .string ⟨#[63, 118]⟩, .string ⟨#[36, 119]⟩, .string ⟨#[34, 116, 92, 110, 34]⟩, .string ⟨#[39, 117, 39]⟩, .string ⟨#[64, 101, 110]⟩, .string ⟨#[49, 50]⟩, .string ⟨#[51, 46, 53, 48]⟩, .string ⟨#[83, 69, 76, 69, 67, 84]⟩, .string ⟨#[97]⟩, .string ⟨#[116, 114, 117, 101]⟩, .string ⟨#[38, 38]⟩, .string ⟨#[124, 124]⟩, .string ⟨#[33, 61]⟩, .string ⟨#[60, 61]⟩, .string ⟨#[62, 61]⟩, .string ⟨#[94, 94]⟩, .string ⟨#[123]⟩, .string ⟨#[125]⟩, .string ⟨#[40]⟩, .string ⟨#[41]⟩, .string ⟨#[91]⟩, .string ⟨#[93]⟩, .string ⟨#[46]⟩, .string ⟨#[59]⟩, .string ⟨#[44]⟩, .string ⟨#[61]⟩, .string ⟨#[60]⟩, .string ⟨#[62]⟩, .string ⟨#[33]⟩, .string ⟨#[43]⟩, .string ⟨#[45]⟩, .string ⟨#[42]⟩, .string ⟨#[47]⟩, .string ⟨#[124]⟩, .string ⟨#[94]⟩, .string ⟨#[63]⟩, .string ⟨#[32]⟩, .string ⟨#[10]⟩, .string ⟨#[35, 32, 99, 10]⟩, .string ⟨#[34]⟩, .string ⟨#[120, 58]⟩, .string ⟨#[120, 58, 121, 46]⟩, .string ⟨#[49, 46]⟩, .string ⟨#[60, 97, 32, 98, 62]⟩, .string ⟨#[95, 58]⟩, .string ⟨#[64]⟩, .string ⟨#[92]⟩, .string ⟨#[38]⟩, .string ⟨#[195, 169]⟩] 9) = w1 := ⟨_, rfl⟩
  obtain ⟨t, ht, hc⟩ := piece_cell w w1 hw1 k (by omega)
  have hb : Below w.heap.size w w1 := by rw [← hw1]; exact (Below.refl _ _).alloc (Nat.le_refl _) _
  go_enter Tryd.func9, Tryd.ntmps9
  go_wp2_with (go_at_call 22; (try rw [hw1]); refine (within_calls z 54 w1 (by omega) (by omega)).mono ?_; rintro e w2 ⟨rfl, rfl⟩; rw [hk])
  go_ret
  exact ⟨⟨t, ht, rfl⟩, hb⟩
end
end Go.Proofs.YtcanfpppllhogaaDoor.Lx
