/- Contracts: the library's functions on texts. -/
import Derived.Test.YtpnjbagpplodjaaDoorDeK
import Derived.Test.YtpnjbagpplodjaaDoorShelf
namespace Go.Proofs.YtpnjbagpplodjaaDoor
open Go.RowKit Go.Am
set_option maxRecDepth 1000000
set_option linter.unusedSimpArgs false
set_option linter.unusedVariables false
noncomputable section
/-! ### the library's contracts -/
theorem cutPrefix_h : Holds Tryd.prog (27, cutPrefixS) := holds_of_says Tryd.func27 (by kernel_rfl) (by kernel_rfl) fun args v hG => by
  obtain ⟨p, h1, h⟩ := ob_some hG
  obtain ⟨-, rfl⟩ := Prod.mk.inj (Option.some.inj h)
  rw [s2_some h1]
  exact ⟨rfl, rfl, fun w => (Tryd.strings_CutPrefix p.1 p.2 w).mono fun e w' ⟨he, hw⟩ => ⟨he, by rw [hw]; exact Below.refl _ _⟩⟩
theorem trimPrefix_h : Holds Tryd.prog (28, trimPrefixS) := holds_of_says Tryd.func28 (by kernel_rfl) (by kernel_rfl) fun args v hG => by
  obtain ⟨p, h1, h⟩ := ob_some hG
  obtain ⟨-, rfl⟩ := Prod.mk.inj (Option.some.inj h)
  rw [s2_some h1]
  exact ⟨rfl, rfl, fun w => (Tryd.strings_TrimPrefix p.1 p.2 w).mono fun e w' ⟨he, hw⟩ => ⟨he, by rw [hw]; exact Below.refl _ _⟩⟩
theorem asc_of {p : ByteArray} (h : Sp.asc p = true) : p.size < 4294967281 ∧ ∀ (j : Nat) b, p.data.toList[j]? = some b → b.toNat < 128 := by
  unfold Sp.asc at h
  rw [Bool.and_eq_true] at h
  refine ⟨?_, fun j b hj => blt_t (List.all_eq_true.1 h.1 b (List.mem_of_getElem? hj))⟩
  have := ble_t h.2
  have e : (strL p).length = p.size := Array.length_toList
  omega
theorem short_of {s : ByteArray} (h : Sp.short s = true) : s.size ≤ 9223372036854775807 := by
  simp only [Sp.short, decide_eq_true_eq] at h
  have e : (strL s).length = s.size := Array.length_toList
  omega
theorem trimL_h : Holds Tryd.prog (32, trimLS) := holds_of_says Tryd.func32 (by kernel_rfl) (by kernel_rfl) fun args v hG => by
  obtain ⟨p, h1, h⟩ := ob_some hG
  obtain ⟨hp, rfl⟩ := Prod.mk.inj (Option.some.inj h)
  rw [Bool.and_eq_true] at hp
  rw [s2_some h1]
  exact ⟨rfl, rfl, fun w => Tryd.strings_TrimLeft p.1 p.2 w (asc_of hp.1).1 (asc_of hp.1).2⟩
theorem trimR_h : Holds Tryd.prog (31, trimRS) := holds_of_says Tryd.func31 (by kernel_rfl) (by kernel_rfl) fun args v hG => by
  obtain ⟨p, h1, h⟩ := ob_some hG
  obtain ⟨hp, rfl⟩ := Prod.mk.inj (Option.some.inj h)
  rw [Bool.and_eq_true] at hp
  rw [s2_some h1]
  exact ⟨rfl, rfl, fun w => Tryd.strings_TrimRight p.1 p.2 w (short_of hp.2) (asc_of hp.1).1 (asc_of hp.1).2⟩
theorem trim_h : Holds Tryd.prog (30, trimAS) := holds_of_says Tryd.func30 (by kernel_rfl) (by kernel_rfl) fun args v hG => by
  obtain ⟨p, h1, h⟩ := ob_some hG
  obtain ⟨hp, rfl⟩ := Prod.mk.inj (Option.some.inj h)
  rw [Bool.and_eq_true] at hp
  rw [s2_some h1]
  exact ⟨rfl, rfl, fun w => Tryd.strings_Trim p.1 p.2 w (short_of hp.2) (asc_of hp.1).1 (asc_of hp.1).2⟩
theorem sb_some {l : List Value} {p : ByteArray × Int} (h : sb l = some p) : l = [.string p.1, .int .u8 p.2] := by
  unfold sb at h; split at h
  · obtain rfl := Option.some.inj h; rfl
  · cases h
theorem ixb_h : Holds Tryd.prog (70, ixbS) := holds_of_says Tryd.func70 (by kernel_rfl) (by kernel_rfl) fun args v hG => by
  obtain ⟨p, h1, h⟩ := ob_some hG
  obtain ⟨hp, rfl⟩ := Prod.mk.inj (Option.some.inj h)
  rw [sb_some h1]
  exact ⟨rfl, rfl, fun w => (Tryd.stringslite_IndexByte p.1 p.2 w).mono fun e w' ⟨he, hw⟩ => ⟨he, by rw [hw]; exact Below.refl _ _⟩⟩
theorem dot_of {p : ByteArray} (h : Sp.dot p = true) : p = ⟨⟨[46]⟩⟩ := by
  simp only [Sp.dot, decide_eq_true_eq] at h
  obtain ⟨⟨l⟩⟩ := p
  have : l = [46] := h
  rw [this]
theorem ix_point : ∀ l : List UInt8, (l.any (fun b => decide (b = 46)) = true → Lib.indexByte l 46 = ((l.takeWhile fun b => !decide (b = 46)).length : Int) ∧ (l.takeWhile fun b => !decide (b = 46)).length < l.length) ∧
    (l.any (fun b => decide (b = 46)) = false → Lib.indexByte l 46 = -1 ∧ (l.takeWhile fun b => !decide (b = 46)) = l) := by
  intro l
  induction l with
  | nil => exact ⟨fun h => (by cases h), fun _ => ⟨rfl, rfl⟩⟩
  | cons b l ih =>
    unfold Lib.indexByte
    by_cases hb : b = 46
    · subst hb
      exact ⟨fun _ => ⟨rfl, Nat.zero_lt_succ _⟩, fun h => absurd h (by simp)⟩
    · have hbe : (b == 46) = false := by simpa using hb
      rw [hbe]
      simp only [List.any_cons, hb, decide_false, Bool.false_or, Bool.not_false, List.takeWhile_cons, if_true, List.length_cons, Bool.false_eq_true, if_false]
      refine ⟨fun h => ?_, fun h => ?_⟩
      · obtain ⟨a, c⟩ := ih.1 h
        rw [a]
        have : (((l.takeWhile fun b => !decide (b = 46)).length : Int) == -1) = false := beq_eq_false_iff_ne.2 (by omega)
        rw [this]
        exact ⟨by simp, by omega⟩
      · obtain ⟨a, c⟩ := ih.2 h
        rw [a, c]
        exact ⟨rfl, rfl⟩
theorem eqS_t {a b : ByteArray} (h : eqS a b = true) : a = b := by
  rw [und_beq, beq_toListBytes, ByteArray.toList_eq, ByteArray.toList_eq] at h
  have := eq_of_beq h
  obtain ⟨⟨x⟩⟩ := a
  obtain ⟨⟨y⟩⟩ := b
  have e : x = y := this
  rw [e]
theorem ix_h : Holds Tryd.prog (64, ixS) := holds_of_K masks (s := [(70, ixbS)]) (fun x h => by rw [List.mem_singleton.1 h]; exact ixb_h) none Tryd.func64 (by kernel_rfl) (c := code 64) (by kernel_rfl) (rs := res 64) (by kernel_rfl) (by kernel_rfl) fun args v hG => by
  obtain ⟨⟨s, p⟩, h1, h⟩ := ob_some hG
  obtain ⟨hp, rfl⟩ := Prod.mk.inj (Option.some.inj h)
  rw [s2_some h1]
  obtain rfl := dot_of hp
  refine ⟨rfl, rfl, rfl, 0, (K64 s _ _).trans ?_⟩
  cases he : eqS ⟨⟨[46]⟩⟩ s with
  | false => rfl
  | true =>
    have : s = ⟨⟨[46]⟩⟩ := by
      exact (eqS_t he).symm
    rw [this]; rfl
theorem cut52_h : Holds Tryd.prog (52, cutS) := holds_of_K masks (s := [(64, ixS)]) (fun x h => by rw [List.mem_singleton.1 h]; exact ix_h) none Tryd.func52 (by kernel_rfl) (c := code 52) (by kernel_rfl) (rs := res 52) (by kernel_rfl) (by kernel_rfl) fun args v hG => by
  obtain ⟨⟨s, p⟩, h1, h⟩ := ob_some hG
  obtain ⟨hp, rfl⟩ := Prod.mk.inj (Option.some.inj h)
  rw [s2_some h1]
  rw [Bool.and_eq_true] at hp
  obtain rfl := dot_of hp.1
  have hlen : (strL s).length < 4000000000 := by simpa [Sp.short] using hp.2
  refine ⟨rfl, rfl, rfl, 0, (K52 s _ _).trans ?_⟩
  have hix : Sp.ixb s 46 = Lib.indexByte (strL s) 46 := rfl
  have hls : lenS s = (strL s).length := rfl
  obtain ⟨i1, i2⟩ := ix_point (strL s)
  cases hh : (strL s).any (fun b => decide (b = 46)) with
  | true =>
    obtain ⟨a, c⟩ := i1 hh
    rw [hix, a, ite2_pos (by rw [geI_dec]; simp only [decide_eq_true_eq]; omega), ob_le (by omega) (by omega), show Int.add ((((strL s).takeWhile fun b => !decide (b = 46)).length : Nat) : Int) 1 = (((strL s).takeWhile fun b => !decide (b = 46)).length : Int) + 1 from rfl, wrapA_i64 (by omega) (by omega), ob_le (by omega) (by omega)]
    have e1 : ((((strL s).takeWhile fun b => !decide (b = 46)).length : Nat) : Int).toNat = ((strL s).takeWhile fun b => !decide (b = 46)).length := by omega
    have e2 : ((((strL s).takeWhile fun b => !decide (b = 46)).length : Int) + 1).toNat = ((strL s).takeWhile fun b => !decide (b = 46)).length + 1 := by omega
    rw [e1, e2]
    have f1 : subS s 0 ((strL s).takeWhile fun b => !decide (b = 46)).length = Sp.front s := by
      unfold subS Sp.front
      congr 1
      rw [List.drop_zero]
      show (strL s).take (((strL s).takeWhile fun b => !decide (b = 46)).length - 0) = _
      rw [Nat.sub_zero]
      exact (List.prefix_iff_eq_take.1 (List.takeWhile_prefix _)).symm
    have f2 : subS s (((strL s).takeWhile fun b => !decide (b = 46)).length + 1) (lenS s) = Sp.behind s := by
      unfold subS Sp.behind
      congr 1
      exact List.take_of_length_le (by rw [List.length_drop]; exact Nat.le_refl _)
    rw [f1, f2]
    show some _ = some (Value.tuple ⟨[.string (Sp.front s), .string (Sp.behind s), .bool (Sp.has s)]⟩)
    rw [show Sp.has s = true from hh]
  | false =>
    obtain ⟨a, c⟩ := i2 hh
    rw [hix, a, ite2_neg (by rw [geI_dec]; simp)]
    have f1 : Sp.front s = s := by unfold Sp.front; rw [c]; rfl
    have f2 : Sp.behind s = ⟨⟨[]⟩⟩ := by
      unfold Sp.behind
      rw [c, List.drop_eq_nil_of_le (by omega)]; rfl
    show some _ = some (Value.tuple ⟨[.string (Sp.front s), .string (Sp.behind s), .bool (Sp.has s)]⟩)
    rw [f1, f2, show Sp.has s = false from hh]
theorem cut_h : Holds Tryd.prog (29, cutS) := holds_of_K masks (s := [(52, cutS)]) (fun x h => by rw [List.mem_singleton.1 h]; exact cut52_h) none Tryd.func29 (by kernel_rfl) (c := code 29) (by kernel_rfl) (rs := res 29) (by kernel_rfl) (by kernel_rfl) fun args v hG => by
  obtain ⟨⟨s, p⟩, h1, h⟩ := ob_some hG
  obtain ⟨hp, rfl⟩ := Prod.mk.inj (Option.some.inj h)
  rw [s2_some h1]
  rw [Bool.and_eq_true] at hp
  obtain rfl := dot_of hp.1
  refine ⟨rfl, rfl, rfl, 0, (K29 s _ _).trans ?_⟩
  exact ite2_pos hp.2 _ _

end
end Go.Proofs.YtpnjbagpplodjaaDoor
