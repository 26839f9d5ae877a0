/- Contracts: the library's functions on texts; reading by the program. -/
import Derived.Test.YtnoppcnfdnkhbaaDoorVaC
import Derived.Test.YtnoppcnfdnkhbaaDoorShelf
namespace Go.Proofs.YtnoppcnfdnkhbaaDoor
open Go.RowKit Go.Am
set_option maxRecDepth 1000000
set_option linter.unusedSimpArgs false
set_option linter.unusedVariables false
noncomputable section
theorem cutPrefix_h : Holds Tryd.prog (34, cutPrefixS) := holds_of_says Tryd.func34 (by kernel_rfl) (by kernel_rfl) fun args v hG => by
  obtain ⟨p, h1, h⟩ := ob_some hG
  obtain ⟨-, rfl⟩ := Prod.mk.inj (Option.some.inj h)
  rw [s2_some h1]
  exact ⟨rfl, rfl, fun w => (Tryd.strings_CutPrefix p.1 p.2 w).mono fun e w' ⟨he, hw⟩ => ⟨he, by rw [hw]; exact Below.refl _ _⟩⟩
theorem trimPrefix_h : Holds Tryd.prog (35, trimPrefixS) := holds_of_says Tryd.func35 (by kernel_rfl) (by kernel_rfl) fun args v hG => by
  obtain ⟨p, h1, h⟩ := ob_some hG
  obtain ⟨-, rfl⟩ := Prod.mk.inj (Option.some.inj h)
  rw [s2_some h1]
  exact ⟨rfl, rfl, fun w => (Tryd.strings_TrimPrefix p.1 p.2 w).mono fun e w' ⟨he, hw⟩ => ⟨he, by rw [hw]; exact Below.refl _ _⟩⟩
theorem asc_of {p : ByteArray} (h : Sp.asc p = true) : p.size < 4294967281 ∧ ∀ (j : Nat) b, p.data.toList[j]? = some b → b.toNat < 128 := by
  unfold Sp.asc at h
  rw [Bool.and_eq_true] at h
  refine ⟨?_, fun j b hj => blt_t (List.all_eq_true.1 h.1 b (List.mem_of_getElem? hj))⟩
  have := ble_t h.2
  have e : (strL p).length = p.size := Array.length_toList
  omega
theorem short_of {s : ByteArray} (h : Sp.short s = true) : s.size ≤ 9223372036854775807 := by
  simp only [Sp.short, decide_eq_true_eq] at h
  have e : (strL s).length = s.size := Array.length_toList
  omega
theorem trimL_h : Holds Tryd.prog (39, trimLS) := holds_of_says Tryd.func39 (by kernel_rfl) (by kernel_rfl) fun args v hG => by
  obtain ⟨p, h1, h⟩ := ob_some hG
  obtain ⟨hp, rfl⟩ := Prod.mk.inj (Option.some.inj h)
  rw [Bool.and_eq_true] at hp
  rw [s2_some h1]
  exact ⟨rfl, rfl, fun w => Tryd.strings_TrimLeft p.1 p.2 w (asc_of hp.1).1 (asc_of hp.1).2⟩
theorem trimR_h : Holds Tryd.prog (38, trimRS) := holds_of_says Tryd.func38 (by kernel_rfl) (by kernel_rfl) fun args v hG => by
  obtain ⟨p, h1, h⟩ := ob_some hG
  obtain ⟨hp, rfl⟩ := Prod.mk.inj (Option.some.inj h)
  rw [Bool.and_eq_true] at hp
  rw [s2_some h1]
  exact ⟨rfl, rfl, fun w => Tryd.strings_TrimRight p.1 p.2 w (short_of hp.2) (asc_of hp.1).1 (asc_of hp.1).2⟩
theorem trim_h : Holds Tryd.prog (37, trimAS) := holds_of_says Tryd.func37 (by kernel_rfl) (by kernel_rfl) fun args v hG => by
  obtain ⟨p, h1, h⟩ := ob_some hG
  obtain ⟨hp, rfl⟩ := Prod.mk.inj (Option.some.inj h)
  rw [Bool.and_eq_true] at hp
  rw [s2_some h1]
  exact ⟨rfl, rfl, fun w => Tryd.strings_Trim p.1 p.2 w (short_of hp.2) (asc_of hp.1).1 (asc_of hp.1).2⟩
theorem sb_some {l : List Value} {p : ByteArray × Int} (h : sb l = some p) : l = [.string p.1, .int .u8 p.2] := by
  unfold sb at h; split at h
  · obtain rfl := Option.some.inj h; rfl
  · cases h
theorem ixb_h : Holds Tryd.prog (60, ixbS) := holds_of_says Tryd.func60 (by kernel_rfl) (by kernel_rfl) fun args v hG => by
  obtain ⟨p, h1, h⟩ := ob_some hG
  obtain ⟨hp, rfl⟩ := Prod.mk.inj (Option.some.inj h)
  rw [sb_some h1]
  exact ⟨rfl, rfl, fun w => (Tryd.stringslite_IndexByte p.1 p.2 w).mono fun e w' ⟨he, hw⟩ => ⟨he, by rw [hw]; exact Below.refl _ _⟩⟩
theorem dot_of {p : ByteArray} (h : Sp.dot p = true) : p = ⟨⟨[46]⟩⟩ := by
  simp only [Sp.dot, decide_eq_true_eq] at h
  obtain ⟨⟨l⟩⟩ := p
  have : l = [46] := h
  rw [this]
theorem ix_point : ∀ l : List UInt8, (l.any (fun b => decide (b = 46)) = true → Lib.indexByte l 46 = ((l.takeWhile fun b => !decide (b = 46)).length : Int) ∧ (l.takeWhile fun b => !decide (b = 46)).length < l.length) ∧
    (l.any (fun b => decide (b = 46)) = false → Lib.indexByte l 46 = -1 ∧ (l.takeWhile fun b => !decide (b = 46)) = l) := by
  intro l
  induction l with
  | nil => exact ⟨fun h => (by cases h), fun _ => ⟨rfl, rfl⟩⟩
  | cons b l ih =>
    unfold Lib.indexByte
    by_cases hb : b = 46
    · subst hb
      exact ⟨fun _ => ⟨rfl, Nat.zero_lt_succ _⟩, fun h => absurd h (by simp)⟩
    · have hbe : (b == 46) = false := by simpa using hb
      rw [hbe]
      simp only [List.any_cons, hb, decide_false, Bool.false_or, Bool.not_false, List.takeWhile_cons, if_true, List.length_cons, Bool.false_eq_true, if_false]
      refine ⟨fun h => ?_, fun h => ?_⟩
      · obtain ⟨a, c⟩ := ih.1 h
        rw [a]
        have : (((l.takeWhile fun b => !decide (b = 46)).length : Int) == -1) = false := beq_eq_false_iff_ne.2 (by omega)
        rw [this]
        exact ⟨by simp, by omega⟩
      · obtain ⟨a, c⟩ := ih.2 h
        rw [a, c]
        exact ⟨rfl, rfl⟩
theorem eqS_t {a b : ByteArray} (h : eqS a b = true) : a = b := by
  rw [und_beq, beq_toListBytes, ByteArray.toList_eq, ByteArray.toList_eq] at h
  have := eq_of_beq h
  obtain ⟨⟨x⟩⟩ := a
  obtain ⟨⟨y⟩⟩ := b
  have e : x = y := this
  rw [e]
theorem ix_h : Holds Tryd.prog (46, ixS) := holds_of_K masks (s := [(60, ixbS)]) (fun x h => by rw [List.mem_singleton.1 h]; exact ixb_h) none Tryd.func46 (by kernel_rfl) (c := code 46) (by kernel_rfl) (rs := res 46) (by kernel_rfl) (by kernel_rfl) fun args v hG => by
  obtain ⟨⟨s, p⟩, h1, h⟩ := ob_some hG
  obtain ⟨hp, rfl⟩ := Prod.mk.inj (Option.some.inj h)
  rw [s2_some h1]
  obtain rfl := dot_of hp
  refine ⟨rfl, rfl, rfl, 0, (K64 s _ _).trans ?_⟩
  cases he : eqS ⟨⟨[46]⟩⟩ s with
  | false => rfl
  | true =>
    have : s = ⟨⟨[46]⟩⟩ := by
      exact (eqS_t he).symm
    rw [this]; rfl
theorem cut52_h : Holds Tryd.prog (49, cutS) := holds_of_K masks (s := [(46, ixS)]) (fun x h => by rw [List.mem_singleton.1 h]; exact ix_h) none Tryd.func49 (by kernel_rfl) (c := code 49) (by kernel_rfl) (rs := res 49) (by kernel_rfl) (by kernel_rfl) fun args v hG => by
  obtain ⟨⟨s, p⟩, h1, h⟩ := ob_some hG
  obtain ⟨hp, rfl⟩ := Prod.mk.inj (Option.some.inj h)
  rw [s2_some h1]
  rw [Bool.and_eq_true] at hp
  obtain rfl := dot_of hp.1
  have hlen : (strL s).length < 4000000000 := by simpa [Sp.short] using hp.2
  refine ⟨rfl, rfl, rfl, 0, (K52 s _ _).trans ?_⟩
  have hix : Sp.ixb s 46 = Lib.indexByte (strL s) 46 := rfl
  have hls : lenS s = (strL s).length := rfl
  obtain ⟨i1, i2⟩ := ix_point (strL s)
  cases hh : (strL s).any (fun b => decide (b = 46)) with
  | true =>
    obtain ⟨a, c⟩ := i1 hh
    rw [hix, a, ite2_pos (by rw [geI_dec]; simp only [decide_eq_true_eq]; omega), ob_le (by omega) (by omega), show Int.add ((((strL s).takeWhile fun b => !decide (b = 46)).length : Nat) : Int) 1 = (((strL s).takeWhile fun b => !decide (b = 46)).length : Int) + 1 from rfl, wrapA_i64 (by omega) (by omega), ob_le (by omega) (by omega)]
    have e1 : ((((strL s).takeWhile fun b => !decide (b = 46)).length : Nat) : Int).toNat = ((strL s).takeWhile fun b => !decide (b = 46)).length := by omega
    have e2 : ((((strL s).takeWhile fun b => !decide (b = 46)).length : Int) + 1).toNat = ((strL s).takeWhile fun b => !decide (b = 46)).length + 1 := by omega
    rw [e1, e2]
    have f1 : subS s 0 ((strL s).takeWhile fun b => !decide (b = 46)).length = Sp.front s := by
      unfold subS Sp.front
      congr 1
      rw [List.drop_zero]
      show (strL s).take (((strL s).takeWhile fun b => !decide (b = 46)).length - 0) = _
      rw [Nat.sub_zero]
      exact (List.prefix_iff_eq_take.1 (List.takeWhile_prefix _)).symm
    have f2 : subS s (((strL s).takeWhile fun b => !decide (b = 46)).length + 1) (lenS s) = Sp.behind s := by
      unfold subS Sp.behind
      congr 1
      exact List.take_of_length_le (by rw [List.length_drop]; exact Nat.le_refl _)
    rw [f1, f2]
    show some _ = some (Value.tuple ⟨[.string (Sp.front s), .string (Sp.behind s), .bool (Sp.has s)]⟩)
    rw [show Sp.has s = true from hh]
  | false =>
    obtain ⟨a, c⟩ := i2 hh
    rw [hix, a, ite2_neg (by rw [geI_dec]; simp)]
    have f1 : Sp.front s = s := by unfold Sp.front; rw [c]; rfl
    have f2 : Sp.behind s = ⟨⟨[]⟩⟩ := by
      unfold Sp.behind
      rw [c, List.drop_eq_nil_of_le (by omega)]; rfl
    show some _ = some (Value.tuple ⟨[.string (Sp.front s), .string (Sp.behind s), .bool (Sp.has s)]⟩)
    rw [f1, f2, show Sp.has s = false from hh]
theorem cut_h : Holds Tryd.prog (36, cutS) := holds_of_K masks (s := [(49, cutS)]) (fun x h => by rw [List.mem_singleton.1 h]; exact cut52_h) none Tryd.func36 (by kernel_rfl) (c := code 36) (by kernel_rfl) (rs := res 36) (by kernel_rfl) (by kernel_rfl) fun args v hG => by
  obtain ⟨⟨s, p⟩, h1, h⟩ := ob_some hG
  obtain ⟨hp, rfl⟩ := Prod.mk.inj (Option.some.inj h)
  rw [s2_some h1]
  rw [Bool.and_eq_true] at hp
  obtain rfl := dot_of hp.1
  refine ⟨rfl, rfl, rfl, 0, (K29 s _ _).trans ?_⟩
  exact ite2_pos hp.2 _ _

noncomputable abbrev s11 : List KSpec := [(34, cutPrefixS), (35, trimPrefixS), (36, cutS), (37, trimAS), (38, trimRS), (39, trimLS), (40, wholeS)]
theorem get_is (l : List UInt8) (i : Nat) (h : i < l.length) : (strOf l).get! i = l[i] := by
  show (⟨l⟩ : Array UInt8)[i]! = l[i]
  simp [h]
theorem decode_small (l : List UInt8) (i : Nat) (h : i < l.length) (hb : l[i].toNat < 128) : Utf8.decode (strOf l) i = (l[i].toNat, 1) := by
  have e : ((strOf l).get! (i + 0)).toNat < 128 := by rw [Nat.add_zero, get_is l i h]; exact hb
  have e2 : ((strOf l).get! (i + 0)).toNat = l[i].toNat := by rw [Nat.add_zero, get_is l i h]
  unfold Utf8.decode
  exact (if_pos e).trans (congrArg (fun x => (x, 1)) e2)
theorem read_loop (a c d : ByteArray) (ng : Bool) : ∀ (rest pre : List UInt8) (acc : Int) (j : Nat), rest.all Sp.dig = true → 0 ≤ acc → acc < 10 ^ pre.length → pre.length + rest.length ≤ 15 → rest.length < j →
    ∃ p tp, (ltow Tryd.prog (fiAt fis 28) (kcall s11) none j).lp (codeAt (code 28) [1, 1, 1, 1, 1, 1, 1, 1, 1, 0, 1, 0, 0]) (st11_13_0 a false c ng d acc (strOf (pre ++ rest)) pre.length 0 0) = some (.exit 0, ex11_0 a false c ng d (Sp.num acc rest) (strOf (pre ++ rest)) p 0 0 tp) ∧ 0 ≤ Sp.num acc rest ∧ Sp.num acc rest < 10 ^ (pre.length + rest.length) := by
  intro rest
  induction rest with
  | nil =>
    intro pre acc j _ h0 h1 h2 hj
    obtain ⟨j, rfl⟩ : ∃ i, j = i + 1 := ⟨j - 1, by omega⟩
    rw [← ob_id ((ltow ..).lp _ _), lp_round, R11_13_0]
    rw [ite2_neg (Bool.eq_false_iff.2 fun h => by have := Nat.le_of_ble_eq_true h; rw [len_is, List.append_nil] at this; omega)]
    exact ⟨_, _, rfl, h0, by simpa [Sp.num] using h1⟩
  | cons b rest ih =>
    intro pre acc j hd h0 h1 h2 hj
    obtain ⟨j, rfl⟩ : ∃ i, j = i + 1 := ⟨j - 1, by omega⟩
    rw [List.all_cons, Bool.and_eq_true] at hd
    have hb : 48 ≤ b.toNat ∧ b.toNat ≤ 57 := by simpa [Sp.dig] using hd.1
    have hl : pre.length < (pre ++ b :: rest).length := by simp
    have hg : (pre ++ b :: rest)[pre.length] = b := by simp
    have hdec := decode_small (pre ++ b :: rest) pre.length hl (by rw [hg]; omega)
    rw [hg] at hdec
    rw [← ob_id ((ltow ..).lp _ _), lp_round, R11_13_0]
    rw [ite2_pos (show Nat.ble (Nat.succ pre.length) (lenS (strOf (pre ++ b :: rest))) = true from Nat.ble_eq_true_of_le (by rw [len_is]; exact hl)), ob_id, hdec]
    simp only [List.length_cons] at h2
    have hp : (10 : Int) ^ pre.length ≤ 10 ^ 14 := by
      have := Nat.pow_le_pow_right (show 0 < 10 by omega) (show pre.length ≤ 14 by omega)
      exact_mod_cast this
    have hacc : acc < 100000000000000 := Int.lt_of_lt_of_le h1 hp
    have e1 : Int.sub (Int.ofNat b.toNat) 48 = (b.toNat : Int) - 48 := rfl
    have e2 : Int.mul 10 acc = 10 * acc := rfl
    rw [e1, e2, wrapA_i32 (x := (b.toNat : Int) - 48) (by omega) (by omega), wrapA_u64 (x := (b.toNat : Int) - 48) (by omega) (by omega), wrapA_u64 (x := 10 * acc) (by omega) (by omega), show Int.add (10 * acc) ((b.toNat : Int) - 48) = 10 * acc + ((b.toNat : Int) - 48) from rfl, wrapA_u64 (by omega) (by omega)]
    have := ih (pre ++ [b]) (10 * acc + ((b.toNat : Int) - 48)) j hd.2 (by omega) (by
      rw [List.length_append, List.length_singleton, Int.pow_succ]
      generalize (10 : Int) ^ pre.length = z at *
      omega) (by simp; omega) (by simp at hj; omega)
    rw [List.append_assoc, List.singleton_append, List.length_append, List.length_singleton] at this
    obtain ⟨p, tp, g1, g2, g3⟩ := this
    exact ⟨p, tp, g1, g2, by rw [List.length_cons, show pre.length + (rest.length + 1) = pre.length + 1 + rest.length by omega]; exact g3⟩
theorem dw_empty (p : UInt8 → Bool) : ∀ l : List UInt8, (l.dropWhile p).isEmpty = l.all p := by
  intro l
  induction l with
  | nil => rfl
  | cons b l ih =>
    rw [List.dropWhile_cons, List.all_cons]
    cases p b
    · rfl
    · simpa using ih
theorem dw_all (p : UInt8 → Bool) : ∀ l : List UInt8, (l.dropWhile p).all p = l.all p := by
  intro l
  induction l with
  | nil => rfl
  | cons b l ih =>
    rw [List.dropWhile_cons, List.all_cons]
    cases hb : p b
    · simp [hb]
    · simpa using ih
theorem trim_empty (l cs : List UInt8) : (Lib.trimS l cs).isEmpty = l.all (cs.contains ·) := by
  unfold Lib.trimS Lib.trimLeftS Lib.trimRightS
  rw [dw_empty, List.all_reverse, dw_all, List.all_reverse]
theorem dig_set (b : UInt8) : ([48, 49, 50, 51, 52, 53, 54, 55, 56, 57] : List UInt8).contains b = Sp.dig b := by
  unfold Sp.dig
  rw [Bool.eq_iff_iff]
  simp only [List.contains_cons, List.contains_nil, Bool.or_eq_true, beq_iff_eq, decide_eq_true_eq, Bool.or_false, ← UInt8.toNat_inj]
  constructor
  · rintro (h | h | h | h | h | h | h | h | h | h) <;> (rw [h]; decide)
  · intro h
    have : b.toNat = 48 ∨ b.toNat = 49 ∨ b.toNat = 50 ∨ b.toNat = 51 ∨ b.toNat = 52 ∨ b.toNat = 53 ∨ b.toNat = 54 ∨ b.toNat = 55 ∨ b.toNat = 56 ∨ b.toNat = 57 := by omega
    simpa using this
theorem all_dw (p q : UInt8 → Bool) (l : List UInt8) (h : l.all q = true) : (l.dropWhile p).all q = true := by
  rw [List.all_eq_true] at h ⊢
  exact fun x hx => h x ((List.dropWhile_suffix p).subset hx)
theorem eq_nil (l : List UInt8) : eqS (strOf l) ⟨⟨[]⟩⟩ = l.isEmpty := by cases l <;> rfl
theorem ble_no {a b : Nat} (h : b < a) : Nat.ble a b = false := Bool.eq_false_iff.2 fun g => by have := Nat.le_of_ble_eq_true g; omega
theorem body_len (s : ByteArray) : (strL (Sp.body s)).length ≤ (strL s).length := by
  unfold Sp.body Sp.cutP
  have h : ∀ (l p : List UInt8), (Lib.trimPrefix l p).length ≤ l.length := by
    intro l p
    unfold Lib.trimPrefix
    split
    · rw [List.length_drop]; omega
    · exact Nat.le_refl _
  split <;> exact h _ _
theorem short_is (l : List UInt8) (h : l.length < 4000000000) : Sp.short (strOf l) = true := decide_eq_true h
theorem fits2 (x : Nat) (h : x ≤ 9000000000) : Nat.ble x 9223372036854775807 = true := by simp only [Nat.ble_eq]; omega
def failV : Value := .tuple ⟨[decV 0 0, .bool false]⟩
theorem X_core (s : ByteArray) (hs : Sp.short2 s = true) : (ite2 (Nat.ble (Nat.add (lenS (Sp.front (Sp.body s))) (lenS (Sp.behind (Sp.body s)))) 9223372036854775807) (ite2 (Sp.short (catS (Sp.front (Sp.body s)) (Sp.behind (Sp.body s)))) (ite2 (neS (Sp.trim (catS (Sp.front (Sp.body s)) (Sp.behind (Sp.body s))) (⟨⟨[48, 49, 50, 51, 52, 53, 54, 55, 56, 57]⟩⟩ : ByteArray)) (⟨⟨[]⟩⟩ : ByteArray)) (some (Value.tuple (Array.mk [(Value.agg (Array.mk [(Value.int IntKind.i64 (0 : Int)), (Value.int IntKind.i64 (0 : Int))])), (Value.bool false)]))) (ite2 (Sp.short (Sp.behind (Sp.body s))) (ite2 (Nat.ble (Nat.add (lenS (Sp.front (Sp.body s))) (lenS (Sp.trimR (Sp.behind (Sp.body s)) (⟨⟨[48]⟩⟩ : ByteArray)))) 9223372036854775807) (ite2 (Sp.short (catS (Sp.front (Sp.body s)) (Sp.trimR (Sp.behind (Sp.body s)) (⟨⟨[48]⟩⟩ : ByteArray)))) (ite2 (Nat.ble 16 (lenS (Sp.trimL (catS (Sp.front (Sp.body s)) (Sp.trimR (Sp.behind (Sp.body s)) (⟨⟨[48]⟩⟩ : ByteArray))) (⟨⟨[48]⟩⟩ : ByteArray)))) (some (Value.tuple (Array.mk [(Value.agg (Array.mk [(Value.int IntKind.i64 (0 : Int)), (Value.int IntKind.i64 (0 : Int))])), (Value.bool false)]))) (ite2 (Nat.ble 7 (lenS (Sp.trimR (Sp.behind (Sp.body s)) (⟨⟨[48]⟩⟩ : ByteArray)))) (some (Value.tuple (Array.mk [(Value.agg (Array.mk [(Value.int IntKind.i64 (0 : Int)), (Value.int IntKind.i64 (0 : Int))])), (Value.bool false)]))) (ob ((ltow Tryd.prog (fiAt fis 28) (kcall s11) none 17).lp (codeAt (code 28) [1, 1, 1, 1, 1, 1, 1, 1, 1, 0, 1, 0, 0]) (st11_13_0 s false (Sp.trimR (Sp.behind (Sp.body s)) (⟨⟨[48]⟩⟩ : ByteArray)) (Sp.neg s) (Sp.front (Sp.body s)) (0 : Int) (Sp.trimL (catS (Sp.front (Sp.body s)) (Sp.trimR (Sp.behind (Sp.body s)) (⟨⟨[48]⟩⟩ : ByteArray))) (⟨⟨[48]⟩⟩ : ByteArray)) 0 (0 : Int) (0 : Int))) fun r => (contAt Tryd.prog (fiAt fis 28) (kcallK s11) (kcall s11) (ltow Tryd.prog (fiAt fis 28) (kcall s11) none 17).lp (ltow Tryd.prog (fiAt fis 28) (kcall s11) none 17).gs (code 28) [1, 1, 1, 1, 1, 1, 1, 1, 1, 0, 1, 0] (retK Tryd.prog (fiAt fis 28) (res 28))) r.1 r.2))) (none)) (none)) (none))) (none)) (none)) =
    some (if ((strL (Sp.front (Sp.body s)) ++ strL (Sp.behind (Sp.body s))).all Sp.dig && decide ((Sp.lead s).length ≤ 15 ∧ (Sp.part s).length ≤ 6)) = true then decRes (Sp.pN s) ((Sp.part s).length : Int) else failV) := by
  have hs' : (strL s).length < 2000000000 := by simpa [Sp.short2] using hs
  have hb := body_len s
  have hF1 : (strL (Sp.front (Sp.body s))).length ≤ (strL (Sp.body s)).length := (List.takeWhile_prefix _).length_le
  have hB1 : (strL (Sp.behind (Sp.body s))).length ≤ (strL (Sp.body s)).length := by
    show ((strL (Sp.body s)).drop _).length ≤ _
    rw [List.length_drop]; omega
  have hP1 : (Sp.part s).length ≤ (strL (Sp.behind (Sp.body s))).length := by
    unfold Sp.part Lib.trimRightS
    rw [List.length_reverse]
    have := ((List.dropWhile_suffix (fun b => ([48] : List UInt8).contains b)) : _ <:+ (strL (Sp.behind (Sp.body s))).reverse).length_le
    rw [List.length_reverse] at this
    exact this
  have eP : Sp.trimR (Sp.behind (Sp.body s)) ⟨⟨[48]⟩⟩ = strOf (Sp.part s) := rfl
  have eL : Sp.trimL (catS (Sp.front (Sp.body s)) (strOf (Sp.part s))) ⟨⟨[48]⟩⟩ = strOf (Sp.lead s) := rfl
  obtain ⟨F, hF⟩ : ∃ F, strL (Sp.front (Sp.body s)) = F := ⟨_, rfl⟩
  obtain ⟨B, hB⟩ : ∃ B, strL (Sp.behind (Sp.body s)) = B := ⟨_, rfl⟩
  have eF : Sp.front (Sp.body s) = strOf F := by rw [← hF]; rfl
  have eB : Sp.behind (Sp.body s) = strOf B := by rw [← hB]; rfl
  have eT : Sp.trim (catS (strOf F) (strOf B)) ⟨⟨[48, 49, 50, 51, 52, 53, 54, 55, 56, 57]⟩⟩ = strOf (Lib.trimS (F ++ B) [48, 49, 50, 51, 52, 53, 54, 55, 56, 57]) := rfl
  have hlead : Sp.lead s = Lib.trimLeftS (F ++ Sp.part s) [48] := by unfold Sp.lead; rw [hF]
  have hpart : Sp.part s = Lib.trimRightS B [48] := by unfold Sp.part; rw [hB]
  rw [hF, hB]
  rw [eP, eL, eF, eB, eT]
  rw [hF] at hF1
  rw [hB] at hB1 hP1
  simp only [cat_is, len_is]
  rw [ite2_pos (fits2 _ (by show (_ : Nat) + _ ≤ 9000000000; omega)), ite2_pos (short_is _ (by rw [List.length_append]; omega))]
  have hne : neS (strOf (Lib.trimS (F ++ B) [48, 49, 50, 51, 52, 53, 54, 55, 56, 57])) ⟨⟨[]⟩⟩ = !((F ++ B).all Sp.dig) := by
    unfold neS
    rw [eq_nil, trim_empty]
    congr 2
    funext b
    exact dig_set b
  rw [hne]
  cases hd : (F ++ B).all Sp.dig with
  | false => rfl
  | true =>
    rw [ite2_neg (show (!true) = false from rfl), ite2_pos (short_is _ (by omega)), ite2_pos (fits2 _ (by show (_ : Nat) + _ ≤ 9000000000; omega)), ite2_pos (short_is _ (by rw [List.length_append]; omega)), Bool.true_and]
    by_cases h15 : 16 ≤ (Sp.lead s).length
    · rw [ite2_pos (Nat.ble_eq_true_of_le h15), if_neg (by simp only [decide_eq_true_eq]; omega)]; rfl
    · rw [ite2_neg (ble_no (by omega))]
      by_cases h6 : 7 ≤ (Sp.part s).length
      · rw [ite2_pos (Nat.ble_eq_true_of_le h6), if_neg (by simp only [decide_eq_true_eq]; omega)]; rfl
      · rw [ite2_neg (ble_no (by omega)), if_pos (by simp only [decide_eq_true_eq]; omega)]
        have hall : (Sp.lead s).all Sp.dig = true := by
          rw [hlead]
          unfold Lib.trimLeftS
          refine all_dw _ _ _ ?_
          rw [List.all_append, Bool.and_eq_true] at hd ⊢
          refine ⟨hd.1, ?_⟩
          rw [hpart]
          unfold Lib.trimRightS
          rw [List.all_reverse]
          exact all_dw _ _ _ (by rw [List.all_reverse]; exact hd.2)
        obtain ⟨p, tp, g1, g2, g3⟩ := read_loop s (strOf (Sp.part s)) (strOf F) (Sp.neg s) (Sp.lead s) [] 0 17 hall (by omega) (by simp) (by simp; omega) (by omega)
        have g1' : (ltow Tryd.prog (fiAt fis 28) (kcall s11) none 17).lp (codeAt (code 28) [1, 1, 1, 1, 1, 1, 1, 1, 1, 0, 1, 0, 0]) (st11_13_0 s false (strOf (Sp.part s)) (Sp.neg s) (strOf F) 0 (strOf (Sp.lead s)) 0 0 0) = _ := g1
        rw [g1', ob_of]
        refine (C11_0_0 _ _ _ _ _ _ _ _ _ _ _ _ _).trans ?_
        have hn : Sp.num 0 (Sp.lead s) < 1000000000000000 := by
          refine Int.lt_of_lt_of_le g3 ?_
          have := Nat.pow_le_pow_right (show 0 < 10 by omega) (show ([] : List UInt8).length + (Sp.lead s).length ≤ 15 by simp; omega)
          exact Int.le_trans (show (10 : Int) ^ (([] : List UInt8).length + (Sp.lead s).length) ≤ ((10 ^ 15 : Nat) : Int) by exact_mod_cast this) (by decide)
        have hz : Int.ofNat (lenS (strOf (Sp.part s))) = ((Sp.part s).length : Int) := rfl
        rw [hz, in62_iff.2 ⟨by omega, by omega⟩, show leI 0 (Sp.num 0 (Sp.lead s)) = true by rw [leI_dec]; simpa using g2, in12_iff.2 ⟨by omega, by omega⟩]
        rfl
theorem parse_core (s : ByteArray) (hs : Sp.short2 s = true) : (ite2 (Sp.short (Sp.body s)) (ite2 (eqS (Sp.front (Sp.body s)) (⟨⟨[]⟩⟩ : ByteArray)) (some (Value.tuple (Array.mk [(Value.agg (Array.mk [(Value.int IntKind.i64 (0 : Int)), (Value.int IntKind.i64 (0 : Int))])), (Value.bool false)]))) (ite2 (Sp.has (Sp.body s)) (ite2 (eqS (Sp.behind (Sp.body s)) (⟨⟨[]⟩⟩ : ByteArray)) (some (Value.tuple (Array.mk [(Value.agg (Array.mk [(Value.int IntKind.i64 (0 : Int)), (Value.int IntKind.i64 (0 : Int))])), (Value.bool false)]))) (ite2 (Nat.ble (Nat.add (lenS (Sp.front (Sp.body s))) (lenS (Sp.behind (Sp.body s)))) 9223372036854775807) (ite2 (Sp.short (catS (Sp.front (Sp.body s)) (Sp.behind (Sp.body s)))) (ite2 (neS (Sp.trim (catS (Sp.front (Sp.body s)) (Sp.behind (Sp.body s))) (⟨⟨[48, 49, 50, 51, 52, 53, 54, 55, 56, 57]⟩⟩ : ByteArray)) (⟨⟨[]⟩⟩ : ByteArray)) (some (Value.tuple (Array.mk [(Value.agg (Array.mk [(Value.int IntKind.i64 (0 : Int)), (Value.int IntKind.i64 (0 : Int))])), (Value.bool false)]))) (ite2 (Sp.short (Sp.behind (Sp.body s))) (ite2 (Nat.ble (Nat.add (lenS (Sp.front (Sp.body s))) (lenS (Sp.trimR (Sp.behind (Sp.body s)) (⟨⟨[48]⟩⟩ : ByteArray)))) 9223372036854775807) (ite2 (Sp.short (catS (Sp.front (Sp.body s)) (Sp.trimR (Sp.behind (Sp.body s)) (⟨⟨[48]⟩⟩ : ByteArray)))) (ite2 (Nat.ble 16 (lenS (Sp.trimL (catS (Sp.front (Sp.body s)) (Sp.trimR (Sp.behind (Sp.body s)) (⟨⟨[48]⟩⟩ : ByteArray))) (⟨⟨[48]⟩⟩ : ByteArray)))) (some (Value.tuple (Array.mk [(Value.agg (Array.mk [(Value.int IntKind.i64 (0 : Int)), (Value.int IntKind.i64 (0 : Int))])), (Value.bool false)]))) (ite2 (Nat.ble 7 (lenS (Sp.trimR (Sp.behind (Sp.body s)) (⟨⟨[48]⟩⟩ : ByteArray)))) (some (Value.tuple (Array.mk [(Value.agg (Array.mk [(Value.int IntKind.i64 (0 : Int)), (Value.int IntKind.i64 (0 : Int))])), (Value.bool false)]))) (ob ((ltow Tryd.prog (fiAt fis 28) (kcall s11) none 17).lp (codeAt (code 28) [1, 1, 1, 1, 1, 1, 1, 1, 1, 0, 1, 0, 0]) (st11_13_0 s false (Sp.trimR (Sp.behind (Sp.body s)) (⟨⟨[48]⟩⟩ : ByteArray)) (Sp.neg s) (Sp.front (Sp.body s)) (0 : Int) (Sp.trimL (catS (Sp.front (Sp.body s)) (Sp.trimR (Sp.behind (Sp.body s)) (⟨⟨[48]⟩⟩ : ByteArray))) (⟨⟨[48]⟩⟩ : ByteArray)) 0 (0 : Int) (0 : Int))) fun r => (contAt Tryd.prog (fiAt fis 28) (kcallK s11) (kcall s11) (ltow Tryd.prog (fiAt fis 28) (kcall s11) none 17).lp (ltow Tryd.prog (fiAt fis 28) (kcall s11) none 17).gs (code 28) [1, 1, 1, 1, 1, 1, 1, 1, 1, 0, 1, 0] (retK Tryd.prog (fiAt fis 28) (res 28))) r.1 r.2))) (none)) (none)) (none))) (none)) (none))) (ite2 (Nat.ble (Nat.add (lenS (Sp.front (Sp.body s))) (lenS (Sp.behind (Sp.body s)))) 9223372036854775807) (ite2 (Sp.short (catS (Sp.front (Sp.body s)) (Sp.behind (Sp.body s)))) (ite2 (neS (Sp.trim (catS (Sp.front (Sp.body s)) (Sp.behind (Sp.body s))) (⟨⟨[48, 49, 50, 51, 52, 53, 54, 55, 56, 57]⟩⟩ : ByteArray)) (⟨⟨[]⟩⟩ : ByteArray)) (some (Value.tuple (Array.mk [(Value.agg (Array.mk [(Value.int IntKind.i64 (0 : Int)), (Value.int IntKind.i64 (0 : Int))])), (Value.bool false)]))) (ite2 (Sp.short (Sp.behind (Sp.body s))) (ite2 (Nat.ble (Nat.add (lenS (Sp.front (Sp.body s))) (lenS (Sp.trimR (Sp.behind (Sp.body s)) (⟨⟨[48]⟩⟩ : ByteArray)))) 9223372036854775807) (ite2 (Sp.short (catS (Sp.front (Sp.body s)) (Sp.trimR (Sp.behind (Sp.body s)) (⟨⟨[48]⟩⟩ : ByteArray)))) (ite2 (Nat.ble 16 (lenS (Sp.trimL (catS (Sp.front (Sp.body s)) (Sp.trimR (Sp.behind (Sp.body s)) (⟨⟨[48]⟩⟩ : ByteArray))) (⟨⟨[48]⟩⟩ : ByteArray)))) (some (Value.tuple (Array.mk [(Value.agg (Array.mk [(Value.int IntKind.i64 (0 : Int)), (Value.int IntKind.i64 (0 : Int))])), (Value.bool false)]))) (ite2 (Nat.ble 7 (lenS (Sp.trimR (Sp.behind (Sp.body s)) (⟨⟨[48]⟩⟩ : ByteArray)))) (some (Value.tuple (Array.mk [(Value.agg (Array.mk [(Value.int IntKind.i64 (0 : Int)), (Value.int IntKind.i64 (0 : Int))])), (Value.bool false)]))) (ob ((ltow Tryd.prog (fiAt fis 28) (kcall s11) none 17).lp (codeAt (code 28) [1, 1, 1, 1, 1, 1, 1, 1, 1, 0, 1, 0, 0]) (st11_13_0 s false (Sp.trimR (Sp.behind (Sp.body s)) (⟨⟨[48]⟩⟩ : ByteArray)) (Sp.neg s) (Sp.front (Sp.body s)) (0 : Int) (Sp.trimL (catS (Sp.front (Sp.body s)) (Sp.trimR (Sp.behind (Sp.body s)) (⟨⟨[48]⟩⟩ : ByteArray))) (⟨⟨[48]⟩⟩ : ByteArray)) 0 (0 : Int) (0 : Int))) fun r => (contAt Tryd.prog (fiAt fis 28) (kcallK s11) (kcall s11) (ltow Tryd.prog (fiAt fis 28) (kcall s11) none 17).lp (ltow Tryd.prog (fiAt fis 28) (kcall s11) none 17).gs (code 28) [1, 1, 1, 1, 1, 1, 1, 1, 1, 0, 1, 0] (retK Tryd.prog (fiAt fis 28) (res 28))) r.1 r.2))) (none)) (none)) (none))) (none)) (none)))) (none)) = some (Value.tuple ⟨[decV (Sp.pM s) (Sp.pS s), .bool (Sp.pB s)]⟩) := by
  have hs' : (strL s).length < 2000000000 := by simpa [Sp.short2] using hs
  have hb := body_len s
  rw [ite2_pos (show Sp.short (Sp.body s) = true from decide_eq_true (by omega))]
  have eF : eqS (Sp.front (Sp.body s)) ⟨⟨[]⟩⟩ = (strL (Sp.front (Sp.body s))).isEmpty := eq_nil _
  have eB : eqS (Sp.behind (Sp.body s)) ⟨⟨[]⟩⟩ = (strL (Sp.behind (Sp.body s))).isEmpty := eq_nil _
  have hX := X_core s hs
  have hno : Sp.pOk s = false → some failV = some (Value.tuple ⟨[decV (Sp.pM s) (Sp.pS s), .bool (Sp.pB s)]⟩) := by
    intro h
    unfold Sp.pM Sp.pS Sp.pB
    rw [h]; rfl
  have hfin : (strL (Sp.front (Sp.body s))).isEmpty = false → (Sp.has (Sp.body s) && (strL (Sp.behind (Sp.body s))).isEmpty) = false →
      some (if ((strL (Sp.front (Sp.body s)) ++ strL (Sp.behind (Sp.body s))).all Sp.dig && decide ((Sp.lead s).length ≤ 15 ∧ (Sp.part s).length ≤ 6)) = true then decRes (Sp.pN s) ((Sp.part s).length : Int) else failV) = some (Value.tuple ⟨[decV (Sp.pM s) (Sp.pS s), .bool (Sp.pB s)]⟩) := by
    intro h1 h2
    have hp : Sp.pOk s = ((strL (Sp.front (Sp.body s)) ++ strL (Sp.behind (Sp.body s))).all Sp.dig && decide ((Sp.lead s).length ≤ 15 ∧ (Sp.part s).length ≤ 6)) := by
      unfold Sp.pOk
      rw [h1, h2]; rfl
    rw [← hp]
    cases hq : Sp.pOk s with
    | true =>
      unfold Sp.pM Sp.pS Sp.pB decRes
      rw [hq]; rfl
    | false => exact hno hq
  rw [eF]
  cases h1 : (strL (Sp.front (Sp.body s))).isEmpty with
  | true => exact hno (by unfold Sp.pOk; rw [h1]; rfl)
  | false =>
    rw [ite2_false]
    cases h2 : Sp.has (Sp.body s) with
    | true =>
      rw [ite2_true, eB]
      cases h3 : (strL (Sp.behind (Sp.body s))).isEmpty with
      | true => exact hno (by unfold Sp.pOk; rw [h1, h2, h3]; rfl)
      | false => rw [ite2_false, hX]; exact hfin h1 (by rw [h2, h3]; rfl)
    | false => rw [ite2_false, hX]; exact hfin h1 (by rw [h2]; rfl)
theorem parse_h : Holds Tryd.prog (28, parseS) := holds_of_K masks (s := s11) (fun x h => by
    simp only [List.mem_cons, List.not_mem_nil, or_false] at h
    rcases h with rfl | rfl | rfl | rfl | rfl | rfl | rfl
    · exact cutPrefix_h
    · exact trimPrefix_h
    · exact cut_h
    · exact trim_h
    · exact trimR_h
    · exact trimL_h
    · exact whole_h) none Tryd.func28 (by kernel_rfl) (c := code 28) (by kernel_rfl) (rs := res 28) (by kernel_rfl) (by kernel_rfl) fun args v hG => by
  obtain ⟨s, h1, h⟩ := ob_some hG
  obtain ⟨hp, rfl⟩ := Prod.mk.inj (Option.some.inj h)
  rw [s1_some h1]
  refine ⟨rfl, rfl, rfl, 17, (K11 s _ _).trans ?_⟩
  have hc := parse_core s hp
  unfold Sp.body at hc
  have hn : Sp.hasP s ⟨⟨[45]⟩⟩ = Sp.neg s := rfl
  rw [hn]
  cases hg : Sp.neg s with
  | true =>
    rw [hg] at hc
    rw [ite2_neg (show ite2 true false true = false from rfl)]
    exact hc
  | false =>
    rw [hg] at hc
    rw [ite2_pos (show ite2 false false true = true from rfl)]
    exact hc


end
end Go.Proofs.YtnoppcnfdnkhbaaDoor
