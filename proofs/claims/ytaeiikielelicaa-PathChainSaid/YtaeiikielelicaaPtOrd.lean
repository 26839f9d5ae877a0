/- The order of terms, of pairs: plain facts. -/
import Derived.Test.YtaeiikielelicaaPtPairs
set_option linter.unusedVariables false
set_option linter.unusedSimpArgs false
set_option linter.unusedSectionVars false
set_option linter.deprecated false
namespace Go.Proofs.Ytaeiikielelicaa.Pt
open Go.RowKit Go.Proofs Go.Am
open Pm
set_option linter.unusedVariables false
noncomputable section
/-- a way to hold things against one another that is an order of classes. -/
structure Good {α : Type} (c : α → α → Int) : Prop where
  sgn : ∀ x y, c x y < 0 ↔ 0 < c y x
  tr : ∀ x y z, c x y ≤ 0 → c y z ≤ 0 → c x z ≤ 0
theorem Good.zero {α : Type} {c : α → α → Int} (h : Good c) (x y : α) : c x y = 0 ↔ c y x = 0 := by have := h.sgn x y; have := h.sgn y x; omega
theorem Good.lt_le {α : Type} {c : α → α → Int} (h : Good c) {x y z : α} (h1 : c x y < 0) (h2 : c y z ≤ 0) : c x z < 0 := by
  rcases Int.lt_or_le (c x z) 0 with h3 | h3
  · exact h3
  · have e1 := (h.sgn x y).1 h1
    have := h.sgn x z; have := h.sgn z x
    have := h.tr y z x h2 (by omega)
    omega
theorem Good.le_lt {α : Type} {c : α → α → Int} (h : Good c) {x y z : α} (h1 : c x y ≤ 0) (h2 : c y z < 0) : c x z < 0 := by
  rcases Int.lt_or_le (c x z) 0 with h3 | h3
  · exact h3
  · have e1 := (h.sgn y z).1 h2
    have := h.sgn x z; have := h.sgn z x
    have := h.tr z x y (by omega) h1
    omega
theorem Good.comap {α β : Type} {c : α → α → Int} (h : Good c) (f : β → α) : Good fun x y => c (f x) (f y) := ⟨fun x y => h.sgn _ _, fun x y z => h.tr _ _ _⟩
theorem Good.orI {α : Type} {c d : α → α → Int} (h : Good c) (k : Good d) : Good fun x y => orI (c x y) (d x y) := by
  refine ⟨fun x y => ?_, fun x y z h1 h2 => ?_⟩
  · unfold Pt.orI
    have a := h.sgn x y; have b := h.sgn y x; have c' := k.sgn x y
    by_cases e : c x y = 0
    · rw [if_pos e, if_pos (by omega)]; exact c'
    · rw [if_neg e, if_neg (by omega)]; exact a
  · unfold Pt.orI at h1 h2 ⊢
    by_cases e1 : c x y = 0
    · rw [if_pos e1] at h1
      by_cases e2 : c y z = 0
      · rw [if_pos e2] at h2
        have h3 : c x z = 0 := by
          have := h.tr x y z (by omega) (by omega)
          have := h.tr z y x (by have := h.zero y z; omega) (by have := h.zero x y; omega)
          have := h.sgn x z; have := h.sgn z x
          omega
        rw [if_pos h3]
        exact k.tr x y z h1 h2
      · rw [if_neg e2] at h2
        have := h.le_lt (x := x) (by omega) (show c y z < 0 by omega)
        rw [if_neg (by omega)]
        omega
    · rw [if_neg e1] at h1
      have h3 : c x z < 0 := by
        by_cases e2 : c y z = 0
        · exact h.lt_le (by omega) (by omega : c y z ≤ 0)
        · rw [if_neg e2] at h2
          exact h.lt_le (by omega) h2
      rw [if_neg (by omega)]
      omega
theorem good_ordI : Good ordI := by
  refine ⟨fun x y => ?_, fun x y z => ?_⟩ <;> unfold ordI
  · by_cases h : x < y
    · rw [if_pos h, if_neg (by omega), if_neg (by omega)]; omega
    · rw [if_neg h]
      by_cases e : x = y
      · rw [if_pos e, if_neg (by omega), if_pos e.symm]
        first | done | omega
      · rw [if_neg e, if_pos (by omega)]
        first | done | omega
  · split <;> split <;> split <;> (try split) <;> (try split) <;> (try split) <;> omega
theorem u8_tri {a b : UInt8} (e : ¬ a = b) (l : ¬ a < b) : b < a := by
  rw [UInt8.lt_iff_toNat_lt] at *
  have : a.toNat ≠ b.toNat := fun h => e (UInt8.toNat_inj.1 h)
  omega
theorem bl_total : ∀ a b : List UInt8, Op.bytesLess a b = true ∨ a = b ∨ Op.bytesLess b a = true
  | [], [] => .inr (.inl rfl)
  | [], _ :: _ => .inl rfl
  | _ :: _, [] => .inr (.inr rfl)
  | a :: x, b :: y => by
    rw [Op.bytesLess, Op.bytesLess]
    rcases bl_total x y with h | h | h
    · by_cases e : a = b
      · subst e; simp [h]
      · by_cases l : a < b
        · simp [l]
        · have := u8_tri e l
          simp [this]
    · subst h
      by_cases e : a = b
      · subst e; simp
      · by_cases l : a < b
        · simp [l]
        · have := u8_tri e l
          simp [this]
    · by_cases e : a = b
      · subst e; simp [h]
      · by_cases l : a < b
        · simp [l]
        · have := u8_tri e l
          simp [this]
theorem bl_trans : ∀ a b c : List UInt8, Op.bytesLess a b = true → Op.bytesLess b c = true → Op.bytesLess a c = true
  | _, b, [], _, h => by cases b <;> simp [Op.bytesLess] at h
  | a, [], _ :: _, h, _ => by cases a <;> simp [Op.bytesLess] at h
  | [], _ :: _, _ :: _, _, _ => rfl
  | a :: x, b :: y, c :: z, h1, h2 => by
    rw [Op.bytesLess] at h1 h2 ⊢
    simp only [Bool.or_eq_true, decide_eq_true_eq, Bool.and_eq_true, beq_iff_eq] at h1 h2 ⊢
    rcases h1 with h1 | ⟨rfl, h1⟩
    · rcases h2 with h2 | ⟨rfl, h2⟩
      · exact .inl (UInt8.lt_trans h1 h2)
      · exact .inl h1
    · rcases h2 with h2 | ⟨rfl, h2⟩
      · exact .inl h2
      · exact .inr ⟨rfl, bl_trans x y z h1 h2⟩
theorem bl_asymm {a b : List UInt8} (h : Op.bytesLess a b = true) : Op.bytesLess b a = false := by
  cases e : Op.bytesLess b a with
  | false => rfl
  | true => have := bl_trans a b a h e; rw [bl_irrefl] at this; cases this
theorem ordS_lt (a b : ByteArray) : ordS a b < 0 ↔ Op.bytesLess a.toList b.toList = true := by
  unfold ordS
  by_cases h : Op.bytesLess a.toList b.toList = true
  · simp [h]
  · by_cases e : a.toList = b.toList
    · rw [if_neg h, if_pos e]; simp [h]
    · rw [if_neg h, if_neg e]; simp [h]
theorem ordS_gt (a b : ByteArray) : 0 < ordS a b ↔ Op.bytesLess b.toList a.toList = true := by
  unfold ordS
  rcases bl_total a.toList b.toList with h | h | h
  · rw [if_pos h, bl_asymm h]; simp
  · rw [h, bl_irrefl]; simp
  · rw [bl_asymm h, h, if_neg (by simp), if_neg (fun e => by rw [e, bl_irrefl] at h; cases h)]; simp
theorem good_ordS : Good ordS := by
  refine ⟨fun x y => by rw [ordS_lt, ordS_gt], fun x y z h1 h2 => ?_⟩
  have e1 : ¬ Op.bytesLess y.toList x.toList = true := fun h => by have := (ordS_gt x y).2 h; omega
  have e2 : ¬ Op.bytesLess z.toList y.toList = true := fun h => by have := (ordS_gt y z).2 h; omega
  have e3 : ¬ Op.bytesLess z.toList x.toList = true := fun h => by
    rcases bl_total x.toList y.toList with h3 | h3 | h3
    · exact e2 (bl_trans _ _ _ h h3)
    · exact e2 (h3 ▸ h)
    · exact e1 h3
  exact Int.not_lt.1 fun h => e3 ((ordS_gt x z).1 h)
theorem good_cmpT : Good cmpT :=
  (good_ordI.comap (fun t : Tm => rk t.kind)).orI ((good_ordI.comap Tm.kind).orI ((good_ordS.comap Tm.s).orI ((good_ordS.comap Tm.lang).orI (good_ordS.comap Tm.ty))))
theorem good_cmpP : Good cmpP := (good_cmpT.comap (Prod.fst : Pr → Tm)).orI (good_cmpT.comap Prod.snd)
theorem orI_zero {a b : Int} (h : orI a b = 0) : a = 0 ∧ b = 0 := by
  unfold orI at h
  split at h
  · exact ⟨by assumption, h⟩
  · exact absurd h (by assumption)
theorem ordI_zero {a b : Int} (h : ordI a b = 0) : a = b := by
  unfold ordI at h
  split at h
  · omega
  · split at h
    · assumption
    · omega
theorem list_bytes {a b : ByteArray} (h : a.toList = b.toList) : a = b := by
  have := beq_toListBytes a b
  rw [h, beq_bytes] at this
  simpa using this
theorem ordS_zero {a b : ByteArray} (h : ordS a b = 0) : a = b := by
  unfold ordS at h
  split at h
  · omega
  · split at h
    · exact list_bytes (by assumption)
    · omega
theorem cmpT_zero {a b : Tm} : cmpT a b = 0 ↔ a = b := by
  refine ⟨fun h => ?_, fun h => by rw [h]; exact cmpT_self b⟩
  unfold cmpT at h
  obtain ⟨h1, h⟩ := orI_zero h
  obtain ⟨h2, h⟩ := orI_zero h
  obtain ⟨h3, h⟩ := orI_zero h
  obtain ⟨h4, h5⟩ := orI_zero h
  obtain ⟨k, s, l, t⟩ := a
  obtain ⟨k', s', l', t'⟩ := b
  have e2 := ordI_zero h2; have e3 := ordS_zero h3; have e4 := ordS_zero h4; have e5 := ordS_zero h5
  dsimp only at e2 e3 e4 e5
  rw [e2, e3, e4, e5]
theorem cmpP_zero {p q : Pr} : cmpP p q = 0 ↔ p = q := by
  refine ⟨fun h => ?_, fun h => by rw [h]; unfold cmpP; rw [cmpT_self, cmpT_self]; rfl⟩
  obtain ⟨h1, h2⟩ := orI_zero h
  exact Prod.ext (cmpT_zero.1 h1) (cmpT_zero.1 h2)
/-- rows in order, each pair once. -/
def Sorted (l : List Pr) : Prop := l.Pairwise fun p q => cmpP p q < 0
theorem lt_irrefl (p : Pr) : ¬ cmpP p p < 0 := by rw [cmpP_zero.2 rfl]; omega
theorem lt_trans {p q r : Pr} (h1 : cmpP p q < 0) (h2 : cmpP q r < 0) : cmpP p r < 0 := good_cmpP.lt_le h1 (by omega)
theorem sorted_eq : ∀ {l m : List Pr}, Sorted l → Sorted m → (∀ p, p ∈ l ↔ p ∈ m) → l = m
  | [], [], _, _, _ => rfl
  | [], q :: m, _, _, h => absurd ((h q).2 (by simp)) (by simp)
  | p :: l, [], _, _, h => absurd ((h p).1 (by simp)) (by simp)
  | p :: l, q :: m, hl, hm, h => by
    unfold Sorted at hl hm
    rw [List.pairwise_cons] at hl hm
    have e : p = q := by
      rcases List.mem_cons.1 ((h p).1 (by simp)) with e | e
      · exact e
      · rcases List.mem_cons.1 ((h q).2 (by simp)) with e' | e'
        · exact e'.symm
        · exact absurd (lt_trans (hl.1 q e') (hm.1 p e)) (lt_irrefl p)
    subst e
    rw [sorted_eq hl.2 hm.2 fun r => ?_]
    constructor
    · intro hr
      rcases List.mem_cons.1 ((h r).1 (List.mem_cons_of_mem _ hr)) with e | e
      · subst e; exact absurd (hl.1 r hr) (lt_irrefl r)
      · exact e
    · intro hr
      rcases List.mem_cons.1 ((h r).2 (List.mem_cons_of_mem _ hr)) with e | e
      · subst e; exact absurd (hm.1 r hr) (lt_irrefl r)
      · exact e
end
end Go.Proofs.Ytaeiikielelicaa.Pt
