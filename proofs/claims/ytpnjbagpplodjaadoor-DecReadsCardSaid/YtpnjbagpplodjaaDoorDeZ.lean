/- Reading by the reference. -/
import Derived.Test.YtpnjbagpplodjaaDoorDeY
namespace Go.Proofs.YtpnjbagpplodjaaDoor
open Go.RowKit Go.Am
set_option maxRecDepth 1000000
set_option linter.unusedSimpArgs false
set_option linter.unusedVariables false
noncomputable section
def condP (F Q : List UInt8) : Prop := F ≠ [] ∧ F.all Sp.dig = true ∧ Q.all Sp.dig = true ∧ Q.length ≤ 6 ∧ Sp.num 0 (F ++ Q) < 1000000000000000
instance (F Q : List UInt8) : Decidable (condP F Q) := by unfold condP; infer_instance
theorem fin_is {b : Bool} {Q : List UInt8} {N : Int} (n0 : 0 ≤ N) (n1 : N < 1000000000000000) (hq : Q.length ≤ 6) : finP b (strOf Q) N = some (decRes (Sp.sg b N) (Q.length : Int)) := by
  unfold finP
  have w1 : wrapA IntKind.i64 (Int.sub 0 N) = -N := (wrapA_i64 (show _ ≤ 0 - N by omega) (show 0 - N < _ by omega)).trans (Int.zero_sub _)
  have i12 : Sp.in12 (Int.ofNat (lenS (strOf Q))) = true := in12_iff.2 ⟨by show (0 : Int) ≤ (Q.length : Int); omega, by show (Q.length : Int) ≤ 12; omega⟩
  rw [w1, i12, in62_iff.2 ⟨by omega, by omega⟩, in62_iff.2 ⟨by omega, by omega⟩]
  cases b <;> rfl
theorem tail_ok {b : Bool} {F Q : List UInt8} (hF : F.length < 2000000000) (hQ : Q.length < 2000000000) : tailP b (strOf F) (strOf Q) = some (if condP F Q then decRes (Sp.sg b (Sp.num 0 (F ++ Q))) (Q.length : Int) else failD) := by
  unfold tailP
  rw [show Sp.short3 (strOf F) = true from decide_eq_true hF, show Sp.short3 (strOf Q) = true from decide_eq_true hQ, ite2_true]
  cases hO : Sp.dgO 0 (strOf F) with
  | false =>
    have hc : ¬ condP F Q := by
      rintro ⟨h1, h2, h3, h4, h5⟩
      rw [num_app] at h5
      have hn : (0 : Int) ≤ Sp.num 0 F := num_le (by omega) h2
      have := num_le hn h3
      have hB : Sp.dgB 0 (strOf F) = true := dgB_iff.2 ⟨h2, by show Sp.num 0 F < _; omega⟩
      unfold Sp.dgO at hO
      rw [hB, Bool.true_and] at hO
      have : F.isEmpty = true := by cases hf : F.isEmpty with
        | true => rfl
        | false => rw [show (strL (strOf F)).isEmpty = F.isEmpty from rfl, hf] at hO; cases hO
      exact h1 (List.isEmpty_iff.1 this)
    rw [if_neg hc]; rfl
  | true =>
    have hO' := hO
    unfold Sp.dgO at hO'
    rw [Bool.and_eq_true] at hO'
    obtain ⟨hB, hE⟩ := hO'
    obtain ⟨d1, d2⟩ := dgB_iff.1 hB
    have hne : F ≠ [] := by rintro rfl; cases hE
    have hN : Sp.dgN 0 (strOf F) = Sp.num 0 F := by unfold Sp.dgN; rw [if_pos hB]; rfl
    have n0 : 0 ≤ Sp.num 0 F := num_le (by omega) d1
    have n1 : Sp.num 0 F < 1000000000000000 := d2
    have rest : (Q.length ≤ 6 ∨ Q.all Sp.dig = false) → restP b (strOf F) (strOf Q) = some (if condP F Q then decRes (Sp.sg b (Sp.num 0 (F ++ Q))) (Q.length : Int) else failD) := by
      intro hq
      unfold restP
      rw [ne_empty, hN, hO, show Sp.short3 (strOf Q) = true from decide_eq_true hQ, show Sp.in15 (Sp.num 0 F) = true from decide_eq_true ⟨n0, n1⟩]
      cases hqe : Q.isEmpty with
      | true =>
        have : Q = [] := List.isEmpty_iff.1 hqe
        subst this
        have hc : condP F [] := ⟨hne, d1, rfl, by simp, by rw [List.append_nil]; exact n1⟩
        rw [if_pos hc, List.append_nil]
        exact fin_is n0 n1 (by simp)
      | false =>
        have hqn : Q ≠ [] := fun e => by rw [e] at hqe; cases hqe
        rw [show (strL (strOf Q)).isEmpty = false from hqe]
        cases hO2 : Sp.dgO (Sp.num 0 F) (strOf Q) with
        | true =>
          have hO2' := hO2
          unfold Sp.dgO at hO2'
          rw [Bool.and_eq_true] at hO2'
          obtain ⟨e1, e2⟩ := dgB_iff.1 hO2'.1
          have hq6 : Q.length ≤ 6 := by
            rcases hq with h | h
            · exact h
            · rw [show Q.all Sp.dig = true from e1] at h; cases h
          have hN2 : Sp.dgN (Sp.num 0 F) (strOf Q) = Sp.num (Sp.num 0 F) Q := by unfold Sp.dgN; rw [if_pos hO2'.1]; rfl
          have hc : condP F Q := ⟨hne, d1, e1, hq6, by rw [num_app]; exact e2⟩
          rw [if_pos hc, hN2, num_app]
          exact fin_is (Int.le_trans n0 (num_le n0 e1)) e2 hq6
        | false =>
          have hc : ¬ condP F Q := by
            rintro ⟨h1, h2, h3, h4, h5⟩
            rw [num_app] at h5
            have : Sp.dgO (Sp.num 0 F) (strOf Q) = true := by
              unfold Sp.dgO
              rw [show Sp.dgB (Sp.num 0 F) (strOf Q) = true from dgB_iff.2 ⟨h3, h5⟩, show (strL (strOf Q)).isEmpty = false from hqe]; rfl
            rw [this] at hO2; cases hO2
          rw [if_neg hc]; rfl
    rw [ite2_neg (show ite2 true false true = false from rfl)]
    by_cases h7 : 7 ≤ Q.length
    · rw [ite2_pos (show Nat.ble 7 (lenS (strOf Q)) = true from Nat.ble_eq_true_of_le h7), ite2_true]
      cases ho : Sp.only (strOf Q) with
      | true =>
        have hc : ¬ condP F Q := fun h => by have := h.2.2.2.1; omega
        rw [if_neg hc]; rfl
      | false => exact rest (.inr ho)
    · rw [ite2_neg (show Nat.ble 7 (lenS (strOf Q)) = false from ble_no (by show Q.length < 7; omega))]
      exact rest (.inl (by omega))
theorem parse_is (s : ByteArray) : (Value.tuple ⟨[decV (Sp.pM s) (Sp.pS s), .bool (Sp.pB s)]⟩) = if Sp.pOk s = true then decRes (Sp.pN s) ((Sp.part s).length : Int) else failD := by
  unfold Sp.pM Sp.pS Sp.pB
  cases h : Sp.pOk s with
  | true => simp only [if_true]; rfl
  | false => simp only [Bool.false_eq_true, if_false]; rfl
theorem dw_all_dig (l : List UInt8) : (l.dropWhile fun x => ([48] : List UInt8).contains x).all Sp.dig = l.all Sp.dig := by
  induction l with
  | nil => rfl
  | cons x l ih =>
    rw [List.dropWhile_cons]
    split
    · rename_i h
      have : x = 48 := by simpa using h
      subst this
      rw [ih]; rfl
    · rfl
theorem trimR_all (l : List UInt8) : (Lib.trimRightS l [48]).all Sp.dig = l.all Sp.dig := by
  unfold Lib.trimRightS
  rw [List.all_reverse, dw_all_dig, List.all_reverse]
theorem any_tw (l : List UInt8) : l.any (fun b => decide (b = 46)) = decide ((l.takeWhile fun b => !decide (b = 46)).length < l.length) := by
  induction l with
  | nil => rfl
  | cons x l ih =>
    rw [List.any_cons, List.takeWhile_cons]
    by_cases hx : x = 46
    · simp [hx]
    · rw [decide_eq_false hx, Bool.false_or, ih]; simp
theorem pOk_iff (s : ByteArray) : Sp.pOk s = true ↔ (condP (strL (Sp.front (Sp.body s))) (Sp.part s) ∧ ¬(Sp.has (Sp.body s) = true ∧ strL (Sp.behind (Sp.body s)) = [])) := by
  unfold Sp.pOk Sp.lead Sp.part condP
  obtain ⟨F, hF⟩ : ∃ F, strL (Sp.front (Sp.body s)) = F := ⟨_, rfl⟩
  obtain ⟨B, hB⟩ : ∃ B, strL (Sp.behind (Sp.body s)) = B := ⟨_, rfl⟩
  rw [hF, hB]
  simp only [Bool.and_eq_true, Bool.not_eq_true', List.all_append, decide_eq_true_eq]
  have hl : F.all Sp.dig = true → B.all Sp.dig = true → ((Lib.trimLeftS (F ++ Lib.trimRightS B [48]) [48]).length ≤ 15 ↔ Sp.num 0 (F ++ Lib.trimRightS B [48]) < 1000000000000000) := fun h1 h2 => lead_iff (by rw [List.all_append, h1, trimR_all, h2]; rfl)
  constructor
  · rintro ⟨⟨⟨h1, h2⟩, h3, h4⟩, h5, h6⟩
    refine ⟨⟨fun e => ?_, h3, by rw [trimR_all]; exact h4, h6, (hl h3 h4).1 h5⟩, fun ⟨g1, g2⟩ => ?_⟩
    · rw [e] at h1; cases h1
    · rw [g1, g2] at h2; cases h2
  · rintro ⟨⟨h1, h2, h3, h4, h5⟩, h6⟩
    rw [trimR_all] at h3
    refine ⟨⟨⟨?_, ?_⟩, h2, h3⟩, (hl h2 h3).2 h5, h4⟩
    · cases F with
      | nil => exact absurd rfl h1
      | cons => rfl
    · cases hh : Sp.has (Sp.body s) with
      | false => rfl
      | true =>
        cases B with
        | nil => exact absurd ⟨hh, rfl⟩ h6
        | cons => rfl
theorem core_ok (s : ByteArray) (hs : (strL (Sp.body s)).length < 2000000000) {f : Nat} (hf : (strL (Sp.body s)).length < f) :
    ob ((ltow Tryd.prog (fiAt fis 12) (kcall s12) none f).lp (codeAt (code 12) [1, 1, 1, 1, 0, 0, 0]) (st12_5_0 (Sp.body s) false 0 (Sp.neg s) 0 0)) (fun r => (contAt Tryd.prog (fiAt fis 12) (kcallK s12) (kcall s12) (ltow Tryd.prog (fiAt fis 12) (kcall s12) none f).lp (ltow Tryd.prog (fiAt fis 12) (kcall s12) none f).gs (code 12) [1, 1, 1, 1, 0, 0] (retK Tryd.prog (fiAt fis 12) (res 12))) r.1 r.2)
      = some (.tuple ⟨[decV (Sp.pM s) (Sp.pS s), .bool (Sp.pB s)]⟩) := by
  obtain ⟨bd, hbd⟩ : ∃ bd, Sp.body s = bd := ⟨_, rfl⟩
  have hOk := pOk_iff s
  have hPart : Sp.part s = Lib.trimRightS (strL (Sp.behind bd)) [48] := by unfold Sp.part; rw [hbd]
  have hPN : Sp.pN s = Sp.sg (Sp.neg s) (Sp.num 0 (strL (Sp.front bd) ++ Sp.part s)) := by unfold Sp.pN Sp.lead; rw [num_lead, hbd]
  rw [hbd] at hs hf hOk ⊢
  have hle : ((strL bd).takeWhile fun b => !decide (b = 46)).length ≤ (strL bd).length := (List.takeWhile_prefix _).length_le
  obtain ⟨tp, hl⟩ := point_loop (s := bd) (x1 := false) (x3 := Sp.neg s) (x4 := 0) (x5 := 0) hs ((strL bd).takeWhile fun b => !decide (b = 46)).length 0 f (by omega) (by omega)
  refine (congrArg (fun q => ob q _) hl).trans ?_
  refine (C12_0 _ _ _ _ _ _ _ _ _).trans ?_
  have hfr : subS bd 0 ((strL bd).takeWhile fun b => !decide (b = 46)).length = Sp.front bd := by
    rw [sub_front]; unfold Sp.front; congr 1
    exact (List.prefix_iff_eq_take.1 (List.takeWhile_prefix _)).symm
  rw [ob_le (by omega) (show _ ≤ ((lenS bd : Nat) : Int) from by show (_ : Int) ≤ ((strL bd).length : Int); omega), Int.toNat_natCast, hfr, parse_is]
  have hfl : (strL (Sp.front bd)).length < 2000000000 := by
    show ((strL bd).takeWhile fun b => !decide (b = 46)).length < _
    omega
  have hany : Sp.has bd = decide (((strL bd).takeWhile fun b => !decide (b = 46)).length < (strL bd).length) := any_tw (strL bd)
  have hbe : strL (Sp.behind bd) = (strL bd).drop (((strL bd).takeWhile fun b => !decide (b = 46)).length + 1) := rfl
  by_cases hk : ((strL bd).takeWhile fun b => !decide (b = 46)).length < (strL bd).length
  · rw [decide_eq_true hk] at hany
    rw [ite2_pos (show ltI _ (Int.ofNat (lenS bd)) = true from by rw [ltI_eq]; exact decide_eq_true (by show (_ : Int) < ((strL bd).length : Int); omega)),
      show wrapA IntKind.i64 (Int.add ((((strL bd).takeWhile fun b => !decide (b = 46)).length : Nat) : Int) 1) = ((((strL bd).takeWhile fun b => !decide (b = 46)).length + 1 : Nat) : Int) from wrapA_i64 (show _ ≤ ((((strL bd).takeWhile fun b => !decide (b = 46)).length : Nat) : Int) + 1 by omega) (show ((((strL bd).takeWhile fun b => !decide (b = 46)).length : Nat) : Int) + 1 < _ by omega),
      ob_le (by omega) (show _ ≤ ((lenS bd : Nat) : Int) from by show (_ : Int) ≤ ((strL bd).length : Int); omega), Int.toNat_natCast]
    have hbe2 : subS bd (((strL bd).takeWhile fun b => !decide (b = 46)).length + 1) (lenS bd) = Sp.behind bd := by
      unfold subS Sp.behind
      congr 1
      refine List.take_of_length_le ?_
      rw [List.length_drop]; exact Nat.le_refl _
    rw [hbe2, eq_empty]
    cases hb : (strL (Sp.behind bd)).isEmpty with
    | true =>
      have hno : ¬ Sp.pOk s = true := fun h => (hOk.1 h).2 ⟨hany, List.isEmpty_iff.1 hb⟩
      rw [if_neg hno]; rfl
    | false =>
      have hbl : (strL (Sp.behind bd)).length < 2000000000 := by rw [hbe, List.length_drop]; omega
      obtain ⟨tp2, hl2⟩ := strip_loop (s := bd) (x1 := false) (x4 := Sp.neg s) (x5 := Sp.front bd) (x3 := ((((strL bd).takeWhile fun b => !decide (b = 46)).length : Nat) : Int)) (x6 := 0) (x7 := 0) (strL (Sp.behind bd)).length (strL (Sp.behind bd)) f rfl hbl (by rw [hbe, List.length_drop]; omega)
      rw [ite2_false]
      refine (congrArg (fun q => ob q _) hl2).trans ?_
      refine (C12_1 _ _ _ _ _ _ _ _ _ _ _).trans ?_
      have hpl : (Lib.trimRightS (strL (Sp.behind bd)) [48]).length ≤ (strL (Sp.behind bd)).length := by
        unfold Lib.trimRightS
        rw [List.length_reverse]
        refine Nat.le_trans (List.dropWhile_suffix _).length_le ?_
        rw [List.length_reverse]; exact Nat.le_refl _
      refine (tail_ok (F := strL (Sp.front bd)) (Q := Lib.trimRightS (strL (Sp.behind bd)) [48]) hfl (by omega)).trans ?_
      rw [← hPart, hPN]
      have hiff : condP (strL (Sp.front bd)) (Sp.part s) ↔ Sp.pOk s = true := ⟨fun h => hOk.2 ⟨h, fun g => by rw [g.2] at hb; cases hb⟩, fun h => (hOk.1 h).1⟩
      by_cases hc : condP (strL (Sp.front bd)) (Sp.part s)
      · rw [if_pos hc, if_pos (hiff.1 hc)]
      · rw [if_neg hc, if_neg fun h => hc (hiff.2 h)]
  · rw [decide_eq_false hk] at hany
    rw [ite2_neg (show ltI _ (Int.ofNat (lenS bd)) = false from by rw [ltI_eq]; exact decide_eq_false (by show ¬ (_ : Int) < ((strL bd).length : Int); omega))]
    have hb0 : strL (Sp.behind bd) = [] := by rw [hbe]; exact List.drop_eq_nil_of_le (by omega)
    have hp0 : Sp.part s = [] := by rw [hPart, hb0]; rfl
    refine (tail_ok (F := strL (Sp.front bd)) (Q := []) hfl (by simp)).trans ?_
    rw [hPN, hp0]
    rw [hp0] at hOk
    have hiff : condP (strL (Sp.front bd)) [] ↔ Sp.pOk s = true := ⟨fun h => hOk.2 ⟨h, fun g => by rw [hany] at g; cases g.1⟩, fun h => (hOk.1 h).1⟩
    by_cases hc : condP (strL (Sp.front bd)) []
    · rw [if_pos hc, if_pos (hiff.1 hc)]
    · rw [if_neg hc, if_neg fun h => hc (hiff.2 h)]
theorem hasP_cons (b c : UInt8) (r : List UInt8) : Sp.hasP (strOf (b :: r)) ⟨⟨[c]⟩⟩ = decide (b = c) := by
  show (c == b && ([] : List UInt8).isPrefixOf r) = _
  rw [show ([] : List UInt8).isPrefixOf r = true from by cases r <;> rfl, Bool.and_true, Bool.eq_iff_iff, beq_iff_eq, decide_eq_true_eq]
  exact eq_comm
theorem cutP_cons (b c : UInt8) (r : List UInt8) : Sp.cutP (strOf (b :: r)) ⟨⟨[c]⟩⟩ = if b = c then strOf r else strOf (b :: r) := by
  have h : Lib.hasPrefix (b :: r) [c] = decide (b = c) := hasP_cons b c r
  show strOf (if Lib.hasPrefix (b :: r) [c] = true then (b :: r).drop 1 else b :: r) = _
  rw [h]
  by_cases e : b = c
  · rw [if_pos (by simpa using e), if_pos e]; rfl
  · rw [if_neg (by simpa using e), if_neg e]
theorem rparse_h : Holds Tryd.prog (12, parseS) := holds_of_K masks (s := s12) (fun x h => by
    simp only [List.mem_cons, List.not_mem_nil, or_false] at h
    rcases h with rfl | rfl | rfl
    · exact digits_h
    · exact only_h
    · exact norm_h) none Tryd.func12 (by kernel_rfl) (c := code 12) (by kernel_rfl) (rs := res 12) (by kernel_rfl) (by kernel_rfl) fun args v hG => by
  obtain ⟨s, h1, h⟩ := ob_some hG
  obtain ⟨hp, rfl⟩ := Prod.mk.inj (Option.some.inj h)
  rw [s1_some h1]
  have hs : (strL s).length < 2000000000 := of_decide_eq_true hp
  have hbl := body_len s
  refine ⟨rfl, rfl, rfl, (strL s).length + 1, (K12 s _ _).trans ?_⟩
  have core := core_ok s (by omega) (f := (strL s).length + 1) (by omega)
  rw [show masks.l = fis from rfl]
  obtain ⟨l, hl⟩ : ∃ l, strL s = l := ⟨_, rfl⟩
  have hsl : s = strOf l := by rw [← hl]; rfl
  subst hsl
  cases l with
  | nil =>
    have e1 : Sp.neg (strOf []) = false := by decide
    have e2 : Sp.body (strOf []) = strOf [] := by unfold Sp.body; rw [e1, if_neg (by simp)]; rfl
    rw [e1, e2] at core
    rw [ite2_neg (show Nat.ble 1 (lenS (strOf [])) = false from rfl)]
    exact core
  | cons b r =>
    rw [ite2_pos (show Nat.ble 1 (lenS (strOf (b :: r))) = true from rfl)]
    have hb0 : byteS (strOf (b :: r)) 0 = some (Int.ofNat b.toNat) := rfl
    have hsub : subS (strOf (b :: r)) 1 (lenS (strOf (b :: r))) = strOf r := by
      show strOf (r.take ((r.length + 1) - 1)) = _
      rw [Nat.add_sub_cancel, List.take_length]
    have hble : Nat.ble 1 (lenS (strOf (b :: r))) = true := rfl
    by_cases h43 : b = 43
    · have e1 : Sp.neg (strOf (b :: r)) = false := by unfold Sp.neg; rw [hasP_cons, h43]; rfl
      have e2 : Sp.body (strOf (b :: r)) = strOf r := by unfold Sp.body; rw [e1, if_neg (by simp), cutP_cons, if_pos h43]
      rw [e1, e2] at core
      rw [hb0, ob_of, ite2_pos (show eqI (Int.ofNat b.toNat) 43 = true from by rw [h43]; rfl), ob_of, hble, ite2_true, ob_of, hsub, show eqI (Int.ofNat b.toNat) 45 = false from by rw [h43]; rfl]
      exact core
    · have n43 : eqI (Int.ofNat b.toNat) 43 = false := by
        rw [eqI_dec]; exact decide_eq_false fun e => h43 (by rw [← UInt8.toNat_inj]; exact Int.ofNat.inj e)
      by_cases h45 : b = 45
      · have e1 : Sp.neg (strOf (b :: r)) = true := by unfold Sp.neg; rw [hasP_cons, h45]; rfl
        have e2 : Sp.body (strOf (b :: r)) = strOf r := by unfold Sp.body; rw [e1, if_pos rfl, cutP_cons, if_pos h45]
        rw [e1, e2] at core
        have t45 : eqI (Int.ofNat b.toNat) 45 = true := by rw [h45]; rfl
        rw [hb0, ob_of, n43, ite2_false, ob_of, t45, ite2_true, ob_of, hble, ite2_true, ob_of, hsub, t45]
        exact core
      · have n45 : eqI (Int.ofNat b.toNat) 45 = false := by
          rw [eqI_dec]; exact decide_eq_false fun e => h45 (by rw [← UInt8.toNat_inj]; exact Int.ofNat.inj e)
        have e1 : Sp.neg (strOf (b :: r)) = false := by unfold Sp.neg; rw [hasP_cons]; exact decide_eq_false h45
        have e2 : Sp.body (strOf (b :: r)) = strOf (b :: r) := by unfold Sp.body; rw [e1, if_neg (by simp), cutP_cons, if_neg h43]
        rw [e1, e2] at core
        rw [hb0, ob_of, n43, ite2_false, ob_of, n45, ite2_false]
        exact core

end
end Go.Proofs.YtpnjbagpplodjaaDoor
