/- What lex and the reference answer, function by function (LexTokens, part J). -/
import Derived.Test.YtcanfpppllhogaaDoorLtI
import Derived.Laws.ResultCell
import Derived.Laws.Concat
namespace Go.Proofs.YtcanfpppllhogaaDoor.Lx
open Go.RowKit Go.Proofs
open Go.Am (spanL)
noncomputable section

/-! ### blanks -/
def isWs (c : Nat) : Bool := Nat.beq c 32 || (Nat.beq c 9 || (Nat.beq c 10 || Nat.beq c 13))
/-- what is left behind blanks and comments; cm: within a comment. -/
def skp : Bool → List UInt8 → List UInt8
  | _, [] => []
  | true, c :: l => if c.toNat = 10 then skp false l else skp true l
  | false, c :: l => if isWs c.toNat = true then skp false l else if c.toNat = 35 then skp true l else c :: l
theorem ws_contains (c : UInt8) : [(32 : UInt8), 9, 10, 13].contains c = isWs c.toNat := by
  have : ∀ n : Fin 256, [(32 : UInt8), 9, 10, 13].contains (UInt8.ofNat n.val) = isWs n.val := by decide +kernel
  have h := this ⟨c.toNat, c.toNat_lt⟩
  simpa using h
theorem skp_trim : ∀ l : List UInt8, skp false (Lib.trimLeftS l [32, 9, 10, 13]) = skp false l := by
  intro l
  induction l with
  | nil => rfl
  | cons c l ih =>
    unfold Lib.trimLeftS at ih ⊢
    rw [List.dropWhile_cons, ws_contains]
    cases hw : isWs c.toNat with
    | true => simp only [if_true]; rw [ih]; simp [skp, hw]
    | false => simp
theorem skp_comment : ∀ l : List UInt8, skp false (l.drop (spanL blanksP l 0)) = skp true l := by
  intro l
  induction l with
  | nil => rfl
  | cons c l ih =>
    rw [spanL_cons]
    by_cases hc : c.toNat = 10
    · have hb : blanksP c.toNat = false := by rw [hc]; rfl
      rw [hb]
      simp only [Bool.false_eq_true, if_false, List.drop_zero]
      simp [skp, hc, isWs]
    · have hb : blanksP c.toNat = true := by
        unfold blanksP
        cases hx : Nat.beq c.toNat 10 with
        | false => rfl
        | true => exact absurd (Nat.eq_of_beq_eq_true hx) hc
      rw [hb]
      simp only [if_true]
      rw [spanL_add, Nat.add_comm, List.drop_succ_cons, ih]
      simp [skp, hc]
theorem skp_hash {l : List UInt8} (c : UInt8) (h : c.toNat = 35) : skp false ((c :: l).drop (spanL blanksP (c :: l) 0)) = skp false (c :: l) := by
  rw [skp_comment]
  simp [skp, h, isWs]
theorem skp_done {l : List UInt8} (h1 : ∀ c, l[0]? = some c → isWs c.toNat = false) (h2 : ∀ c, l[0]? = some c → c.toNat ≠ 35) : skp false l = l := by
  cases l with
  | nil => rfl
  | cons c l => simp [skp, h1 c rfl, h2 c rfl]
theorem trim_head (l : List UInt8) : ∀ c, (Lib.trimLeftS l [32, 9, 10, 13])[0]? = some c → isWs c.toNat = false := by
  induction l with
  | nil => intro c h; simp [Lib.trimLeftS] at h
  | cons b l ih =>
    intro c h
    unfold Lib.trimLeftS at ih h
    rw [List.dropWhile_cons, ws_contains] at h
    cases hw : isWs b.toNat with
    | true => rw [hw] at h; simp only [if_true] at h; exact ih c h
    | false =>
      rw [hw] at h
      simp only [Bool.false_eq_true, if_false, List.getElem?_cons_zero, Option.some.injEq] at h
      subst h; exact hw
theorem extract_list (s : ByteArray) (n : Nat) : (s.extract n s.size).data.toList = s.data.toList.drop n := by
  rw [ByteArray.data_extract, Array.toList_extract]
  have : s.size = s.data.toList.length := Array.length_toList.symm
  rw [this]
  rw [List.extract_eq_take_drop]
  exact List.take_of_length_le (by rw [List.length_drop]; omega)
theorem Sc.frozen {w : World} {x : Nat} {s : ByteArray} {l : List Tok} (h : Sc w x s l) (i : Nat) : w.frozen? ⟨x, i, none⟩ = false := by
  obtain ⟨v, h1, _⟩ := h.out
  exact twoF i h1
theorem Sc.set {w : World} {x : Nat} {s : ByteArray} {l : List Tok} (h : Sc w x s l) (t : ByteArray) : Sc (w.setCell ⟨x, 0, none⟩ (.string t)) x t l := by
  obtain ⟨v, h1, h2⟩ := h.out
  exact ⟨v, two_set0 _ h1, own_set h2 (Nat.lt_succ_self x)⟩
def leftLen (x : Nat) (w : World) : Nat := match w.cell? ⟨x, 0, none⟩ with
  | some (.string t) => t.size
  | _ => 0
theorem Sc.left {w : World} {x : Nat} {s : ByteArray} {l : List Tok} (h : Sc w x s l) : leftLen x w = s.size := by unfold leftLen; rw [h.cell]
theorem tl_ascii : ∀ (j : Nat) b, (⟨#[32, 9, 10, 13]⟩ : ByteArray).data.toList[j]? = some b → b.toNat < 128 := by
  intro j b h
  match j, h with
  | 0, h => obtain rfl := Option.some.inj h; decide
  | 1, h => obtain rfl := Option.some.inj h; decide
  | 2, h => obtain rfl := Option.some.inj h; decide
  | 3, h => obtain rfl := Option.some.inj h; decide
  | j + 4, h => simp at h
set_option maxHeartbeats 8000000 in
set_option maxRecDepth 1000000 in
theorem blanks_calls (x : Nat) (s : ByteArray) (l : List Tok) (w : World) (h : Sc w x s l) (hs : s.size ≤ 9000000) :
    Calls Tryd.prog 10 #[.pointer (some ⟨x, 0, none⟩)] w fun e w' => e = .returned (.tuple #[]) ∧ ∃ s', Sc w' x s' l ∧ s'.data.toList = skp false s.data.toList ∧ Below x w w' := by
  go_enter Tryd.func10, Tryd.ntmps10
  go_wp2
  refine wp_scope_jumps 0 (fun a W => ∃ s1, Sc W x s1 l ∧ skp false s1.data.toList = skp false s.data.toList ∧ s1.size ≤ 9000000 ∧ Below x w W ∧ ∃ (u1 u2 u3 u4 u5 u6 u7 u8 u9 u10 u11 u12 u13 u14 u15 u16 u17 u18 u19 u20 u21 u22 u23 u24 : Value), a = { tmps := #[.pointer (some ⟨x, 0, none⟩), u1, u2, u3, u4, u5, u6, u7, u8, u9, u10, u11, u12, u13, u14, u15, u16, u17, u18, u19, u20, u21, u22, u23, u24], defers := [] }) (fun _ W => leftLen x W) rfl ?_ ?_
  · go_wp2
    go_step3
    obtain ⟨s1, h1, hsk, hs1, hb⟩ : ∃ s1, Sc w x s1 l ∧ skp false s1.data.toList = skp false s.data.toList ∧ s1.size ≤ 9000000 ∧ Below x w w := ⟨s, h, rfl, hs, Below.refl _ _⟩
    · obtain ⟨t, ht⟩ : ∃ t : ByteArray, (⟨(Lib.trimLeftS s1.data.toList (⟨#[32, 9, 10, 13]⟩ : ByteArray).data.toList).toArray⟩ : ByteArray) = t := ⟨_, rfl⟩
      have htl : t.data.toList = Lib.trimLeftS s1.data.toList [32, 9, 10, 13] := by rw [← ht]
      have hTr := fun W => Tryd.strings_TrimLeft s1 ⟨#[32, 9, 10, 13]⟩ W (by decide) tl_ascii
      rw [ht] at hTr
      have htsz : t.size ≤ s1.size := by
        have e1 : t.size = t.data.toList.length := Array.length_toList.symm
        have e2 : s1.size = s1.data.toList.length := Array.length_toList.symm
        rw [e1, e2, htl]
        exact (List.dropWhile_sublist _).length_le
      have hsk2 : skp false t.data.toList = skp false s.data.toList := by rw [htl, skp_trim]; exact hsk
      have hth := fun c hc => trim_head s1.data.toList c (htl ▸ hc)
      have hR := fun (W : World) (h : Sc W x t l) => predTab_ok (26, blanksP) (by simp [predTab]) x 0 0 t W (by omega) (by omega) h.cell
      obtain ⟨N, hN⟩ : ∃ N, spanL blanksP (t.data.toList.drop 0) 0 = N := ⟨_, rfl⟩
      have hNle : N ≤ t.size - 0 := hN ▸ sp_le blanksP t 0
      dsimp only at hR
      rw [hN] at hR
      clear ht
      have hP := one_prefix t 35 (by decide)
      have k1 := h1.cell
      have b1 : (0 : Int) ≤ (N : Int) := by omega
      have b2 : (N : Int) ≤ (t.size : Int) := by omega
      by_cases c0 : atB t 0 = 35
      · have hP : Lib.hasPrefix t.data.toList (⟨#[35]⟩ : ByteArray).data.toList = true := hP.trans (decide_eq_true c0)
        obtain ⟨c, r, hcr⟩ : ∃ c r, t.data.toList = c :: r := by
          cases hd : t.data.toList with
          | nil => rw [atB_toList, hd] at c0; simp at c0
          | cons c r => exact ⟨c, r, rfl⟩
        have hc35 : c.toNat = 35 := by rw [atB_toList, hcr] at c0; simpa using c0
        have hN1 : 1 ≤ N := by
          rw [← hN, List.drop_zero, hcr, spanL_cons, show blanksP c.toNat = true by rw [hc35]; rfl]
          simp only [if_true]; rw [spanL_add]; omega
        have hsk3 : skp false (t.extract N t.size).data.toList = skp false s.data.toList := by
          rw [extract_list, ← hN, List.drop_zero, ← hsk2, hcr]
          exact skp_hash c hc35
        have hex : (t.extract N t.size).size = t.size - N := by
          have e1 : (t.extract N t.size).size = (t.extract N t.size).data.toList.length := Array.length_toList.symm
          rw [e1, extract_list, List.length_drop, Array.length_toList]; rfl
        go_wp2_with (first
          | (go_at_call 23; refine (hTr _).mono ?_; rintro e w1 ⟨rfl, hb1⟩; have h2 := h1.below hb1; have q1 := h2.cell; have q2 := h2.frozen 0; have h3 := h2.set t; have k3 := h3.cell; have f3 := h3.frozen 0)
          | (go_at_call 24; refine (Tryd.strings_HasPrefix t _ _).mono ?_; rintro e w2 ⟨rfl, rfl⟩; rw [hP]))
        have hd3 : Below (w1.setCell ⟨x, 0, none⟩ (.string t)).heap.size (w1.setCell ⟨x, 0, none⟩ (.string t)) (w1.setCell ⟨x, 0, none⟩ (.string t)).drew := ⟨rfl, rfl, rfl, Nat.le_refl _, fun _ _ => rfl⟩
        have h3d := h3.below hd3
        have hR3 := hR _ h3d
        go_region_with (go_at_call 25; refine hR3.mono ?_; rintro e w4 ⟨rfl, hb4⟩; have h4 := h3d.below hb4; have k4 := h4.cell; have f4 := h4.frozen 0; have h5 := h4.set (t.extract N t.size))
        all_goals go_wp2
        all_goals go_step3
        all_goals have hbb : Below x w w4 := (((hb.trans (hb1.mono (Nat.le_of_lt h1.lt))).setCell (p := ⟨x, 0, none⟩) (Nat.le_refl _) (.string t)).trans (hd3.mono (Nat.le_of_lt h3.lt))).trans (hb4.mono (Nat.le_of_lt h3d.lt))
        all_goals exact ⟨rfl, _, h5, hsk3, by rw [hex]; omega, hbb.setCell (p := ⟨x, 0, none⟩) (Nat.le_refl _) _, by (repeat apply Exists.intro); rfl⟩
      · have hP : Lib.hasPrefix t.data.toList (⟨#[35]⟩ : ByteArray).data.toList = false := hP.trans (decide_eq_false c0)
        go_wp2_with (first
          | (go_at_call 23; refine (hTr _).mono ?_; rintro e w1 ⟨rfl, hb1⟩; have h2 := h1.below hb1; have q1 := h2.cell; have q2 := h2.frozen 0; have h3 := h2.set t; have k3 := h3.cell; have f3 := h3.frozen 0)
          | (go_at_call 24; refine (Tryd.strings_HasPrefix t _ _).mono ?_; rintro e w2 ⟨rfl, rfl⟩; rw [hP]))
        simp only [Exit.jump]
        go_end0
        refine ⟨rfl, t, h3, ?_, (hb.trans (hb1.mono (Nat.le_of_lt h1.lt))).setCell (p := ⟨x, 0, none⟩) (Nat.le_refl _) _⟩
        rw [← hsk2]
        exact (skp_done hth (fun c hc e => c0 (by rw [atB_toList, hc]; exact e))).symm
  · rintro a W ⟨s1, h1, hsk, hs1, hb, u1, u2, u3, u4, u5, u6, u7, u8, u9, u10, u11, u12, u13, u14, u15, u16, u17, u18, u19, u20, u21, u22, u23, u24, rfl⟩
    · obtain ⟨t, ht⟩ : ∃ t : ByteArray, (⟨(Lib.trimLeftS s1.data.toList (⟨#[32, 9, 10, 13]⟩ : ByteArray).data.toList).toArray⟩ : ByteArray) = t := ⟨_, rfl⟩
      have htl : t.data.toList = Lib.trimLeftS s1.data.toList [32, 9, 10, 13] := by rw [← ht]
      have hTr := fun W => Tryd.strings_TrimLeft s1 ⟨#[32, 9, 10, 13]⟩ W (by decide) tl_ascii
      rw [ht] at hTr
      have htsz : t.size ≤ s1.size := by
        have e1 : t.size = t.data.toList.length := Array.length_toList.symm
        have e2 : s1.size = s1.data.toList.length := Array.length_toList.symm
        rw [e1, e2, htl]
        exact (List.dropWhile_sublist _).length_le
      have hsk2 : skp false t.data.toList = skp false s.data.toList := by rw [htl, skp_trim]; exact hsk
      have hth := fun c hc => trim_head s1.data.toList c (htl ▸ hc)
      have hR := fun (W : World) (h : Sc W x t l) => predTab_ok (26, blanksP) (by simp [predTab]) x 0 0 t W (by omega) (by omega) h.cell
      obtain ⟨N, hN⟩ : ∃ N, spanL blanksP (t.data.toList.drop 0) 0 = N := ⟨_, rfl⟩
      have hNle : N ≤ t.size - 0 := hN ▸ sp_le blanksP t 0
      dsimp only at hR
      rw [hN] at hR
      clear ht
      have hP := one_prefix t 35 (by decide)
      have k1 := h1.cell
      have b1 : (0 : Int) ≤ (N : Int) := by omega
      have b2 : (N : Int) ≤ (t.size : Int) := by omega
      by_cases c0 : atB t 0 = 35
      · have hP : Lib.hasPrefix t.data.toList (⟨#[35]⟩ : ByteArray).data.toList = true := hP.trans (decide_eq_true c0)
        obtain ⟨c, r, hcr⟩ : ∃ c r, t.data.toList = c :: r := by
          cases hd : t.data.toList with
          | nil => rw [atB_toList, hd] at c0; simp at c0
          | cons c r => exact ⟨c, r, rfl⟩
        have hc35 : c.toNat = 35 := by rw [atB_toList, hcr] at c0; simpa using c0
        have hN1 : 1 ≤ N := by
          rw [← hN, List.drop_zero, hcr, spanL_cons, show blanksP c.toNat = true by rw [hc35]; rfl]
          simp only [if_true]; rw [spanL_add]; omega
        have hsk3 : skp false (t.extract N t.size).data.toList = skp false s.data.toList := by
          rw [extract_list, ← hN, List.drop_zero, ← hsk2, hcr]
          exact skp_hash c hc35
        have hex : (t.extract N t.size).size = t.size - N := by
          have e1 : (t.extract N t.size).size = (t.extract N t.size).data.toList.length := Array.length_toList.symm
          rw [e1, extract_list, List.length_drop, Array.length_toList]; rfl
        go_wp2_with (first
          | (go_at_call 23; refine (hTr _).mono ?_; rintro e w1 ⟨rfl, hb1⟩; have h2 := h1.below hb1; have q1 := h2.cell; have q2 := h2.frozen 0; have h3 := h2.set t; have k3 := h3.cell; have f3 := h3.frozen 0)
          | (go_at_call 24; refine (Tryd.strings_HasPrefix t _ _).mono ?_; rintro e w2 ⟨rfl, rfl⟩; rw [hP]))
        have hd3 : Below (w1.setCell ⟨x, 0, none⟩ (.string t)).heap.size (w1.setCell ⟨x, 0, none⟩ (.string t)) (w1.setCell ⟨x, 0, none⟩ (.string t)).drew := ⟨rfl, rfl, rfl, Nat.le_refl _, fun _ _ => rfl⟩
        have h3d := h3.below hd3
        have hR3 := hR _ h3d
        go_region_with (go_at_call 25; refine hR3.mono ?_; rintro e w4 ⟨rfl, hb4⟩; have h4 := h3d.below hb4; have k4 := h4.cell; have f4 := h4.frozen 0; have h5 := h4.set (t.extract N t.size))
        all_goals go_wp2
        all_goals go_step3
        all_goals have hbb : Below x w w4 := (((hb.trans (hb1.mono (Nat.le_of_lt h1.lt))).setCell (p := ⟨x, 0, none⟩) (Nat.le_refl _) (.string t)).trans (hd3.mono (Nat.le_of_lt h3.lt))).trans (hb4.mono (Nat.le_of_lt h3d.lt))
        all_goals exact ⟨rfl, ⟨_, h5, hsk3, by rw [hex]; omega, hbb.setCell (p := ⟨x, 0, none⟩) (Nat.le_refl _) _, by (repeat apply Exists.intro); rfl⟩, by rw [h5.left, h1.left, hex]; omega⟩
      · have hP : Lib.hasPrefix t.data.toList (⟨#[35]⟩ : ByteArray).data.toList = false := hP.trans (decide_eq_false c0)
        go_wp2_with (first
          | (go_at_call 23; refine (hTr _).mono ?_; rintro e w1 ⟨rfl, hb1⟩; have h2 := h1.below hb1; have q1 := h2.cell; have q2 := h2.frozen 0; have h3 := h2.set t; have k3 := h3.cell; have f3 := h3.frozen 0)
          | (go_at_call 24; refine (Tryd.strings_HasPrefix t _ _).mono ?_; rintro e w2 ⟨rfl, rfl⟩; rw [hP]))
        simp only [Exit.jump]
        go_end0
        refine ⟨rfl, t, h3, ?_, (hb.trans (hb1.mono (Nat.le_of_lt h1.lt))).setCell (p := ⟨x, 0, none⟩) (Nat.le_refl _) _⟩
        rw [← hsk2]
        exact (skp_done hth (fun c hc e => c0 (by rw [atB_toList, hc]; exact e))).symm
end
end Go.Proofs.YtcanfpppllhogaaDoor.Lx
