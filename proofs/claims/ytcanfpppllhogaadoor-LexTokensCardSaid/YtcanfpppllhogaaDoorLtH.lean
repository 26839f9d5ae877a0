/- What lex and the reference answer, function by function (LexTokens, part H). -/
import Derived.Test.YtcanfpppllhogaaDoorLtG
import Derived.Laws.ResultCell
import Derived.Laws.Concat
namespace Go.Proofs.YtcanfpppllhogaaDoor.Lx
open Go.RowKit Go.Proofs
open Go.Am (spanL)
noncomputable section
theorem w32 (c : Nat) (h : c < 256) : wrap32 (c : Int) = (c : Int) := by unfold wrap32; omega
set_option maxHeartbeats 2000000 in
set_option maxRecDepth 1000000 in
theorem row_calls1 (g : Nat) (pv : Value) (eg : ∀ args w, (callFunc g args).run Tryd.prog w = .ok (.enter g args) w) (p : Nat → Bool) (x o n : Nat) (s : ByteArray) (w : World) (hn : n ≤ 10000000) (hs : s.size ≤ 10000000)
    (hp : ∀ (W : World) (c : Nat), c < 256 → Below w.heap.size w W → Calls Tryd.prog g #[.int .i32 (c : Int), pv] W fun e w' => e = .returned (.bool (p c)) ∧ Below W.heap.size W w') (hc : w.cell? ⟨x, o, none⟩ = some (.string s)) :
    Calls Tryd.prog 25 #[.pointer (some ⟨x, o, none⟩), .int .i64 (n : Int), .func (.func g) #[] #[pv]] w fun e w' => e = .returned (.int .i64 (spanL p (s.data.toList.drop n) 0 : Nat)) ∧ Below w.heap.size w w' := by
  have hx : x < w.heap.size := by
    unfold World.cell? at hc
    split at hc
    · rename_i hb; exact (Array.getElem?_eq_some_iff.1 hb).1
    · cases hc
  go_enter Tryd.func25, Tryd.ntmps25
  go_wp2
  go_loopg [7] (s.size + 1) (fun gf i wx => ∃ m : Nat, i = .int .i64 (m : Int) ∧ n ≤ m ∧ m ≤ 20000000 ∧ Below w.heap.size w wx ∧ spanL p (s.data.toList.drop m) (m - n) = spanL p (s.data.toList.drop n) 0 ∧ s.size + 1 ≤ gf + m)
  case atStart => exact ⟨n, rfl, Nat.le_refl _, by omega, Below.refl _ _, by rw [Nat.sub_self], by omega⟩
  case round =>
    obtain ⟨m, rfl, hnm, hm2, hbw, hsp, hfu⟩ := hrel
    have hcw : wr.cell? ⟨x, o, none⟩ = some (.string s) := (hbw.cell (p := ⟨x, o, none⟩) hx).trans hc
    by_cases hlt : m < s.size
    · obtain ⟨g', rfl⟩ : ∃ g', gk = g' + 1 := ⟨gk - 1, by omega⟩
      have hltI : (m : Int) < (s.size : Int) := by omega
      have hml : m < s.data.toList.length := by rw [Array.length_toList]; exact hlt
      have hb : s.data.toList[m] = s[m] := rfl
      have hc256 : s[m].toNat < 256 := s[m].toNat_lt
      have cS := hp wr s[m].toNat hc256 hbw
      rw [Row.drop_at _ _ hml, spanL_cons, hb] at hsp
      cases hpc : p s[m].toNat <;> rw [hpc] at cS hsp
      · go_wp2_with (go_at_fn g; (try rw [w32 _ hc256]); refine cS.mono ?_; rintro e W' ⟨rfl, hbl⟩)
        go_ret
        refine ⟨?_, hbw.trans (hbl.mono hbw.size)⟩
        have e : ((spanL p (s.data.toList.drop n) 0 : Nat) : Int) = (m : Int) - (n : Int) := by
          rw [← hsp]
          simp only [Bool.false_eq_true, if_false]
          omega
        rw [e]
        rfl
      · go_wp2_with (go_at_fn g; (try rw [w32 _ hc256]); refine cS.mono ?_; rintro e W' ⟨rfl, hbl⟩)
        go_roundg g'
        case measure => omega
        case rel => exact ⟨m + 1, by simp, by omega, by omega, hbw.trans (hbl.mono hbw.size), by simp only [if_true] at hsp; rw [show m + 1 - n = m - n + 1 by omega]; exact hsp, by omega⟩
    · go_wp2
      go_ret
      refine ⟨?_, hbw⟩
      have e : ((spanL p (s.data.toList.drop n) 0 : Nat) : Int) = (m : Int) - (n : Int) := by
        rw [← hsp, List.drop_eq_nil_of_le (by rw [Array.length_toList]; exact Nat.le_of_not_lt hlt)]
        show ((m - n : Nat) : Int) = _
        omega
      rw [e]
      rfl

def lowP : Nat → Bool := fun c => Nat.ble 97 c && Nat.ble c 122
theorem lowP_ok : Row.PredOk 34 lowP := Row.pred_of_runs (fun _ _ => plain_ok _ _) Tryd.func34 (by kernel_rfl) (by kernel_rfl) (fuel := 100) (by kernel_rfl)
set_option maxHeartbeats 4000000 in
set_option maxRecDepth 1000000 in
theorem low_calls (c : Nat) (hc : c < 256) (w : World) : Calls Tryd.prog 34 #[.int .i32 (c : Int)] w fun e w' => e = .returned (.bool (lowP c)) ∧ w' = w := by
  go_enter Tryd.func34, Tryd.ntmps34
  by_cases h1 : 97 ≤ c
  · by_cases h2 : c ≤ 122
    · have e1 : lowP c = true := by unfold lowP; simp [h1, h2]
      have i1 : (97 : Int) ≤ (c : Int) := by omega
      have i2 : (c : Int) ≤ 122 := by omega
      rw [e1]
      go_wp2
      go_ret
      simp [i1, i2]
    · have e1 : lowP c = false := by unfold lowP; rw [show Nat.ble c 122 = false from Bool.eq_false_iff.2 (fun e => h2 (Nat.le_of_ble_eq_true e)), Bool.and_false]
      have i1 : (97 : Int) ≤ (c : Int) := by omega
      have i2 : ¬ (c : Int) ≤ 122 := by omega
      rw [e1]
      go_wp2
      go_ret
      simp [i1, i2]
  · have e1 : lowP c = false := by unfold lowP; rw [show Nat.ble 97 c = false from Bool.eq_false_iff.2 (fun e => h1 (Nat.le_of_ble_eq_true e)), Bool.false_and]
    have i1 : ¬ (97 : Int) ≤ (c : Int) := by omega
    rw [e1]
    go_wp2
    go_ret
    simp [i1]
def langP : Nat → Bool := fun c => lowP c || Nat.beq c 45
set_option maxHeartbeats 4000000 in
set_option maxRecDepth 1000000 in
theorem lang2_calls (c B : Nat) (hc : c < 256) (w : World) (hb : w.cell? ⟨B, 0, none⟩ = some (.func (.func 34) #[] #[])) :
    Calls Tryd.prog 35 #[.int .i32 (c : Int), .pointer (some ⟨B, 0, none⟩)] w fun e w' => e = .returned (.bool (langP c)) ∧ Below w.heap.size w w' := by
  have eg : ∀ args w, (callFunc 34 args).run Tryd.prog w = .ok (.enter 34 args) w := enters_of Tryd.func34 (by kernel_rfl) rfl
  unfold langP
  go_enter Tryd.func35, Tryd.ntmps35
  cases hL : lowP c with
  | true =>
    go_wp2_with (go_at_fn 34; refine (pred_calls lowP_ok c hc _).mono ?_; rintro e w1 ⟨rfl, hb1⟩; rw [hL])
    go_ret
    exact ⟨rfl, hb1⟩
  | false =>
    by_cases h45 : c = 45
    · subst h45
      go_wp2_with (go_at_fn 34; refine (pred_calls lowP_ok 45 hc _).mono ?_; rintro e w1 ⟨rfl, hb1⟩; rw [hL])
      go_ret
      exact ⟨rfl, hb1⟩
    · have hI : ¬ (c : Int) = 45 := by omega
      have hB : Nat.beq c 45 = false := by cases hx : Nat.beq c 45 with | false => rfl | true => exact absurd (Nat.eq_of_beq_eq_true hx) h45
      go_wp2_with (go_at_fn 34; refine (pred_calls lowP_ok c hc _).mono ?_; rintro e w1 ⟨rfl, hb1⟩; rw [hL])
      go_ret
      have hI' : ((c : Int) == 45) = false := beq_eq_false_iff_ne.2 hI
      refine ⟨?_, hb1⟩
      show Ending.returned (.bool ((c : Int) == 45)) = _
      rw [hI', hB]
      rfl
theorem store_func (w : World) : Sem.run Tryd.prog (store ⟨w.heap.size, 0, none⟩ (.func (.func 34) #[] #[])) (w.alloc (.cells #[.nilFunc] 47)) = .ok () (w.alloc (.cells #[.func (.func 34) #[] #[]] 47)) := by
  rw [run_store Tryd.prog _ _ _ _ rfl]
  simp [go_sem, stored]
def langT (s : ByteArray) : Option (Tok × Nat) :=
  if atB s 0 = 64 ∧ lowP (atB s 1) = true then some ((6, s.extract 1 (1 + sp langP s 1)), 1 + sp langP s 1) else none
set_option maxHeartbeats 4000000 in
set_option maxRecDepth 1000000 in
theorem lang_no (x : Nat) (s : ByteArray) (l : List Tok) (w : World) (h : Sc w x s l) (A : Nat) (hA : atB s 0 = A) (hne : ((A : Int) != 64) = true) :
    Calls Tryd.prog 15 #[.pointer (some ⟨x, 0, none⟩)] w fun e w' => e = .returned (.bool false) ∧ Below w.heap.size w w' := by
  obtain ⟨w1, hw1⟩ : ∃ w1, w.alloc (.cells #[.func (.func 34) #[] #[]] 47) = w1 := ⟨_, rfl⟩
  have hb1 : Below w.heap.size w w1 := by rw [← hw1]; exact (Below.refl _ _).alloc (Nat.le_refl _) _
  have k1 := (h.below hb1).cell
  have hst := store_func w
  have at0 : ∀ W : World, W.cell? ⟨x, 0, none⟩ = some (.string s) → Calls Tryd.prog 29 #[.pointer (some ⟨x, 0, none⟩), .int .i64 0] W fun e w' => e = .returned (.int .i32 (A : Nat)) ∧ w' = W := fun W hW => hA ▸ at_callsZ x s W hW 0 (by omega)
  have kq : ∀ n, (w1.drewN n).cell? ⟨x, 0, none⟩ = some (.string s) := fun n => k1
  have hd : ∀ n, Below w1.heap.size w1 (w1.drewN n) := fun n => ⟨rfl, rfl, rfl, Nat.le_refl _, fun _ _ => rfl⟩
  go_enter Tryd.func15, Tryd.ntmps15
  go_wp2_with fail
  go_quiet (first | (go_at_call 29; exact Calls.quiet_of_same (at0 _ (kq _))))
  go_wp2
  go_ret
  exact ⟨rfl, hb1.trans ((hd nq).mono hb1.size)⟩
set_option maxHeartbeats 4000000 in
set_option maxRecDepth 1000000 in
theorem language_ok : MOk 15 langT := by
  intro x s l w h hs hl h0
  by_cases hA64 : atB s 0 = 64
  case neg =>
    refine (lang_no x s l w h _ rfl (bne_iff_ne.2 (by omega))).mono ?_
    rintro e w' ⟨rfl, hb⟩
    unfold langT
    rw [if_neg (fun e => hA64 e.1)]
    exact ⟨rfl, hb⟩
  have eg : ∀ args w, (callFunc 34 args).run Tryd.prog w = .ok (.enter 34 args) w := enters_of Tryd.func34 (by kernel_rfl) rfl
  have hx := Nat.le_of_lt h.lt
  obtain ⟨w1, hw1⟩ : ∃ w1, w.alloc (.cells #[.func (.func 34) #[] #[]] 47) = w1 := ⟨_, rfl⟩
  have hb1 : Below w.heap.size w w1 := by rw [← hw1]; exact (Below.refl _ _).alloc (Nat.le_refl _) _
  have h1 := h.below hb1
  have k1 := h1.cell
  have hbox : w1.cell? ⟨w.heap.size, 0, none⟩ = some (.func (.func 34) #[] #[]) := by rw [← hw1]; simp
  have hlt : w.heap.size < w1.heap.size := by rw [← hw1]; simp
  obtain ⟨N, hN⟩ : ∃ N, spanL langP (s.data.toList.drop 1) 0 = N := ⟨_, rfl⟩
  have hNle : N ≤ s.size - 1 := hN ▸ sp_le langP s 1
  have hR : ∀ W, Below w1.heap.size w1 W → Calls Tryd.prog 25 #[.pointer (some ⟨x, 0, none⟩), .int .i64 1, .func (.func 35) #[] #[.pointer (some ⟨w.heap.size, 0, none⟩)]] W fun e w' => e = .returned (.int .i64 (N : Nat)) ∧ Below W.heap.size W w' := by
    intro W hW
    have := row_calls1 35 (.pointer (some ⟨w.heap.size, 0, none⟩)) (enters_of Tryd.func35 (by kernel_rfl) rfl) langP x 0 1 s W (by omega) (by omega)
      (fun W' c hc hb => lang2_calls c _ hc W' ((hb.cell (p := ⟨w.heap.size, 0, none⟩) (Nat.lt_of_lt_of_le hlt hW.size)).trans ((hW.cell (p := ⟨w.heap.size, 0, none⟩) hlt).trans hbox))) (h1.below hW).cell
    rw [hN] at this
    exact this
  unfold langT
  rw [show sp langP s 1 = N from hN]
  clear hN
  have hBlt := atB_lt s 1
  obtain ⟨A, hA⟩ : ∃ A, atB s 0 = A := ⟨_, rfl⟩
  obtain ⟨B, hB⟩ : ∃ B, atB s 1 = B := ⟨_, rfl⟩
  rw [hB] at hBlt
  rw [hA, hB]
  obtain ⟨R, hRR⟩ : ∃ R, (if A = 64 ∧ lowP B = true then some (((6 : Int), s.extract 1 (1 + N)), 1 + N) else none) = R := ⟨_, rfl⟩
  rw [hRR]
  have hst := store_func w
  go_enter Tryd.func15, Tryd.ntmps15
  go_wp2_with fail
  have at0 : ∀ W : World, W.cell? ⟨x, 0, none⟩ = some (.string s) → Calls Tryd.prog 29 #[.pointer (some ⟨x, 0, none⟩), .int .i64 0] W fun e w' => e = .returned (.int .i32 (A : Nat)) ∧ w' = W := fun W hW => hA ▸ at_callsZ x s W hW 0 (by omega)
  have at1 : ∀ W : World, W.cell? ⟨x, 0, none⟩ = some (.string s) → Calls Tryd.prog 29 #[.pointer (some ⟨x, 0, none⟩), .int .i64 1] W fun e w' => e = .returned (.int .i32 (B : Nat)) ∧ w' = W := fun W hW => hB ▸ at_callsZ x s W hW 1 (by omega)
  have hd : Below w1.heap.size w1 w1.drew := ⟨rfl, rfl, rfl, Nat.le_refl _, fun _ _ => rfl⟩
  have h2 := h1.below hd
  have hR2 := hR _ hd
  cases hL : lowP B with
  | true =>
    have low0 : ∀ W, Calls Tryd.prog 34 #[.int .i32 (B : Int)] W fun e w' => e = .returned (.bool true) ∧ w' = W := fun W => by have := low_calls B hBlt W; rw [hL] at this; exact this
    by_cases c0 : A = 64
    · rw [if_pos ⟨c0, hL⟩] at hRR
      subst c0; subst hRR
      have b1 : (1 : Int) ≤ 1 + (N : Int) := by omega
      have b2 : 1 + (N : Int) ≤ (s.size : Int) := by omega
      go_region_with (first
        | (go_at_call_of 29 (Value.int IntKind.i64 0); refine (at0 _ (by go_simp)).mono ?_; rintro e w2 ⟨rfl, rfl⟩)
        | (go_at_call_of 29 (Value.int IntKind.i64 1); refine (at1 _ (by go_simp)).mono ?_; rintro e w2 ⟨rfl, rfl⟩)
        | (go_at_fn 34; refine (low0 _).mono ?_; rintro e w2 ⟨rfl, rfl⟩))
      all_goals go_wp2_with (first
        | (go_at_call 25; refine hR2.mono ?_; rintro e w5 ⟨rfl, hb5⟩; have h5 := h2.below hb5; have k5 := h5.cell)
        | (go_at_call 30; refine (token_callsI x (1 + N) _ _ s l _ h5 (by omega) hl _ (by omega)).mono ?_; rintro e w3 ⟨rfl, h3, hb3⟩))
      all_goals go_ret
      all_goals exact ⟨rfl, by omega, h3, ((hb1.trans ((hd.trans hb5).mono hb1.size)).mono hx).trans hb3⟩
    · exact absurd (hA.symm.trans hA64) c0
  | false =>
    have low0 : ∀ W, Calls Tryd.prog 34 #[.int .i32 (B : Int)] W fun e w' => e = .returned (.bool false) ∧ w' = W := fun W => by have := low_calls B hBlt W; rw [hL] at this; exact this
    rw [if_neg (fun e => by rw [hL] at e; cases e.2)] at hRR
    subst hRR
    by_cases c0 : A = 64
    · subst c0
      go_region_with (first
        | (go_at_call_of 29 (Value.int IntKind.i64 0); refine (at0 _ (by go_simp)).mono ?_; rintro e w2 ⟨rfl, rfl⟩)
        | (go_at_call_of 29 (Value.int IntKind.i64 1); refine (at1 _ (by go_simp)).mono ?_; rintro e w2 ⟨rfl, rfl⟩)
        | (go_at_fn 34; refine (low0 _).mono ?_; rintro e w2 ⟨rfl, rfl⟩))
      all_goals go_wp2
      all_goals go_ret
      all_goals exact ⟨rfl, hb1.trans (hd.mono hb1.size)⟩
    · exact absurd (hA.symm.trans hA64) c0
end
end Go.Proofs.YtcanfpppllhogaaDoor.Lx
