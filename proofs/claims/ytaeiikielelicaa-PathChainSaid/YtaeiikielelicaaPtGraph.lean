/- The graph of numbers. -/
import Derived.Test.YtaeiikielelicaaPtArgs
set_option linter.unusedVariables false
set_option linter.unusedSimpArgs false
set_option linter.unusedSectionVars false
set_option linter.deprecated false
namespace Go.Proofs.Ytaeiikielelicaa.Pt
open Go.RowKit Go.Proofs Go.Am
open Pm
set_option maxRecDepth 1000000
set_option linter.unusedVariables false
set_option linter.unusedSimpArgs false
noncomputable section
theorem within_at (a n : Int) (w : World) (m : Nat) (h0 : 0 < n) (h1 : n ≤ 1000) (ha : -9223372036854775808 ≤ a) (ha2 : a ≤ 9223372036854775807) (hm : a % n = (m : Int)) : Calls Try.prog 19 #[.int .i64 a, .int .i64 n] w fun e w' => e = .returned (.int .i64 (m : Int)) ∧ w' = w := by
  rw [← hm]; exact within_calls a n w h0 h1 ha ha2
theorem mod_nat (a n : Int) (h : 0 < n) : ∃ m : Nat, a % n = (m : Int) ∧ (m : Int) < n ∧ (a % n).toNat = m := ⟨(a % n).toNat, by have := Int.emod_nonneg a (show n ≠ 0 by omega); omega, by have := Int.emod_nonneg a (show n ≠ 0 by omega); have := Int.emod_lt_of_pos a h; omega, rfl⟩
theorem tdiv_in (a : Int) (n : Nat) (h : 2 ≤ n) (ha : -9223372036854775808 ≤ a) (ha2 : a ≤ 9223372036854775807) : -9223372036854775808 ≤ a.tdiv n ∧ a.tdiv n ≤ 9223372036854775807 := by
  have h1 : (a.tdiv n).natAbs = a.natAbs / n := by rw [Int.natAbs_tdiv, Int.natAbs_natCast]; rfl
  have h2 : a.natAbs / n ≤ a.natAbs / 2 := Nat.div_le_div_left h (by decide)
  rw [← h1] at h2
  generalize a.tdiv n = q at h2
  omega
theorem cell_newN {w : World} {N : Nat} (h : w.heap.size = N) (l : List Value) (t : TypeId) : ∀ (j : Nat) u, l[j]? = some u → (w.alloc (.cells ⟨l⟩ t)).cell? ((⟨N, 0, none⟩ : Addr).add j) = some u := by
  subst h; exact cell_new w l t
theorem grow_end {B : Nat} {w wr X w2 : World} {v : Value} {l : List T3} (hg : X.grownBy w2 v.ownBlock) (hB : B ≤ w.heap.size) (hbw : Below B w wr) (hrow : RowT B wr v l) (hX : Below wr.heap.size wr X) : Below B w w2 :=
  (hbw.trans (hX.mono (Nat.le_trans hB hbw.size))).grown hg (Nat.le_trans hB (Nat.le_trans hbw.size hX.size)) (fun k e => (own_cellsB hrow e).1)
theorem RowT.low {b b' : Nat} {w : World} {v : Value} {l : List T3} (h : RowT b w v l) (hb : b' ≤ b) : RowT b' w v l := by
  refine ⟨h.1, ?_⟩
  rcases h.2 with hn | ⟨g, cap, cur, hv, hbg, rest⟩
  · exact .inl hn
  · exact .inr ⟨g, cap, cur, hv, Nat.le_trans hb hbg, rest⟩
set_option maxHeartbeats 4000000 in
theorem graph_calls (v : Value) (ns : List Int) (w : World) (hN : NsOk w v ns) (hl : ns.length ≤ 9223372036854775807) : Calls Try.prog 11 #[v] w (SetPost w ((ns.take 25).map trOf)) := by
  obtain ⟨i0, hi, hz0, hz1, hz2⟩ := info_parts info43
  have hNs := hN
  obtain ⟨ad, cap, rfl, -⟩ := hN
  have hrow0 : RowT w.heap.size w (.slice none 0 0) [] := ⟨rfl, .inl ⟨rfl, rfl⟩⟩
  go_enter Try.func11, Try.ntmps11
  go_wp2
  go_loopg [3, 4] 26 (fun gf l i wx => ∃ (j : Nat), i = .int .i64 (j : Int) ∧ j ≤ ns.length ∧ j ≤ 25 ∧ RowT w.heap.size wx l ((ns.take j).map trOf) ∧ Below w.heap.size w wx ∧ 25 < gf + j)
  case atStart => exact ⟨0, rfl, by omega, by omega, by simpa using hrow0, Below.refl _ _, by omega⟩
  case round =>
    clear hrow0
    obtain ⟨j, rfl, hj, hj25, hrow, hbw, hfu⟩ := hrel
    by_cases hlt : j < ns.length ∧ j < 25
    · have hltI : (j : Int) < (ns.length : Int) := by omega
      have hltJ : (j : Int) < 25 := by omega
      obtain ⟨g', rfl⟩ : ∃ g', gk = g' + 1 := ⟨gk - 1, by omega⟩
      obtain ⟨n, hnj⟩ : ∃ n, ns[j]? = some n := ⟨ns[j], List.getElem?_eq_getElem hlt.1⟩
      obtain ⟨ad', cap', e, hNv⟩ := hNs.below hbw
      cases e
      obtain ⟨gn, on, rfl, hgn, hcn, hb1, hb2⟩ := hNv j n hnj
      obtain ⟨m4, hm4, hl4, -⟩ := mod_nat n 4 (by decide)
      obtain ⟨m5, hm5, hl5, -⟩ := mod_nat n 5 (by decide)
      obtain ⟨d5, hd5⟩ : ∃ d, n.tdiv 5 = d := ⟨_, rfl⟩
      obtain ⟨d15, hd15⟩ : ∃ d, n.tdiv 15 = d := ⟨_, rfl⟩
      obtain ⟨d60, hd60⟩ : ∃ d, n.tdiv 60 = d := ⟨_, rfl⟩
      obtain ⟨d360, hd360⟩ : ∃ d, n.tdiv 360 = d := ⟨_, rfl⟩
      obtain ⟨f5a, f5b⟩ : -9223372036854775808 ≤ d5 ∧ d5 ≤ 9223372036854775807 := by rw [← hd5]; exact tdiv_in n 5 (by decide) hb1 hb2
      obtain ⟨f15a, f15b⟩ : -9223372036854775808 ≤ d15 ∧ d15 ≤ 9223372036854775807 := by rw [← hd15]; exact tdiv_in n 15 (by decide) hb1 hb2
      obtain ⟨f60a, f60b⟩ : -9223372036854775808 ≤ d60 ∧ d60 ≤ 9223372036854775807 := by rw [← hd60]; exact tdiv_in n 60 (by decide) hb1 hb2
      obtain ⟨f360a, f360b⟩ : -9223372036854775808 ≤ d360 ∧ d360 ≤ 9223372036854775807 := by rw [← hd360]; exact tdiv_in n 360 (by decide) hb1 hb2
      obtain ⟨p3, hp3, lp3, -⟩ := mod_nat d5 3 (by decide)
      obtain ⟨q4, hq4, lq4, -⟩ := mod_nat d15 4 (by decide)
      obtain ⟨k6, hk6, lk6, -⟩ := mod_nat d60 6 (by decide)
      obtain ⟨r3, hr3, lr3, -⟩ := mod_nat d360 3 (by decide)
      obtain ⟨r2, hr2, lr2, -⟩ := mod_nat d360 2 (by decide)
      have hw0 : ∀ W, Calls Try.prog 19 #[.int .i64 n, .int .i64 4] W fun e w' => e = .returned (.int .i64 (m4 : Int)) ∧ w' = W := fun W => within_at n 4 W m4 (by decide) (by decide) hb1 hb2 hm4
      have hw1 : ∀ W, Calls Try.prog 19 #[.int .i64 n, .int .i64 5] W fun e w' => e = .returned (.int .i64 (m5 : Int)) ∧ w' = W := fun W => within_at n 5 W m5 (by decide) (by decide) hb1 hb2 hm5
      have hw2 : ∀ W, Calls Try.prog 19 #[.int .i64 d5, .int .i64 3] W fun e w' => e = .returned (.int .i64 (p3 : Int)) ∧ w' = W := fun W => within_at d5 3 W p3 (by decide) (by decide) f5a f5b hp3
      have hw3 : ∀ W, Calls Try.prog 19 #[.int .i64 d15, .int .i64 4] W fun e w' => e = .returned (.int .i64 (q4 : Int)) ∧ w' = W := fun W => within_at d15 4 W q4 (by decide) (by decide) f15a f15b hq4
      have hw4 : ∀ W, Calls Try.prog 19 #[.int .i64 d60, .int .i64 6] W fun e w' => e = .returned (.int .i64 (k6 : Int)) ∧ w' = W := fun W => within_at d60 6 W k6 (by decide) (by decide) f60a f60b hk6
      have hw5 : ∀ W, Calls Try.prog 19 #[.int .i64 d360, .int .i64 3] W fun e w' => e = .returned (.int .i64 (r3 : Int)) ∧ w' = W := fun W => within_at d360 3 W r3 (by decide) (by decide) f360a f360b hr3
      have hw6 : ∀ W, Calls Try.prog 19 #[.int .i64 d360, .int .i64 2] W fun e w' => e = .returned (.int .i64 (r2 : Int)) ∧ w' = W := fun W => within_at d360 2 W r2 (by decide) (by decide) f360a f360b hr2
      have hnm4 := fun a b c d => nm4 (a := a) (b := b) (c := c) (d := d) (m := m4) (by omega)
      have hnq4 := fun a b c d => nm4 (a := a) (b := b) (c := c) (d := d) (m := q4) (by omega)
      have hnp3 := fun a b c => nm3 (a := a) (b := b) (c := c) (m := p3) (by omega)
      have hnr3 := fun a b c => nm3 (a := a) (b := b) (c := c) (m := r3) (by omega)
      have hnr2 := fun a b => nm2 (a := a) (b := b) (m := r2) (by omega)
      have htk : (ns.take (j + 1)).map trOf = (ns.take j).map trOf ++ [trOf n] := by rw [List.take_add_one, hnj]; simp
      have hjlen : ((ns.take j).map trOf).length = j := by simp; omega
      obtain ⟨L, hL⟩ : ∃ L, (ns.take j).map trOf = L := ⟨_, rfl⟩
      rw [hL] at hrow htk hjlen
      by_cases c5 : m5 = 4
      · by_cases ck : k6 = 5
        · have hTr : cTr (trOf n) = [.int .i64 2, .string ⟨#[110]⟩, .string ⟨#[]⟩, .string ⟨#[]⟩, .int .i64 1, .string (nm [⟨#[112, 58, 49]⟩, ⟨#[112, 58, 50]⟩, ⟨#[112, 58, 51]⟩] p3), .string ⟨#[]⟩, .string ⟨#[]⟩, .int .i64 3, .string (nm [⟨#[49]⟩, ⟨#[50, 46, 53]⟩, ⟨#[120]⟩] r3), .string ⟨#[]⟩, .string ⟨#[104, 116, 116, 112, 58, 47, 47, 119, 119, 119, 46, 119, 51, 46, 111, 114, 103, 47, 50, 48, 48, 49, 47, 88, 77, 76, 83, 99, 104, 101, 109, 97, 35, 100, 101, 99, 105, 109, 97, 108]⟩] := by
            unfold trOf cTr cT
            rw [hd5, hd15, hd60, hd360, hm4, hm5, hp3, hq4, hk6, hr3, hr2]
            rw [if_pos (show (m5 : Int) = 4 by omega)]
            rw [if_pos (show (k6 : Int) = 5 by omega)]
            rfl
          have e5 : ((m5 : Int) == 4) = true := by rw [c5]; rfl
          have e6 : ((k6 : Int) == 5) = true := by rw [ck]; rfl
          clear c5 ck hm4 hm5 hp3 hq4 hk6 hr3 hr2
          go_wp2_with (first
            | (go_at_call_of 19 (#[Value.int .i64 n, Value.int .i64 4] : Array Value); refine (hw0 _).mono ?_; rintro e w1 ⟨rfl, rfl⟩)
            | (go_at_call_of 19 (#[Value.int .i64 n, Value.int .i64 5] : Array Value); refine (hw1 _).mono ?_; rintro e w1 ⟨rfl, rfl⟩)
            | (go_at_call_of 19 (#[Value.int .i64 d5, Value.int .i64 3] : Array Value); refine (hw2 _).mono ?_; rintro e w1 ⟨rfl, rfl⟩)
            | (go_at_call_of 19 (#[Value.int .i64 d15, Value.int .i64 4] : Array Value); refine (hw3 _).mono ?_; rintro e w1 ⟨rfl, rfl⟩)
            | (go_at_call_of 19 (#[Value.int .i64 d60, Value.int .i64 6] : Array Value); refine (hw4 _).mono ?_; rintro e w1 ⟨rfl, rfl⟩)
            | (go_at_call_of 19 (#[Value.int .i64 d360, Value.int .i64 3] : Array Value); refine (hw5 _).mono ?_; rintro e w1 ⟨rfl, rfl⟩)
            | (go_at_call_of 19 (#[Value.int .i64 d360, Value.int .i64 2] : Array Value); refine (hw6 _).mono ?_; rintro e w1 ⟨rfl, rfl⟩)
            | (at_builtin; refine wpList_append_own _ rfl (.tmp 69) (.tmp 74) 24 rfl w.heap.size 43 i0 _ 12 168 und24 hi hz0 hz1 hz2 rfl (by decide) _ L.length (L.flatMap cTr) rfl (by exact RowT.below hrow (by repeat (first | exact Below.refl _ _ | refine Below.alloc ?_ (by simp <;> omega) _ | refine Below.setCell ?_ (by simp <;> omega) _))) ⟨_, 0, none⟩ 1 1 [.int .i64 2, .string ⟨#[110]⟩, .string ⟨#[]⟩, .string ⟨#[]⟩, .int .i64 1, .string (nm [⟨#[112, 58, 49]⟩, ⟨#[112, 58, 50]⟩, ⟨#[112, 58, 51]⟩] p3), .string ⟨#[]⟩, .string ⟨#[]⟩, .int .i64 3, .string (nm [⟨#[49]⟩, ⟨#[50, 46, 53]⟩, ⟨#[120]⟩] r3), .string ⟨#[]⟩, .string ⟨#[104, 116, 116, 112, 58, 47, 47, 119, 119, 119, 46, 119, 51, 46, 111, 114, 103, 47, 50, 48, 48, 49, 47, 88, 77, 76, 83, 99, 104, 101, 109, 97, 35, 100, 101, 99, 105, 109, 97, 108]⟩] rfl rfl (cell_newN (by simp) _ _) (by rw [← hTr]; exact oneTr _) (by unfold maxLen; omega) (by omega) (by have := hbw.size; simp; omega) ?_; intro v' w2 hown' hgrow hnil))
          have hb2' := grow_end hgrow (Nat.le_refl _) hbw hrow (by repeat (first | exact Below.refl _ _ | refine Below.alloc ?_ (by simp <;> omega) _ | refine Below.setCell ?_ (by simp <;> omega) _))
          go_roundg g'
          case measure => omega
          case rel => exact ⟨j + 1, congrArg (Value.int .i64) (by omega), by omega, by omega, by rw [htk]; unfold RowT; rw [List.length_append, List.flatMap_append]; simpa [hTr] using hown', hb2', by omega⟩
        · have ck5 : ¬ k6 = 5 := ck
          clear ck
          by_cases ck : k6 = 4
          · have hTr : cTr (trOf n) = [.int .i64 2, .string ⟨#[110]⟩, .string ⟨#[]⟩, .string ⟨#[]⟩, .int .i64 1, .string (nm [⟨#[112, 58, 49]⟩, ⟨#[112, 58, 50]⟩, ⟨#[112, 58, 51]⟩] p3), .string ⟨#[]⟩, .string ⟨#[]⟩, .int .i64 3, .string (nm [⟨#[116]⟩, ⟨#[117]⟩] r2), .string ⟨#[]⟩, .string ⟨#[]⟩] := by
              unfold trOf cTr cT
              rw [hd5, hd15, hd60, hd360, hm4, hm5, hp3, hq4, hk6, hr3, hr2]
              rw [if_pos (show (m5 : Int) = 4 by omega)]
              rw [if_neg (show ¬ (k6 : Int) = 5 by omega), if_pos (show (k6 : Int) = 4 by omega)]
              rfl
            have e5 : ((m5 : Int) == 4) = true := by rw [c5]; rfl
            have e6 : ((k6 : Int) == 5) = false := beq_eq_false_iff_ne.2 (by omega)
            have e7 : ((k6 : Int) == 4) = true := by rw [ck]; rfl
            clear c5 ck hm4 hm5 hp3 hq4 hk6 hr3 hr2
            go_wp2_with (first
              | (go_at_call_of 19 (#[Value.int .i64 n, Value.int .i64 4] : Array Value); refine (hw0 _).mono ?_; rintro e w1 ⟨rfl, rfl⟩)
              | (go_at_call_of 19 (#[Value.int .i64 n, Value.int .i64 5] : Array Value); refine (hw1 _).mono ?_; rintro e w1 ⟨rfl, rfl⟩)
              | (go_at_call_of 19 (#[Value.int .i64 d5, Value.int .i64 3] : Array Value); refine (hw2 _).mono ?_; rintro e w1 ⟨rfl, rfl⟩)
              | (go_at_call_of 19 (#[Value.int .i64 d15, Value.int .i64 4] : Array Value); refine (hw3 _).mono ?_; rintro e w1 ⟨rfl, rfl⟩)
              | (go_at_call_of 19 (#[Value.int .i64 d60, Value.int .i64 6] : Array Value); refine (hw4 _).mono ?_; rintro e w1 ⟨rfl, rfl⟩)
              | (go_at_call_of 19 (#[Value.int .i64 d360, Value.int .i64 3] : Array Value); refine (hw5 _).mono ?_; rintro e w1 ⟨rfl, rfl⟩)
              | (go_at_call_of 19 (#[Value.int .i64 d360, Value.int .i64 2] : Array Value); refine (hw6 _).mono ?_; rintro e w1 ⟨rfl, rfl⟩)
              | (at_builtin; refine wpList_append_own _ rfl (.tmp 69) (.tmp 74) 24 rfl w.heap.size 43 i0 _ 12 168 und24 hi hz0 hz1 hz2 rfl (by decide) _ L.length (L.flatMap cTr) rfl (by exact RowT.below hrow (by repeat (first | exact Below.refl _ _ | refine Below.alloc ?_ (by simp <;> omega) _ | refine Below.setCell ?_ (by simp <;> omega) _))) ⟨_, 0, none⟩ 1 1 [.int .i64 2, .string ⟨#[110]⟩, .string ⟨#[]⟩, .string ⟨#[]⟩, .int .i64 1, .string (nm [⟨#[112, 58, 49]⟩, ⟨#[112, 58, 50]⟩, ⟨#[112, 58, 51]⟩] p3), .string ⟨#[]⟩, .string ⟨#[]⟩, .int .i64 3, .string (nm [⟨#[116]⟩, ⟨#[117]⟩] r2), .string ⟨#[]⟩, .string ⟨#[]⟩] rfl rfl (cell_newN (by simp) _ _) (by rw [← hTr]; exact oneTr _) (by unfold maxLen; omega) (by omega) (by have := hbw.size; simp; omega) ?_; intro v' w2 hown' hgrow hnil))
            have hb2' := grow_end hgrow (Nat.le_refl _) hbw hrow (by repeat (first | exact Below.refl _ _ | refine Below.alloc ?_ (by simp <;> omega) _ | refine Below.setCell ?_ (by simp <;> omega) _))
            go_roundg g'
            case measure => omega
            case rel => exact ⟨j + 1, congrArg (Value.int .i64) (by omega), by omega, by omega, by rw [htk]; unfold RowT; rw [List.length_append, List.flatMap_append]; simpa [hTr] using hown', hb2', by omega⟩
          · have ck4 : ¬ k6 = 4 := ck
            clear ck
            have hTr : cTr (trOf n) = [.int .i64 2, .string ⟨#[110]⟩, .string ⟨#[]⟩, .string ⟨#[]⟩, .int .i64 1, .string (nm [⟨#[112, 58, 49]⟩, ⟨#[112, 58, 50]⟩, ⟨#[112, 58, 51]⟩] p3), .string ⟨#[]⟩, .string ⟨#[]⟩, .int .i64 1, .string (nm [⟨#[115, 58, 49]⟩, ⟨#[115, 58, 50]⟩, ⟨#[115, 58, 51]⟩, ⟨#[115, 58, 52]⟩] q4), .string ⟨#[]⟩, .string ⟨#[]⟩] := by
              unfold trOf cTr cT
              rw [hd5, hd15, hd60, hd360, hm4, hm5, hp3, hq4, hk6, hr3, hr2]
              rw [if_pos (show (m5 : Int) = 4 by omega)]
              rw [if_neg (show ¬ (k6 : Int) = 5 by omega), if_neg (show ¬ (k6 : Int) = 4 by omega)]
              rfl
            have e5 : ((m5 : Int) == 4) = true := by rw [c5]; rfl
            have e6 : ((k6 : Int) == 5) = false := beq_eq_false_iff_ne.2 (by omega)
            have e7 : ((k6 : Int) == 4) = false := beq_eq_false_iff_ne.2 (by omega)
            clear c5 ck5 ck4 hm4 hm5 hp3 hq4 hk6 hr3 hr2
            go_wp2_with (first
              | (go_at_call_of 19 (#[Value.int .i64 n, Value.int .i64 4] : Array Value); refine (hw0 _).mono ?_; rintro e w1 ⟨rfl, rfl⟩)
              | (go_at_call_of 19 (#[Value.int .i64 n, Value.int .i64 5] : Array Value); refine (hw1 _).mono ?_; rintro e w1 ⟨rfl, rfl⟩)
              | (go_at_call_of 19 (#[Value.int .i64 d5, Value.int .i64 3] : Array Value); refine (hw2 _).mono ?_; rintro e w1 ⟨rfl, rfl⟩)
              | (go_at_call_of 19 (#[Value.int .i64 d15, Value.int .i64 4] : Array Value); refine (hw3 _).mono ?_; rintro e w1 ⟨rfl, rfl⟩)
              | (go_at_call_of 19 (#[Value.int .i64 d60, Value.int .i64 6] : Array Value); refine (hw4 _).mono ?_; rintro e w1 ⟨rfl, rfl⟩)
              | (go_at_call_of 19 (#[Value.int .i64 d360, Value.int .i64 3] : Array Value); refine (hw5 _).mono ?_; rintro e w1 ⟨rfl, rfl⟩)
              | (go_at_call_of 19 (#[Value.int .i64 d360, Value.int .i64 2] : Array Value); refine (hw6 _).mono ?_; rintro e w1 ⟨rfl, rfl⟩)
              | (at_builtin; refine wpList_append_own _ rfl (.tmp 69) (.tmp 74) 24 rfl w.heap.size 43 i0 _ 12 168 und24 hi hz0 hz1 hz2 rfl (by decide) _ L.length (L.flatMap cTr) rfl (by exact RowT.below hrow (by repeat (first | exact Below.refl _ _ | refine Below.alloc ?_ (by simp <;> omega) _ | refine Below.setCell ?_ (by simp <;> omega) _))) ⟨_, 0, none⟩ 1 1 [.int .i64 2, .string ⟨#[110]⟩, .string ⟨#[]⟩, .string ⟨#[]⟩, .int .i64 1, .string (nm [⟨#[112, 58, 49]⟩, ⟨#[112, 58, 50]⟩, ⟨#[112, 58, 51]⟩] p3), .string ⟨#[]⟩, .string ⟨#[]⟩, .int .i64 1, .string (nm [⟨#[115, 58, 49]⟩, ⟨#[115, 58, 50]⟩, ⟨#[115, 58, 51]⟩, ⟨#[115, 58, 52]⟩] q4), .string ⟨#[]⟩, .string ⟨#[]⟩] rfl rfl (cell_newN (by simp) _ _) (by rw [← hTr]; exact oneTr _) (by unfold maxLen; omega) (by omega) (by have := hbw.size; simp; omega) ?_; intro v' w2 hown' hgrow hnil))
            have hb2' := grow_end hgrow (Nat.le_refl _) hbw hrow (by repeat (first | exact Below.refl _ _ | refine Below.alloc ?_ (by simp <;> omega) _ | refine Below.setCell ?_ (by simp <;> omega) _))
            go_roundg g'
            case measure => omega
            case rel => exact ⟨j + 1, congrArg (Value.int .i64) (by omega), by omega, by omega, by rw [htk]; unfold RowT; rw [List.length_append, List.flatMap_append]; simpa [hTr] using hown', hb2', by omega⟩
      · by_cases ck : k6 = 5
        · have hTr : cTr (trOf n) = [.int .i64 1, .string (nm [⟨#[115, 58, 49]⟩, ⟨#[115, 58, 50]⟩, ⟨#[115, 58, 51]⟩, ⟨#[115, 58, 52]⟩] m4), .string ⟨#[]⟩, .string ⟨#[]⟩, .int .i64 1, .string (nm [⟨#[112, 58, 49]⟩, ⟨#[112, 58, 50]⟩, ⟨#[112, 58, 51]⟩] p3), .string ⟨#[]⟩, .string ⟨#[]⟩, .int .i64 3, .string (nm [⟨#[49]⟩, ⟨#[50, 46, 53]⟩, ⟨#[120]⟩] r3), .string ⟨#[]⟩, .string ⟨#[104, 116, 116, 112, 58, 47, 47, 119, 119, 119, 46, 119, 51, 46, 111, 114, 103, 47, 50, 48, 48, 49, 47, 88, 77, 76, 83, 99, 104, 101, 109, 97, 35, 100, 101, 99, 105, 109, 97, 108]⟩] := by
            unfold trOf cTr cT
            rw [hd5, hd15, hd60, hd360, hm4, hm5, hp3, hq4, hk6, hr3, hr2]
            rw [if_neg (show ¬ (m5 : Int) = 4 by omega)]
            rw [if_pos (show (k6 : Int) = 5 by omega)]
            rfl
          have e5 : ((m5 : Int) == 4) = false := beq_eq_false_iff_ne.2 (by omega)
          have e6 : ((k6 : Int) == 5) = true := by rw [ck]; rfl
          clear c5 ck hm4 hm5 hp3 hq4 hk6 hr3 hr2
          go_wp2_with (first
            | (go_at_call_of 19 (#[Value.int .i64 n, Value.int .i64 4] : Array Value); refine (hw0 _).mono ?_; rintro e w1 ⟨rfl, rfl⟩)
            | (go_at_call_of 19 (#[Value.int .i64 n, Value.int .i64 5] : Array Value); refine (hw1 _).mono ?_; rintro e w1 ⟨rfl, rfl⟩)
            | (go_at_call_of 19 (#[Value.int .i64 d5, Value.int .i64 3] : Array Value); refine (hw2 _).mono ?_; rintro e w1 ⟨rfl, rfl⟩)
            | (go_at_call_of 19 (#[Value.int .i64 d15, Value.int .i64 4] : Array Value); refine (hw3 _).mono ?_; rintro e w1 ⟨rfl, rfl⟩)
            | (go_at_call_of 19 (#[Value.int .i64 d60, Value.int .i64 6] : Array Value); refine (hw4 _).mono ?_; rintro e w1 ⟨rfl, rfl⟩)
            | (go_at_call_of 19 (#[Value.int .i64 d360, Value.int .i64 3] : Array Value); refine (hw5 _).mono ?_; rintro e w1 ⟨rfl, rfl⟩)
            | (go_at_call_of 19 (#[Value.int .i64 d360, Value.int .i64 2] : Array Value); refine (hw6 _).mono ?_; rintro e w1 ⟨rfl, rfl⟩)
            | (at_builtin; refine wpList_append_own _ rfl (.tmp 69) (.tmp 74) 24 rfl w.heap.size 43 i0 _ 12 168 und24 hi hz0 hz1 hz2 rfl (by decide) _ L.length (L.flatMap cTr) rfl (by exact RowT.below hrow (by repeat (first | exact Below.refl _ _ | refine Below.alloc ?_ (by simp <;> omega) _ | refine Below.setCell ?_ (by simp <;> omega) _))) ⟨_, 0, none⟩ 1 1 [.int .i64 1, .string (nm [⟨#[115, 58, 49]⟩, ⟨#[115, 58, 50]⟩, ⟨#[115, 58, 51]⟩, ⟨#[115, 58, 52]⟩] m4), .string ⟨#[]⟩, .string ⟨#[]⟩, .int .i64 1, .string (nm [⟨#[112, 58, 49]⟩, ⟨#[112, 58, 50]⟩, ⟨#[112, 58, 51]⟩] p3), .string ⟨#[]⟩, .string ⟨#[]⟩, .int .i64 3, .string (nm [⟨#[49]⟩, ⟨#[50, 46, 53]⟩, ⟨#[120]⟩] r3), .string ⟨#[]⟩, .string ⟨#[104, 116, 116, 112, 58, 47, 47, 119, 119, 119, 46, 119, 51, 46, 111, 114, 103, 47, 50, 48, 48, 49, 47, 88, 77, 76, 83, 99, 104, 101, 109, 97, 35, 100, 101, 99, 105, 109, 97, 108]⟩] rfl rfl (cell_newN (by simp) _ _) (by rw [← hTr]; exact oneTr _) (by unfold maxLen; omega) (by omega) (by have := hbw.size; simp; omega) ?_; intro v' w2 hown' hgrow hnil))
          have hb2' := grow_end hgrow (Nat.le_refl _) hbw hrow (by repeat (first | exact Below.refl _ _ | refine Below.alloc ?_ (by simp <;> omega) _ | refine Below.setCell ?_ (by simp <;> omega) _))
          go_roundg g'
          case measure => omega
          case rel => exact ⟨j + 1, congrArg (Value.int .i64) (by omega), by omega, by omega, by rw [htk]; unfold RowT; rw [List.length_append, List.flatMap_append]; simpa [hTr] using hown', hb2', by omega⟩
        · have ck5 : ¬ k6 = 5 := ck
          clear ck
          by_cases ck : k6 = 4
          · have hTr : cTr (trOf n) = [.int .i64 1, .string (nm [⟨#[115, 58, 49]⟩, ⟨#[115, 58, 50]⟩, ⟨#[115, 58, 51]⟩, ⟨#[115, 58, 52]⟩] m4), .string ⟨#[]⟩, .string ⟨#[]⟩, .int .i64 1, .string (nm [⟨#[112, 58, 49]⟩, ⟨#[112, 58, 50]⟩, ⟨#[112, 58, 51]⟩] p3), .string ⟨#[]⟩, .string ⟨#[]⟩, .int .i64 3, .string (nm [⟨#[116]⟩, ⟨#[117]⟩] r2), .string ⟨#[]⟩, .string ⟨#[]⟩] := by
              unfold trOf cTr cT
              rw [hd5, hd15, hd60, hd360, hm4, hm5, hp3, hq4, hk6, hr3, hr2]
              rw [if_neg (show ¬ (m5 : Int) = 4 by omega)]
              rw [if_neg (show ¬ (k6 : Int) = 5 by omega), if_pos (show (k6 : Int) = 4 by omega)]
              rfl
            have e5 : ((m5 : Int) == 4) = false := beq_eq_false_iff_ne.2 (by omega)
            have e6 : ((k6 : Int) == 5) = false := beq_eq_false_iff_ne.2 (by omega)
            have e7 : ((k6 : Int) == 4) = true := by rw [ck]; rfl
            clear c5 ck hm4 hm5 hp3 hq4 hk6 hr3 hr2
            go_wp2_with (first
              | (go_at_call_of 19 (#[Value.int .i64 n, Value.int .i64 4] : Array Value); refine (hw0 _).mono ?_; rintro e w1 ⟨rfl, rfl⟩)
              | (go_at_call_of 19 (#[Value.int .i64 n, Value.int .i64 5] : Array Value); refine (hw1 _).mono ?_; rintro e w1 ⟨rfl, rfl⟩)
              | (go_at_call_of 19 (#[Value.int .i64 d5, Value.int .i64 3] : Array Value); refine (hw2 _).mono ?_; rintro e w1 ⟨rfl, rfl⟩)
              | (go_at_call_of 19 (#[Value.int .i64 d15, Value.int .i64 4] : Array Value); refine (hw3 _).mono ?_; rintro e w1 ⟨rfl, rfl⟩)
              | (go_at_call_of 19 (#[Value.int .i64 d60, Value.int .i64 6] : Array Value); refine (hw4 _).mono ?_; rintro e w1 ⟨rfl, rfl⟩)
              | (go_at_call_of 19 (#[Value.int .i64 d360, Value.int .i64 3] : Array Value); refine (hw5 _).mono ?_; rintro e w1 ⟨rfl, rfl⟩)
              | (go_at_call_of 19 (#[Value.int .i64 d360, Value.int .i64 2] : Array Value); refine (hw6 _).mono ?_; rintro e w1 ⟨rfl, rfl⟩)
              | (at_builtin; refine wpList_append_own _ rfl (.tmp 69) (.tmp 74) 24 rfl w.heap.size 43 i0 _ 12 168 und24 hi hz0 hz1 hz2 rfl (by decide) _ L.length (L.flatMap cTr) rfl (by exact RowT.below hrow (by repeat (first | exact Below.refl _ _ | refine Below.alloc ?_ (by simp <;> omega) _ | refine Below.setCell ?_ (by simp <;> omega) _))) ⟨_, 0, none⟩ 1 1 [.int .i64 1, .string (nm [⟨#[115, 58, 49]⟩, ⟨#[115, 58, 50]⟩, ⟨#[115, 58, 51]⟩, ⟨#[115, 58, 52]⟩] m4), .string ⟨#[]⟩, .string ⟨#[]⟩, .int .i64 1, .string (nm [⟨#[112, 58, 49]⟩, ⟨#[112, 58, 50]⟩, ⟨#[112, 58, 51]⟩] p3), .string ⟨#[]⟩, .string ⟨#[]⟩, .int .i64 3, .string (nm [⟨#[116]⟩, ⟨#[117]⟩] r2), .string ⟨#[]⟩, .string ⟨#[]⟩] rfl rfl (cell_newN (by simp) _ _) (by rw [← hTr]; exact oneTr _) (by unfold maxLen; omega) (by omega) (by have := hbw.size; simp; omega) ?_; intro v' w2 hown' hgrow hnil))
            have hb2' := grow_end hgrow (Nat.le_refl _) hbw hrow (by repeat (first | exact Below.refl _ _ | refine Below.alloc ?_ (by simp <;> omega) _ | refine Below.setCell ?_ (by simp <;> omega) _))
            go_roundg g'
            case measure => omega
            case rel => exact ⟨j + 1, congrArg (Value.int .i64) (by omega), by omega, by omega, by rw [htk]; unfold RowT; rw [List.length_append, List.flatMap_append]; simpa [hTr] using hown', hb2', by omega⟩
          · have ck4 : ¬ k6 = 4 := ck
            clear ck
            have hTr : cTr (trOf n) = [.int .i64 1, .string (nm [⟨#[115, 58, 49]⟩, ⟨#[115, 58, 50]⟩, ⟨#[115, 58, 51]⟩, ⟨#[115, 58, 52]⟩] m4), .string ⟨#[]⟩, .string ⟨#[]⟩, .int .i64 1, .string (nm [⟨#[112, 58, 49]⟩, ⟨#[112, 58, 50]⟩, ⟨#[112, 58, 51]⟩] p3), .string ⟨#[]⟩, .string ⟨#[]⟩, .int .i64 1, .string (nm [⟨#[115, 58, 49]⟩, ⟨#[115, 58, 50]⟩, ⟨#[115, 58, 51]⟩, ⟨#[115, 58, 52]⟩] q4), .string ⟨#[]⟩, .string ⟨#[]⟩] := by
              unfold trOf cTr cT
              rw [hd5, hd15, hd60, hd360, hm4, hm5, hp3, hq4, hk6, hr3, hr2]
              rw [if_neg (show ¬ (m5 : Int) = 4 by omega)]
              rw [if_neg (show ¬ (k6 : Int) = 5 by omega), if_neg (show ¬ (k6 : Int) = 4 by omega)]
              rfl
            have e5 : ((m5 : Int) == 4) = false := beq_eq_false_iff_ne.2 (by omega)
            have e6 : ((k6 : Int) == 5) = false := beq_eq_false_iff_ne.2 (by omega)
            have e7 : ((k6 : Int) == 4) = false := beq_eq_false_iff_ne.2 (by omega)
            clear c5 ck5 ck4 hm4 hm5 hp3 hq4 hk6 hr3 hr2
            go_wp2_with (first
              | (go_at_call_of 19 (#[Value.int .i64 n, Value.int .i64 4] : Array Value); refine (hw0 _).mono ?_; rintro e w1 ⟨rfl, rfl⟩)
              | (go_at_call_of 19 (#[Value.int .i64 n, Value.int .i64 5] : Array Value); refine (hw1 _).mono ?_; rintro e w1 ⟨rfl, rfl⟩)
              | (go_at_call_of 19 (#[Value.int .i64 d5, Value.int .i64 3] : Array Value); refine (hw2 _).mono ?_; rintro e w1 ⟨rfl, rfl⟩)
              | (go_at_call_of 19 (#[Value.int .i64 d15, Value.int .i64 4] : Array Value); refine (hw3 _).mono ?_; rintro e w1 ⟨rfl, rfl⟩)
              | (go_at_call_of 19 (#[Value.int .i64 d60, Value.int .i64 6] : Array Value); refine (hw4 _).mono ?_; rintro e w1 ⟨rfl, rfl⟩)
              | (go_at_call_of 19 (#[Value.int .i64 d360, Value.int .i64 3] : Array Value); refine (hw5 _).mono ?_; rintro e w1 ⟨rfl, rfl⟩)
              | (go_at_call_of 19 (#[Value.int .i64 d360, Value.int .i64 2] : Array Value); refine (hw6 _).mono ?_; rintro e w1 ⟨rfl, rfl⟩)
              | (at_builtin; refine wpList_append_own _ rfl (.tmp 69) (.tmp 74) 24 rfl w.heap.size 43 i0 _ 12 168 und24 hi hz0 hz1 hz2 rfl (by decide) _ L.length (L.flatMap cTr) rfl (by exact RowT.below hrow (by repeat (first | exact Below.refl _ _ | refine Below.alloc ?_ (by simp <;> omega) _ | refine Below.setCell ?_ (by simp <;> omega) _))) ⟨_, 0, none⟩ 1 1 [.int .i64 1, .string (nm [⟨#[115, 58, 49]⟩, ⟨#[115, 58, 50]⟩, ⟨#[115, 58, 51]⟩, ⟨#[115, 58, 52]⟩] m4), .string ⟨#[]⟩, .string ⟨#[]⟩, .int .i64 1, .string (nm [⟨#[112, 58, 49]⟩, ⟨#[112, 58, 50]⟩, ⟨#[112, 58, 51]⟩] p3), .string ⟨#[]⟩, .string ⟨#[]⟩, .int .i64 1, .string (nm [⟨#[115, 58, 49]⟩, ⟨#[115, 58, 50]⟩, ⟨#[115, 58, 51]⟩, ⟨#[115, 58, 52]⟩] q4), .string ⟨#[]⟩, .string ⟨#[]⟩] rfl rfl (cell_newN (by simp) _ _) (by rw [← hTr]; exact oneTr _) (by unfold maxLen; omega) (by omega) (by have := hbw.size; simp; omega) ?_; intro v' w2 hown' hgrow hnil))
            have hb2' := grow_end hgrow (Nat.le_refl _) hbw hrow (by repeat (first | exact Below.refl _ _ | refine Below.alloc ?_ (by simp <;> omega) _ | refine Below.setCell ?_ (by simp <;> omega) _))
            go_roundg g'
            case measure => omega
            case rel => exact ⟨j + 1, congrArg (Value.int .i64) (by omega), by omega, by omega, by rw [htk]; unfold RowT; rw [List.length_append, List.flatMap_append]; simpa [hTr] using hown', hb2', by omega⟩
    · have hset := set_calls u3 ((ns.take j).map trOf) wr hrow.ok (by simp; omega)
      have hGe : ¬ (ns.take 25).map trOf ≠ (ns.take j).map trOf := Classical.not_not.2 <| by
        by_cases hjn : j = 25
        · rw [hjn]
        · rw [List.take_of_length_le (by omega : ns.length ≤ 25), List.take_of_length_le (by omega : ns.length ≤ j)]
      by_cases hjn : j < ns.length
      · have hltI : (j : Int) < (ns.length : Int) := by omega
        have hltJ : ¬ (j : Int) < 25 := by omega
        clear hlt
        go_wp2_with (go_at_call 24; refine hset.mono ?_; rintro e w1 ⟨v', G', rfl, h1, h2, h3, h4⟩)
        go_ret
        exact SetPost.mk G' (fun t => by rw [h1, Classical.not_not.1 hGe]) (by rw [Classical.not_not.1 hGe]; exact h2) (h3.low hbw.size) (hbw.trans (h4.mono hbw.size))
      · have hltI : ¬ (j : Int) < (ns.length : Int) := by omega
        clear hlt
        go_wp2_with (go_at_call 24; refine hset.mono ?_; rintro e w1 ⟨v', G', rfl, h1, h2, h3, h4⟩)
        go_ret
        exact SetPost.mk G' (fun t => by rw [h1, Classical.not_not.1 hGe]) (by rw [Classical.not_not.1 hGe]; exact h2) (h3.low hbw.size) (hbw.trans (h4.mono hbw.size))
end
end Go.Proofs.Ytaeiikielelicaa.Pt
