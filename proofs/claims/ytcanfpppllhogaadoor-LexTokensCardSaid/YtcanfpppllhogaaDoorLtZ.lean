/- What lex and the reference answer, function by function (LexTokens, part Z). -/
import Derived.Test.YtcanfpppllhogaaDoorLtY
import Derived.Laws.ResultCell
import Derived.Laws.Concat
namespace Go.Proofs.YtcanfpppllhogaaDoor.Lx
open Go.RowKit Go.Proofs
open Go.Am (spanL)
noncomputable section

/-! ### the reference's Tokens -/
theorem dropS_dropS (s : ByteArray) (n m : Nat) : dropS (dropS s n) m = dropS s (n + m) := by
  apply bytes_ext
  unfold dropS
  rw [extract_list, extract_list, extract_list, List.drop_drop]
theorem skB_list (s : ByteArray) (n : Nat) : (skB (dropS s n)).data.toList = skp false (s.data.toList.drop n) := by
  unfold skB dropS
  rw [extract_list]
theorem drop_one {s : ByteArray} {n : Nat} (hn : n < s.size) : s.data.toList.drop n = s[n] :: s.data.toList.drop (n + 1) :=
  List.drop_eq_getElem_cons (by rw [← size_eq]; exact hn)
theorem skB_ws {s : ByteArray} {n : Nat} (hn : n < s.size) (h : isWs s[n].toNat = true) : skB (dropS s n) = skB (dropS s (n + 1)) := by
  apply bytes_ext
  rw [skB_list, skB_list, drop_one hn, skp, if_pos h]
theorem skB_tok {s : ByteArray} {n : Nat} (hn : n < s.size) (h : isWs s[n].toNat = false) (h2 : s[n].toNat ≠ 35) : skB (dropS s n) = dropS s n := by
  apply bytes_ext
  rw [skB_list, drop_one hn, skp, if_neg (by rw [h]; decide), if_neg h2]
  unfold dropS
  rw [extract_list, drop_one hn]
theorem skB_out {s : ByteArray} {n : Nat} (hn : ¬ n < s.size) : (skB (dropS s n)).size = 0 := by
  rw [size_eq, skB_list, List.drop_eq_nil_of_le (by rw [← size_eq]; omega)]
  rfl
theorem skB_le (s : ByteArray) (n : Nat) : (skB (dropS s n)).size ≤ s.size - n := by
  have := skB_size (dropS s n)
  rw [dropS_size] at this
  exact this
theorem skT_hash {s : ByteArray} {n : Nat} (hn : n < s.size) (h : s[n].toNat = 35) : skp true (s.data.toList.drop n) = skp false (s.data.toList.drop n) := by
  rw [drop_one hn, skp, skp, if_neg (by rw [h]; decide), if_neg (by rw [h]; decide), if_pos h]
theorem skT_end {s : ByteArray} {j : Nat} (h : ¬ j < s.size) : skp true (s.data.toList.drop j) = skp false (s.data.toList.drop j) := by
  rw [List.drop_eq_nil_of_le (by rw [← size_eq]; omega)]
  rfl
theorem skT_nl {s : ByteArray} {j : Nat} (hn : j < s.size) (h : s[j].toNat = 10) : skp true (s.data.toList.drop j) = skp false (s.data.toList.drop j) := by
  rw [drop_one hn, skp, skp, if_pos h, if_pos (by rw [h]; rfl)]
theorem skT_go {s : ByteArray} {j : Nat} (hn : j < s.size) (h : s[j].toNat ≠ 10) : skp true (s.data.toList.drop j) = skp true (s.data.toList.drop (j + 1)) := by
  rw [drop_one hn, skp, if_neg h]
theorem isWs_iff {c : Nat} : isWs c = true ↔ c = 32 ∨ c = 9 ∨ c = 10 ∨ c = 13 := by
  unfold isWs
  simp only [Bool.or_eq_true, Nat.beq_eq]
theorem cell_two2 (w : World) (o : Obj) (a b : Value) (t : TypeId) : ∀ j u, [a, b][j]? = some u → ((w.alloc o).alloc (.cells #[a, b] t)).cell? ((⟨w.heap.size + 1, 0, none⟩ : Addr).add j) = some u := by
  have h : (w.alloc o).heap.size = w.heap.size + 1 := by simp
  rw [← h]
  exact cell_two _ _ _ _
set_option maxHeartbeats 16000000 in
set_option maxRecDepth 1000000 in
theorem rtokens_calls (s : ByteArray) (w : World) (hs : s.size ≤ 4000) :
    Calls Tryd.prog 7 #[.string s] w fun e w' => Below w.heap.size w w' ∧ TokPost (tokensP s) w w' e := by
  have hsI : ¬ (4000 : Int) < (s.size : Int) := by omega
  obtain ⟨R, hR⟩ : ∃ R, tokensP s = R := ⟨_, rfl⟩
  rw [hR]
  unfold tokensP at hR
  obtain ⟨i0, hi, hz0, hz1, hz2⟩ := info_parts (show (Tryd.prog.info? 35).map (fun i => (i.zero, i.size, i.bytes)) = some (some (.agg #[.int .i64 0, .string ⟨#[]⟩]), 2, 24) by kernel_rfl)
  have hR0 : toks (s.size + 1) (skB (dropS s 0)) [] = R := by
    rw [← hR]
    congr 2
    apply bytes_ext
    unfold dropS
    rw [extract_list]
    rfl
  go_enter Tryd.func7, Tryd.ntmps7
  go_wp2
  go_loopg [4, 5] (s.size + 1) (fun gf v i wx => ∃ (n : Nat) (l : List Tok) (tf : Nat), i = .int .i64 (n : Int) ∧ wx.ownsRow w.heap.size 35 2 v l.length (cellsT l) ∧ Below w.heap.size w wx ∧ toks tf (skB (dropS s n)) l = R ∧ (skB (dropS s n)).size < tf ∧ l.length ≤ n ∧ l.length ≤ s.size ∧ s.size < gf + n)
  case atStart => exact ⟨0, [], s.size + 1, rfl, World.ownsRow_nil _ _ _ _, Below.refl _ _, hR0, by have := skB_le s 0; omega, by simp, by simp, by omega⟩
  case round =>
    obtain ⟨n, l, tf, rfl, hown, hbw, htk, htf, hl1, hl2, hfu⟩ := hrel
    clear hR hR0
    by_cases hlt : n < s.size
    · obtain ⟨g', rfl⟩ : ∃ g', gk = g' + 1 := ⟨gk - 1, by omega⟩
      have hltI : (n : Int) < (s.size : Int) := by omega
      cases hw : isWs s[n].toNat with
      | true =>
        have hD := skB_ws hlt hw
        rcases isWs_iff.1 hw with hQ | hQ | hQ | hQ
        · · go_wp2
            go_roundg g'
            case measure => omega
            case rel => exact ⟨n + 1, l, tf, congrArg (Value.int .i64) (by omega), hown, hbw, by rw [← htk, hD], by rw [← hD]; exact htf, by omega, by omega, by omega⟩
        · · go_wp2
            go_roundg g'
            case measure => omega
            case rel => exact ⟨n + 1, l, tf, congrArg (Value.int .i64) (by omega), hown, hbw, by rw [← htk, hD], by rw [← hD]; exact htf, by omega, by omega, by omega⟩
        · · go_wp2
            go_roundg g'
            case measure => omega
            case rel => exact ⟨n + 1, l, tf, congrArg (Value.int .i64) (by omega), hown, hbw, by rw [← htk, hD], by rw [← hD]; exact htf, by omega, by omega, by omega⟩
        · · go_wp2
            go_roundg g'
            case measure => omega
            case rel => exact ⟨n + 1, l, tf, congrArg (Value.int .i64) (by omega), hown, hbw, by rw [← htk, hD], by rw [← hD]; exact htf, by omega, by omega, by omega⟩
      | false =>
        by_cases h35 : s[n].toNat = 35
        · go_wp2
          have hsk := skT_hash hlt h35
          go_loopg [5] (s.size + 1) (fun gf i wx => ∃ j : Nat, i = .int .i64 (j : Int) ∧ n ≤ j ∧ j ≤ s.size ∧ skp true (s.data.toList.drop j) = skp false (s.data.toList.drop n) ∧ wx = wr ∧ s.size < gf + j)
          case atStart => exact ⟨n, rfl, Nat.le_refl _, by omega, hsk, rfl, by omega⟩
          case round =>
            obtain ⟨j, rfl, hj1, hj2, hsj, rfl, hfj⟩ := hrel
            by_cases hjl : j < s.size
            · have hjI : (j : Int) < (s.size : Int) := by omega
              by_cases hj10 : s[j].toNat = 10
              · have hjne : j ≠ n := fun e => by subst e; omega
                have hD : skB (dropS s n) = skB (dropS s j) := by
                  apply bytes_ext
                  rw [skB_list, skB_list, ← hsj, skT_nl hjl hj10]
                go_wp2
                go_roundg g'
                case measure => omega
                case rel => exact ⟨j, l, tf, rfl, hown, hbw, by rw [← htk, hD], by rw [← hD]; exact htf, by omega, by omega, by omega⟩
              · have hj10I : ¬ (s[j].toNat : Int) = 10 := by omega
                have hj10b : ((s[j].toNat : Int) != 10) = true := bne_iff_ne.2 hj10I
                have hsj2 := (skT_go hjl hj10).symm.trans hsj
                obtain ⟨h', hgk⟩ : ∃ h', gk = h' + 1 := ⟨gk - 1, by omega⟩
                subst hgk
                go_wp2
                go_roundg h'
                case measure => omega
                case rel => exact ⟨j + 1, congrArg (Value.int .i64) (by omega), by omega, by omega, hsj2, rfl, by omega⟩
            · have hjI : ¬ (j : Int) < (s.size : Int) := by omega
              have hD : skB (dropS s n) = skB (dropS s j) := by
                apply bytes_ext
                rw [skB_list, skB_list, ← hsj, skT_end hjl]
              go_wp2
              go_roundg g'
              case measure => omega
              case rel => exact ⟨j, l, tf, rfl, hown, hbw, by rw [← htk, hD], by rw [← hD]; exact htf, by omega, by omega, by omega⟩
        · have hD := skB_tok hlt hw h35
          have hstep := rone_step s n hlt
          have cO := fun W => rone_calls s n W hlt hs
          rw [hD] at htk htf
          obtain ⟨f, rfl⟩ : ∃ f, tf = f + 1 := ⟨tf - 1, by omega⟩
          rw [dropS_size] at htf
          rw [toks, if_neg (by rw [dropS_size]; omega)] at htk
          obtain ⟨Q, hQ⟩ : ∃ Q, s[n].toNat = Q := ⟨_, rfl⟩
          have hQ256 : Q < 256 := by rw [← hQ]; exact s[n].toNat_lt
          rw [hQ] at hw h35
          have hws : ¬ (Q = 32 ∨ Q = 9 ∨ Q = 10 ∨ Q = 13) := fun h => by rw [isWs_iff.2 h] at hw; cases hw
          have n32 : ¬ (Q : Int) = 32 := by omega
          have n9 : ¬ (Q : Int) = 9 := by omega
          have n10 : ¬ (Q : Int) = 10 := by omega
          have n13 : ¬ (Q : Int) = 13 := by omega
          have n35 : ¬ (Q : Int) = 35 := by omega
          have b32 : ((Q : Int) == 32) = false := beq_eq_false_iff_ne.2 n32
          have b9 : ((Q : Int) == 9) = false := beq_eq_false_iff_ne.2 n9
          have b10 : ((Q : Int) == 10) = false := beq_eq_false_iff_ne.2 n10
          have b13 : ((Q : Int) == 13) = false := beq_eq_false_iff_ne.2 n13
          have b35 : ((Q : Int) == 35) = false := beq_eq_false_iff_ne.2 n35
          clear hws h35 hw hD
          cases hst : step (dropS s n) with
          | none =>
            rw [hst] at htk hstep
            dsimp only at htk
            rw [hstep] at cO
            subst htk
            clear hst hstep
            go_wp2_with (go_at_call 21; refine (cO _).mono ?_; rintro e w1 ⟨⟨k, t, rfl⟩, hb1⟩)
            go_ret2
            exact ⟨hbw.trans ((hb1.alloc hb1.size _).mono hbw.size), rfl⟩
          | some r =>
            obtain ⟨k, m⟩ := r
            have hpos := step_pos hst
            rw [hst] at htk hstep
            dsimp only at htk
            rw [hstep] at cO
            have hm0 : ¬ ((n + m : Nat) : Int) = 0 := by omega
            have hm0b : (((n + m : Nat) : Int) == 0) = false := beq_eq_false_iff_ne.2 hm0
            obtain ⟨M, hM⟩ : ∃ M, n + m = M := ⟨_, rfl⟩
            rw [dropS_dropS, hM] at htk
            have cO : ∀ W, Calls Tryd.prog 21 #[.string s, .int .i64 (n : Int)] W fun e w' => e = .returned (.tuple #[.agg #[.int .i64 k.1, .string k.2], .int .i64 (M : Int)]) ∧ Below W.heap.size W w' := by rw [← hM]; exact cO
            rw [hM] at hm0 hm0b
            have hMle := skB_le s M
            clear hst hstep
            go_wp2_with (first
              | (at_builtin; refine wpList_append_own _ rfl (.tmp 57) (.tmp 59) 26 rfl w.heap.size 35 i0 (.agg #[.int .i64 0, .string ⟨#[]⟩]) 2 24 Tryd.underlying26 hi hz0 hz1 hz2 rfl (by decide) u4 l.length (cellsT l) ?_ ?_ ⟨w1.heap.size + 1, 0, none⟩ 1 1 [.int .i64 k.1, .string k.2] ?_ ?_ ?_ ?_ ?_ ?_ ?_ ?_; exact rfl; exact (hown1.alloc _).alloc _; exact rfl; exact rfl; exact cell_two2 _ _ _ _ _; (intro u hu; simp at hu; rcases hu with rfl | rfl <;> rfl); (unfold maxLen; omega); omega; (have := hbw1.size; simp; omega); intro v3 w3 hown3 hgrow3 hnil3)
              | (go_at_call 21; refine (cO _).mono ?_; rintro e w1 ⟨rfl, hb1⟩; have hown1 := own_below hown hb1; have hbw1 := hbw.trans (hb1.mono hbw.size)))
            go_roundg g'
            case measure => omega
            case rel =>
              refine ⟨M, l ++ [k], f, rfl, ?_, ((hbw1.alloc hbw1.size _).alloc (by have := hbw1.size; simp; omega) _).grown hgrow3 (by have := hbw1.size; simp; omega) (own_lt hown1), htk, by omega, ?_, ?_, by omega⟩
              · rw [cellsT_snoc, List.length_append]; exact hown3
              · rw [List.length_append]; simp only [List.length_cons, List.length_nil]; omega
              · rw [List.length_append]; simp only [List.length_cons, List.length_nil]; omega
    · have hltI : ¬ (n : Int) < (s.size : Int) := by omega
      obtain ⟨f, rfl⟩ : ∃ f, tf = f + 1 := ⟨tf - 1, by omega⟩
      rw [toks, if_pos (skB_out hlt)] at htk
      subst htk
      go_wp2
      go_ret2
      exact ⟨hbw, _, rfl, hown, by omega⟩
end
end Go.Proofs.YtcanfpppllhogaaDoor.Lx
