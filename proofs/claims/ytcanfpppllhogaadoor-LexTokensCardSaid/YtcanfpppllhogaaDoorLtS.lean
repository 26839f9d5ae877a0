/- What lex and the reference answer, function by function (LexTokens, part S). -/
import Derived.Test.YtcanfpppllhogaaDoorLtT
import Derived.Laws.ResultCell
import Derived.Laws.Concat
namespace Go.Proofs.YtcanfpppllhogaaDoor.Lx
open Go.RowKit Go.Proofs
open Go.Am (spanL)
noncomputable section

/-! ### the reference's text -/
theorem esc_back (c : Nat) : (escB c ≠ 0 ↔ ((backV c).2 = true ∨ c = 39)) ∧ ((backV c).2 = true → (backV c).1 = escB c) ∧ escB 39 = 39 := by
  unfold escB backV
  refine ⟨?_, ?_, rfl⟩
  · split <;> (try split) <;> (try split) <;> (try split) <;> (try split) <;> simp_all <;> omega
  · split <;> (try split) <;> (try split) <;> (try split) <;> (try split) <;> simp_all
theorem cell_oneD (w : World) (a : Value) (t : TypeId) : ∀ j u, [a][j]? = some u → ((w.alloc (.cells #[a] t)).drew).cell? ((⟨w.heap.size, 0, none⟩ : Addr).add j) = some u := cell_one w a t
def TxtPost (r : Option (List UInt8 × Nat)) (e : Ending) : Prop := match r with
  | some (b, k) => e = .returned (.tuple #[.string ⟨b.toArray⟩, .int .i64 (k : Int)])
  | none => e = .returned (.tuple #[.string ⟨#[]⟩, .int .i64 0])
set_option maxHeartbeats 4000000 in
set_option maxRecDepth 1000000 in
theorem rtext_calls (s : ByteArray) (n : Nat) (w : World) (hn : n < s.size) (hs : s.size ≤ 4000) :
    Calls Tryd.prog 42 #[.string s, .int .i64 (n : Int)] w fun e w' => TxtPost (txt s (atB s n) s.size (n + 1) []) e ∧ Below w.heap.size w w' := by
  have hnI : (n : Int) < (s.size : Int) := by omega
  have hn256 : s[n].toNat < 256 := s[n].toNat_lt
  rw [atB_in hn]
  obtain ⟨Q, hQ⟩ : ∃ Q, s[n].toNat = Q := ⟨_, rfl⟩
  rw [hQ] at hn256 ⊢
  obtain ⟨R, hR⟩ : ∃ R, txt s Q s.size (n + 1) [] = R := ⟨_, rfl⟩
  rw [hR]
  obtain ⟨i0, hi, hz0, hz1, hz2⟩ := info_parts (show (Tryd.prog.info? 5).map (fun i => (i.zero, i.size, i.bytes)) = some (some (.int .u8 0), 1, 1) by kernel_rfl)
  go_enter Tryd.func42, Tryd.ntmps42
  go_wp2
  go_loopg [6, 7] s.size (fun gf vo vi wx => ∃ (i : Nat) (out : List UInt8), vi = .int .i64 (i : Int) ∧ wx.ownsRow w.heap.size 5 1 vo out.length (bytesV out) ∧ Below w.heap.size w wx ∧ txt s Q gf i out = R ∧ n + 1 ≤ i ∧ i ≤ s.size ∧ out.length ≤ i ∧ s.size < gf + i)
  case atStart => exact ⟨n + 1, [], congrArg (Value.int .i64) (by omega), World.ownsRow_nil _ _ _ _, Below.refl _ _, hR, by omega, by omega, by simp, by omega⟩
  case round =>
    obtain ⟨i, out, rfl, hown, hbw, htx, hi1, hi2, hol, hfu⟩ := hrel
    have hd : Below wr.heap.size wr wr.drew := ⟨rfl, rfl, rfl, Nat.le_refl _, fun _ _ => rfl⟩
    have hown' := own_below hown hd
    have hbw' := hbw.trans (hd.mono hbw.size)
    have hcv := conv_own hown'
    have hownA : ∀ o, ((wr.alloc o).drew).ownsRow w.heap.size 5 1 _ out.length (bytesV out) := fun o => own_below (hown.alloc o) ⟨rfl, rfl, rfl, Nat.le_refl _, fun _ _ => rfl⟩
    clear hR
    by_cases hlt : i < s.size
    · obtain ⟨g', rfl⟩ : ∃ g', gk = g' + 1 := ⟨gk - 1, by omega⟩
      have hltI : (i : Int) < (s.size : Int) := by omega
      have hD256 : s[i].toNat < 256 := s[i].toNat_lt
      rw [txt, if_pos hlt, atB_in hlt] at htx
      by_cases c1 : s[i].toNat = Q
      · have c1I : (s[i].toNat : Int) = (Q : Int) := by omega
        rw [if_pos c1] at htx
        subst htx
        go_wp2
        go_region
        all_goals go_wp2
        all_goals go_ret2
        all_goals exact ⟨rfl, hbw'⟩
      · have c1I : ¬ (s[i].toNat : Int) = (Q : Int) := by omega
        have c1b : ((s[i].toNat : Int) != (Q : Int)) = true := bne_iff_ne.2 c1I
        rw [if_neg c1] at htx
        by_cases c2 : s[i].toNat = 10
        · have c2I : (s[i].toNat : Int) = 10 := by omega
          rw [if_pos c2] at htx
          subst htx
          go_wp2
          go_region
          all_goals go_wp2
          all_goals go_ret2
          all_goals exact ⟨rfl, hbw'⟩
        · have c2I : ¬ (s[i].toNat : Int) = 10 := by omega
          rw [if_neg c2] at htx
          by_cases c3 : s[i].toNat = 92
          · have c3I : (s[i].toNat : Int) = 92 := by omega
            rw [if_pos c3] at htx
            by_cases hl2 : i + 1 < s.size
            · have hl2I : (i : Int) + 1 < (s.size : Int) := by omega
              have hE256 : s[i + 1].toNat < 256 := s[i + 1].toNat_lt
              rw [atB_in hl2] at htx
              obtain ⟨E, hE⟩ : ∃ E, s[i + 1].toNat = E := ⟨_, rfl⟩
              rw [hE] at htx hE256
              have cB := fun W => rback_calls E hE256 W
              dsimp only at cB
              have heb := esc_back E
              have he256 := escB_lt E hE256
              have hb : ((escB E).toUInt8).toNat = escB E := by simp; omega
              by_cases h39 : E = 39
              · subst h39
                have h39e : escB 39 = 39 := rfl
                rw [h39e] at htx hb
                rw [if_neg (by decide)] at htx
                simp only [show backV 39 = (0, false) from rfl] at cB
                clear heb he256 h39e
                have cB : ∀ W : World, Calls Tryd.prog 56 #[.int .u8 39] W fun e w' => e = .returned (.tuple #[.int .u8 0, .bool false]) ∧ Below W.heap.size W w' := cB
                go_wp2
                go_region
                all_goals go_wp2_with (first
                  | (at_builtin; refine wpList_append_own _ rfl (.tmp 55) (.tmp 57) 51 rfl w.heap.size 5 i0 (.int .u8 0) 1 1 Tryd.underlying51 hi hz0 hz1 hz2 rfl (by decide) u6 out.length (bytesV out) ?_ ?_ ⟨w5.heap.size, 0, none⟩ 1 1 [.int .u8 (39 : Int)] ?_ ?_ ?_ ?_ ?_ ?_ ?_ ?_; exact rfl; exact hown5.alloc _; exact rfl; exact rfl; exact cell_one _ _ _; (intro u hu; simp at hu; subst hu; rfl); (unfold maxLen; omega); omega; (have := hbw5.size; simp; omega); intro v3 w3 hown3 hgrow3 hnil3)
                  | (go_at_call 56; refine (cB _).mono ?_; rintro e w5 ⟨rfl, hb5⟩; have hown5 := own_below hown' hb5; have hbw5 := hbw'.trans (hb5.mono hbw'.size)))
                go_roundg g'
                case measure => omega
                case rel =>
                  refine ⟨i + 2, out ++ [(39).toUInt8], congrArg (Value.int .i64) (by omega), ?_, (hbw5.alloc hbw5.size _).grown hgrow3 (by have := hbw5.size; simp; omega) (own_lt hown5), htx, by omega, by omega, by simp; omega, by omega⟩
                  rw [bytesV_snoc, List.length_append, hb]
                  exact hown3
              · have h39I : ¬ (E : Int) = 39 := by omega
                cases hbk : (backV E).2 with
                | true =>
                  have h1 := heb.2.1 hbk
                  have h2 : escB E ≠ 0 := heb.1.2 (.inl hbk)
                  rw [if_neg h2] at htx
                  simp only [hbk, h1] at cB
                  clear heb h1 h2 hbk
                  go_wp2
                  go_region
                  all_goals go_wp2_with (first
                    | (at_builtin; refine wpList_append_own _ rfl (.tmp 55) (.tmp 57) 51 rfl w.heap.size 5 i0 (.int .u8 0) 1 1 Tryd.underlying51 hi hz0 hz1 hz2 rfl (by decide) u6 out.length (bytesV out) ?_ ?_ ⟨w5.heap.size, 0, none⟩ 1 1 [.int .u8 (escB E : Int)] ?_ ?_ ?_ ?_ ?_ ?_ ?_ ?_; exact rfl; exact hown5.alloc _; exact rfl; exact rfl; exact cell_one _ _ _; (intro u hu; simp at hu; subst hu; rfl); (unfold maxLen; omega); omega; (have := hbw5.size; simp; omega); intro v3 w3 hown3 hgrow3 hnil3)
                    | (go_at_call 56; refine (cB _).mono ?_; rintro e w5 ⟨rfl, hb5⟩; have hown5 := own_below hown' hb5; have hbw5 := hbw'.trans (hb5.mono hbw'.size)))
                  go_roundg g'
                  case measure => omega
                  case rel =>
                    refine ⟨i + 2, out ++ [(escB E).toUInt8], congrArg (Value.int .i64) (by omega), ?_, (hbw5.alloc hbw5.size _).grown hgrow3 (by have := hbw5.size; simp; omega) (own_lt hown5), htx, by omega, by omega, by simp; omega, by omega⟩
                    rw [bytesV_snoc, List.length_append, hb]
                    exact hown3
                | false =>
                  have h2 : escB E = 0 := Classical.byContradiction fun h => (heb.1.1 h).elim (fun e => by rw [hbk] at e; cases e) h39
                  rw [if_pos h2] at htx
                  subst htx
                  simp only [hbk] at cB
                  clear heb h2 he256 hb
                  go_wp2
                  go_region
                  all_goals go_wp2_with (go_at_call 56; refine (cB _).mono ?_; rintro e w5 ⟨rfl, hb5⟩)
                  all_goals go_ret2
                  all_goals exact ⟨rfl, hbw'.trans (hb5.mono hbw'.size)⟩
            · have hl2I : ¬ (i : Int) + 1 < (s.size : Int) := by omega
              rw [atB_out hl2, if_pos (by decide)] at htx
              subst htx
              go_wp2
              go_region
              all_goals go_wp2
              all_goals go_ret2
              all_goals exact ⟨rfl, hbw'⟩
          · have c3I : ¬ (s[i].toNat : Int) = 92 := by omega
            rw [if_neg c3] at htx
            have hb : ((s[i].toNat).toUInt8).toNat = s[i].toNat := by simp
            go_wp2
            go_region
            all_goals go_wp2_with (at_builtin; refine wpList_append_own _ rfl (.tmp 55) (.tmp 57) 51 rfl w.heap.size 5 i0 (.int .u8 0) 1 1 Tryd.underlying51 hi hz0 hz1 hz2 rfl (by decide) u6 out.length (bytesV out) ?_ ?_ ⟨wr.heap.size, 0, none⟩ 1 1 [.int .u8 (s[i].toNat : Int)] ?_ ?_ ?_ ?_ ?_ ?_ ?_ ?_; exact rfl; exact hownA _; exact rfl; exact rfl; exact cell_oneD _ _ _; (intro u hu; simp at hu; subst hu; rfl); (unfold maxLen; omega); omega; (have := hbw.size; simp; omega); intro v3 w3 hown3 hgrow3 hnil3)
            go_roundg g'
            case measure => omega
            case rel =>
              refine ⟨i + 1, out ++ [(s[i].toNat).toUInt8], congrArg (Value.int .i64) (by omega), ?_, (hbw'.alloc hbw'.size _).grown hgrow3 (by have := hbw.size; simp; omega) (own_lt hown'), htx, by omega, by omega, by simp; omega, by omega⟩
              rw [bytesV_snoc, List.length_append, hb]
              exact hown3
    · have hltI : ¬ (i : Int) < (s.size : Int) := by omega
      have hge : (s.size : Int) ≤ (i : Int) := by omega
      have hn : txt s Q gk i out = none := by cases gk with | zero => rfl | succ g => rw [txt, if_neg hlt]
      rw [hn] at htx
      subst htx
      go_wp2
      go_region
      all_goals go_wp2
      all_goals go_ret2
      all_goals exact ⟨rfl, hbw'⟩
end
end Go.Proofs.YtcanfpppllhogaaDoor.Lx
