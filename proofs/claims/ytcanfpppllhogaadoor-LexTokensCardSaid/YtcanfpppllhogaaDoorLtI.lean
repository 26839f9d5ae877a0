/- What lex and the reference answer, function by function (LexTokens, part I). -/
import Derived.Test.YtcanfpppllhogaaDoorLtH
import Derived.Laws.ResultCell
import Derived.Laws.Concat
namespace Go.Proofs.YtcanfpppllhogaaDoor.Lx
open Go.RowKit Go.Proofs
open Go.Am (spanL)
noncomputable section

/-! ### a quoted text -/
/-- what a sign behind a backslash says; 0: nothing. -/
def escB (c : Nat) : Nat := if c = 116 then 9 else if c = 110 then 10 else if c = 114 then 13 else if c = 34 ∨ c = 39 ∨ c = 92 then c else 0
set_option maxHeartbeats 4000000 in
set_option maxRecDepth 1000000 in
theorem escaped_calls (c : Nat) (hc : c < 256) (w : World) : Calls Tryd.prog 33 #[.int .i32 (c : Int)] w fun e w' => e = .returned (.int .u8 (escB c : Nat)) ∧ w' = w := by
  unfold escB
  go_enter Tryd.func33, Tryd.ntmps33
  by_cases h1 : c = 116
  · subst h1; go_wp2; go_ret; exact ⟨rfl, rfl⟩
  by_cases h2 : c = 110
  · subst h2; go_wp2; go_ret; exact ⟨rfl, rfl⟩
  by_cases h3 : c = 114
  · subst h3; go_wp2; go_ret; exact ⟨rfl, rfl⟩
  by_cases h4 : c = 34
  · subst h4; go_wp2; go_ret; exact ⟨rfl, rfl⟩
  by_cases h5 : c = 39
  · subst h5; go_wp2; go_ret; exact ⟨rfl, rfl⟩
  by_cases h6 : c = 92
  · subst h6; go_wp2; go_ret; exact ⟨rfl, rfl⟩
  · have i1 : ¬ (c : Int) = 116 := by omega
    have i2 : ¬ (c : Int) = 110 := by omega
    have i3 : ¬ (c : Int) = 114 := by omega
    have i4 : ¬ (c : Int) = 34 := by omega
    have i5 : ¬ (c : Int) = 39 := by omega
    have i6 : ¬ (c : Int) = 92 := by omega
    rw [if_neg h1, if_neg h2, if_neg h3, if_neg (by omega)]
    go_wp2; go_ret; exact ⟨rfl, rfl⟩

theorem at_callsY (x : Nat) (s : ByteArray) (w : World) (hc : w.cell? ⟨x, 0, none⟩ = some (.string s)) (i : Int) (e : 0 ≤ i) (k : Nat) (hk : i.toNat = k) :
    Calls Tryd.prog 29 #[.pointer (some ⟨x, 0, none⟩), .int .i64 i] w fun e w' => e = .returned (.int .i32 (atB s k : Nat)) ∧ w = w' := by
  subst hk
  refine (at_callsZ x s w hc i e).mono ?_
  rintro e w' ⟨h1, h2⟩
  exact ⟨h1, h2.symm⟩
theorem cell_one (w : World) (a : Value) (t : TypeId) : ∀ j u, [a][j]? = some u → (w.alloc (.cells #[a] t)).cell? ((⟨w.heap.size, 0, none⟩ : Addr).add j) = some u := by
  intro j u hj
  match j, hj with
  | 0, hj => simp at hj; subst hj; simp [Addr.add]
  | (j + 1), hj => simp at hj
def bytesV (out : List UInt8) : List Value := out.map fun b => .int .u8 (b.toNat : Int)
theorem bytesV_snoc (out : List UInt8) (b : UInt8) : bytesV (out ++ [b]) = bytesV out ++ [.int .u8 (b.toNat : Int)] := by simp [bytesV]
theorem conv_own {w : World} {B : Nat} {v : Value} {out : List UInt8} (h : w.ownsRow B 5 1 v out.length (bytesV out)) :
    (convert 51 9 v).run Tryd.prog w = .ok (.string ⟨out.toArray⟩) w := by
  rcases h.2 with ⟨rfl, h0⟩ | ⟨g, cap, cur, rfl, _, hg, hn, _, hsz, htk⟩
  · obtain rfl := List.length_eq_zero_iff.1 h0
    exact run_convert_bytes_nil w 51 5 Tryd.underlying51 Tryd.underlying5 0 0 9 Tryd.underlying9
  · refine run_convert_bytes_back w 51 9 5 ⟨g, 0, none⟩ cap out Tryd.underlying51 Tryd.underlying5 Tryd.underlying9 fun j hj => ?_
    have h1 : cur.toList[j]? = some (.int .u8 (out[j].toNat : Int)) := by
      have := congrArg (fun l : List Value => l[j]?) htk
      simp only [Nat.mul_one, bytesV, List.getElem?_map, List.getElem?_eq_getElem hj, Option.map_some] at this
      rw [List.getElem?_take_of_lt hj] at this
      exact this
    have h2 : cur[j]? = some (.int .u8 (out[j].toNat : Int)) := by rw [← h1]; simp
    rw [Addr.add_lit]
    simp [World.cell?, hg, h2]
/-- a quoted text from a place on: what it says, and where it is over. -/
def txt (s : ByteArray) (q : Nat) : Nat → Nat → List UInt8 → Option (List UInt8 × Nat)
  | 0, _, _ => none
  | f + 1, i, out =>
    if i < s.size then
      if atB s i = q then some (out, i + 1)
      else if atB s i = 10 then none
      else if atB s i = 92 then (if escB (atB s (i + 1)) = 0 then none else txt s q f (i + 2) (out ++ [(escB (atB s (i + 1))).toUInt8]))
      else txt s q f (i + 1) (out ++ [(atB s i).toUInt8])
    else none
def textT (s : ByteArray) : Option (Tok × Nat) :=
  if atB s 0 = 34 ∨ atB s 0 = 39 then (txt s (atB s 0) s.size 1 []).map fun r => ((5, ⟨r.1.toArray⟩), r.2) else none
theorem escB_lt (c : Nat) (h : c < 256) : escB c < 256 := by unfold escB; split <;> (try split) <;> (try split) <;> (try split) <;> omega
set_option maxHeartbeats 8000000 in
set_option maxRecDepth 1000000 in
theorem text_ok : MOk 14 textT := by
  intro x s l w h hs hl h0
  have k0 := h.cell
  have hx := Nat.le_of_lt h.lt
  obtain ⟨R, hR⟩ : ∃ R, textT s = R := ⟨_, rfl⟩
  rw [hR]
  unfold textT at hR
  obtain ⟨Q, hQ⟩ : ∃ Q, atB s 0 = Q := ⟨_, rfl⟩
  rw [hQ] at hR
  obtain ⟨i0, hi, hz0, hz1, hz2⟩ := info_parts (show (Tryd.prog.info? 5).map (fun i => (i.zero, i.size, i.bytes)) = some (some (.int .u8 0), 1, 1) by kernel_rfl)
  go_enter Tryd.func14, Tryd.ntmps14
  by_cases hq : Q = 34 ∨ Q = 39
  · rw [if_pos hq] at hR
    have hQ256 : Q < 256 := hQ ▸ atB_lt s 0
    have hne : ∀ {b : Bool}, ((Q : Int) != 34 && (Q : Int) != 39) = b → b = false := by
      intro b hb
      rcases hq with rfl | rfl <;> simp at hb <;> exact hb
    go_wp2
    go_step3
    have at0 := at_callsY x s w k0 0 (by omega) 0 rfl
    rw [hQ] at at0
    rcases hq with rfl | rfl
    · go_wp2_with (go_at_call 29; refine at0.mono ?_; rintro e w2 ⟨rfl, rfl⟩)
      go_step3
      go_wp2
      go_loopg [4, 5] s.size (fun gf vo vi wx => ∃ (i : Nat) (out : List UInt8), vi = .int .i64 (i : Int) ∧ wx.ownsRow w.heap.size 5 1 vo out.length (bytesV out) ∧ Below w.heap.size w wx ∧ txt s 34 gf i out = txt s 34 s.size 1 [] ∧ 1 ≤ i ∧ i ≤ s.size ∧ out.length ≤ i ∧ s.size < gf + i)
      case atStart => exact ⟨1, [], rfl, World.ownsRow_nil _ _ _ _, Below.refl _ _, rfl, by omega, by omega, by simp, by omega⟩
      case round =>
        obtain ⟨i, out, rfl, hown, hbw, htx, hi1, hi2, hol, hfu⟩ := hrel
        have h1 := h.below hbw
        have k1 := h1.cell
        have hcv := conv_own hown
        by_cases hlt : i < s.size
        · obtain ⟨g', rfl⟩ : ∃ g', gk = g' + 1 := ⟨gk - 1, by omega⟩
          have hltI : (i : Int) < (s.size : Int) := by omega
          have hD : atB s i = s[i].toNat := atB_in hlt
          have hD256 : s[i].toNat < 256 := s[i].toNat_lt
          rw [txt, if_pos hlt, hD] at htx
          by_cases c1 : s[i].toNat = 34
          · have c1I : (s[i].toNat : Int) = 34 := by omega
            rw [if_pos c1] at htx
            rw [← htx] at hR
            go_wp2_with (go_at_call 30; refine (token_callsI x (i + 1) _ _ s l _ h1 (by omega) hl _ (by omega)).mono ?_; rintro e w3 ⟨rfl, h3, hb3⟩)
            try rw [Exit.noGoto_ret]
            go_ret
            subst hR
            exact ⟨rfl, by omega, h3, (hbw.mono hx).trans hb3⟩
          · have c1I : ¬ (s[i].toNat : Int) = 34 := by omega
            rw [if_neg c1] at htx
            by_cases c2 : s[i].toNat = 10
            · have c2I : (s[i].toNat : Int) = 10 := by omega
              rw [if_pos c2] at htx
              rw [← htx] at hR
              subst hR
              go_wp2
              try rw [Exit.noGoto_ret]
              go_ret
              exact ⟨rfl, hbw⟩
            · have c2I : ¬ (s[i].toNat : Int) = 10 := by omega
              rw [if_neg c2] at htx
              by_cases c3 : s[i].toNat = 92
              · have c3I : (s[i].toNat : Int) = 92 := by omega
                rw [if_pos c3] at htx
                obtain ⟨E, hE⟩ : ∃ E, atB s (i + 1) = E := ⟨_, rfl⟩
                have hE256 : E < 256 := hE ▸ atB_lt s (i + 1)
                rw [hE] at htx
                have at1 := at_callsY x s wr k1 ((i : Int) + 1) (by omega) (i + 1) (by omega)
                rw [hE] at at1
                have es1 := escaped_calls E hE256 wr
                by_cases c4 : escB E = 0
                · have c4I : (escB E : Int) = 0 := by omega
                  rw [if_pos c4] at htx
                  rw [← htx] at hR
                  subst hR
                  go_wp2_with (first
                    | (go_at_call 29; refine at1.mono ?_; rintro e w2 ⟨rfl, rfl⟩)
                    | (go_at_call 33; refine es1.mono ?_; rintro e w2 ⟨rfl, rfl⟩))
                  try rw [Exit.noGoto_ret]
                  go_ret
                  exact ⟨rfl, hbw⟩
                · have c4I : ¬ (escB E : Int) = 0 := by omega
                  have he256 := escB_lt E hE256
                  have hlt2 : i + 1 < s.size := by
                    by_cases hx : i + 1 < s.size
                    · exact hx
                    · rw [atB_out hx] at hE; subst hE; exact absurd rfl c4
                  rw [if_neg c4] at htx
                  have hb : ((escB E).toUInt8).toNat = escB E := by simp; omega
                  go_wp2_with (first
                    | (go_at_call 29; refine at1.mono ?_; rintro e w2 ⟨rfl, rfl⟩)
                    | (go_at_call 33; refine es1.mono ?_; rintro e w2 ⟨rfl, e2⟩; subst e2)
                    | (at_builtin; refine wpList_append_own _ rfl (.tmp 53) (.tmp 55) 51 rfl w.heap.size 5 i0 (.int .u8 0) 1 1 Tryd.underlying51 hi hz0 hz1 hz2 rfl (by decide) _ _ _ rfl (hown.alloc _) ⟨_, 0, none⟩ 1 1 [.int .u8 (escB E : Int)] rfl rfl (cell_one _ _ _) (by intro u hu; simp at hu; subst hu; rfl) (by unfold maxLen; omega) (by omega) (by have := hbw.size; simp; omega) ?_; intro v3 w3 hown3 hgrow3 hnil3))
                  go_roundg g'
                  case measure => omega
                  case rel =>
                    refine ⟨i + 2, out ++ [(escB E).toUInt8], congrArg (Value.int .i64) (by omega), ?_, (hbw.alloc hbw.size _).grown hgrow3 (by have := hbw.size; simp; omega) (own_lt hown), htx, by omega, by omega, by simp; omega, by omega⟩
                    rw [bytesV_snoc, List.length_append, hb]
                    exact hown3
              · have c3I : ¬ (s[i].toNat : Int) = 92 := by omega
                rw [if_neg c3] at htx
                have hb : ((s[i].toNat).toUInt8).toNat = s[i].toNat := by simp
                go_wp2_with (at_builtin; refine wpList_append_own _ rfl (.tmp 53) (.tmp 55) 51 rfl w.heap.size 5 i0 (.int .u8 0) 1 1 Tryd.underlying51 hi hz0 hz1 hz2 rfl (by decide) _ _ _ rfl (hown.alloc _) ⟨_, 0, none⟩ 1 1 [.int .u8 (s[i].toNat : Int)] rfl rfl (cell_one _ _ _) (by intro u hu; simp at hu; subst hu; rfl) (by unfold maxLen; omega) (by omega) (by have := hbw.size; simp; omega) ?_; intro v3 w3 hown3 hgrow3 hnil3)
                go_roundg g'
                case measure => omega
                case rel =>
                  refine ⟨i + 1, out ++ [(s[i].toNat).toUInt8], congrArg (Value.int .i64) (by omega), ?_, (hbw.alloc hbw.size _).grown hgrow3 (by have := hbw.size; simp; omega) (own_lt hown), htx, by omega, by omega, by simp; omega, by omega⟩
                  rw [bytesV_snoc, List.length_append, hb]
                  exact hown3
        · have hltI : ¬ (i : Int) < (s.size : Int) := by omega
          have hn : txt s 34 gk i out = none := by cases gk with | zero => rfl | succ g => rw [txt, if_neg hlt]
          rw [hn] at htx
          rw [← htx] at hR
          subst hR
          go_wp2
          try rw [Exit.noGoto_ret]
          go_ret
          exact ⟨rfl, hbw⟩
    · go_wp2_with (go_at_call 29; refine at0.mono ?_; rintro e w2 ⟨rfl, rfl⟩)
      go_step3
      go_wp2
      go_loopg [4, 5] s.size (fun gf vo vi wx => ∃ (i : Nat) (out : List UInt8), vi = .int .i64 (i : Int) ∧ wx.ownsRow w.heap.size 5 1 vo out.length (bytesV out) ∧ Below w.heap.size w wx ∧ txt s 39 gf i out = txt s 39 s.size 1 [] ∧ 1 ≤ i ∧ i ≤ s.size ∧ out.length ≤ i ∧ s.size < gf + i)
      case atStart => exact ⟨1, [], rfl, World.ownsRow_nil _ _ _ _, Below.refl _ _, rfl, by omega, by omega, by simp, by omega⟩
      case round =>
        obtain ⟨i, out, rfl, hown, hbw, htx, hi1, hi2, hol, hfu⟩ := hrel
        have h1 := h.below hbw
        have k1 := h1.cell
        have hcv := conv_own hown
        by_cases hlt : i < s.size
        · obtain ⟨g', rfl⟩ : ∃ g', gk = g' + 1 := ⟨gk - 1, by omega⟩
          have hltI : (i : Int) < (s.size : Int) := by omega
          have hD : atB s i = s[i].toNat := atB_in hlt
          have hD256 : s[i].toNat < 256 := s[i].toNat_lt
          rw [txt, if_pos hlt, hD] at htx
          by_cases c1 : s[i].toNat = 39
          · have c1I : (s[i].toNat : Int) = 39 := by omega
            rw [if_pos c1] at htx
            rw [← htx] at hR
            go_wp2_with (go_at_call 30; refine (token_callsI x (i + 1) _ _ s l _ h1 (by omega) hl _ (by omega)).mono ?_; rintro e w3 ⟨rfl, h3, hb3⟩)
            try rw [Exit.noGoto_ret]
            go_ret
            subst hR
            exact ⟨rfl, by omega, h3, (hbw.mono hx).trans hb3⟩
          · have c1I : ¬ (s[i].toNat : Int) = 39 := by omega
            rw [if_neg c1] at htx
            by_cases c2 : s[i].toNat = 10
            · have c2I : (s[i].toNat : Int) = 10 := by omega
              rw [if_pos c2] at htx
              rw [← htx] at hR
              subst hR
              go_wp2
              try rw [Exit.noGoto_ret]
              go_ret
              exact ⟨rfl, hbw⟩
            · have c2I : ¬ (s[i].toNat : Int) = 10 := by omega
              rw [if_neg c2] at htx
              by_cases c3 : s[i].toNat = 92
              · have c3I : (s[i].toNat : Int) = 92 := by omega
                rw [if_pos c3] at htx
                obtain ⟨E, hE⟩ : ∃ E, atB s (i + 1) = E := ⟨_, rfl⟩
                have hE256 : E < 256 := hE ▸ atB_lt s (i + 1)
                rw [hE] at htx
                have at1 := at_callsY x s wr k1 ((i : Int) + 1) (by omega) (i + 1) (by omega)
                rw [hE] at at1
                have es1 := escaped_calls E hE256 wr
                by_cases c4 : escB E = 0
                · have c4I : (escB E : Int) = 0 := by omega
                  rw [if_pos c4] at htx
                  rw [← htx] at hR
                  subst hR
                  go_wp2_with (first
                    | (go_at_call 29; refine at1.mono ?_; rintro e w2 ⟨rfl, rfl⟩)
                    | (go_at_call 33; refine es1.mono ?_; rintro e w2 ⟨rfl, rfl⟩))
                  try rw [Exit.noGoto_ret]
                  go_ret
                  exact ⟨rfl, hbw⟩
                · have c4I : ¬ (escB E : Int) = 0 := by omega
                  have he256 := escB_lt E hE256
                  have hlt2 : i + 1 < s.size := by
                    by_cases hx : i + 1 < s.size
                    · exact hx
                    · rw [atB_out hx] at hE; subst hE; exact absurd rfl c4
                  rw [if_neg c4] at htx
                  have hb : ((escB E).toUInt8).toNat = escB E := by simp; omega
                  go_wp2_with (first
                    | (go_at_call 29; refine at1.mono ?_; rintro e w2 ⟨rfl, rfl⟩)
                    | (go_at_call 33; refine es1.mono ?_; rintro e w2 ⟨rfl, e2⟩; subst e2)
                    | (at_builtin; refine wpList_append_own _ rfl (.tmp 53) (.tmp 55) 51 rfl w.heap.size 5 i0 (.int .u8 0) 1 1 Tryd.underlying51 hi hz0 hz1 hz2 rfl (by decide) _ _ _ rfl (hown.alloc _) ⟨_, 0, none⟩ 1 1 [.int .u8 (escB E : Int)] rfl rfl (cell_one _ _ _) (by intro u hu; simp at hu; subst hu; rfl) (by unfold maxLen; omega) (by omega) (by have := hbw.size; simp; omega) ?_; intro v3 w3 hown3 hgrow3 hnil3))
                  go_roundg g'
                  case measure => omega
                  case rel =>
                    refine ⟨i + 2, out ++ [(escB E).toUInt8], congrArg (Value.int .i64) (by omega), ?_, (hbw.alloc hbw.size _).grown hgrow3 (by have := hbw.size; simp; omega) (own_lt hown), htx, by omega, by omega, by simp; omega, by omega⟩
                    rw [bytesV_snoc, List.length_append, hb]
                    exact hown3
              · have c3I : ¬ (s[i].toNat : Int) = 92 := by omega
                rw [if_neg c3] at htx
                have hb : ((s[i].toNat).toUInt8).toNat = s[i].toNat := by simp
                go_wp2_with (at_builtin; refine wpList_append_own _ rfl (.tmp 53) (.tmp 55) 51 rfl w.heap.size 5 i0 (.int .u8 0) 1 1 Tryd.underlying51 hi hz0 hz1 hz2 rfl (by decide) _ _ _ rfl (hown.alloc _) ⟨_, 0, none⟩ 1 1 [.int .u8 (s[i].toNat : Int)] rfl rfl (cell_one _ _ _) (by intro u hu; simp at hu; subst hu; rfl) (by unfold maxLen; omega) (by omega) (by have := hbw.size; simp; omega) ?_; intro v3 w3 hown3 hgrow3 hnil3)
                go_roundg g'
                case measure => omega
                case rel =>
                  refine ⟨i + 1, out ++ [(s[i].toNat).toUInt8], congrArg (Value.int .i64) (by omega), ?_, (hbw.alloc hbw.size _).grown hgrow3 (by have := hbw.size; simp; omega) (own_lt hown), htx, by omega, by omega, by simp; omega, by omega⟩
                  rw [bytesV_snoc, List.length_append, hb]
                  exact hown3
        · have hltI : ¬ (i : Int) < (s.size : Int) := by omega
          have hn : txt s 39 gk i out = none := by cases gk with | zero => rfl | succ g => rw [txt, if_neg hlt]
          rw [hn] at htx
          rw [← htx] at hR
          subst hR
          go_wp2
          try rw [Exit.noGoto_ret]
          go_ret
          exact ⟨rfl, hbw⟩
  · rw [if_neg hq] at hR
    subst hR
    have q1 : ¬ (Q : Int) = 34 := by omega
    have q2 : ¬ (Q : Int) = 39 := by omega
    go_wp2
    go_step3
    have at0 := at_callsY x s w k0 0 (by omega) 0 rfl
    rw [hQ] at at0
    go_wp2_with (go_at_call 29; refine at0.mono ?_; rintro e w2 ⟨rfl, rfl⟩)
    · try rw [Exit.noGoto_ret]
      go_ret
      exact ⟨rfl, Below.refl _ _⟩
    · exfalso
      rename (_ = false ∨ _ = false) => hc
      rcases hc with hc | hc
      · exact absurd hc (by rw [bne_iff_ne.2 q1]; decide)
      · exact absurd hc (by rw [bne_iff_ne.2 q2]; decide)
end
end Go.Proofs.YtcanfpppllhogaaDoor.Lx
