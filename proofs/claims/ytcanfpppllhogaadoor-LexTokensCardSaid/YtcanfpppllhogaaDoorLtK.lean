/- What lex and the reference answer, function by function (LexTokens, part K). -/
import Derived.Test.YtcanfpppllhogaaDoorLtJ
import Derived.Laws.ResultCell
import Derived.Laws.Concat
namespace Go.Proofs.YtcanfpppllhogaaDoor.Lx
open Go.RowKit Go.Proofs
open Go.Am (spanL)
noncomputable section

/-! ### a row of tokens, copied -/
theorem cellsT_one (l : List Tok) : ∀ u ∈ cellsT l, u.oneCell' = true := by
  intro u hu
  simp only [cellsT, List.mem_flatMap] at hu
  obtain ⟨p, _, hu⟩ := hu
  simp only [List.mem_cons, List.not_mem_nil, or_false] at hu
  rcases hu with rfl | rfl <;> rfl
theorem own_cells {w : World} {B e size n : Nat} {g cap : Nat} {xs : List Value} (h : w.ownsRow B e size (.slice (some ⟨g, 0, none⟩) n cap) n xs) : ∀ j u, xs[j]? = some u → w.cell? ((⟨g, 0, none⟩ : Addr).add j) = some u := by
  intro j u hj
  rcases h.2 with ⟨hn, _⟩ | ⟨g', cap', cur, he, _, hg, _, _, hsz, htk⟩
  · cases hn
  · cases he
    rw [← htk] at hj
    have hlt := (List.getElem?_eq_some_iff.1 hj).1
    rw [List.length_take] at hlt
    rw [List.getElem?_take_of_lt (by omega)] at hj
    have : cur[j]? = some u := by rw [← hj]; simp
    rw [Addr.add_lit]
    simp [World.cell?, hg, this]
set_option maxHeartbeats 4000000 in
set_option maxRecDepth 1000000 in
theorem clone_calls (B : Nat) (v : Value) (l : List Tok) (w : World) (h : w.ownsRow B 35 2 v l.length (cellsT l)) (hl : l.length ≤ 1000000) :
    Calls Tryd.prog 20 #[v] w fun e w' => ∃ v', e = .returned v' ∧ w'.ownsRow w.heap.size 35 2 v' l.length (cellsT l) ∧ Below w.heap.size w w' := by
  obtain ⟨i0, hi, hz0, hz1, hz2⟩ := info_parts (show (Tryd.prog.info? 35).map (fun i => (i.zero, i.size, i.bytes)) = some (some (.agg #[.int .i64 0, .string ⟨#[]⟩]), 2, 24) by kernel_rfl)
  have q22 : ∀ (w : World) (a : Option Addr) (n c n' c' : Nat), (binOp .eql 26 (.slice a n c) (.slice none n' c')).run Tryd.prog w = .ok (.bool a.isNone) w := fun w a n c n' c' => Lib.run_eql_slice_nil w _ _ a n c n' c' Tryd.underlying26
  by_cases hv : v = .slice none 0 0
  · subst hv
    have hl0 : l.length = 0 := by
      rcases h.2 with ⟨_, h0⟩ | ⟨g, cap, cur, he, _⟩
      · exact h0
      · cases he
    obtain rfl := List.length_eq_zero_iff.1 hl0
    go_enter Tryd.func20, Tryd.ntmps20
    go_wp2
    go_ret
    exact ⟨_, rfl, World.ownsRow_nil _ _ _ _, Below.refl _ _⟩
  · obtain ⟨g, cap, rfl⟩ : ∃ g cap, v = .slice (some ⟨g, 0, none⟩) l.length cap := by
      rcases h.2 with ⟨h0, _⟩ | ⟨g, cap, cur, he, _⟩
      · exact absurd h0 hv
      · exact ⟨g, cap, he⟩
    have hcs := own_cells h
    have hone := cellsT_one l
    have hlen := cellsT_len l
    have hlt : g < w.heap.size := by
      rcases h.2 with ⟨h0, _⟩ | ⟨g', cap', cur, he, _, hg, _⟩
      · exact absurd h0 hv
      · cases he; exact (Array.getElem?_eq_some_iff.1 hg).1
    have hb0 : Below w.heap.size w (w.alloc (.cells #[] 35)) := (Below.refl _ _).alloc (Nat.le_refl _) _
    have hown0 : (w.alloc (.cells #[] 35)).ownsRow w.heap.size 35 2 (.slice (some ⟨w.heap.size, 0, none⟩) 0 0) 0 [] :=
      World.ownsRow_made w #[] 0 (Nat.le_refl _) (Nat.zero_le _) rfl
    go_enter Tryd.func20, Tryd.ntmps20
    go_wp2_with (at_builtin; refine wpList_append_own _ rfl (.tmp 5) (.tmp 6) 26 rfl w.heap.size 35 i0 (.agg #[.int .i64 0, .string ⟨#[]⟩]) 2 24 Tryd.underlying26 hi hz0 hz1 hz2 rfl (by decide) _ _ _ rfl hown0 ⟨g, 0, none⟩ l.length cap (cellsT l) rfl hlen (fun j u hj => (by rw [Addr.add_lit]; have := hcs j u hj; rw [Addr.add_lit] at this; exact (hb0.cell (p := ⟨g, 0 + j, none⟩) hlt).trans this)) hone (by unfold maxLen; omega) (by omega) (by simp) ?_; intro v3 w3 hown3 hgrow3 hnil3)
    go_ret
    refine ⟨_, rfl, ?_, hb0.grown hgrow3 (by simp) (fun k hk => by cases hk; exact Nat.le_refl _)⟩
    simpa using hown3
end
end Go.Proofs.YtcanfpppllhogaaDoor.Lx
