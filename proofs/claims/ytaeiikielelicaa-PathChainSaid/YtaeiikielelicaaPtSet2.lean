/- The reference's Set: the walk. -/
import Derived.Test.YtaeiikielelicaaPtSet
set_option linter.unusedVariables false
set_option linter.unusedSimpArgs false
set_option linter.unusedSectionVars false
set_option linter.deprecated false
namespace Go.Proofs.Ytaeiikielelicaa.Pt
open Go.RowKit Go.Proofs Go.Am
open Pm
set_option maxRecDepth 1000000
set_option linter.unusedVariables false
set_option linter.unusedSimpArgs false
noncomputable section
theorem set_mid {w wq w2 w4 : World} {B g2 : Nat} {v0 : Value} {l : List T3} {ob : Obj} (hB : B ≤ w.heap.size) (hbw : Below B w wq) (hrow : RowT B wq v0 l) (hgrow : (wq.alloc ob).grownBy w2 v0.ownBlock) (q0 : B ≤ g2) (hgw4 : w2.drew.grownBy w4 (some g2)) : Below B w w4 := by
  have h1 : Below B w (wq.alloc ob) := hbw.alloc (Nat.le_trans hB hbw.size) ob
  have h2 : Below B w w2 := h1.grown hgrow (Nat.le_trans hB h1.size) (fun k e => (own_cellsB hrow e).1)
  exact h2.drew.grown hgw4 (Nat.le_trans hB h2.size) (fun k e => by cases e; exact q0)
def SetPost (w : World) (G : List T3) (e : Ending) (w' : World) : Prop := ∃ (v' : Value) (G' : List T3), e = .returned v' ∧ (∀ t, t ∈ G' ↔ t ∈ G) ∧ G'.length ≤ G.length ∧ RowT w.heap.size w' v' G' ∧ Below w.heap.size w w'
theorem SetPost.mk {w w' : World} {G : List T3} {v' : Value} (G' : List T3) (h1 : ∀ t, t ∈ G' ↔ t ∈ G) (h2 : G'.length ≤ G.length) (h3 : RowT w.heap.size w' v' G') (h4 : Below w.heap.size w w') : SetPost w G (.returned v') w' := ⟨v', G', rfl, h1, h2, h3, h4⟩
set_option maxHeartbeats 2000000 in
theorem set_calls (v : Value) (G : List T3) (w : World) (hG : GOk w v G) (hn : G.length ≤ 500) : Calls Try.prog 24 #[v] w (SetPost w G) := by
  obtain ⟨i0, hi, hz0, hz1, hz2⟩ := info_parts info43
  obtain ⟨ad, cap, rfl, -⟩ := gview hG
  have hrow0 : RowT w.heap.size w (.slice none 0 0) [] := ⟨rfl, .inl ⟨rfl, rfl⟩⟩
  go_enter Try.func24, Try.ntmps24
  go_wp2
  go_loopg [3, 4] (G.length + 1) (fun gf l i wx => ∃ (j : Nat) (lc : List T3), i = .int .i64 (j : Int) ∧ j ≤ G.length ∧ RowT w.heap.size wx l lc ∧ lc.length ≤ j ∧ (∀ t, t ∈ lc ↔ t ∈ G.take j) ∧ Below w.heap.size w wx ∧ G.length < gf + j)
  case atStart => exact ⟨0, [], rfl, by omega, hrow0, by simp, fun p => by simp, Below.refl _ _, by omega⟩
  case round =>
    clear hrow0
    obtain ⟨j, lc, rfl, hj, hrow, hlen, hmem, hbw, hfu⟩ := hrel
    by_cases hlt : j < G.length
    · have hltI : (j : Int) < (G.length : Int) := by omega
      obtain ⟨g', rfl⟩ : ∃ g', gk = g' + 1 := ⟨gk - 1, by omega⟩
      obtain ⟨t, ht⟩ : ∃ t, G[j]? = some t := ⟨G[j], List.getElem?_eq_getElem hlt⟩
      have htk : G.take (j + 1) = G.take j ++ [t] := by rw [List.take_add_one, ht]; rfl
      obtain ⟨adl, cl, rfl, -⟩ := gview hrow.ok
      go_wp2
      go_loopg [5] (lc.length + 1) (fun gf i wx => ∃ (k : Nat), i = .int .i64 (k : Int) ∧ k ≤ lc.length ∧ RowT w.heap.size wx (.slice adl lc.length cl) lc ∧ Below w.heap.size w wx ∧ k < gf)
      case atStart => exact ⟨lc.length, rfl, Nat.le_refl _, hrow, hbw, by omega⟩
      case round =>
        clear hrow hbw
        obtain ⟨k, rfl, hk, hrow, hbw, hfk⟩ := hrel
        obtain ⟨gb, rfl, k0, k1, k2, k3, k4, k5, k6, k7, k8, k9, k10, k11⟩ := gview_at (hG.below hbw) ht
        by_cases hk0 : 0 < k
        · have hkI : (0 : Int) < (k : Int) := by omega
          obtain ⟨m, hm, hmk, hmk2⟩ : ∃ m : Nat, (k : Int) - 1 = (m : Int) ∧ m < k ∧ k ≤ m + 1 := ⟨k - 1, by omega, by omega, by omega⟩
          have hwm : IntKind.i64.wrap ((k : Int) - 1) = (m : Int) := by rw [hm]; unfold IntKind.wrap; simp [IntKind.bits, IntKind.signed]; omega
          have hwm2 : IntKind.i64.wrap (m : Int) = (m : Int) := by unfold IntKind.wrap; simp [IntKind.bits, IntKind.signed]; omega
          have hml : m < lc.length := by omega
          have hmI : (m : Int) < (lc.length : Int) := by omega
          obtain ⟨u, hu⟩ : ∃ u, lc[m]? = some u := ⟨lc[m], List.getElem?_eq_getElem hml⟩
          obtain ⟨gl, rfl, m0, m1, m2, m3, m4, m5, m6, m7, m8, m9, m10, m11⟩ := gview_at hrow.ok hu
          have hle : ∀ W, Calls Try.prog 41 #[.agg #[.int .i64 t.1.kind, .string t.1.s, .string t.1.lang, .string t.1.ty, .int .i64 t.2.1.kind, .string t.2.1.s, .string t.2.1.lang, .string t.2.1.ty, .int .i64 t.2.2.kind, .string t.2.2.s, .string t.2.2.lang, .string t.2.2.ty], .agg #[.int .i64 u.1.kind, .string u.1.s, .string u.1.lang, .string u.1.ty, .int .i64 u.2.1.kind, .string u.2.1.s, .string u.2.1.lang, .string u.2.1.ty, .int .i64 u.2.2.kind, .string u.2.2.s, .string u.2.2.lang, .string u.2.2.ty]] W (BoolPost W) := less3_calls t u
          obtain ⟨g3, rfl⟩ : ∃ g3, gk = g3 + 1 := ⟨gk - 1, by omega⟩
          have hcell : ∀ W, Below wr.heap.size wr W → (W.cell? ⟨gb, j * 12, none⟩ = some (.int .i64 t.1.kind) ∧ W.cell? ⟨gb, j * 12 + 1, none⟩ = some (.string t.1.s) ∧ W.cell? ⟨gb, j * 12 + 2, none⟩ = some (.string t.1.lang) ∧ W.cell? ⟨gb, j * 12 + 3, none⟩ = some (.string t.1.ty) ∧ W.cell? ⟨gb, j * 12 + 4, none⟩ = some (.int .i64 t.2.1.kind) ∧ W.cell? ⟨gb, j * 12 + 5, none⟩ = some (.string t.2.1.s) ∧ W.cell? ⟨gb, j * 12 + 6, none⟩ = some (.string t.2.1.lang) ∧ W.cell? ⟨gb, j * 12 + 7, none⟩ = some (.string t.2.1.ty) ∧ W.cell? ⟨gb, j * 12 + 8, none⟩ = some (.int .i64 t.2.2.kind) ∧ W.cell? ⟨gb, j * 12 + 9, none⟩ = some (.string t.2.2.s) ∧ W.cell? ⟨gb, j * 12 + 10, none⟩ = some (.string t.2.2.lang) ∧ W.cell? ⟨gb, j * 12 + 11, none⟩ = some (.string t.2.2.ty) ∧ W.cell? ⟨gl, m * 12, none⟩ = some (.int .i64 u.1.kind) ∧ W.cell? ⟨gl, m * 12 + 1, none⟩ = some (.string u.1.s) ∧ W.cell? ⟨gl, m * 12 + 2, none⟩ = some (.string u.1.lang) ∧ W.cell? ⟨gl, m * 12 + 3, none⟩ = some (.string u.1.ty) ∧ W.cell? ⟨gl, m * 12 + 4, none⟩ = some (.int .i64 u.2.1.kind) ∧ W.cell? ⟨gl, m * 12 + 5, none⟩ = some (.string u.2.1.s) ∧ W.cell? ⟨gl, m * 12 + 6, none⟩ = some (.string u.2.1.lang) ∧ W.cell? ⟨gl, m * 12 + 7, none⟩ = some (.string u.2.1.ty) ∧ W.cell? ⟨gl, m * 12 + 8, none⟩ = some (.int .i64 u.2.2.kind) ∧ W.cell? ⟨gl, m * 12 + 9, none⟩ = some (.string u.2.2.s) ∧ W.cell? ⟨gl, m * 12 + 10, none⟩ = some (.string u.2.2.lang) ∧ W.cell? ⟨gl, m * 12 + 11, none⟩ = some (.string u.2.2.ty)) := fun W hW => by
            obtain ⟨_, e, a0, a1, a2, a3, a4, a5, a6, a7, a8, a9, a10, a11⟩ := gview_at (hG.below (hbw.trans (hW.mono hbw.size))) ht
            cases e
            obtain ⟨_, e, c0, c1, c2, c3, c4, c5, c6, c7, c8, c9, c10, c11⟩ := gview_at (hrow.below hW).ok hu
            cases e
            exact ⟨a0, a1, a2, a3, a4, a5, a6, a7, a8, a9, a10, a11, c0, c1, c2, c3, c4, c5, c6, c7, c8, c9, c10, c11⟩
          have hS0 := hcell wr.drew (Below.refl _ wr).drew
          clear k0 k1 k2 k3 k4 k5 k6 k7 k8 k9 k10 k11 m0 m1 m2 m3 m4 m5 m6 m7 m8 m9 m10 m11
          go_wp2
          go_region_held3 (fun W => W.cell? ⟨gb, j * 12, none⟩ = some (.int .i64 t.1.kind) ∧ W.cell? ⟨gb, j * 12 + 1, none⟩ = some (.string t.1.s) ∧ W.cell? ⟨gb, j * 12 + 2, none⟩ = some (.string t.1.lang) ∧ W.cell? ⟨gb, j * 12 + 3, none⟩ = some (.string t.1.ty) ∧ W.cell? ⟨gb, j * 12 + 4, none⟩ = some (.int .i64 t.2.1.kind) ∧ W.cell? ⟨gb, j * 12 + 5, none⟩ = some (.string t.2.1.s) ∧ W.cell? ⟨gb, j * 12 + 6, none⟩ = some (.string t.2.1.lang) ∧ W.cell? ⟨gb, j * 12 + 7, none⟩ = some (.string t.2.1.ty) ∧ W.cell? ⟨gb, j * 12 + 8, none⟩ = some (.int .i64 t.2.2.kind) ∧ W.cell? ⟨gb, j * 12 + 9, none⟩ = some (.string t.2.2.s) ∧ W.cell? ⟨gb, j * 12 + 10, none⟩ = some (.string t.2.2.lang) ∧ W.cell? ⟨gb, j * 12 + 11, none⟩ = some (.string t.2.2.ty) ∧ W.cell? ⟨gl, m * 12, none⟩ = some (.int .i64 u.1.kind) ∧ W.cell? ⟨gl, m * 12 + 1, none⟩ = some (.string u.1.s) ∧ W.cell? ⟨gl, m * 12 + 2, none⟩ = some (.string u.1.lang) ∧ W.cell? ⟨gl, m * 12 + 3, none⟩ = some (.string u.1.ty) ∧ W.cell? ⟨gl, m * 12 + 4, none⟩ = some (.int .i64 u.2.1.kind) ∧ W.cell? ⟨gl, m * 12 + 5, none⟩ = some (.string u.2.1.s) ∧ W.cell? ⟨gl, m * 12 + 6, none⟩ = some (.string u.2.1.lang) ∧ W.cell? ⟨gl, m * 12 + 7, none⟩ = some (.string u.2.1.ty) ∧ W.cell? ⟨gl, m * 12 + 8, none⟩ = some (.int .i64 u.2.2.kind) ∧ W.cell? ⟨gl, m * 12 + 9, none⟩ = some (.string u.2.2.s) ∧ W.cell? ⟨gl, m * 12 + 10, none⟩ = some (.string u.2.2.lang) ∧ W.cell? ⟨gl, m * 12 + 11, none⟩ = some (.string u.2.2.ty)) (first | exact hS0 | exact hS1)
            (first
            | (go_at_call 41; refine (hle _).mono ?_; rintro e w1 ⟨b, rfl, h1⟩; have hb1 : Below wr.heap.size wr w1 := (Below.refl _ wr).drew.trans h1; have hS1 := hcell w1 hb1))
          all_goals
            clear hcell hS0 hS1
            cases b
            · have hrow1 := hrow.below hb1
              have hbw1 := hbw.trans (hb1.mono hbw.size)
              have hbq : ∀ n, Below w.heap.size w (w1.drewN n) := fun n => ⟨hbw1.os, hbw1.tape, hbw1.output, hbw1.size, hbw1.block⟩
              have hrq : ∀ n, RowT w.heap.size (w1.drewN n) (.slice (some ⟨gl, 0, none⟩) lc.length cl) lc := fun n => hrow1
              have hs1 := hbw1.size
              obtain ⟨_, eg, k0, k1, k2, k3, k4, k5, k6, k7, k8, k9, k10, k11⟩ := gview_at (hG.below hbw1) ht
              cases eg
              obtain ⟨_, eg, m0, m1, m2, m3, m4, m5, m6, m7, m8, m9, m10, m11⟩ := gview_at hrow1.ok hu
              cases eg
              have heq := fun W => eqTr_run u t W
              unfold encTr at heq
              by_cases hut : u = t
              · simp only [hut, decide_true] at heq
                go_wp2
                go_quiet (fail)
                go_wp2
                go_roundg g'
                case measure => omega
                case rel =>
                  refine ⟨j + 1, lc, congrArg (Value.int .i64) (by omega), by omega, hrq _, by omega, fun q => ?_, hbq _, by omega⟩
                  rw [hmem, htk, List.mem_append, List.mem_singleton]
                  exact ⟨.inl, fun h => h.elim id (fun e => by rw [e, ← hut]; exact (hmem u).1 (List.mem_of_getElem? hu))⟩
              · simp only [hut, decide_false] at heq
                go_wp2
                go_quiet (fail)
                clear heq k0 k1 k2 k3 k4 k5 k6 k7 k8 k9 k10 k11 m0 m1 m2 m3 m4 m5 m6 m7 m8 m9 m10 m11
                go_wp2_with (at_builtin; refine wpList_append_own_at _ rfl (.tmp 44) (.tmp 46) 24 rfl w.heap.size 43 i0 _ 12 168 und24 hi hz0 hz1 hz2 rfl (by decide) _ lc.length (lc.flatMap cTr) rfl (World.ownsRow.alloc (w := w1.drewN _) (hrq _) _) ⟨w1.heap.size, 0, none⟩ 1 1 [.int .i64 0, .string ⟨#[]⟩, .string ⟨#[]⟩, .string ⟨#[]⟩, .int .i64 0, .string ⟨#[]⟩, .string ⟨#[]⟩, .string ⟨#[]⟩, .int .i64 0, .string ⟨#[]⟩, .string ⟨#[]⟩, .string ⟨#[]⟩] rfl rfl (cell_new _ _ _) (by intro v hv; simp only [List.mem_cons, List.not_mem_nil, or_false] at hv; rcases hv with rfl | rfl | rfl | rfl | rfl | rfl | rfl | rfl | rfl | rfl | rfl | rfl <;> rfl) (by unfold maxLen; omega) (by omega) (by simp; omega) ?_; intro v' w2 hown' hgrow hnil hat; obtain ⟨g2, cap2, cur2, rfl, q0, q1, q2, q3, q4, q5⟩ := row_shapeT hown')
                have hil2 : k ≤ lc.length + 1 := by omega
                have hwi : IntKind.i64.wrap ((k : Int) + 1) = ((k + 1 : Nat) : Int) := by unfold IntKind.wrap; simp [IntKind.bits, IntKind.signed]; omega
                have hc1 : ((k + 1 : Nat) : Int) ≤ ((lc.length + 1 : Nat) : Int) := by omega
                have hc3 : (k + 1) ≤ lc.length + 1 := by omega
                have hc5 : ¬ cap2 = k := by omega
                have hc6 : (0 : Int) ≤ (k : Int) + 1 := by omega
                have hc7 : k ≤ lc.length := by omega
                have hc8 : (k : Int) ≤ (lc.length : Int) + 1 := by omega
                have z1 : w2.drew.heap[g2]? = some (.cells cur2.toList.toArray 43 (0, 0)) := by rw [Array.toArray_toList]; exact q1
                have z2 := drop_lenT hc7
                have z3 := copy_srcT (i := k) q1 q5
                have z4 := copy_fitT q4 q2 hc7
                have z5 := drop_oneT lc k
                by_cases hcc : cap2 = k + 1
                · have hkn : lc.length - k = 0 := by omega
                  have z6 : ¬ 0 < ((lc.drop k).flatMap cTr).length := by rw [z2, hkn]; simp
                  go_region_law (refine step_copyK (P := Try.prog) 12 (by decide) ?_ (.tmp 51) (.tmp 54) 24 24 ?_ 43 und24 sz43 (some ⟨g2, 0, none⟩) (some ⟨g2, k * 12, none⟩) (lc.length - k) (cap2 - (k + 1)) (lc.length + 1 - k) (cap2 - k) ?_ ?_ g2 ((k + 1) * 12) cur2.toList 43 z1 ((lc.drop k).flatMap cTr) z2 (fun h => absurd h z6) z4 z5 ?_; exact rfl; exact rfl; go_simp; go_simp; intro w4 hw4 hgw4)
                  all_goals
                    have hb4 := set_mid (Nat.le_refl _) (hbq _) (hrq _) hgrow q0 hgw4
                    obtain ⟨_, eg, a0, a1, a2, a3, a4, a5, a6, a7, a8, a9, a10, a11⟩ := gview_at (hG.below hb4) ht
                    cases eg
                    have hst := run_storeCells_at Try.prog g2 (k * 12) 43 [.int .i64 t.1.kind, .string t.1.s, .string t.1.lang, .string t.1.ty, .int .i64 t.2.1.kind, .string t.2.1.s, .string t.2.1.lang, .string t.2.1.ty, .int .i64 t.2.2.kind, .string t.2.2.s, .string t.2.2.lang, .string t.2.2.ty] 0 _ w4 hw4.out (by rw [List.size_toArray, length_splice _ _ _ z4]; simp; omega) (oneTr t)
                    have hend := set_end (t := t) hc7 (Nat.le_refl _) (hbq _) (hrq _) hgrow q0 q1 q2 q3 q4 q5 hw4 hgw4
                    obtain ⟨W5, hW5⟩ : ∃ W5, w4.setRow g2 ((splice cur2.toList ((k + 1) * 12) ((lc.drop k).flatMap cTr)).take (k * 12) ++ cTr t ++ (splice cur2.toList ((k + 1) * 12) ((lc.drop k).flatMap cTr)).drop (k * 12 + 12)).toArray = W5 := ⟨_, rfl⟩
                    rw [hW5] at hend
                    replace hst := hst.trans (congrArg (Result.ok ()) hW5)
                    obtain ⟨e4, e5⟩ := hend
                    have hfm := fun q => mem_cut (l := lc) (t := t) k q
                    have hfl : (lc.take k ++ t :: lc.drop k).length = lc.length + 1 := by simp; omega
                    obtain ⟨L2, hL2⟩ : ∃ L2, lc.take k ++ t :: lc.drop k = L2 := ⟨_, rfl⟩
                    rw [hL2] at e4 hfm hfl
                    clear hgrow hnil hown' hgw4 hw4 hW5 z1 z2 z3 z4 z5 hat q5 hL2
                    go_wp2_with (refine wpl_storeK _ rfl 43 (.tmp 62) (.tmp 61) rfl rfl ⟨g2, k * 12, none⟩ rfl (.agg #[.int .i64 t.1.kind, .string t.1.s, .string t.1.lang, .string t.1.ty, .int .i64 t.2.1.kind, .string t.2.1.s, .string t.2.1.lang, .string t.2.1.ty, .int .i64 t.2.2.kind, .string t.2.2.s, .string t.2.2.lang, .string t.2.2.ty]) rfl 12 sz43 rfl _ hst ?_)
                    go_roundg g'
                    case measure => omega
                    case rel =>
                      subst hcc
                      exact ⟨j + 1, L2, congrArg (Value.int .i64) (by omega), by omega, e4, by omega, fun q => by rw [hfm, hmem, htk, List.mem_append, List.mem_singleton]; exact Or.comm, e5, by omega⟩
                · have hcc2 : ¬ k + 1 = cap2 := fun e => hcc e.symm
                  go_region_law (refine step_copyK (P := Try.prog) 12 (by decide) ?_ (.tmp 51) (.tmp 54) 24 24 ?_ 43 und24 sz43 (some ⟨g2, (k + 1) * 12, none⟩) (some ⟨g2, k * 12, none⟩) (lc.length - k) (cap2 - (k + 1)) (lc.length + 1 - k) (cap2 - k) ?_ ?_ g2 ((k + 1) * 12) cur2.toList 43 z1 ((lc.drop k).flatMap cTr) z2 (fun _ => ⟨rfl, ⟨g2, k * 12, none⟩, rfl, z3⟩) z4 z5 ?_; exact rfl; exact rfl; go_simp; go_simp; intro w4 hw4 hgw4)
                  all_goals
                    have hb4 := set_mid (Nat.le_refl _) (hbq _) (hrq _) hgrow q0 hgw4
                    obtain ⟨_, eg, a0, a1, a2, a3, a4, a5, a6, a7, a8, a9, a10, a11⟩ := gview_at (hG.below hb4) ht
                    cases eg
                    have hst := run_storeCells_at Try.prog g2 (k * 12) 43 [.int .i64 t.1.kind, .string t.1.s, .string t.1.lang, .string t.1.ty, .int .i64 t.2.1.kind, .string t.2.1.s, .string t.2.1.lang, .string t.2.1.ty, .int .i64 t.2.2.kind, .string t.2.2.s, .string t.2.2.lang, .string t.2.2.ty] 0 _ w4 hw4.out (by rw [List.size_toArray, length_splice _ _ _ z4]; simp; omega) (oneTr t)
                    have hend := set_end (t := t) hc7 (Nat.le_refl _) (hbq _) (hrq _) hgrow q0 q1 q2 q3 q4 q5 hw4 hgw4
                    obtain ⟨W5, hW5⟩ : ∃ W5, w4.setRow g2 ((splice cur2.toList ((k + 1) * 12) ((lc.drop k).flatMap cTr)).take (k * 12) ++ cTr t ++ (splice cur2.toList ((k + 1) * 12) ((lc.drop k).flatMap cTr)).drop (k * 12 + 12)).toArray = W5 := ⟨_, rfl⟩
                    rw [hW5] at hend
                    replace hst := hst.trans (congrArg (Result.ok ()) hW5)
                    obtain ⟨e4, e5⟩ := hend
                    have hfm := fun q => mem_cut (l := lc) (t := t) k q
                    have hfl : (lc.take k ++ t :: lc.drop k).length = lc.length + 1 := by simp; omega
                    obtain ⟨L2, hL2⟩ : ∃ L2, lc.take k ++ t :: lc.drop k = L2 := ⟨_, rfl⟩
                    rw [hL2] at e4 hfm hfl
                    clear hgrow hnil hown' hgw4 hw4 hW5 z1 z2 z3 z4 z5 hat q5 hL2
                    go_wp2_with (refine wpl_storeK _ rfl 43 (.tmp 62) (.tmp 61) rfl rfl ⟨g2, k * 12, none⟩ rfl (.agg #[.int .i64 t.1.kind, .string t.1.s, .string t.1.lang, .string t.1.ty, .int .i64 t.2.1.kind, .string t.2.1.s, .string t.2.1.lang, .string t.2.1.ty, .int .i64 t.2.2.kind, .string t.2.2.s, .string t.2.2.lang, .string t.2.2.ty]) rfl 12 sz43 rfl _ hst ?_)
                    go_roundg g'
                    case measure => omega
                    case rel =>
                      exact ⟨j + 1, L2, congrArg (Value.int .i64) (by omega), by omega, e4, by omega, fun q => by rw [hfm, hmem, htk, List.mem_append, List.mem_singleton]; exact Or.comm, e5, by omega⟩
            · go_wp2
              go_roundg g3
              case measure => omega
              case rel => exact ⟨m, rfl, by omega, hrow.below hb1, hbw.trans (hb1.mono hbw.size), by omega⟩
        · have hkI : ¬ (0 : Int) < (k : Int) := by omega
          have hkd : decide ((0 : Int) < (k : Int)) = false := decide_eq_false hkI
          clear k0 k1 k2 k3 k4 k5 k6 k7 k8 k9 k10 k11
          have hs1 := hbw.size
          go_wp2
          go_quiet (fail)
          go_wp2
          go_quiet (fail)
          go_wp2_with (at_builtin; refine wpList_append_own_at _ rfl (.tmp 44) (.tmp 46) 24 rfl w.heap.size 43 i0 _ 12 168 und24 hi hz0 hz1 hz2 rfl (by decide) _ lc.length (lc.flatMap cTr) rfl (by exact World.ownsRow.alloc (w := _) (by exact hrow) _) ⟨wr.heap.size, 0, none⟩ 1 1 [.int .i64 0, .string ⟨#[]⟩, .string ⟨#[]⟩, .string ⟨#[]⟩, .int .i64 0, .string ⟨#[]⟩, .string ⟨#[]⟩, .string ⟨#[]⟩, .int .i64 0, .string ⟨#[]⟩, .string ⟨#[]⟩, .string ⟨#[]⟩] rfl rfl (cell_new _ _ _) (by intro v hv; simp only [List.mem_cons, List.not_mem_nil, or_false] at hv; rcases hv with rfl | rfl | rfl | rfl | rfl | rfl | rfl | rfl | rfl | rfl | rfl | rfl <;> rfl) (by unfold maxLen; omega) (by omega) (by simp; omega) ?_; intro v' w2 hown' hgrow hnil hat; obtain ⟨g2, cap2, cur2, rfl, q0, q1, q2, q3, q4, q5⟩ := row_shapeT hown')
          have hil2 : k ≤ lc.length + 1 := by omega
          have hwi : IntKind.i64.wrap ((k : Int) + 1) = ((k + 1 : Nat) : Int) := by unfold IntKind.wrap; simp [IntKind.bits, IntKind.signed]; omega
          have hc1 : ((k + 1 : Nat) : Int) ≤ ((lc.length + 1 : Nat) : Int) := by omega
          have hc3 : (k + 1) ≤ lc.length + 1 := by omega
          have hc5 : ¬ cap2 = k := by omega
          have hc6 : (0 : Int) ≤ (k : Int) + 1 := by omega
          have hc7 : k ≤ lc.length := by omega
          have hc8 : (k : Int) ≤ (lc.length : Int) + 1 := by omega
          have z1 : w2.drew.heap[g2]? = some (.cells cur2.toList.toArray 43 (0, 0)) := by rw [Array.toArray_toList]; exact q1
          have z2 := drop_lenT hc7
          have z3 := copy_srcT (i := k) q1 q5
          have z4 := copy_fitT q4 q2 hc7
          have z5 := drop_oneT lc k
          by_cases hcc : cap2 = k + 1
          · have hkn : lc.length - k = 0 := by omega
            have z6 : ¬ 0 < ((lc.drop k).flatMap cTr).length := by rw [z2, hkn]; simp
            go_region_law (refine step_copyK (P := Try.prog) 12 (by decide) ?_ (.tmp 51) (.tmp 54) 24 24 ?_ 43 und24 sz43 (some ⟨g2, 0, none⟩) (some ⟨g2, k * 12, none⟩) (lc.length - k) (cap2 - (k + 1)) (lc.length + 1 - k) (cap2 - k) ?_ ?_ g2 ((k + 1) * 12) cur2.toList 43 z1 ((lc.drop k).flatMap cTr) z2 (fun h => absurd h z6) z4 z5 ?_; exact rfl; exact rfl; go_simp; go_simp; intro w4 hw4 hgw4)
            all_goals
              have hb4 := set_mid (Nat.le_refl _) (by exact ⟨hbw.os, hbw.tape, hbw.output, hbw.size, hbw.block⟩) (by exact hrow) hgrow q0 hgw4
              obtain ⟨_, eg, a0, a1, a2, a3, a4, a5, a6, a7, a8, a9, a10, a11⟩ := gview_at (hG.below hb4) ht
              cases eg
              have hst := run_storeCells_at Try.prog g2 (k * 12) 43 [.int .i64 t.1.kind, .string t.1.s, .string t.1.lang, .string t.1.ty, .int .i64 t.2.1.kind, .string t.2.1.s, .string t.2.1.lang, .string t.2.1.ty, .int .i64 t.2.2.kind, .string t.2.2.s, .string t.2.2.lang, .string t.2.2.ty] 0 _ w4 hw4.out (by rw [List.size_toArray, length_splice _ _ _ z4]; simp; omega) (oneTr t)
              have hend := set_end (t := t) hc7 (Nat.le_refl _) (by exact ⟨hbw.os, hbw.tape, hbw.output, hbw.size, hbw.block⟩) (by exact hrow) hgrow q0 q1 q2 q3 q4 q5 hw4 hgw4
              obtain ⟨W5, hW5⟩ : ∃ W5, w4.setRow g2 ((splice cur2.toList ((k + 1) * 12) ((lc.drop k).flatMap cTr)).take (k * 12) ++ cTr t ++ (splice cur2.toList ((k + 1) * 12) ((lc.drop k).flatMap cTr)).drop (k * 12 + 12)).toArray = W5 := ⟨_, rfl⟩
              rw [hW5] at hend
              replace hst := hst.trans (congrArg (Result.ok ()) hW5)
              obtain ⟨e4, e5⟩ := hend
              have hfm := fun q => mem_cut (l := lc) (t := t) k q
              have hfl : (lc.take k ++ t :: lc.drop k).length = lc.length + 1 := by simp; omega
              obtain ⟨L2, hL2⟩ : ∃ L2, lc.take k ++ t :: lc.drop k = L2 := ⟨_, rfl⟩
              rw [hL2] at e4 hfm hfl
              clear hgrow hnil hown' hgw4 hw4 hW5 z1 z2 z3 z4 z5 hat q5 hL2
              go_wp2_with (refine wpl_storeK _ rfl 43 (.tmp 62) (.tmp 61) rfl rfl ⟨g2, k * 12, none⟩ rfl (.agg #[.int .i64 t.1.kind, .string t.1.s, .string t.1.lang, .string t.1.ty, .int .i64 t.2.1.kind, .string t.2.1.s, .string t.2.1.lang, .string t.2.1.ty, .int .i64 t.2.2.kind, .string t.2.2.s, .string t.2.2.lang, .string t.2.2.ty]) rfl 12 sz43 rfl _ hst ?_)
              go_roundg g'
              case measure => omega
              case rel =>
                subst hcc
                exact ⟨j + 1, L2, congrArg (Value.int .i64) (by omega), by omega, e4, by omega, fun q => by rw [hfm, hmem, htk, List.mem_append, List.mem_singleton]; exact Or.comm, e5, by omega⟩
          · have hcc2 : ¬ k + 1 = cap2 := fun e => hcc e.symm
            go_region_law (refine step_copyK (P := Try.prog) 12 (by decide) ?_ (.tmp 51) (.tmp 54) 24 24 ?_ 43 und24 sz43 (some ⟨g2, (k + 1) * 12, none⟩) (some ⟨g2, k * 12, none⟩) (lc.length - k) (cap2 - (k + 1)) (lc.length + 1 - k) (cap2 - k) ?_ ?_ g2 ((k + 1) * 12) cur2.toList 43 z1 ((lc.drop k).flatMap cTr) z2 (fun _ => ⟨rfl, ⟨g2, k * 12, none⟩, rfl, z3⟩) z4 z5 ?_; exact rfl; exact rfl; go_simp; go_simp; intro w4 hw4 hgw4)
            all_goals
              have hb4 := set_mid (Nat.le_refl _) (by exact ⟨hbw.os, hbw.tape, hbw.output, hbw.size, hbw.block⟩) (by exact hrow) hgrow q0 hgw4
              obtain ⟨_, eg, a0, a1, a2, a3, a4, a5, a6, a7, a8, a9, a10, a11⟩ := gview_at (hG.below hb4) ht
              cases eg
              have hst := run_storeCells_at Try.prog g2 (k * 12) 43 [.int .i64 t.1.kind, .string t.1.s, .string t.1.lang, .string t.1.ty, .int .i64 t.2.1.kind, .string t.2.1.s, .string t.2.1.lang, .string t.2.1.ty, .int .i64 t.2.2.kind, .string t.2.2.s, .string t.2.2.lang, .string t.2.2.ty] 0 _ w4 hw4.out (by rw [List.size_toArray, length_splice _ _ _ z4]; simp; omega) (oneTr t)
              have hend := set_end (t := t) hc7 (Nat.le_refl _) (by exact ⟨hbw.os, hbw.tape, hbw.output, hbw.size, hbw.block⟩) (by exact hrow) hgrow q0 q1 q2 q3 q4 q5 hw4 hgw4
              obtain ⟨W5, hW5⟩ : ∃ W5, w4.setRow g2 ((splice cur2.toList ((k + 1) * 12) ((lc.drop k).flatMap cTr)).take (k * 12) ++ cTr t ++ (splice cur2.toList ((k + 1) * 12) ((lc.drop k).flatMap cTr)).drop (k * 12 + 12)).toArray = W5 := ⟨_, rfl⟩
              rw [hW5] at hend
              replace hst := hst.trans (congrArg (Result.ok ()) hW5)
              obtain ⟨e4, e5⟩ := hend
              have hfm := fun q => mem_cut (l := lc) (t := t) k q
              have hfl : (lc.take k ++ t :: lc.drop k).length = lc.length + 1 := by simp; omega
              obtain ⟨L2, hL2⟩ : ∃ L2, lc.take k ++ t :: lc.drop k = L2 := ⟨_, rfl⟩
              rw [hL2] at e4 hfm hfl
              clear hgrow hnil hown' hgw4 hw4 hW5 z1 z2 z3 z4 z5 hat q5 hL2
              go_wp2_with (refine wpl_storeK _ rfl 43 (.tmp 62) (.tmp 61) rfl rfl ⟨g2, k * 12, none⟩ rfl (.agg #[.int .i64 t.1.kind, .string t.1.s, .string t.1.lang, .string t.1.ty, .int .i64 t.2.1.kind, .string t.2.1.s, .string t.2.1.lang, .string t.2.1.ty, .int .i64 t.2.2.kind, .string t.2.2.s, .string t.2.2.lang, .string t.2.2.ty]) rfl 12 sz43 rfl _ hst ?_)
              go_roundg g'
              case measure => omega
              case rel =>
                exact ⟨j + 1, L2, congrArg (Value.int .i64) (by omega), by omega, e4, by omega, fun q => by rw [hfm, hmem, htk, List.mem_append, List.mem_singleton]; exact Or.comm, e5, by omega⟩
    · have hltI : ¬ (j : Int) < (G.length : Int) := by omega
      go_wp2
      go_ret
      exact SetPost.mk lc (fun t => by rw [hmem, List.take_of_length_le (by omega)]) (by omega) hrow hbw
end
end Go.Proofs.Ytaeiikielelicaa.Pt
