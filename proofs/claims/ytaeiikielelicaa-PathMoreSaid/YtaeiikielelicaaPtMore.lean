/- The walk of PathMore. -/
import Derived.Test.YtaeiikielelicaaPtHas
set_option linter.unusedVariables false
set_option linter.unusedSimpArgs false
set_option linter.unusedSectionVars false
set_option linter.deprecated false
namespace Go.Proofs.Ytaeiikielelicaa.Pt
open Go.RowKit Go.Proofs Go.Am
open Pm
set_option maxRecDepth 1000000
set_option linter.unusedVariables false
set_option linter.unusedSimpArgs false
noncomputable section
theorem g25_sub {gs ms : List Int} (h : gs.length + ms.length ≤ 25) : ∀ t ∈ G25 gs, t ∈ G25 (gs ++ ms) := fun t ht => by
  unfold G25 at ht ⊢
  rw [List.take_of_length_le (by omega)] at ht
  rw [List.take_of_length_le (by rw [List.length_append]; omega), List.map_append, List.mem_append]
  exact .inl ht
set_option maxHeartbeats 8000000 in
theorem more_law (v0 v1 v2 : Value) (gs ms ws : List Int) (w : World) (hg : NsOk w v0 gs) (hm : NsOk w v1 ms) (hw : NsOk w v2 ws) (hsg : AppSrc w v0 gs) (hsm : AppSrc w v1 ms) (hgl : gs.length ≤ 1000000000000000) (hml : ms.length ≤ 1000000000000000) (hwl : ws.length ≤ 9223372036854775807) : Calls Try.prog 8 #[v0, v1, v2] w fun e w' => e = .returned (.bool true) ∧ Below w.heap.size w w' := by
  have hkn := known_calls w
  have hwr : IntKind.i64.wrap ((gs.length : Int) + (ms.length : Int)) = (gs.length : Int) + (ms.length : Int) := by simp [IntKind.wrap, IntKind.bits, IntKind.signed]; omega
  by_cases h25 : 25 < gs.length + ms.length
  · have h25I : (25 : Int) < (gs.length : Int) + (ms.length : Int) := by omega
    obtain ⟨a0, c0, rfl, -⟩ := hg
    obtain ⟨a1, c1, rfl, -⟩ := hm
    go_enter Try.func8, Try.ntmps8
    go_wp2_with (go_at_call 10; refine hkn.mono ?_; rintro e w1 ⟨rfl, b1⟩)
    go_ret
    exact ⟨rfl, b1⟩
  · have h25I : ¬ (25 : Int) < (gs.length : Int) + (ms.length : Int) := by omega
    have hgr : ∀ w1, Below w.heap.size w w1 → Calls Try.prog 11 #[v0] w1 (SetPost w1 (G25 gs)) := fun w1 h => graph_calls v0 gs w1 (hg.below h) (by omega)
    have hgr2 : ∀ w1 v, NsOk w1 v (gs ++ ms) → Calls Try.prog 11 #[v] w1 (SetPost w1 (G25 (gs ++ ms))) := fun w1 v h => graph_calls v (gs ++ ms) w1 h (by rw [List.length_append]; omega)
    have hwy : ∀ w1, Below w.heap.size w w1 → Calls Try.prog 12 #[v2] w1 (WPost w1 (wayF ws 3 0).1) := fun w1 h => Way_calls v2 ws w1 (hw.below h) hwl
    generalize (wayF ws 3 0).1 = T at hwy
    have hsub := g25_sub (gs := gs) (ms := ms) (by omega)
    have hrg := ns_range hg
    have hrm := ns_range hm
    have hsg' : ∀ W, Below w.heap.size w W → AppSrc W v0 gs := fun W h => hsg.below hg h
    have hsm' : ∀ W, Below w.heap.size w W → AppSrc W v1 ms := fun W h => hsm.below hm h
    have hll : gs.length + ms.length ≤ 25 := by omega
    obtain ⟨a0, c0, rfl, -⟩ := hg
    obtain ⟨a1, c1, rfl, -⟩ := hm
    obtain ⟨a2, c2, rfl, -⟩ := hw
    go_enter Try.func8, Try.ntmps8
    go_wp2_with (first
      | (go_at_call 10; refine hkn.mono ?_; rintro e w1 ⟨rfl, b1⟩)
      | (go_at_call 11; refine (hgr _ b1).mono ?_; rintro e w2 ⟨gv, G, rfl, g1, g2, g3, g4⟩; have b2 := b1.trans (g4.mono b1.size); clear hgr b1)
      | (go_at_call 12; refine (hwy _ b2).mono ?_; rintro e w3 ⟨o, s, a, n, m, rfl, t1, t2⟩; have b3 := b2.trans (t2.mono b2.size); have hn := g25_len g2; have hE := ends_calls gv G T _ w3 (g3.below t2).ok (by omega) t1; unfold EndsOk at hE; clear b2)
      | (go_at_call 14; refine hE.mono ?_; rintro e w4 ⟨rv, zs, rfl, p1, p2, p3, p4⟩; have b4 := b3.trans (p4.mono b3.size); clear hE b3
         have c5 : Below w4.heap.size w4 (w4.alloc (.cells #[] 3)) := (Below.refl _ w4).alloc (Nat.le_refl _) _
         have o5 : (w4.alloc (.cells #[] 3)).ownsRow w4.heap.size 3 1 (.slice (some ⟨w4.heap.size, 0, none⟩) 0 0) 0 [] := ⟨rfl, .inr ⟨w4.heap.size, 0, #[], rfl, Nat.le_refl _, World.alloc_heap_new w4 _, Nat.le_refl _, Nat.zero_le _, rfl, rfl⟩⟩)
      | (at_builtin; refine wpl_append_ints rfl (.tmp 23) (.tmp 24) rfl w4.heap.size _ 0 [] rfl o5 _ gs rfl (hsg' _ (b4.trans (c5.mono b4.size))) (by omega) c5.size ?_; intro v6 w6 o6 r6
         have c6 : Below w4.heap.size w4 w6 := c5.grown r6 c5.size (fun k e => (own_cellsB o5 e).1)
         have o6' : w6.ownsRow w4.heap.size 3 1 v6 gs.length (gs.map (Value.int .i64)) := by simpa using o6
         clear o6 o5 r6 c5 hsg')
      | (at_builtin; refine wpl_append_ints rfl (.tmp 25) (.tmp 26) rfl w4.heap.size v6 gs.length (gs.map (Value.int .i64)) rfl o6' _ ms rfl (hsm' _ (b4.trans (c6.mono b4.size))) (by omega) c6.size ?_; intro v7 w7 o7 r7
         have c7 : Below w4.heap.size w4 w7 := c6.grown r7 c6.size (fun k e => (own_cellsB o6' e).1)
         have hN7 : NsOk w7 v7 (gs ++ ms) := own_ns (base := w4.heap.size) (by rw [List.length_append, List.map_append]; exact o7) (fun a ha => (List.mem_append.1 ha).elim (hrg a) (hrm a))
         clear o7 o6' r7 c6 hsm')
      | (go_at_call 11; refine (hgr2 _ _ hN7).mono ?_; rintro e w8 ⟨gv2, G2, rfl, q1, q2, q3, q4⟩; have c8 := c7.trans (q4.mono c7.size); clear hgr2 hN7 c7)
      | (go_at_call 12; refine (hwy _ (b4.trans (c8.mono b4.size))).mono ?_; rintro e w9 ⟨o2, s2, a3, n2, m2, rfl, t3, t4⟩; have c9 := c8.trans (t4.mono c8.size); have hn2 := g25_len q2; have hE2 := ends_calls gv2 G2 T _ w9 (q3.below t4).ok (by omega) t3; unfold EndsOk at hE2; clear c8)
      | (go_at_call 14; refine hE2.mono ?_; rintro e w10 ⟨rv2, zs2, rfl, u1, u2, u3, u4⟩; have c10 := c9.trans (u4.mono c9.size); clear hE2 c9))
    have hss : ∀ p ∈ zs, p ∈ zs2 := fun p hp => (u2 p).2 (rel_mono (fun t ht => (q1 t).2 (hsub t ((g1 t).1 ht))) T p ((p2 p).1 hp))
    have hlen := in2_len (T := termsL G) (fun p hp => inT_rel G T p ((p2 p).1 hp)) p1 (by rw [termsL_len]; omega)
    have hlen2 := in2_len (T := termsL G2) (fun p hp => inT_rel G2 T p ((u2 p).1 hp)) u1 (by rw [termsL_len]; omega)
    have hle := p1.nodup.length_le_of_subset hss
    have hleI : (zs.length : Int) ≤ (zs2.length : Int) := by omega
    have hrow := p3.below c10
    have b10 := b4.trans (c10.mono b4.size)
    obtain ⟨adz, cz, rfl, -⟩ := hrow.view
    obtain ⟨adz2, cz2, rfl, -⟩ := u3.view
    clear hwy hkn g1 g2 g3 g4 t1 t2 p2 p3 p4 q1 q2 q3 q4 t3 t4 u2 u4 c10 b4 hsub hrg hrm p1 u1
    go_wp2
    go_loopg [9] (zs.length + 1) (fun gf ii wx => ∃ (j : Nat), ii = .int .i64 (j : Int) ∧ j ≤ zs.length ∧ Below w10.heap.size w10 wx ∧ zs.length < gf + j)
    case atStart => exact ⟨0, rfl, by omega, Below.refl _ _, by omega⟩
    case round =>
      obtain ⟨j, rfl, hj, hbw, hfu⟩ := hrel
      by_cases hlt : j < zs.length
      · have hltI : (j : Int) < (zs.length : Int) := by omega
        obtain ⟨g', rfl⟩ : ∃ g', gk = g' + 1 := ⟨gk - 1, by omega⟩
        obtain ⟨⟨x, y⟩, hq⟩ : ∃ q, zs[j]? = some q := ⟨zs[j], List.getElem?_eq_getElem hlt⟩
        have hin : decide ((x, y) ∈ zs2) = true := decide_eq_true (hss _ (List.mem_of_getElem? hq))
        have hhas : ∀ W, Below w10.heap.size w10 W → Calls Try.prog 21 #[.slice adz2 zs2.length cz2, encT x, encT y] W fun e w' => e = .returned (.bool true) ∧ Below W.heap.size W w' := fun W h => (has_calls _ zs2 x y W ((u3.below h).low (Nat.zero_le _)) hlen2).mono fun e w' h => by rw [hin] at h; exact h
        clear hin
        dsimp only [encT] at hhas
        obtain ⟨gz, rfl, -⟩ := view_at (hrow.below hbw) hq
        have hcell : ∀ W, Below w10.heap.size w10 W → (W.cell? ⟨gz, j * 8, none⟩ = some (.int .i64 x.kind) ∧ W.cell? ⟨gz, j * 8 + 1, none⟩ = some (.string x.s) ∧ W.cell? ⟨gz, j * 8 + 2, none⟩ = some (.string x.lang) ∧ W.cell? ⟨gz, j * 8 + 3, none⟩ = some (.string x.ty) ∧ W.cell? ⟨gz, j * 8 + 4, none⟩ = some (.int .i64 y.kind) ∧ W.cell? ⟨gz, j * 8 + 5, none⟩ = some (.string y.s) ∧ W.cell? ⟨gz, j * 8 + 6, none⟩ = some (.string y.lang) ∧ W.cell? ⟨gz, j * 8 + 7, none⟩ = some (.string y.ty)) := fun W hW => by
          obtain ⟨_, e, a0, a1, a2, a3, a4, a5, a6, a7⟩ := view_at (hrow.below hW) hq
          cases e
          exact ⟨a0, a1, a2, a3, a4, a5, a6, a7⟩
        have hS0 := hcell _ hbw.drew
        clear hq
        go_wp2
        go_region_held3 (fun W => W.cell? ⟨gz, j * 8, none⟩ = some (.int .i64 x.kind) ∧ W.cell? ⟨gz, j * 8 + 1, none⟩ = some (.string x.s) ∧ W.cell? ⟨gz, j * 8 + 2, none⟩ = some (.string x.lang) ∧ W.cell? ⟨gz, j * 8 + 3, none⟩ = some (.string x.ty) ∧ W.cell? ⟨gz, j * 8 + 4, none⟩ = some (.int .i64 y.kind) ∧ W.cell? ⟨gz, j * 8 + 5, none⟩ = some (.string y.s) ∧ W.cell? ⟨gz, j * 8 + 6, none⟩ = some (.string y.lang) ∧ W.cell? ⟨gz, j * 8 + 7, none⟩ = some (.string y.ty)) (first | exact hS0 | exact hS1)
          (first
          | (go_at_call 21; refine (hhas _ hbw.drew).mono ?_; rintro e w11 ⟨rfl, k1⟩; have hb2 := hbw.drew.trans (k1.mono hbw.drew.size); have hS1 := hcell w11 hb2))
        all_goals
          clear hS0 hS1 hcell hhas
          go_wp2
          go_roundg g'
          case measure => omega
          case rel => exact ⟨j + 1, congrArg (Value.int .i64) (by omega), by omega, hb2, by omega⟩
      · have hltI : ¬ (j : Int) < (zs.length : Int) := by omega
        go_wp2
        go_ret
        exact ⟨rfl, b10.trans (hbw.mono b10.size)⟩
end
end Go.Proofs.Ytaeiikielelicaa.Pt
