/- The walk of PathOrder. -/
import Derived.Test.YtaeiikielelicaaPtKnown
set_option linter.unusedVariables false
set_option linter.unusedSimpArgs false
set_option linter.unusedSectionVars false
set_option linter.deprecated false
namespace Go.Proofs.Ytaeiikielelicaa.Pt
open Go.RowKit Go.Proofs Go.Am
open Pm
set_option maxRecDepth 1000000
set_option linter.unusedVariables false
set_option linter.unusedSimpArgs false
noncomputable section
/-- does a term stand in one of the first triples? -/
def near (G : List T3) (X : Tm) (j : Nat) : Bool := decide (∃ t ∈ G.take j, t.1 = X ∨ t.2.2 = X)
theorem near_succ {G : List T3} {X : Tm} {j : Nat} {t : T3} (h : G[j]? = some t) : near G X (j + 1) = ((near G X j || decide (t.1 = X)) || decide (t.2.2 = X)) := by
  unfold near
  rw [Bool.eq_iff_iff]
  simp only [Bool.or_eq_true, decide_eq_true_eq]
  have htk : G.take (j + 1) = G.take j ++ [t] := by rw [List.take_add_one, h]; rfl
  rw [htk]
  constructor
  · rintro ⟨u, hu, e⟩
    rw [List.mem_append, List.mem_singleton] at hu
    rcases hu with hu | rfl
    · exact .inl (.inl ⟨u, hu, e⟩)
    · exact e.elim (fun e => .inl (.inr e)) .inr
  · rintro ((⟨u, hu, e⟩ | e) | e)
    · exact ⟨u, List.mem_append_left _ hu, e⟩
    · exact ⟨t, by simp, .inl e⟩
    · exact ⟨t, by simp, .inr e⟩
theorem near_all {G : List T3} {X : Tm} (h : X ∈ termsL G) : near G X G.length = true := by
  unfold near
  rw [decide_eq_true_eq, List.take_length]
  obtain ⟨t, ht, hm⟩ := List.mem_flatMap.1 h
  simp only [List.mem_cons, List.not_mem_nil, or_false] at hm
  exact ⟨t, ht, hm.imp Eq.symm Eq.symm⟩
theorem sorted_next {l : List Pr} (h : Sorted l) {k : Nat} {p q : Pr} (h1 : l[k]? = some p) (h2 : l[k + 1]? = some q) : cmpP p q < 0 := by
  unfold Sorted at h
  obtain ⟨a1, e1⟩ := List.getElem?_eq_some_iff.1 h1
  obtain ⟨a2, e2⟩ := List.getElem?_eq_some_iff.1 h2
  have := List.pairwise_iff_getElem.1 h k (k + 1) a1 a2 (by omega)
  rwa [e1, e2] at this
theorem orI_vals {a b : Int} (ha : a = -1 ∨ a = 0 ∨ a = 1) (hb : b = -1 ∨ b = 0 ∨ b = 1) : orI a b = -1 ∨ orI a b = 0 ∨ orI a b = 1 := by
  unfold orI
  split
  · exact hb
  · exact ha
theorem ordI_vals (a b : Int) : ordI a b = -1 ∨ ordI a b = 0 ∨ ordI a b = 1 := by
  unfold ordI
  split
  · exact .inl rfl
  · split
    · exact .inr (.inl rfl)
    · exact .inr (.inr rfl)
theorem ordS_vals (a b : ByteArray) : ordS a b = -1 ∨ ordS a b = 0 ∨ ordS a b = 1 := by
  unfold ordS
  split
  · exact .inl rfl
  · split
    · exact .inr (.inl rfl)
    · exact .inr (.inr rfl)
theorem cmpT_vals (a b : Tm) : cmpT a b = -1 ∨ cmpT a b = 0 ∨ cmpT a b = 1 := by
  unfold cmpT
  exact orI_vals (ordI_vals _ _) (orI_vals (ordI_vals _ _) (orI_vals (ordS_vals _ _) (orI_vals (ordS_vals _ _) (ordS_vals _ _))))
set_option maxHeartbeats 8000000 in
theorem order_law (v0 v1 : Value) (gs ws : List Int) (w : World) (hg : NsOk w v0 gs) (hw : NsOk w v1 ws) (hgl : gs.length ≤ 9223372036854775807) (hwl : ws.length ≤ 9223372036854775807) : Calls Try.prog 7 #[v0, v1] w fun e w' => e = .returned (.bool true) ∧ Below w.heap.size w w' := by
  have hkn := known_calls w
  have hgr : ∀ w1, Below w.heap.size w w1 → Calls Try.prog 11 #[v0] w1 (SetPost w1 (G25 gs)) := fun w1 h => graph_calls v0 gs w1 (hg.below h) hgl
  have hwy : ∀ w1, Below w.heap.size w w1 → Calls Try.prog 12 #[v1] w1 (WPost w1 (wayF ws 3 0).1) := fun w1 h => Way_calls v1 ws w1 (hw.below h) hwl
  generalize (wayF ws 3 0).1 = T at hwy
  obtain ⟨a0, c0, rfl, -⟩ := hg
  obtain ⟨a1, c1, rfl, -⟩ := hw
  go_enter Try.func7, Try.ntmps7
  go_wp2_with (first
    | (go_at_call 10; refine hkn.mono ?_; rintro e w1 ⟨rfl, b1⟩)
    | (go_at_call 11; refine (hgr _ b1).mono ?_; rintro e w2 ⟨gv, G, rfl, g1, g2, g3, g4⟩; have b2 := b1.trans (g4.mono b1.size))
    | (go_at_call 12; refine (hwy _ b2).mono ?_; rintro e w3 ⟨o, s, a, n, m, rfl, t1, t2⟩; have b3 := b2.trans (t2.mono b2.size); have hn := g25_len g2; have hE := ends_calls gv G T _ w3 (g3.below t2).ok (by omega) t1; unfold EndsOk at hE)
    | (go_at_call 14; refine hE.mono ?_; rintro e w4 ⟨rv, zs, rfl, p1, p2, p3, p4⟩; have b4 := b3.trans (p4.mono b3.size)))
  have hG4 : GOk w4 gv G := ((g3.below t2).below p4).ok
  have hTl : (termsL G).length ≤ 1000 := by rw [termsL_len]; omega
  have hlen := in2_len (T := termsL G) (fun p hp => inT_rel G T p ((p2 p).1 hp)) p1 hTl
  obtain ⟨adg, cg, rfl, -⟩ := gview hG4
  obtain ⟨adz, cz, rfl, -⟩ := p3.view
  clear hgr hwy hkn g1 g2 g3 g4 t1 t2 hE p4 b1 b2 b3
  go_wp2
  go_loopg [7] (zs.length + 1) (fun gf ii wx => ∃ (i : Nat), ii = .int .i64 (i : Int) ∧ i ≤ zs.length ∧ Below w4.heap.size w4 wx ∧ zs.length < gf + i)
  case atStart => exact ⟨0, rfl, by omega, Below.refl _ _, by omega⟩
  case round =>
    obtain ⟨i, rfl, hi, hbw, hfu⟩ := hrel
    by_cases hlt : i < zs.length
    · have hltI : (i : Int) < (zs.length : Int) := by omega
      obtain ⟨g', rfl⟩ : ∃ g', gk = g' + 1 := ⟨gk - 1, by omega⟩
      obtain ⟨⟨x, y⟩, hq⟩ : ∃ q, zs[i]? = some q := ⟨zs[i], List.getElem?_eq_getElem hlt⟩
      by_cases hi0 : i = 0
      · subst hi0
        go_wp2
        go_loopg [9] 3 (fun gf kk wx => ∃ (k : Nat), kk = .int .i64 (k : Int) ∧ k ≤ 2 ∧ Below w4.heap.size w4 wx ∧ 2 < gf + k)
        case atStart => exact ⟨0, rfl, by omega, hbw, by omega⟩
        case round =>
          clear hbw
          obtain ⟨k, rfl, hk, hbw, hfk⟩ := hrel
          by_cases hk2 : k < 2
          · have hkI : (k : Int) < 2 := by omega
            obtain ⟨g2, rfl⟩ : ∃ g2, gk = g2 + 1 := ⟨gk - 1, by omega⟩
            obtain ⟨X, hX, hXT⟩ : ∃ X, (∀ W, Below w4.heap.size w4 W → ∃ gz', adz = some ⟨gz', 0, none⟩ ∧ W.cell? ⟨gz', k * 4, none⟩ = some (.int .i64 X.kind) ∧ W.cell? ⟨gz', k * 4 + 1, none⟩ = some (.string X.s) ∧ W.cell? ⟨gz', k * 4 + 2, none⟩ = some (.string X.lang) ∧ W.cell? ⟨gz', k * 4 + 3, none⟩ = some (.string X.ty)) ∧ X ∈ termsL G := by
              have hin := inT_rel G T (x, y) ((p2 (x, y)).1 (List.mem_of_getElem? hq))
              match k, hk2 with
              | 0, _ => exact ⟨x, fun W hW => by
                  obtain ⟨gz, e, a0, a1, a2, a3, -⟩ := view_at (p3.below hW) hq
                  exact ⟨gz, e, a0, a1, a2, a3⟩, hin.1⟩
              | 1, _ => exact ⟨y, fun W hW => by
                  obtain ⟨gz, e, -, -, -, -, a0, a1, a2, a3⟩ := view_at (p3.below hW) hq
                  exact ⟨gz, e, a0, a1, a2, a3⟩, hin.2⟩
            go_wp2
            go_loopg [10, 11] (G.length + 1) (fun gf bb jj wx => ∃ (j : Nat), jj = .int .i64 (j : Int) ∧ j ≤ G.length ∧ bb = .bool (near G X j) ∧ Below w4.heap.size w4 wx ∧ G.length < gf + j)
            case atStart => exact ⟨0, rfl, by omega, rfl, hbw, by omega⟩
            case round =>
              clear hbw
              obtain ⟨j, rfl, hj, rfl, hbw, hfj⟩ := hrel
              by_cases hltj : j < G.length
              · have hltJ : (j : Int) < (G.length : Int) := by omega
                obtain ⟨g3, rfl⟩ : ∃ g3, gk = g3 + 1 := ⟨gk - 1, by omega⟩
                obtain ⟨t, hqt⟩ : ∃ t, G[j]? = some t := ⟨G[j], List.getElem?_eq_getElem hltj⟩
                have hnext := near_succ (X := X) hqt
                cases hne : near G X j
                · rw [hne, Bool.false_or] at hnext
                  obtain ⟨gz, e, z0, z1, z2, z3⟩ := hX _ hbw
                  cases e
                  obtain ⟨gg, rfl, m0, m1, m2, m3, m4, m5, m6, m7, m8, m9, m10, m11⟩ := gview_at (hG4.below hbw) hqt
                  have heq1 := fun W => eqT_runW t.1 X W
                  have heq2 := fun W => eqT_runW t.2.2 X W
                  dsimp only [encT] at heq1 heq2
                  clear m4 m5 m6 m7 hqt hne
                  generalize decide (t.1 = X) = b1 at heq1 hnext
                  generalize decide (t.2.2 = X) = b2 at heq2 hnext
                  cases b1
                  · cases b2
                    all_goals
                      go_wp2
                      go_quiet (fail)
                      go_wp2
                      go_roundg g3
                      case measure => omega
                      case rel => exact ⟨j + 1, congrArg (Value.int .i64) (by omega), by omega, congrArg Value.bool hnext.symm, ⟨hbw.os, hbw.tape, hbw.output, hbw.size, hbw.block⟩, by omega⟩
                  · rw [Bool.true_or] at hnext
                    go_wp2
                    go_quiet (fail)
                    go_wp2
                    go_roundg g3
                    case measure => omega
                    case rel => exact ⟨j + 1, congrArg (Value.int .i64) (by omega), by omega, congrArg Value.bool hnext.symm, ⟨hbw.os, hbw.tape, hbw.output, hbw.size, hbw.block⟩, by omega⟩
                · rw [hne, Bool.true_or, Bool.true_or] at hnext
                  clear hne
                  go_wp2
                  go_quiet (fail)
                  go_wp2
                  go_roundg g3
                  case measure => omega
                  case rel => exact ⟨j + 1, congrArg (Value.int .i64) (by omega), by omega, congrArg Value.bool hnext.symm, ⟨hbw.os, hbw.tape, hbw.output, hbw.size, hbw.block⟩, by omega⟩
              · have hltJ : ¬ (j : Int) < (G.length : Int) := by omega
                have hall : near G X j = true := by rw [show j = G.length by omega]; exact near_all hXT
                rw [hall]
                go_wp2
                go_roundg g2
                case measure => omega
                case rel => exact ⟨k + 1, congrArg (Value.int .i64) (by omega), by omega, hbw, by omega⟩
          · have hkI : ¬ (k : Int) < 2 := by omega
            go_wp2
            go_roundg g'
            case measure => omega
            case rel => exact ⟨0 + 1, congrArg (Value.int .i64) (by omega), by omega, hbw, by omega⟩
      · obtain ⟨u, rfl⟩ : ∃ u, i = u + 1 := ⟨i - 1, by omega⟩
        clear hi0
        have hkJ : (u : Int) < (zs.length : Int) := by omega
        have hj1 : (u : Int) + 1 < (zs.length : Int) := by omega
        have hj0 : (0 : Int) ≤ (u : Int) + 1 := by omega
        have hj2 : (0 : Int) ≤ ((u + 1 : Nat) : Int) := by omega
        have hpos : (0 : Int) < ((u + 1 : Nat) : Int) := by omega
        have hwr : IntKind.i64.wrap (((u + 1 : Nat) : Int) - 1) = (u : Int) := by simp [IntKind.wrap, IntKind.bits, IntKind.signed]; omega
        have hwr2 : IntKind.i64.wrap ((u : Int) + 1 - 1) = (u : Int) := by simp [IntKind.wrap, IntKind.bits, IntKind.signed]; omega
        have hwr3 : IntKind.i64.wrap (u : Int) = (u : Int) := by simp [IntKind.wrap, IntKind.bits, IntKind.signed]; omega
        obtain ⟨⟨p, q⟩, hqp⟩ : ∃ q, zs[u]? = some q := ⟨zs[u], List.getElem?_eq_getElem (by omega)⟩
        have hcmp := sorted_next p1 hqp hq
        unfold cmpP orI at hcmp
        dsimp only at hcmp
        have hc1 := fun W => rcmp_calls p x W
        have hc2 := fun W => rcmp_calls q y W
        have hcv := cmpT_vals p x
        generalize cmpT p x = c at hcmp hc1 hcv
        generalize cmpT q y = d at hcmp hc2
        dsimp only [encT] at hc1 hc2
        obtain ⟨gz, rfl, -⟩ := view_at (p3.below hbw) hqp
        have hcell : ∀ W, Below w4.heap.size w4 W → (W.cell? ⟨gz, u * 8, none⟩ = some (.int .i64 p.kind) ∧ W.cell? ⟨gz, u * 8 + 1, none⟩ = some (.string p.s) ∧ W.cell? ⟨gz, u * 8 + 2, none⟩ = some (.string p.lang) ∧ W.cell? ⟨gz, u * 8 + 3, none⟩ = some (.string p.ty) ∧ W.cell? ⟨gz, u * 8 + 4, none⟩ = some (.int .i64 q.kind) ∧ W.cell? ⟨gz, u * 8 + 5, none⟩ = some (.string q.s) ∧ W.cell? ⟨gz, u * 8 + 6, none⟩ = some (.string q.lang) ∧ W.cell? ⟨gz, u * 8 + 7, none⟩ = some (.string q.ty) ∧ W.cell? ⟨gz, (u + 1) * 8, none⟩ = some (.int .i64 x.kind) ∧ W.cell? ⟨gz, (u + 1) * 8 + 1, none⟩ = some (.string x.s) ∧ W.cell? ⟨gz, (u + 1) * 8 + 2, none⟩ = some (.string x.lang) ∧ W.cell? ⟨gz, (u + 1) * 8 + 3, none⟩ = some (.string x.ty) ∧ W.cell? ⟨gz, (u + 1) * 8 + 4, none⟩ = some (.int .i64 y.kind) ∧ W.cell? ⟨gz, (u + 1) * 8 + 5, none⟩ = some (.string y.s) ∧ W.cell? ⟨gz, (u + 1) * 8 + 6, none⟩ = some (.string y.lang) ∧ W.cell? ⟨gz, (u + 1) * 8 + 7, none⟩ = some (.string y.ty)) := fun W hW => by
          obtain ⟨_, e, a0, a1, a2, a3, a4, a5, a6, a7⟩ := view_at (p3.below hW) hqp
          cases e
          obtain ⟨_, e, b0, b1, b2, b3, b4, b5, b6, b7⟩ := view_at (p3.below hW) hq
          cases e
          exact ⟨a0, a1, a2, a3, a4, a5, a6, a7, b0, b1, b2, b3, b4, b5, b6, b7⟩
        have hS0 := hcell _ hbw.drew
        go_wp2
        go_region_held3 (fun W => W.cell? ⟨gz, u * 8, none⟩ = some (.int .i64 p.kind) ∧ W.cell? ⟨gz, u * 8 + 1, none⟩ = some (.string p.s) ∧ W.cell? ⟨gz, u * 8 + 2, none⟩ = some (.string p.lang) ∧ W.cell? ⟨gz, u * 8 + 3, none⟩ = some (.string p.ty) ∧ W.cell? ⟨gz, u * 8 + 4, none⟩ = some (.int .i64 q.kind) ∧ W.cell? ⟨gz, u * 8 + 5, none⟩ = some (.string q.s) ∧ W.cell? ⟨gz, u * 8 + 6, none⟩ = some (.string q.lang) ∧ W.cell? ⟨gz, u * 8 + 7, none⟩ = some (.string q.ty) ∧ W.cell? ⟨gz, (u + 1) * 8, none⟩ = some (.int .i64 x.kind) ∧ W.cell? ⟨gz, (u + 1) * 8 + 1, none⟩ = some (.string x.s) ∧ W.cell? ⟨gz, (u + 1) * 8 + 2, none⟩ = some (.string x.lang) ∧ W.cell? ⟨gz, (u + 1) * 8 + 3, none⟩ = some (.string x.ty) ∧ W.cell? ⟨gz, (u + 1) * 8 + 4, none⟩ = some (.int .i64 y.kind) ∧ W.cell? ⟨gz, (u + 1) * 8 + 5, none⟩ = some (.string y.s) ∧ W.cell? ⟨gz, (u + 1) * 8 + 6, none⟩ = some (.string y.lang) ∧ W.cell? ⟨gz, (u + 1) * 8 + 7, none⟩ = some (.string y.ty)) (first | exact hS0 | exact hS1)
          (first
          | (go_at_call 22; refine (hc1 _).mono ?_; rintro e w5 ⟨rfl, q1⟩; have hb5 := hbw.drew.trans (q1.mono hbw.drew.size); have hS1 := hcell w5 hb5))
        all_goals
          clear hS0 hS1
          have hS2 := hcell _ hb5.drew
          obtain ⟨hc, hd⟩ : (c = 0 ∨ c = -1) ∧ (c = 0 → ¬ (0 : Int) ≤ d) := by
            by_cases h0 : c = 0
            · rw [if_pos h0] at hcmp
              exact ⟨.inl h0, fun _ => by omega⟩
            · rw [if_neg h0] at hcmp
              exact ⟨by omega, fun h => absurd h h0⟩
          clear hcmp hcv
          rcases hc with rfl | rfl
          · have hd := hd rfl
            go_wp2
            go_region_held3 (fun W => W.cell? ⟨gz, u * 8, none⟩ = some (.int .i64 p.kind) ∧ W.cell? ⟨gz, u * 8 + 1, none⟩ = some (.string p.s) ∧ W.cell? ⟨gz, u * 8 + 2, none⟩ = some (.string p.lang) ∧ W.cell? ⟨gz, u * 8 + 3, none⟩ = some (.string p.ty) ∧ W.cell? ⟨gz, u * 8 + 4, none⟩ = some (.int .i64 q.kind) ∧ W.cell? ⟨gz, u * 8 + 5, none⟩ = some (.string q.s) ∧ W.cell? ⟨gz, u * 8 + 6, none⟩ = some (.string q.lang) ∧ W.cell? ⟨gz, u * 8 + 7, none⟩ = some (.string q.ty) ∧ W.cell? ⟨gz, (u + 1) * 8, none⟩ = some (.int .i64 x.kind) ∧ W.cell? ⟨gz, (u + 1) * 8 + 1, none⟩ = some (.string x.s) ∧ W.cell? ⟨gz, (u + 1) * 8 + 2, none⟩ = some (.string x.lang) ∧ W.cell? ⟨gz, (u + 1) * 8 + 3, none⟩ = some (.string x.ty) ∧ W.cell? ⟨gz, (u + 1) * 8 + 4, none⟩ = some (.int .i64 y.kind) ∧ W.cell? ⟨gz, (u + 1) * 8 + 5, none⟩ = some (.string y.s) ∧ W.cell? ⟨gz, (u + 1) * 8 + 6, none⟩ = some (.string y.lang) ∧ W.cell? ⟨gz, (u + 1) * 8 + 7, none⟩ = some (.string y.ty)) (first | exact hS2 | exact hS3)
              (first
              | (go_at_call 22; refine (hc2 _).mono ?_; rintro e w6 ⟨rfl, q2⟩; have hb6 := hb5.drew.trans (q2.mono hb5.drew.size); have hS3 := hcell w6 hb6))
            all_goals
              clear hS2 hS3 hcell hc1 hc2
              go_wp2
              go_loopg [9] 3 (fun gf kk wx => ∃ (k : Nat), kk = .int .i64 (k : Int) ∧ k ≤ 2 ∧ Below w4.heap.size w4 wx ∧ 2 < gf + k)
              case atStart => exact ⟨0, rfl, by omega, hb6, by omega⟩
              case round =>
                clear hb6 hb5 hbw
                obtain ⟨k, rfl, hk, hbw, hfk⟩ := hrel
                by_cases hk2 : k < 2
                · have hkI : (k : Int) < 2 := by omega
                  obtain ⟨g2, rfl⟩ : ∃ g2, gk = g2 + 1 := ⟨gk - 1, by omega⟩
                  obtain ⟨X, hX, hXT⟩ : ∃ X, (∀ W, Below w4.heap.size w4 W → ∃ gz', some (⟨gz, 0, none⟩ : Addr) = some ⟨gz', 0, none⟩ ∧ W.cell? ⟨gz', (u + 1) * 8 + k * 4, none⟩ = some (.int .i64 X.kind) ∧ W.cell? ⟨gz', (u + 1) * 8 + k * 4 + 1, none⟩ = some (.string X.s) ∧ W.cell? ⟨gz', (u + 1) * 8 + k * 4 + 2, none⟩ = some (.string X.lang) ∧ W.cell? ⟨gz', (u + 1) * 8 + k * 4 + 3, none⟩ = some (.string X.ty)) ∧ X ∈ termsL G := by
                    have hin := inT_rel G T (x, y) ((p2 (x, y)).1 (List.mem_of_getElem? hq))
                    match k, hk2 with
                    | 0, _ => exact ⟨x, fun W hW => by
                        obtain ⟨gz, e, a0, a1, a2, a3, -⟩ := view_at (p3.below hW) hq
                        exact ⟨gz, e, a0, a1, a2, a3⟩, hin.1⟩
                    | 1, _ => exact ⟨y, fun W hW => by
                        obtain ⟨gz, e, -, -, -, -, a0, a1, a2, a3⟩ := view_at (p3.below hW) hq
                        exact ⟨gz, e, a0, a1, a2, a3⟩, hin.2⟩
                  go_wp2
                  go_loopg [10, 11] (G.length + 1) (fun gf bb jj wx => ∃ (j : Nat), jj = .int .i64 (j : Int) ∧ j ≤ G.length ∧ bb = .bool (near G X j) ∧ Below w4.heap.size w4 wx ∧ G.length < gf + j)
                  case atStart => exact ⟨0, rfl, by omega, rfl, hbw, by omega⟩
                  case round =>
                    clear hbw
                    obtain ⟨j, rfl, hj, rfl, hbw, hfj⟩ := hrel
                    by_cases hltj : j < G.length
                    · have hltJ : (j : Int) < (G.length : Int) := by omega
                      obtain ⟨g3, rfl⟩ : ∃ g3, gk = g3 + 1 := ⟨gk - 1, by omega⟩
                      obtain ⟨t, hqt⟩ : ∃ t, G[j]? = some t := ⟨G[j], List.getElem?_eq_getElem hltj⟩
                      have hnext := near_succ (X := X) hqt
                      cases hne : near G X j
                      · rw [hne, Bool.false_or] at hnext
                        obtain ⟨_, e, z0, z1, z2, z3⟩ := hX _ hbw
                        cases e
                        obtain ⟨gg, rfl, m0, m1, m2, m3, m4, m5, m6, m7, m8, m9, m10, m11⟩ := gview_at (hG4.below hbw) hqt
                        have heq1 := fun W => eqT_runW t.1 X W
                        have heq2 := fun W => eqT_runW t.2.2 X W
                        dsimp only [encT] at heq1 heq2
                        clear m4 m5 m6 m7 hqt hne
                        generalize decide (t.1 = X) = b1 at heq1 hnext
                        generalize decide (t.2.2 = X) = b2 at heq2 hnext
                        cases b1
                        · cases b2
                          all_goals
                            go_wp2
                            go_quiet (fail)
                            go_wp2
                            go_roundg g3
                            case measure => omega
                            case rel => exact ⟨j + 1, congrArg (Value.int .i64) (by omega), by omega, congrArg Value.bool hnext.symm, ⟨hbw.os, hbw.tape, hbw.output, hbw.size, hbw.block⟩, by omega⟩
                        · rw [Bool.true_or] at hnext
                          go_wp2
                          go_quiet (fail)
                          go_wp2
                          go_roundg g3
                          case measure => omega
                          case rel => exact ⟨j + 1, congrArg (Value.int .i64) (by omega), by omega, congrArg Value.bool hnext.symm, ⟨hbw.os, hbw.tape, hbw.output, hbw.size, hbw.block⟩, by omega⟩
                      · rw [hne, Bool.true_or, Bool.true_or] at hnext
                        clear hne
                        go_wp2
                        go_quiet (fail)
                        go_wp2
                        go_roundg g3
                        case measure => omega
                        case rel => exact ⟨j + 1, congrArg (Value.int .i64) (by omega), by omega, congrArg Value.bool hnext.symm, ⟨hbw.os, hbw.tape, hbw.output, hbw.size, hbw.block⟩, by omega⟩
                    · have hltJ : ¬ (j : Int) < (G.length : Int) := by omega
                      have hall : near G X j = true := by rw [show j = G.length by omega]; exact near_all hXT
                      rw [hall]
                      go_wp2
                      go_roundg g2
                      case measure => omega
                      case rel => exact ⟨k + 1, congrArg (Value.int .i64) (by omega), by omega, hbw, by omega⟩
                · have hkI : ¬ (k : Int) < 2 := by omega
                  go_wp2
                  go_roundg g'
                  case measure => omega
                  case rel => exact ⟨(u + 1) + 1, congrArg (Value.int .i64) (by omega), by omega, hbw, by omega⟩
          · clear hd
            go_wp2
            go_quiet (fail)
            clear hS2 hcell hc1 hc2
            go_wp2
            go_loopg [9] 3 (fun gf kk wx => ∃ (k : Nat), kk = .int .i64 (k : Int) ∧ k ≤ 2 ∧ Below w4.heap.size w4 wx ∧ 2 < gf + k)
            case atStart => exact ⟨0, rfl, by omega, ⟨hb5.os, hb5.tape, hb5.output, hb5.size, hb5.block⟩, by omega⟩
            case round =>
              clear hb5 hbw
              obtain ⟨k, rfl, hk, hbw, hfk⟩ := hrel
              by_cases hk2 : k < 2
              · have hkI : (k : Int) < 2 := by omega
                obtain ⟨g2, rfl⟩ : ∃ g2, gk = g2 + 1 := ⟨gk - 1, by omega⟩
                obtain ⟨X, hX, hXT⟩ : ∃ X, (∀ W, Below w4.heap.size w4 W → ∃ gz', some (⟨gz, 0, none⟩ : Addr) = some ⟨gz', 0, none⟩ ∧ W.cell? ⟨gz', (u + 1) * 8 + k * 4, none⟩ = some (.int .i64 X.kind) ∧ W.cell? ⟨gz', (u + 1) * 8 + k * 4 + 1, none⟩ = some (.string X.s) ∧ W.cell? ⟨gz', (u + 1) * 8 + k * 4 + 2, none⟩ = some (.string X.lang) ∧ W.cell? ⟨gz', (u + 1) * 8 + k * 4 + 3, none⟩ = some (.string X.ty)) ∧ X ∈ termsL G := by
                  have hin := inT_rel G T (x, y) ((p2 (x, y)).1 (List.mem_of_getElem? hq))
                  match k, hk2 with
                  | 0, _ => exact ⟨x, fun W hW => by
                      obtain ⟨gz, e, a0, a1, a2, a3, -⟩ := view_at (p3.below hW) hq
                      exact ⟨gz, e, a0, a1, a2, a3⟩, hin.1⟩
                  | 1, _ => exact ⟨y, fun W hW => by
                      obtain ⟨gz, e, -, -, -, -, a0, a1, a2, a3⟩ := view_at (p3.below hW) hq
                      exact ⟨gz, e, a0, a1, a2, a3⟩, hin.2⟩
                go_wp2
                go_loopg [10, 11] (G.length + 1) (fun gf bb jj wx => ∃ (j : Nat), jj = .int .i64 (j : Int) ∧ j ≤ G.length ∧ bb = .bool (near G X j) ∧ Below w4.heap.size w4 wx ∧ G.length < gf + j)
                case atStart => exact ⟨0, rfl, by omega, rfl, hbw, by omega⟩
                case round =>
                  clear hbw
                  obtain ⟨j, rfl, hj, rfl, hbw, hfj⟩ := hrel
                  by_cases hltj : j < G.length
                  · have hltJ : (j : Int) < (G.length : Int) := by omega
                    obtain ⟨g3, rfl⟩ : ∃ g3, gk = g3 + 1 := ⟨gk - 1, by omega⟩
                    obtain ⟨t, hqt⟩ : ∃ t, G[j]? = some t := ⟨G[j], List.getElem?_eq_getElem hltj⟩
                    have hnext := near_succ (X := X) hqt
                    cases hne : near G X j
                    · rw [hne, Bool.false_or] at hnext
                      obtain ⟨_, e, z0, z1, z2, z3⟩ := hX _ hbw
                      cases e
                      obtain ⟨gg, rfl, m0, m1, m2, m3, m4, m5, m6, m7, m8, m9, m10, m11⟩ := gview_at (hG4.below hbw) hqt
                      have heq1 := fun W => eqT_runW t.1 X W
                      have heq2 := fun W => eqT_runW t.2.2 X W
                      dsimp only [encT] at heq1 heq2
                      clear m4 m5 m6 m7 hqt hne
                      generalize decide (t.1 = X) = b1 at heq1 hnext
                      generalize decide (t.2.2 = X) = b2 at heq2 hnext
                      cases b1
                      · cases b2
                        all_goals
                          go_wp2
                          go_quiet (fail)
                          go_wp2
                          go_roundg g3
                          case measure => omega
                          case rel => exact ⟨j + 1, congrArg (Value.int .i64) (by omega), by omega, congrArg Value.bool hnext.symm, ⟨hbw.os, hbw.tape, hbw.output, hbw.size, hbw.block⟩, by omega⟩
                      · rw [Bool.true_or] at hnext
                        go_wp2
                        go_quiet (fail)
                        go_wp2
                        go_roundg g3
                        case measure => omega
                        case rel => exact ⟨j + 1, congrArg (Value.int .i64) (by omega), by omega, congrArg Value.bool hnext.symm, ⟨hbw.os, hbw.tape, hbw.output, hbw.size, hbw.block⟩, by omega⟩
                    · rw [hne, Bool.true_or, Bool.true_or] at hnext
                      clear hne
                      go_wp2
                      go_quiet (fail)
                      go_wp2
                      go_roundg g3
                      case measure => omega
                      case rel => exact ⟨j + 1, congrArg (Value.int .i64) (by omega), by omega, congrArg Value.bool hnext.symm, ⟨hbw.os, hbw.tape, hbw.output, hbw.size, hbw.block⟩, by omega⟩
                  · have hltJ : ¬ (j : Int) < (G.length : Int) := by omega
                    have hall : near G X j = true := by rw [show j = G.length by omega]; exact near_all hXT
                    rw [hall]
                    go_wp2
                    go_roundg g2
                    case measure => omega
                    case rel => exact ⟨k + 1, congrArg (Value.int .i64) (by omega), by omega, hbw, by omega⟩
              · have hkI : ¬ (k : Int) < 2 := by omega
                go_wp2
                go_roundg g'
                case measure => omega
                case rel => exact ⟨(u + 1) + 1, congrArg (Value.int .i64) (by omega), by omega, hbw, by omega⟩
    · have hltI : ¬ (i : Int) < (zs.length : Int) := by omega
      go_wp2
      go_ret
      exact ⟨rfl, b4.trans (hbw.mono b4.size)⟩
end
end Go.Proofs.Ytaeiikielelicaa.Pt
