/- The walk of PathReach. -/
import Derived.Test.YtaeiikielelicaaPtWalks
import Derived.Test.YtaeiikielelicaaPtOf1
import Derived.Test.YtaeiikielelicaaPtLawsP
import Derived.Test.YtaeiikielelicaaPtHas
set_option linter.unusedVariables false
set_option linter.unusedSimpArgs false
set_option linter.unusedSectionVars false
set_option linter.deprecated false
namespace Go.Proofs.Ytaeiikielelicaa.Pt
open Go.RowKit Go.Proofs Go.Am
open Pm
set_option maxRecDepth 1000000
set_option linter.unusedVariables false
set_option linter.unusedSimpArgs false
noncomputable section
theorem Plus.imp {A B : Pr → Prop} (h : ∀ p, A p → B p) {x y : Tm} (hp : Plus A x y) : Plus B x y := by
  induction hp with
  | one h1 => exact .one (h _ h1)
  | more _ h2 ih => exact .more ih (h _ h2)
theorem step_eq {G : List T3} (hI : Iris G) (p : ByteArray) (q : Pr) : stepS G p q ↔ stepL ⟨1, p, ⟨#[]⟩, ⟨#[]⟩⟩ G q := by
  constructor
  · rintro ⟨t, ht, h1, h2⟩
    exact ⟨t, ht, by rw [hI t ht, h1], h2⟩
  · rintro ⟨t, ht, h1, h2⟩
    exact ⟨t, ht, by rw [h1], h2⟩
theorem reach_rel {G : List T3} (hI : Iris G) (p : ByteArray) (x y : Tm) : rel G (.mk 6 ⟨#[]⟩ [.mk 1 p []]) (x, y) ↔ Plus (stepS G p) x y := by
  rw [rel_plus]
  have h1 : rel G (.mk 1 p []) = stepL ⟨1, p, ⟨#[]⟩, ⟨#[]⟩⟩ G := by rw [rel_eq]; simp [relOf]
  rw [h1]
  exact ⟨fun h => Plus.imp (fun q hq => (step_eq hI p q).2 hq) h, fun h => Plus.imp (fun q hq => (step_eq hI p q).1 hq) h⟩
set_option maxHeartbeats 4000000 in
theorem reach_law (v0 : Value) (gs : List Int) (n : Int) (w : World) (hg : NsOk w v0 gs) (hgl : gs.length ≤ 9223372036854775807) (hn1 : -9223372036854775808 ≤ n) (hn2 : n ≤ 9223372036854775807) :
    Calls Try.prog 6 #[v0, .int .i64 n] w fun e w' => e = .returned (.bool true) ∧ Below w.heap.size w w' := by
  have hkn := known_calls w
  have hgr : ∀ w1, Below w.heap.size w w1 → Calls Try.prog 11 #[v0] w1 (SetPost w1 (G25 gs)) := fun w1 h => graph_calls v0 gs w1 (hg.below h) hgl
  have hwi := fun W => within_calls n 3 W (by omega) (by omega) hn1 hn2
  obtain ⟨m, hm, hm3, -⟩ := mod_nat n 3 (by omega)
  rw [hm] at hwi
  have hmN : m < 3 := by omega
  have hnm := fun a b c => nm3 (a := a) (b := b) (c := c) hmN
  have hmI : (m : Int) < 3 := by omega
  have hm0 : (0 : Int) ≤ (m : Int) := by omega
  clear hmN hm3
  have hof := fun W => of1_calls 6 (.mk 1 (nm [⟨#[112, 58, 49]⟩, ⟨#[112, 58, 50]⟩, ⟨#[112, 58, 51]⟩] m) []) 1 (nm [⟨#[112, 58, 49]⟩, ⟨#[112, 58, 50]⟩, ⟨#[112, 58, 51]⟩] m) none 0 0 W (.leaf 1 _)
  obtain ⟨a0, c0, rfl, -⟩ := hg
  go_enter Try.func6, Try.ntmps6
  go_wp2_with (first
    | (go_at_call 10; refine hkn.mono ?_; rintro e w1 ⟨rfl, b1⟩)
    | (go_at_call 11; refine (hgr _ b1).mono ?_; rintro e w2 ⟨gv, G, rfl, g1, g2, g3, g4⟩; have b2 := b1.trans (g4.mono b1.size); obtain ⟨adg, cg, rfl, -⟩ := gview g3.ok)
    | (go_at_call 19; refine (hwi _).mono ?_; rintro e w16 ⟨rfl, rfl⟩)
    | (go_at_call 16; refine (hof _).mono ?_; rintro e w3 ⟨o, s, ax, nx, mx, rfl, t1, t2⟩
       have hAl : Below w2.heap.size w2 (w2.alloc (.cells #[.string ⟨#[112, 58, 49]⟩, .string ⟨#[112, 58, 50]⟩, .string ⟨#[112, 58, 51]⟩] 9)) := (Below.refl _ w2).alloc (Nat.le_refl _) _
       have q3 := hAl.trans (t2.mono hAl.size)
       have b3 := b2.trans (q3.mono b2.size)
       have hn := g25_len g2
       have hE := ends_calls _ G _ _ w3 (g3.below q3).ok (by omega) t1
       unfold EndsOk at hE)
    | (go_at_call 14; refine hE.mono ?_; rintro e w4 ⟨rv, zs, rfl, p1, p2, p3, p4⟩))
  have hI := iris_of g1
  have B4 := b3.trans (p4.mono b3.size)
  have hG4 : ∀ W, Below w4.heap.size w4 W → GOk W (.slice adg G.length cg) G := fun W h => ((g3.below q3).below (p4.trans (h.mono p4.size))).ok
  have hrow : ∀ W, Below w4.heap.size w4 W → RowP 0 W rv zs := fun W h => (p3.below h).low (Nat.zero_le _)
  have hzl : zs.length ≤ 1000000 := in2_len (T := termsL G) (fun p hp => inT_rel G _ p ((p2 p).1 hp)) p1 (by rw [termsL_len]; omega)
  generalize nm [⟨#[112, 58, 49]⟩, ⟨#[112, 58, 50]⟩, ⟨#[112, 58, 51]⟩] m = p at p2 ⊢
  have hsame : ∀ x y, decide ((x, y) ∈ zs) = true ↔ Plus (stepS G p) x y := fun x y => by rw [decide_eq_true_iff, p2, reach_rel hI]
  clear p2 p3 q3 hE hAl hgr hkn hwi hnm g1 g2 g3 g4 t1 t2 hof b1 b2 b3
  go_wp2
  go_loopg [8] (G.length + 1) (fun gf i wx => ∃ (j : Nat), i = .int .i64 (j : Int) ∧ j ≤ G.length ∧ Below w4.heap.size w4 wx ∧ G.length < gf + j)
  case atStart => exact ⟨0, rfl, by omega, Below.refl _ _, by omega⟩
  case round =>
    obtain ⟨i, rfl, hi, hbw, hfu⟩ := hrel
    by_cases hlt : i < G.length
    · have hltI : (i : Int) < (G.length : Int) := by omega
      obtain ⟨g', rfl⟩ : ∃ g', gk = g' + 1 := ⟨gk - 1, by omega⟩
      obtain ⟨t, ht⟩ : ∃ t, G[i]? = some t := ⟨G[i], List.getElem?_eq_getElem hlt⟩
      go_wp2
      go_loopg [9] (G.length + 1) (fun gf i wx => ∃ (j : Nat), i = .int .i64 (j : Int) ∧ j ≤ G.length ∧ Below w4.heap.size w4 wx ∧ G.length < gf + j)
      case atStart => exact ⟨0, rfl, by omega, hbw, by omega⟩
      case round =>
        clear hbw
        obtain ⟨j, rfl, hj, hbw, hfj⟩ := hrel
        by_cases hltj : j < G.length
        · have hltJ : (j : Int) < (G.length : Int) := by omega
          obtain ⟨g3, rfl⟩ : ∃ g3, gk = g3 + 1 := ⟨gk - 1, by omega⟩
          obtain ⟨u, hu⟩ : ∃ u, G[j]? = some u := ⟨G[j], List.getElem?_eq_getElem hltj⟩
          obtain ⟨gg, rfl, -⟩ := gview_at (hG4 _ hbw) ht
          have hK : ∀ W, Below wr.heap.size wr W → (W.cell? ⟨gg, i * 12, none⟩ = some (.int .i64 t.1.kind) ∧ W.cell? ⟨gg, i * 12 + 1, none⟩ = some (.string t.1.s) ∧ W.cell? ⟨gg, i * 12 + 2, none⟩ = some (.string t.1.lang) ∧ W.cell? ⟨gg, i * 12 + 3, none⟩ = some (.string t.1.ty)) ∧ (W.cell? ⟨gg, j * 12 + 8, none⟩ = some (.int .i64 u.2.2.kind) ∧ W.cell? ⟨gg, j * 12 + 9, none⟩ = some (.string u.2.2.s) ∧ W.cell? ⟨gg, j * 12 + 10, none⟩ = some (.string u.2.2.lang) ∧ W.cell? ⟨gg, j * 12 + 11, none⟩ = some (.string u.2.2.ty)) := fun W hW => by
            have hb := hbw.trans (hW.mono hbw.size)
            obtain ⟨_, e1, k0, k1, k2, k3, -⟩ := gview_at (hG4 _ hb) ht
            cases e1
            obtain ⟨_, e2, -, -, -, -, -, -, -, -, k8, k9, k10, k11⟩ := gview_at (hG4 _ hb) hu
            cases e2
            exact ⟨⟨k0, k1, k2, k3⟩, k8, k9, k10, k11⟩
          have hK0 := hK wr (Below.refl _ _)
          have hK1 := fun o => hK (wr.alloc o) ((Below.refl _ wr).alloc (Nat.le_refl _) o)
          have hK2 := fun o o' => hK ((wr.alloc o).alloc o') (((Below.refl _ wr).alloc (Nat.le_refl _) o).alloc (by simp) o')
          clear ht hu
          go_wp2
          go_region
          · obtain ⟨W1, hW1⟩ : ∃ W1, ((wr.alloc (.cells #[.int .i64 t.1.kind, .string t.1.s, .string t.1.lang, .string t.1.ty] 41)).alloc (.cells #[.int .i64 u.2.2.kind, .string u.2.2.s, .string u.2.2.lang, .string u.2.2.ty] 41)).drew = W1 := ⟨_, rfl⟩
            rw [hW1]
            have hs1 : W1.heap.size = wr.heap.size + 2 := by rw [← hW1]; simp
            have q1 : Below wr.heap.size wr W1 := by rw [← hW1]; exact (((Below.refl _ wr).alloc (Nat.le_refl _) _).alloc (by simp) _).drew
            have n0 : W1.heap[wr.heap.size]? = some (.cells #[.int .i64 t.1.kind, .string t.1.s, .string t.1.lang, .string t.1.ty] 41 (0, 0)) := by
              rw [← hW1]; exact (Below.heap_alloc _ _ _ (by simp)).trans (World.alloc_heap_new wr _)
            have n1 : W1.heap[wr.heap.size + 1]? = some (.cells #[.int .i64 u.2.2.kind, .string u.2.2.s, .string u.2.2.lang, .string u.2.2.ty] 41 (0, 0)) := by
              rw [← hW1]
              have := World.alloc_heap_new (wr.alloc (.cells #[.int .i64 t.1.kind, .string t.1.s, .string t.1.lang, .string t.1.ty] 41)) (.cells #[.int .i64 u.2.2.kind, .string u.2.2.s, .string u.2.2.lang, .string u.2.2.ty] 41)
              rw [World.size_alloc] at this
              exact this
            have b1 := hbw.trans (q1.mono hbw.size)
            have hall : ∀ W, Below W1.heap.size W1 W → (W.cell? ⟨wr.heap.size, 0, none⟩ = some (.int .i64 t.1.kind) ∧ W.cell? ⟨wr.heap.size, 1, none⟩ = some (.string t.1.s) ∧ W.cell? ⟨wr.heap.size, 2, none⟩ = some (.string t.1.lang) ∧ W.cell? ⟨wr.heap.size, 3, none⟩ = some (.string t.1.ty)) ∧ (W.cell? ⟨wr.heap.size + 1, 0, none⟩ = some (.int .i64 u.2.2.kind) ∧ W.cell? ⟨wr.heap.size + 1, 1, none⟩ = some (.string u.2.2.s) ∧ W.cell? ⟨wr.heap.size + 1, 2, none⟩ = some (.string u.2.2.lang) ∧ W.cell? ⟨wr.heap.size + 1, 3, none⟩ = some (.string u.2.2.ty)) := fun W h => ⟨box4 ((h.block wr.heap.size (by omega)).trans n0), box4 ((h.block (wr.heap.size + 1) (by omega)).trans n1)⟩
            have hd0 : Below W1.heap.size W1 W1.drew := (Below.refl _ _).drew
            have hS0 := hall _ hd0
            have hwk := walks_calls _ G p t.1 u.2.2 _ (hG4 _ (b1.trans (hd0.mono b1.size))) (by omega)
            have hha := fun W (h : Below W1.heap.size W1 W) => has_calls rv zs t.1 u.2.2 W (hrow W (b1.trans (h.mono b1.size))) hzl
            dsimp only [encT] at hwk hha
            clear hK hK0 hK1 hK2 hW1 n0 n1
            go_wp2
            go_region_held3 (fun W => (W.cell? ⟨wr.heap.size, 0, none⟩ = some (.int .i64 t.1.kind) ∧ W.cell? ⟨wr.heap.size, 1, none⟩ = some (.string t.1.s) ∧ W.cell? ⟨wr.heap.size, 2, none⟩ = some (.string t.1.lang) ∧ W.cell? ⟨wr.heap.size, 3, none⟩ = some (.string t.1.ty)) ∧ (W.cell? ⟨wr.heap.size + 1, 0, none⟩ = some (.int .i64 u.2.2.kind) ∧ W.cell? ⟨wr.heap.size + 1, 1, none⟩ = some (.string u.2.2.s) ∧ W.cell? ⟨wr.heap.size + 1, 2, none⟩ = some (.string u.2.2.lang) ∧ W.cell? ⟨wr.heap.size + 1, 3, none⟩ = some (.string u.2.2.ty))) (first | exact hS2 | exact hS1 | exact hS0)
              (first
              | (go_at_call 21; refine (hha _ hd1).mono ?_; rintro e w6 ⟨rfl, f2⟩; rw [← hr]; have hd2 := hd1.trans (f2.mono hd1.size); have hS2 := hall w6 hd2)
              | (go_at_call 20; refine hwk.mono ?_; rintro e w5 ⟨r, rfl, hr0, f1⟩; have hr : r = decide ((t.1, u.2.2) ∈ zs) := Bool.eq_iff_iff.2 (hr0.trans (hsame _ _).symm); have hrr : (r != r) = false := by (cases r <;> rfl)
                 have hd1 := hd0.trans (f1.mono hd0.size); have hS1 := hall w5 hd1))
            all_goals
              go_wp2
              go_roundg g3
              case measure => omega
              case rel => exact ⟨j + 1, congrArg (Value.int .i64) (by omega), by omega, b1.trans (hd2.mono b1.size), by omega⟩
          · obtain ⟨W1, hW1⟩ : ∃ W1, ((wr.alloc (.cells #[.int .i64 u.2.2.kind, .string u.2.2.s, .string u.2.2.lang, .string u.2.2.ty] 41)).alloc (.cells #[.int .i64 t.1.kind, .string t.1.s, .string t.1.lang, .string t.1.ty] 41)).drew = W1 := ⟨_, rfl⟩
            rw [hW1]
            have hs1 : W1.heap.size = wr.heap.size + 2 := by rw [← hW1]; simp
            have q1 : Below wr.heap.size wr W1 := by rw [← hW1]; exact (((Below.refl _ wr).alloc (Nat.le_refl _) _).alloc (by simp) _).drew
            have n0 : W1.heap[wr.heap.size]? = some (.cells #[.int .i64 u.2.2.kind, .string u.2.2.s, .string u.2.2.lang, .string u.2.2.ty] 41 (0, 0)) := by
              rw [← hW1]; exact (Below.heap_alloc _ _ _ (by simp)).trans (World.alloc_heap_new wr _)
            have n1 : W1.heap[wr.heap.size + 1]? = some (.cells #[.int .i64 t.1.kind, .string t.1.s, .string t.1.lang, .string t.1.ty] 41 (0, 0)) := by
              rw [← hW1]
              have := World.alloc_heap_new (wr.alloc (.cells #[.int .i64 u.2.2.kind, .string u.2.2.s, .string u.2.2.lang, .string u.2.2.ty] 41)) (.cells #[.int .i64 t.1.kind, .string t.1.s, .string t.1.lang, .string t.1.ty] 41)
              rw [World.size_alloc] at this
              exact this
            have b1 := hbw.trans (q1.mono hbw.size)
            have hall : ∀ W, Below W1.heap.size W1 W → (W.cell? ⟨wr.heap.size + 1, 0, none⟩ = some (.int .i64 t.1.kind) ∧ W.cell? ⟨wr.heap.size + 1, 1, none⟩ = some (.string t.1.s) ∧ W.cell? ⟨wr.heap.size + 1, 2, none⟩ = some (.string t.1.lang) ∧ W.cell? ⟨wr.heap.size + 1, 3, none⟩ = some (.string t.1.ty)) ∧ (W.cell? ⟨wr.heap.size, 0, none⟩ = some (.int .i64 u.2.2.kind) ∧ W.cell? ⟨wr.heap.size, 1, none⟩ = some (.string u.2.2.s) ∧ W.cell? ⟨wr.heap.size, 2, none⟩ = some (.string u.2.2.lang) ∧ W.cell? ⟨wr.heap.size, 3, none⟩ = some (.string u.2.2.ty)) := fun W h => ⟨box4 ((h.block (wr.heap.size + 1) (by omega)).trans n1), box4 ((h.block wr.heap.size (by omega)).trans n0)⟩
            have hd0 : Below W1.heap.size W1 W1.drew := (Below.refl _ _).drew
            have hS0 := hall _ hd0
            have hwk := walks_calls _ G p t.1 u.2.2 _ (hG4 _ (b1.trans (hd0.mono b1.size))) (by omega)
            have hha := fun W (h : Below W1.heap.size W1 W) => has_calls rv zs t.1 u.2.2 W (hrow W (b1.trans (h.mono b1.size))) hzl
            dsimp only [encT] at hwk hha
            clear hK hK0 hK1 hK2 hW1 n0 n1
            go_wp2
            go_region_held3 (fun W => (W.cell? ⟨wr.heap.size + 1, 0, none⟩ = some (.int .i64 t.1.kind) ∧ W.cell? ⟨wr.heap.size + 1, 1, none⟩ = some (.string t.1.s) ∧ W.cell? ⟨wr.heap.size + 1, 2, none⟩ = some (.string t.1.lang) ∧ W.cell? ⟨wr.heap.size + 1, 3, none⟩ = some (.string t.1.ty)) ∧ (W.cell? ⟨wr.heap.size, 0, none⟩ = some (.int .i64 u.2.2.kind) ∧ W.cell? ⟨wr.heap.size, 1, none⟩ = some (.string u.2.2.s) ∧ W.cell? ⟨wr.heap.size, 2, none⟩ = some (.string u.2.2.lang) ∧ W.cell? ⟨wr.heap.size, 3, none⟩ = some (.string u.2.2.ty))) (first | exact hS2 | exact hS1 | exact hS0)
              (first
              | (go_at_call 21; refine (hha _ hd1).mono ?_; rintro e w6 ⟨rfl, f2⟩; rw [← hr]; have hd2 := hd1.trans (f2.mono hd1.size); have hS2 := hall w6 hd2)
              | (go_at_call 20; refine hwk.mono ?_; rintro e w5 ⟨r, rfl, hr0, f1⟩; have hr : r = decide ((t.1, u.2.2) ∈ zs) := Bool.eq_iff_iff.2 (hr0.trans (hsame _ _).symm); have hrr : (r != r) = false := by (cases r <;> rfl)
                 have hd1 := hd0.trans (f1.mono hd0.size); have hS1 := hall w5 hd1))
            all_goals
              go_wp2
              go_roundg g3
              case measure => omega
              case rel => exact ⟨j + 1, congrArg (Value.int .i64) (by omega), by omega, b1.trans (hd2.mono b1.size), by omega⟩
        · have hltJ : ¬ (j : Int) < (G.length : Int) := by omega
          go_wp2
          go_roundg g'
          case measure => omega
          case rel => exact ⟨i + 1, congrArg (Value.int .i64) (by omega), by omega, hbw, by omega⟩
    · have hltI : ¬ (i : Int) < (G.length : Int) := by omega
      go_wp2
      go_ret
      exact ⟨rfl, B4.trans (hbw.mono B4.size)⟩
end
end Go.Proofs.Ytaeiikielelicaa.Pt
