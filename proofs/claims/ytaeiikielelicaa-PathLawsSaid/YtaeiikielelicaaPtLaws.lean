/- The walk of PathLaws. -/
import Derived.Test.YtaeiikielelicaaPtReg10b
import Derived.Deep.RegionHeld3
set_option linter.unusedVariables false
set_option linter.unusedSimpArgs false
set_option linter.unusedSectionVars false
set_option linter.deprecated false
namespace Go.Proofs.Ytaeiikielelicaa.Pt
open Go.RowKit Go.Proofs Go.Am
open Pm
set_option maxRecDepth 1000000
set_option linter.unusedVariables false
set_option linter.unusedSimpArgs false
noncomputable section
theorem below_alloc {B : Nat} {w w' : World} (h : Below B w w') (hB : B ≤ w.heap.size) (o : Obj) : Below B w (w'.alloc o) := h.alloc (Nat.le_trans hB h.size) o
theorem boxes3 (w5 : World) (oA oB oC : Int) (sA sB sC : ByteArray) (aA aB aC : Option Addr) (nA nB nC mA mB mC : Nat) : ∃ W6, W6 = allocL w5 [.cells #[.int .i64 oA, .string sA, .slice aA nA mA] 28, .cells #[.int .i64 oB, .string sB, .slice aB nB mB] 28, .cells #[.int .i64 oC, .string sC, .slice aC nC mC] 28] ∧ Below w5.heap.size w5 W6 ∧ W6.heap.size = w5.heap.size + 3 ∧ (W6.heap[w5.heap.size]? = some (.cells #[.int .i64 oA, .string sA, .slice aA nA mA] 28 (0, 0)) ∧ W6.heap[w5.heap.size + 1]? = some (.cells #[.int .i64 oB, .string sB, .slice aB nB mB] 28 (0, 0)) ∧ W6.heap[w5.heap.size + 2]? = some (.cells #[.int .i64 oC, .string sC, .slice aC nC mC] 28 (0, 0))) ∧ ∀ W, Below W6.heap.size W6 W → (W.cell? ⟨w5.heap.size, 0, none⟩ = some (.int .i64 oA) ∧ W.cell? ⟨w5.heap.size, 1, none⟩ = some (.string sA) ∧ W.cell? ⟨w5.heap.size, 2, none⟩ = some (.slice aA nA mA)) ∧ (W.cell? ⟨w5.heap.size + 1, 0, none⟩ = some (.int .i64 oB) ∧ W.cell? ⟨w5.heap.size + 1, 1, none⟩ = some (.string sB) ∧ W.cell? ⟨w5.heap.size + 1, 2, none⟩ = some (.slice aB nB mB)) ∧ (W.cell? ⟨w5.heap.size + 2, 0, none⟩ = some (.int .i64 oC) ∧ W.cell? ⟨w5.heap.size + 2, 1, none⟩ = some (.string sC) ∧ W.cell? ⟨w5.heap.size + 2, 2, none⟩ = some (.slice aC nC mC)) := by
  refine ⟨_, rfl, allocL_below _ _, allocL_size _ _, ⟨allocL_heap _ w5 0 _ rfl, allocL_heap _ w5 1 _ rfl, allocL_heap _ w5 2 _ rfl⟩, fun W h => ?_⟩
  have hz : (allocL w5 [.cells #[.int .i64 oA, .string sA, .slice aA nA mA] 28, .cells #[.int .i64 oB, .string sB, .slice aB nB mB] 28, .cells #[.int .i64 oC, .string sC, .slice aC nC mC] 28]).heap.size = w5.heap.size + 3 := allocL_size _ _
  have x0 := (h.block (w5.heap.size + 0) (by omega)).trans (allocL_heap _ w5 0 _ rfl)
  have x1 := (h.block (w5.heap.size + 1) (by omega)).trans (allocL_heap _ w5 1 _ rfl)
  have x2 := (h.block (w5.heap.size + 2) (by omega)).trans (allocL_heap _ w5 2 _ rfl)
  obtain ⟨y0, y1, y2, -⟩ := box3 x0
  obtain ⟨y3, y4, y5, -⟩ := box3 x1
  obtain ⟨y6, y7, y8, -⟩ := box3 x2
  exact ⟨⟨y0, y1, y2⟩, ⟨y3, y4, y5⟩, ⟨y6, y7, y8⟩⟩
set_option maxHeartbeats 8000000 in
theorem laws_law (v0 v1 v2 v3 : Value) (gs la lb lc : List Int) (w : World) (hg : NsOk w v0 gs) (ha : NsOk w v1 la) (hb : NsOk w v2 lb) (hc : NsOk w v3 lc) (hgl : gs.length ≤ 9223372036854775807) (hal : la.length ≤ 9223372036854775807) (hbl : lb.length ≤ 9223372036854775807) (hcl : lc.length ≤ 9223372036854775807) :
    Calls Try.prog 4 #[v0, v1, v2, v3] w fun e w' => e = .returned (.bool true) ∧ Below w.heap.size w w' := by
  have hkn := known_calls w
  have hgr : ∀ w1, Below w.heap.size w w1 → Calls Try.prog 11 #[v0] w1 (SetPost w1 (G25 gs)) := fun w1 h => graph_calls v0 gs w1 (hg.below h) hgl
  have hwa : ∀ w1, Below w.heap.size w w1 → Calls Try.prog 12 #[v1] w1 (WPost w1 (wayF la 3 0).1) := fun w1 h => Way_calls v1 la w1 (ha.below h) hal
  have hwb : ∀ w1, Below w.heap.size w w1 → Calls Try.prog 12 #[v2] w1 (WPost w1 (wayF lb 3 0).1) := fun w1 h => Way_calls v2 lb w1 (hb.below h) hbl
  have hwc : ∀ w1, Below w.heap.size w w1 → Calls Try.prog 12 #[v3] w1 (WPost w1 (wayF lc 3 0).1) := fun w1 h => Way_calls v3 lc w1 (hc.below h) hcl
  generalize (wayF la 3 0).1 = TA at hwa
  generalize (wayF lb 3 0).1 = TB at hwb
  generalize (wayF lc 3 0).1 = TC at hwc
  obtain ⟨a0, c0, rfl, -⟩ := hg
  obtain ⟨a1, c1, rfl, -⟩ := ha
  obtain ⟨a2, c2, rfl, -⟩ := hb
  obtain ⟨a3, c3, rfl, -⟩ := hc
  go_enter Try.func4, Try.ntmps4
  go_wp2_with (first
    | (go_at_call 10; refine hkn.mono ?_; rintro e w1 ⟨rfl, b1⟩)
    | (go_at_call 11; refine (hgr _ b1).mono ?_; rintro e w2 ⟨gv, G, rfl, g1, g2, g3, g4⟩; have b2 := b1.trans (g4.mono b1.size); clear b1 hgr hkn)
    | (go_at_call 12; refine (hwa _ b2).mono ?_; rintro e w3 ⟨oA, sA, aA, nA, mA, rfl, tA, t2⟩; have b3 := b2.trans (t2.mono b2.size); have g3' := g3.below t2; clear b2 hwa)
    | (go_at_call 12; refine (hwb _ b3).mono ?_; rintro e w4 ⟨oB, sB, aB, nB, mB, rfl, tB, t3⟩; have b4 := b3.trans (t3.mono b3.size); have g4' := g3'.below t3; have tA4 := tA.later t3; clear b3 hwb)
    | (go_at_call 12; refine (hwc _ b4).mono ?_; rintro e w5 ⟨oC, sC, aC, nC, mC, rfl, tC, t4⟩; have b5 := b4.trans (t4.mono b4.size); have g5 := g4'.below t4; have tA5 := tA4.later t4; have tB5 := tB.later t4; clear b4 hwc g3 g3' g4' tA tA4 tB t2 t3 t4
       obtain ⟨W6, hW6, k6, hz, ⟨p6, p7, p8⟩, hcell⟩ := boxes3 w5 oA oB oC sA sB sC aA aB aC nA nB nC mA mB mC
       have f1 := of1_calls 2 TA oA sA aA nA mA W6 (tA5.later k6)
       rw [hW6] at f1)
    | (go_at_call 16; refine f1.mono ?_; rintro e w7 ⟨o1, s1, x1, n1, m1, rfl, tI, k7⟩; rw [← hW6] at k7
       have f2 := of1_calls 2 _ o1 s1 x1 n1 m1 _ tI; clear f1 hW6)
    | (go_at_call 16; refine f2.mono ?_; rintro e w8 ⟨o2, s2, x2, n2, m2, rfl, tI2, k8⟩
       have c8 := k7.trans (k8.mono k7.size)
       have h8 := fun o => hcell (w8.alloc o) (c8.alloc c8.size o)
       have f3 := fun o => of1_calls 5 TA oA sA aA nA mA (w8.alloc o) (tA5.later (k6.trans ((c8.alloc c8.size o).mono k6.size)))
       have hI8 := World.alloc_heap_new w8 (.cells #[.int .i64 o2, .string s2, .slice x2 n2 m2] 28)
       clear f2 k7)
    | (go_at_call 16; refine (f3 _).mono ?_; rintro e w9 ⟨o3, s3, x3, n3, m3, rfl, tS, k9⟩
       have c9 := (c8.alloc c8.size _).trans (k9.mono (by have := c8.size; simp; omega))
       have h1 := fun o => hcell (w9.alloc o) (c9.alloc c9.size o)
       have h2 := fun o o' => hcell ((w9.alloc o).alloc o') ((c9.alloc c9.size o).alloc (c9.alloc c9.size o).size o')
       have h3 := fun p0 p1 p2 => hcell (((w9.alloc p0).alloc p1).alloc p2) (below_alloc (below_alloc (below_alloc c9 (Nat.le_refl _) p0) (Nat.le_refl _) p1) (Nat.le_refl _) p2)
       have h4 := fun p0 p1 p2 p3 => hcell ((((w9.alloc p0).alloc p1).alloc p2).alloc p3) (below_alloc (below_alloc (below_alloc (below_alloc c9 (Nat.le_refl _) p0) (Nat.le_refl _) p1) (Nat.le_refl _) p2) (Nat.le_refl _) p3)
       have h6 := fun p0 p1 p2 p3 p4 p5 => hcell ((((((w9.alloc p0).alloc p1).alloc p2).alloc p3).alloc p4).alloc p5) (below_alloc (below_alloc (below_alloc (below_alloc (below_alloc (below_alloc c9 (Nat.le_refl _) p0) (Nat.le_refl _) p1) (Nat.le_refl _) p2) (Nat.le_refl _) p3) (Nat.le_refl _) p4) (Nat.le_refl _) p5)
       have h9 := fun p0 p1 p2 p3 p4 p5 p6 p7 p8 => hcell (((((((((w9.alloc p0).alloc p1).alloc p2).alloc p3).alloc p4).alloc p5).alloc p6).alloc p7).alloc p8) (below_alloc (below_alloc (below_alloc (below_alloc (below_alloc (below_alloc (below_alloc (below_alloc (below_alloc c9 (Nat.le_refl _) p0) (Nat.le_refl _) p1) (Nat.le_refl _) p2) (Nat.le_refl _) p3) (Nat.le_refl _) p4) (Nat.le_refl _) p5) (Nat.le_refl _) p6) (Nat.le_refl _) p7) (Nat.le_refl _) p8)
       clear f3 h8))
  clear h1 h2 h3 h4 h6 h9
  have h9 := made9 w9 (.int .i64 oA, .string sA, .slice aA nA mA) (.int .i64 oB, .string sB, .slice aB nB mB) (.int .i64 oC, .string sC, .slice aC nC mC) (.int .i64 o3, .string s3, .slice x3 n3 m3)
  have c9' := fun W0 (h : Below w9.heap.size w9 W0) => c9.trans (h.mono (by have := c9.size; omega))
  change Code.wp _ (Code.region 10 ops10 true) _ _ (allocL w9 (nine w9.heap.size (.int .i64 oA, .string sA, .slice aA nA mA) (.int .i64 oB, .string sB, .slice aB nB mB) (.int .i64 oC, .string sC, .slice aC nC mC) (.int .i64 o3, .string s3, .slice x3 n3 m3)))
  generalize allocL w9 (nine w9.heap.size (.int .i64 oA, .string sA, .slice aA nA mA) (.int .i64 oB, .string sB, .slice aB nB mB) (.int .i64 oC, .string sC, .slice aC nC mC) (.int .i64 o3, .string s3, .slice x3 n3 m3)) = W0 at h9 ⊢
  have c0 := c9' W0 h9.low
  clear c9'
  refine reg10 (by kernel_rfl) rfl (.int .i64 oA, .string sA, .slice aA nA mA) (.int .i64 oB, .string sB, .slice aB nB mB) (.int .i64 oC, .string sC, .slice aC nC mC) _ _ _ rfl rfl rfl (box_kept c0 p6) (box_kept c0 p7) (box_kept c0 p8) ?_
  intro bX bY b8 b9 v W hJ
  have v0 := hJ.v0 rfl
  have v1 := hJ.v1 rfl
  have v2 := hJ.v2 rfl
  have v3 := (hJ.v3 rfl).1
  have v4 := hJ.v4 rfl
  have v5 := hJ.v5 rfl
  have v6 := hJ.v6 rfl
  have v7 := hJ.v7 rfl
  have v8 := (hJ.v8 rfl).1
  have v9 := hJ.v9 rfl
  have v10 := (hJ.v10 rfl).1
  have v11 := (hJ.v11 rfl).1
  rw [v0, v1, v2, v3, v4, v5, v6, v7, v8, v9, v10, v11]
  clear v0 v1 v2 v3 v4 v5 v6 v7 v8 v9 v10 v11
  simp only [putsL, List.foldl_cons, List.foldl_nil, Act.put, List.setIfInBounds_toArray, List.set_cons_succ, List.set_cons_zero]
  have hW := hJ.below
  have kW : Below W6.heap.size W6 W := c0.trans (hW.mono c0.size)
  have k5 : Below w5.heap.size w5 W := k6.trans (kW.mono k6.size)
  have k9W : Below w9.heap.size w9 W := h9.low.trans (hW.mono h9.low.size)
  have k8W : Below (w8.alloc (.cells #[.int .i64 o2, .string s2, .slice x2 n2 m2] 28)).heap.size (w8.alloc (.cells #[.int .i64 o2, .string s2, .slice x2 n2 m2] 28)) W := k9.trans (k9W.mono k9.size)
  have k8W' : Below w8.heap.size w8 W := ((Below.refl _ w8).alloc (Nat.le_refl _) _).trans (k8W.mono (by simp))
  have rA := tA5.later k5
  have rB := tB5.later k5
  have rC := tC.later k5
  have rI := tI2.later k8W'
  have rS := tS.later k9W
  obtain ⟨rP, rL, rR⟩ := ways9 h9 hW (A := (.int .i64 oA, .string sA, .slice aA nA mA)) (B := (.int .i64 oB, .string sB, .slice aB nB mB)) (C := (.int .i64 oC, .string sC, .slice aC nC mC)) rA rB rC
  have rX := rep3 (W := W) (A := (.int .i64 oA, .string sA, .slice aA nA mA)) (B := (.int .i64 oB, .string sB, .slice aB nB mB)) (C := (.int .i64 oC, .string sC, .slice aC nC mC)) 4 bX rA rB rC (hJ.v3 rfl).2.2
  have rY := rep3 (W := W) (A := (.int .i64 oC, .string sC, .slice aC nC mC)) (B := (.int .i64 oA, .string sA, .slice aA nA mA)) (C := (.int .i64 oB, .string sB, .slice aB nB mB)) 4 bY rC rA rB (hJ.v8 rfl).2.2
  have q10 := box_kept kW p6
  have q13 := box_kept k8W hI8
  have q14 := box_kept hW (h9.at_ 0 _ rfl)
  have q15 := box_kept hW (h9.at_ 2 _ rfl)
  have q16 := box_kept hW (h9.at_ 5 _ rfl)
  have q17 := box_kept hW (h9.at_ 8 _ rfl)
  have q18 : W.heap[b8]? = some (.cells #[.int .i64 4, .string ⟨#[]⟩, .slice (some ⟨bX, 0, none⟩) 3 3] 28 (0, 0)) := by
    obtain ⟨-, -, cs, -, h1, h2⟩ := hJ.v10 rfl
    rw [h1, h2 rfl]
  have q19 : W.heap[b9]? = some (.cells #[.int .i64 4, .string ⟨#[]⟩, .slice (some ⟨bY, 0, none⟩) 3 3] 28 (0, 0)) := by
    obtain ⟨-, -, cs, -, h1, h2⟩ := hJ.v11 rfl
    rw [h1, h2 rfl]
  have bW : Below w.heap.size w W := b5.trans (k5.mono b5.size)
  have hnG := g25_len g2
  have hTl : (termsL G).length ≤ 1000 := by rw [termsL_len]; omega
  have hE : ∀ W' t o s a n m, Below W.heap.size W W' → RepW W t (.agg #[.int .i64 o, .string s, .slice a n m]) → EndsOk 14 gv (.agg #[.int .i64 o, .string s, .slice a n m]) (rel G t) W' := fun W' t o s a n m h ht => ends_calls gv G t _ W' (g5.below (k5.trans (h.mono k5.size))).ok (by omega) (ht.later h)
  have hE2 : ∀ W' t o s a n m, Below W.heap.size W W' → RepW W' t (.agg #[.int .i64 o, .string s, .slice a n m]) → EndsOk 14 gv (.agg #[.int .i64 o, .string s, .slice a n m]) (rel G t) W' := fun W' t o s a n m h ht => ends_calls gv G t _ W' (g5.below (k5.trans (h.mono k5.size))).ok (by omega) ht
  have hlen : ∀ t (zs : List Pr), Sorted zs → (∀ p, p ∈ zs ↔ rel G t p) → zs.length ≤ 1000000 := fun t zs h1 h2 => in2_len (T := termsL G) (fun p hp => inT_rel G t p ((h2 p).1 hp)) h1 hTl
  obtain ⟨N17, e17⟩ : ∃ N, w9.heap.size + 1 + 1 + 1 + 1 + 1 + 1 + 1 + 1 = N := ⟨_, rfl⟩
  rw [e17]
  obtain ⟨N16, e16⟩ : ∃ N, w9.heap.size + 1 + 1 + 1 + 1 + 1 = N := ⟨_, rfl⟩
  rw [e16]
  obtain ⟨N15, e15⟩ : ∃ N, w9.heap.size + 1 + 1 = N := ⟨_, rfl⟩
  rw [e15]
  change W.heap[w9.heap.size + 1 + 1 + 1 + 1 + 1 + 1 + 1 + 1]? = _ at q17
  change W.heap[w9.heap.size + 1 + 1 + 1 + 1 + 1]? = _ at q16
  change W.heap[w9.heap.size + 1 + 1]? = _ at q15
  rw [e17] at q17
  rw [e16] at q16
  rw [e15] at q15
  have hp15 := cells3 q15
  have hall : ∀ W', Below W.heap.size W W' → (W'.cell? ⟨w5.heap.size, 0, none⟩ = some (.int .i64 oA) ∧ W'.cell? ⟨w5.heap.size, 1, none⟩ = some (.string sA) ∧ W'.cell? ⟨w5.heap.size, 2, none⟩ = some (.slice aA nA mA)) ∧ (W'.cell? ⟨w8.heap.size, 0, none⟩ = some (.int .i64 o2) ∧ W'.cell? ⟨w8.heap.size, 1, none⟩ = some (.string s2) ∧ W'.cell? ⟨w8.heap.size, 2, none⟩ = some (.slice x2 n2 m2)) ∧ (W'.cell? ⟨w9.heap.size, 0, none⟩ = some (.int .i64 o3) ∧ W'.cell? ⟨w9.heap.size, 1, none⟩ = some (.string s3) ∧ W'.cell? ⟨w9.heap.size, 2, none⟩ = some (.slice x3 n3 m3)) ∧ (W'.cell? ⟨N16, 0, none⟩ = some (.int .i64 3) ∧ W'.cell? ⟨N16, 1, none⟩ = some (.string ⟨#[]⟩) ∧ W'.cell? ⟨N16, 2, none⟩ = some (.slice (some ⟨w9.heap.size + 4, 0, none⟩) 2 2)) ∧ (W'.cell? ⟨N17, 0, none⟩ = some (.int .i64 3) ∧ W'.cell? ⟨N17, 1, none⟩ = some (.string ⟨#[]⟩) ∧ W'.cell? ⟨N17, 2, none⟩ = some (.slice (some ⟨w9.heap.size + 7, 0, none⟩) 2 2)) ∧ (W'.cell? ⟨b8, 0, none⟩ = some (.int .i64 4) ∧ W'.cell? ⟨b8, 1, none⟩ = some (.string ⟨#[]⟩) ∧ W'.cell? ⟨b8, 2, none⟩ = some (.slice (some ⟨bX, 0, none⟩) 3 3)) ∧ (W'.cell? ⟨b9, 0, none⟩ = some (.int .i64 4) ∧ W'.cell? ⟨b9, 1, none⟩ = some (.string ⟨#[]⟩) ∧ W'.cell? ⟨b9, 2, none⟩ = some (.slice (some ⟨bY, 0, none⟩) 3 3)) := fun W' h => ⟨cells3 (box_kept h q10), cells3 (box_kept h q13), cells3 (box_kept h q14), cells3 (box_kept h q16), cells3 (box_kept h q17), cells3 (box_kept h q18), cells3 (box_kept h q19)⟩
  have hEp := hE W _ _ _ _ _ _ (Below.refl _ _) rP
  unfold EndsOk at hE hE2 hEp
  obtain ⟨adg, cg, rfl, -⟩ := gview (g5.ok)
  clear q10 q13 q14 q15 q16 q17 q18 q19 e15 e16 e17 hcell p6 p7 p8 hz tI tI2 tS k9 k8 c8 c9 c0 hJ h9 hW kW k5 k9W k8W k8W' hI8 tA5 tB5 tC k6 g1 g2 b5
  go_wp2_with (go_at_call 14; refine hEp.mono ?_; rintro e w20 ⟨vp, zp, rfl, p1, p2, p3, p4⟩)
  have hd0 : Below W.heap.size W w20.drew := p4.drew
  have he0 : Below w20.heap.size w20 w20.drew := (Below.refl _ _).drew
  have hS0 := hall _ hd0
  clear hp15 hEp rP
  go_region_held3 (fun W0 => (W0.cell? ⟨w5.heap.size, 0, none⟩ = some (.int .i64 oA) ∧ W0.cell? ⟨w5.heap.size, 1, none⟩ = some (.string sA) ∧ W0.cell? ⟨w5.heap.size, 2, none⟩ = some (.slice aA nA mA)) ∧ (W0.cell? ⟨w8.heap.size, 0, none⟩ = some (.int .i64 o2) ∧ W0.cell? ⟨w8.heap.size, 1, none⟩ = some (.string s2) ∧ W0.cell? ⟨w8.heap.size, 2, none⟩ = some (.slice x2 n2 m2)) ∧ (W0.cell? ⟨w9.heap.size, 0, none⟩ = some (.int .i64 o3) ∧ W0.cell? ⟨w9.heap.size, 1, none⟩ = some (.string s3) ∧ W0.cell? ⟨w9.heap.size, 2, none⟩ = some (.slice x3 n3 m3)) ∧ (W0.cell? ⟨N16, 0, none⟩ = some (.int .i64 3) ∧ W0.cell? ⟨N16, 1, none⟩ = some (.string ⟨#[]⟩) ∧ W0.cell? ⟨N16, 2, none⟩ = some (.slice (some ⟨w9.heap.size + 4, 0, none⟩) 2 2)) ∧ (W0.cell? ⟨N17, 0, none⟩ = some (.int .i64 3) ∧ W0.cell? ⟨N17, 1, none⟩ = some (.string ⟨#[]⟩) ∧ W0.cell? ⟨N17, 2, none⟩ = some (.slice (some ⟨w9.heap.size + 7, 0, none⟩) 2 2)) ∧ (W0.cell? ⟨b8, 0, none⟩ = some (.int .i64 4) ∧ W0.cell? ⟨b8, 1, none⟩ = some (.string ⟨#[]⟩) ∧ W0.cell? ⟨b8, 2, none⟩ = some (.slice (some ⟨bX, 0, none⟩) 3 3)) ∧ (W0.cell? ⟨b9, 0, none⟩ = some (.int .i64 4) ∧ W0.cell? ⟨b9, 1, none⟩ = some (.string ⟨#[]⟩) ∧ W0.cell? ⟨b9, 2, none⟩ = some (.slice (some ⟨bY, 0, none⟩) 3 3))) (first | exact hS19 | exact hS18 | exact hS17 | exact hS16 | exact hS15 | exact hS14 | exact hS13 | exact hS12 | exact hS11 | exact hS10 | exact hS9 | exact hS8 | exact hS7 | exact hS6 | exact hS5 | exact hS4 | exact hS3 | exact hS2 | exact hS1 | exact hS0)
    (first
    | (go_at_call 13; obtain rfl := sorted_eq a17 a18 (fun p => by rw [b17, b18]; exact law_alt G TA TB TC p); refine (pairs_true y17 y18 z17 _ ((c17.below d18).low (Nat.zero_le _)) (c18.low (Nat.zero_le _)) (hlen _ _ a17 b17)).mono ?_; rintro e w39 ⟨rfl, d19⟩; have hd19 := hd18.trans (d19.mono hd18.size); have he19 := he18.trans (d19.mono he18.size); have hS19 := hall w39 hd19)
    | (go_at_call 14; refine (hE _ (.mk 4 ⟨#[]⟩ [TC, TA, TB]) _ _ _ _ _ hd17 rY).mono ?_; rintro e w38 ⟨y18, z18, rfl, a18, b18, c18, d18⟩; have hd18 := hd17.trans (d18.mono hd17.size); have he18 := he17.trans (d18.mono he17.size); have hS18 := hall w38 hd18)
    | (go_at_call 14; refine (hE _ (.mk 4 ⟨#[]⟩ [TA, TB, TC]) _ _ _ _ _ hd16 rX).mono ?_; rintro e w37 ⟨y17, z17, rfl, a17, b17, c17, d17⟩; have hd17 := hd16.trans (d17.mono hd16.size); have he17 := he16.trans (d17.mono he16.size); have hS17 := hall w37 hd17)
    | (go_at_call 13; obtain rfl := sorted_eq p1 a15 (fun p => by rw [p2, b15]; exact law_right G TA TB TC p); refine (pairs_true vp y15 zp _ ((p3.below he15).low (Nat.zero_le _)) (c15.low (Nat.zero_le _)) (hlen _ _ p1 p2)).mono ?_; rintro e w36 ⟨rfl, d16⟩; have hd16 := hd15.trans (d16.mono hd15.size); have he16 := he15.trans (d16.mono he15.size); have hS16 := hall w36 hd16)
    | (go_at_call 14; refine (hE _ (.mk 3 ⟨#[]⟩ [TA, .mk 3 ⟨#[]⟩ [TB, TC]]) _ _ _ _ _ hd14 rR).mono ?_; rintro e w35 ⟨y15, z15, rfl, a15, b15, c15, d15⟩; have hd15 := hd14.trans (d15.mono hd14.size); have he15 := he14.trans (d15.mono he14.size); have hS15 := hall w35 hd15)
    | (go_at_call 13; obtain rfl := sorted_eq p1 a13 (fun p => by rw [p2, b13]; exact law_left G TA TB TC p); refine (pairs_true vp y13 zp _ ((p3.below he13).low (Nat.zero_le _)) (c13.low (Nat.zero_le _)) (hlen _ _ p1 p2)).mono ?_; rintro e w34 ⟨rfl, d14⟩; have hd14 := hd13.trans (d14.mono hd13.size); have he14 := he13.trans (d14.mono he13.size); have hS14 := hall w34 hd14)
    | (go_at_call 14; refine (hE _ (.mk 3 ⟨#[]⟩ [.mk 3 ⟨#[]⟩ [TA, TB], TC]) _ _ _ _ _ hd12 rL).mono ?_; rintro e w33 ⟨y13, z13, rfl, a13, b13, c13, d13⟩; have hd13 := hd12.trans (d13.mono hd12.size); have he13 := he12.trans (d13.mono he12.size); have hS13 := hall w33 hd13)
    | (go_at_call 13; obtain rfl := sorted_eq a10 a11 (fun p => by rw [b10, b11]; exact law_opt G TA p); refine (pairs_true y10 y11 z10 _ ((c10.below d11).low (Nat.zero_le _)) (c11.low (Nat.zero_le _)) (hlen _ _ a10 b10)).mono ?_; rintro e w32 ⟨rfl, d12⟩; have hd12 := hd11.trans (d12.mono hd11.size); have he12 := he11.trans (d12.mono he11.size); have hS12 := hall w32 hd12)
    | (go_at_call 14; refine (hE _ (.mk 5 ⟨#[]⟩ [TA]) _ _ _ _ _ hd10 rS).mono ?_; rintro e w31 ⟨y11, z11, rfl, a11, b11, c11, d11⟩; have hd11 := hd10.trans (d11.mono hd10.size); have he11 := he10.trans (d11.mono he10.size); have hS11 := hall w31 hd11)
    | (go_at_call 14; refine (hE2 _ (.mk 7 ⟨#[]⟩ [.mk 6 ⟨#[]⟩ [TA]]) _ _ _ _ _ hd9 r9).mono ?_; rintro e w30 ⟨y10, z10, rfl, a10, b10, c10, d10⟩; have hd10 := hd9.trans (d10.mono hd9.size); have he10 := he9.trans (d10.mono he9.size); have hS10 := hall w30 hd10)
    | (go_at_call 16; refine (of1_calls 7 (.mk 6 ⟨#[]⟩ [TA]) _ _ _ _ _ _ r8).mono ?_; rintro e w29 ⟨o9', s9', x9', n9', m9', rfl, r9, d9⟩; have hd9 := hd8.trans (d9.mono hd8.size); have he9 := he8.trans (d9.mono he8.size); have hS9 := hall w29 hd9)
    | (go_at_call 16; refine (of1_calls 6 TA _ _ _ _ _ _ (rA.later hd7)).mono ?_; rintro e w28 ⟨o8', s8', x8', n8', m8', rfl, r8, d8⟩; have hd8 := hd7.trans (d8.mono hd7.size); have he8 := he7.trans (d8.mono he7.size); have hS8 := hall w28 hd8)
    | (go_at_call 13; obtain rfl := sorted_eq a5 a6 (fun p => by rw [b5, b6]; exact law_star G TA p); refine (pairs_true y5 y6 z5 _ ((c5.below d6).low (Nat.zero_le _)) (c6.low (Nat.zero_le _)) (hlen _ _ a5 b5)).mono ?_; rintro e w27 ⟨rfl, d7⟩; have hd7 := hd6.trans (d7.mono hd6.size); have he7 := he6.trans (d7.mono he6.size); have hS7 := hall w27 hd7)
    | (go_at_call 14; refine (hE _ (.mk 5 ⟨#[]⟩ [TA]) _ _ _ _ _ hd5 rS).mono ?_; rintro e w26 ⟨y6, z6, rfl, a6, b6, c6, d6⟩; have hd6 := hd5.trans (d6.mono hd5.size); have he6 := he5.trans (d6.mono he5.size); have hS6 := hall w26 hd6)
    | (go_at_call 14; refine (hE2 _ (.mk 5 ⟨#[]⟩ [(.mk 5 ⟨#[]⟩ [TA])]) _ _ _ _ _ hd4 r4).mono ?_; rintro e w25 ⟨y5, z5, rfl, a5, b5, c5, d5⟩; have hd5 := hd4.trans (d5.mono hd4.size); have he5 := he4.trans (d5.mono he4.size); have hS5 := hall w25 hd5)
    | (go_at_call 16; refine (of1_calls 5 (.mk 5 ⟨#[]⟩ [TA]) _ _ _ _ _ _ (rS.later hd3)).mono ?_; rintro e w24 ⟨o4', s4', x4', n4', m4', rfl, r4, d4⟩; have hd4 := hd3.trans (d4.mono hd3.size); have he4 := he3.trans (d4.mono he3.size); have hS4 := hall w24 hd4)
    | (go_at_call 13; obtain rfl := sorted_eq a1 a2 (fun p => by rw [b1, b2]; exact law_inv G TA p); refine (pairs_true y1 y2 z1 _ ((c1.below d2).low (Nat.zero_le _)) (c2.low (Nat.zero_le _)) (hlen _ _ a1 b1)).mono ?_; rintro e w23 ⟨rfl, d3⟩; have hd3 := hd2.trans (d3.mono hd2.size); have he3 := he2.trans (d3.mono he2.size); have hS3 := hall w23 hd3)
    | (go_at_call 14; refine (hE _ TA _ _ _ _ _ hd1 rA).mono ?_; rintro e w22 ⟨y2, z2, rfl, a2, b2, c2, d2⟩; have hd2 := hd1.trans (d2.mono hd1.size); have he2 := he1.trans (d2.mono he1.size); have hS2 := hall w22 hd2)
    | (go_at_call 14; refine (hE _ (.mk 2 ⟨#[]⟩ [.mk 2 ⟨#[]⟩ [TA]]) _ _ _ _ _ hd0 rI).mono ?_; rintro e w21 ⟨y1, z1, rfl, a1, b1, c1, d1⟩; have hd1 := hd0.trans (d1.mono hd0.size); have he1 := he0.trans (d1.mono he0.size); have hS1 := hall w21 hd1))
  all_goals
    go_wp2
    go_ret
    exact ⟨rfl, bW.trans (hd19.mono bW.size)⟩
end
end Go.Proofs.Ytaeiikielelicaa.Pt
