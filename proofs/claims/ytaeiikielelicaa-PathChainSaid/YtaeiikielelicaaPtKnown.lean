/- known, and the statement PathEnds. -/
import Derived.Test.YtaeiikielelicaaPtWay3
import Derived.Deep.RegionHeld3
set_option linter.unusedVariables false
set_option linter.unusedSimpArgs false
set_option linter.unusedSectionVars false
set_option linter.deprecated false
namespace Go.Proofs.Ytaeiikielelicaa.Pt
open Go.RowKit Go.Proofs Go.Am
open Pm
set_option maxRecDepth 1000000
set_option linter.unusedVariables false
set_option linter.unusedSimpArgs false
noncomputable section
set_option maxHeartbeats 1000000 in
theorem equal0 (w : World) : Calls Try.prog 37 #[.slice none 0 0, .slice none 0 0, .func (.func 17) #[] #[]] w fun e w' => e = .returned (.bool true) ∧ w' = w := by
  go_enter Try.func37, Try.ntmps37
  go_wp2
  go_loopg [17] 1 (fun gf i wx => i = .int .i64 0 ∧ wx = w ∧ 0 < gf)
  case atStart => exact ⟨rfl, rfl, by omega⟩
  case round =>
    obtain ⟨rfl, rfl, hfu⟩ := hrel
    go_wp2
    go_ret
    exact ⟨rfl, rfl⟩
set_option maxHeartbeats 1000000 in
theorem same0 (w : World) : Calls Try.prog 17 #[.agg #[.int .i64 0, .string ⟨#[]⟩, .slice none 0 0], .agg #[.int .i64 0, .string ⟨#[]⟩, .slice none 0 0]] w fun e w' => e = .returned (.bool true) ∧ Below w.heap.size w w' := by
  have hb0 : ∀ o o', Below w.heap.size w ((w.alloc o).alloc o') := fun o o' => ((Below.refl _ w).alloc (Nat.le_refl _) _).alloc (by simp) _
  go_enter Try.func17, Try.ntmps17
  go_wp2_with (go_at_call 37; refine (equal0 _).mono ?_; rintro e w1 ⟨rfl, rfl⟩)
  go_ret
  exact ⟨rfl, hb0 _ _⟩
set_option maxHeartbeats 1000000 in
theorem known_calls (w : World) : Calls Try.prog 10 #[] w fun e w' => e = .returned (.bool true) ∧ Below w.heap.size w w' := by
  have hb0 : Below w.heap.size w (w.alloc (.cells #[.int .i64 1, .string ⟨#[112]⟩, .slice none 0 0] 28)) := (Below.refl _ w).alloc (Nat.le_refl _) _
  have hh := World.alloc_heap_new w (.cells #[.int .i64 1, .string ⟨#[112]⟩, .slice none 0 0] 28)
  have hT : RepW (w.alloc (.cells #[.int .i64 1, .string ⟨#[112]⟩, .slice none 0 0] 28)) (.mk 5 ⟨#[]⟩ [.mk 1 ⟨#[112]⟩ []]) (.agg #[.int .i64 5, .string ⟨#[]⟩, .slice (some ⟨w.heap.size, 0, none⟩) 1 1]) := by
    obtain ⟨x0, x1, x2, _⟩ := box3 hh
    refine .node 5 ⟨#[]⟩ [.mk 1 ⟨#[112]⟩ []] w.heap.size 1 (by simp) (by simp) (by simp) (fun _ => .int .i64 1) (fun _ => .string ⟨#[112]⟩) (fun _ => .slice none 0 0) (fun j hj => ?_) (fun j k hj => ?_)
    · obtain rfl : j = 0 := by simp at hj; omega
      simp only [Nat.zero_mul, Nat.zero_add]
      exact ⟨x0, x1, x2⟩
    · match j, hj with
      | 0, hj => cases hj; exact .leaf _ _
  have he := ends_calls (.slice none 0 0) [] (.mk 5 ⟨#[]⟩ [.mk 1 ⟨#[112]⟩ []]) _ _ (.inl ⟨rfl, rfl⟩) (by simp) hT
  have hf : ∀ p, ¬ rel [] (.mk 5 ⟨#[]⟩ [.mk 1 ⟨#[112]⟩ []]) p := fun p h => by have := (inT_rel [] _ p h).1; simp [termsL] at this
  unfold EndsOk at he
  clear hh hT
  go_enter Try.func10, Try.ntmps10
  go_wp2_with (first
    | (go_at_call 14; refine he.mono ?_; rintro e w1 ⟨rv, zs, rfl, h1, h2, h3, h4⟩; obtain rfl : zs = [] := (List.eq_nil_iff_forall_not_mem.2 fun p hp => hf p ((h2 p).1 hp)); obtain ⟨ad, cp, rfl, -⟩ := h3.view)
    | (go_at_call 17; refine (same0 _).mono ?_; rintro e w2 ⟨rfl, h5⟩))
  go_ret
  have hs := h4.size
  simp only [World.size_alloc] at hs
  exact ⟨rfl, hb0.trans ((h4.mono (by simp)).trans (h5.mono (by omega)))⟩
def G25 (ns : List Int) : List T3 := (ns.take 25).map trOf
/-- a graph made, and a way made. -/
theorem iris_of {G : List T3} {ns : List Int} (h : ∀ t, t ∈ G ↔ t ∈ G25 ns) : Iris G := fun t ht => by
  obtain ⟨n, _, rfl⟩ := List.mem_map.1 ((h t).1 ht)
  exact trOf_iri n
theorem g25_len {G : List T3} {ns : List Int} (h : G.length ≤ (G25 ns).length) : G.length ≤ 25 := by
  unfold G25 at h
  simp at h
  omega
def conjB (W : World) (B : Nat) (o : Int) (s : ByteArray) (a : Option Addr) (n m : Nat) : Prop := W.cell? ⟨B, 0, none⟩ = some (.int .i64 o) ∧ W.cell? ⟨B, 1, none⟩ = some (.string s) ∧ W.cell? ⟨B, 2, none⟩ = some (.slice a n m)
set_option maxHeartbeats 4000000 in
theorem ends_law (v0 v1 : Value) (gs ws : List Int) (w : World) (hg : NsOk w v0 gs) (hw : NsOk w v1 ws) (hgl : gs.length ≤ 9223372036854775807) (hwl : ws.length ≤ 9223372036854775807) : Calls Try.prog 3 #[v0, v1] w fun e w' => e = .returned (.bool true) ∧ Below w.heap.size w w' := by
  have hkn := known_calls w
  have hgr : ∀ w1, Below w.heap.size w w1 → Calls Try.prog 11 #[v0] w1 (SetPost w1 (G25 gs)) := fun w1 h => graph_calls v0 gs w1 (hg.below h) hgl
  have hwy : ∀ w1, Below w.heap.size w w1 → Calls Try.prog 12 #[v1] w1 (WPost w1 (wayF ws 3 0).1) := fun w1 h => Way_calls v1 ws w1 (hw.below h) hwl
  generalize (wayF ws 3 0).1 = T at hwy
  obtain ⟨a0, c0, rfl, -⟩ := hg
  obtain ⟨a1, c1, rfl, -⟩ := hw
  go_enter Try.func3, Try.ntmps3
  go_wp2_with (first
    | (go_at_call 10; refine hkn.mono ?_; rintro e w1 ⟨rfl, b1⟩)
    | (go_at_call 11; refine (hgr _ b1).mono ?_; rintro e w2 ⟨gv, G, rfl, g1, g2, g3, g4⟩; have b2 := b1.trans (g4.mono b1.size))
    | (go_at_call 12; refine (hwy _ b2).mono ?_; rintro e w3 ⟨o, s, a, n, m, rfl, t1, t2⟩; have b3 := b2.trans (t2.mono b2.size)))
  have hn := g25_len g2
  have hI := iris_of g1
  have hG3 : GOk w3 gv G := (g3.below t2).ok
  have hTl : (termsL G).length ≤ 1000 := by rw [termsL_len]; omega
  have hE := fun W (h : Below w3.heap.size w3 W) => ends_calls gv G T _ W (hG3.below h) (by omega) (t1.later h)
  have hR := fun W (h : Below w3.heap.size w3 W) => ends_ref t1 gv G (by omega) hI W h (hG3.below h)
  unfold EndsOk at hE
  unfold RefOk at hR
  have hB0 : Below w3.heap.size w3 (w3.alloc (.cells #[.int .i64 o, .string s, .slice a n m] 28)) := (Below.refl _ w3).alloc (Nat.le_refl _) _
  have hcell : ∀ W, Below (w3.heap.size + 1) (w3.alloc (.cells #[.int .i64 o, .string s, .slice a n m] 28)) W → (W.cell? ⟨w3.heap.size, 0, none⟩ = some (.int .i64 o) ∧ W.cell? ⟨w3.heap.size, 1, none⟩ = some (.string s) ∧ W.cell? ⟨w3.heap.size, 2, none⟩ = some (.slice a n m)) := fun W h => by
    obtain ⟨x0, x1, x2, _⟩ := box3 ((h.block w3.heap.size (by omega)).trans (World.alloc_heap_new w3 (.cells #[.int .i64 o, .string s, .slice a n m] 28)))
    exact ⟨x0, x1, x2⟩
  have hb0 : Below (w3.heap.size + 1) (w3.alloc (.cells #[.int .i64 o, .string s, .slice a n m] 28)) (w3.alloc (.cells #[.int .i64 o, .string s, .slice a n m] 28)).drew := (Below.refl _ _).drew
  have hS0 := hcell _ hb0
  have hd0 := hB0.trans (hb0.mono (Nat.le_succ _))
  obtain ⟨adg, cg, rfl, -⟩ := gview hG3
  clear hgr hwy hkn g1 g2 g3 g4 t1 t2
  go_region_held3 (fun W => W.cell? ⟨w3.heap.size, 0, none⟩ = some (.int .i64 o) ∧ W.cell? ⟨w3.heap.size, 1, none⟩ = some (.string s) ∧ W.cell? ⟨w3.heap.size, 2, none⟩ = some (.slice a n m)) (first | exact hS0 | exact hS1 | exact hS2 | exact hS3)
    (first
    | (go_at_call 14; refine (hE _ hd0).mono ?_; rintro e w4 ⟨rv1, zs1, rfl, p1, p2, p3, p4⟩; have hb1 := hb0.trans (p4.mono (by simp)); have hS1 := hcell w4 hb1; have hd1 := hB0.trans (hb1.mono (Nat.le_succ _)))
    | (go_at_call 15; refine (hR w4 hd1).mono ?_; rintro e w5 ⟨rv2, zs2, rfl, q1, q2, q3, q4⟩; have hb2 := hb1.trans (q4.mono (by have := hb1.size; simpa using this)); have hS2 := hcell w5 hb2; obtain rfl := sorted_eq p1 q1 (fun p => by rw [p2, q2]); have hlen := in2_len (T := termsL G) (fun p hp => inT_rel G T p ((p2 p).1 hp)) p1 hTl)
    | (go_at_call 13; refine (pairs_true rv1 rv2 zs1 w5 ((p3.below q4).low (Nat.zero_le _)) (q3.low (Nat.zero_le _)) hlen).mono ?_; rintro e w6 ⟨rfl, u1⟩; have hb3 := hb2.trans (u1.mono (by have := hb2.size; simpa using this)); have hS3 := hcell w6 hb3))
  all_goals
    go_wp2
    go_ret
    exact ⟨rfl, b3.trans ((hB0.trans (hb3.mono (Nat.le_succ _))).mono b3.size)⟩
end
end Go.Proofs.Ytaeiikielelicaa.Pt
