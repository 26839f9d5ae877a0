/- The walk of PathChain. -/
import Derived.Test.YtaeiikielelicaaPtChainP
import Derived.Test.YtaeiikielelicaaPtGraph
set_option linter.unusedVariables false
set_option linter.unusedSimpArgs false
set_option linter.unusedSectionVars false
set_option linter.deprecated false
namespace Go.Proofs.Ytaeiikielelicaa.Pt
open Go.RowKit Go.Proofs Go.Am
open Pm
set_option maxRecDepth 1000000
set_option linter.unusedVariables false
set_option linter.unusedSimpArgs false
noncomputable section
theorem und75 : Try.prog.underlying 75 = some (.slice 5) := by kernel_rfl
theorem und5 : Try.prog.underlying 5 = some (.int .u8) := by kernel_rfl
theorem und9 : Try.prog.underlying 9 = some .string := by kernel_rfl
theorem conv1 (b : UInt8) (w : World) : (convert 75 9 (.slice (some ⟨w.heap.size, 0, none⟩) 1 1)).run Try.prog (w.alloc (.cells #[.int .u8 (b.toNat : Int)] 5)) = .ok (.string ⟨#[b]⟩) (w.alloc (.cells #[.int .u8 (b.toNat : Int)] 5)) :=
  run_convert_bytes_back _ 75 9 5 ⟨w.heap.size, 0, none⟩ 1 [b] und75 und5 und9 (fun j hj => by
    obtain rfl : j = 0 := by simp at hj; omega
    have h := World.alloc_heap_new w (.cells #[.int .u8 (b.toNat : Int)] 5)
    rw [addr_addT]
    unfold World.cell?
    dsimp only
    rw [h]
    rfl)
set_option maxHeartbeats 2000000 in
theorem name_calls (i : Nat) (hi : i ≤ 12) (w : World) : Calls Try.prog 23 #[.int .i64 (i : Int)] w fun e w' => e = .returned (.string (nmB i)) ∧ Below w.heap.size w w' := by
  have hb : ∀ o, Below w.heap.size w (w.alloc o) := fun o => (Below.refl _ w).alloc (Nat.le_refl _) o
  have h12 : i = 0 ∨ i = 1 ∨ i = 2 ∨ i = 3 ∨ i = 4 ∨ i = 5 ∨ i = 6 ∨ i = 7 ∨ i = 8 ∨ i = 9 ∨ i = 10 ∨ i = 11 ∨ i = 12 := by omega
  rcases h12 with rfl | rfl | rfl | rfl | rfl | rfl | rfl | rfl | rfl | rfl | rfl | rfl | rfl
  · have hc := conv1 97 w
    rw [show ((97 : UInt8).toNat : Int) = 97 from rfl] at hc
    go_enter Try.func23, Try.ntmps23
    go_wp2
    go_ret
    exact ⟨rfl, hb _⟩
  · have hc := conv1 98 w
    rw [show ((98 : UInt8).toNat : Int) = 98 from rfl] at hc
    go_enter Try.func23, Try.ntmps23
    go_wp2
    go_ret
    exact ⟨rfl, hb _⟩
  · have hc := conv1 99 w
    rw [show ((99 : UInt8).toNat : Int) = 99 from rfl] at hc
    go_enter Try.func23, Try.ntmps23
    go_wp2
    go_ret
    exact ⟨rfl, hb _⟩
  · have hc := conv1 100 w
    rw [show ((100 : UInt8).toNat : Int) = 100 from rfl] at hc
    go_enter Try.func23, Try.ntmps23
    go_wp2
    go_ret
    exact ⟨rfl, hb _⟩
  · have hc := conv1 101 w
    rw [show ((101 : UInt8).toNat : Int) = 101 from rfl] at hc
    go_enter Try.func23, Try.ntmps23
    go_wp2
    go_ret
    exact ⟨rfl, hb _⟩
  · have hc := conv1 102 w
    rw [show ((102 : UInt8).toNat : Int) = 102 from rfl] at hc
    go_enter Try.func23, Try.ntmps23
    go_wp2
    go_ret
    exact ⟨rfl, hb _⟩
  · have hc := conv1 103 w
    rw [show ((103 : UInt8).toNat : Int) = 103 from rfl] at hc
    go_enter Try.func23, Try.ntmps23
    go_wp2
    go_ret
    exact ⟨rfl, hb _⟩
  · have hc := conv1 104 w
    rw [show ((104 : UInt8).toNat : Int) = 104 from rfl] at hc
    go_enter Try.func23, Try.ntmps23
    go_wp2
    go_ret
    exact ⟨rfl, hb _⟩
  · have hc := conv1 105 w
    rw [show ((105 : UInt8).toNat : Int) = 105 from rfl] at hc
    go_enter Try.func23, Try.ntmps23
    go_wp2
    go_ret
    exact ⟨rfl, hb _⟩
  · have hc := conv1 106 w
    rw [show ((106 : UInt8).toNat : Int) = 106 from rfl] at hc
    go_enter Try.func23, Try.ntmps23
    go_wp2
    go_ret
    exact ⟨rfl, hb _⟩
  · have hc := conv1 107 w
    rw [show ((107 : UInt8).toNat : Int) = 107 from rfl] at hc
    go_enter Try.func23, Try.ntmps23
    go_wp2
    go_ret
    exact ⟨rfl, hb _⟩
  · have hc := conv1 108 w
    rw [show ((108 : UInt8).toNat : Int) = 108 from rfl] at hc
    go_enter Try.func23, Try.ntmps23
    go_wp2
    go_ret
    exact ⟨rfl, hb _⟩
  · have hc := conv1 109 w
    rw [show ((109 : UInt8).toNat : Int) = 109 from rfl] at hc
    go_enter Try.func23, Try.ntmps23
    go_wp2
    go_ret
    exact ⟨rfl, hb _⟩
set_option maxHeartbeats 8000000 in
theorem chain_line (n : Int) (w : World) (hn1 : -9223372036854775808 ≤ n) (hn2 : n ≤ 9223372036854775807) :
    Calls Try.prog 9 #[.int .i64 n, .bool false] w fun e w' => e = .returned (.bool true) ∧ Below w.heap.size w w' := by
  have hkn := known_calls w
  obtain ⟨i0, hi, hz0, hz1, hz2⟩ := info_parts info43
  have hwi := fun W => within_calls n 12 W (by omega) (by omega) hn1 hn2
  obtain ⟨m, hm, hm3, -⟩ := mod_nat n 12 (by omega)
  rw [hm] at hwi
  obtain ⟨N, hN⟩ : ∃ N, N = m + 1 := ⟨_, rfl⟩
  have hmN : (1 : Int) + (m : Int) = (N : Int) := by omega
  have hN0 : 0 < N := by omega
  have hN12 : N ≤ 12 := by omega
  have hNz : ((N : Int) == 0) = false := by simp; omega
  clear hm3 hm hN
  have hrow0 : ∀ W, RowT w.heap.size W (.slice none 0 0) [] := fun W => ⟨rfl, .inl ⟨rfl, rfl⟩⟩
  go_enter Try.func9, Try.ntmps9
  go_wp2_with (first
    | (go_at_call 10; refine hkn.mono ?_; rintro e w1 ⟨rfl, b1⟩)
    | (go_at_call 19; refine (hwi _).mono ?_; rintro e w16 ⟨rfl, rfl⟩))
  go_loopg [5, 6] (N + 1) (fun gf l i wx => ∃ (j : Nat), i = .int .i64 (j : Int) ∧ j ≤ N ∧ RowT w.heap.size wx l ((chainG N false).take j) ∧ Below w.heap.size w wx ∧ N < gf + j)
  case atStart => exact ⟨0, rfl, by omega, hrow0 _, b1, by omega⟩
  case round =>
   clear hrow0
   obtain ⟨j, rfl, hj, hrow, hbw, hfu⟩ := hrel
   by_cases hlt : j < N
   · have hltI : (j : Int) < (N : Int) := by omega
     obtain ⟨g', rfl⟩ : ∃ g', gk = g' + 1 := ⟨gk - 1, by omega⟩
     have hget : (chainG N false)[j]? = some (trC N false j) := by simp [chainG, hlt]
     have htk : (chainG N false).take (j + 1) = (chainG N false).take j ++ [trC N false j] := by rw [List.take_add_one, hget]; rfl
     have hlen : ((chainG N false).take j).length = j := by simp [chainG]; omega
     have hto : toF N false j ≤ 12 := by unfold toF; simp; omega
     have htoI : ((toF N false j : Nat) : Int) = (j : Int) + 1 := by unfold toF; simp
     have hc1 := fun W => name_calls j (by omega) W
     have hc2 := fun W => name_calls (toF N false j) hto W
     rw [htoI] at hc2
     have hTr : cTr (trC N false j) = [.int .i64 1, .string (nmB j), .string ⟨#[]⟩, .string ⟨#[]⟩, .int .i64 1, .string ⟨#[112, 58, 49]⟩, .string ⟨#[]⟩, .string ⟨#[]⟩, .int .i64 1, .string (nmB (toF N false j)), .string ⟨#[]⟩, .string ⟨#[]⟩] := rfl
     generalize nmB (toF N false j) = yt at hc2 hTr
     clear hget
     go_wp2_with (first
        | (go_at_call_of 23 (#[Value.int .i64 (j : Int)] : Array Value); refine (hc1 _).mono ?_; rintro e w2 ⟨rfl, q2⟩; have d2 := hbw.trans (q2.mono hbw.size); have r2 := hrow.below q2; clear hc1)
        | (go_at_call 23; refine (hc2 _).mono ?_; rintro e w3 ⟨rfl, q3⟩; have d3 := d2.trans (q3.mono d2.size); have r3 := r2.below q3)
        | (at_builtin; refine wpList_append_own _ rfl (.tmp 28) (.tmp 37) 24 rfl w.heap.size 43 i0 _ 12 168 und24 hi hz0 hz1 hz2 rfl (by decide) _ _ _ rfl (by exact RowT.below r3 ((Below.refl _ _).alloc (Nat.le_refl _) _)) ⟨_, 0, none⟩ 1 1 [.int .i64 1, .string (nmB j), .string ⟨#[]⟩, .string ⟨#[]⟩, .int .i64 1, .string ⟨#[112, 58, 49]⟩, .string ⟨#[]⟩, .string ⟨#[]⟩, .int .i64 1, .string yt, .string ⟨#[]⟩, .string ⟨#[]⟩] rfl rfl (cell_newN rfl _ _) (by rw [← hTr]; exact oneTr _) (by unfold maxLen; omega) (by omega) (by have := d3.size; simp; omega) ?_; intro v' w4 hown' hgrow hnil))
     have hb2' := grow_end hgrow (Nat.le_refl _) d3 r3 ((Below.refl _ _).alloc (Nat.le_refl _) _)
     go_roundg g'
     case measure => omega
     case rel => exact ⟨j + 1, congrArg (Value.int .i64) (by omega), by omega, by rw [htk]; unfold RowT; rw [List.length_append, List.flatMap_append]; simpa [hTr] using hown', hb2', by omega⟩
   · have hltI : ¬ (j : Int) < (N : Int) := by omega
     obtain rfl : j = N := by omega
     have htk : (chainG j false).take j = chainG j false := List.take_of_length_le (by simp [chainG])
     rw [htk] at hrow
     have hset := set_calls _ (chainG j false) _ hrow.ok (by simp [chainG]; omega)
     obtain ⟨agc, cgc, hgv, -⟩ := gview hrow.ok
     subst hgv
     go_wp2_with (go_at_call 24; refine hset.mono ?_; rintro e w5 ⟨gv, G, rfl, hmem, g2, g3, g4⟩; have b5 := hbw.trans (g4.mono hbw.size))
     have hn : G.length ≤ 12 := by have : (chainG j false).length = j := by simp [chainG]
                                   omega
     have hG5 : GOk w5 gv G := g3.ok
     have hB1 : Below w5.heap.size w5 (w5.alloc (.cells #[.int .i64 1, .string ⟨#[112, 58, 49]⟩, .slice none 0 0] 28)) := (Below.refl _ w5).alloc (Nat.le_refl _) _
     have hE : ∀ W t o s a n m, Below w5.heap.size w5 W → RepW W t (.agg #[.int .i64 o, .string s, .slice a n m]) → EndsOk 14 gv (.agg #[.int .i64 o, .string s, .slice a n m]) (rel G t) W := fun W t o s a n m h ht => ends_calls gv G t _ W (hG5.below h) (by omega) ht
     have hcell : ∀ W, Below (w5.alloc (.cells #[.int .i64 1, .string ⟨#[112, 58, 49]⟩, .slice none 0 0] 28)).heap.size (w5.alloc (.cells #[.int .i64 1, .string ⟨#[112, 58, 49]⟩, .slice none 0 0] 28)) W → (W.cell? ⟨w5.heap.size, 0, none⟩ = some (.int .i64 1) ∧ W.cell? ⟨w5.heap.size, 1, none⟩ = some (.string ⟨#[112, 58, 49]⟩) ∧ W.cell? ⟨w5.heap.size, 2, none⟩ = some (.slice none 0 0)) := fun W h => by
       obtain ⟨x0, x1, x2, _⟩ := box3 ((h.block w5.heap.size (by simp)).trans (World.alloc_heap_new w5 (.cells #[.int .i64 1, .string ⟨#[112, 58, 49]⟩, .slice none 0 0] 28)))
       exact ⟨x0, x1, x2⟩
     have hd0 : Below (w5.alloc (.cells #[.int .i64 1, .string ⟨#[112, 58, 49]⟩, .slice none 0 0] 28)).heap.size (w5.alloc (.cells #[.int .i64 1, .string ⟨#[112, 58, 49]⟩, .slice none 0 0] 28)) (w5.alloc (.cells #[.int .i64 1, .string ⟨#[112, 58, 49]⟩, .slice none 0 0] 28)).drew := (Below.refl _ _).drew
     have hS0 := hcell _ hd0
     have hlow := fun W (h : Below (w5.alloc (.cells #[.int .i64 1, .string ⟨#[112, 58, 49]⟩, .slice none 0 0] 28)).heap.size (w5.alloc (.cells #[.int .i64 1, .string ⟨#[112, 58, 49]⟩, .slice none 0 0] 28)) W) => hB1.trans (h.mono (by simp))
     have hf6 := fun W => of1_calls 6 (.mk 1 pB []) 1 pB none 0 0 W (.leaf 1 pB)
     have hf5 := fun W => of1_calls 5 (.mk 1 pB []) 1 pB none 0 0 W (.leaf 1 pB)
     unfold EndsOk at hE
     dsimp only [pB] at hf5 hf6
     clear hset hrow g3 g4 hkn hwi
     go_region_held3 (fun W => (W.cell? ⟨w5.heap.size, 0, none⟩ = some (.int .i64 1) ∧ W.cell? ⟨w5.heap.size, 1, none⟩ = some (.string ⟨#[112, 58, 49]⟩) ∧ W.cell? ⟨w5.heap.size, 2, none⟩ = some (.slice none 0 0))) (first | exact hS4 | exact hS3 | exact hS2 | exact hS1 | exact hS0)
      (first
      | (go_at_call 14; refine (hE _ _ _ _ _ _ _ (hlow _ hd3) r3).mono ?_; rintro e w9 ⟨y2, z2, rfl, a2, c2, k2, q4⟩; have hd4 := hd3.trans (q4.mono hd3.size); have hS4 := hcell w9 hd4)
      | (go_at_call 16; refine (hf5 _).mono ?_; rintro e w8 ⟨o3, s3, x3, n3, m3, rfl, r3, q3⟩; have hd3 := hd2.trans (q3.mono hd2.size); have hS3 := hcell w8 hd3)
      | (go_at_call 14; refine (hE _ _ _ _ _ _ _ (hlow _ hd1) r1).mono ?_; rintro e w7 ⟨y1, z1, rfl, a1, c1, k1, q2⟩; have hd2 := hd1.trans (q2.mono hd1.size); have hS2 := hcell w7 hd2)
      | (go_at_call 16; refine (hf6 _).mono ?_; rintro e w6 ⟨o1, s1, x1, n1, m1, rfl, r1, q1⟩; have hd1 := hd0.trans (q1.mono hd0.size); have hS1 := hcell w6 hd1))
     all_goals
       have e1 := line_plus hN12 hmem a1 c1
       have e2 := line_star hN12 hN0 hmem a2 c2
       have BE := b5.trans ((hlow _ hd4).mono b5.size)
       obtain ⟨ad1, cp1, rfl, -⟩ := k1.view
       obtain ⟨ad2, cp2, rfl, -⟩ := k2.view
       clear hS0 hS1 hS2 hS3 hS4 hE hf5 hf6 hcell hlow hmem g2 hn hG5 hB1 a1 a2 c1 c2 k1 k2 q1 q2 q3 q4 r1 r3 hd0 hd1 hd2 hd3 hd4 b5 hbw
       have hc : j = 1 ∨ j = 2 ∨ j = 3 ∨ j = 4 ∨ j = 5 ∨ j = 6 ∨ j = 7 ∨ j = 8 ∨ j = 9 ∨ j = 10 ∨ j = 11 ∨ j = 12 := by omega
       rcases hc with rfl | rfl | rfl | rfl | rfl | rfl | rfl | rfl | rfl | rfl | rfl | rfl
       · have f1 : (z1.length : Int) = 1 := by rw [e1]; rfl
         have f2 : (z2.length : Int) = 3 := by rw [e2]; rfl
         clear e1 e2
         go_wp2
         go_ret
         exact ⟨rfl, BE⟩
       · have f1 : (z1.length : Int) = 3 := by rw [e1]; rfl
         have f2 : (z2.length : Int) = 6 := by rw [e2]; rfl
         clear e1 e2
         go_wp2
         go_ret
         exact ⟨rfl, BE⟩
       · have f1 : (z1.length : Int) = 6 := by rw [e1]; rfl
         have f2 : (z2.length : Int) = 10 := by rw [e2]; rfl
         clear e1 e2
         go_wp2
         go_ret
         exact ⟨rfl, BE⟩
       · have f1 : (z1.length : Int) = 10 := by rw [e1]; rfl
         have f2 : (z2.length : Int) = 15 := by rw [e2]; rfl
         clear e1 e2
         go_wp2
         go_ret
         exact ⟨rfl, BE⟩
       · have f1 : (z1.length : Int) = 15 := by rw [e1]; rfl
         have f2 : (z2.length : Int) = 21 := by rw [e2]; rfl
         clear e1 e2
         go_wp2
         go_ret
         exact ⟨rfl, BE⟩
       · have f1 : (z1.length : Int) = 21 := by rw [e1]; rfl
         have f2 : (z2.length : Int) = 28 := by rw [e2]; rfl
         clear e1 e2
         go_wp2
         go_ret
         exact ⟨rfl, BE⟩
       · have f1 : (z1.length : Int) = 28 := by rw [e1]; rfl
         have f2 : (z2.length : Int) = 36 := by rw [e2]; rfl
         clear e1 e2
         go_wp2
         go_ret
         exact ⟨rfl, BE⟩
       · have f1 : (z1.length : Int) = 36 := by rw [e1]; rfl
         have f2 : (z2.length : Int) = 45 := by rw [e2]; rfl
         clear e1 e2
         go_wp2
         go_ret
         exact ⟨rfl, BE⟩
       · have f1 : (z1.length : Int) = 45 := by rw [e1]; rfl
         have f2 : (z2.length : Int) = 55 := by rw [e2]; rfl
         clear e1 e2
         go_wp2
         go_ret
         exact ⟨rfl, BE⟩
       · have f1 : (z1.length : Int) = 55 := by rw [e1]; rfl
         have f2 : (z2.length : Int) = 66 := by rw [e2]; rfl
         clear e1 e2
         go_wp2
         go_ret
         exact ⟨rfl, BE⟩
       · have f1 : (z1.length : Int) = 66 := by rw [e1]; rfl
         have f2 : (z2.length : Int) = 78 := by rw [e2]; rfl
         clear e1 e2
         go_wp2
         go_ret
         exact ⟨rfl, BE⟩
       · have f1 : (z1.length : Int) = 78 := by rw [e1]; rfl
         have f2 : (z2.length : Int) = 91 := by rw [e2]; rfl
         clear e1 e2
         go_wp2
         go_ret
         exact ⟨rfl, BE⟩

set_option maxHeartbeats 8000000 in
theorem chain_ring (n : Int) (w : World) (hn1 : -9223372036854775808 ≤ n) (hn2 : n ≤ 9223372036854775807) :
    Calls Try.prog 9 #[.int .i64 n, .bool true] w fun e w' => e = .returned (.bool true) ∧ Below w.heap.size w w' := by
  have hkn := known_calls w
  obtain ⟨i0, hi, hz0, hz1, hz2⟩ := info_parts info43
  have hwi := fun W => within_calls n 12 W (by omega) (by omega) hn1 hn2
  obtain ⟨m, hm, hm3, -⟩ := mod_nat n 12 (by omega)
  rw [hm] at hwi
  obtain ⟨N, hN⟩ : ∃ N, N = m + 1 := ⟨_, rfl⟩
  have hmN : (1 : Int) + (m : Int) = (N : Int) := by omega
  have hN0 : 0 < N := by omega
  have hN12 : N ≤ 12 := by omega
  have hNz : ((N : Int) == 0) = false := by simp; omega
  clear hm3 hm hN
  have hrow0 : ∀ W, RowT w.heap.size W (.slice none 0 0) [] := fun W => ⟨rfl, .inl ⟨rfl, rfl⟩⟩
  go_enter Try.func9, Try.ntmps9
  go_wp2_with (first
    | (go_at_call 10; refine hkn.mono ?_; rintro e w1 ⟨rfl, b1⟩)
    | (go_at_call 19; refine (hwi _).mono ?_; rintro e w16 ⟨rfl, rfl⟩))
  go_loopg [5, 6] (N + 1) (fun gf l i wx => ∃ (j : Nat), i = .int .i64 (j : Int) ∧ j ≤ N ∧ RowT w.heap.size wx l ((chainG N true).take j) ∧ Below w.heap.size w wx ∧ N < gf + j)
  case atStart => exact ⟨0, rfl, by omega, hrow0 _, b1, by omega⟩
  case round =>
   clear hrow0
   obtain ⟨j, rfl, hj, hrow, hbw, hfu⟩ := hrel
   by_cases hlt : j < N
   · have hltI : (j : Int) < (N : Int) := by omega
     obtain ⟨g', rfl⟩ : ∃ g', gk = g' + 1 := ⟨gk - 1, by omega⟩
     have hget : (chainG N true)[j]? = some (trC N true j) := by simp [chainG, hlt]
     have htk : (chainG N true).take (j + 1) = (chainG N true).take j ++ [trC N true j] := by rw [List.take_add_one, hget]; rfl
     have hlen : ((chainG N true).take j).length = j := by simp [chainG]; omega
     have hto : toF N true j ≤ 12 := by unfold toF; simp; have := Nat.mod_lt (j + 1) hN0; omega
     have htoI : ((toF N true j : Nat) : Int) = (((j + 1) % N : Nat) : Int) := rfl
     have hrem : ((j : Int) + 1).tmod (N : Int) = (((j + 1) % N : Nat) : Int) := by rw [Int.tmod_eq_emod_of_nonneg (by omega)]; rfl
     have hc1 := fun W => name_calls j (by omega) W
     have hc2 := fun W => name_calls (toF N true j) hto W
     rw [htoI] at hc2
     have hTr : cTr (trC N true j) = [.int .i64 1, .string (nmB j), .string ⟨#[]⟩, .string ⟨#[]⟩, .int .i64 1, .string ⟨#[112, 58, 49]⟩, .string ⟨#[]⟩, .string ⟨#[]⟩, .int .i64 1, .string (nmB (toF N true j)), .string ⟨#[]⟩, .string ⟨#[]⟩] := rfl
     generalize nmB (toF N true j) = yt at hc2 hTr
     clear hget
     go_wp2_with (first
        | (go_at_call_of 23 (#[Value.int .i64 (j : Int)] : Array Value); refine (hc1 _).mono ?_; rintro e w2 ⟨rfl, q2⟩; have d2 := hbw.trans (q2.mono hbw.size); have r2 := hrow.below q2; clear hc1)
        | (go_at_call 23; refine (hc2 _).mono ?_; rintro e w3 ⟨rfl, q3⟩; have d3 := d2.trans (q3.mono d2.size); have r3 := r2.below q3)
        | (at_builtin; refine wpList_append_own _ rfl (.tmp 28) (.tmp 37) 24 rfl w.heap.size 43 i0 _ 12 168 und24 hi hz0 hz1 hz2 rfl (by decide) _ _ _ rfl (by exact RowT.below r3 ((Below.refl _ _).alloc (Nat.le_refl _) _)) ⟨_, 0, none⟩ 1 1 [.int .i64 1, .string (nmB j), .string ⟨#[]⟩, .string ⟨#[]⟩, .int .i64 1, .string ⟨#[112, 58, 49]⟩, .string ⟨#[]⟩, .string ⟨#[]⟩, .int .i64 1, .string yt, .string ⟨#[]⟩, .string ⟨#[]⟩] rfl rfl (cell_newN rfl _ _) (by rw [← hTr]; exact oneTr _) (by unfold maxLen; omega) (by omega) (by have := d3.size; simp; omega) ?_; intro v' w4 hown' hgrow hnil))
     have hb2' := grow_end hgrow (Nat.le_refl _) d3 r3 ((Below.refl _ _).alloc (Nat.le_refl _) _)
     go_roundg g'
     case measure => omega
     case rel => exact ⟨j + 1, congrArg (Value.int .i64) (by omega), by omega, by rw [htk]; unfold RowT; rw [List.length_append, List.flatMap_append]; simpa [hTr] using hown', hb2', by omega⟩
   · have hltI : ¬ (j : Int) < (N : Int) := by omega
     obtain rfl : j = N := by omega
     have htk : (chainG j true).take j = chainG j true := List.take_of_length_le (by simp [chainG])
     rw [htk] at hrow
     have hset := set_calls _ (chainG j true) _ hrow.ok (by simp [chainG]; omega)
     obtain ⟨agc, cgc, hgv, -⟩ := gview hrow.ok
     subst hgv
     go_wp2_with (go_at_call 24; refine hset.mono ?_; rintro e w5 ⟨gv, G, rfl, hmem, g2, g3, g4⟩; have b5 := hbw.trans (g4.mono hbw.size))
     have hn : G.length ≤ 12 := by have : (chainG j true).length = j := by simp [chainG]
                                   omega
     have hG5 : GOk w5 gv G := g3.ok
     have hB1 : Below w5.heap.size w5 (w5.alloc (.cells #[.int .i64 1, .string ⟨#[112, 58, 49]⟩, .slice none 0 0] 28)) := (Below.refl _ w5).alloc (Nat.le_refl _) _
     have hE : ∀ W t o s a n m, Below w5.heap.size w5 W → RepW W t (.agg #[.int .i64 o, .string s, .slice a n m]) → EndsOk 14 gv (.agg #[.int .i64 o, .string s, .slice a n m]) (rel G t) W := fun W t o s a n m h ht => ends_calls gv G t _ W (hG5.below h) (by omega) ht
     have hcell : ∀ W, Below (w5.alloc (.cells #[.int .i64 1, .string ⟨#[112, 58, 49]⟩, .slice none 0 0] 28)).heap.size (w5.alloc (.cells #[.int .i64 1, .string ⟨#[112, 58, 49]⟩, .slice none 0 0] 28)) W → (W.cell? ⟨w5.heap.size, 0, none⟩ = some (.int .i64 1) ∧ W.cell? ⟨w5.heap.size, 1, none⟩ = some (.string ⟨#[112, 58, 49]⟩) ∧ W.cell? ⟨w5.heap.size, 2, none⟩ = some (.slice none 0 0)) := fun W h => by
       obtain ⟨x0, x1, x2, _⟩ := box3 ((h.block w5.heap.size (by simp)).trans (World.alloc_heap_new w5 (.cells #[.int .i64 1, .string ⟨#[112, 58, 49]⟩, .slice none 0 0] 28)))
       exact ⟨x0, x1, x2⟩
     have hd0 : Below (w5.alloc (.cells #[.int .i64 1, .string ⟨#[112, 58, 49]⟩, .slice none 0 0] 28)).heap.size (w5.alloc (.cells #[.int .i64 1, .string ⟨#[112, 58, 49]⟩, .slice none 0 0] 28)) (w5.alloc (.cells #[.int .i64 1, .string ⟨#[112, 58, 49]⟩, .slice none 0 0] 28)).drew := (Below.refl _ _).drew
     have hS0 := hcell _ hd0
     have hlow := fun W (h : Below (w5.alloc (.cells #[.int .i64 1, .string ⟨#[112, 58, 49]⟩, .slice none 0 0] 28)).heap.size (w5.alloc (.cells #[.int .i64 1, .string ⟨#[112, 58, 49]⟩, .slice none 0 0] 28)) W) => hB1.trans (h.mono (by simp))
     have hf6 := fun W => of1_calls 6 (.mk 1 pB []) 1 pB none 0 0 W (.leaf 1 pB)
     have hf5 := fun W => of1_calls 5 (.mk 1 pB []) 1 pB none 0 0 W (.leaf 1 pB)
     unfold EndsOk at hE
     dsimp only [pB] at hf5 hf6
     clear hset hrow g3 g4 hkn hwi
     go_region_held3 (fun W => (W.cell? ⟨w5.heap.size, 0, none⟩ = some (.int .i64 1) ∧ W.cell? ⟨w5.heap.size, 1, none⟩ = some (.string ⟨#[112, 58, 49]⟩) ∧ W.cell? ⟨w5.heap.size, 2, none⟩ = some (.slice none 0 0))) (first | exact hS4 | exact hS3 | exact hS2 | exact hS1 | exact hS0)
      (first
      | (go_at_call 14; refine (hE _ _ _ _ _ _ _ (hlow _ hd3) r3).mono ?_; rintro e w9 ⟨y2, z2, rfl, a2, c2, k2, q4⟩; have hd4 := hd3.trans (q4.mono hd3.size); have hS4 := hcell w9 hd4)
      | (go_at_call 16; refine (hf5 _).mono ?_; rintro e w8 ⟨o3, s3, x3, n3, m3, rfl, r3, q3⟩; have hd3 := hd2.trans (q3.mono hd2.size); have hS3 := hcell w8 hd3)
      | (go_at_call 14; refine (hE _ _ _ _ _ _ _ (hlow _ hd1) r1).mono ?_; rintro e w7 ⟨y1, z1, rfl, a1, c1, k1, q2⟩; have hd2 := hd1.trans (q2.mono hd1.size); have hS2 := hcell w7 hd2)
      | (go_at_call 16; refine (hf6 _).mono ?_; rintro e w6 ⟨o1, s1, x1, n1, m1, rfl, r1, q1⟩; have hd1 := hd0.trans (q1.mono hd0.size); have hS1 := hcell w6 hd1))
     all_goals
       have e1 := ring_plus hN12 hN0 hmem a1 c1
       have e2 := ring_star hN12 hN0 hmem a2 c2
       have BE := b5.trans ((hlow _ hd4).mono b5.size)
       obtain ⟨ad1, cp1, rfl, -⟩ := k1.view
       obtain ⟨ad2, cp2, rfl, -⟩ := k2.view
       clear hS0 hS1 hS2 hS3 hS4 hE hf5 hf6 hcell hlow hmem g2 hn hG5 hB1 a1 a2 c1 c2 k1 k2 q1 q2 q3 q4 r1 r3 hd0 hd1 hd2 hd3 hd4 b5 hbw
       have hc : j = 1 ∨ j = 2 ∨ j = 3 ∨ j = 4 ∨ j = 5 ∨ j = 6 ∨ j = 7 ∨ j = 8 ∨ j = 9 ∨ j = 10 ∨ j = 11 ∨ j = 12 := by omega
       rcases hc with rfl | rfl | rfl | rfl | rfl | rfl | rfl | rfl | rfl | rfl | rfl | rfl
       · have f1 : (z1.length : Int) = 1 := by rw [e1]; rfl
         have f2 : (z2.length : Int) = 1 := by rw [e2]; rfl
         clear e1 e2
         go_wp2
         go_ret
         exact ⟨rfl, BE⟩
       · have f1 : (z1.length : Int) = 4 := by rw [e1]; rfl
         have f2 : (z2.length : Int) = 4 := by rw [e2]; rfl
         clear e1 e2
         go_wp2
         go_ret
         exact ⟨rfl, BE⟩
       · have f1 : (z1.length : Int) = 9 := by rw [e1]; rfl
         have f2 : (z2.length : Int) = 9 := by rw [e2]; rfl
         clear e1 e2
         go_wp2
         go_ret
         exact ⟨rfl, BE⟩
       · have f1 : (z1.length : Int) = 16 := by rw [e1]; rfl
         have f2 : (z2.length : Int) = 16 := by rw [e2]; rfl
         clear e1 e2
         go_wp2
         go_ret
         exact ⟨rfl, BE⟩
       · have f1 : (z1.length : Int) = 25 := by rw [e1]; rfl
         have f2 : (z2.length : Int) = 25 := by rw [e2]; rfl
         clear e1 e2
         go_wp2
         go_ret
         exact ⟨rfl, BE⟩
       · have f1 : (z1.length : Int) = 36 := by rw [e1]; rfl
         have f2 : (z2.length : Int) = 36 := by rw [e2]; rfl
         clear e1 e2
         go_wp2
         go_ret
         exact ⟨rfl, BE⟩
       · have f1 : (z1.length : Int) = 49 := by rw [e1]; rfl
         have f2 : (z2.length : Int) = 49 := by rw [e2]; rfl
         clear e1 e2
         go_wp2
         go_ret
         exact ⟨rfl, BE⟩
       · have f1 : (z1.length : Int) = 64 := by rw [e1]; rfl
         have f2 : (z2.length : Int) = 64 := by rw [e2]; rfl
         clear e1 e2
         go_wp2
         go_ret
         exact ⟨rfl, BE⟩
       · have f1 : (z1.length : Int) = 81 := by rw [e1]; rfl
         have f2 : (z2.length : Int) = 81 := by rw [e2]; rfl
         clear e1 e2
         go_wp2
         go_ret
         exact ⟨rfl, BE⟩
       · have f1 : (z1.length : Int) = 100 := by rw [e1]; rfl
         have f2 : (z2.length : Int) = 100 := by rw [e2]; rfl
         clear e1 e2
         go_wp2
         go_ret
         exact ⟨rfl, BE⟩
       · have f1 : (z1.length : Int) = 121 := by rw [e1]; rfl
         have f2 : (z2.length : Int) = 121 := by rw [e2]; rfl
         clear e1 e2
         go_wp2
         go_ret
         exact ⟨rfl, BE⟩
       · have f1 : (z1.length : Int) = 144 := by rw [e1]; rfl
         have f2 : (z2.length : Int) = 144 := by rw [e2]; rfl
         clear e1 e2
         go_wp2
         go_ret
         exact ⟨rfl, BE⟩

end
end Go.Proofs.Ytaeiikielelicaa.Pt
