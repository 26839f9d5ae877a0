/- The maps of path: 'of', told. -/
import Derived.Test.YtaeiikielelicaaPtOf
set_option linter.unusedVariables false
set_option linter.unusedSimpArgs false
set_option linter.unusedSectionVars false
set_option linter.deprecated false
namespace Go.Proofs.Ytaeiikielelicaa.Pt
open Go.RowKit Go.Proofs Go.Am
open Pm
set_option maxRecDepth 1000000
set_option linter.unusedVariables false
set_option linter.unusedSimpArgs false
noncomputable section
/-- the row of sets of the ways within. -/
structure KRow (w0 : World) (W : World) (G : List T3) (kids : List Wy) (lv : Value) (bs : List Nat) : Prop where
  own : W.ownsRow (w0.heap.size + 1) 62 1 lv bs.length (bs.map fun b => Value.map (some b))
  len : bs.length ≤ kids.length
  sets : ∀ (i b : Nat) (k : Wy), bs[i]? = some b → kids[i]? = some k → PSet W b (rel G k) ∧ w0.heap.size ≤ b
theorem KRow.keep {w0 W W' : World} {G : List T3} {kids : List Wy} {lv : Value} {bs : List Nat} (h : KRow w0 W G kids lv bs) (hb : Below W.heap.size W W') : KRow w0 W' G kids lv bs :=
  ⟨own_keep h.own (fun k hk => hb.block k (own_cellsB h.own hk).2.1), h.len, fun i b k h1 h2 => ⟨(h.sets i b k h1 h2).1.below hb, (h.sets i b k h1 h2).2⟩⟩
theorem PSet.grown {W W' : World} {B size n b : Nat} {e : TypeId} {v : Value} {xs : List Value} {S : Pr → Prop} (h : PSet W b S) (ho : W.ownsRow B e size v n xs) (hg : W.grownBy W' v.ownBlock) : PSet W' b S := by
  refine h.keep (hg.block b h.lt fun e => ?_)
  obtain ⟨_, _, c, hc⟩ := own_cellsB ho e.symm
  obtain ⟨l, ⟨es, clock, hm, _⟩, _⟩ := h
  rw [hm] at hc
  cases hc
theorem heap_own {W W' : World} {B size n b : Nat} {e : TypeId} {v : Value} {xs : List Value} (ho : W.ownsRow (B + 1) e size v n xs) (hg : W.grownBy W' v.ownBlock) (hb : b ≤ B) (hl : b < W.heap.size) : W'.heap[b]? = W.heap[b]? :=
  hg.block b hl fun e => by have := (own_cellsB ho e.symm).1; omega
theorem KRow.at {w0 W : World} {G : List T3} {kids : List Wy} {a : Option Addr} {n m : Nat} {bs : List Nat} (h : KRow w0 W G kids (.slice a n m) bs) {j b : Nat} (hj : bs[j]? = some b) : ∃ g, a = some ⟨g, 0, none⟩ ∧ n = bs.length ∧ bs.length ≤ m ∧ W.cell? ⟨g, j, none⟩ = some (.map (some b)) := by
  have hlt : j < bs.length := (List.getElem?_eq_some_iff.1 hj).1
  rcases h.own.2 with ⟨_, h0⟩ | ⟨g, cap, cur, hv, hg, hgg, h1, h2, h3, h4⟩
  · omega
  · cases hv
    refine ⟨g, rfl, rfl, h1, ?_⟩
    have := h.own.cells (g := g) rfl j (.map (some b)) (by rw [List.getElem?_map, hj]; rfl)
    have e : (⟨g, 0, none⟩ : Addr).add j = ⟨g, j, none⟩ := by
      unfold Addr.add
      by_cases h0 : j = 0
      · simp [h0]
      · simp [h0]
    rwa [e] at this
theorem one_map {α β : Type} {f : α → β} {l : List α} {a : α} (h : l.length = 1) (h0 : l[0]? = some a) : l.map f = [f a] := by
  match l, h with
  | [x], _ => cases h0; rfl
def OfOk (v : Value) (G : List T3) (t : Wy) (pv : Value) (w : World) : Prop :=
  Calls Try.prog 28 #[v, pv] w fun e w' => ∃ c, e = .returned (.map (some c)) ∧ w.heap.size ≤ c ∧ PSet w' c (rel G t) ∧ Below w.heap.size w w'
set_option maxHeartbeats 4000000 in
theorem of_leaf (v : Value) (G : List T3) (op : Int) (s : ByteArray) (w : World) (hG : GOk w v G) (hn : G.length ≤ 500) : OfOk v G (.mk op s []) (.agg #[.int .i64 op, .string s, .slice none 0 0]) w := by
  have hmk2 := make62
  unfold OfOk
  rw [rel_eq]
  have hb0 : ∀ o, Below w.heap.size w (w.alloc o) := fun o => (Below.refl _ w).alloc (Nat.le_refl _) _
  by_cases h1 : op = 1
  · subst h1
    have hst := step_calls v G s (w.alloc (.cells #[.int .i64 1, .string s, .slice none 0 0] 28)) (hG.below (hb0 _)) (by omega)
    rw [World.size_alloc] at hst
    go_enter Try.func28, Try.ntmps28
    go_wp2
    go_loopg [5, 15] 1 (fun gf l i wx => l = .slice none 0 0 ∧ i = .int .i64 0 ∧ wx = w.alloc (.cells #[.int .i64 1, .string s, .slice none 0 0] 28) ∧ 0 < gf)
    case atStart => exact ⟨rfl, rfl, rfl, by omega⟩
    case round =>
      obtain ⟨rfl, rfl, rfl, hfu⟩ := hrel
      go_wp2_with (go_at_call 47; refine hst.mono ?_; rintro e w1 ⟨c, rfl, h1, h2, h3⟩)
      go_ret
      exact ⟨c, rfl, by omega, h2.iff (fun p => by simp [relOf]), ((hb0 _).trans (h3.mono (by omega)))⟩
  · have b1 : (op == 1) = false := beq_eq_false_iff_ne.2 h1
    have hfin : ∀ (W : World) n, W.heap.size = n → PSet (W.alloc (.map #[] 0)) n (relOf G op s (List.map (rel G) [])) := fun W n hn => ⟨[], by rw [← hn]; exact Ents.made encP W, fun p => by
      unfold relOf
      rw [if_neg h1]
      split
      · simp [joinL]
      · split
        · simp [joinL]
        · simp⟩
    by_cases h3 : op = 3
    · subst h3
      go_enter Try.func28, Try.ntmps28
      go_wp2
      go_loopg [5, 15] 1 (fun gf l i wx => l = .slice none 0 0 ∧ i = .int .i64 0 ∧ wx = w.alloc (.cells #[.int .i64 3, .string s, .slice none 0 0] 28) ∧ 0 < gf)
      case atStart => exact ⟨rfl, rfl, rfl, by omega⟩
      case round =>
        obtain ⟨rfl, rfl, rfl, hfu⟩ := hrel
        go_wp2
        go_ret
        exact ⟨_, rfl, by simp, hfin _ _ (by simp), (hb0 _).alloc (by simp) _⟩
    · have b3 : (op == 3) = false := beq_eq_false_iff_ne.2 h3
      by_cases h4 : op = 4
      · subst h4
        go_enter Try.func28, Try.ntmps28
        go_wp2
        go_loopg [5, 15] 1 (fun gf l i wx => l = .slice none 0 0 ∧ i = .int .i64 0 ∧ wx = w.alloc (.cells #[.int .i64 4, .string s, .slice none 0 0] 28) ∧ 0 < gf)
        case atStart => exact ⟨rfl, rfl, rfl, by omega⟩
        case round =>
          obtain ⟨rfl, rfl, rfl, hfu⟩ := hrel
          go_wp2
          go_ret
          exact ⟨_, rfl, by simp, hfin _ _ (by simp), (hb0 _).alloc (by simp) _⟩
      · have b4 : (op == 4) = false := beq_eq_false_iff_ne.2 h4
        go_enter Try.func28, Try.ntmps28
        go_wp2
        go_loopg [5, 15] 1 (fun gf l i wx => l = .slice none 0 0 ∧ i = .int .i64 0 ∧ wx = w.alloc (.cells #[.int .i64 op, .string s, .slice none 0 0] 28) ∧ 0 < gf)
        case atStart => exact ⟨rfl, rfl, rfl, by omega⟩
        case round =>
          obtain ⟨rfl, rfl, rfl, hfu⟩ := hrel
          go_wp2
          go_ret
          exact ⟨_, rfl, by simp, hfin _ _ (by simp), (hb0 _).alloc (by simp) _⟩
set_option maxHeartbeats 8000000 in
theorem of_node (v : Value) (G : List T3) (op : Int) (s : ByteArray) (kids : List Wy) (g cap : Nat) (w : World) (hG : GOk w v G) (hn : G.length ≤ 500) (hk0 : 0 < kids.length) (hkl : kids.length ≤ 1000) (hg : g < w.heap.size) (c0 c1 c2 : Nat → Value)
    (hc : ∀ j, j < kids.length → w.cell? ⟨g, j * 3, none⟩ = some (c0 j) ∧ w.cell? ⟨g, j * 3 + 1, none⟩ = some (c1 j) ∧ w.cell? ⟨g, j * 3 + 2, none⟩ = some (c2 j))
    (hf : ∀ j, j < kids.length → ∃ o s a n m, c0 j = .int .i64 o ∧ c1 j = .string s ∧ c2 j = .slice a n m)
    (hk : ∀ j (k : Wy), kids[j]? = some k → ∀ W, Below w.heap.size w W → OfOk v G k (.agg #[c0 j, c1 j, c2 j]) W) :
    OfOk v G (.mk op s kids) (.agg #[.int .i64 op, .string s, .slice (some ⟨g, 0, none⟩) kids.length cap]) w := by
  have hmk2 := make62
  obtain ⟨i0, hi, hz0, hz1, hz2⟩ := info_parts (show (Try.prog.info? 62).map (fun i => (i.zero, i.size, i.bytes)) = some (some (.map none), 1, 8) by kernel_rfl)
  unfold OfOk
  rw [rel_eq]
  have hb0 : Below w.heap.size w (w.alloc (.cells #[.int .i64 op, .string s, .slice (some ⟨g, 0, none⟩) kids.length cap] 28)) := (Below.refl _ w).alloc (Nat.le_refl _) _
  have hM : (w.alloc (.cells #[.int .i64 op, .string s, .slice (some ⟨g, 0, none⟩) kids.length cap] 28)).heap[w.heap.size]? = some (.cells #[.int .i64 op, .string s, .slice (some ⟨g, 0, none⟩) kids.length cap] 28) := heap_alloc_new w _
  have hK0 : KRow w (w.alloc (.cells #[.int .i64 op, .string s, .slice (some ⟨g, 0, none⟩) kids.length cap] 28)) G kids (.slice none 0 0) [] := ⟨World.ownsRow_nil _ _ _ _, by simp, fun i b k h => by simp at h⟩
  go_enter Try.func28, Try.ntmps28
  go_wp2
  go_loopg [5, 15] (kids.length + 1) (fun gf l i wx => ∃ (j : Nat) (bs : List Nat), i = .int .i64 (j : Int) ∧ bs.length = j ∧ KRow w wx G kids l bs ∧ wx.heap[w.heap.size]? = some (.cells #[.int .i64 op, .string s, .slice (some ⟨g, 0, none⟩) kids.length cap] 28) ∧ Below w.heap.size w wx ∧ w.heap.size < wx.heap.size ∧ kids.length < gf + j)
  case atStart => exact ⟨0, [], rfl, rfl, hK0, hM, hb0, by simp, by omega⟩
  case round =>
    clear hK0 hM hb0
    obtain ⟨j, bs, rfl, hbj, hK, hM, hbw, hsz, hfu⟩ := hrel
    have hjl : j ≤ kids.length := by have := hK.len; omega
    by_cases hlt : j < kids.length
    · have hltI : (j : Int) < (kids.length : Int) := by omega
      obtain ⟨g', rfl⟩ : ∃ g', gk = g' + 1 := ⟨gk - 1, by omega⟩
      obtain ⟨t, ht⟩ : ∃ t, kids[j]? = some t := ⟨kids[j], List.getElem?_eq_getElem hlt⟩
      obtain ⟨o', s', a', n', m', e0, e1, e2⟩ := hf j hlt
      have k0 := (hbw.cell (p := ⟨g, j * 3, none⟩) hg).trans (hc j hlt).1
      have k1 := (hbw.cell (p := ⟨g, j * 3 + 1, none⟩) hg).trans (hc j hlt).2.1
      have k2 := (hbw.cell (p := ⟨g, j * 3 + 2, none⟩) hg).trans (hc j hlt).2.2
      have hkid := hk j t ht (wr.alloc (.cells #[.int .i64 o', .string s', .slice a' n' m'] 28)) (hbw.alloc hbw.size _)
      rw [e0, e1, e2] at hkid
      rw [e0] at k0
      rw [e1] at k1
      rw [e2] at k2
      unfold OfOk at hkid
      rw [World.size_alloc] at hkid
      clear hk hc hf e0 e1 e2
      go_wp2_with (first
        | (go_at_call 28; refine hkid.mono ?_; rintro e w1 ⟨c, rfl, hc1, hc2, hc3⟩; have hcsz := hc3.size; rw [World.size_alloc] at hcsz; have hbn : Below wr.heap.size wr (w1.alloc (.cells #[.map (some c)] 62)) := (((Below.refl _ wr).alloc (Nat.le_refl _) _).trans (hc3.mono (by omega))).alloc (by omega) _; have hKn := hK.keep hbn)
        | (at_builtin; refine wpList_append_own_at _ rfl (.tmp 19) (.tmp 23) 80 rfl (w.heap.size + 1) 62 i0 (.map none) 1 8 Try.underlying80 hi hz0 hz1 hz2 rfl (by decide) _ bs.length (bs.map fun b => Value.map (some b)) ?_ hKn.own ⟨w1.heap.size, 0, none⟩ 1 1 [.map (some c)] ?_ ?_ ?_ ?_ ?_ ?_ ?_ ?_; exact rfl; exact rfl; exact rfl; exact cell_one_new _ _ _; (intro u hu; simp at hu; rw [hu]; rfl); (unfold maxLen; omega); omega; (simp; omega); intro v5 w5 hown5 hgrow5 hnil5 hat5))
      go_roundg g'
      case measure => omega
      case rel =>
        have hlast : PSet w5 c (rel G t) := ((hc2.alloc _)).grown hKn.own hgrow5
        refine ⟨j + 1, bs ++ [c], congrArg (Value.int .i64) (by omega), by simp [hbj], ⟨by rw [List.length_append, List.map_append]; exact hown5, by simp; omega, fun i b k h1 h2 => ?_⟩, (heap_own hKn.own hgrow5 (Nat.le_refl _) (by simp; omega)).trans ((hbn.block _ (by omega)).trans hM), ⟨hgrow5.os.trans (hbn.os.trans hbw.os), hgrow5.tape.trans (hbn.tape.trans hbw.tape), hgrow5.output.trans (hbn.output.trans hbw.output), by have := hgrow5.size; simp at this; omega, fun i hi => (heap_own hKn.own hgrow5 (by omega) (by simp; omega)).trans ((hbn.block i (by omega)).trans (hbw.block i hi))⟩, by have := hgrow5.size; simp at this; omega, by omega⟩
        by_cases hib : i < bs.length
        · rw [List.getElem?_append_left hib] at h1
          exact ⟨(hKn.sets i b k h1 h2).1.grown hKn.own hgrow5, (hKn.sets i b k h1 h2).2⟩
        · have hi2 : i = bs.length := by
            have := (List.getElem?_eq_some_iff.1 h1).1
            simp at this
            omega
          rw [hi2, List.getElem?_append_right (Nat.le_refl _)] at h1
          simp at h1
          rw [hi2, hbj, ht] at h2
          rw [← h1, ← Option.some.inj h2]
          exact ⟨hlast, by omega⟩
    · have hltI : ¬ (j : Int) < (kids.length : Int) := by omega
      obtain rfl : j = kids.length := by omega
      clear hk hf hc hfu hltI hlt hjl
      have m0 : wr.cell? ⟨w.heap.size, 0, none⟩ = some (.int .i64 op) := by unfold World.cell?; simp [hM]
      have m1 : wr.cell? ⟨w.heap.size, 1, none⟩ = some (.string s) := by unfold World.cell?; simp [hM]
      have hGr := hG.below hbw
      obtain ⟨b0, hb0⟩ : ∃ b, bs[0]? = some b := ⟨bs[0], List.getElem?_eq_getElem (by omega)⟩
      obtain ⟨k0, hk0'⟩ : ∃ k, kids[0]? = some k := ⟨kids[0], List.getElem?_eq_getElem hk0⟩
      obtain ⟨hp0, hp1⟩ := hK.sets 0 b0 k0 hb0 hk0'
      obtain ⟨ga, ca, rfl⟩ : ∃ ga ca, u5 = .slice (some ⟨ga, 0, none⟩) bs.length ca := by
        rcases hK.own.2 with ⟨_, h0⟩ | ⟨ga, ca, _, hv, _⟩
        · omega
        · exact ⟨ga, ca, hv⟩
      obtain ⟨_, he, _, hca, hcell0⟩ := hK.at hb0
      cases he
      rw [hbj] at hca hK ⊢
      clear hi hz0 hz1 hz2
      by_cases h1 : op = 1
      · subst h1
        have hst := step_calls v G s wr hGr (by omega)
        go_wp2_with (go_at_call 47; refine hst.mono ?_; rintro e w1 ⟨c, rfl, h1, h2, h3⟩)
        go_ret
        exact ⟨c, rfl, by omega, h2.iff (fun p => by simp [relOf]), hbw.trans (h3.mono hbw.size)⟩
      · have b1 : (op == 1) = false := beq_eq_false_iff_ne.2 h1
        by_cases h3 : op = 3
        · subst h3
          have hca1 : 1 ≤ ca := by omega
          have hs1 : ((kids.length : Int) == 0) = false := beq_eq_false_iff_ne.2 (by omega)
          have hsub1 : (1 : Int) ≤ (kids.length : Int) := by omega
          have hsub2 : (kids.length : Int) ≤ (ca : Int) := by omega
          have hmap : kids.map (rel G) = rel G k0 :: (kids.drop 1).map (rel G) := by
            match kids, hk0' with
            | x :: l, h => cases h; rfl
          by_cases hca2 : ca = 1
          · have hone : kids.length = 1 := by omega
            go_wp2
            clear hcell0 m0 m1 hM hs1
            go_loopg [9, 59] 1 (fun gf acc i wx => ∃ c, i = .int .i64 0 ∧ acc = .map (some c) ∧ w.heap.size ≤ c ∧ PSet wx c (rel G k0) ∧ Below w.heap.size w wx ∧ 0 < gf)
            case atStart => exact ⟨b0, rfl, rfl, hp1, hp0, hbw, by omega⟩
            case round =>
              clear hp0 hp1 hbw hK hsz hGr
              obtain ⟨c, rfl, rfl, hcw, hP, hbw, hfu⟩ := hrel
              go_wp2
              go_ret
              refine ⟨c, rfl, hcw, hP.iff fun p => ?_, hbw⟩
              unfold relOf
              rw [one_map hone hk0']
              simp [joinL]
          · go_wp2
            clear hcell0 m0 m1 hM hs1
            go_loopg [9, 59] kids.length (fun gf acc i wx => ∃ (j c : Nat), i = .int .i64 (j : Int) ∧ j + 1 ≤ kids.length ∧ acc = .map (some c) ∧ w.heap.size ≤ c ∧ PSet wx c ((((kids.drop 1).map (rel G)).take j).foldl behindP (rel G k0)) ∧ InT G ((((kids.drop 1).map (rel G)).take j).foldl behindP (rel G k0)) ∧ KRow w wx G kids (.slice (some ⟨ga, 0, none⟩) kids.length ca) bs ∧ Below w.heap.size w wx ∧ kids.length ≤ gf + j)
            case atStart => exact ⟨0, b0, rfl, by omega, rfl, hp1, hp0, inT_rel G k0, hK, hbw, by omega⟩
            case round =>
              clear hp0 hp1 hbw hK hsz hGr
              obtain ⟨j, c, rfl, hj, rfl, hcw, hP, hIn, hK, hbw, hfu⟩ := hrel
              by_cases hlt : j + 1 < kids.length
              · have hltI : (j : Int) < (kids.length : Int) - 1 := by omega
                obtain ⟨g', rfl⟩ : ∃ g', gk = g' + 1 := ⟨gk - 1, by omega⟩
                obtain ⟨t, ht⟩ : ∃ t, kids[j + 1]? = some t := ⟨kids[j + 1], List.getElem?_eq_getElem hlt⟩
                obtain ⟨b, hb⟩ : ∃ b, bs[j + 1]? = some b := ⟨bs[j + 1], List.getElem?_eq_getElem (by omega)⟩
                obtain ⟨q0, q1⟩ := hK.sets _ b t hb ht
                obtain ⟨_, he, -, -, hcell⟩ := hK.at hb
                cases he
                rw [Nat.add_comm j 1] at hcell
                have hcall := behind_calls c b _ _ (termsL G) wr hP q0 (inT_rel G t) (by rw [termsL_len]; omega)
                have htk : ¬ ((kids.drop 1).map (rel G)).take (j + 1) ≠ ((kids.drop 1).map (rel G)).take j ++ [rel G t] := Classical.not_not.2 <| by
                  rw [List.take_add_one, List.getElem?_map, List.getElem?_drop, Nat.add_comm 1 j, ht]; try rfl
                clear ht hb
                go_wp2_with (go_at_call 48; refine hcall.mono ?_; rintro e w1 ⟨c', rfl, h1, h2, h3⟩)
                go_roundg g'
                case measure => omega
                case rel =>
                  refine ⟨j + 1, c', congrArg (Value.int .i64) (by omega), by omega, rfl, Nat.le_trans hbw.size h1, ?_, ?_, hK.keep h3, hbw.trans (h3.mono hbw.size), by omega⟩
                  · rw [Classical.not_not.1 htk, List.foldl_append]
                    exact h2
                  · rw [Classical.not_not.1 htk, List.foldl_append]
                    exact inT_behind hIn (inT_rel G t)
              · have hltI : ¬ (j : Int) < (kids.length : Int) - 1 := by omega
                go_wp2
                go_ret
                refine ⟨c, rfl, hcw, hP.iff fun p => ?_, hbw⟩
                unfold relOf
                rw [hmap, List.take_of_length_le (by simp; omega)]
                simp [joinL]
        · have b3 : (op == 3) = false := beq_eq_false_iff_ne.2 h3
          by_cases h4 : op = 4
          · subst h4
            have hca1 : 1 ≤ ca := by omega
            have hs1 : ((kids.length : Int) == 0) = false := beq_eq_false_iff_ne.2 (by omega)
            have hsub1 : (1 : Int) ≤ (kids.length : Int) := by omega
            have hsub2 : (kids.length : Int) ≤ (ca : Int) := by omega
            have hmap : kids.map (rel G) = rel G k0 :: (kids.drop 1).map (rel G) := by
              match kids, hk0' with
              | x :: l, h => cases h; rfl
            by_cases hca2 : ca = 1
            · have hone : kids.length = 1 := by omega
              go_wp2
              clear hcell0 m0 m1 hM hs1
              go_loopg [9, 59] 1 (fun gf acc i wx => ∃ c, i = .int .i64 0 ∧ acc = .map (some c) ∧ w.heap.size ≤ c ∧ PSet wx c (rel G k0) ∧ Below w.heap.size w wx ∧ 0 < gf)
              case atStart => exact ⟨b0, rfl, rfl, hp1, hp0, hbw, by omega⟩
              case round =>
                clear hp0 hp1 hbw hK hsz hGr
                obtain ⟨c, rfl, rfl, hcw, hP, hbw, hfu⟩ := hrel
                go_wp2
                go_ret
                refine ⟨c, rfl, hcw, hP.iff fun p => ?_, hbw⟩
                unfold relOf
                rw [one_map hone hk0']
                simp [joinL]
            · go_wp2
              clear hcell0 m0 m1 hM hs1
              go_loopg [9, 59] kids.length (fun gf acc i wx => ∃ (j c : Nat), i = .int .i64 (j : Int) ∧ j + 1 ≤ kids.length ∧ acc = .map (some c) ∧ w.heap.size ≤ c ∧ PSet wx c ((((kids.drop 1).map (rel G)).take j).foldl orP (rel G k0)) ∧ InT G ((((kids.drop 1).map (rel G)).take j).foldl orP (rel G k0)) ∧ KRow w wx G kids (.slice (some ⟨ga, 0, none⟩) kids.length ca) bs ∧ Below w.heap.size w wx ∧ kids.length ≤ gf + j)
              case atStart => exact ⟨0, b0, rfl, by omega, rfl, hp1, hp0, inT_rel G k0, hK, hbw, by omega⟩
              case round =>
                clear hp0 hp1 hbw hK hsz hGr
                obtain ⟨j, c, rfl, hj, rfl, hcw, hP, hIn, hK, hbw, hfu⟩ := hrel
                by_cases hlt : j + 1 < kids.length
                · have hltI : (j : Int) < (kids.length : Int) - 1 := by omega
                  obtain ⟨g', rfl⟩ : ∃ g', gk = g' + 1 := ⟨gk - 1, by omega⟩
                  obtain ⟨t, ht⟩ : ∃ t, kids[j + 1]? = some t := ⟨kids[j + 1], List.getElem?_eq_getElem hlt⟩
                  obtain ⟨b, hb⟩ : ∃ b, bs[j + 1]? = some b := ⟨bs[j + 1], List.getElem?_eq_getElem (by omega)⟩
                  obtain ⟨q0, q1⟩ := hK.sets _ b t hb ht
                  obtain ⟨_, he, -, -, hcell⟩ := hK.at hb
                  cases he
                  rw [Nat.add_comm j 1] at hcell
                  have hcall := both_calls c b _ _ wr hP q0
                  have htk : ¬ ((kids.drop 1).map (rel G)).take (j + 1) ≠ ((kids.drop 1).map (rel G)).take j ++ [rel G t] := Classical.not_not.2 <| by
                    rw [List.take_add_one, List.getElem?_map, List.getElem?_drop, Nat.add_comm 1 j, ht]; try rfl
                  clear ht hb
                  go_wp2_with (go_at_call 46; refine hcall.mono ?_; rintro e w1 ⟨c', rfl, h1, h2, h3⟩)
                  go_roundg g'
                  case measure => omega
                  case rel =>
                    refine ⟨j + 1, c', congrArg (Value.int .i64) (by omega), by omega, rfl, Nat.le_trans hbw.size h1, ?_, ?_, hK.keep h3, hbw.trans (h3.mono hbw.size), by omega⟩
                    · rw [Classical.not_not.1 htk, List.foldl_append]
                      exact h2
                    · rw [Classical.not_not.1 htk, List.foldl_append]
                      exact inT_or hIn (inT_rel G t)
                · have hltI : ¬ (j : Int) < (kids.length : Int) - 1 := by omega
                  go_wp2
                  go_ret
                  refine ⟨c, rfl, hcw, hP.iff fun p => ?_, hbw⟩
                  unfold relOf
                  rw [hmap, List.take_of_length_le (by simp; omega)]
                  simp [joinL]
          · have b4 : (op == 4) = false := beq_eq_false_iff_ne.2 h4
            by_cases hn1 : kids.length = 1
            · have hn1' : ((kids.length : Int) == 1) = true := beq_iff_eq.2 (by omega)
              have h1n := h1
              have h3n := h3
              have h4n := h4
              have hald := alone_calls v G op b0 (rel G k0) wr.drew (hp0.keep rfl) (hGr.below (Below.refl _ wr).drew) hn (inT_rel G k0)
              unfold AloneOk at hald
              go_wp2
              go_region_with (go_at_call 49; refine hald.mono ?_; rintro e w1 ⟨c, rfl, h1, h2, h3⟩)
              all_goals
                go_wp2
                go_ret
                have hwd : Below w.heap.size w w1 := (hbw.drew).trans (h3.mono hbw.size)
                refine ⟨c, rfl, Nat.le_trans hbw.size h1, h2.iff (fun p => ?_), hwd⟩
                unfold relOf
                rw [if_neg h1n, if_neg h3n, if_neg h4n, one_map hn1 hk0']
            · have hn1' : ((kids.length : Int) == 1) = false := beq_eq_false_iff_ne.2 (by omega)
              go_wp2
              go_ret
              refine ⟨_, rfl, hbw.size, ⟨[], Ents.made encP wr, fun p => ?_⟩, hbw.alloc hbw.size _⟩
              unfold relOf
              rw [if_neg h1, if_neg h3, if_neg h4]
              obtain ⟨x, y, l, e⟩ : ∃ x y l, kids.map (rel G) = x :: y :: l := by
                match kids, hk0, hn1 with
                | [x], _, h => exact absurd rfl h
                | x :: y :: l, _, _ => exact ⟨_, _, _, rfl⟩
              rw [e]
              simp
/-- the ends of a way, as a set. -/
theorem of_calls {w0 : World} {t : Wy} {pv : Value} (h : RepW w0 t pv) (v : Value) (G : List T3) (hn : G.length ≤ 500) : ∀ w, Below w0.heap.size w0 w → GOk w v G → OfOk v G t pv w := by
  induction h with
  | leaf op s => exact fun w hb hG => of_leaf v G op s w hG hn
  | node op s kids g cap hk0 hkl hg c0 c1 c2 hc hk ih =>
    intro w hb hG
    refine of_node v G op s kids g cap w hG hn hk0 hkl (Nat.lt_of_lt_of_le hg hb.size) c0 c1 c2 (fun j hj => ?_) (fun j hj => ?_) (fun j k hj W hW => ih j k hj W (hb.trans (hW.mono hb.size)) (hG.below hW))
    · obtain ⟨h0, h1, h2⟩ := hc j hj
      exact ⟨(hb.cell (p := ⟨g, j * 3, none⟩) hg).trans h0, (hb.cell (p := ⟨g, j * 3 + 1, none⟩) hg).trans h1, (hb.cell (p := ⟨g, j * 3 + 2, none⟩) hg).trans h2⟩
    · have := hk j kids[j] (List.getElem?_eq_getElem hj)
      generalize hv : (Value.agg #[c0 j, c1 j, c2 j]) = v' at this
      generalize kids[j] = kj at this
      cases this with
      | leaf =>
        simp only [Value.agg.injEq, Array.mk.injEq, List.cons.injEq, and_true] at hv
        exact ⟨_, _, _, _, _, hv.1, hv.2.1, hv.2.2⟩
      | node =>
        simp only [Value.agg.injEq, Array.mk.injEq, List.cons.injEq, and_true] at hv
        exact ⟨_, _, _, _, _, hv.1, hv.2.1, hv.2.2⟩
end
end Go.Proofs.Ytaeiikielelicaa.Pt
