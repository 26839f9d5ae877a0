/- slices.SortFunc, slices.SortedFunc over the keys of a set of pairs; path.Ends. -/
import Derived.Test.YtaeiikielelicaaPtCollect
import Derived.Test.YtaeiikielelicaaPtOrd
import Derived.Test.YtaeiikielelicaaPtShelf
import Derived.Shelf.SlSortCmp.NoneTotal
set_option linter.unusedVariables false
set_option linter.unusedSimpArgs false
set_option linter.unusedSectionVars false
set_option linter.deprecated false
namespace Go.Proofs.Ytaeiikielelicaa.Pt
open Go.RowKit Go.Shelf Go.Proofs Go.Am Go.Sort Go.Lib
open Pm
set_option maxRecDepth 1000000
set_option linter.unusedVariables false
set_option linter.unusedSimpArgs false
noncomputable section
instance : Inhabited Tm := ⟨⟨0, ⟨#[]⟩, ⟨#[]⟩, ⟨#[]⟩⟩⟩
theorem bel_grow {W W' : World} (h : Bel W.heap.size W W') : ∃ q os, W' = Go.Sort.grow (W.drewN q) os := by
  refine ⟨W'.drawn - W.drawn, W'.heap.extract W.heap.size W'.heap.size, ?_⟩
  obtain ⟨⟨h1, h2, h3, h4, h5⟩, h6⟩ := h
  obtain ⟨hp, tp, dr, os, out⟩ := W
  obtain ⟨hp', tp', dr', os', out'⟩ := W'
  dsimp only at h1 h2 h3 h4 h5 h6
  subst h1 h2 h3
  have e1 : hp' = hp ++ hp'.extract hp.size hp'.size := by
    apply Array.ext_getElem?
    intro i
    by_cases hi : i < hp.size
    · rw [Array.getElem?_append_left hi]; exact h5 i hi
    · rw [Array.getElem?_append_right (by omega), Array.getElem?_extract]
      by_cases h7 : i < hp'.size
      · rw [if_pos (by omega)]; congr 1; omega
      · rw [if_neg (by omega), Array.getElem?_eq_none (by omega)]
  have e2 : dr' = dr + (dr' - dr) := by omega
  unfold Go.Sort.grow World.drewN
  dsimp only
  rw [← e1, ← e2]
theorem cP_len (p : Pr) : (cP p).length = 8 := rfl
theorem flat_len (ys : List Pr) : (ys.flatMap cP).length = ys.length * 8 := by
  induction ys with
  | nil => rfl
  | cons p ys ih => rw [List.flatMap_cons, List.length_append, ih, cP_len, List.length_cons]; omega
theorem flat_get : ∀ (ys : List Pr) (j : Nat), (ys.flatMap cP)[j]? = (ys[j / 8]?).bind fun p => (cP p)[j % 8]?
  | [], j => by simp
  | p :: ys, j => by
    rw [List.flatMap_cons]
    by_cases h : j < 8
    · rw [List.getElem?_append_left (by rw [cP_len]; exact h), Nat.div_eq_of_lt h, Nat.mod_eq_of_lt h]; rfl
    · rw [List.getElem?_append_right (by rw [cP_len]; omega), cP_len, flat_get ys]
      have e1 : j / 8 = (j - 8) / 8 + 1 := by omega
      have e2 : j % 8 = (j - 8) % 8 := by omega
      rw [e1, e2, List.getElem?_cons_succ]
theorem flatK_list (ys : List Pr) : (flatK cP 8 ys.toArray).toList = ys.flatMap cP := by
  apply List.ext_getElem?
  intro j
  by_cases h : j < ys.length * 8
  · have h1 : j / 8 < ys.length := by omega
    have h2 : j % 8 < (cP ys[j / 8]).length := by rw [cP_len]; omega
    rw [flat_get, List.getElem?_eq_getElem h1, Option.bind_some, List.getElem?_eq_getElem h2, Array.getElem?_toList]
    have h3 : j < (flatK cP 8 ys.toArray).size := by simp; omega
    rw [Array.getElem?_eq_getElem h3, ← getElem!_pos (flatK cP 8 ys.toArray) j h3, get_flatK _ _ _ _ (by simpa using h)]
    rw [getElem!_pos ys.toArray (j / 8) (by simpa using h1)]
    simp only [List.getElem_toArray]
    rw [getElem!_pos (cP ys[j / 8]) (j % 8) h2]
  · rw [List.getElem?_eq_none (by simp; omega), List.getElem?_eq_none (by rw [flat_len]; omega)]
theorem holds_of_blockV {w : World} {g : Nat} {cur : Array Value} {e : TypeId} {F : Array Value} (hb : w.heap[g]? = some (.cells cur e (0, 0))) (ht : cur.toList.take F.size = F.toList) : Holds id w g 0 F := by
  intro j hj
  refine ⟨?_, by simp [World.frozen?, hb]⟩
  have h1 : (cur.toList.take F.size)[j]? = F.toList[j]? := by rw [ht]
  rw [List.getElem?_take_of_lt hj] at h1
  simp only [World.cell?, hb, Nat.zero_add]
  simp only [Option.isSome_none, Bool.false_eq_true, if_false]
  rw [← Array.getElem?_toList, h1]
  simp [hj]
theorem heap_sortedV {w : World} {g n : Nat} {os : Array Obj} {cur : Array Value} {e : TypeId} {fr : Nat × Nat} (d : Array Value) (hb : w.heap[g]? = some (.cells cur e fr)) :
    (Go.Sort.grow (putRow id (Sort.ahead w n) g 0 d) os).heap[g]? = some (.cells (putCells id 0 d cur) e fr) := by
  have hg : g < w.heap.size := (Array.getElem?_eq_some_iff.1 hb).1
  rw [heap_grow_old _ _ (by simpa using hg)]
  simp [putRow, mapBlock, Sort.ahead, Array.getElem?_modify, hb, onCells]
theorem grownBy_sortedV {w : World} {g n : Nat} {os : Array Obj} (d : Array Value) : w.grownBy (Go.Sort.grow (putRow id (Sort.ahead w n) g 0 d) os) (some g) := by
  refine ⟨rfl, rfl, rfl, by simp, fun k hk hne => ?_⟩
  rw [heap_grow_old _ _ (by simpa using hk)]
  have : g ≠ k := fun e => hne (by rw [e])
  simp [putRow, mapBlock, Sort.ahead, Array.getElem?_modify, this]
theorem take_putCellsV (cur : Array Value) (F : Array Value) (h : F.size ≤ cur.size) : (putCells id 0 F cur).toList.take F.size = F.toList := by
  apply List.ext_getElem?
  intro j
  by_cases hj : j < F.size
  · rw [List.getElem?_take_of_lt hj, Array.getElem?_toList]
    simp [putCells, hj, show j < cur.size by omega]
  · rw [List.getElem?_take_eq_none (by omega), List.getElem?_eq_none (by simp; omega)]
theorem ownsRow_sortedV {w : World} {base g cap n k size : Nat} {e : TypeId} {os : Array Obj} {cur : Array Value} {F : Array Value} (hl : F.size = k * size) (hbase : base ≤ g) (hb : w.heap[g]? = some (.cells cur e (0, 0)))
    (h1 : k ≤ cap) (h2 : cap ≤ maxLen) (h3 : cur.size = cap * size) :
    (Go.Sort.grow (putRow id (Sort.ahead w n) g 0 F) os).ownsRow base e size (.slice (some ⟨g, 0, none⟩) k cap) k F.toList :=
  ⟨by simp [hl], .inr ⟨g, cap, _, rfl, hbase, heap_sortedV _ hb, h1, h2, by simp [putCells, h3], by rw [← hl]; exact take_putCellsV cur F (by rw [hl, h3]; exact Nat.mul_le_mul_right _ h1)⟩⟩
theorem cmpLays29 (blk off size : Nat) (w : World) : CmpLays Try.prog 29 #[] cP 8 cmpP blk off size w := fun _ _ _ _ x y => (cmpP_callsB x y _).mono fun _ _ h => ⟨h.1, bel_grow h.2⟩
theorem swoP : SWO (ltOf cmpP) where
  irrefl x := by have := lt_irrefl x; simp [ltOf]; omega
  trans x y z h1 h2 := by simp [ltOf] at *; exact lt_trans h1 h2
  ntrans x y z h1 h2 := by
    simp [ltOf] at *
    have a := good_cmpP.sgn x y; have b := good_cmpP.sgn y x
    have a2 := good_cmpP.sgn y z; have b2 := good_cmpP.sgn z y
    have a3 := good_cmpP.sgn x z; have b3 := good_cmpP.sgn z x
    have := good_cmpP.tr z y x (by omega) (by omega)
    omega
theorem aE48 : ∀ w, (isAgg 48).run Try.prog w = .ok true w := fun w => by kernel_rfl
theorem zE48 : ∀ w, (Go.sizeOf 48).run Try.prog w = .ok 8 w := fun w => by kernel_rfl
theorem oneCP (p : Pr) : ∀ v ∈ cP p, v.oneCell' = true := oneP p.1 p.2
/-- the library's sort of pairs. -/
theorem sort_calls (g cap : Nat) (ys : List Pr) (w : World) (cur : Array Value) (hb : w.heap[g]? = some (.cells cur 48 (0, 0))) (ht : cur.toList.take (ys.length * 8) = ys.flatMap cP) (hn : ys.Nodup) (hl : ys.length ≤ 1000000000) :
    Calls Try.prog 44 #[.slice (some ⟨g, 0, none⟩) ys.length cap, .func (.func 29) #[] #[]] w fun e w' => e = .returned (.tuple #[]) ∧ ∃ (zs : List Pr) (n : Nat) (os : Array Obj), Sorted zs ∧ (∀ p, p ∈ zs ↔ p ∈ ys) ∧ zs.length = ys.length ∧
      w' = Go.Sort.grow (putRow id (Sort.ahead w n) g 0 (flatK cP 8 zs.toArray)) os := by
  have hH : HoldsK cP 8 w g 0 ys.toArray := holds_of_blockV hb (by rw [flatK_list, size_flatK]; simpa using ht)
  have h := AnyQ.slices_SortFunc Try.sortF 8 aE48 zE48 cP cP_len oneCP cmpP swoP 29 #[] g 0 cap ys.toArray w (enters_of Try.func29 (by kernel_rfl) rfl) (cmpLays29 g 0 _ w) hH (Array.getElem?_eq_some_iff.1 hb).1 (by simp; omega)
  refine (show Calls Try.prog 44 #[.slice (some ⟨g, 0, none⟩) ys.length cap, .func (.func 29) #[] #[]] w _ from h).mono ?_
  rintro e w' ⟨he, d', n, os, hp, hs, rfl⟩
  obtain ⟨p1, p2, p3⟩ := hp
  have hperm : d'.toList.Perm ys := by
    have e1 : d'.extract 0 ys.toArray.size = d' := by rw [← p1]; simp
    rw [e1] at p3
    simpa using p3
  refine ⟨he, d'.toList, n, os, ?_, fun p => hperm.mem_iff, by simpa using p1, rfl⟩
  have hnd : d'.toList.Nodup := hperm.nodup_iff.2 hn
  unfold Sorted
  rw [List.pairwise_iff_getElem]
  intro i j hi hj hij
  have h1 := hs i j (Nat.zero_le _) hij (by have := hj; simp at this p1 ⊢; omega)
  simp [ltOf] at hi hj
  rw [getElem!_pos d' j hj, getElem!_pos d' i hi] at h1
  simp only [ltOf, decide_eq_false_iff_not] at h1
  simp only [Array.getElem_toList]
  have h2 : ¬ d'[i] = d'[j] := fun e => by
    have := (List.nodup_iff_pairwise_ne.1 hnd)
    rw [List.pairwise_iff_getElem] at this
    exact this i j (by simpa using hi) (by simpa using hj) hij (by simpa using e)
  have h3 := good_cmpP.sgn d'[i] d'[j]
  have h4 := good_cmpP.sgn d'[j] d'[i]
  have h5 : cmpP d'[i] d'[j] ≠ 0 := fun e => h2 (cmpP_zero.1 e)
  omega
theorem none_calls (p : Option Addr) (cap : Nat) (fv : Value) (w : World) : Calls Try.prog 44 #[.slice p 0 cap, fv] w fun e w' => e = .returned (.tuple #[]) ∧ w' = w := AnyF.slices_SortFunc_none Try.sortF p cap fv w
/-- a row of pairs of the call's own. -/
def RowP (base : Nat) (w : World) (v : Value) (l : List Pr) : Prop := w.ownsRow base 48 8 v l.length (l.flatMap cP)
set_option maxHeartbeats 1000000 in
theorem sortedFunc_calls (Bm b : Nat) (S : Pr → Prop) (w : World) (hB : Bm < w.heap.size) (hc : w.cell? ⟨Bm, 0, none⟩ = some (.map (some b))) (hE : PSet w b S) (hL : ∀ l : List (Pr × Value), Ents encP w b l → l.length ≤ 1000000000) :
    Calls Try.prog 26 #[.func (.func 45) #[] #[.pointer (some ⟨Bm, 0, none⟩)], .func (.func 29) #[] #[]] w fun e W' => ∃ (v : Value) (zs : List Pr), e = .returned v ∧ Sorted zs ∧ (∀ p, p ∈ zs ↔ S p) ∧ RowP w.heap.size W' v zs ∧ Below w.heap.size w W' := by
  obtain ⟨L, hE, hS⟩ := hE
  have hcol := collect_calls Bm b L w hB hc hE (hL L hE)
  have hlen := hL L hE
  clear hL hE hc hB
  go_enter Try.func26, Try.ntmps26
  go_wp2_with (go_at_call 43; refine hcol.mono ?_; rintro e W ⟨v, ys, rfl, hys, hrow, hb⟩)
  rcases hrow.2 with ⟨rfl, hz⟩ | ⟨gb, cap, cur, rfl, hbase, hgb, r1, r2, r3, r4⟩
  · have hys0 : ys = [] := List.eq_nil_of_length_eq_zero hz
    subst hys0
    have hcn := none_calls none 0 (.func (.func 29) #[] #[]) W
    go_wp2_with (go_at_call 44; refine hcn.mono ?_; rintro e w' ⟨rfl, rfl⟩)
    go_ret
    exact ⟨.slice none 0 0, [], rfl, List.Pairwise.nil, fun p => by rw [← hS, ← hys.2], by simpa [RowP] using hrow, hb⟩
  · have hyl : ys.length ≤ 1000000000 := by
      have h1 : ∀ p ∈ ys, p ∈ L.map Prod.fst := fun p hp => (hys.2 p).1 hp
      have := hys.1.length_le_of_subset h1
      simpa using Nat.le_trans this (by simpa using hlen)
    have hcs := sort_calls gb cap ys W cur hgb r4 hys.1 hyl
    clear r4
    go_wp2_with (go_at_call 44; refine hcs.mono ?_; rintro e w' ⟨rfl, zs, n, os, hz1, hz2, hz3, rfl⟩)
    go_ret
    refine ⟨_, zs, rfl, hz1, fun p => by rw [hz2, hys.2, hS], ?_, hb.grown (grownBy_sortedV _) hb.size (fun j hj => by cases hj; exact hbase)⟩
    unfold RowP
    rw [← flatK_list, ← hz3]
    rw [← hz3] at r1
    exact ownsRow_sortedV (by simp) hbase hgb r1 r2 r3
theorem inT_small {w : World} {b : Nat} {G : List T3} {S : Pr → Prop} (hE : PSet w b S) (hn : G.length ≤ 500) (hS : InT G S) : ∀ l : List (Pr × Value), Ents encP w b l → l.length ≤ 1000000000 := fun l hl => by
  obtain ⟨l2, h2, hm⟩ := hE
  obtain ⟨es, clock, hb, hf⟩ := hl
  obtain ⟨es2, clock2, hb2, hf2⟩ := h2
  rw [hb] at hb2
  cases hb2
  have hsame : ∀ p, p ∈ l.map Prod.fst → S p := fun p hp => by
    have e : l.map (encE encP) = l2.map (encE encP) := hf.kv.symm.trans hf2.kv
    have e2 : l.map (fun q => encP q.1) = l2.map (fun q => encP q.1) := by
      have := congrArg (List.map Prod.fst) e
      simpa [List.map_map, encE, Function.comp_def] using this
    obtain ⟨q, hq, rfl⟩ := List.mem_map.1 hp
    have h3 : encP q.1 ∈ l2.map (fun q => encP q.1) := by rw [← e2]; exact List.mem_map_of_mem (f := fun q : Pr × Value => encP q.1) hq
    obtain ⟨q2, hq2, e3⟩ := List.mem_map.1 h3
    rw [← keyP.inj _ _ e3]
    exact (hm _).1 (List.mem_map_of_mem (f := Prod.fst) hq2)
  have h4 : ∀ p ∈ l.map Prod.fst, p ∈ (termsL G).flatMap fun x => (termsL G).map fun y => (x, y) := fun p hp => by
    have := hS p (hsame p hp)
    exact List.mem_flatMap.2 ⟨p.1, this.1, List.mem_map.2 ⟨p.2, this.2, rfl⟩⟩
  have h5 := hf.apart.length_le_of_subset h4
  rw [List.length_map, pairs_len, termsL_len] at h5
  have : 2 * G.length * (2 * G.length) ≤ 1000 * 1000 := Nat.mul_le_mul (by omega) (by omega)
  omega
/-- path.Ends. -/
def EndsOk (f : Nat) (v pv : Value) (S : Pr → Prop) (w : World) : Prop :=
  Calls Try.prog f #[v, pv] w fun e W' => ∃ (rv : Value) (zs : List Pr), e = .returned rv ∧ Sorted zs ∧ (∀ p, p ∈ zs ↔ S p) ∧ RowP w.heap.size W' rv zs ∧ Below w.heap.size w W'
theorem RowP.base {b b' : Nat} {W : World} {v : Value} {l : List Pr} (h : RowP b W v l) (hb : b' ≤ b) : RowP b' W v l := by
  refine ⟨h.1, ?_⟩
  rcases h.2 with hn | ⟨g, cap, cur, hv, hbg, rest⟩
  · exact .inl hn
  · exact .inr ⟨g, cap, cur, hv, Nat.le_trans hb hbg, rest⟩
theorem keys_calls (b : Nat) (w : World) : Calls Try.prog 27 #[.map (some b)] w fun e w' => e = .returned (.func (.func 45) #[] #[.pointer (some ⟨w.heap.size, 0, none⟩)]) ∧ w' = w.alloc (.cells #[.map (some b)] 62) :=
  callsIn_wide.1 (keys_in Fence.wide 1 trivial rfl b w)
theorem RepW.shape {w : World} {t : Wy} {pv : Value} (h : RepW w t pv) : ∃ o s a n c, pv = .agg #[.int .i64 o, .string s, .slice a n c] := by
  cases h <;> exact ⟨_, _, _, _, _, rfl⟩
set_option maxHeartbeats 1000000 in
theorem ends_calls (v : Value) (G : List T3) (t : Wy) (pv : Value) (w : World) (hG : GOk w v G) (hn : G.length ≤ 500) (hT : RepW w t pv) : EndsOk 14 v pv (rel G t) w := by
  unfold EndsOk
  obtain ⟨o, s, a, n, c, rfl⟩ := hT.shape
  have hof := of_calls hT v G hn
  have hb0 : ∀ ob, Below w.heap.size w (w.alloc ob) := fun ob => (Below.refl _ w).alloc (Nat.le_refl _) _
  have hof1 : ∀ ob, OfOk v G t (.agg #[.int .i64 o, .string s, .slice a n c]) (w.alloc ob) := fun ob => hof _ (hb0 ob) (hG.below (hb0 ob))
  unfold OfOk at hof1
  clear hof hT hG
  go_enter Try.func14, Try.ntmps14
  go_wp2_with (first
    | (go_at_call 28; refine (hof1 _).mono ?_; rintro e w1 ⟨b, rfl, h1, h2, h3⟩; have h2' : ∀ ob, PSet (w1.alloc ob) b (rel G t) := fun ob => h2.keep (Below.heap_alloc _ _ _ h2.lt))
    | (go_at_call 27; refine (keys_calls b w1).mono ?_; rintro e w2 ⟨rfl, rfl⟩)
    | (go_at_call 26; refine (sortedFunc_calls w1.heap.size b (rel G t) _ (by simp) (by simp) (h2' _) (inT_small (h2' _) hn (inT_rel G t))).mono ?_; rintro e w3 ⟨rv, zs, rfl, k1, k2, k3, k4⟩))
  go_ret
  have hsz := h3.size
  simp only [World.size_alloc] at hsz h1 k3 k4
  exact ⟨rv, zs, rfl, k1, k2, k3.base (by omega), (hb0 _).trans ((h3.mono (by simp)).trans (((Below.refl _ w1).alloc (Nat.le_refl _) _ |>.trans (k4.mono (by omega))).mono (by omega)))⟩
end
end Go.Proofs.Ytaeiikielelicaa.Pt
