/- The maker of ways: a way with ways within. -/
import Derived.Test.YtaeiikielelicaaPtWay
import Derived.Deep.RegionLaw
import Derived.Maps.AppendAt
set_option linter.unusedVariables false
set_option linter.unusedSimpArgs false
set_option linter.unusedSectionVars false
set_option linter.deprecated false
namespace Go.Proofs.Ytaeiikielelicaa.Pt
open Go.RowKit Go.Proofs Go.Am
open Pm
set_option maxRecDepth 1000000
set_option linter.unusedVariables false
set_option linter.unusedSimpArgs false
noncomputable section
abbrev V3 := Value × Value × Value
def c3 (c : V3) : List Value := [c.1, c.2.1, c.2.2]
theorem flat3_len (cs : List V3) : (cs.flatMap c3).length = cs.length * 3 := by
  induction cs with
  | nil => rfl
  | cons p cs ih => rw [List.flatMap_cons, List.length_append, ih, List.length_cons]; simp [c3]; omega
theorem flat3_get : ∀ (cs : List V3) (j : Nat), (cs.flatMap c3)[j]? = (cs[j / 3]?).bind fun p => (c3 p)[j % 3]?
  | [], j => by simp
  | p :: cs, j => by
    rw [List.flatMap_cons]
    by_cases h : j < 3
    · rw [List.getElem?_append_left (by simp [c3]; exact h), Nat.div_eq_of_lt h, Nat.mod_eq_of_lt h]; rfl
    · rw [List.getElem?_append_right (by simp [c3]; omega), show (c3 p).length = 3 from rfl, flat3_get cs]
      have e1 : j / 3 = (j - 3) / 3 + 1 := by omega
      have e2 : j % 3 = (j - 3) % 3 := by omega
      rw [e1, e2, List.getElem?_cons_succ]
theorem info28 : (Try.prog.info? 28).map (fun i => (i.zero, i.size, i.bytes)) = some (some (.agg #[.int .i64 0, .string ⟨#[]⟩, .slice none 0 0]), 3, 48) := by kernel_rfl
theorem und26 : Try.prog.underlying 26 = some (.slice 28) := by kernel_rfl
/-- an append to a row of one's own, as one step of a region that draws its order. -/
theorem step_appendO {P : Program} {ops : Array Oper} {o : Oper} {a : Act} {w : World} {K : Act → World → Prop} {Q : Exit → Act → World → Prop} {E : Prop} (hgd : o.guard = none) (s x : Operand) (t : TypeId)
    (ho : o.op = .call { callee := .builtin .append, args := #[s, x], argTypes := #[t, t] })
    (base : Nat) (e : TypeId) (i : TypeInfo) (z : Value) (size bytes : Nat) (ht : P.underlying t = some (.slice e)) (hi : P.info? e = some i) (hz : i.zero = some z)
    (hsize : i.size = size) (hby : i.bytes = bytes) (hzs : z.cells.size = size) (hsz : 0 < size)
    (v : Value) (n : Nat) (xs : List Value) (hs : a.eval s = v) (hown : w.ownsRow base e size v n xs)
    (ad : Addr) (m c : Nat) (news : List Value) (hx : a.eval x = .slice (some ad) m c) (hl : news.length = m * size) (hnews : ∀ j u, news[j]? = some u → w.cell? (ad.add j) = some u) (h1 : ∀ u ∈ news, u.oneCell' = true)
    (h63 : n + m ≤ maxLen) (hbytes : (n + m) * bytes ≤ 140737488355328) (hbase : base ≤ w.heap.size)
    (h : ∀ v' w', w'.ownsRow base e size v' (n + m) (xs ++ news) → w.grownBy w' v.ownBlock → (v'.ownBlock = v.ownBlock ∨ v'.ownBlock = some w.heap.size) → K (a.put o.dst v') w') :
    if Region.wanted o (yielded ops a.tmps) = true then Oper.wp P o a w K Q else E := by
  have hw : Region.wanted o (yielded ops a.tmps) = true := by simp [Region.wanted, hgd]
  rw [if_pos hw]
  obtain ⟨v', w', hr, h2, h3, h4, h5⟩ := run_append_own_at (P := P) w base t o.type e i z size bytes ht hi hz hsize hby hzs hsz v n xs hown ad m c news hl hnews h1 h63 hbytes hbase
  unfold Oper.wp execOp
  simp only [ho, resolve, invoke, builtin, Sem.run_bind, Sem.run_pure, Result.andThen_ok, List.map_toArray, List.map_cons, List.map_nil, hs, hx, hr]
  exact h v' w' h2 h3 h5
/-- between two ways within. -/
structure KidSt (w0 w : World) (b : Nat) (v : Value) (op : Int) (ns : List Int) (f : Nat → Wy × Nat) (q : Nat) (W : World) (i : Nat) (ks : Value) (cs : List V3) : Prop where
  box : W.heap[w.heap.size + 1]? = some (.cells #[.int .i64 op, .string ⟨#[]⟩, ks] 28 (0, 0))
  own : W.ownsRow (w.heap.size + 2) 28 3 ks i (cs.flatMap c3)
  nil : i = 0 → ks = .slice none 0 0
  klen : (kidsF f i q).1.length = i
  clen : cs.length = i
  kids : ∀ (j : Nat) kid c, (kidsF f i q).1[j]? = some kid → cs[j]? = some c → RepB (fun g => w.heap.size + 1 < g ∧ ks.ownBlock ≠ some g) W kid (.agg #[c.1, c.2.1, c.2.2])
  pl : At w0 b v ns W (kidsF f i q).2
  res : W.heap[w.heap.size]? = some (.cells #[.int .i64 0, .string ⟨#[]⟩, .slice none 0 0] 28 (0, 0))
  grown : w.grownBy W (some b)
  size : w.heap.size + 2 ≤ W.heap.size
theorem kid_step {w0 w W w1 w3 : World} {b : Nat} {v : Value} {op : Int} {ns : List Int} {f : Nat → Wy × Nat} {q i : Nat} {ks v' : Value} {cs : List V3} {o : Int} {s : ByteArray} {a : Option Addr} {n m : Nat} (hb : b < w.heap.size) (hb0 : w0.heap.size ≤ b)
    (h : KidSt w0 w b v op ns f q W i ks cs)
    (k1 : RepB (fun g => W.heap.size ≤ g) w1 (f (kidsF f i q).2).1 (.agg #[.int .i64 o, .string s, .slice a n m])) (k2 : Mk w1 b v (f (kidsF f i q).2).2) (k3 : W.grownBy w1 (some b)) (k4 : (f (kidsF f i q).2).2 ≤ ns.length)
    (hown : w3.ownsRow (w.heap.size + 2) 28 3 v' (i + 1) (cs.flatMap c3 ++ [.int .i64 o, .string s, .slice a n m])) (hg : (w1.alloc (.cells #[.int .i64 o, .string s, .slice a n m] 28)).grownBy w3 ks.ownBlock)
    (hat : v'.ownBlock = ks.ownBlock ∨ v'.ownBlock = some (w1.alloc (.cells #[.int .i64 o, .string s, .slice a n m] 28)).heap.size) :
    KidSt w0 w b v op ns f q (w3.setCell ⟨w.heap.size + 1, 2, none⟩ v') (i + 1) v' (cs ++ [(.int .i64 o, .string s, .slice a n m)]) := by
  have hs1 := k3.size
  have hs3 := hg.size
  simp only [World.size_alloc] at hs3 hat
  have hsz := h.size
  have kb : ∀ g, ks.ownBlock = some g → w.heap.size + 2 ≤ g ∧ g < W.heap.size := fun g e => ⟨(own_cellsB h.own e).1, (own_cellsB h.own e).2.1⟩
  -- what is not the row, the maker, the way's own box
  have keep : ∀ g, g < W.heap.size → g ≠ b → ks.ownBlock ≠ some g → g ≠ w.heap.size + 1 → (w3.setCell ⟨w.heap.size + 1, 2, none⟩ v').heap[g]? = W.heap[g]? := fun g h1 h2 h3 h4 =>
    (Below.heap_setCell _ _ _ g h4).trans ((hg.block g (by simp; omega) (fun e => h3 e.symm)).trans ((Below.heap_alloc _ _ _ (by omega)).trans (k3.block g h1 (fun e => h2 (Option.some.inj e)))))
  have keep1 : ∀ g, g < w1.heap.size → ks.ownBlock ≠ some g → g ≠ w.heap.size + 1 → (w3.setCell ⟨w.heap.size + 1, 2, none⟩ v').heap[g]? = w1.heap[g]? := fun g h1 h3 h4 =>
    (Below.heap_setCell _ _ _ g h4).trans ((hg.block g (by simp; omega) (fun e => h3 e.symm)).trans (Below.heap_alloc _ _ _ h1))
  have hss : (w3.setCell ⟨w.heap.size + 1, 2, none⟩ v').heap.size = w3.heap.size := by simp [World.setCell]
  have hvb : ∀ g, v'.ownBlock = some g → g ≠ w.heap.size + 1 ∧ g ≠ b := fun g e => by
    have := (own_cellsB hown e).1
    exact ⟨by omega, by omega⟩
  have hvn : ∀ g, ks.ownBlock ≠ some g → g < w1.heap.size → v'.ownBlock ≠ some g := fun g h1 h2 e => by
    rcases hat with e2 | e2
    · exact h1 (by rw [← e2]; exact e)
    · rw [e2] at e; have := Option.some.inj e; omega
  have hnb : ks.ownBlock ≠ some b := fun e => by have := (kb b e).1; omega
  have hn6 : ks.ownBlock ≠ some (w.heap.size + 1) := fun e => by have := (kb _ e).1; omega
  refine ⟨?_, ?_, fun e => absurd e (Nat.succ_ne_zero i), ?_, by simp [h.clen], ?_, ⟨?_, ?_, k4⟩, ?_, ?_, by rw [hss]; omega⟩
  · have hb3 : w3.heap[w.heap.size + 1]? = some (.cells #[.int .i64 op, .string ⟨#[]⟩, ks] 28 (0, 0)) := (hg.block _ (by simp; omega) (fun e => hn6 e.symm)).trans ((Below.heap_alloc _ _ _ (by omega)).trans ((k3.block _ (by omega) (fun e => by have := Option.some.inj e; omega)).trans h.box))
    obtain ⟨hlt, hk⟩ := Array.getElem?_eq_some_iff.1 hb3
    show (w3.heap.modify (w.heap.size + 1) _)[w.heap.size + 1]? = _
    rw [Array.getElem?_eq_getElem (by rw [Array.size_modify]; exact hlt), Array.getElem_modify_self, hk]
    rfl
  · have := own_keep hown (w' := w3.setCell ⟨w.heap.size + 1, 2, none⟩ v') (fun k e => Below.heap_setCell _ _ _ k (hvb k e).1)
    simpa [c3, List.flatMap_append] using this
  · show ((kidsF f i q).1 ++ [_]).length = _
    simp [h.klen]
  · intro j kid c hj hc
    have hj' : ((kidsF f i q).1 ++ [(f (kidsF f i q).2).1])[j]? = some kid := hj
    by_cases hji : j < i
    · rw [List.getElem?_append_left (by rw [h.klen]; exact hji)] at hj'
      rw [List.getElem?_append_left (by rw [h.clen]; exact hji)] at hc
      have hr := h.kids j kid c hj' hc
      have hr2 := RepB.kept (w' := w3.setCell ⟨w.heap.size + 1, 2, none⟩ v') (by rw [hss]; omega) (fun g hN hl => keep g hl (by omega) hN.2 (by omega)) (RepB.imp (N' := fun g => (w.heap.size + 1 < g ∧ ks.ownBlock ≠ some g) ∧ g < W.heap.size) (fun g hN hl => ⟨hN, hl⟩) hr |>.imp (fun g hN _ => hN.1))
      refine (RepB.kept (w' := w3.setCell ⟨w.heap.size + 1, 2, none⟩ v') (by rw [hss]; omega) (fun g hN hl => keep g hl (by omega) hN.1.2 (by omega)) (RepB.imp (N' := fun g => (w.heap.size + 1 < g ∧ ks.ownBlock ≠ some g) ∧ g < W.heap.size) (fun g hN hl => ⟨hN, hl⟩) hr)).imp (fun g hN _ => ⟨hN.1.1, hvn g hN.1.2 (by omega)⟩)
    · have hji2 : j = i := by
        have := (List.getElem?_eq_some_iff.1 hj').1
        simp [h.klen] at this
        omega
      subst hji2
      rw [List.getElem?_append_right (by rw [h.klen]; exact Nat.le_refl _), h.klen, Nat.sub_self] at hj'
      rw [List.getElem?_append_right (by rw [h.clen]; exact Nat.le_refl _), h.clen, Nat.sub_self] at hc
      cases hj'
      cases hc
      have hq : ∀ g, W.heap.size ≤ g → ks.ownBlock ≠ some g := fun g h1 e => by have := (kb g e).2; omega
      exact (RepB.kept (w' := w3.setCell ⟨w.heap.size + 1, 2, none⟩ v') (by rw [hss]; omega) (fun g hN hl => keep1 g hl (hq g hN.1) (by omega)) (RepB.imp (N' := fun g => W.heap.size ≤ g ∧ g < w1.heap.size) (fun g hN hl => ⟨hN, hl⟩) k1)).imp (fun g hN _ => ⟨by omega, hvn g (hq g hN.1) hN.2⟩)
  · have h1 := below_b h.pl.bel k3 hb0
    refine ⟨hg.os.trans h1.os, hg.tape.trans h1.tape, hg.output.trans h1.output, by rw [hss]; have := h1.size; omega, fun g hl => ?_⟩
    have hgl := h.pl.bel.size
    have hgb : g ≠ b := by omega
    exact (keep g (by omega) hgb (fun e => by have := (kb g e).1; omega) (by omega)).trans (h.pl.bel.block g hl)
  · exact k2.kept (keep1 b k2.lt hnb (by omega))
  · exact (keep _ (by omega) (by omega) (fun e => by have := (kb _ e).1; omega) (by omega)).trans h.res
  · have h1 := h.grown
    refine ⟨hg.os.trans (k3.os.trans h1.os), hg.tape.trans (k3.tape.trans h1.tape), hg.output.trans (k3.output.trans h1.output), by rw [hss]; omega, fun g hl hne => ?_⟩
    exact (keep g (by omega) (fun e => hne (by rw [e])) (fun e => by have := (kb g e).1; omega) (by omega)).trans (h1.block g hl hne)
theorem KidSt.cellsAt {w0 w W W' : World} {b : Nat} {v : Value} {op : Int} {ns : List Int} {f : Nat → Wy × Nat} {q n : Nat} {ks : Value} {cs : List V3} (h : KidSt w0 w b v op ns f q W n ks cs) (hb : b < w.heap.size) (hg : W.grownBy W' (some b)) : W'.cell? ⟨w.heap.size + 1, 2, none⟩ = some ks ∧ W'.frozen? ⟨w.heap.size + 1, 2, none⟩ = false ∧ W'.ownsRow (w.heap.size + 2) 28 3 ks n (cs.flatMap c3) := by
  have hsz := h.size
  obtain ⟨_, _, x2, _, _, y2⟩ := box3 ((hg.block (w.heap.size + 1) (by omega) (fun e => by have := Option.some.inj e; omega)).trans h.box)
  exact ⟨x2, y2, own_keep h.own (fun k e => hg.block k (own_cellsB h.own e).2.1 (fun e2 => by have := Option.some.inj e2; have := (own_cellsB h.own e).1; omega))⟩
theorem KidSt.cells3 {w0 w W w1 w3 : World} {b : Nat} {v : Value} {op : Int} {ns : List Int} {f : Nat → Wy × Nat} {q n : Nat} {ks : Value} {cs : List V3} {o : Obj} (h : KidSt w0 w b v op ns f q W n ks cs) (hb : b < w.heap.size) (hg : W.grownBy w1 (some b)) (hg3 : (w1.alloc o).grownBy w3 ks.ownBlock) : w3.cell? ⟨w.heap.size + 1, 2, none⟩ = some ks ∧ w3.frozen? ⟨w.heap.size + 1, 2, none⟩ = false := by
  have hsz := h.size
  have hs1 := hg.size
  obtain ⟨_, _, x2, _, _, y2⟩ := box3 ((hg3.block (w.heap.size + 1) (by simp; omega) (fun e => by have := (own_cellsB h.own e.symm).1; omega)).trans ((Below.heap_alloc _ _ _ (by omega)).trans ((hg.block (w.heap.size + 1) (by omega) (fun e => by have := Option.some.inj e; omega)).trans h.box)))
  exact ⟨x2, y2⟩
theorem KidSt.shape {w0 w W : World} {b : Nat} {v : Value} {op : Int} {ns : List Int} {f : Nat → Wy × Nat} {q n : Nat} {ks : Value} {cs : List V3} (h : KidSt w0 w b v op ns f q W n ks cs) : ∃ a k c, ks = .slice a k c := by
  rcases h.own.2 with ⟨rfl, _⟩ | ⟨g, cap, cur, rfl, _⟩
  · exact ⟨_, _, _, rfl⟩
  · exact ⟨_, _, _, rfl⟩
theorem kid_end {w0 w W : World} {b : Nat} {v : Value} {op : Int} {ns : List Int} {f : Nat → Wy × Nat} {q n : Nat} {ks : Value} {cs : List V3} (h : KidSt w0 w b v op ns f q W n ks cs) (hn : n ≤ 1000) : RepB (fun g => w.heap.size < g) W (.mk op ⟨#[]⟩ (kidsF f n q).1) (.agg #[.int .i64 op, .string ⟨#[]⟩, ks]) := by
  by_cases h0 : n = 0
  · rw [h.nil h0, h0]
    exact .leaf _ _
  · rcases h.own.2 with ⟨_, hz⟩ | ⟨g, cap, cur, rfl, hg, hgb, r1, r2, r3, r4⟩
    · exact absurd hz h0
    · have hkl := h.klen
      have hlen := h.clen
      have e : (Value.slice (some ⟨g, 0, none⟩) n cap) = .slice (some ⟨g, 0, none⟩) (kidsF f n q).1.length cap := by rw [hkl]
      rw [e]
      have hcell : ∀ j i c u, cs[j]? = some c → (c3 c)[i]? = some u → W.cell? ⟨g, j * 3 + i, none⟩ = some u := fun j i c u hj hi => by
        have hi3 : i < 3 := (List.getElem?_eq_some_iff.1 hi).1
        have hjn : j < n := by rw [← hlen]; exact (List.getElem?_eq_some_iff.1 hj).1
        have h1 : (cs.flatMap c3)[j * 3 + i]? = some u := by
          rw [flat3_get, show (j * 3 + i) / 3 = j by omega, show (j * 3 + i) % 3 = i by omega, hj]
          exact hi
        rw [← r4, List.getElem?_take_of_lt (by omega)] at h1
        simpa [World.cell?, hgb] using h1
      refine .node op ⟨#[]⟩ (kidsF f n q).1 g cap (by omega) (by omega) (Array.getElem?_eq_some_iff.1 hgb).1 (by omega) (fun j => (cs.getD j (undef, undef, undef)).1) (fun j => (cs.getD j (undef, undef, undef)).2.1) (fun j => (cs.getD j (undef, undef, undef)).2.2) (fun j hj => ?_) (fun j k hj => ?_)
      · obtain ⟨c, hc⟩ : ∃ c, cs[j]? = some c := ⟨cs[j]'(by omega), List.getElem?_eq_getElem (by omega)⟩
        have hd : cs.getD j (undef, undef, undef) = c := by rw [List.getD_eq_getElem?_getD, hc]; rfl
        rw [hd]
        exact ⟨hcell j 0 c _ hc rfl, hcell j 1 c _ hc rfl, hcell j 2 c _ hc rfl⟩
      · have hjl := (List.getElem?_eq_some_iff.1 hj).1
        obtain ⟨c, hc⟩ : ∃ c, cs[j]? = some c := ⟨cs[j]'(by omega), List.getElem?_eq_getElem (by omega)⟩
        have hd : cs.getD j (undef, undef, undef) = c := by rw [List.getD_eq_getElem?_getD, hc]; rfl
        rw [hd]
        exact (h.kids j k c hj hc).imp (fun g hN _ => by omega)
theorem st0 {w0 w w1 w2 : World} {b : Nat} {v : Value} {op : Int} {ns : List Int} {f : Nat → Wy × Nat} {q : Nat} (hbw : b < w.heap.size) (hs1 : w1.heap.size = w.heap.size + 1) (m2 : (w.alloc (.cells #[.int .i64 0, .string ⟨#[]⟩, .slice none 0 0] 28)).grownBy w1 (some b)) (n2 : (w1.alloc (.cells #[.int .i64 op, .string ⟨#[]⟩, .slice none 0 0] 28)).grownBy w2 (some b)) (hA3 : At w0 b v ns w2 q) : KidSt w0 w b v op ns f q w2 0 (.slice none 0 0) [] := by
  have e6 := (n2.block w1.heap.size (by simp) (by simp; omega)).trans (World.alloc_heap_new w1 (.cells #[.int .i64 op, .string ⟨#[]⟩, .slice none 0 0] 28))
  rw [hs1] at e6
  have e4 := (n2.block w.heap.size (by simp; omega) (by simp; omega)).trans ((Below.heap_alloc _ _ _ (by omega)).trans ((m2.block w.heap.size (by simp) (by simp; omega)).trans (World.alloc_heap_new w (.cells #[.int .i64 0, .string ⟨#[]⟩, .slice none 0 0] 28))))
  exact ⟨e6, ⟨rfl, .inl ⟨rfl, rfl⟩⟩, fun _ => rfl, rfl, rfl, fun j kid c hj => by simp [kidsF] at hj, hA3, e4, grown_transB (grown_allocB m2) (grown_allocB n2), by have := n2.size; simp at this; omega⟩
theorem st8 {w0 w W : World} {b : Nat} {v : Value} {op : Int} {ns : List Int} {f : Nat → Wy × Nat} {q : Nat} (hbw : b < w.heap.size) (hb0 : w0.heap.size ≤ b) (h : KidSt w0 w b v op ns f q W 0 (.slice none 0 0) []) : KidSt w0 w b v 8 ns f q (W.setCell ⟨w.heap.size + 1, 0, none⟩ (.int .i64 8)) 0 (.slice none 0 0) [] := by
  refine ⟨?_, ⟨rfl, .inl ⟨rfl, rfl⟩⟩, fun _ => rfl, rfl, rfl, fun j kid c hj => by simp [kidsF] at hj, ⟨h.pl.bel.setCell (p := ⟨w.heap.size + 1, 0, none⟩) (by show w0.heap.size ≤ w.heap.size + 1; omega) _, h.pl.here.kept (Below.heap_setCell _ _ _ _ (by show b ≠ w.heap.size + 1; omega)), h.pl.le⟩, (Below.heap_setCell _ _ _ _ (by show w.heap.size ≠ w.heap.size + 1; omega)).trans h.res, grown_setB _ h.grown (by show w.heap.size ≤ w.heap.size + 1; omega), by have := h.size; simpa [World.setCell] using this⟩
  obtain ⟨hlt, hk⟩ := Array.getElem?_eq_some_iff.1 h.box
  show (W.heap.modify (w.heap.size + 1) _)[w.heap.size + 1]? = _
  rw [Array.getElem?_eq_getElem (by rw [Array.size_modify]; exact hlt), Array.getElem_modify_self, hk]
  rfl
theorem kid_done {w0 w W : World} {b : Nat} {v : Value} {op : Int} {ns : List Int} {f : Nat → Wy × Nat} {q n : Nat} {a : Option Addr} {k c : Nat} {cs : List V3} (hb : b < w.heap.size) (h : KidSt w0 w b v op ns f q W n (.slice a k c) cs) (hn : n ≤ 1000) :
    WayPost b v w (.mk op ⟨#[]⟩ (kidsF f n q).1, (kidsF f n q).2) (.returned (.agg #[.int .i64 op, .string ⟨#[]⟩, .slice a k c])) (W.setRow w.heap.size #[.int .i64 op, .string ⟨#[]⟩, .slice a k c]) :=
  ⟨_, _, _, _, _, rfl, ((kid_end h hn).kept (w' := W.setRow w.heap.size #[.int .i64 op, .string ⟨#[]⟩, .slice a k c]) (by simp [World.setRow]) (fun g hN _ => setRow_other W _ g _ (by omega))).imp (fun g hN _ => by omega), h.pl.here.kept (setRow_other W _ b _ (by omega)), grown_row _ h.grown (Nat.le_refl _)⟩
end
end Go.Proofs.Ytaeiikielelicaa.Pt
