/- Region 10 of PathLaws, whole. -/
import Derived.Test.YtaeiikielelicaaPtReg10
set_option linter.unusedVariables false
set_option linter.unusedSimpArgs false
set_option linter.unusedSectionVars false
set_option linter.deprecated false
namespace Go.Proofs.Ytaeiikielelicaa.Pt
open Go.RowKit Go.Proofs Go.Am
open Pm
set_option maxRecDepth 1000000
set_option linter.unusedVariables false
set_option linter.unusedSimpArgs false
noncomputable section
def ops10 : Array Oper := #[{ dst := some 55, op := Op.load 28 (Operand.tmp 10), type := 28, pos := "law.go:126", after := #[], guard := none }, { dst := some 56, op := Op.load 28 (Operand.tmp 11), type := 28, pos := "law.go:126", after := #[], guard := none }, { dst := some 57, op := Op.load 28 (Operand.tmp 12), type := 28, pos := "law.go:126", after := #[], guard := none }, { dst := some 58, op := Op.buildSlice 26 3 #[(0, Operand.tmp 55), (1, Operand.tmp 56), (2, Operand.tmp 57)], type := 26, pos := "law.go:126", after := #[{ on := 0, ground := Ground.data }, { on := 1, ground := Ground.data }, { on := 2, ground := Ground.data }], guard := none }, { dst := some 59, op := Op.build 28 #[(0, Operand.const (Value.int IntKind.i64 4)), (2, Operand.tmp 58)], type := 28, pos := "law.go:126", after := #[{ on := 3, ground := Ground.data }], guard := none }, { dst := some 60, op := Op.load 28 (Operand.tmp 12), type := 28, pos := "law.go:126", after := #[{ on := 12, ground := Ground.gcOnly Departure.lateStores }], guard := none }, { dst := some 61, op := Op.load 28 (Operand.tmp 10), type := 28, pos := "law.go:126", after := #[{ on := 12, ground := Ground.gcOnly Departure.lateStores }], guard := none }, { dst := some 62, op := Op.load 28 (Operand.tmp 11), type := 28, pos := "law.go:126", after := #[{ on := 12, ground := Ground.gcOnly Departure.lateStores }], guard := none }, { dst := some 63, op := Op.buildSlice 26 3 #[(0, Operand.tmp 60), (1, Operand.tmp 61), (2, Operand.tmp 62)], type := 26, pos := "law.go:126", after := #[{ on := 5, ground := Ground.data }, { on := 6, ground := Ground.data }, { on := 7, ground := Ground.data }, { on := 12, ground := Ground.gcOnly Departure.lateStores }], guard := none }, { dst := some 64, op := Op.build 28 #[(0, Operand.const (Value.int IntKind.i64 4)), (2, Operand.tmp 63)], type := 28, pos := "law.go:126", after := #[{ on := 8, ground := Ground.data }, { on := 12, ground := Ground.gcOnly Departure.lateStores }], guard := none }, { dst := some 18, op := Op.alloc 28, type := 0, pos := "law.go:126", after := #[], guard := none }, { dst := some 19, op := Op.alloc 28, type := 0, pos := "law.go:126", after := #[], guard := none }, { dst := none, op := Op.store 28 (Operand.tmp 18) (Operand.tmp 59), type := 0, pos := "law.go:126", after := #[{ on := 10, ground := Ground.data }, { on := 4, ground := Ground.data }, { on := 0, ground := Ground.phase }, { on := 1, ground := Ground.phase }, { on := 2, ground := Ground.phase }, { on := 3, ground := Ground.phase }, { on := 4, ground := Ground.phase }, { on := 5, ground := Ground.textOnly Departure.lateStores }, { on := 6, ground := Ground.textOnly Departure.lateStores }, { on := 7, ground := Ground.textOnly Departure.lateStores }, { on := 8, ground := Ground.textOnly Departure.lateStores }, { on := 9, ground := Ground.textOnly Departure.lateStores }, { on := 10, ground := Ground.phase }, { on := 11, ground := Ground.phase }], guard := none }, { dst := none, op := Op.store 28 (Operand.tmp 19) (Operand.tmp 64), type := 0, pos := "law.go:126", after := #[{ on := 11, ground := Ground.data }, { on := 9, ground := Ground.data }, { on := 12, ground := Ground.chain }, { on := 0, ground := Ground.phase }, { on := 1, ground := Ground.phase }, { on := 2, ground := Ground.phase }, { on := 3, ground := Ground.phase }, { on := 4, ground := Ground.phase }, { on := 5, ground := Ground.phase }, { on := 6, ground := Ground.phase }, { on := 7, ground := Ground.phase }, { on := 8, ground := Ground.phase }, { on := 9, ground := Ground.phase }, { on := 10, ground := Ground.phase }, { on := 11, ground := Ground.phase }, { on := 12, ground := Ground.phase }], guard := none }]
theorem plain10 : Region.Plain ops10 119 := Region.plain_of_B (by kernel_rfl)
theorem eval_tmp {a : Act} {d : Nat} {v : Value} (h : a.tmps[d]? = some v) : a.eval (.tmp d) = v := by
  show a.tmps.getD d undef = v
  rw [Array.getD_eq_getD_getElem?, h]; rfl
theorem act_ext {a b : Act} (h : a.tmps = b.tmps) (h2 : a.defers = b.defers) : a = b := by
  cases a; cases b; cases h; cases h2; rfl
/-- temporaries put, one after another. -/
def putsL (l : List (Option Tmp × Value)) (a : Act) : Act := l.foldl (fun a p => a.put p.1 p.2) a
theorem putsL_defers : ∀ (l : List (Option Tmp × Value)) (a : Act), (putsL l a).defers = a.defers
  | [], a => rfl
  | p :: l, a => (putsL_defers l (a.put p.1 p.2)).trans (by cases p.1 <;> rfl)
def eV (c : V3) : Array Value := #[c.1, c.2.1, c.2.2]
theorem got10 {a a' : Act} {l : Array Bool} {v : Nat → Value} (hs : a.tmps.size = 119) (h : Region.Got ops10 a l v a') (hl : ∀ i, i < 14 → l.getD i false = true) :
    a' = putsL [(some 55, v 0), (some 56, v 1), (some 57, v 2), (some 58, v 3), (some 59, v 4), (some 60, v 5), (some 61, v 6), (some 62, v 7), (some 63, v 8), (some 64, v 9), (some 18, v 10), (some 19, v 11)] a := by
  have g0 := h.got 0 _ 55 rfl rfl (hl 0 (by omega))
  have g1 := h.got 1 _ 56 rfl rfl (hl 1 (by omega))
  have g2 := h.got 2 _ 57 rfl rfl (hl 2 (by omega))
  have g3 := h.got 3 _ 58 rfl rfl (hl 3 (by omega))
  have g4 := h.got 4 _ 59 rfl rfl (hl 4 (by omega))
  have g5 := h.got 5 _ 60 rfl rfl (hl 5 (by omega))
  have g6 := h.got 6 _ 61 rfl rfl (hl 6 (by omega))
  have g7 := h.got 7 _ 62 rfl rfl (hl 7 (by omega))
  have g8 := h.got 8 _ 63 rfl rfl (hl 8 (by omega))
  have g9 := h.got 9 _ 64 rfl rfl (hl 9 (by omega))
  have g10 := h.got 10 _ 18 rfl rfl (hl 10 (by omega))
  have g11 := h.got 11 _ 19 rfl rfl (hl 11 (by omega))
  have hr := h.rest
  have hd := h.defers
  have : a'.tmps = (putsL [(some 55, v 0), (some 56, v 1), (some 57, v 2), (some 58, v 3), (some 59, v 4), (some 60, v 5), (some 61, v 6), (some 62, v 7), (some 63, v 8), (some 64, v 9), (some 18, v 10), (some 19, v 11)] a).tmps := by
    apply Array.ext_getElem?
    intro k
    by_cases hk : k = 55 ∨ k = 56 ∨ k = 57 ∨ k = 58 ∨ k = 59 ∨ k = 60 ∨ k = 61 ∨ k = 62 ∨ k = 63 ∨ k = 64 ∨ k = 18 ∨ k = 19
    · rcases hk with rfl | rfl | rfl | rfl | rfl | rfl | rfl | rfl | rfl | rfl | rfl | rfl <;> simp [putsL, Act.put, Array.getElem?_setIfInBounds, hs, *]
    · simp only [not_or] at hk
      obtain ⟨n0, n1, n2, n3, n4, n5, n6, n7, n8, n9, n10, n11⟩ := hk
      have := hr k (fun j o hj hd => by
        have hj14 : j < 14 := (Array.getElem?_eq_some_iff.1 hj).1
        match j, hj14, hj with
        | 0, _, hj => cases hj; cases hd; omega
        | 1, _, hj => cases hj; cases hd; omega
        | 2, _, hj => cases hj; cases hd; omega
        | 3, _, hj => cases hj; cases hd; omega
        | 4, _, hj => cases hj; cases hd; omega
        | 5, _, hj => cases hj; cases hd; omega
        | 6, _, hj => cases hj; cases hd; omega
        | 7, _, hj => cases hj; cases hd; omega
        | 8, _, hj => cases hj; cases hd; omega
        | 9, _, hj => cases hj; cases hd; omega
        | 10, _, hj => cases hj; cases hd; omega
        | 11, _, hj => cases hj; cases hd; omega
        | 12, _, hj => cases hj; cases hd
        | 13, _, hj => cases hj; cases hd
        | n + 14, h, _ => omega)
      rw [this]
      simp [putsL, Act.put, Array.getElem?_setIfInBounds, Ne.symm n0, Ne.symm n1, Ne.symm n2, Ne.symm n3, Ne.symm n4, Ne.symm n5, Ne.symm n6, Ne.symm n7, Ne.symm n8, Ne.symm n9, Ne.symm n10, Ne.symm n11]
  exact act_ext this (hd.trans (putsL_defers _ _).symm)
theorem J10.whole {W0 : World} {A B C : V3} {bX bY b8 b9 : Nat} {l : Nat → Bool} {v : Nat → Value} {W : World} (h : J10 W0 A B C bX bY b8 b9 l v W) (hl : ∀ i, i < 14 → l i = true) : J10 W0 A B C bX bY b8 b9 (fun _ => true) v W := by
  obtain ⟨h0, h1, h2, h3, h4, h5, h6, h7, h8, h9, h10, h11, h12, h13, h14, h15, h16, h17⟩ := h
  have g : ∀ i, i < 14 → (true = true → l i = true) := fun i hi _ => hl i hi
  exact ⟨h0, fun _ => rfl, fun _ => rfl, fun _ => ⟨rfl, rfl⟩, fun _ => ⟨rfl, rfl⟩, fun e => h5 (g _ (by omega) e), fun e => h6 (g _ (by omega) e), fun e => h7 (g _ (by omega) e), fun e => h8 (g _ (by omega) e), fun e => h9 (g _ (by omega) e), fun e => h10 (g _ (by omega) e),
    fun e => h11 (g _ (by omega) e), fun e => h12 (g _ (by omega) e), fun e => h13 (g _ (by omega) e), fun e => h14 (g _ (by omega) e),
    fun e => by obtain ⟨e1, e2, cs, e3, e4, e5⟩ := h15 (g _ (by omega) e); exact ⟨e1, e2, cs, e3, e4, fun e6 => e5 (g _ (by omega) e6)⟩,
    fun e => by obtain ⟨e1, e2, cs, e3, e4, e5⟩ := h16 (g _ (by omega) e); exact ⟨e1, e2, cs, e3, e4, fun e6 => e5 (g _ (by omega) e6)⟩, fun e e2 => h17 (g _ (by omega) e) (g _ (by omega) e2)⟩
theorem no_dst10 (d : Nat) (hd : d = 10 ∨ d = 11 ∨ d = 12) {l : Array Bool} : ∀ (j : Nat) (o : Oper), ops10[j]? = some o → o.dst = some d → l.getD j false = false := fun j o hj he => by
  have hj14 : j < 14 := (Array.getElem?_eq_some_iff.1 hj).1
  match j, hj14, hj with
  | 0, _, hj => cases hj; cases he; omega
  | 1, _, hj => cases hj; cases he; omega
  | 2, _, hj => cases hj; cases he; omega
  | 3, _, hj => cases hj; cases he; omega
  | 4, _, hj => cases hj; cases he; omega
  | 5, _, hj => cases hj; cases he; omega
  | 6, _, hj => cases hj; cases he; omega
  | 7, _, hj => cases hj; cases he; omega
  | 8, _, hj => cases hj; cases he; omega
  | 9, _, hj => cases hj; cases he; omega
  | 10, _, hj => cases hj; cases he; omega
  | 11, _, hj => cases hj; cases he; omega
  | 12, _, hj => cases hj; cases he
  | 13, _, hj => cases hj; cases he
  | n + 14, h, _ => omega
theorem box_kept {W0 W : World} {x : Nat} {o : Obj} (hb : Below W0.heap.size W0 W) (h : W0.heap[x]? = some o) : W.heap[x]? = some o := (hb.block x (Array.getElem?_eq_some_iff.1 h).1).trans h
def Slice3 (A : V3) : Prop := ∃ (o : Int) (s : ByteArray) (a : Option Addr) (n m : Nat), A = (.int .i64 o, .string s, .slice a n m)
theorem reg10 {Q : Exit → Act → World → Prop} {a : Act} {W0 : World} (hm : Try.prog.follows .mixedOrders = true) (hs : a.tmps.size = 119) (A B C : V3) (x10 x11 x12 : Nat)
    (t10 : a.tmps[10]? = some (.pointer (some ⟨x10, 0, none⟩))) (t11 : a.tmps[11]? = some (.pointer (some ⟨x11, 0, none⟩))) (t12 : a.tmps[12]? = some (.pointer (some ⟨x12, 0, none⟩)))
    (hA : W0.heap[x10]? = some (.cells #[A.1, A.2.1, A.2.2] 28 (0, 0))) (hB : W0.heap[x11]? = some (.cells #[B.1, B.2.1, B.2.2] 28 (0, 0))) (hC : W0.heap[x12]? = some (.cells #[C.1, C.2.1, C.2.2] 28 (0, 0)))
    (hend : ∀ bX bY b8 b9 v W, J10 W0 A B C bX bY b8 b9 (fun _ => true) v W → Q .normal (putsL [(some 55, v 0), (some 56, v 1), (some 57, v 2), (some 58, v 3), (some 59, v 4), (some 60, v 5), (some 61, v 6), (some 62, v 7), (some 63, v 8), (some 64, v 9), (some 18, v 10), (some 19, v 11)] a) W) :
    (Code.region 10 ops10 true).wp Try.prog Q a W0 := by
  refine wp_region_ghost hm (by rw [hs]; exact plain10) (fun l v W => ∃ bX bY b8 b9, J10 W0 A B C bX bY b8 b9 (fun j => l.getD j false) v W) (fun _ => undef) ?_ ?_ ?_
  · have hf : ∀ j, (Array.replicate ops10.size false).getD j false = false := fun j => by
      rw [Array.getD_eq_getD_getElem?]
      cases hj : (Array.replicate ops10.size false)[j]? with
      | none => rfl
      | some b =>
        have := Array.mem_of_getElem? hj
        rw [Array.mem_replicate] at this
        rw [this.2]; rfl
    refine ⟨0, 0, 0, 0, ⟨rfl, rfl, rfl, Nat.le_refl _, fun _ _ => rfl⟩, ?_, ?_, ?_, ?_, ?_, ?_, ?_, ?_, ?_, ?_, ?_, ?_, ?_, ?_, ?_, ?_, ?_⟩ <;> (intro h; rw [hf] at h; cases h)
  · rintro l v a' W i o hG ⟨bX, bY, b8, b9, hJ⟩ ho hi hafter
    have hset : (fun j => (l.setIfInBounds i true).getD j false) = fun j => if j = i then true else l.getD j false := funext fun j => getD_set hi j
    have hli : l.getD i false = false := by rw [Array.getD_eq_getD_getElem?, hi]; rfl
    have e10 : a'.eval (.tmp 10) = .pointer (some ⟨x10, 0, none⟩) := eval_tmp ((hG.rest 10 (no_dst10 10 (by omega))).trans t10)
    have e11 : a'.eval (.tmp 11) = .pointer (some ⟨x11, 0, none⟩) := eval_tmp ((hG.rest 11 (no_dst10 11 (by omega))).trans t11)
    have e12 : a'.eval (.tmp 12) = .pointer (some ⟨x12, 0, none⟩) := eval_tmp ((hG.rest 12 (no_dst10 12 (by omega))).trans t12)
    have hA' := box_kept hJ.below hA
    have hB' := box_kept hJ.below hB
    have hC' := box_kept hJ.below hC
    have hi14 : i < 14 := (Array.getElem?_eq_some_iff.1 ho).1
    match i, hi14, ho with
    | 0, _, ho =>
      cases ho
      exact ⟨_, _, .inl (run_load28 _ _ rfl _ x10 e10 A 28 W hA'), bX, bY, b8, b9, by rw [hset]; exact hJ.load 0 hli _ (.inl ⟨rfl, rfl⟩)⟩
    | 1, _, ho =>
      cases ho
      exact ⟨_, _, .inl (run_load28 _ _ rfl _ x11 e11 B 28 W hB'), bX, bY, b8, b9, by rw [hset]; exact hJ.load 1 hli _ (.inr (.inl ⟨rfl, rfl⟩))⟩
    | 2, _, ho =>
      cases ho
      exact ⟨_, _, .inl (run_load28 _ _ rfl _ x12 e12 C 28 W hC'), bX, bY, b8, b9, by rw [hset]; exact hJ.load 2 hli _ (.inr (.inr (.inl ⟨rfl, rfl⟩)))⟩
    | 3, _, ho =>
      cases ho
      have d0 := hafter ⟨0, .data⟩ (Array.mem_of_getElem? (i := 0) rfl) rfl
      have d1 := hafter ⟨1, .data⟩ (Array.mem_of_getElem? (i := 1) rfl) rfl
      have d2 := hafter ⟨2, .data⟩ (Array.mem_of_getElem? (i := 2) rfl) rfl
      have f0 := eval_tmp ((hG.got 0 _ 55 rfl rfl d0).trans (by rw [hJ.v0 d0]))
      have f1 := eval_tmp ((hG.got 1 _ 56 rfl rfl d1).trans (by rw [hJ.v1 d1]))
      have f2 := eval_tmp ((hG.got 2 _ 57 rfl rfl d2).trans (by rw [hJ.v2 d2]))
      exact ⟨_, _, .inl (run_rows3 _ _ _ _ rfl _ A B C f0 f1 f2 W), _, bY, b8, b9, by rw [hset]; exact hJ.rowX hli⟩
    | 4, _, ho =>
      cases ho
      have d0 := hafter ⟨3, .data⟩ (Array.mem_of_getElem? (i := 0) rfl) rfl
      have f0 := eval_tmp ((hG.got 3 _ 58 rfl rfl d0).trans (by rw [(hJ.v3 d0).1]))
      exact ⟨_, _, .inl (run_build28 _ 4 _ rfl _ rfl _ f0 ⟨_, _, _, rfl⟩ W), bX, bY, b8, b9, by rw [hset]; exact hJ.build 4 hli _ (.inl ⟨rfl, d0, rfl⟩)⟩
    | 5, _, ho =>
      cases ho
      exact ⟨_, _, .inl (run_load28 _ _ rfl _ x12 e12 C 28 W hC'), bX, bY, b8, b9, by rw [hset]; exact hJ.load 5 hli _ (.inr (.inr (.inr (.inl ⟨rfl, rfl⟩))))⟩
    | 6, _, ho =>
      cases ho
      exact ⟨_, _, .inl (run_load28 _ _ rfl _ x10 e10 A 28 W hA'), bX, bY, b8, b9, by rw [hset]; exact hJ.load 6 hli _ (.inr (.inr (.inr (.inr (.inl ⟨rfl, rfl⟩)))))⟩
    | 7, _, ho =>
      cases ho
      exact ⟨_, _, .inl (run_load28 _ _ rfl _ x11 e11 B 28 W hB'), bX, bY, b8, b9, by rw [hset]; exact hJ.load 7 hli _ (.inr (.inr (.inr (.inr (.inr (⟨rfl, rfl⟩))))))⟩
    | 8, _, ho =>
      cases ho
      have d0 := hafter ⟨5, .data⟩ (Array.mem_of_getElem? (i := 0) rfl) rfl
      have d1 := hafter ⟨6, .data⟩ (Array.mem_of_getElem? (i := 1) rfl) rfl
      have d2 := hafter ⟨7, .data⟩ (Array.mem_of_getElem? (i := 2) rfl) rfl
      have f0 := eval_tmp ((hG.got 5 _ 60 rfl rfl d0).trans (by rw [hJ.v5 d0]))
      have f1 := eval_tmp ((hG.got 6 _ 61 rfl rfl d1).trans (by rw [hJ.v6 d1]))
      have f2 := eval_tmp ((hG.got 7 _ 62 rfl rfl d2).trans (by rw [hJ.v7 d2]))
      exact ⟨_, _, .inl (run_rows3 _ _ _ _ rfl _ C A B f0 f1 f2 W), bX, _, b8, b9, by rw [hset]; exact hJ.rowY hli⟩
    | 9, _, ho =>
      cases ho
      have d0 := hafter ⟨8, .data⟩ (Array.mem_of_getElem? (i := 0) rfl) rfl
      have f0 := eval_tmp ((hG.got 8 _ 63 rfl rfl d0).trans (by rw [(hJ.v8 d0).1]))
      exact ⟨_, _, .inl (run_build28 _ 4 _ rfl _ rfl _ f0 ⟨_, _, _, rfl⟩ W), bX, bY, b8, b9, by rw [hset]; exact hJ.build 9 hli _ (.inr ⟨rfl, d0, rfl⟩)⟩
    | 10, _, ho =>
      cases ho
      exact ⟨_, _, .inl (run_alloc28 _ rfl _ W), bX, bY, _, b9, by rw [hset]; exact hJ.box8 hli⟩
    | 11, _, ho =>
      cases ho
      exact ⟨_, _, .inl (run_alloc28 _ rfl _ W), bX, bY, b8, _, by rw [hset]; exact hJ.box9 hli⟩
    | 12, _, ho =>
      cases ho
      have d0 := hafter ⟨10, .data⟩ (Array.mem_of_getElem? (i := 0) rfl) rfl
      have d1 := hafter ⟨4, .data⟩ (Array.mem_of_getElem? (i := 1) rfl) rfl
      obtain ⟨p1, p2, cs, p3, p4, p5⟩ := hJ.v10 d0
      have f0 := eval_tmp ((hG.got 10 _ 18 rfl rfl d0).trans (by rw [p1]))
      have f1 := eval_tmp ((hG.got 4 _ 59 rfl rfl d1).trans (by rw [hJ.v4 d1]))
      exact ⟨_, _, .inr ⟨run_store28 _ _ _ rfl _ b8 f0 _ _ _ _ _ f1 cs p3 W p4, rfl⟩, bX, bY, b8, b9, by rw [hset]; exact hJ.set d1 d0 hli _⟩
    | 13, _, ho =>
      cases ho
      have d0 := hafter ⟨11, .data⟩ (Array.mem_of_getElem? (i := 0) rfl) rfl
      have d1 := hafter ⟨9, .data⟩ (Array.mem_of_getElem? (i := 1) rfl) rfl
      obtain ⟨p1, p2, cs, p3, p4, p5⟩ := hJ.v11 d0
      have f0 := eval_tmp ((hG.got 11 _ 19 rfl rfl d0).trans (by rw [p1]))
      have f1 := eval_tmp ((hG.got 9 _ 64 rfl rfl d1).trans (by rw [hJ.v9 d1]))
      exact ⟨_, _, .inr ⟨run_store28 _ _ _ rfl _ b9 f0 _ _ _ _ _ f1 cs p3 W p4, rfl⟩, bX, bY, b8, b9, by rw [hset]; exact hJ.set2 d1 d0 hli _⟩
    | n + 14, h, _ => omega
  · rintro l v a' W hG ⟨bX, bY, b8, b9, hJ⟩ hl
    have hl' : ∀ i, i < 14 → l.getD i false = true := fun i hi => hl i hi
    rw [got10 hs hG hl']
    exact hend bX bY b8 b9 v W (hJ.whole hl')
def V3.is (A : V3) (o : Int) (s : ByteArray) (a : Option Addr) (n m : Nat) : Prop := A = (.int .i64 o, .string s, .slice a n m)
/-- rows of three, of two ways. -/
theorem rep3 {W : World} {TA TB TC : Wy} {A B C : V3} (op : Int) (g : Nat) (hA : RepW W TA (.agg #[A.1, A.2.1, A.2.2])) (hB : RepW W TB (.agg #[B.1, B.2.1, B.2.2])) (hC : RepW W TC (.agg #[C.1, C.2.1, C.2.2]))
    (hg : W.heap[g]? = some (.cells #[A.1, A.2.1, A.2.2, B.1, B.2.1, B.2.2, C.1, C.2.1, C.2.2] 28 (0, 0))) : RepW W (.mk op ⟨#[]⟩ [TA, TB, TC]) (.agg #[.int .i64 op, .string ⟨#[]⟩, .slice (some ⟨g, 0, none⟩) 3 3]) := by
  refine repW_row op ⟨#[]⟩ g 3 [(TA, A), (TB, B), (TC, C)] (by simp) (by simp) _ hg rfl (fun q hq => ?_)
  simp only [List.mem_cons, List.not_mem_nil, or_false] at hq
  rcases hq with rfl | rfl | rfl
  · exact hA
  · exact hB
  · exact hC
theorem rep2 {W : World} {TA TB : Wy} {A B : V3} (op : Int) (g : Nat) (hA : RepW W TA (.agg #[A.1, A.2.1, A.2.2])) (hB : RepW W TB (.agg #[B.1, B.2.1, B.2.2]))
    (hg : W.heap[g]? = some (.cells #[A.1, A.2.1, A.2.2, B.1, B.2.1, B.2.2] 28 (0, 0))) : RepW W (.mk op ⟨#[]⟩ [TA, TB]) (.agg #[.int .i64 op, .string ⟨#[]⟩, .slice (some ⟨g, 0, none⟩) 2 2]) := by
  refine repW_row op ⟨#[]⟩ g 2 [(TA, A), (TB, B)] (by simp) (by simp) _ hg rfl (fun q hq => ?_)
  simp only [List.mem_cons, List.not_mem_nil, or_false] at hq
  rcases hq with rfl | rfl
  · exact hA
  · exact hB
/-- what is made ahead of region 10. -/
def nine (N : Nat) (A B C S : V3) : List Obj :=
  [.cells #[S.1, S.2.1, S.2.2] 28, .cells #[A.1, A.2.1, A.2.2, B.1, B.2.1, B.2.2, C.1, C.2.1, C.2.2] 28, .cells #[.int .i64 3, .string ⟨#[]⟩, .slice (some ⟨N + 1, 0, none⟩) 3 3] 28,
   .cells #[A.1, A.2.1, A.2.2, B.1, B.2.1, B.2.2] 28, .cells #[.int .i64 3, .string ⟨#[]⟩, .slice (some ⟨N + 3, 0, none⟩) 2 2, C.1, C.2.1, C.2.2] 28, .cells #[.int .i64 3, .string ⟨#[]⟩, .slice (some ⟨N + 4, 0, none⟩) 2 2] 28,
   .cells #[B.1, B.2.1, B.2.2, C.1, C.2.1, C.2.2] 28, .cells #[A.1, A.2.1, A.2.2, .int .i64 3, .string ⟨#[]⟩, .slice (some ⟨N + 6, 0, none⟩) 2 2] 28, .cells #[.int .i64 3, .string ⟨#[]⟩, .slice (some ⟨N + 7, 0, none⟩) 2 2] 28]
structure Made9 (w9 W0 : World) (A B C S : V3) : Prop where
  low : Below w9.heap.size w9 W0
  size : W0.heap.size = w9.heap.size + 9
  at_ : ∀ k o, (nine w9.heap.size A B C S)[k]? = some o → W0.heap[w9.heap.size + k]? = some o
theorem made9 (w9 : World) (A B C S : V3) : Made9 w9 (allocL w9 (nine w9.heap.size A B C S)) A B C S := ⟨allocL_below _ _, allocL_size _ _, fun k o h => allocL_heap _ _ k o h⟩
theorem ways9 {w9 W0 W : World} {A B C S : V3} (h : Made9 w9 W0 A B C S) (hW : Below W0.heap.size W0 W) {TA TB TC : Wy} (hA : RepW W TA (.agg #[A.1, A.2.1, A.2.2])) (hB : RepW W TB (.agg #[B.1, B.2.1, B.2.2])) (hC : RepW W TC (.agg #[C.1, C.2.1, C.2.2])) :
    RepW W (.mk 3 ⟨#[]⟩ [TA, TB, TC]) (.agg #[.int .i64 3, .string ⟨#[]⟩, .slice (some ⟨w9.heap.size + 1, 0, none⟩) 3 3]) ∧
    RepW W (.mk 3 ⟨#[]⟩ [.mk 3 ⟨#[]⟩ [TA, TB], TC]) (.agg #[.int .i64 3, .string ⟨#[]⟩, .slice (some ⟨w9.heap.size + 4, 0, none⟩) 2 2]) ∧
    RepW W (.mk 3 ⟨#[]⟩ [TA, .mk 3 ⟨#[]⟩ [TB, TC]]) (.agg #[.int .i64 3, .string ⟨#[]⟩, .slice (some ⟨w9.heap.size + 7, 0, none⟩) 2 2]) := by
  have g1 := box_kept hW (h.at_ 1 _ rfl)
  have g3 := box_kept hW (h.at_ 3 _ rfl)
  have g4 := box_kept hW (h.at_ 4 _ rfl)
  have g6 := box_kept hW (h.at_ 6 _ rfl)
  have g7 := box_kept hW (h.at_ 7 _ rfl)
  exact ⟨rep3 3 _ hA hB hC g1, rep2 (A := (.int .i64 3, .string ⟨#[]⟩, .slice (some ⟨w9.heap.size + 3, 0, none⟩) 2 2)) (B := C) 3 _ (rep2 3 _ hA hB g3) hC g4, rep2 (A := A) (B := (.int .i64 3, .string ⟨#[]⟩, .slice (some ⟨w9.heap.size + 6, 0, none⟩) 2 2)) 3 _ hA (rep2 3 _ hB hC g6) g7⟩
theorem cells3 {W : World} {g : Nat} {x y z : Value} (h : W.heap[g]? = some (.cells #[x, y, z] 28 (0, 0))) : W.cell? ⟨g, 0, none⟩ = some x ∧ W.cell? ⟨g, 1, none⟩ = some y ∧ W.cell? ⟨g, 2, none⟩ = some z := by simp [World.cell?, h]
end
end Go.Proofs.Ytaeiikielelicaa.Pt
