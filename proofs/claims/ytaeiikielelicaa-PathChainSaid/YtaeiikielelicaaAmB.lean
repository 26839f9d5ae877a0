/- The abstract machine's operations against the model's: those that call nothing. -/
import Derived.Laws.Sem
import Derived.Laws.Tables
import Derived.IntWalk
import Derived.Deep.AppendSrc
import Derived.Test.YtaeiikielelicaaAmA
set_option linter.unusedVariables false
set_option linter.unusedSimpArgs false
set_option linter.unusedSectionVars false
namespace Go.Am
open Go.RowKit

/-! ### runs -/
section
variable {P : Program}
theorem rb {α β : Type} {s : Sem α} {f : α → Sem β} {w w1 : World} {a : α} (h : s.run P w = .ok a w1) : (s >>= f).run P w = (f a).run P w1 := by
  rw [Sem.run_bind, h]; rfl
theorem run_v {s : Sem Value} {w w1 : World} {a : Value} (h : s.run P w = .ok a w1) : (do pure (Next.value (← s)) : Sem Next).run P w = .ok (.value a) w1 := by
  rw [rb h]; rfl
theorem run_und {t : TypeId} {d : TypeDesc} (h : P.underlying t = some d) (w : World) : (underlying t).run P w = .ok d w := by
  unfold underlying
  rw [rb (a := P) (w1 := w) rfl, h]; rfl
theorem run_info {t : TypeId} {i : TypeInfo} (h : P.info? t = some i) (w : World) : (typeInfo t).run P w = .ok i w := by
  unfold typeInfo
  rw [rb (a := P) (w1 := w) rfl, h]; rfl
theorem run_size {t : TypeId} {n : Nat} (h : size? P t = some n) (w : World) : (sizeOf t).run P w = .ok n w := by
  obtain ⟨i, hi, h⟩ := ob_some h
  unfold sizeOf
  rw [rb (run_info hi w)]; obtain rfl := Option.some.inj h; rfl
theorem zero_flat {t : TypeId} {z : Value} (h : zero? P t = some z) : flat z = true := by
  obtain ⟨i, hi, h⟩ := ob_some h
  obtain ⟨z', hz, h⟩ := ob_some h
  obtain ⟨hf, h⟩ := bt_some h
  obtain rfl := Option.some.inj h
  exact hf
theorem run_zero {t : TypeId} {z : Value} (h : zero? P t = some z) (w : World) : (zeroValue t).run P w = .ok z w := by
  obtain ⟨i, hi, h⟩ := ob_some h
  obtain ⟨z', hz, h⟩ := ob_some h
  obtain ⟨hf, h⟩ := bt_some h
  obtain rfl := Option.some.inj h
  unfold zeroValue
  rw [rb (run_info hi w), hz]; rfl
theorem run_isAgg {t : TypeId} {g : Bool} (h : isAgg? P t = some g) (w : World) : (isAgg t).run P w = .ok g w := by
  obtain ⟨d, hd, h⟩ := ob_some h
  obtain rfl := Option.some.inj h
  unfold isAgg
  rw [rb (run_und hd w)]
  cases d <;> rfl
theorem run_val {α : Type} : ∀ (s : Sem α) (a : α), val? P s = some a → ∀ w, s.run P w = .ok a w := by
  intro s
  induction s with
  | pure a => intro b h w; obtain rfl := Option.some.inj h; rfl
  | program k ih => intro b h w; exact ih P b h w
  | mark m k ih => intro b h w; exact ih b h w
  | _ => intro b h; cases h
theorem next_some {s : Sem Next} {v : Value} (h : next? P s = some v) : flat v = true ∧ ∀ w, s.run P w = .ok (.value v) w := by
  obtain ⟨n, hn, h⟩ := ob_some h
  obtain ⟨u, hu, h⟩ := ob_some h
  obtain ⟨hf, h⟩ := bt_some h
  obtain rfl := Option.some.inj h
  refine ⟨hf, fun w => ?_⟩
  cases n <;> simp [nextV] at hu
  subst hu
  exact run_val _ _ hn w
theorem with_some {m : Mem} {v : Option Value} {r : Value × Mem} (h : with_ m v = some r) : v = some r.1 ∧ r.2 = m := by
  obtain ⟨a, ha, h⟩ := ob_some h
  obtain rfl := Option.some.inj h
  exact ⟨ha, rfl⟩

/-- the operands' values. -/
def EnvR (nw : Nat) (ρ : Rho) (a : Operand → Option Value) (c : Operand → Value) : Prop := ∀ x v, a x = some v → VRel nw ρ v (c x)

/-- what an operation does in the model. -/
def Done (P : Program) (base : Nat) (w0 : Orig) (ρ : Rho) (r : Value × Mem) (s : Sem Next) (w : World) : Prop :=
  ∃ nx w' v' ρ', s.run P w = .ok nx w' ∧ (nx = .value v' ∨ (nx = .skip ∧ v' = undef)) ∧ Rho.le ρ ρ' ∧ VRel P.globals.size ρ' r.1 v' ∧ Rep P base w0 ρ' r.2 w'

variable {base : Nat} {w : World} {w0 : Orig} {ρ : Rho} {m : Mem} {ρA : Operand → Option Value} {ρC : Operand → Value} {o : Oper}

theorem done_same {v v' : Value} {s : Sem Next} (hr : Rep P base w0 ρ m w) (h : s.run P w = .ok (.value v') w) (hv : VRel P.globals.size ρ v v') : Done P base w0 ρ (v, m) s w :=
  ⟨_, w, v', ρ, h, .inl rfl, Rho.le_refl ρ, hv, hr⟩

theorem done_gen {v : Value} {s : Sem Next} (hr : Rep P base w0 ρ m w) (h : next? P s = some v) : Done P base w0 ρ (v, m) s w :=
  let ⟨hf, hs⟩ := next_some h
  done_same hr (hs w) (VRel.flat hf)

theorem tot_flat (he : EnvR P.globals.size ρ ρA ρC) {x : Operand} {v : Value} (hx : ρA x = some v) (hf : flat v = true) : tot ρA x = ρC x := by
  rw [(he x v hx).of_flat hf]
  show op2 (ρA x) undef (fun v => v) = v
  rw [hx]; rfl

/-! ### inversion of the looks at a value -/
theorem asInt_some {v : Value} {p : IntKind × Int} (h : asInt? v = some p) : v = .int p.1 p.2 := by
  cases v <;> first | (obtain rfl := Option.some.inj h; rfl) | (cases h)
theorem asStr_some {v : Value} {p : ByteArray} (h : asStr? v = some p) : v = .string p := by
  cases v <;> first | (obtain rfl := Option.some.inj h; rfl) | (cases h)
theorem asPtr_some {v : Value} {p : Option Addr} (h : asPtr? v = some p) : v = .pointer p := by
  cases v <;> first | (obtain rfl := Option.some.inj h; rfl) | (cases h)
theorem asSl_some {v : Value} {p : Option Addr × Nat × Nat} (h : asSl? v = some p) : v = .slice p.1 p.2.1 p.2.2 := by
  cases v <;> first | (obtain rfl := Option.some.inj h; rfl) | (cases h)
theorem asBool_some {v : Value} {p : Bool} (h : asBool? v = some p) : v = .bool p := by
  cases v <;> first | (obtain rfl := Option.some.inj h; rfl) | (cases h)
theorem asAgg_some {v : Value} {l : List Value} (h : asAgg? v = some l) : ∃ cs, v = .agg cs ∧ cs.toList = l := by
  cases v <;> first | (exact ⟨_, rfl, Option.some.inj h⟩) | (cases h)
theorem asTup_some {v : Value} {l : List Value} (h : asTup? v = some l) : ∃ cs, v = .tuple cs ∧ cs.toList = l := by
  cases v <;> first | (exact ⟨_, rfl, Option.some.inj h⟩) | (cases h)
theorem ikEq_t {a b : IntKind} (h : ikEq a b = true) : a = b := by
  cases a <;> cases b <;> first | rfl | (exact absurd h (by decide))

/-! ### loads -/
theorem ldOne_cell {z v : Value} {b o : Nat} (h : ldOne z m b o = some v) : m.cell b o = some v := by
  cases z with
  | int k n =>
    obtain ⟨n, h1, h⟩ := ob_some h
    obtain ⟨u, hu, h1⟩ := ob_some h1
    obtain ⟨p, hp, h1⟩ := ob_some h1
    obtain ⟨hk, h1⟩ := bt_some h1
    obtain rfl := Option.some.inj h
    obtain rfl := Option.some.inj h1
    rw [hu, asInt_some hp, ikEq_t hk]
  | bool b0 =>
    obtain ⟨n, h1, h⟩ := ob_some h
    obtain ⟨u, hu, h1⟩ := ob_some h1
    obtain rfl := Option.some.inj h
    rw [hu, asBool_some h1]
  | string s =>
    obtain ⟨n, h1, h⟩ := ob_some h
    obtain ⟨u, hu, h1⟩ := ob_some h1
    obtain rfl := Option.some.inj h
    rw [hu, asStr_some h1]
  | pointer s =>
    obtain ⟨n, h1, h⟩ := ob_some h
    obtain ⟨u, hu, h1⟩ := ob_some h1
    obtain rfl := Option.some.inj h
    rw [hu, asPtr_some h1]
  | slice a n c =>
    obtain ⟨n, h1, h⟩ := ob_some h
    obtain ⟨u, hu, h1⟩ := ob_some h1
    obtain rfl := Option.some.inj h
    rw [hu, asSl_some h1]
  | _ => exact h

theorem ldAll_cells : ∀ (zs : List Value) (o b : Nat) (l : List Value), ldAll zs m b o = some l → l.length = zs.length ∧ ∀ i v, l[i]? = some v → m.cell b (o + i) = some v := by
  intro zs
  induction zs with
  | nil => intro o b l h; obtain rfl : [] = l := Option.some.inj h; exact ⟨rfl, fun i v hv => by simp at hv⟩
  | cons z zs ih =>
    intro o b l h
    obtain ⟨v, hv, h⟩ := ob_some h
    obtain ⟨l', hl, h⟩ := ob_some h
    obtain rfl := Option.some.inj h
    obtain ⟨h1, h2⟩ := ih _ _ _ hl
    refine ⟨by simp [h1], fun i u hu => ?_⟩
    cases i with
    | zero => simp at hu; subst hu; exact ldOne_cell hv
    | succ i => simp at hu; rw [show o + (i + 1) = Nat.succ o + i from by omega]; exact h2 i u hu

theorem exists_list : ∀ (n : Nat) (R : Nat → Value → Prop), (∀ i, i < n → ∃ v, R i v) → ∃ l : List Value, l.length = n ∧ ∀ i v, l[i]? = some v → R i v := by
  intro n
  induction n with
  | zero => intro R h; exact ⟨[], rfl, fun i v hv => by simp at hv⟩
  | succ n ih =>
    intro R h
    obtain ⟨v, hv⟩ := h 0 (by omega)
    obtain ⟨l, h1, h2⟩ := ih (fun i => R (i + 1)) (fun i hi => h (i + 1) (by omega))
    refine ⟨v :: l, by simp [h1], fun i u hu => ?_⟩
    cases i with
    | zero => simp at hu; subst hu; exact hv
    | succ i => simp at hu; exact h2 i u hu

theorem load_sound (hr : Rep P base w0 ρ m w) {t : TypeId} {b o : Nat} {v : Value} (h : loadA P t b o m = some v) {s : Slot} (hs : ρ b = some s) :
    ∃ v', (loadVar t ⟨s.blk, s.shift + o, none⟩).run P w = .ok v' w ∧ VRel P.globals.size ρ v v' := by
  obtain ⟨i, hi, h⟩ := ob_some h
  obtain ⟨z, hz, h⟩ := ob_some h
  obtain ⟨g, hg, h⟩ := ob_some h
  unfold loadVar
  rw [rb (run_isAgg hg w)]
  have hsz : size? P t = some i.size := by unfold size?; rw [hi]; rfl
  cases g with
  | true =>
    simp only [ite2_t] at h
    obtain ⟨hlen, h⟩ := bt_some h
    obtain ⟨l, hl, h⟩ := ob_some h
    obtain rfl := Option.some.inj h
    obtain ⟨h1, h2⟩ := ldAll_cells _ _ _ _ hl
    obtain ⟨l', hl', hR⟩ := exists_list i.size (fun j u => w.cell? ⟨s.blk, s.shift + o + j, none⟩ = some u ∧ ∀ v, l[j]? = some v → VRel P.globals.size ρ v u) (fun j hj => by
      have hjl : j < l.length := by rw [h1, beq_t hlen]; exact hj
      obtain ⟨s', v', hs', hc, hv⟩ := hr.cell hs (h2 j l[j] (List.getElem?_eq_getElem hjl))
      rw [hs] at hs'; obtain rfl := Option.some.inj hs'
      refine ⟨v', by rw [Nat.add_assoc]; exact hc, fun v hv' => ?_⟩
      rw [List.getElem?_eq_getElem hjl] at hv'; obtain rfl := Option.some.inj hv'; exact hv)
    refine ⟨.agg l'.toArray, ?_, ?_⟩
    · show ((sizeOf t >>= fun n => loadCells ⟨s.blk, s.shift + o, none⟩ n >>= fun x => pure (Value.agg x) : Sem Value)).run P w = _
      rw [rb (run_size hsz w), rb (run_loadCells w s.blk (s.shift + o) i.size l' hl' (fun k hk => by
        have := List.getElem?_eq_getElem (show k < l'.length by omega)
        rw [this]; exact (hR k _ this).1))]
      rfl
    · refine .agg _ _ (by simp [hl', h1, beq_t hlen]) (fun j v v' hv hv' => ?_)
      exact (hR j v' (by simpa using hv')).2 v (by simpa [aggOf] using hv)
  | false =>
    simp only [ite2_f] at h
    obtain ⟨s', v', hs', hc, hv⟩ := hr.cell hs (ldOne_cell h)
    rw [hs] at hs'; obtain rfl := Option.some.inj hs'
    refine ⟨v', ?_, hv⟩
    show (Go.load ⟨s.blk, s.shift + o, none⟩).run P w = _
    simp [Go.load, Sem.run, hc]

theorem at_some {x : Option Value} {p : Nat × Nat} (h : at? x = some p) : ∃ a, x = some (.pointer a) ∧ adr a = some p := by
  obtain ⟨v, hv, h⟩ := ob_some h
  obtain ⟨a, ha, h⟩ := ob_some h
  cases v <;> simp [asPtr?] at ha
  subst ha
  exact ⟨_, hv, h⟩
theorem at_rel (he : EnvR P.globals.size ρ ρA ρC) {x : Operand} {p : Nat × Nat} (h : at? (ρA x) = some p) : ∃ s, ρ p.1 = some s ∧ ρC x = .pointer (some ⟨s.blk, s.shift + p.2, none⟩) := by
  obtain ⟨a, hx, ha⟩ := at_some h
  exact (he _ _ hx).ptr_inv ha

theorem opLoad_sound (hr : Rep P base w0 ρ m w) (he : EnvR P.globals.size ρ ρA ρC) {t : TypeId} {x : Operand} {r : Value × Mem} (h : opLoad P t (ρA x) m = some r) :
    Done P base w0 ρ r (do pure (.value (← Instr.loadAt t (ρC x)))) w := by
  obtain ⟨p, hp, h⟩ := ob_some h
  obtain ⟨hv, h2⟩ := with_some h
  obtain ⟨s, hs, hc⟩ := at_rel he hp
  obtain ⟨v', hrun, hrel⟩ := load_sound hr hv hs
  obtain ⟨v, m'⟩ := r
  obtain rfl : m' = m := h2
  refine done_same hr (run_v ?_) hrel
  rw [hc]; exact hrun

theorem opStore_sound (hr : Rep P base w0 ρ m w) (he : EnvR P.globals.size ρ ρA ρC) {t : TypeId} {x y : Operand} {r : Value × Mem} (h : opStore P t (ρA x) (ρA y) m = some r) :
    Done P base w0 ρ r (do Instr.storeAt t (ρC x) (ρC y); pure .skip) w := by
  obtain ⟨p, hp, h⟩ := ob_some h
  obtain ⟨v, hv, h⟩ := ob_some h
  obtain ⟨n, hn, h⟩ := ob_some h
  obtain ⟨hlen, h⟩ := bt_some h
  obtain ⟨hok, h⟩ := bt_some h
  obtain ⟨m', hm, h⟩ := ob_some h
  obtain rfl := Option.some.inj h
  obtain ⟨s, hs, hc⟩ := at_rel he hp
  have hrel := he _ _ hv
  obtain ⟨s', hs', hrun, hrep⟩ := hr.wr hs hm hrel.cells hok
  rw [hs] at hs'; obtain rfl := Option.some.inj hs'
  have hsize : (ρC y).cells.size = n := by
    have := hrel.cells.len
    rw [beq_t hlen] at this
    simpa [cellsL] using this.symm
  refine ⟨.skip, _, undef, ρ, ?_, .inr ⟨rfl, rfl⟩, Rho.le_refl ρ, VRel.flat rfl, hrep⟩
  have : (Instr.storeAt t (ρC x) (ρC y)).run P w = .ok () (storeRow w s.blk (s.shift + p.2) (cellsL (ρC y))) := by
    rw [hc]
    show (storeVar t ⟨s.blk, s.shift + p.2, none⟩ (ρC y)).run P w = _
    unfold storeVar
    rw [rb (run_size hn w), if_neg (by rw [hsize]; simp)]
    exact hrun
  rw [rb this]; rfl

/-! ### making -/
theorem alloc_newRow (el : TypeId) (cs : Array Value) : (newRow el cs).run P w = .ok ⟨w.heap.size, 0, none⟩ (w.alloc (.cells cs el)) := by
  unfold newRow
  rfl

theorem opBox_sound (hr : Rep P base w0 ρ m w) (he : EnvR P.globals.size ρ ρA ρC) {t : TypeId} {x : Operand} {r : Value × Mem} (h : opBox (ρA x) m = some r) :
    Done P base w0 ρ r (do pure (.value (← Instr.box t (ρC x)))) w := by
  obtain ⟨v, hv, h⟩ := ob_some h
  obtain rfl := Option.some.inj h
  have hrel := (he _ _ hv).cells
  have hrep := hr.newCells (cellsL v) (ρC x).cells 0 0 t (by
    have : (ρC x).cells.toList.take (cellsL v).length = cellsL (ρC x) := List.take_of_length_le (by rw [hrel.len]; exact Nat.le_refl _)
    rw [this]; exact hrel) (by have := hrel.len; simp [cellsL] at this ⊢; omega) (fun _ => rfl)
  refine ⟨_, _, _, _, run_v ?_, .inl rfl, hr.le_new _, VRel.ptr m.nx 0 _ (Rho.set_same _ _ _), hrep⟩
  rfl

theorem opAlloc_sound (hr : Rep P base w0 ρ m w) {t : TypeId} {r : Value × Mem} (h : opAlloc P t m = some r) :
    Done P base w0 ρ r (do pure (.value (← Instr.alloc t true (.tuple #[])))) w := by
  obtain ⟨z, hv, h⟩ := ob_some h
  obtain rfl := Option.some.inj h
  have hrel := (VRel.flat (nw := P.globals.size) (ρ := ρ) (zero_flat hv)).cells
  have hrep := hr.newCells (cellsL z) z.cells 0 0 t (by
    have : z.cells.toList.take (cellsL z).length = cellsL z := List.take_of_length_le (Nat.le_refl _)
    rw [this]; exact hrel) (by simp [cellsL]) (fun _ => rfl)
  refine ⟨_, _, _, _, run_v ?_, .inl rfl, hr.le_new _, VRel.ptr m.nx 0 _ (Rho.set_same _ _ _), hrep⟩
  unfold Instr.alloc
  rw [rb (run_zero hv w)]
  rfl
end
end Go.Am
namespace Go.Am
open Go.RowKit
section
variable {P : Program} {base : Nat} {w : World} {w0 : Orig} {ρ : Rho} {m : Mem} {ρA : Operand → Option Value} {ρC : Operand → Value}

/-! ### parts -/
theorem run_part {t : TypeId} {cs : List Value} {off : Nat} {v : Value} (h : partA P t cs off = some v) (cs' : Array Value) (hcs : VRels P.globals.size ρ cs cs'.toList) (w : World) :
    ∃ v', (part t cs' off).run P w = .ok v' w ∧ VRel P.globals.size ρ v v' := by
  obtain ⟨g, hg, h⟩ := ob_some h
  obtain ⟨n, hn, h⟩ := ob_some h
  unfold part
  rw [rb (run_isAgg hg w)]
  cases g with
  | true =>
    obtain rfl := Option.some.inj h
    refine ⟨.agg (cs'.extract off (off + n)), ?_, ?_⟩
    · show ((sizeOf t >>= fun n => pure (Value.agg (cs'.extract off (off + n))) : Sem Value)).run P w = _
      rw [rb (run_size hn w)]; rfl
    · have := (hcs.drop off).take n
      refine .agg _ _ ?_ ?_
      · have := this.len; simpa [Array.toList_extract, List.extract, Nat.add_sub_cancel_left] using this
      · have e : (cs'.extract off (off + n)).toList = (cs'.toList.drop off).take n := by simp [Array.toList_extract, List.extract, Nat.add_sub_cancel_left]
        rw [e]; exact this.at_
  | false =>
    obtain ⟨v', hv', hr⟩ := hcs.get h
    refine ⟨v', ?_, hr⟩
    have : cs'[off]? = some v' := by simpa using hv'
    show (match cs'[off]? with | some v => pure v | none => stuck "part: no such cell" : Sem Value).run P w = _
    rw [this]; rfl

theorem field_some {t : TypeId} {f : Nat} {fl : Field} (h : field? P t f = some fl) : ∃ fs, P.underlying t = some (.struct fs) ∧ fs[f]? = some fl := by
  obtain ⟨d, hd, h⟩ := ob_some h
  obtain ⟨l, hl, h⟩ := ob_some h
  cases d <;> simp [fieldsD] at hl
  subst hl
  exact ⟨_, hd, by simpa using h⟩
theorem array_some {t : TypeId} {a : Nat × TypeId} (h : array? P t = some a) : P.underlying t = some (.array a.1 a.2) := by
  obtain ⟨d, hd, h⟩ := ob_some h
  cases d <;> simp [arrayD] at h
  subst h; exact hd
theorem elem_some {t e : TypeId} (h : elem? P t = some e) : P.underlying t = some (.slice e) := by
  obtain ⟨d, hd, h⟩ := ob_some h
  cases d <;> simp [elemD] at h
  subst h; exact hd
theorem isStr_t {t : TypeId} (h : isStr P t = true) : P.underlying t = some .string := by
  unfold isStr at h
  cases hd : P.underlying t with
  | none => rw [hd] at h; cases h
  | some d => rw [hd] at h; cases d <;> first | rfl | (cases h)
theorem nat_some {a : Int} {n : Nat} (h : nat? a = some n) : a = (n : Int) := by
  cases a with
  | ofNat k => obtain rfl := Option.some.inj h; rfl
  | negSucc k => cases h
theorem lt_some {a : Int} {n i : Nat} (h : lt? a n = some i) : a = (i : Int) ∧ i < n := by
  obtain ⟨k, hk, h⟩ := ob_some h
  obtain ⟨hl, h⟩ := bt_some h
  obtain rfl := Option.some.inj h
  exact ⟨nat_some hk, blt_t hl⟩
theorem le_some {a : Int} {n i : Nat} (h : le? a n = some i) : a = (i : Int) ∧ i ≤ n := by
  obtain ⟨k, hk, h⟩ := ob_some h
  obtain ⟨hl, h⟩ := bt_some h
  obtain rfl := Option.some.inj h
  exact ⟨nat_some hk, ble_t hl⟩

theorem opField_sound (hr : Rep P base w0 ρ m w) (he : EnvR P.globals.size ρ ρA ρC) {t : TypeId} {x : Operand} {f : Nat} {v : Value} (h : opField P t (ρA x) f = some v) :
    Done P base w0 ρ (v, m) (do pure (.value (← Instr.field t (ρC x) f))) w := by
  obtain ⟨u, hu, h⟩ := ob_some h
  obtain ⟨cs, hcs, h⟩ := ob_some h
  obtain ⟨fl, hfl, h⟩ := ob_some h
  obtain ⟨a, rfl, rfl⟩ := asAgg_some hcs
  obtain ⟨a', ha', hrel⟩ := (he _ _ hu).agg_inv
  obtain ⟨fs, hfs, hget⟩ := field_some hfl
  obtain ⟨v', hrun, hv⟩ := run_part h a' hrel w
  refine done_same hr (run_v ?_) hv
  unfold Instr.field
  rw [rb (run_und hfs w), ha']
  show (match fs[f]? with | some f => asAgg (.agg a') >>= fun cs => part f.type cs f.offset | none => stuck "Field: no such field" : Sem Value).run P w = _
  rw [hget]
  exact hrun

theorem opIndex_sound (hr : Rep P base w0 ρ m w) (he : EnvR P.globals.size ρ ρA ρC) {t : TypeId} {x ix : Operand} {v : Value} (h : opIndex P t (ρA x) (ρA ix) = some v) :
    Done P base w0 ρ (v, m) (do pure (.value (← Instr.index t (ρC x) (ρC ix)))) w := by
  obtain ⟨i, hi, h⟩ := ob_some h
  obtain ⟨p, hp, h⟩ := ob_some h
  obtain ⟨u, hu, h⟩ := ob_some h
  rw [asInt_some hp] at hi
  have hci := (he _ _ hi).int_inv
  have h0 : (asIntOf (ρC ix)).run P w = .ok p w := by rw [hci]; rfl
  cases u with
  | string s =>
    obtain ⟨hs, h⟩ := bt_some h
    obtain ⟨c, hc, h⟩ := ob_some h
    obtain rfl := Option.some.inj h
    obtain ⟨n, hn, hc⟩ := ob_some hc
    obtain ⟨b, hb, hc⟩ := ob_some hc
    obtain rfl := Option.some.inj hc
    refine done_same hr (run_v ?_) (VRel.flat rfl)
    unfold Instr.index
    have hget : s[n]? = some b := by
      have hlt : n < s.data.toList.length := (List.getElem?_eq_some_iff.1 hb).1
      have hlt' : n < s.size := by simpa using hlt
      have := (List.getElem?_eq_some_iff.1 hb).2
      rw [getElem?_pos s n hlt', ← this]; rfl
    rw [rb h0, rb (run_und (isStr_t hs) w), (he _ _ hu).str_inv, nat_some hn]
    simp only [Int.natCast_nonneg, if_true, Int.toNat_natCast, hget]
    rfl
  | agg cs =>
    obtain ⟨a, ha, h⟩ := ob_some h
    obtain ⟨n, hn, h⟩ := ob_some h
    obtain ⟨k, hk, h⟩ := ob_some h
    obtain ⟨a', ha', hrel⟩ := (he _ _ hu).agg_inv
    obtain ⟨v', hrun, hv⟩ := run_part h a' hrel w
    obtain ⟨hn, hlt⟩ := lt_some hn
    refine done_same hr (run_v ?_) hv
    unfold Instr.index
    rw [rb h0, rb (run_und (array_some ha) w), ha', hn]
    simp only
    rw [if_pos ⟨by omega, by omega⟩, rb (run_size hk w)]
    exact hrun
  | _ => cases h

/-! ### addresses -/
theorem opFieldAddr_sound (hr : Rep P base w0 ρ m w) (he : EnvR P.globals.size ρ ρA ρC) {t : TypeId} {x : Operand} {f : Nat} {v : Value} (h : opFieldAddr P t (ρA x) f = some v) :
    Done P base w0 ρ (v, m) (do pure (.value (← Instr.fieldAt t (ρC x) f))) w := by
  obtain ⟨fl, hfl, h⟩ := ob_some h
  obtain ⟨n, hn, h⟩ := ob_some h
  obtain ⟨h0, h⟩ := bt_some h
  obtain ⟨p, hp, h⟩ := ob_some h
  obtain rfl := Option.some.inj h
  obtain ⟨fs, hfs, hget⟩ := field_some hfl
  obtain ⟨s, hs, hc⟩ := at_rel he hp
  have hn0 : n ≠ 0 := by intro e; rw [e] at h0; cases h0
  refine done_same hr (run_v ?_) (VRel.ptr p.1 (p.2 + fl.offset) s hs)
  unfold Instr.fieldAt
  rw [rb (run_und hfs w)]
  simp only [hget]
  rw [hc, rb (a := ⟨s.blk, s.shift + p.2, none⟩) (w1 := w) rfl]
  have : (fieldPlace ⟨s.blk, s.shift + p.2, none⟩ fl).run P w = .ok ⟨s.blk, s.shift + (p.2 + fl.offset), none⟩ w := by
    unfold fieldPlace
    rw [rb (run_size hn w), if_neg hn0, addr_add, Nat.add_assoc]; rfl
  rw [rb this]; rfl

theorem opIndexAddr_sound (hr : Rep P base w0 ρ m w) (he : EnvR P.globals.size ρ ρA ρC) {t : TypeId} {x ix : Operand} {v : Value} (h : opIndexAddr P t (ρA x) (ρA ix) = some v) :
    Done P base w0 ρ (v, m) (do pure (.value (← Instr.indexAt t (ρC x) (ρC ix)))) w := by
  obtain ⟨i, hi, h⟩ := ob_some h
  obtain ⟨p, hp, h⟩ := ob_some h
  obtain ⟨u, hu, h⟩ := ob_some h
  rw [asInt_some hp] at hi
  have hci := (he _ _ hi).int_inv
  have h0 : (asIntOf (ρC ix)).run P w = .ok p w := by rw [hci]; rfl
  cases u with
  | pointer a =>
    obtain ⟨r, hr', h⟩ := ob_some h
    obtain ⟨n, hn, h⟩ := ob_some h
    obtain ⟨k, hk, h⟩ := ob_some h
    obtain ⟨q, hq, h⟩ := ob_some h
    obtain rfl := Option.some.inj h
    obtain ⟨s, hs, hc⟩ := (he _ _ hu).ptr_inv hq
    obtain ⟨hn, hlt⟩ := lt_some hn
    refine done_same hr (run_v ?_) (VRel.ptr q.1 (q.2 + n * k) s hs)
    unfold Instr.indexAt
    rw [rb h0, rb (run_und (array_some hr') w), hc, hn]
    simp only
    rw [rb (a := (⟨s.blk, s.shift + q.2, none⟩ : Addr)) (w1 := w) rfl, rb (a := (some (⟨s.blk, s.shift + q.2, none⟩ : Addr), r.1, r.2)) (w1 := w) rfl]
    simp only
    rw [rb (run_und (array_some hr') w)]
    simp only
    rw [if_pos ⟨by omega, by omega⟩, rb (run_size hk w), addr_add, Nat.add_assoc]
    rfl
  | slice a len cap =>
    obtain ⟨e, he', h⟩ := ob_some h
    obtain ⟨n, hn, h⟩ := ob_some h
    obtain ⟨k, hk, h⟩ := ob_some h
    obtain ⟨q, hq, h⟩ := ob_some h
    obtain rfl := Option.some.inj h
    obtain ⟨hn, hlt⟩ := lt_some hn
    rcases (he _ _ hu).slc_inv hq with ⟨s, hs, hc⟩ | ⟨rfl, _⟩
    · refine done_same hr (run_v ?_) (VRel.ptr q.1 (q.2 + n * k) s hs)
      unfold Instr.indexAt
      rw [rb h0, rb (run_und (elem_some he') w), hc, hn]
      simp only
      rw [rb (a := (some (⟨s.blk, s.shift + q.2, none⟩ : Addr), len, e)) (w1 := w) rfl]
      simp only
      rw [rb (run_und (elem_some he') w)]
      simp only
      rw [if_pos ⟨by omega, by omega⟩, rb (run_size hk w), addr_add, Nat.add_assoc]
      rfl
    · omega
  | _ => cases h

/-! ### slicing -/
theorem bnd_val {x : Option Operand} {d most n : Nat} (he : EnvR P.globals.size ρ ρA ρC) (h : bnd (x.map ρA) d most = some n) :
    (x = none ∧ n = d) ∨ (∃ y k, x = some y ∧ n ≤ most ∧ ρC y = .int k (n : Int)) := by
  cases x with
  | none => exact .inl ⟨rfl, (Option.some.inj h).symm⟩
  | some y =>
    obtain ⟨v, hv, h⟩ := ob_some (show ob (ρA y) (fun v => ob (asInt? v) fun i => le? i.2 most) = some n from h)
    obtain ⟨p, hp, h⟩ := ob_some h
    obtain ⟨hn, hle⟩ := le_some h
    rw [asInt_some hp, hn] at hv
    exact .inr ⟨y, p.1, rfl, hle, (he _ _ hv).int_inv⟩
theorem run_bound (k : IntKind) (n most : Nat) (h : n ≤ most) (code : BoundsCode) : (Instr.sliceBound (.int k (n : Int)) most code).run P w = .ok n w := by
  unfold Instr.sliceBound
  rw [rb (a := (k, (n : Int))) (w1 := w) rfl]
  simp only
  rw [if_pos ⟨by omega, by omega⟩, Int.toNat_natCast]; rfl
theorem bounds_hi (i : Bool) (len cap : Nat) (lo : Option Value) (v : Value) : Instr.sliceBounds i len cap lo (some v) none =
    (Instr.sliceBound v cap (if i then .sliceAcap else .sliceAlen) >>= fun h => match lo with
      | some u => Instr.sliceBound u h .sliceB >>= fun l => pure (l, h, cap)
      | none => pure (0, h, cap)) := by cases lo <;> rfl
theorem bounds_no (i : Bool) (len cap : Nat) (lo : Option Value) : Instr.sliceBounds i len cap lo none none =
    (match lo with
      | some u => Instr.sliceBound u len .sliceB >>= fun l => pure (l, len, cap)
      | none => pure (0, len, cap)) := by cases lo <;> rfl

/-- the bounds, where the greatest one is cap, or more. -/
theorem bounds_run {lo hi : Option Operand} {len cap cap' h l : Nat} (he : EnvR P.globals.size ρ ρA ρC) (hcap : cap ≤ cap') (hh : bnd (hi.map ρA) len cap = some h) (hl : bnd (lo.map ρA) 0 h = some l) (isSlice : Bool) :
    (Instr.sliceBounds isSlice len cap' (lo.map ρC) (hi.map ρC) none).run P w = .ok (l, h, cap') w ∧ l ≤ h := by
  rcases bnd_val he hh with ⟨rfl, rfl⟩ | ⟨y, k, rfl, hle, hy⟩
  · rcases bnd_val he hl with ⟨rfl, rfl⟩ | ⟨z, k', rfl, hle', hz⟩
    · exact ⟨rfl, Nat.zero_le _⟩
    · refine ⟨?_, hle'⟩
      show (Instr.sliceBounds isSlice h cap' (some (ρC z)) none none).run P w = _
      rw [bounds_no, hz]
      simp only
      rw [rb (run_bound k' l h hle' _)]; rfl
  · rcases bnd_val he hl with ⟨rfl, rfl⟩ | ⟨z, k', rfl, hle', hz⟩
    · refine ⟨?_, Nat.zero_le _⟩
      show (Instr.sliceBounds isSlice len cap' none (some (ρC y)) none).run P w = _
      rw [bounds_hi, hy, rb (run_bound k h cap' (by omega) _)]; rfl
    · refine ⟨?_, hle'⟩
      show (Instr.sliceBounds isSlice len cap' (some (ρC z)) (some (ρC y)) none).run P w = _
      rw [bounds_hi, hy, rb (run_bound k h cap' (by omega) _), hz]
      simp only
      rw [rb (run_bound k' l h hle' _)]; rfl

theorem extract_sub (s : ByteArray) (l h : Nat) : s.extract l h = subS s l h := by
  apply ByteArray.ext
  apply Array.toList_inj.1
  simp [subS, strOf, strL, ByteArray.data_extract, Array.toList_extract, List.extract]
theorem size_len (s : ByteArray) : s.size = lenS s := by simp [lenS, strL]

theorem opSlice_sound (hr : Rep P base w0 ρ m w) (he : EnvR P.globals.size ρ ρA ρC) {t : TypeId} {x : Operand} {lo hi mx : Option Operand} {v : Value}
    (h : opSlice P t (ρA x) (lo.map ρA) (hi.map ρA) (mx.map ρA) m = some v) :
    Done P base w0 ρ (v, m) (do pure (.value (← Instr.sliceAt t (ρC x) (lo.map ρC) (hi.map ρC) (mx.map ρC)))) w := by
  obtain ⟨hmx, h⟩ := bt_some h
  obtain ⟨u, hu, h⟩ := ob_some h
  obtain rfl : mx = none := by cases mx <;> first | rfl | (cases hmx)
  cases u with
  | string s =>
    obtain ⟨hs, h⟩ := bt_some h
    obtain ⟨hh, hhh, h⟩ := ob_some h
    obtain ⟨l, hl, h⟩ := ob_some h
    obtain rfl := Option.some.inj h
    refine done_same hr (run_v ?_) (VRel.flat rfl)
    unfold Instr.sliceAt
    rw [rb (run_und (isStr_t hs) w)]
    simp only
    unfold Instr.slice
    rw [rb (run_und (isStr_t hs) w), (he _ _ hu).str_inv]
    show (Instr.sliceBounds false s.size s.size (lo.map ρC) (hi.map ρC) none >>= fun x => pure (Value.string (s.extract x.1 x.2.1)) : Sem Value).run P w = _
    rw [size_len, rb (bounds_run he (Nat.le_refl _) hhh hl false).1, extract_sub]; rfl
  | pointer a =>
    obtain ⟨r, hr', h⟩ := ob_some h
    obtain ⟨k, hk, h⟩ := ob_some h
    obtain ⟨hh, hhh, h⟩ := ob_some h
    obtain ⟨l, hl, h⟩ := ob_some h
    obtain ⟨p, hp, h⟩ := ob_some h
    obtain ⟨opn, hopn, h⟩ := ob_some h
    obtain ⟨ho, h⟩ := bt_some h
    obtain ⟨hlt, h⟩ := bt_some h
    obtain rfl := Option.some.inj h
    obtain ⟨s, hs, hx⟩ := (he _ _ hu).ptr_inv hp
    obtain ⟨rw_, hrow, hopn⟩ := ob_some hopn
    obtain ⟨s', hs', _, cs, el, fz, h1, h2, h3, _⟩ := hr.row hs hrow
    rw [hs] at hs'; obtain rfl := Option.some.inj hs'
    have hopn := Option.some.inj hopn
    have hek : rw_.ek = 0 := by
      cases hb : Nat.beq rw_.ek 0 with
      | true => exact beq_t hb
      | false => rw [hb] at hopn; rw [← hopn] at ho; cases ho
    have hsl := h3 hek
    have hlt' := blt_t hlt
    have hv := VRel.slc (nw := P.globals.size) (ρ := ρ) p.1 (p.2 + l * k) (hh - l) (r.1 - l) s hs
    rw [hsl, Nat.add_zero] at hv
    refine done_same hr (run_v ?_) hv
    unfold Instr.sliceAt
    rw [rb (run_und (array_some hr') w)]
    simp only
    rw [hx, rb (a := (⟨s.blk, s.shift + p.2, none⟩ : Addr)) (w1 := w) rfl]
    show (Instr.sliceBounds false r.1 r.1 (lo.map ρC) (hi.map ρC) none >>= fun x => sizeOf r.2 >>= fun size => pure (Value.slice (some (if x.2.2 = x.1 then (⟨s.blk, s.shift + p.2, none⟩ : Addr) else (⟨s.blk, s.shift + p.2, none⟩ : Addr).add (x.1 * size))) (x.2.1 - x.1) (x.2.2 - x.1)) : Sem Value).run P w = _
    rw [rb (bounds_run he (Nat.le_refl _) hhh hl false).1, rb (run_size hk w)]
    simp only
    rw [if_neg (by omega), addr_add, Nat.add_assoc]
    rfl
  | slice a len cap =>
    obtain ⟨e, he', h⟩ := ob_some h
    obtain ⟨k, hk, h⟩ := ob_some h
    obtain ⟨hh, hhh, h⟩ := ob_some h
    obtain ⟨l, hl, h⟩ := ob_some h
    have hund := elem_some he'
    have start : ∀ (a' : Option Addr) (cap' : Nat), cap ≤ cap' → ρC x = .slice a' len cap' → 
        (Instr.sliceAt t (ρC x) (lo.map ρC) (hi.map ρC) ((none : Option Operand).map ρC)).run P w = .ok (Value.slice (if cap' = l then a' else a'.map (·.add (l * k))) (hh - l) (cap' - l)) w := by
      intro a' cap' hcap hx
      unfold Instr.sliceAt
      rw [rb (run_und hund w)]
      simp only
      unfold Instr.slice
      rw [rb (run_und hund w), hx]
      show (Instr.sliceBounds true len cap' (lo.map ρC) (hi.map ρC) none >>= fun x => sizeOf e >>= fun size => pure (Value.slice (if x.2.2 = x.1 then a' else a'.map (·.add (x.1 * size))) (x.2.1 - x.1) (x.2.2 - x.1)) : Sem Value).run P w = _
      rw [rb (bounds_run he hcap hhh hl true).1, rb (run_size hk w)]
      rfl
    have hhc : hh ≤ cap ∨ hh = len := by
      rcases bnd_val he hhh with ⟨_, rfl⟩ | ⟨_, _, _, hle, _⟩
      · exact .inr rfl
      · exact .inl hle
    have hlh := (bounds_run (w := w) he (Nat.le_refl cap) hhh hl true).2
    cases hb : Nat.beq l 0 with
    | true =>
      rw [hb] at h; obtain rfl := Option.some.inj h
      obtain rfl := beq_t hb
      have hmap : ∀ (a' : Option Addr) (c' : Nat), (if c' = 0 then a' else a'.map (·.add (0 * k))) = a' := by
        intro a' c'
        split
        · rfl
        · cases a' with
          | none => rfl
          | some a' => simp [Addr.add]
      rcases (he _ _ hu).slice_inv with ⟨rfl, rfl, rfl, hx⟩ | ⟨b, o, s, rfl, hs, hx⟩ | ⟨rfl, rfl, rfl, a', c', hx⟩
      · have := start none 0 (Nat.le_refl _) hx
        rw [hmap] at this
        obtain rfl : hh = 0 := by omega
        exact done_same hr (run_v this) (VRel.flat rfl)
      · have := start _ _ (by omega) hx
        rw [hmap] at this
        exact done_same hr (run_v this) (VRel.slc b o hh cap s hs)
      · have := start _ _ (by omega) hx
        rw [hmap] at this
        obtain rfl : hh = 0 := by omega
        exact done_same hr (run_v this) (VRel.nowhere a' _)
    | false =>
      rw [hb] at h
      obtain ⟨p, hp, h⟩ := ob_some h
      obtain ⟨opn, hopn, h⟩ := ob_some h
      have hl0 := beq_f hb
      rcases (he _ _ hu).slc_inv hp with ⟨s, hs, hx⟩ | ⟨rfl, rfl, _⟩
      · have hrun := start _ _ (by omega) hx
        obtain ⟨r, hrow, hopn⟩ := ob_some hopn
        obtain ⟨s', hs', _, cs, el, fz, h1, h2, h3, _⟩ := hr.row hs hrow
        rw [hs] at hs'; obtain rfl := Option.some.inj hs'
        have hopn := Option.some.inj hopn
        unfold cutFrom at h
        cases hc : Nat.blt l cap with
        | false =>
          rw [hc] at h
          obtain ⟨hle, h⟩ := bt_some h
          obtain rfl := Option.some.inj h
          rw [Bool.and_eq_true] at hle
          obtain rfl := beq_t hle.1
          have hle := hle.2
          have e0 : hh - l = 0 := by have := ble_t hle; omega
          cases opn with
          | true =>
            rw [e0] at hrun
            obtain ⟨a', ha'⟩ : ∃ a', (if l + s.slack = l then (some ⟨s.blk, s.shift + p.2, none⟩ : Option Addr) else (some ⟨s.blk, s.shift + p.2, none⟩ : Option Addr).map (·.add (l * k))) = some a' := by
              split <;> exact ⟨_, rfl⟩
            rw [ha'] at hrun
            exact done_same hr (run_v hrun) (VRel.nowhere a' _)
          | false =>
            have hek : r.ek = 0 := by
              cases hb : Nat.beq r.ek 0 with
              | true => exact beq_t hb
              | false => rw [hb] at hopn; cases hopn
            have hsl := h3 hek
            rw [hsl, if_pos (by omega), e0, Nat.add_zero, Nat.sub_self] at hrun
            have := VRel.slc (nw := P.globals.size) (ρ := ρ) p.1 p.2 0 0 s hs
            rw [hsl] at this
            exact done_same hr (run_v hrun) this
        | true =>
          rw [hc] at h
          obtain ⟨hk0, h⟩ := bt_some h
          obtain rfl := Option.some.inj h
          have hlt := blt_t hc
          rw [if_neg (by omega)] at hrun
          have := VRel.slc (nw := P.globals.size) (ρ := ρ) p.1 (p.2 + l * k) (hh - l) (cap - l) s hs
          refine done_same hr (run_v hrun) ?_
          have e1 : cap + s.slack - l = cap - l + s.slack := by omega
          rw [e1, Option.map_some, addr_add, Nat.add_assoc]
          exact this
      · omega
  | _ => cases h
end
end Go.Am
namespace Go.Am
open Go.RowKit

/-! ### parts laid into cells -/
theorem foldl_set (off : Nat) : ∀ (l : List Value) (k : Nat) (cells : Array Value), (l.zipIdx k).foldl (fun (cs : Array Value) (x : Value × Nat) => cs.setIfInBounds (off + x.2) x.1) cells = setFrom cells (off + k) l := by
  intro l
  induction l with
  | nil => intro k cells; rfl
  | cons v l ih => intro k cells; rw [List.zipIdx_cons, List.foldl_cons, ih]; rfl

theorem setFrom_list (cs : Array Value) (off : Nat) (l : List Value) (h : off + l.length ≤ cs.size) : (setFrom cs off l).toList = cs.toList.take off ++ (l ++ cs.toList.drop (off + l.length)) := by
  apply List.ext_getElem?
  intro i
  rw [Array.getElem?_toList, setFrom_get _ _ _ _ h]
  by_cases h1 : off ≤ i ∧ i < off + l.length
  · rw [if_pos h1, List.getElem?_append_right (by simp; omega), List.getElem?_append_left (by simp; omega)]
    congr 1; simp; omega
  · rw [if_neg h1]
    by_cases h2 : i < off
    · rw [List.getElem?_append_left (by simp; omega), List.getElem?_take_of_lt h2, Array.getElem?_toList]
    · rw [List.getElem?_append_right (by simp; omega), List.getElem?_append_right (by simp; omega), List.getElem?_drop, Array.getElem?_toList]
      congr 1; simp; omega

section
variable {P : Program} {base : Nat} {w : World} {w0 : Orig} {ρ : Rho} {m : Mem} {ρA : Operand → Option Value} {ρC : Operand → Value}

theorem fill_rel {nw : Nat} (he : EnvR nw ρ ρA ρC) (pl : Nat → Option (Nat × Nat)) : ∀ (ps : List (Nat × Operand)) (cs : List Value) (cs' : Array Value) (r : List Value), VRels nw ρ cs cs'.toList →
    fillA pl (ps.map fun p => (p.1, ρA p.2)) cs = some r → ∃ r', Instr.fill pl cs' (ps.map fun p => (p.1, ρC p.2)) = some r' ∧ VRels nw ρ r r'.toList := by
  intro ps
  induction ps with
  | nil => intro cs cs' r hcs h; obtain rfl := Option.some.inj h; exact ⟨cs', rfl, hcs⟩
  | cons p ps ih =>
    intro cs cs' r hcs h
    obtain ⟨q, hq, h⟩ := ob_some h
    obtain ⟨v, hv, h⟩ := ob_some h
    obtain ⟨l, hl, h⟩ := ob_some h
    obtain ⟨h1, hl⟩ := bt_some hl
    obtain ⟨h2, hl⟩ := bt_some hl
    obtain rfl := Option.some.inj hl
    have hrel := (he _ _ hv).cells
    have hsz : (ρC p.2).cells.size = q.2 := by
      have := hrel.len; rw [beq_t h1] at this; simpa [cellsL] using this.symm
    have hle : q.1 + q.2 ≤ cs'.size := by
      have h3 : q.1 + q.2 ≤ cs.length := ble_t h2
      have := hcs.len; simp at this; omega
    have hfold : (ρC p.2).cells.zipIdx.foldl (fun (cs : Array Value) (x : Value × Nat) => cs.setIfInBounds (q.1 + x.2) x.1) cs' = setFrom cs' q.1 (cellsL (ρC p.2)) := by
      rw [← Array.foldl_toList, Array.toList_zipIdx, foldl_set]; rfl
    have hin : q.1 + (cellsL (ρC p.2)).length ≤ cs'.size := by simp [cellsL]; omega
    obtain ⟨r', hr', hrr⟩ := ih _ (setFrom cs' q.1 (cellsL (ρC p.2))) r (by
      rw [setFrom_list _ _ _ hin]
      have e : (cellsL (ρC p.2)).length = q.2 := by simpa [cellsL] using hsz
      rw [e]
      exact (hcs.take _).append (hrel.append (hcs.drop _))) h
    refine ⟨r', ?_, hrr⟩
    show Instr.fill pl cs' ((p.1, ρC p.2) :: ps.map fun p => (p.1, ρC p.2)) = some r'
    rw [Instr.fill, hq]
    simp only
    rw [if_neg (by rw [hsz]; simp; omega)]
    rw [← hr']
    congr 1

theorem parts_map (f : Operand → Value) (ps : Array (Nat × Operand)) : (ps.map fun (i, x) => (i, f x)).toList = ps.toList.map fun p => (p.1, f p.2) := by simp

theorem opBuild_sound (hr : Rep P base w0 ρ m w) (he : EnvR P.globals.size ρ ρA ρC) {t : TypeId} {ps : Array (Nat × Operand)} {v : Value} (h : opBuild P t (parts ρA ps) = some v) :
    Done P base w0 ρ (v, m) (do pure (.value (← Instr.build t (ps.map fun (i, x) => (i, ρC x))))) w := by
  obtain ⟨d, hd, h⟩ := ob_some h
  obtain ⟨pl, hpl, h⟩ := ob_some h
  obtain ⟨z, hz, h⟩ := ob_some h
  obtain ⟨cs, hcs, h⟩ := ob_some h
  obtain rfl := Option.some.inj h
  obtain ⟨i, hi, hz'⟩ := ob_some hz
  obtain ⟨z', hz0, hz'⟩ := ob_some hz'
  obtain ⟨hf, hz'⟩ := bt_some hz'
  obtain rfl := Option.some.inj hz'
  obtain ⟨r', hr', hrel⟩ := fill_rel he pl ps.toList (cellsL z') z'.cells cs (VRel.flat hf).cells hcs
  refine done_same hr (run_v (run_build w t _ r' ?_)) (.agg _ _ hrel.len hrel.at_)
  unfold Program.built
  rw [hi, hd, parts_map]
  cases d with
  | struct fs =>
    obtain ⟨l, hl, hpl⟩ := ob_some hpl
    obtain rfl := Option.some.inj hpl
    simp only [hz0]
    have hl' : fs.toList.mapM (fun f => (P.info? f.type).map fun i => (f.offset, i.size)) = some l := hl
    rw [hl']
    simp only
    rw [← hr']
    congr 1
    funext i; simp
  | array n e =>
    obtain ⟨k, hk, hpl⟩ := ob_some hpl
    obtain rfl := Option.some.inj hpl
    obtain ⟨ie, hie, hk⟩ := ob_some hk
    obtain rfl := Option.some.inj hk
    simp only [hz0, hie]
    exact hr'
  | _ => cases hpl

theorem rep_range {k : Nat} (z : Array Value) (hz : z.size = k) : ∀ n, ((List.range (n * k)).map fun i => z[i % k]!) = rep z.toList n := by
  intro n
  induction n with
  | zero => rw [Nat.zero_mul]; rfl
  | succ n ih =>
    rw [Nat.succ_mul, Nat.add_comm, List.range_add, List.map_append]
    show _ = z.toList ++ rep z.toList n
    congr 1
    · apply List.ext_getElem?
      intro i
      simp only [List.getElem?_map]
      by_cases hi : i < k
      · rw [List.getElem?_range hi]
        simp only [Option.map_some]
        rw [Nat.mod_eq_of_lt hi, Array.getElem?_toList, Array.getElem?_eq_getElem (by omega), getElem!_pos z i (by omega)]
      · rw [List.getElem?_eq_none (by simp; omega), List.getElem?_eq_none (by simp; omega)]; rfl
    · rw [← ih, List.map_map]
      apply List.map_congr_left
      intro i hi
      simp

theorem rep_len {α : Type} (l : List α) : ∀ n, (rep l n).length = n * l.length := by
  intro n
  induction n with
  | zero => rw [Nat.zero_mul]; rfl
  | succ n ih =>
    show (l ++ rep l n).length = _
    rw [List.length_append, ih, Nat.succ_mul, Nat.add_comm]

theorem rep_flat {l : List Value} (h : l.all scal = true) : ∀ n, (rep l n).all scal = true := by
  intro n
  induction n with
  | zero => rfl
  | succ n ih =>
    show (l ++ rep l n).all scal = true
    rw [List.all_append, h, ih]; rfl

theorem cells_flat {z : Value} (h : flat z = true) (hc : ∀ a, z ≠ .tuple a) : (cellsL z).all scal = true := by
  cases z with
  | agg cs => exact h
  | tuple cs => exact absurd rfl (hc cs)
  | _ => simp only [cellsL, Value.cells, List.all_cons, List.all_nil, Bool.and_true]; exact h

theorem range0 (f : Nat → Value) : (Array.range 0).map f = #[] := by simp

theorem array_rep (z : Array Value) {k : Nat} (n : Nat) (hk : z.size = k) : ((Array.range (n * k)).map (fun i => (z[i % z.size]! : Value))).toList = rep z.toList n := by
  rw [Array.toList_map, Array.toList_range, ← rep_range z hk n, hk]

theorem new_at (hr : Rep P base w0 ρ m w) (cs : List Value) (cs' : Array Value) (e : TypeId) (ek slack : Nat) (hrel : VRels P.globals.size ρ cs (cs'.toList.take cs.length)) (hle : cs.length + slack * ek ≤ cs'.size) (hek : ek = 0 → slack = 0)
    (n c : Nat) {s : Sem Value} (hrun : s.run P w = .ok (.slice (some ⟨w.heap.size, 0, none⟩) n (c + slack)) (w.alloc (.cells cs' e))) :
    Done P base w0 ρ (slc m.nx 0 n c, m.newCells cs ek) (do pure (.value (← s))) w :=
  ⟨_, _, _, _, run_v hrun, .inl rfl, hr.le_new _, VRel.slc m.nx 0 n c _ (Rho.set_same _ _ _), hr.newCells cs cs' ek slack e hrel hle hek⟩

theorem buildSlice_run (he : EnvR P.globals.size ρ ρA ρC) {t : TypeId} {len : Nat} {ps : Array (Nat × Operand)} {cs : List Value} (h : sliceC P t len (parts ρA ps) = some cs) :
    ∃ e r', (Instr.buildSlice t len (ps.map fun (i, x) => (i, ρC x))).run P w = .ok (.slice (some ⟨w.heap.size, 0, none⟩) len (len + 0)) (w.alloc (.cells r' e)) ∧ VRels P.globals.size ρ cs r'.toList := by
  obtain ⟨e, he', h⟩ := ob_some h
  obtain ⟨k, hk, h⟩ := ob_some h
  obtain ⟨z, hz, h⟩ := ob_some h
  obtain ⟨h1, h⟩ := bt_some h
  obtain ⟨h2, hcs⟩ := bt_some h
  have hzk : z.cells.size = k := by have := beq_t h2; simpa [cellsL] using this
  have hle : len * k ≤ 2 ^ 24 := ble_t h1
  have hflat := zero_flat hz
  have hrz : VRels P.globals.size ρ (rep (cellsL z) len) (rep (cellsL z) len) := by
    have h0 := (VRel.flat (nw := P.globals.size) (ρ := ρ) hflat).cells
    generalize len = n
    induction n with
    | zero => exact VRels.nil
    | succ n ih => exact h0.append ih
  obtain ⟨r', hr', hrel⟩ := fill_rel he (placeR k) ps.toList (rep (cellsL z) len) ((Array.range (len * k)).map (fun i => (z.cells[i % z.cells.size]! : Value))) cs (by rw [array_rep _ _ hzk]; exact hrz) hcs
  have hPA := parts_map ρC ps
  generalize (ps.map fun (i, x) => (i, ρC x)) = PA at hPA ⊢
  refine ⟨e, r', ?_, hrel⟩
  unfold Instr.buildSlice
  rw [rb (run_und (elem_some he') w)]
  simp only
  rw [rb (run_size hk w), if_neg (by omega)]
  have hf : ∀ zz : Array Value, (len * k = 0 ∨ zz = z.cells) → Instr.fill (fun i => some (i * k, k)) ((Array.range (len * k)).map fun x => (zz[x % zz.size]! : Value)) PA.toList = some r' := by
    intro zz hzz
    rw [hPA, ← hr']
    rcases hzz with h0 | rfl
    · rw [h0, range0, range0]; rfl
    · rfl
  by_cases h0 : len * k = 0
  · rw [if_pos h0, rb (a := #[]) (w1 := w) rfl, hf #[] (.inl h0)]
    simp only
    rw [rb (alloc_newRow e r')]
    rfl
  · rw [if_neg h0, rb (run_zero hz w), rb (a := z.cells) (w1 := w) rfl, hf z.cells (.inr rfl)]
    simp only
    rw [rb (alloc_newRow e r')]
    rfl

theorem opBuildSlice_sound (hr : Rep P base w0 ρ m w) (he : EnvR P.globals.size ρ ρA ρC) {t : TypeId} {len : Nat} {ps : Array (Nat × Operand)} {r : Value × Mem} (h : opBuildSlice P t len (parts ρA ps) m = some r) :
    Done P base w0 ρ r (do pure (.value (← Instr.buildSlice t len (ps.map fun (i, x) => (i, ρC x))))) w := by
  obtain ⟨cs, hcs, h⟩ := ob_some h
  obtain rfl := Option.some.inj h
  obtain ⟨e, r', hrun, hrel⟩ := buildSlice_run (w := w) he hcs
  exact new_at hr cs r' e 0 0 (by rw [List.take_of_length_le (by rw [hrel.len]; exact Nat.le_refl _)]; exact hrel) (by have := hrel.len; simp at this ⊢; omega) (fun _ => rfl) len len hrun

theorem bytes_some {t : TypeId} {n : Nat} (h : bytes? P t = some n) : ∃ i, P.info? t = some i ∧ i.bytes = n := by
  obtain ⟨i, hi, h⟩ := ob_some h
  exact ⟨i, hi, Option.some.inj h⟩

theorem wrap_small (n : Nat) (h : n ≤ 1099511627776) : IntKind.i64.wrap (n : Int) = (n : Int) := IntWalk.i64_in _ (by omega)

theorem opMakeSlice_sound (hr : Rep P base w0 ρ m w) (he : EnvR P.globals.size ρ ρA ρC) {t : TypeId} {x y : Operand} {r : Value × Mem} (h : opMakeSlice P t (ρA x) (ρA y) m = some r) :
    Done P base w0 ρ r (do pure (.value (← Instr.makeSlice t (ρC x) (ρC y)))) w := by
  obtain ⟨e, he', h⟩ := ob_some h
  obtain ⟨k, hk, h⟩ := ob_some h
  obtain ⟨z, hz, h⟩ := ob_some h
  obtain ⟨by_, hby, h⟩ := ob_some h
  obtain ⟨vl, hvl, h⟩ := ob_some h
  obtain ⟨pl, hpl, h⟩ := ob_some h
  obtain ⟨l, hl, h⟩ := ob_some h
  obtain ⟨vc, hvc, h⟩ := ob_some h
  obtain ⟨pc, hpc, h⟩ := ob_some h
  obtain ⟨c, hc, h⟩ := ob_some h
  obtain ⟨h1, h⟩ := bt_some h
  obtain ⟨h2, h⟩ := bt_some h
  obtain ⟨h3, h⟩ := bt_some h
  obtain rfl := Option.some.inj h
  obtain ⟨i, hi, rfl⟩ := bytes_some hby
  have hzk : z.cells.size = k := by have := beq_t h3; simpa [cellsL] using this
  rw [asInt_some hpl, nat_some hl] at hvl
  rw [asInt_some hpc, nat_some hc] at hvc
  have hx := (he _ _ hvl).int_inv
  have hy := (he _ _ hvc).int_inv
  have hlc : l ≤ c := ble_t h1
  have hb : (i.bytes + 1) * c ≤ 1099511627776 := ble_t h2
  have hb2 : i.bytes * c + c ≤ 1099511627776 := by rw [Nat.succ_mul] at hb; exact hb
  generalize hbc : i.bytes * c = bc at hb2
  have hflat := zero_flat hz
  have hrz : VRels P.globals.size ρ (rep (cellsL z) c) (rep (cellsL z) c) := by
    have h0 := (VRel.flat (nw := P.globals.size) (ρ := ρ) hflat).cells
    generalize c = n
    induction n with
    | zero => exact VRels.nil
    | succ n ih => exact h0.append ih
  have hrun : (Instr.makeSlice t (ρC x) (ρC y)).run P w = .ok (.slice (some ⟨w.heap.size, 0, none⟩) l (c + 0)) (w.alloc (.cells ((Array.range (c * k)).map (fun i => (z.cells[i % z.cells.size]! : Value))) e)) := by
    unfold Instr.makeSlice
    rw [rb (run_und (elem_some he') w), hx, hy]
    simp only
    rw [rb (a := (l : Int)) (w1 := w) rfl, rb (a := (c : Int)) (w1 := w) rfl, rb (run_info hi w)]
    simp only [wrap_small l (by omega), wrap_small c (by omega)]
    have hbi : ((i.bytes : Int) * (c : Int)) = (bc : Int) := by rw [← hbc]; simp
    rw [if_neg (by simp [hbi]; omega)]
    rw [rb (run_askRoom (P := P) (w := w) _), Int.toNat_natCast, Int.toNat_natCast, rb (run_size hk w)]
    have hf : ∀ zz : Array Value, (c * k = 0 ∨ zz = z.cells) → (newRow e ((Array.range (c * k)).map fun x => (zz[x % zz.size]! : Value)) >>= fun a => pure (Value.slice (some a) l c) : Sem Value).run P w =
        .ok (.slice (some ⟨w.heap.size, 0, none⟩) l (c + 0)) (w.alloc (.cells ((Array.range (c * k)).map (fun i => (z.cells[i % z.cells.size]! : Value))) e)) := by
      intro zz hzz
      have : ((Array.range (c * k)).map fun x => (zz[x % zz.size]! : Value)) = (Array.range (c * k)).map (fun i => (z.cells[i % z.cells.size]! : Value)) := by
        rcases hzz with h0 | rfl
        · rw [h0, range0, range0]
        · rfl
      rw [this, rb (alloc_newRow e _)]
      rfl
    by_cases h0 : c * k = 0
    · rw [if_pos h0]
      exact hf #[] (.inl h0)
    · rw [if_neg h0, rb (run_zero hz w)]
      exact hf z.cells (.inr rfl)
  have hlen : (rep (cellsL z) c).length = c * k := by rw [rep_len]; simp [cellsL, hzk]
  refine new_at hr (rep (cellsL z) c) _ e 0 0 ?_ ?_ (fun _ => rfl) l c hrun
  · rw [array_rep _ _ hzk]
    have : (rep z.cells.toList c).take (rep (cellsL z) c).length = rep (cellsL z) c := List.take_of_length_le (Nat.le_refl _)
    rw [this]; exact hrz
  · rw [hlen]; simp
end
end Go.Am
namespace Go.Am
open Go.RowKit
section
variable {P : Program} {base : Nat} {w : World} {w0 : Orig} {ρ : Rho} {m : Mem} {ρA : Operand → Option Value} {ρC : Operand → Value}

theorem cell_heap {w1 w2 : World} (h : w2.heap = w1.heap) (a : Addr) : w2.cell? a = w1.cell? a := by simp [World.cell?, h]

/-- what is appended, or copied, in the model. -/
theorem source_run (hr : Rep P base w0 ρ m w) {k n : Nat} {x x' : Value} {new : List Value} (h : source k x m = some (n, new)) (hx : VRel P.globals.size ρ x x') (hk : new.length = n * k) :
    (∀ w1, (Builtin.lenOf x').run P w1 = .ok n w1) ∧ ∀ j, j ≤ n → ∃ new' : Array Value, VRels P.globals.size ρ (new.take (j * k)) new'.toList ∧ new'.size = j * k ∧ ∀ w1, w1.heap = w.heap → (Builtin.firstCells k j x').run P w1 = .ok new' w1 := by
  cases x with
  | slice a len cap =>
    have hsl := hx.slice_inv
    unfold source at h
    cases hb : Nat.beq len 0 with
    | true =>
      simp only [hb, ite2_t] at h
      obtain ⟨rfl, rfl⟩ := Prod.mk.inj (Option.some.inj h)
      have hl0 := beq_t hb
      subst hl0
      constructor
      · intro w1
        rcases hsl with ⟨rfl, _, _, rfl⟩ | ⟨b, o, s, rfl, _, rfl⟩ | ⟨rfl, _, _, a', c', rfl⟩ <;> rfl
      · intro j hj
        obtain rfl : j = 0 := by omega
        refine ⟨#[], by simp; exact VRels.nil, by simp, fun w1 _ => ?_⟩
        rcases hsl with ⟨rfl, _, _, rfl⟩ | ⟨b, o, s, rfl, _, rfl⟩ | ⟨rfl, _, _, a', c', rfl⟩
        · rfl
        · show (loadCells _ (0 * k)).run P w1 = _
          rw [Nat.zero_mul]; rfl
        · show (loadCells _ (0 * k)).run P w1 = _
          rw [Nat.zero_mul]; rfl
    | false =>
      simp only [hb, ite2_f] at h
      obtain ⟨p, hp, h⟩ := ob_some h
      obtain ⟨l, hl, h⟩ := ob_some h
      obtain ⟨rfl, rfl⟩ := Prod.mk.inj (Option.some.inj h)
      rcases hx.slc_inv hp with ⟨s, hs, rfl⟩ | ⟨rfl, _⟩
      · obtain ⟨s', l', hs', hlen', hrel, hcells⟩ := hr.cut hs hl
        rw [hs] at hs'; obtain rfl := Option.some.inj hs'
        refine ⟨fun w1 => rfl, fun j hj => ⟨(l'.take (j * k)).toArray, hrel.take _, ?_, fun w1 hw1 => ?_⟩⟩
        · have hm : Nat.mul len k = len * k := rfl
          have : j * k ≤ len * k := Nat.mul_le_mul_right k hj
          simp; omega
        · have hm : Nat.mul len k = len * k := rfl
          have hjk : j * k ≤ len * k := Nat.mul_le_mul_right k hj
          show (loadCells ⟨s.blk, s.shift + p.2, none⟩ (j * k)).run P w1 = _
          rw [run_loadCells w1 s.blk (s.shift + p.2) (j * k) (l'.take (j * k)) (by simp; omega) (fun i hi => by
            rw [cell_heap hw1, hcells i (by omega), List.getElem?_take_of_lt hi])]
      · simp at hb
  | string s =>
    obtain ⟨rfl, rfl⟩ := Prod.mk.inj (Option.some.inj h)
    rw [hx.str_inv]
    refine ⟨fun w1 => by rw [← size_len]; rfl, fun j hj => ⟨(s.extract 0 j).data.map fun b => .int .u8 b.toNat, ?_, ?_, fun w1 _ => rfl⟩⟩
    all_goals
      have hjk : j * k = j := by
        have : (bytesV s).length = lenS s := by simp [bytesV, lenS]
        rw [this] at hk
        rcases Nat.eq_zero_or_pos (lenS s) with h0 | h0
        · have : j = 0 := by omega
          rw [this, Nat.zero_mul]
        · have : k = 1 := by
            have h1 : lenS s * 1 = lenS s * k := by rw [Nat.mul_one]; exact hk
            exact (Nat.eq_of_mul_eq_mul_left h0 h1).symm
          rw [this, Nat.mul_one]
      have hls : lenS s = s.size := (size_len s).symm
      rw [hjk]
    · have e : ((s.extract 0 j).data.map fun b => (.int .u8 b.toNat : Value)).toList = (bytesV s).take j := by
        simp only [Array.toList_map, ByteArray.data_extract, Array.toList_extract, List.extract, List.drop_zero, Nat.sub_zero, bytesV, List.map_take]
        rfl
      rw [e]
      refine VRels.scal ?_
      rw [List.all_eq_true]
      intro v hv
      obtain ⟨b, _, rfl⟩ := List.mem_map.1 (List.mem_of_mem_take hv)
      rfl
    · simp; omega
  | _ => cases h

theorem growBy_le : ∀ (r c n : Nat), c ≤ n + (n + 768) / 4 → Builtin.growBy n r c ≤ n + (n + 768) / 4 := by
  intro r
  induction r with
  | zero => intro c n h; exact h
  | succ r ih =>
    intro c n h
    unfold Builtin.growBy
    split
    · exact h
    · exact ih _ _ (by omega)
theorem nextcap_le (need old : Nat) (h : old < need) : Builtin.nextslicecap need old ≤ 4 * (need + 1000) := by
  unfold Builtin.nextslicecap
  split
  · omega
  · split
    · omega
    · have := growBy_le 4 old need (by omega); omega

theorem room_aux {A B n need w_ : Nat} (h1 : A * (w_ + 1) ≤ 70368744177664) (hA : (n + 1000) * 4 = A) (hB : 4 * (need + 1000) = B) (hn : need ≤ n) : B * w_ ≤ 281474976710656 ∧ need < 4611686018427387904 := by
  have h2 : B * w_ ≤ A * (w_ + 1) := Nat.mul_le_mul (by omega) (Nat.le_succ _)
  have h3 : A ≤ A * (w_ + 1) := Nat.le_mul_of_pos_right _ (Nat.succ_pos _)
  exact ⟨by omega, by omega⟩
theorem room_le {n w_ need : Nat} (h : room n w_ = true) (hn : need ≤ n) : (∀ c, c ≤ 4 * (need + 1000) → c * w_ ≤ 281474976710656) ∧ need < 4611686018427387904 :=
  have := room_aux (n := n) (ble_t h) rfl rfl hn
  ⟨fun _ hc => Nat.le_trans (Nat.mul_le_mul_right _ hc) this.1, this.2⟩

theorem srcT_t {t : TypeId} (h : srcT P t = true) : (∃ e', P.underlying t = some (.slice e')) ∨ P.underlying t = some .string := by
  unfold srcT at h
  cases hd : P.underlying t with
  | none => rw [hd] at h; cases h
  | some d => rw [hd] at h; cases d <;> first | exact .inl ⟨_, rfl⟩ | exact .inr rfl | (cases h)

theorem one_of_ok {v : Value} (h : okCell v = true) : v.oneCell' = true := by cases v <;> first | rfl | (cases h)

/-- the source in the kit's words. -/
theorem source_src (hr : Rep P base w0 ρ m w) {k n : Nat} {xT : TypeId} {x x' : Value} {new : List Value} (h : source k x m = some (n, new)) (hx : VRel P.globals.size ρ x x') (hk : new.length = n * k)
    (hT : srcT P xT = true) (hok : new.all okCell = true) : ∃ new' : List Value, VRels P.globals.size ρ new new' ∧ Src P k xT x' n new' w := by
  obtain ⟨hlen, hc⟩ := source_run hr h hx hk
  obtain ⟨new', hrel, hsz, hrun⟩ := hc n (Nat.le_refl _)
  rw [← hk, List.take_length] at hrel
  refine ⟨new'.toList, hrel, srcT_t hT, hlen, ?_, ?_, by simpa using hsz, fun u hu => ?_⟩
  · rw [hrun w rfl]
  · rw [hrun w.drew rfl]
  · exact one_of_ok (List.all_eq_true.1 (hrel.okCell hok) u hu)

theorem setCells_row : ∀ (vs : List Value) (w : World) (b o : Nat), w.setCells b o vs = storeRow w b o vs := by
  intro vs
  induction vs with
  | nil => intro w b o; rfl
  | cons v vs ih => intro w b o; exact ih _ _ _


theorem append_zero (t tx ty e : TypeId) (i : TypeInfo) (ht : P.underlying t = some (.slice e)) (hi : P.info? e = some i) (base : Option Addr) (sLen sCap : Nat) (x : Value) (news : List Value) (hs : Src P i.size tx x 0 news w) (hroom : sLen ≤ sCap) :
    (Builtin.append_ #[t, tx] ty #[.slice base sLen sCap, x]).run P w = .ok (.slice base sLen sCap) w := by
  have hn : news = [] := by have := hs.newsLen; rw [Nat.zero_mul] at this; exact List.length_eq_zero_iff.1 this
  subst hn
  have h0 := hs.cells
  rcases hs.kind with ⟨e', hk⟩ | hk <;> cases base <;> simp [Builtin.append_, run_underlying ht, run_underlying hk, sizeOf, typeInfo, hi, hs.len, hroom, h0, storeCells]

/-- the new row of an append that does not fit. -/
theorem done_grown (hr : Rep P base w0 ρ m w) {e : TypeId} {k need len n : Nat} {z : Value} (hz : z.cells.size = k) (_ : len + n = need) {old new : List Value} {old' new' : List Value} (ho : VRels P.globals.size ρ old old') (hn : VRels P.globals.size ρ new new')
    (_ : old.length = len * k) (_ : new.length = n * k) (q : Nat) (hq : need ≤ q) (hk : k ≠ 0) {s : Sem Value}
    (hrun : s.run P w = .ok (.slice (some ⟨w.heap.size, 0, none⟩) need q) (w.drew.alloc (.cells ((old' ++ new').toArray ++ Builtin.zeroCells z.cells (q - need)) e))) :
    Done P base w0 ρ (slc m.nx 0 need need, m.newCells (old ++ new) k) (do pure (.value (← s))) w := by
  have hd : Rep P base w0 ρ m w.drew := ⟨fun b k s hb hd hs => let ⟨h2, h3⟩ := hr.dom b k s hb hd hs; ⟨h2, h3.move (Rho.le_refl ρ) rfl⟩, hr.nx, hr.sep, hr.below.drew, hr.size, hr.glob, hr.now, hr.top⟩
  obtain ⟨sl, rfl⟩ : ∃ sl, q = need + sl := ⟨q - need, by omega⟩
  rw [Nat.add_sub_cancel_left] at hrun
  have hzz : (Builtin.zeroCells z.cells sl).size = sl * k := by simp [Builtin.zeroCells, hz]
  have hall := ho.append hn
  refine ⟨_, _, _, ρ.set m.nx ⟨w.heap.size, 0, sl, undef⟩, run_v hrun, .inl rfl, hr.le_new _, VRel.slc m.nx 0 need need ⟨w.heap.size, 0, sl, undef⟩ (Rho.set_same _ _ _), ?_⟩
  refine hd.newCells (old ++ new) ((old' ++ new').toArray ++ Builtin.zeroCells z.cells sl) k sl e ?_ ?_ (fun h => absurd h hk)
  · rw [Array.toList_append, List.take_left' (by rw [List.toList_toArray]; exact hall.len.symm), List.toList_toArray]; exact hall
  · rw [Array.size_append, List.size_toArray, ← hall.len, hzz]; exact Nat.le_refl _

theorem lt62 {n : Nat} (h : n < 4611686018427387904) : ((n : Nat) : Int) ≤ 9223372036854775807 := by omega

theorem ne_of_not {a b : Nat} (h : (!(Nat.beq a b)) = true) : a ≠ b := by
  intro e; subst e
  rw [Nat.beq_refl] at h; cases h

theorem arg2_some {α : Type} {l : List α} {p : α × α} (h : arg2 l = some p) : l = [p.1, p.2] := by
  match l, h with
  | [a, b], h => obtain rfl := Option.some.inj h; rfl

theorem drew_rep (hr : Rep P base w0 ρ m w) : Rep P base w0 ρ m w.drew :=
  ⟨fun b k s hb hd hs => let ⟨h2, h3⟩ := hr.dom b k s hb hd hs; ⟨h2, h3.move (Rho.le_refl ρ) rfl⟩, hr.nx, hr.sep, hr.below.drew, hr.size, hr.glob, hr.now, hr.top⟩

theorem append_sound (hr : Rep P base w0 ρ m w) {sT xT ty : TypeId} {s x s' x' : Value} {r : Value × Mem} (h : opAppend P sT xT (some s) (some x) m = some r)
    (hs : VRel P.globals.size ρ s s') (hx : VRel P.globals.size ρ x x') : Done P base w0 ρ r (do pure (.value (← Builtin.append_ #[sT, xT] ty #[s', x']))) w := by
  obtain ⟨e, he', h⟩ := ob_some h
  obtain ⟨hT, h⟩ := bt_some h
  obtain ⟨k, hk, h⟩ := ob_some h
  obtain ⟨hk0, h⟩ := bt_some h
  obtain ⟨z, hz, h⟩ := ob_some h
  obtain ⟨hzk, h⟩ := bt_some h
  obtain ⟨wb, hw, h⟩ := ob_some h
  obtain ⟨s1, e1, h⟩ := ob_some h
  obtain rfl := Option.some.inj e1
  obtain ⟨sl, hsl, h⟩ := ob_some h
  obtain ⟨x1, e2, h⟩ := ob_some h
  obtain rfl := Option.some.inj e2
  obtain ⟨q, hq, h⟩ := ob_some h
  obtain ⟨hl, hA⟩ := bt_some h
  clear h
  rw [Bool.and_eq_true] at hl
  obtain ⟨i, hi, rfl⟩ := bytes_some hw
  obtain ⟨a, len, cap⟩ := sl
  obtain ⟨n, new⟩ := q
  have hs0 := asSl_some hsl
  simp only at hs0 hA hl
  subst hs0
  have hek : i.size = k := by
    obtain ⟨i', hi', hk⟩ := ob_some hk
    rw [hi] at hi'; obtain rfl := Option.some.inj hi'
    exact Option.some.inj hk
  have hne : k ≠ 0 := ne_of_not hk0
  have hnl : new.length = n * k := beq_t hl.1
  obtain ⟨new', hnrel, hsrc⟩ := source_src hr hq hx hnl hT hl.2
  have hzi : i.zero = some z := by
    obtain ⟨i', hi', hz⟩ := ob_some hz
    rw [hi] at hi'; obtain rfl := Option.some.inj hi'
    obtain ⟨z', hz', hz⟩ := ob_some hz
    obtain ⟨_, hz⟩ := bt_some hz
    obtain rfl := Option.some.inj hz
    exact hz'
  have hzs : z.cells.size = k := by have := beq_t hzk; simpa [cellsL] using this
  rw [← hek] at hsrc
  have hund := elem_some he'
  unfold appTo at hA
  cases hn0 : Nat.beq n 0 with
  | true =>
    rw [hn0] at hA
    obtain ⟨hle, hA⟩ := bt_some hA
    obtain rfl := Option.some.inj hA
    obtain rfl := beq_t hn0
    have hle := ble_t hle
    rcases hs.slice_inv with ⟨rfl, rfl, rfl, rfl⟩ | ⟨b, o, sl, rfl, hsl', rfl⟩ | ⟨rfl, rfl, rfl, a', c', rfl⟩
    · exact done_same hr (run_v (append_zero sT xT ty e i hund hi _ _ _ _ _ hsrc (Nat.le_refl _))) hs
    · exact done_same hr (run_v (append_zero sT xT ty e i hund hi _ _ _ _ _ hsrc (by omega))) hs
    · exact done_same hr (run_v (append_zero sT xT ty e i hund hi _ _ _ _ _ hsrc (by omega))) hs
  | false =>
    rw [hn0] at hA
    have hn : n ≠ 0 := beq_f hn0
    cases a with
    | none =>
      simp only [ite2_f, op2_no] at hA
      obtain ⟨hc, hA⟩ := bt_some hA
      obtain rfl := Option.some.inj hA
      rw [Bool.and_eq_true, Bool.and_eq_true] at hc
      obtain ⟨hroom, hl0, hc0⟩ := hc
      obtain rfl := beq_t hl0
      obtain rfl := beq_t hc0
      rw [hs.of_scal rfl]
      obtain ⟨hb1, hb2⟩ := room_le hroom (Nat.le_refl n)
      have hold : (Builtin.firstCells i.size 0 (.slice none 0 0)).run P w.drew = .ok ([] : List Value).toArray w.drew := rfl
      have hfit : Builtin.nextslicecap (0 + n) 0 * i.bytes ≤ 281474976710656 := by
        rw [Nat.zero_add]
        exact hb1 _ (nextcap_le n 0 (by omega))
      have hrun := run_append_grow_src w sT xT ty e i z hund hi hzi none 0 0 [] hold x' n new' hsrc (by omega) (lt62 (by rw [Nat.zero_add]; exact hb2)) hfit
      rw [Nat.zero_add] at hrun
      have := done_grown hr hzs (Nat.zero_add n) (VRels.nil) hnrel (by simp) hnl _ (grownCap_ge w n 0 e) hne hrun
      exact this
    | some a =>
      obtain ⟨p, hp, hA⟩ := ob_some hA
      cases hfits : Nat.ble (Nat.add len n) cap with
      | true =>
        rw [hfits] at hA
        obtain ⟨m', hm, hA⟩ := ob_some hA
        obtain rfl := Option.some.inj hA
        have hle : len + n ≤ cap := ble_t hfits
        rcases hs.slc_inv hp with ⟨sl, hsl', rfl⟩ | ⟨_, rfl, _⟩
        · obtain ⟨s2, hs2, hst, hrep⟩ := hr.wr hsl' hm hnrel hl.2
          rw [hsl'] at hs2; obtain rfl := Option.some.inj hs2
          obtain ⟨hcell, hfr⟩ := hr.wr_there hm hsl' hnrel.len
          have hadd : Nat.add p.2 (Nat.mul len k) = p.2 + len * k := rfl
          rw [hadd, ← Nat.add_assoc] at hst hrep hcell hfr
          have hrun := run_append_room_src w sT xT ty e i hund hi sl.blk (sl.shift + p.2) len (cap + sl.slack) x' n new' hsrc (by omega) (by rw [hek]; exact hcell) (by rw [hek]; exact hfr)
          rw [hek, setCells_row] at hrun
          refine ⟨_, _, _, ρ, run_v hrun, .inl rfl, Rho.le_refl ρ, VRel.slc p.1 p.2 (len + n) cap sl hsl', hrep⟩
        · omega
      | false =>
        rw [hfits] at hA
        have hgt : cap < len + n := by
          rcases Nat.lt_or_ge cap (len + n) with h | h
          · exact h
          · rw [show Nat.ble (Nat.add len n) cap = true from Nat.ble_eq_true_of_le h] at hfits; cases hfits
        simp only [ite2_f] at hA
        unfold grow at hA
        obtain ⟨hroom, hA⟩ := bt_some hA
        obtain ⟨row, hrow, hA⟩ := ob_some hA
        obtain ⟨hb1, hb2⟩ := room_le hroom (Nat.le_refl (len + n))
        rcases hs.slc_inv hp with ⟨sl, hsl', rfl⟩ | ⟨rfl, rfl, rfl, a', c', rfl⟩
        · obtain ⟨s2, hs2, hlt, cs, el, fz, h1, h2, h3, h4, h5⟩ := hr.row hsl' hrow
          rw [hsl'] at hs2; obtain rfl := Option.some.inj hs2
          cases hek0 : Nat.beq row.ek 0 with
          | true =>
            rw [hek0] at hA
            obtain ⟨hin, hA⟩ := bt_some hA
            obtain ⟨old, hold, hA⟩ := ob_some hA
            obtain rfl := Option.some.inj hA
            have hslack := h3 (beq_t hek0)
            rw [hslack, Nat.add_zero]
            have hcut : m.cut p.1 p.2 (len * k) = some old := by
              unfold Mem.cut
              rw [hrow]
              show bt _ _ = _
              rw [show Nat.ble (Nat.add p.2 (len * k)) row.n = true from hin]
              exact hold
            obtain ⟨s2, l', hs2, hlen', hrel, hcells⟩ := hr.cut hsl' hcut
            rw [hsl'] at hs2; obtain rfl := Option.some.inj hs2
            have hfirst : (Builtin.firstCells i.size len (.slice (some ⟨sl.blk, sl.shift + p.2, none⟩) len cap)).run P w.drew = .ok l'.toArray w.drew := by
              rw [hek]
              exact run_loadCells w.drew sl.blk (sl.shift + p.2) (len * k) l' hlen' (fun j hj => hcells j hj)
            have hrun := run_append_grow_src w sT xT ty e i z hund hi hzi (some ⟨sl.blk, sl.shift + p.2, none⟩) len cap l' hfirst x' n new' hsrc hgt (lt62 hb2) (hb1 _ (nextcap_le _ _ hgt))
            exact done_grown hr hzs rfl hrel hnrel (by rw [hrel.len, hlen']) hnl _ (grownCap_ge w _ _ e) hne hrun
          | false =>
            rw [hek0] at hA
            simp only [ite2_f] at hA
            unfold growO at hA
            obtain ⟨hc, hA⟩ := bt_some hA
            obtain rfl := Option.some.inj hA
            simp only [Bool.and_eq_true] at hc
            obtain ⟨hwr, hend, ho0, hlc, hekk⟩ := hc
            have hend := beq_t hend
            have ho0 := beq_t ho0
            have hlc := beq_t hlc
            have hekk := beq_t hekk
            have hlk : len * k = row.n := by have : p.2 + len * k = row.n := hend; omega
            by_cases hfit : len + n ≤ cap + sl.slack
            · obtain ⟨hst, hrep⟩ := hr.share hrow hwr hnrel (hnrel.okCell hl.2) (by rw [hekk]; exact hnl) hsl' (show n ≤ sl.slack by omega)
              obtain ⟨hb, hf⟩ := h5 hwr
              have hmul : n * row.ek ≤ sl.slack * row.ek := Nat.mul_le_mul_right _ (by omega)
              have hnl' : new'.length = n * row.ek := by rw [← hnrel.len, hekk]; exact hnl
              have hrun := run_append_room_src w sT xT ty e i hund hi sl.blk (sl.shift + p.2) len (cap + sl.slack) x' n new' hsrc hfit
                (by
                  intro j hj
                  rw [cell_of w _ _ cs el fz h1, Array.getElem?_eq_getElem (by rw [hek]; omega)]; rfl)
                (by
                  intro j hj
                  rw [frozen_of w _ _ cs el fz h1]
                  have := hf (sl.shift + p.2 + len * i.size + j) (by rw [hek]; omega)
                  simp; omega)
              rw [hek, setCells_row, show sl.shift + p.2 + len * k = sl.shift + row.n from by omega] at hrun
              rw [← hekk]
              refine ⟨_, _, _, ρ.set m.nx ⟨sl.blk, sl.shift, sl.slack - n, undef⟩, run_v hrun, .inl rfl, hr.le_new _, ?_, hrep⟩
              have := VRel.slc (nw := P.globals.size) (ρ := ρ.set m.nx ⟨sl.blk, sl.shift, sl.slack - n, undef⟩) m.nx 0 (len + n) (len + n) _ (Rho.set_same _ _ _)
              rw [show sl.shift + p.2 = sl.shift + 0 from by rw [ho0], show cap + sl.slack = len + n + (sl.slack - n) from by omega]
              exact this
            · have hro := hr.ro hrow
              rw [hekk] at hro
              have hnx : ((m.kill row.prev).put p.1 (.cells row.n row.c k false none)).nx = m.nx := kill_nx
              have hgt' : cap + sl.slack < len + n := by omega
              have hsz : sl.shift + row.n ≤ cs.size := by omega
              have hlen' : ((cs.toList.drop sl.shift).take row.n).length = row.n := by simp; omega
              have hfirst : (Builtin.firstCells i.size len (.slice (some ⟨sl.blk, sl.shift + p.2, none⟩) len (cap + sl.slack))).run P w.drew = .ok ((cs.toList.drop sl.shift).take row.n).toArray w.drew := by
                rw [hek, ho0, Nat.add_zero]
                show (loadCells _ (len * k)).run P w.drew = _
                rw [hlk]
                refine run_loadCells w.drew sl.blk sl.shift row.n _ hlen' (fun j hj => ?_)
                rw [cell_of w.drew _ _ cs el fz h1, List.getElem?_take_of_lt hj, List.getElem?_drop, Array.getElem?_toList]
              have hrun := run_append_grow_src w sT xT ty e i z hund hi hzi (some ⟨sl.blk, sl.shift + p.2, none⟩) len (cap + sl.slack) _ hfirst x' n new' hsrc hgt' (lt62 hb2) (hb1 _ (nextcap_le _ _ hgt'))
              have hge := grownCap_ge w (len + n) (cap + sl.slack) e
              generalize grownCap w (len + n) (cap + sl.slack) e = q at hrun hge
              obtain ⟨sl2, rfl⟩ : ∃ sl2, q = len + n + sl2 := ⟨q - (len + n), by omega⟩
              rw [Nat.add_sub_cancel_left] at hrun
              have hzz : (Builtin.zeroCells z.cells sl2).size = sl2 * k := by simp [Builtin.zeroCells, hzs]
              have hle := hr.le_new ⟨w.heap.size, 0, sl2, undef⟩
              have hrep := (drew_rep hro).new (.cells (((cs.toList.drop sl.shift).take row.n ++ new').toArray ++ Builtin.zeroCells z.cells sl2) e)
                (.cells (Nat.add row.n new.length) (row.c.sets row.n new) k true (some p.1)) ⟨w.heap.size, 0, sl2, undef⟩ rfl (by
                  rw [hnx]
                  refine ⟨((cs.toList.drop sl.shift).take row.n ++ new').toArray ++ Builtin.zeroCells z.cells sl2, e, (0, 0), Array.getElem?_push_size, ?_, fun h => absurd h hne, ?_, fun _ => ⟨hr.size, fun i _ hi => by omega⟩⟩
                  · show 0 + (row.n + new.length) + sl2 * k ≤ _
                    rw [Array.size_append, List.size_toArray, List.length_append, hlen', hzz, hnrel.len]; omega
                  · intro j v hj hv
                    have hj' : j < row.n + new.length := hj
                    rw [Nat.zero_add]
                    have hsub : ∀ u, ((cs.toList.drop sl.shift).take row.n ++ new')[j]? = some u → (((cs.toList.drop sl.shift).take row.n ++ new').toArray ++ Builtin.zeroCells z.cells sl2)[j]? = some u := by
                      intro u hu
                      have hlt' := (List.getElem?_eq_some_iff.1 hu).1
                      rw [Array.getElem?_append_left (by simpa using hlt')]
                      simpa using hu
                    rcases Tr.get_sets _ _ _ _ _ hv with ⟨kk, hkk, hjk, hv⟩ | ⟨hout, hv⟩
                    · obtain ⟨v', hv', hrel⟩ := hnrel.get hv
                      refine ⟨v', hsub v' ?_, hrel.mono hle⟩
                      rw [List.getElem?_append_right (by rw [hlen']; omega), hlen', show j - row.n = kk from by omega]; exact hv'
                    · obtain ⟨v', hv', hrel⟩ := h4 j v (by omega) hv
                      refine ⟨v', hsub v' ?_, hrel.mono hle⟩
                      rw [List.getElem?_append_left (by rw [hlen']; omega), List.getElem?_take_of_lt (by omega), List.getElem?_drop, Array.getElem?_toList]; exact hv')
              rw [hnx] at hrep
              refine ⟨_, _, _, ρ.set m.nx ⟨w.heap.size, 0, sl2, undef⟩, run_v hrun, .inl rfl, hle, VRel.slc m.nx 0 (len + n) (len + n) ⟨w.heap.size, 0, sl2, undef⟩ (Rho.set_same _ _ _), ?_⟩
              exact hrep
        · exfalso
          exact absurd (hr.now.1.2 _ (rowOf_some hrow)) (by simp)
end
end Go.Am
