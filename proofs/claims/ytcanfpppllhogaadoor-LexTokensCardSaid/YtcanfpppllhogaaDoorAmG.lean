/- A function that looks a name up in a row of pairs, from the last one on: its answer, read from the machine's memory. -/
import Derived.Lib.Atoi
import Derived.Test.YtcanfpppllhogaaDoorAmE
namespace Go.Am
open Go.RowKit
noncomputable section

abbrev Pr := ByteArray × ByteArray
/-- pairs of texts, one after another. -/
def prs1 (ih : List Value → Option (List Pr)) (l : List Value) : Option (List Pr) :=
  match l with
  | .string a :: .string b :: r => ob (ih r) fun x => some ((a, b) :: x)
  | _ => none
def prs? (l : List Value) (k : Nat) : Option (List Pr) := Nat.rec (motive := fun _ => List Value → Option (List Pr)) (fun _ => some []) (fun _ ih => prs1 ih) k l
def lastP (name : ByteArray) (l : List Pr) : Option ByteArray :=
  List.rec (motive := fun _ => Option ByteArray) none (fun p _ ih => op2 ih (ite2 (eqL (strL p.1) (strL name)) (some p.2) none) some) l
def lastV (name : ByteArray) (l : List Pr) : Value := op2 (lastP name l) (.tuple #[.string ⟨#[]⟩, .bool false]) fun v => .tuple #[.string v, .bool true]
def findRow (name : ByteArray) (n : Nat) (m : Mem) (p : Nat × Nat) : Res :=
  ob (m.cut p.1 p.2 (Nat.mul n 2)) fun l => ob (prs? l n) fun xs => bt (Nat.ble n 1000000) (some (lastV name xs, m))
def findG (args : List Value) (m : Mem) : Res :=
  match args with
  | [.pointer (some a), .string name] => ob (adr (some a)) fun p => ob (m.cell p.1 (Nat.succ p.2)) fun sv =>
    match sv with
    | .slice none 0 0 => some (lastV name [], m)
    | .slice (some a) n _ => ob (adr (some a)) (findRow name n m)
    | _ => none
  | _ => none

theorem prs_some : ∀ {k : Nat} {l : List Value} {xs : List Pr}, prs? l k = some xs → xs.length = k ∧ ∀ (j : Nat) z, xs[j]? = some z → l[j * 2]? = some (.string z.1) ∧ l[j * 2 + 1]? = some (.string z.2) := by
  intro k
  induction k with
  | zero => intro l xs h; obtain rfl := Option.some.inj (show some [] = some xs from h); exact ⟨rfl, fun j z h => by simp at h⟩
  | succ k ih =>
    intro l xs h
    have h : prs1 (fun l => prs? l k) l = some xs := h
    unfold prs1 at h
    split at h
    · rename_i a b r
      obtain ⟨x, hx, h⟩ := ob_some h
      obtain rfl := Option.some.inj h
      obtain ⟨h1, h2⟩ := ih hx
      refine ⟨by simp [h1], fun j z hj => ?_⟩
      cases j with
      | zero => obtain rfl := Option.some.inj hj; exact ⟨rfl, rfl⟩
      | succ j =>
        have := h2 j z hj
        rw [show (j + 1) * 2 = j * 2 + 1 + 1 by omega]
        exact this
    · cases h
theorem lastP_cases (name : ByteArray) : ∀ l : List Pr, (lastP name l = none ∧ ∀ (j : Nat) z, l[j]? = some z → z.1 ≠ name) ∨
    (∃ k z, l[k]? = some z ∧ lastP name l = some z.2 ∧ z.1 = name ∧ ∀ (j : Nat) y, k < j → l[j]? = some y → y.1 ≠ name) := by
  intro l
  induction l with
  | nil => exact .inl ⟨rfl, fun j z h => by simp at h⟩
  | cons p l ih =>
    have e : lastP name (p :: l) = op2 (lastP name l) (ite2 (eqL (strL p.1) (strL name)) (some p.2) none) some := rfl
    rcases ih with ⟨h1, h2⟩ | ⟨k, z, h1, h2, h3, h4⟩
    · cases hb : eqL (strL p.1) (strL name) with
      | true =>
        have hp : p.1 = name := by
          have := hb
          rw [eqL_eq, beq_iff_eq] at this
          cases p with
          | mk a b => cases a; cases name; simp only [strL] at this; rw [Array.toList_inj] at this; simp [this]
        refine .inr ⟨0, p, rfl, ?_, hp, fun j y hj hy => ?_⟩
        · rw [e, h1, hb]; rfl
        · cases j with
          | zero => omega
          | succ j => exact h2 j y hy
      | false =>
        have hp : p.1 ≠ name := fun e => by rw [e, eqL_eq] at hb; simp at hb
        refine .inl ⟨by rw [e, h1, hb]; rfl, fun j y hy => ?_⟩
        cases j with
        | zero => obtain rfl := Option.some.inj (show some p = some y from hy); exact hp
        | succ j => exact h2 j y hy
    · refine .inr ⟨k + 1, z, h1, by rw [e, h2]; rfl, h3, fun j y hj hy => ?_⟩
      cases j with
      | zero => omega
      | succ j => exact h4 j y (by omega) hy
/-- what is asked of such a function. -/
def Finds (P : Program) (f : FuncId) : Prop :=
  ∀ (R o : Nat) (name : ByteArray) (a : Option Addr) (cap : Nat) (zs : List Pr) (w : World), zs.length ≤ 1000000 → w.cell? ⟨R, o + 1, none⟩ = some (.slice a zs.length cap) →
    ((a = none ∧ cap = 0 ∧ zs = []) ∨ ∃ b off, a = some ⟨b, off, none⟩ ∧ b < w.heap.size ∧
      ∀ (j : Nat) z, zs[j]? = some z → w.cell? ⟨b, off + j * 2, none⟩ = some (.string z.1) ∧ w.cell? ⟨b, off + j * 2 + 1, none⟩ = some (.string z.2)) →
    Calls P f #[.pointer (some ⟨R, o, none⟩), .string name] w fun e w' => e = .returned (lastV name zs) ∧ Below w.heap.size w w'
theorem find_ok {P : Program} {wo : Orig} {base : Nat} {f : Nat} {fn : Func} (hf : P.funcs[f]? = some fn) (hn : (fn.name == "runtime.NumGoroutine") = false) (hb : fn.body.isNone = false) (hc : Finds P f) : HintOk P base wo f findG := by
  intro args m r ρ w args' hg hr hv
  unfold findG at hg
  split at hg
  · rename_i a name
    obtain ⟨p, hp, hg⟩ := ob_some hg
    obtain ⟨sv, hsv, hg⟩ := ob_some hg
    obtain ⟨v1, l1, hl1, h1, h2⟩ := hv.inv_cons
    obtain ⟨v2, l2, rfl, h3, h4⟩ := h2.inv_cons
    obtain rfl := h4.inv_nil
    obtain rfl := h3.str_inv
    obtain ⟨s, hs, rfl⟩ := h1.ptr_inv hp
    obtain ⟨s', v', hs', hcell, hrel⟩ := hr.cell hs hsv
    rw [hs] at hs'; obtain rfl := Option.some.inj hs'
    have e : args' = #[.pointer (some ⟨s.blk, s.shift + p.2, none⟩), .string name] := by rw [← Array.toList_inj, hl1]
    subst e
    have fin : ∀ (a' : Option Addr) (cap : Nat) (zs : List Pr), v' = .slice a' zs.length cap → zs.length ≤ 1000000 →
        ((a' = none ∧ cap = 0 ∧ zs = []) ∨ ∃ b off, a' = some ⟨b, off, none⟩ ∧ b < w.heap.size ∧
          ∀ (j : Nat) z, zs[j]? = some z → w.cell? ⟨b, off + j * 2, none⟩ = some (.string z.1) ∧ w.cell? ⟨b, off + j * 2 + 1, none⟩ = some (.string z.2)) →
        CallR P f #[.pointer (some ⟨s.blk, s.shift + p.2, none⟩), .string name] w (Ret P base wo ρ (lastV name zs, m)) := by
      intro a' cap zs hv' hle hz
      subst hv'
      refine .inr ⟨call_enters hf ‹_› ‹_›, (hc s.blk (s.shift + p.2) name a' cap zs w hle hcell hz).mono fun _ _ ⟨he, hbl⟩ => ⟨_, he, ρ, Rho.le_refl ρ, ?_, hr.later hbl⟩⟩
      unfold lastV
      cases lastP name zs with
      | none => exact VRel.flat2 rfl
      | some x => exact VRel.flat2 rfl
    split at hg
    · obtain rfl := Option.some.inj hg
      obtain rfl : v' = .slice none 0 0 := by cases hrel with | scal _ h => rfl
      exact fin none 0 [] rfl (by simp) (.inl ⟨rfl, rfl, rfl⟩)
    · rename_i a n c
      obtain ⟨q, hq, hg⟩ := ob_some hg
      unfold findRow at hg
      obtain ⟨l, hl, hg⟩ := ob_some hg
      obtain ⟨xs, hxs, hg⟩ := ob_some hg
      obtain ⟨hle, hg⟩ := bt_some hg
      obtain rfl := Option.some.inj hg
      obtain ⟨hxl, hxc⟩ := prs_some hxs
      subst hxl
      rcases hrel.slc_inv hq with ⟨t, ht, hx⟩ | ⟨_, _, hx0, _⟩
      · subst hx
        obtain ⟨t', l', ht', hlen', hrel', hcell'⟩ := hr.cut ht hl
        rw [ht] at ht'; obtain rfl := Option.some.inj ht'
        obtain ⟨rw_, hrow, _⟩ := ob_some hl
        obtain ⟨t', ht', hlt, _⟩ := hr.row ht hrow
        rw [ht] at ht'; obtain rfl := Option.some.inj ht'
        refine fin _ _ xs rfl (ble_t hle) (.inr ⟨t.blk, t.shift + q.2, rfl, hlt, fun j z hj => ?_⟩)
        have hj' := (List.getElem?_eq_some_iff.1 hj).1
        obtain ⟨g1, g2⟩ := hxc j z hj
        have at_ : ∀ i v, i < xs.length * 2 → l[i]? = some v → scal v = true → w.cell? ⟨t.blk, t.shift + q.2 + i, none⟩ = some v := by
          intro i v hi hv hsc
          have hi' : i < l'.length := by rw [hlen']; exact hi
          rw [hcell' i hi]
          have h2 := hrel'.at_ i v (l'[i]) hv (List.getElem?_eq_getElem hi')
          rw [List.getElem?_eq_getElem hi', h2.of_scal hsc]
        exact ⟨at_ _ _ (by omega) g1 rfl, by have := at_ (j * 2 + 1) _ (by omega) g2 rfl; rwa [← Nat.add_assoc] at this⟩
      · exfalso
        obtain ⟨rw_, hrow, _⟩ := ob_some hl
        rw [show q.1 = P.globals.size by rw [hx0]] at hrow
        have := hr.now.1.2 _ (rowOf_some hrow)
        cases this
    · cases hg
  · cases hg
end
end Go.Am
namespace Go.Am
open Go.RowKit
noncomputable section

def Mem.skip (m : Mem) : Mem := ⟨m.b, Nat.succ m.nx⟩
def freshRho (ρ : Rho) (nx N : Nat) : Rho := fun b => if b = nx then some ⟨N, 0, 0, undef⟩ else ρ b
theorem skip_rep {P : Program} {base : Nat} {wo : Orig} {ρ : Rho} {m : Mem} {w w' : World} {N : Nat} (hr : Rep P base wo ρ m w) (hb : Below w.heap.size w w') :
    Rho.le ρ (freshRho ρ m.nx N) ∧ Rep P base wo (freshRho ρ m.nx N) m.skip w' := by
  have hle : Rho.le ρ (freshRho ρ m.nx N) := by
    intro b s hs
    unfold freshRho
    rw [if_neg (by have := hr.nx b s hs; omega)]; exact hs
  have hr' := hr.later hb
  have old : ∀ {b : Nat} {k : Blk} {s : Slot}, m.blk b = some k → k ≠ .dead → freshRho ρ m.nx N b = some s → ρ b = some s := by
    intro b k s hk hd h
    have := hr.top.1 b k hk hd
    unfold freshRho at h
    rwa [if_neg (by omega)] at h
  refine ⟨hle, ?_, ?_, ?_, hr'.below, hr'.size, ⟨fun g hg => hle _ _ (hr'.glob.1 g hg), fun b s hb => hle _ _ (hr'.glob.2 b s hb)⟩, ⟨⟨?_, hr'.now.1.2⟩, ?_⟩, ?_, ?_⟩
  · intro b k s hk hd h
    obtain ⟨h1, h2⟩ := hr'.dom b k s hk hd (old hk hd h)
    exact ⟨h1, h2.move hle rfl⟩
  · intro b s h
    show b < m.nx + 1
    unfold freshRho at h
    split at h
    · omega
    · have := hr.nx b s h; omega
  · intro b1 b2 k1 k2 s1 s2 hne h1 hw h2 hd2 e1 e2 e3
    have hd1 : k1 ≠ .dead := fun e => by rw [e] at hw; cases hw
    exact hr'.sep b1 b2 k1 k2 s1 s2 hne h1 hw h2 hd2 (old h1 hd1 e1) (old h2 hd2 e2) e3
  · show P.globals.size < m.nx + 1
    have := hr.now.1.1; omega
  · unfold freshRho
    rw [if_neg (by have := hr.now.1.1; omega)]; exact hr.now.2
  · intro b k hk hd
    show b < m.nx + 1
    have := hr.top.1 b k hk hd; omega
  · intro b hb
    obtain ⟨h1, h2⟩ := hr.top.2 b hb
    refine ⟨?_, ?_⟩
    · show b < m.nx + 1
      omega
    · unfold freshRho
      rw [if_neg (by omega)]; exact h2

def atoiErrG (T : TypeId) (args : List Value) (m : Mem) : Res :=
  match args with
  | [.string s] => bt (Nat.ble (lenS s) 18 && (Lib.atoi (strL s)).isNone) (some (.tuple #[.int .i64 0, .iface T (.pointer (some ⟨m.nx, 0, none⟩))], m.skip))
  | _ => none
theorem atoiErr_ok {P : Program} {wo : Orig} {base : Nat} {f : Nat} {fn : Func} {T : TypeId} (hf : P.funcs[f]? = some fn) (hn : (fn.name == "runtime.NumGoroutine") = false) (hb : fn.body.isNone = false)
    (hc : ∀ (s : ByteArray) (w : World), s.size ≤ 18 → Lib.atoi s.data.toList = none → Below base wo.w w →
      Calls P f #[.string s] w fun e w' => ∃ N, e = .returned (.tuple #[.int .i64 0, .iface T (.pointer (some ⟨N, 0, none⟩))]) ∧ w.heap.size ≤ N ∧ Below w.heap.size w w') : HintOk P base wo f (atoiErrG T) := by
  intro args m r ρ w args' hg hr hv
  unfold atoiErrG at hg
  split at hg
  · rename_i s
    obtain ⟨hcd, hg⟩ := bt_some hg
    obtain rfl := Option.some.inj hg
    rw [Bool.and_eq_true] at hcd
    obtain ⟨v1, l1, hl1, h1, h2⟩ := hv.inv_cons
    obtain rfl := h2.inv_nil
    obtain rfl := h1.str_inv
    have e : args' = #[.string s] := by rw [← Array.toList_inj, hl1]
    subst e
    have hs : s.size ≤ 18 := by
      have := ble_t hcd.1
      have e : lenS s = s.size := Array.length_toList
      omega
    have hat : Lib.atoi s.data.toList = none := by
      have := hcd.2
      rw [Option.isNone_iff_eq_none] at this
      exact this
    refine .inr ⟨call_enters hf ‹_› ‹_›, (hc s w hs hat hr.below).mono ?_⟩
    rintro e w' ⟨N, he, hN, hbl⟩
    obtain ⟨h1, h2⟩ := skip_rep (N := N) hr hbl
    refine ⟨_, he, freshRho ρ m.nx N, h1, ?_, h2⟩
    refine .tuple _ _ rfl ?_
    intro i v v' hi hi'
    have hp : VRel P.globals.size (freshRho ρ m.nx N) (.iface T (.pointer (some ⟨m.nx, 0, none⟩))) (.iface T (.pointer (some ⟨N, 0, none⟩))) := by
      refine .iface _ _ _ ?_
      exact VRel.ptr m.nx 0 ⟨N, 0, 0, undef⟩ (by unfold freshRho; rw [if_pos rfl])
    match i with
    | 0 => obtain rfl := Option.some.inj hi; obtain rfl := Option.some.inj hi'; exact VRel.scal _ rfl
    | 1 => obtain rfl := Option.some.inj hi; obtain rfl := Option.some.inj hi'; exact hp
    | i + 2 => cases hi
  · cases hg
end
end Go.Am
namespace Go.Am
open Go.RowKit
noncomputable section

def spanL (p : Nat → Bool) (l : List UInt8) : Nat → Nat :=
  List.rec (motive := fun _ => Nat → Nat) (fun k => k) (fun b _ ih k => match p b.toNat with | true => ih (Nat.succ k) | false => k) l
abbrev PredTab := List (FuncId × (Nat → Bool))
def findP (l : PredTab) (f : FuncId) : Option (Nat → Bool) :=
  List.rec (motive := fun _ => Option (Nat → Bool)) none (fun p _ ih => ite2 (Nat.beq p.1 f) (some p.2) ih) l
theorem findP_some {l : PredTab} {f : FuncId} {p : Nat → Bool} (h : findP l f = some p) : (f, p) ∈ l := by
  induction l with
  | nil => cases h
  | cons q l ih =>
    have h : ite2 (Nat.beq q.1 f) (some q.2) (findP l f) = some p := h
    cases hb : Nat.beq q.1 f with
    | true =>
      rw [hb] at h
      obtain rfl := Option.some.inj h
      obtain rfl := beq_t hb
      exact List.mem_cons_self
    | false => rw [hb] at h; exact List.mem_cons_of_mem _ (ih h)
def rowAt (p : Nat → Bool) (n : Nat) (s : ByteArray) (m : Mem) : Res :=
  bt (Nat.ble n 10000000 && Nat.ble (lenS s) 10000000) (some (.int .i64 (.ofNat (spanL p ((strL s).drop n) 0)), m))
def rowG (tab : PredTab) (args : List Value) (m : Mem) : Res :=
  match args with
  | [.pointer (some a), .int .i64 n, fv] => ob (adr (some a)) fun p => ob (nat? n) fun n => ob (asFunc? fv) fun q => bt (q.2.1.isEmpty && q.2.2.isEmpty) (ob (findP tab q.1) fun pr => ob (m.cell p.1 p.2) fun sv => ob (asStr? sv) fun s => rowAt pr n s m)
  | _ => none
/-- what is asked of such a function. -/
def Spans (P : Program) (f : FuncId) (tab : PredTab) : Prop :=
  ∀ q ∈ tab, ∀ (x o n : Nat) (s : ByteArray) (w : World), n ≤ 10000000 → s.size ≤ 10000000 → w.cell? ⟨x, o, none⟩ = some (.string s) →
    Calls P f #[.pointer (some ⟨x, o, none⟩), .int .i64 (n : Int), .func (.func q.1) #[] #[]] w fun e w' => e = .returned (.int .i64 (spanL q.2 (s.data.toList.drop n) 0 : Nat)) ∧ Below w.heap.size w w'
theorem row_ok {P : Program} {wo : Orig} {base : Nat} {f : Nat} {fn : Func} {tab : PredTab} (hf : P.funcs[f]? = some fn) (hn : (fn.name == "runtime.NumGoroutine") = false) (hb : fn.body.isNone = false) (hc : Spans P f tab) : HintOk P base wo f (rowG tab) := by
  intro args m r ρ w args' hg hr hv
  unfold rowG at hg
  split at hg
  · rename_i a n fv
    obtain ⟨p, hp, hg⟩ := ob_some hg
    obtain ⟨k, hk, hg⟩ := ob_some hg
    obtain ⟨q, hq, hg⟩ := ob_some hg
    obtain ⟨he, hg⟩ := bt_some hg
    obtain ⟨pr, hpr, hg⟩ := ob_some hg
    obtain ⟨sv, hsv, hg⟩ := ob_some hg
    obtain ⟨s, hs, hg⟩ := ob_some hg
    obtain ⟨hle, hg⟩ := bt_some hg
    obtain rfl := Option.some.inj hg
    obtain rfl : n = (k : Int) := by
      cases n with
      | ofNat n => obtain rfl := Option.some.inj hk; rfl
      | negSucc n => cases hk
    obtain rfl : sv = .string s := by
      cases sv <;> first | (cases hs; done) | (obtain rfl := Option.some.inj hs; rfl)
    obtain rfl := asFunc_some hq
    rw [Bool.and_eq_true, List.isEmpty_iff, List.isEmpty_iff] at he
    obtain ⟨f0, a0, b0⟩ := q
    obtain ⟨rfl, rfl⟩ : a0 = [] ∧ b0 = [] := he
    obtain ⟨v1, l1, hl1, h1, h2⟩ := hv.inv_cons
    obtain ⟨v2, l2, rfl, h3, h4⟩ := h2.inv_cons
    obtain ⟨v3, l3, rfl, h5, h6⟩ := h4.inv_cons
    obtain rfl := h6.inv_nil
    obtain rfl := h3.int_inv
    obtain ⟨a', b', rfl, ha, hb'⟩ := h5.func_inv
    have ea : a' = #[] := by have := ha.inv_nil; rw [← Array.toList_inj]; exact this
    have eb : b' = #[] := by have := hb'.inv_nil; rw [← Array.toList_inj]; exact this
    subst ea; subst eb
    obtain ⟨t, ht, rfl⟩ := h1.ptr_inv hp
    obtain ⟨t', v', ht', hcell, hrel⟩ := hr.cell ht hsv
    rw [ht] at ht'; obtain rfl := Option.some.inj ht'
    obtain rfl := hrel.str_inv
    have e : args' = #[.pointer (some ⟨t.blk, t.shift + p.2, none⟩), .int .i64 (k : Int), .func (.func f0) #[] #[]] := by rw [← Array.toList_inj, hl1]
    subst e
    rw [Bool.and_eq_true] at hle
    have hle2 : s.size ≤ 10000000 := by
      have := ble_t hle.2
      have e : lenS s = s.size := Array.length_toList
      omega
    refine .inr ⟨call_enters hf ‹_› ‹_›, (hc _ (findP_some hpr) t.blk (t.shift + p.2) k s w (ble_t hle.1) hle2 hcell).mono fun _ _ ⟨he, hbl⟩ => ⟨_, he, ρ, Rho.le_refl ρ, VRel.scal _ rfl, hr.later hbl⟩⟩
  · cases hg
end
end Go.Am
