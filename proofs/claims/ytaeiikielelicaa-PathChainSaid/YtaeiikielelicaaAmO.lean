/- A function that tells the first of a row of whole numbers that is not nought: its answer, read from the machine's memory. -/
import Derived.Test.YtaeiikielelicaaAmE
set_option linter.unusedVariables false
set_option linter.unusedSimpArgs false
set_option linter.unusedSectionVars false
namespace Go.Am
open Go.RowKit
noncomputable section
/-- whole numbers, one after another. -/
def ints1 (ih : List Value → Option (List Int)) (l : List Value) : Option (List Int) :=
  match l with
  | .int .i64 a :: r => ob (ih r) fun x => some (a :: x)
  | _ => none
def ints? (l : List Value) (k : Nat) : Option (List Int) := Nat.rec (motive := fun _ => List Value → Option (List Int)) (fun _ => some []) (fun _ ih => ints1 ih) k l
/-- the first that is not nought. -/
def orZ (l : List Int) : Int := List.rec (motive := fun _ => Int) 0 (fun z _ ih => ite2 (eqI z 0) ih z) l
def orRow (n : Nat) (m : Mem) (p : Nat × Nat) : Res :=
  ob (m.cut p.1 p.2 n) fun l => ob (ints? l n) fun xs => bt (Nat.ble n 1000) (some (.int .i64 (orZ xs), m))
def orG (args : List Value) (m : Mem) : Res :=
  match args with
  | [.slice (some a) n _] => ob (adr (some a)) (orRow n m)
  | _ => none
theorem ints_some : ∀ {k : Nat} {l : List Value} {xs : List Int}, ints? l k = some xs → xs.length = k ∧ ∀ (j : Nat) z, xs[j]? = some z → l[j]? = some (.int .i64 z) := by
  intro k
  induction k with
  | zero => intro l xs h; obtain rfl := Option.some.inj (show some [] = some xs from h); exact ⟨rfl, fun j z h => by simp at h⟩
  | succ k ih =>
    intro l xs h
    have h : ints1 (fun l => ints? l k) l = some xs := h
    unfold ints1 at h
    split at h
    · rename_i a r
      obtain ⟨x, hx, h⟩ := ob_some h
      obtain rfl := Option.some.inj h
      obtain ⟨h1, h2⟩ := ih hx
      refine ⟨by simp [h1], fun j z hj => ?_⟩
      cases j with
      | zero => obtain rfl := Option.some.inj hj; rfl
      | succ j => exact h2 j z hj
    · cases h
/-- what is asked of such a function. -/
def Ors (P : Program) (f : FuncId) : Prop :=
  ∀ (b off cap : Nat) (zs : List Int) (w : World), zs.length ≤ 1000 → (∀ (j : Nat) z, zs[j]? = some z → w.cell? ⟨b, off + j, none⟩ = some (.int .i64 z)) →
    Calls P f #[.slice (some ⟨b, off, none⟩) zs.length cap] w fun e w' => e = .returned (.int .i64 (orZ zs)) ∧ Bel w.heap.size w w'
theorem or_ok {P : Program} {wo : Orig} {base : Nat} {f : Nat} {fn : Func} (hf : P.funcs[f]? = some fn) (hn : (fn.name == "runtime.NumGoroutine") = false) (hb : fn.body.isNone = false) (hc : Ors P f) : HintOk P base wo f orG := by
  intro args m r ρ w args' hg hr hv
  unfold orG at hg
  split at hg
  · rename_i a n c
    obtain ⟨q, hq, hg⟩ := ob_some hg
    unfold orRow at hg
    obtain ⟨l, hl, hg⟩ := ob_some hg
    obtain ⟨xs, hxs, hg⟩ := ob_some hg
    obtain ⟨hle, hg⟩ := bt_some hg
    obtain rfl := Option.some.inj hg
    obtain ⟨hxl, hxc⟩ := ints_some hxs
    subst hxl
    obtain ⟨v1, l1, hl1, h1, h2⟩ := hv.inv_cons
    obtain rfl := h2.inv_nil
    rcases h1.slc_inv hq with ⟨t, ht, hx⟩ | ⟨_, _, hx0, _⟩
    · subst hx
      obtain ⟨t', l', ht', hlen', hrel', hcell'⟩ := hr.cut ht hl
      rw [ht] at ht'; obtain rfl := Option.some.inj ht'
      have e : args' = #[.slice (some ⟨t.blk, t.shift + q.2, none⟩) xs.length (c + t.slack)] := by rw [← Array.toList_inj, hl1]
      subst e
      refine .inr ⟨call_enters hf ‹_› ‹_›, (hc t.blk (t.shift + q.2) (c + t.slack) xs w (ble_t hle) fun j z hj => ?_).mono fun _ _ ⟨he, hbl⟩ => ⟨_, he, ρ, Rho.le_refl ρ, VRel.flat2 rfl, hr.later hbl⟩⟩
      have hj' := (List.getElem?_eq_some_iff.1 hj).1
      have g1 := hxc j z hj
      have hi' : j < l'.length := by rw [hlen']; exact hj'
      rw [hcell' j hj']
      have h2 := hrel'.at_ j _ (l'[j]) g1 (List.getElem?_eq_getElem hi')
      rw [List.getElem?_eq_getElem hi', h2.of_scal rfl]
    · exfalso
      obtain ⟨rw_, hrow, _⟩ := ob_some hl
      rw [show q.1 = P.globals.size by rw [hx0]] at hrow
      have := hr.now.1.2 _ (rowOf_some hrow)
      cases this
  · cases hg
end
end Go.Am
