/- Words, and what reading promises, told by the machine. -/
import Derived.Test.YtpnjbagpplodjaaDoorDeZ
import Derived.ChangeSlices
namespace Go.Proofs.YtpnjbagpplodjaaDoor
open Go.RowKit Go.Am
set_option maxRecDepth 1000000
set_option linter.unusedSimpArgs false
set_option linter.unusedVariables false
noncomputable section
def pairS (c : ByteArray → Bool) (gM gS : ByteArray → Int) (gB : ByteArray → Bool) : List Value → Option (Bool × Value) := fun l => ob (s1 l) fun s => some (c s, .tuple ⟨[decV (gM s) (gS s), .bool (gB s)]⟩)
def pairK (c : ByteArray → Bool) (gM gS : ByteArray → Int) (gB : ByteArray → Bool) (l : List ByteArray) : Option Value :=
  List.rec (motive := fun _ => Option Value) (some (.bool true)) (fun x _ ih => bt (c x) (bt (c x) (ite2 (ite2 (ite2 (eqI (gM x) (gM x)) (ite2 (eqI (gS x) (gS x)) true false) false) false true) (some (.bool false)) (ite2 (ite2 (ite2 (gB x) (gB x) (ite2 (gB x) false true)) false true) (some (.bool false)) ih)))) l
noncomputable abbrev s3 (c : ByteArray → Bool) (gM gS : ByteArray → Int) (gB : ByteArray → Bool) : List KSpec := [(9, knownS), (11, pairS c gM gS gB), (12, pairS c gM gS gB)]
noncomputable abbrev h3 (s : ByteArray) : List Hint := [(10, ghostG Tryd.prog.globals.size [⟨0, .string s⟩])]
def texts : List ByteArray := [⟨⟨[57, 57, 57, 57, 57, 57, 57, 57, 57, 57, 57, 57, 57, 57, 57]⟩⟩, ⟨⟨[49, 48, 48, 48, 48, 48, 48, 48, 48, 48, 48, 48, 48, 48, 48, 48]⟩⟩, ⟨⟨[45, 57, 57, 57, 57, 57, 57, 57, 57, 57, 57, 57, 57, 57, 57, 57, 46, 48]⟩⟩, ⟨⟨[48, 46, 48, 48, 48, 48, 48, 49]⟩⟩, ⟨⟨[48, 46, 48, 48, 48, 48, 48, 48, 49]⟩⟩, ⟨⟨[48, 46, 48, 48, 48, 48, 48, 49, 48]⟩⟩, ⟨⟨[45, 48, 46, 48]⟩⟩, ⟨⟨[48, 48, 48, 49, 50, 46, 51, 48]⟩⟩, ⟨⟨[43, 55]⟩⟩, ⟨⟨[57, 57, 57, 57, 57, 57, 57, 57, 57, 57, 57, 57, 57, 57, 46, 57, 53]⟩⟩, ⟨⟨[57, 57, 57, 57, 57, 57, 57, 57, 57, 57, 57, 57, 57, 57, 57, 46, 53]⟩⟩, ⟨⟨[46]⟩⟩, ⟨⟨[53, 46]⟩⟩, ⟨⟨[46, 53]⟩⟩, ⟨⟨[]⟩⟩, ⟨⟨[45]⟩⟩, ⟨⟨[43, 45, 49]⟩⟩, ⟨⟨[49, 46, 46, 50]⟩⟩]
theorem K3 (c : ByteArray → Bool) (gM gS : ByteArray → Int) (gB : ByteArray → Bool) (s raw : ByteArray) : bodyM Tryd.prog (fiAt fis 3) (kcallHK (s3 c gM gS gB) (h3 s)) (kcallH (s3 c gM gS gB) (h3 s)) 21 (code 3) (res 3) [ghost Tryd.prog 0, .string raw] (mem0 Tryd.prog 2) (fun v _ => some v) =
    ite2 (gtI (Int.ofNat (lenS raw)) 60) (some (.bool true)) (pairK c gM gS gB (s :: raw :: texts)) := by kernel_rfl
def wtab : Tr Value := (Tr.nd (some (Value.string ⟨⟨[48]⟩⟩)) (Tr.nd (some (Value.string ⟨⟨[49]⟩⟩)) (Tr.nd (some (Value.string ⟨⟨[57]⟩⟩)) (Tr.nd (some (Value.string ⟨⟨[43]⟩⟩)) Tr.e Tr.e) (Tr.nd (some (Value.string ⟨⟨[]⟩⟩)) Tr.e Tr.e)) (Tr.nd (some (Value.string ⟨⟨[46]⟩⟩)) (Tr.nd (some (Value.string ⟨⟨[57, 57, 57]⟩⟩)) Tr.e Tr.e) Tr.e)) (Tr.nd (some (Value.string ⟨⟨[53]⟩⟩)) (Tr.nd (some (Value.string ⟨⟨[48, 48]⟩⟩)) (Tr.nd (some (Value.string ⟨⟨[49, 50, 51, 52, 53, 54]⟩⟩)) Tr.e Tr.e) Tr.e) (Tr.nd (some (Value.string ⟨⟨[45]⟩⟩)) (Tr.nd (some (Value.string ⟨⟨[120]⟩⟩)) Tr.e Tr.e) Tr.e)))
def wordK (n cap : Nat) (t : Tr Value) (fuel : Nat) : Nat → ByteArray → Option Value :=
  Nat.rec (motive := fun _ => Nat → ByteArray → Option Value) (fun _ _ => none) (fun _ ih i s =>
    ite2 (ltI (Int.ofNat i) (Int.ofNat n)) (ite2 (ltI (Int.ofNat i) 20) (ob (lt? (Int.ofNat i) n) fun y => bt (Nat.ble (Nat.succ (Nat.add 0 (Nat.mul y 1))) cap) (ob (getI .i64 t (Nat.add 0 (Nat.mul y 1))) fun z =>
      ob (lt? (Int.emod z 12) 12) fun q => bt (Nat.ble (Nat.succ (Nat.add 0 (Nat.mul q 1))) 12) (ob (getS wtab (Nat.add 0 (Nat.mul q 1))) fun x => bt (Nat.ble (Nat.add (lenS s) (lenS x)) 9223372036854775807) (ih (Nat.succ i) (catS s x))))) (some (.string s))) (some (.string s))) fuel
noncomputable abbrev s10 : List KSpec := [(24, withinS)]
theorem K10 (n cap k : Nat) (t : Tr Value) : bodyM Tryd.prog (fiAt fis 10) (kcallHK s10 []) (kcallH s10 []) 21 (code 10) (res 10) [slc 6 0 n cap] ((mem0 Tryd.prog 0).new (.cells k t 0 false none)) (fun v _ => some v) = wordK n k t 21 0 ⟨⟨[]⟩⟩ := by kernel_rfl
theorem K10n : bodyM Tryd.prog (fiAt fis 10) (kcallHK s10 []) (kcallH s10 []) 21 (code 10) (res 10) [.slice none 0 0] (mem0 Tryd.prog 0) (fun v _ => some v) = some (.string ⟨⟨[]⟩⟩) := by kernel_rfl
theorem K10e : bodyM Tryd.prog (fiAt fis 10) (kcallHK s10 []) (kcallH s10 []) 21 (code 10) (res 10) [slc Tryd.prog.globals.size 0 0 0] (mem0 Tryd.prog 0) (fun v _ => some v) = some (.string ⟨⟨[]⟩⟩) := by kernel_rfl
/-! ### a row from outside, laid down -/
theorem halves_len {α : Type} : ∀ (l : List α), (halves l).1.length = (l.length + 1) / 2 ∧ (halves l).2.length = l.length / 2 := by
  intro l
  induction l with
  | nil => exact ⟨by simp [halves], by simp [halves]⟩
  | cons a l ih => rw [halves_cons, List.length_cons, List.length_cons, ih.1, ih.2]; omega
theorem build_get {α : Type} : ∀ (f : Nat) (l : List α) (j : Nat), l.length < 2 ^ f → (Tr.build f l).get j = l[j]? := by
  intro f
  induction f with
  | zero =>
    intro l j h
    obtain rfl : l = [] := List.length_eq_zero_iff.1 (by simpa using h)
    rfl
  | succ f ih =>
    intro l j h
    cases l with
    | nil => rfl
    | cons a l =>
      have e : Tr.build (f + 1) (a :: l) = Tr.nd (some a) (Tr.build f (halves l).1) (Tr.build f (halves l).2) := by
        show Prod.rec (motive := fun _ => Tr α) (fun x y => Tr.nd (some a) (Tr.build f x) (Tr.build f y)) (halves l) = _
        cases halves l; rfl
      rw [e]
      cases j with
      | zero => rfl
      | succ j =>
        have hl := halves_len l
        rw [List.length_cons, Nat.pow_succ] at h
        have hd : 2 * Nat.div j 2 + Nat.mod j 2 = j := Nat.div_add_mod j 2
        rw [List.getElem?_cons_succ]
        rcases mod2 j with hj | hj
        · rw [Tr.get_left _ _ _ hj, ih _ _ (by omega), (halves_get l _).1]
          rw [hj] at hd
          rw [show 2 * Nat.div j 2 = j from hd]
        · rw [Tr.get_right _ _ _ hj, ih _ _ (by omega), (halves_get l _).2]
          rw [hj] at hd
          rw [show 2 * Nat.div j 2 + 1 = j from hd]
theorem build_int {l : List Int} (h : l.length < 1048576) {j : Nat} (hj : j < l.length) : getI .i64 (Tr.build dep (l.map (Value.int .i64))) j = some (l[j]) := by
  unfold getI
  rw [build_get dep _ _ (by rw [List.length_map]; exact Nat.lt_trans h (by decide)), List.getElem?_map, List.getElem?_eq_getElem hj]; rfl
/-! ### words -/
theorem wtab_at {q : Nat} (h : q < 12) : ∃ x, getS wtab q = some x ∧ lenS x ≤ 6 := by
  match q, h with
  | 0, _ => exact ⟨_, rfl, by decide⟩
  | 1, _ => exact ⟨_, rfl, by decide⟩
  | 2, _ => exact ⟨_, rfl, by decide⟩
  | 3, _ => exact ⟨_, rfl, by decide⟩
  | 4, _ => exact ⟨_, rfl, by decide⟩
  | 5, _ => exact ⟨_, rfl, by decide⟩
  | 6, _ => exact ⟨_, rfl, by decide⟩
  | 7, _ => exact ⟨_, rfl, by decide⟩
  | 8, _ => exact ⟨_, rfl, by decide⟩
  | 9, _ => exact ⟨_, rfl, by decide⟩
  | 10, _ => exact ⟨_, rfl, by decide⟩
  | 11, _ => exact ⟨_, rfl, by decide⟩
  | n + 12, h => exact absurd h (by omega)
theorem lenS_cat (a b : ByteArray) : lenS (catS a b) = lenS a + lenS b := by show (strL a ++ strL b).length = _; rw [List.length_append]; rfl
theorem wordK_ok {n k : Nat} {t : Tr Value} {z : Nat → Int} (hz : ∀ j, j < k → getI .i64 t j = some (z j)) (hk : ∀ j, j < n → j < 20 → j < k) : ∀ (f i : Nat) (s : ByteArray), i + f = 20 → lenS s ≤ 6 * i → ∃ s', wordK n k t (f + 1) i s = some (.string s') ∧ lenS s' ≤ 120 := by
  intro f
  induction f with
  | zero =>
    intro i s hi hs
    obtain rfl : i = 20 := by omega
    refine ⟨s, ?_, by omega⟩
    show ite2 (ltI (Int.ofNat 20) (Int.ofNat n)) (ite2 false _ (some (Value.string s))) (some (.string s)) = _
    cases ltI (Int.ofNat 20) (Int.ofNat n) <;> rfl
  | succ f ih =>
    intro i s hi hs
    have hi2 : ltI (Int.ofNat i) 20 = true := by rw [ltI_eq]; exact decide_eq_true (show (i : Int) < 20 by omega)
    show ∃ s', ite2 (ltI (Int.ofNat i) (Int.ofNat n)) (ite2 (ltI (Int.ofNat i) 20) (ob (lt? (Int.ofNat i) n) fun y => bt (Nat.ble (Nat.succ (Nat.add 0 (Nat.mul y 1))) k) (ob (getI .i64 t (Nat.add 0 (Nat.mul y 1))) fun z =>
      ob (lt? (Int.emod z 12) 12) fun q => bt (Nat.ble (Nat.succ (Nat.add 0 (Nat.mul q 1))) 12) (ob (getS wtab (Nat.add 0 (Nat.mul q 1))) fun x => bt (Nat.ble (Nat.add (lenS s) (lenS x)) 9223372036854775807) (wordK n k t (f + 1) (Nat.succ i) (catS s x))))) (some (.string s))) (some (.string s)) = some (.string s') ∧ lenS s' ≤ 120
    by_cases hn : i < n
    · have hik := hk i hn (by omega)
      have h0 := Int.emod_nonneg (z i) (show (12 : Int) ≠ 0 by omega)
      have h1 := Int.emod_lt_of_pos (z i) (show (0 : Int) < 12 by omega)
      rw [ite2_pos (show ltI (Int.ofNat i) (Int.ofNat n) = true from by rw [ltI_eq]; exact decide_eq_true (show (i : Int) < (n : Int) by omega)), hi2, ite2_true, show lt? (Int.ofNat i) n = some i from by
        have := lt_nat (β := Nat) hn some; rw [ob_id] at this; exact this, ob_of, idx1, show Nat.ble (Nat.succ i) k = true from ble_t' hik, bt_t, hz i hik, ob_of]
      rw [show Int.emod (z i) 12 = z i % 12 from rfl, show lt? (z i % 12) 12 = some (z i % 12).toNat from by
        have := ob_lt (β := Nat) (n := 12) h0 h1 some; rw [ob_id] at this; exact this, ob_of, idx1, show Nat.ble (Nat.succ (z i % 12).toNat) 12 = true from ble_t' (by omega), bt_t]
      obtain ⟨x, hx, hl⟩ := wtab_at (q := (z i % 12).toNat) (by omega)
      rw [hx, ob_of, show Nat.ble (Nat.add (lenS s) (lenS x)) 9223372036854775807 = true from ble_t' (show lenS s + lenS x ≤ _ by omega), bt_t]
      exact ih (i + 1) (catS s x) (by omega) (by rw [lenS_cat]; omega)
    · rw [ite2_neg (show ltI (Int.ofNat i) (Int.ofNat n) = false from by rw [ltI_eq]; exact decide_eq_false (show ¬ (i : Int) < (n : Int) by omega))]
      exact ⟨s, rfl, by omega⟩
theorem s10_h : ∀ x ∈ s10, Holds Tryd.prog x := fun x h => by rw [List.mem_singleton.1 h]; exact within_h
theorem nx6 : (mem0 Tryd.prog 0).nx = 6 := by kernel_rfl
theorem word_run {n : Nat} {args : List Value} {m : Mem} {v : Value} (hle : Nat.ble args.length Tryd.f10.ntmps = true) (hv : flat2 v = true)
    (h : bodyM Tryd.prog (fiAt fis 10) (kcallHK s10 []) (kcallH s10 []) n (code 10) (res 10) args m (fun v _ => some v) = some v) {ρ : Rho} {w : World} {args' : Array Value} (hr : Rep Tryd.prog w.heap.size (orig Tryd.prog [] w) ρ m w) (ha : VRels Tryd.prog.globals.size ρ args args'.toList) :
    Calls Tryd.prog 10 args' w fun e w' => e = .returned v ∧ Below w.heap.size w w' :=
  calls_of_M masks (wo := orig Tryd.prog [] w) (kcallH_same s10 []) (fun d => kcallH_ok s10_h (fun _ h => by cases h)) Tryd.func10 (by kernel_rfl) (c := code 10) (by kernel_rfl) (by kernel_rfl) hle hv h rfl hr ha
/-- any row of numbers has its word. -/
theorem word_calls {H : Type} {enc : TypeId × Value → H} {W : World} {v : Value} {d : DataW H} {ps : List MemPlace} (hval : ∃ a len cap, v = .slice a len cap) (h : DataW.Trod enc Tryd.prog W 0 (fun _ => true) true 22 v d ps) :
    ∃ s, lenS s ≤ 120 ∧ ∀ w, Below W.heap.size W w → Calls Tryd.prog 10 #[v] w fun e w' => e = .returned (.string s) ∧ Below w.heap.size w w' := by
  obtain ⟨fuel, hf⟩ := h
  obtain ⟨a0, len0, cap0, rfl⟩ := hval
  rcases Go.ChangeShapes.open_ints Tryd.underlying22 Tryd.underlying3 (by kernel_rfl) hf with ⟨hcs, -⟩ | ⟨a, len, cap, zs, hcs, -, hl, -, hzl, -, hc, -⟩
  · obtain ⟨rfl, rfl, rfl⟩ : a0 = none ∧ len0 = 0 ∧ cap0 = 0 := by
      have : (Value.slice a0 len0 cap0) = .slice none 0 0 := List.cons.inj (show [Value.slice a0 len0 cap0] = _ from hcs) |>.1
      cases this; exact ⟨rfl, rfl, rfl⟩
    refine ⟨⟨⟨[]⟩⟩, by decide, fun w _ => word_run (args := [.slice none 0 0]) (m := mem0 Tryd.prog 0) (by kernel_rfl) rfl K10n (Go.Am.start (vs := [])) (VRels.flat rfl)⟩
  · obtain ⟨rfl, rfl, rfl⟩ : a0 = some a ∧ len0 = len ∧ cap0 = cap := by
      have : (Value.slice a0 len0 cap0) = .slice (some a) len cap := List.cons.inj (show [Value.slice a0 len0 cap0] = _ from hcs) |>.1
      cases this; exact ⟨rfl, rfl, rfl⟩
    by_cases h0 : len0 = 0
    · subst h0
      refine ⟨⟨⟨[]⟩⟩, by decide, fun w _ => word_run (args := [slc Tryd.prog.globals.size 0 0 0]) (m := mem0 Tryd.prog 0) (by kernel_rfl) rfl K10e (Go.Am.start (vs := [])) (VRels.nil.cons (VRel.nowhere a cap0))⟩
    · rw [if_pos rfl] at hzl
      obtain ⟨blk, off, spot⟩ := a
      have c0 := hc 0 (by omega)
      have hsp : spot = none := by
        cases spot with
        | none => rfl
        | some x =>
          have e : Addr.add ⟨blk, off, some x⟩ 0 = ⟨blk, off, some x⟩ := rfl
          rw [e] at c0
          unfold World.cell? at c0
          split at c0 <;> simp at c0
      subst hsp
      have hcell : ∀ i, i < zs.length → W.cell? ⟨blk, off + i, none⟩ = some (.int .i64 (zs.getD i 0)) := fun i hi => by have := hc i hi; rwa [addr_add] at this
      obtain ⟨cs, el, fz, hcs2⟩ : ∃ cs el fz, W.heap[blk]? = some (.cells cs el fz) := by
        have := hcell 0 (by omega)
        unfold World.cell? at this
        split at this
        · rename_i c el fz he; exact ⟨c, el, fz, he⟩
        · cases this
      have hcell2 : ∀ i, i < zs.length → cs[off + i]? = some (.int .i64 (zs.getD i 0)) := fun i hi => by
        have := hcell i hi; rwa [cell_of W _ _ cs el fz hcs2] at this
      have hblk : blk < W.heap.size := (Array.getElem?_eq_some_iff.1 hcs2).1
      obtain ⟨zk, hzk⟩ : ∃ zk, zs.take 20 = zk := ⟨_, rfl⟩
      have hkl : zk.length = Nat.min 20 zs.length := by rw [← hzk, List.length_take]
      have hk20 : zk.length ≤ 20 := by rw [hkl]; exact Nat.min_le_left _ _
      have hkz : zk.length ≤ zs.length := by rw [hkl]; exact Nat.min_le_right _ _
      have hget : ∀ j (hj : j < zk.length), zk[j] = zs.getD j 0 := fun j hj => by
        subst hzk
        rw [List.getElem_take, List.getD_eq_getElem?_getD, List.getElem?_eq_getElem (show j < zs.length by omega)]; rfl
      obtain ⟨s', hs1, hs2⟩ := wordK_ok (n := len0) (k := zk.length) (t := Tr.build dep (zk.map (Value.int .i64))) (z := fun j => zk[j]?.getD 0) (fun j hj => by
          rw [build_int (by omega) hj, List.getElem?_eq_getElem hj]; rfl) (fun j h1 h2 => by rw [hkl]; exact Nat.lt_min.2 ⟨h2, by omega⟩) 20 0 ⟨⟨[]⟩⟩ rfl (by decide)
      refine ⟨s', hs2, fun w hw => ?_⟩
      have hcw : w.heap[blk]? = some (.cells cs el fz) := (hw.block blk hblk).trans hcs2
      have hlt : blk < w.heap.size := Nat.lt_of_lt_of_le hblk hw.size
      have hoff : off + zk.length ≤ cs.size := by
        have := hcell2 (zk.length - 1) (by omega)
        have := (Array.getElem?_eq_some_iff.1 this).1
        omega
      have hrep := (Go.Am.start (P := Tryd.prog) (vs := []) (w := w)).addRO zk.length (Tr.build dep (zk.map (Value.int .i64))) ⟨blk, off, 0, undef⟩ hlt rfl hcw hoff (fun i v hi hv => by
        have := Tr.get_build _ _ _ _ hv
        rw [List.getElem?_map, List.getElem?_eq_getElem hi] at this
        obtain rfl := Option.some.inj this
        exact ⟨_, by rw [hcell2 i (by omega), hget i hi], VRel.scal _ rfl⟩)
      refine word_run (args := [slc 6 0 len0 cap0]) (by kernel_rfl) rfl ((K10 len0 cap0 zk.length _).trans hs1) hrep (VRels.nil.cons ?_)
      have := VRel.slc (nw := Tryd.prog.globals.size) (ρ := Rho.set (ghRho Tryd.prog.globals.size []) (mem0 Tryd.prog [].length).nx ⟨blk, off, 0, undef⟩) 6 0 len0 cap0 ⟨blk, off, 0, undef⟩ (by
        rw [show (mem0 Tryd.prog ([] : List Value).length).nx = 6 from nx6, Rho.set_same])
      exact this
/-! ### the law -/
/-- answers to a ghost, at one world. -/
theorem ghostW_ok {P : Program} {f : FuncId} {fn : Func} {vs : List Value} {l : List GRow} (hf : P.funcs[f]? = some fn) (hn : (fn.name == "runtime.NumGoroutine") = false) (hb : fn.body.isNone = false) {base : Nat} {wo : World} {d : Nat → Prop}
    (hl : ∀ q ∈ l, flat2 q.v = true ∧ ∃ u, vs[q.j]? = some u ∧ ∀ w, Below base wo w → Calls P f #[u] w fun e w' => e = .returned q.v ∧ Below w.heap.size w w') : HintOk P base ((orig P vs wo).at d) f (ghostG P.globals.size l) := by
  intro args m r ρ w args' h hr hv
  obtain ⟨a, ha, h1'⟩ := ob_some h
  obtain ⟨j, hj, hg⟩ := ob_some h1'
  have e1 : args = [a] := by
    cases args with
    | nil => cases ha
    | cons x l => cases l with
      | nil => rw [Option.some.inj ha]
      | cons y l => cases ha
  subst e1
  rw [ghostOf_some hj] at hv
  obtain ⟨v', l', hl', h1, h2⟩ := hv.inv_cons
  obtain rfl := h2.inv_nil
  obtain ⟨s, hs, rfl⟩ := h1.ghost_inv
  have e2 : args' = #[s.gh] := by rw [← Array.toList_inj, hl']
  subst e2
  clear ha hv hl' h1 h2 h h1'
  induction l with
  | nil => cases hg
  | cons q l ih =>
    have h' : ite2 (Nat.beq q.j j) (some (q.v, m)) (gfind l j m) = some r := hg
    cases he : Nat.beq q.j j with
    | true =>
      rw [he] at h'
      obtain rfl := Option.some.inj h'
      obtain ⟨g1, u, g2, g3⟩ := hl q (List.mem_cons_self ..)
      rw [beq_t he] at g2
      have := hr.glob.2 _ _ (ghost_at (P := P) g2)
      rw [hs] at this
      obtain rfl := Option.some.inj this
      exact .inr ⟨call_enters hf hn hb, (g3 w hr.below).mono fun _ _ ⟨he, hb⟩ => ⟨q.v, he, ρ, Rho.le_refl ρ, VRel.flat2 g1, hr.later hb⟩⟩
    | false => rw [he] at h'; exact ih (fun q hq => hl q (List.mem_cons_of_mem _ hq)) h'
theorem pair_ok {c : ByteArray → Bool} {gM gS : ByteArray → Int} {gB : ByteArray → Bool} : ∀ (l : List ByteArray), (∀ x ∈ l, c x = true) → pairK c gM gS gB l = some (.bool true) := by
  intro l
  induction l with
  | nil => intro _; rfl
  | cons x l ih =>
    intro h
    show bt (c x) (bt (c x) (ite2 (ite2 (ite2 (eqI (gM x) (gM x)) (ite2 (eqI (gS x) (gS x)) true false) false) false true) (some (.bool false)) (ite2 (ite2 (ite2 (gB x) (gB x) (ite2 (gB x) false true)) false true) (some (.bool false)) (pairK c gM gS gB l)))) = _
    rw [h x (List.mem_cons_self ..), eqI_self, eqI_self, ite2_same, ih fun y hy => h y (List.mem_cons_of_mem _ hy)]
    rfl
theorem s3_h : ∀ x ∈ s3 Sp.short2 Sp.pM Sp.pS Sp.pB, Holds Tryd.prog x := by
  intro x h
  simp only [List.mem_cons, List.not_mem_nil, or_false] at h
  rcases h with rfl | rfl | rfl
  · exact known_h
  · exact parse_h
  · exact rparse_h
theorem reads_calls {W : World} {v : Value} {raw s : ByteArray} (ho : okCell v = true) (hs : lenS s ≤ 120) (hw : ∀ w, Below W.heap.size W w → Calls Tryd.prog 10 #[v] w fun e w' => e = .returned (.string s) ∧ Below w.heap.size w w') :
    Calls Tryd.prog 3 #[v, .string raw] W fun e w' => e = .returned (.bool true) ∧ Below W.heap.size W w' := by
  have hrel : VRels Tryd.prog.globals.size (ghRho Tryd.prog.globals.size [v, .string raw]) [ghost Tryd.prog 0, .string raw] [v, .string raw] :=
    (VRels.nil.cons (VRel.flat rfl)).cons (ghost_rel (P := Tryd.prog) (vs := [v, .string raw]) (j := 0) rfl ho)
  refine calls_of_M masks (wo := orig Tryd.prog [v, .string raw] W) (base := W.heap.size) (n := 21) (args := [ghost Tryd.prog 0, .string raw]) (m := mem0 Tryd.prog 2) (kcallH_same (s3 Sp.short2 Sp.pM Sp.pS Sp.pB) (h3 s)) (fun d => kcallH_ok s3_h fun p hp => ?_) Tryd.func3 (by kernel_rfl) (c := code 3) (by kernel_rfl) (by kernel_rfl) (by kernel_rfl) rfl ?_ rfl (Go.Am.start (vs := [v, .string raw])) hrel
  · rw [List.mem_singleton.1 hp]
    exact ghostW_ok Tryd.func10 (by kernel_rfl) (by kernel_rfl) fun q hq => by
      rw [List.mem_singleton.1 hq]; exact ⟨rfl, v, rfl, hw⟩
  · refine (K3 Sp.short2 Sp.pM Sp.pS Sp.pB s raw).trans ?_
    rw [gtI_dec]
    by_cases hr : 60 < lenS raw
    · rw [ite2_pos (show decide ((60 : Int) < Int.ofNat (lenS raw)) = true from decide_eq_true (show (60 : Int) < (lenS raw : Int) by omega))]
    · rw [ite2_neg (show decide ((60 : Int) < Int.ofNat (lenS raw)) = false from decide_eq_false (show ¬ (60 : Int) < (lenS raw : Int) by omega))]
      refine pair_ok _ fun x hx => ?_
      rcases List.mem_cons.1 hx with rfl | hx
      · exact decide_eq_true (show lenS x < 2000000000 by omega)
      · rcases List.mem_cons.1 hx with rfl | hx
        · exact decide_eq_true (show lenS x < 2000000000 by omega)
        · have h : texts.all Sp.short2 = true := by kernel_rfl
          exact List.all_eq_true.1 h x hx

end
end Go.Proofs.YtpnjbagpplodjaaDoor
