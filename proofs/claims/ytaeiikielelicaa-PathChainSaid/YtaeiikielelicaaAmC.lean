/- The abstract machine's operations against the model's: copy, conversions, equality, numbers, the rest. -/
import Derived.Lib.ConvBytes
import Derived.Laws.BytesString
import Derived.Laws.StructEq
import Derived.Laws.Strings
import Derived.Scope
import Derived.Test.YtaeiikielelicaaAmB
set_option linter.unusedVariables false
set_option linter.unusedSimpArgs false
set_option linter.unusedSectionVars false
namespace Go.Am
open Go.RowKit
section
variable {P : Program} {base : Nat} {w : World} {w0 : Orig} {ρ : Rho} {m : Mem} {ρA : Operand → Option Value} {ρC : Operand → Value}

theorem copy_sound (hr : Rep P base w0 ρ m w) {sT xT ty : TypeId} {s x s' x' : Value} {r : Value × Mem} (h : opCopy P sT (some s) (some x) m = some r)
    (hs : VRel P.globals.size ρ s s') (hx : VRel P.globals.size ρ x x') : Done P base w0 ρ r (do pure (.value (← Builtin.copy_ #[sT, xT] ty #[s', x']))) w := by
  obtain ⟨e, he', h⟩ := ob_some h
  obtain ⟨k, hk, h⟩ := ob_some h
  obtain ⟨s1, e1, h⟩ := ob_some h
  obtain rfl := Option.some.inj e1
  obtain ⟨sl, hsl, h⟩ := ob_some h
  obtain ⟨x1, e2, h⟩ := ob_some h
  obtain rfl := Option.some.inj e2
  obtain ⟨q, hq, h⟩ := ob_some h
  obtain ⟨hl, hA⟩ := bt_some h
  clear h
  rw [Bool.and_eq_true] at hl
  obtain ⟨a, len, cap⟩ := sl
  obtain ⟨n, new⟩ := q
  have hs0 := asSl_some hsl
  simp only at hs0 hA hl
  subst hs0
  have hnl : new.length = n * k := beq_t hl.1
  obtain ⟨hlen, hc⟩ := source_run hr hq hx hnl
  obtain ⟨new', hrel, hsz, hrun⟩ := hc (Nat.min n len) (Nat.min_le_left _ _)
  have start : ∀ (a' : Option Addr) (c' : Nat), s' = .slice a' len c' → ∀ w', ((match a' with
      | some a => storeCells a new'.toList >>= fun _ => pure (goInt (Nat.min n len))
      | none => pure (goInt (Nat.min n len))) : Sem Value).run P w = .ok (.int .i64 (Nat.min n len : Nat)) w' →
      (Builtin.copy_ #[sT, xT] ty #[s', x']).run P w = .ok (.int .i64 (Nat.min n len : Nat)) w' := by
    intro a' c' hs' w' hrun'
    subst hs'
    unfold Builtin.copy_
    simp only [List.getElem?_toArray, List.getElem?_cons_zero, List.getElem?_cons_succ]
    rw [rb (run_und (elem_some he') w)]
    simp only
    rw [rb (hlen w), rb (run_size hk w), rb (hrun w rfl)]
    cases a' with
    | none => exact hrun'
    | some a' => exact hrun'
  unfold cpTo at hA
  cases hb : Nat.beq (Nat.min n len) 0 with
  | true =>
    rw [hb] at hA
    obtain rfl := Option.some.inj hA
    have h0 := beq_t hb
    have hnil : new'.toList = [] := List.length_eq_zero_iff.1 (by rw [Array.length_toList, hsz, h0, Nat.zero_mul])
    rcases hs.slice_inv with ⟨rfl, rfl, rfl, hs'⟩ | ⟨b, o, sl, rfl, hsl', hs'⟩ | ⟨rfl, rfl, rfl, a', c', hs'⟩
    · exact done_same hr (run_v (start none 0 hs' w rfl)) (by rw [h0]; exact VRel.flat rfl)
    · refine done_same hr (run_v (start _ _ hs' w ?_)) (by rw [h0]; exact VRel.flat rfl)
      simp only [hnil]; rfl
    · refine done_same hr (run_v (start _ _ hs' w ?_)) (by rw [h0]; exact VRel.flat rfl)
      simp only [hnil]; rfl
  | false =>
    rw [hb] at hA
    obtain ⟨p, hp, hA⟩ := ob_some hA
    obtain ⟨m', hm, hA⟩ := ob_some hA
    obtain rfl := Option.some.inj hA
    rcases hs.slc_inv hp with ⟨sl, hsl', hs'⟩ | ⟨rfl, _⟩
    · obtain ⟨s2, hs2, hst, hrep⟩ := hr.wr hsl' hm hrel (by
        rw [List.all_eq_true] at *
        intro v hv
        exact hl.2 v (List.mem_of_mem_take hv))
      rw [hsl'] at hs2; obtain rfl := Option.some.inj hs2
      refine ⟨_, _, _, ρ, run_v (start _ _ hs' _ ?_), .inl rfl, Rho.le_refl ρ, VRel.flat rfl, hrep⟩
      simp only
      rw [rb hst]; rfl
    · simp at hb

theorem repL_eq (n : Nat) (v : Value) : repL n v = List.replicate n v := by
  induction n with
  | zero => rfl
  | succ n ih => show v :: repL n v = _; rw [ih, List.replicate_succ]
theorem clear_sound (hr : Rep P base w0 ρ m w) {t ty : TypeId} {s s' : Value} {r : Value × Mem} (h : opClear P t (some s) m = some r)
    (hs : VRel P.globals.size ρ s s') : Done P base w0 ρ r (do pure (.value (← Builtin.clear_ #[t] ty #[s']))) w := by
  obtain ⟨e, he', h⟩ := ob_some h
  obtain ⟨z, hz, h⟩ := ob_some h
  obtain ⟨s1, e1, h⟩ := ob_some h
  obtain rfl := Option.some.inj e1
  obtain ⟨sl, hsl, h⟩ := ob_some h
  obtain ⟨hz1, hA⟩ := bt_some h
  clear h
  rw [Bool.and_eq_true] at hz1
  obtain ⟨a, len, cap⟩ := sl
  have hs0 := asSl_some hsl
  simp only at hs0 hA
  subst hs0
  obtain ⟨v0, hv0⟩ : ∃ v0, cellsL z = [v0] := List.length_eq_one_iff.1 (beq_t hz1.1)
  have hzc : z.cells.toList = [v0] := hv0
  have hzs : z.cells.size = 1 := by rw [← Array.length_toList, hzc]; rfl
  have hcells : (Builtin.zeroCells z.cells len).toList = List.replicate len v0 := by
    unfold Builtin.zeroCells
    rw [Array.toList_map, hzs, Nat.mul_one, Array.toList_range]
    refine List.ext_getElem (by simp) fun i h1 h2 => ?_
    simp only [List.getElem_map, List.getElem_range, Nat.mod_one, List.getElem_replicate]
    have : z.cells = #[v0] := Array.toList_inj.1 hzc
    rw [this]; rfl
  cases hb : Nat.beq len 0 with
  | true =>
    rw [hb] at hA
    obtain rfl := Option.some.inj hA
    have h0 := beq_t hb
    subst h0
    have go : ∀ a' c', s' = .slice a' 0 c' → (Builtin.clear_ #[t] ty #[s']).run P w = .ok (.tuple #[]) w := by
      intro a' c' hs'
      subst hs'
      unfold Builtin.clear_
      simp only [List.getElem?_toArray, List.getElem?_cons_zero]
      rw [rb (run_und (elem_some he') w)]
      cases a' <;> rfl
    rcases hs.slice_inv with ⟨rfl, _, rfl, hs'⟩ | ⟨b, o, sl, rfl, hsl', hs'⟩ | ⟨rfl, _, rfl, a', c', hs'⟩
    · exact done_same hr (run_v (go _ _ hs')) (VRel.flat rfl)
    · exact done_same hr (run_v (go _ _ hs')) (VRel.flat rfl)
    · exact done_same hr (run_v (go _ _ hs')) (VRel.flat rfl)
  | false =>
    rw [hb] at hA
    obtain ⟨p, hp, hA⟩ := ob_some hA
    obtain ⟨m', hm, hA⟩ := ob_some hA
    obtain rfl := Option.some.inj hA
    rw [hv0, List.flatMap_singleton, repL_eq] at hm
    have hf : VRel P.globals.size ρ v0 v0 := by
      have h1 : VRels P.globals.size ρ (cellsL z) (cellsL z) := (VRel.flat (zero_flat hz)).cells
      rw [hv0] at h1
      exact h1.2 0 v0 v0 rfl rfl
    have hrel : VRels P.globals.size ρ (List.replicate len v0) (List.replicate len v0) := ⟨rfl, fun i v v' h1 h2 => by
      rw [List.eq_of_mem_replicate (List.mem_of_getElem? h1), List.eq_of_mem_replicate (List.mem_of_getElem? h2)]; exact hf⟩
    rcases hs.slc_inv hp with ⟨sl, hsl', hs'⟩ | ⟨rfl, _⟩
    · obtain ⟨s2, hs2, hst, hrep⟩ := hr.wr hsl' hm hrel (by
        rw [List.all_eq_true]
        intro v hv
        rw [List.eq_of_mem_replicate hv]
        exact List.all_eq_true.1 hz1.2 v0 (by rw [hv0]; exact List.mem_singleton.2 rfl))
      rw [hsl'] at hs2; obtain rfl := Option.some.inj hs2
      refine ⟨_, _, _, ρ, run_v ?_, .inl rfl, Rho.le_refl ρ, VRel.flat rfl, hrep⟩
      subst hs'
      unfold Builtin.clear_
      simp only [List.getElem?_toArray, List.getElem?_cons_zero]
      rw [rb (run_und (elem_some he') w)]
      cases len with
      | zero => cases hb
      | succ len =>
        show (zeroValue e >>= fun z => storeCells ⟨sl.blk, sl.shift + p.2, none⟩ (Builtin.zeroCells z.cells (len + 1)).toList >>= fun _ => pure (Value.tuple #[])).run P w = _
        rw [rb (run_zero hz w), hcells, rb hst]
        rfl
    · simp at hb

theorem inR_eq {lo hi : Nat} {k : IntKind} (h1 : ∀ a : Nat, a < hi → k.wrap (a : Int) = (a : Int)) (h2 : ∀ a : Nat, a < lo → k.wrap (.negSucc a) = .negSucc a) (n : Int) : inR lo hi k n = k.wrap n := by
  cases n with
  | ofNat a =>
    show (Bool.rec (k.wrap (.ofNat a)) (.ofNat a) (Nat.blt a hi) : Int) = _
    cases hb : Nat.blt a hi with
    | false => rfl
    | true => exact (h1 a (blt_t hb)).symm
  | negSucc a =>
    show (Bool.rec (k.wrap (.negSucc a)) (.negSucc a) (Nat.blt a lo) : Int) = _
    cases hb : Nat.blt a lo with
    | false => rfl
    | true => exact (h2 a (blt_t hb)).symm
theorem wrapA_eq (k : IntKind) (n : Int) : wrapA k n = k.wrap n := by
  cases k
  · exact inR_eq (fun a h => IntWalk.i8_in _ (by constructor <;> omega)) (fun a h => IntWalk.i8_in _ (by constructor <;> omega)) n
  · exact inR_eq (fun a h => IntWalk.i16_in _ (by constructor <;> omega)) (fun a h => IntWalk.i16_in _ (by constructor <;> omega)) n
  · exact inR_eq (fun a h => IntWalk.i32_in _ (by constructor <;> omega)) (fun a h => IntWalk.i32_in _ (by constructor <;> omega)) n
  · exact inR_eq (fun a h => IntWalk.i64_in _ (by constructor <;> omega)) (fun a h => IntWalk.i64_in _ (by constructor <;> omega)) n
  · exact inR_eq (fun a h => IntWalk.u8_in _ (by constructor <;> omega)) (fun a h => absurd h (Nat.not_lt_zero a)) n
  · exact inR_eq (fun a h => IntWalk.u16_in _ (by constructor <;> omega)) (fun a h => absurd h (Nat.not_lt_zero a)) n
  · exact inR_eq (fun a h => IntWalk.u32_in _ (by constructor <;> omega)) (fun a h => absurd h (Nat.not_lt_zero a)) n
  · exact inR_eq (fun a h => IntWalk.u64_in _ (by constructor <;> omega)) (fun a h => absurd h (Nat.not_lt_zero a)) n

theorem bytesOfV_some : ∀ (cs : List Value) (l : List UInt8), bytesOfV cs = some l → ∃ ns : List Int, cs = ns.map (Value.int .u8) ∧ l = ns.map fun n => UInt8.ofNat n.toNat := by
  intro cs
  induction cs with
  | nil => intro l h; obtain rfl : [] = l := Option.some.inj h; exact ⟨[], rfl, rfl⟩
  | cons v cs ih =>
    intro l h
    obtain ⟨b, hb, h⟩ := ob_some h
    obtain ⟨l', hl, h⟩ := ob_some h
    obtain rfl := Option.some.inj h
    obtain ⟨ns, rfl, rfl⟩ := ih l' hl
    obtain ⟨p, hp, hb⟩ := ob_some hb
    obtain ⟨hk, hb⟩ := bt_some hb
    obtain ⟨n, hn, hb⟩ := ob_some hb
    obtain rfl := Option.some.inj hb
    refine ⟨p.2 :: ns, ?_, ?_⟩
    · rw [asInt_some hp, ← ikEq_t hk]; rfl
    · rw [List.map_cons, nat_some hn, Int.toNat_natCast]
theorem foldl_push : ∀ (ns : List Int) (s : ByteArray), ns.foldl (fun (r : ByteArray) n => r.push (UInt8.ofNat n.toNat)) s = ⟨⟨s.data.toList ++ ns.map fun n => UInt8.ofNat n.toNat⟩⟩ := by
  intro ns
  induction ns with
  | nil => intro s; simp
  | cons n ns ih =>
    intro s
    rw [List.foldl_cons, ih]
    simp [ByteArray.push]

theorem isU8_t {t : TypeId} (h : isU8 P t = true) : P.underlying t = some (.int .u8) := by
  unfold isU8 at h
  cases hd : P.underlying t with
  | none => rw [hd] at h; cases h
  | some d =>
    rw [hd] at h
    cases d <;> first | (cases h; done) | skip
    rw [ikEq_t h]

theorem bytesWorld_below (e : TypeId) (s : ByteArray) (hr : Rep P base w0 ρ m w) : Bel base w0.w (Lib.bytesWorld w e s) := by
  refine hr.below.trans ⟨⟨rfl, rfl, rfl, by rw [Lib.bytesWorld_size]; omega, fun k hk => Lib.bytesWorld_at_old w e s k (by have := hr.size; omega)⟩, Nat.le_succ _⟩

theorem cvBytes_sound (hr : Rep P base w0 ρ m w) {src dst e : TypeId} {s : ByteArray} {r : Value × Mem} {d : TypeDesc} (hs : P.underlying src = some d) (hd : elem? P dst = some e) (h : cvBytes P e s m = some r) :
    Done P base w0 ρ r (do pure (.value (← convert src dst (.string s)))) w := by
  obtain ⟨hu, h⟩ := bt_some h
  obtain rfl := Option.some.inj h
  have hrun := Lib.run_convert_string_bytes w src dst e s hs (elem_some hd) (isU8_t hu)
  have hcap := grownCap_ge w s.size 0 e
  have hbel := bytesWorld_below e s hr
  have hsz := Lib.bytesWorld_size w e s
  have hold := Lib.bytesWorld_at_old w e s
  cases hb : Nat.beq (lenS s) 0 with
  | true =>
    have h0 : s.size = 0 := by rw [size_len]; exact beq_t hb
    rw [h0] at hrun
    exact ⟨_, _, _, ρ, run_v hrun, .inl rfl, Rho.le_refl ρ, VRel.nowhere _ _, hr.more (by omega) hold hbel⟩
  | false =>
    obtain ⟨sl, hsl⟩ : ∃ sl, grownCap w s.size 0 e = s.size + sl := ⟨grownCap w s.size 0 e - s.size, by omega⟩
    have hrep : Rep P base w0 (ρ.set m.nx ⟨w.heap.size, 0, sl, undef⟩) (m.newCells (bytesV s) 1) (Lib.bytesWorld w e s) := by
      refine hr.newIn _ _ rfl (by omega) hold hbel ?_
      have hbs : (Lib.bytesCells w e s).size = s.size + sl := by simp [Lib.bytesCells, hsl]
      have hlen : (bytesV s).length = s.size := by simp [bytesV, strL]
      refine ⟨_, e, _, Lib.bytesWorld_at_new w e s, by rw [hbs, hlen]; simp, fun h => absurd h (by decide), ?_, fun _ => ⟨hr.size, fun i hi => by simp only; omega⟩⟩
      intro i v hi hv
      have hv := Tr.get_build _ _ _ _ hv
      refine ⟨v, ?_, ?_⟩
      · rw [Nat.zero_add]
        unfold Lib.bytesCells
        rw [Array.getElem?_append_left (by rw [Array.size_map]; rw [hlen] at hi; exact hi)]
        rw [← Array.getElem?_toList, Array.toList_map]
        exact hv
      · obtain ⟨b, _, rfl⟩ := List.mem_map.1 (List.mem_of_getElem? hv)
        exact VRel.flat rfl
    rw [hsl] at hrun
    refine ⟨_, _, _, _, run_v hrun, .inl rfl, hr.le_new _, ?_, hrep⟩
    have := VRel.slc (nw := P.globals.size) (ρ := ρ.set m.nx ⟨w.heap.size, 0, sl, undef⟩) m.nx 0 (lenS s) (lenS s) _ (Rho.set_same _ _ _)
    rw [size_len]
    exact this

theorem cvString_sound (hr : Rep P base w0 ρ m w) {src dst e : TypeId} {a : Option Addr} {n c : Nat} {x' : Value} {v : Value} (hs : elem? P src = some e) (hd : isStr P dst = true) (h : cvString P e (.slice a n c) m = some v)
    (hx : VRel P.globals.size ρ (.slice a n c) x') : Done P base w0 ρ (v, m) (do pure (.value (← convert src dst x'))) w := by
  obtain ⟨hu, h⟩ := bt_some h
  obtain ⟨q, hq, h⟩ := ob_some h
  obtain ⟨l, hl, h⟩ := ob_some h
  obtain rfl := Option.some.inj h
  obtain ⟨k, new⟩ := q
  obtain ⟨ns, hns, rfl⟩ := bytesOfV_some _ _ hl
  simp only at hns
  subst hns
  have hund := elem_some hs
  have hflat : (ns.map (Value.int .u8)).all scal = true := by
    rw [List.all_eq_true]; intro v hv; obtain ⟨b, _, rfl⟩ := List.mem_map.1 hv; rfl
  have fin : ∀ (a' : Addr) (c' : Nat), x' = .slice (some a') n c' → (loadCells a' n).run P w = .ok (ns.map (Value.int .u8)).toArray w → Done P base w0 ρ (.string (strOf (ns.map fun n => UInt8.ofNat n.toNat)), m) (do pure (.value (← convert src dst x'))) w := by
    intro a' c' hx' hld
    refine done_same hr (run_v ?_) (VRel.flat rfl)
    rw [hx', run_convert_bytes_string w src dst e (some a') n c' hund (isU8_t hu) (isStr_t hd), run_bytesToString w a' n c' ns hld, foldl_push]
    rfl
  unfold source at hq
  cases hb : Nat.beq n 0 with
  | true =>
    simp only [hb, ite2_t] at hq
    obtain ⟨rfl, hnil⟩ := Prod.mk.inj (Option.some.inj hq)
    obtain rfl := beq_t hb
    have hnil' : ns = [] := by cases ns with
      | nil => rfl
      | cons x xs => simp at hnil
    subst hnil'
    rcases hx.slice_inv with ⟨rfl, _, rfl, hx'⟩ | ⟨b, o, sl, rfl, hsl', hx'⟩ | ⟨rfl, _, rfl, a', c', hx'⟩
    · refine done_same hr (run_v ?_) (VRel.flat rfl)
      rw [hx', run_convert_bytes_string w src dst e none 0 0 hund (isU8_t hu) (isStr_t hd)]
      rfl
    · exact fin _ _ hx' rfl
    · exact fin _ _ hx' rfl
  | false =>
    simp only [hb, ite2_f] at hq
    obtain ⟨p, hp, hq⟩ := ob_some hq
    obtain ⟨l, hcut, hq⟩ := ob_some hq
    obtain ⟨rfl, rfl⟩ := Prod.mk.inj (Option.some.inj hq)
    rcases hx.slc_inv hp with ⟨sl, hsl', hx'⟩ | ⟨rfl, _⟩
    · obtain ⟨s2, l', hs2, hlen', hrel, hcells⟩ := hr.cut hsl' hcut
      rw [hsl'] at hs2; obtain rfl := Option.some.inj hs2
      have hm1 : Nat.mul n 1 = n := Nat.mul_one n
      rw [hm1] at hlen' hcells
      have := hrel.of_scal hflat
      subst this
      exact fin _ _ hx' (run_loadCells w sl.blk (sl.shift + p.2) n _ hlen' hcells)
    · simp at hb

theorem opConvert_sound (hr : Rep P base w0 ρ m w) (he : EnvR P.globals.size ρ ρA ρC) {src dst : TypeId} {x : Operand} {o : Oper} {r : Value × Mem} (ho : o.op = .convert src dst x)
    (h : opConvert P src dst (ρA x) (execOp (tot ρA) o) m = some r) : Done P base w0 ρ r (execOp ρC o) w := by
  obtain ⟨v, hv, h⟩ := ob_some h
  have hex : execOp ρC o = (do pure (.value (← convert src dst (ρC x)))) := by unfold execOp; rw [ho]
  have gen : ∀ {v : Value}, ρA x = some v → flat v = true → ∀ {r}, with_ m (next? P (execOp (tot ρA) o)) = some r → Done P base w0 ρ r (execOp ρC o) w := by
    intro v hv hf r h
    obtain ⟨h1, h2⟩ := with_some h
    obtain ⟨u, m'⟩ := r
    simp only at h1 h2
    subst h2
    have e : execOp (tot ρA) o = execOp ρC o := by unfold execOp; rw [ho]; simp only [tot_flat he hv hf]
    rw [e] at h1
    exact done_gen hr h1
  have hrel := he _ _ hv
  cases v with
  | string s =>
    cases hd : elem? P dst with
    | none =>
      rw [hd] at h
      exact gen hv rfl h
    | some e =>
      rw [hd] at h
      simp only [op2_is] at h
      obtain ⟨d, hd', h⟩ := ob_some h
      rw [hex, hrel.str_inv]
      exact cvBytes_sound hr hd' hd h
  | slice a n c =>
    obtain ⟨e, hs, h⟩ := ob_some h
    obtain ⟨hd, h⟩ := bt_some h
    obtain ⟨h1, h2⟩ := with_some h
    obtain ⟨u, m'⟩ := r
    simp only at h1 h2
    subst h2
    rw [hex]
    exact cvString_sound hr hs hd h1 hrel
  | int k n =>
    obtain ⟨d, hd, h⟩ := ob_some h
    cases hi : int? P dst with
    | none =>
      rw [hi] at h
      exact gen hv rfl h
    | some k' =>
      rw [hi] at h
      obtain rfl := Option.some.inj h
      rw [hex, hrel.int_inv]
      refine done_same hr (run_v ?_) (VRel.flat rfl)
      obtain ⟨d', hd', hi⟩ := ob_some hi
      cases d' <;> first | (cases hi; done) | skip
      obtain rfl := Option.some.inj hi
      unfold convert
      rw [rb (run_und hd w), rb (run_und hd' w)]
      simp only
      rw [wrapA_eq]
      cases d <;> rfl
  | float k b =>
    obtain ⟨d, hd, h⟩ := ob_some h
    cases hi : int? P dst with
    | none =>
      rw [hi] at h
      exact gen hv rfl h
    | some k' =>
      rw [hi] at h
      obtain ⟨n, hn, h⟩ := ob_some (show ob (floatToIntVal k b k') (fun n => some (Value.int k' n, m)) = some r from h)
      obtain rfl := Option.some.inj h
      rw [hex, hrel.of_flat rfl]
      refine done_same hr (run_v ?_) (VRel.flat rfl)
      obtain ⟨d', hd', hi⟩ := ob_some hi
      cases d' <;> first | (cases hi; done) | skip
      obtain rfl := Option.some.inj hi
      exact run_convert_float_int w src dst k _ b n (by rw [hd]; rfl) hd' hn
  | _ =>
    obtain ⟨hf, h⟩ := bt_some h
    exact gen hv hf h
end
end Go.Am
namespace Go.Am
open Go.RowKit

theorem ltI_eq (a b : Int) : ltI a b = decide (a < b) := by
  cases a with
  | ofNat m => cases b with
    | ofNat n =>
      show Nat.blt m n = _
      cases h : Nat.blt m n with
      | true => exact (decide_eq_true (show (Int.ofNat m : Int) < Int.ofNat n from Int.ofNat_lt.2 (blt_t h))).symm
      | false =>
        refine (decide_eq_false ?_).symm
        intro hc
        have : m < n := Int.ofNat_lt.1 hc
        rw [show Nat.blt m n = true from Nat.ble_eq_true_of_le this] at h; cases h
    | negSucc n => exact (decide_eq_false (by intro h; have h' : (m : Int) < Int.negSucc n := h; omega)).symm
  | negSucc m => cases b with
    | ofNat n => exact (decide_eq_true (by show Int.negSucc m < (n : Int); omega)).symm
    | negSucc n =>
      show Nat.blt n m = _
      cases h : Nat.blt n m with
      | true => exact (decide_eq_true (by have := blt_t h; omega)).symm
      | false =>
        refine (decide_eq_false ?_).symm
        intro hc
        have : n < m := by omega
        rw [show Nat.blt n m = true from Nat.ble_eq_true_of_le this] at h; cases h
theorem eqI_eq (a b : Int) : eqI a b = (a == b) := by
  have hb : ∀ m n : Nat, Nat.beq m n = decide (m = n) := fun m n => by
    cases h : Nat.beq m n with
    | true => exact (decide_eq_true (beq_t h)).symm
    | false => exact (decide_eq_false (beq_f h)).symm
  cases a with
  | ofNat m => cases b with
    | ofNat n =>
      show Nat.beq m n = decide (Int.ofNat m = Int.ofNat n)
      rw [hb]
      exact decide_eq_decide.2 ⟨fun h => by rw [h], fun h => Int.ofNat.inj h⟩
    | negSucc n => rfl
  | negSucc m => cases b with
    | ofNat n => rfl
    | negSucc n =>
      show Nat.beq m n = decide (Int.negSucc m = Int.negSucc n)
      rw [hb]
      exact decide_eq_decide.2 ⟨fun h => by rw [h], fun h => Int.negSucc.inj h⟩

section
variable {P : Program} {base : Nat} {w : World} {w0 : Orig} {ρ : Rho} {m : Mem} {ρA : Operand → Option Value} {ρC : Operand → Value}

theorem eqI_ne {y : Int} (h : (!(eqI y 0)) = true) : y ≠ 0 := by
  rw [eqI_eq] at h
  intro e; subst e; cases h

theorem pow_cast (n : Nat) : ((2 : Int) ^ n) = Int.ofNat (Nat.pow 2 n) := by
  show (2 : Int) ^ n = ((2 ^ n : Nat) : Int)
  rw [Int.natCast_pow]; rfl

theorem int_run (op : BinOp) (t : TypeId) (k k' : IntKind) (a b : Int) (v : Value) (h : intOp op k a k' b = some v) : (binOp op t (.int k a) (.int k' b)).run P w = .ok v w := by
  have two : ∀ {x : Option Value} {s : Sem Value}, bt (ikEq k k') x = some v → (x = some v → s.run P w = .ok v w) → ((if k ≠ k' then stuck "BinOp: operands of different kinds" else s : Sem Value)).run P w = .ok v w := by
    intro x s h hs
    obtain ⟨hk, h⟩ := bt_some h
    rw [if_neg (by rw [ikEq_t hk]; simp)]
    exact hs h
  cases op with
  | add => exact two h fun h => by obtain rfl := Option.some.inj h; rw [wrapA_eq]; rfl
  | sub => exact two h fun h => by obtain rfl := Option.some.inj h; rw [wrapA_eq]; rfl
  | mul => exact two h fun h => by obtain rfl := Option.some.inj h; rw [wrapA_eq]; rfl
  | quo =>
    refine two (s := Op.intDiv .quo k a b) h fun h => ?_
    obtain ⟨hy, h⟩ := bt_some h
    obtain rfl := Option.some.inj h
    unfold Op.intDiv
    rw [if_neg (eqI_ne hy), wrapA_eq]; rfl
  | rem =>
    refine two (s := Op.intDiv .rem k a b) h fun h => ?_
    obtain ⟨hy, h⟩ := bt_some h
    obtain rfl := Option.some.inj h
    unfold Op.intDiv
    rw [if_neg (eqI_ne hy)]; rfl
  | and => exact two h fun h => by obtain rfl := Option.some.inj h; rw [wrapA_eq]; rfl
  | or => exact two h fun h => by obtain rfl := Option.some.inj h; rw [wrapA_eq]; rfl
  | xor => exact two h fun h => by obtain rfl := Option.some.inj h; rw [wrapA_eq]; rfl
  | andNot => exact two h fun h => by obtain rfl := Option.some.inj h; rw [wrapA_eq]; rfl
  | eql => exact two h fun h => by obtain rfl := Option.some.inj h; rw [eqI_eq]; rfl
  | neq => exact two h fun h => by obtain rfl := Option.some.inj h; unfold neI; rw [eqI_eq]; rfl
  | lss => exact two h fun h => by obtain rfl := Option.some.inj h; rw [ltI_eq]; rfl
  | leq =>
    refine two (s := pure (.bool (decide (a ≤ b)))) h fun h => ?_
    obtain rfl := Option.some.inj h
    unfold leI; rw [ltI_eq]
    have : decide (a ≤ b) = !decide (b < a) := by rw [← decide_not]; exact decide_eq_decide.2 (by omega)
    rw [this]; rfl
  | gtr => exact two h fun h => by obtain rfl := Option.some.inj h; unfold gtI; rw [ltI_eq]; rfl
  | geq =>
    refine two (s := pure (.bool (decide (a ≥ b)))) h fun h => ?_
    obtain rfl := Option.some.inj h
    unfold geI; rw [ltI_eq]
    have : decide (a ≥ b) = !decide (a < b) := by rw [← decide_not]; exact decide_eq_decide.2 (by omega)
    rw [this]; rfl
  | shl =>
    obtain ⟨n, hn, h⟩ := ob_some h
    obtain rfl := Option.some.inj h
    rw [nat_some hn, wrapA_eq]
    show (Op.shift .shl k a k' (n : Int)).run P w = _
    unfold Op.shift pow2
    rw [if_neg (by omega), Int.toNat_natCast]
    simp only
    rw [pow_cast]; rfl
  | shr =>
    obtain ⟨n, hn, h⟩ := ob_some h
    obtain rfl := Option.some.inj h
    rw [nat_some hn]
    show (Op.shift .shr k a k' (n : Int)).run P w = _
    unfold Op.shift pow2
    rw [if_neg (by omega), Int.toNat_natCast]
    simp only
    rw [pow_cast]; rfl

/-! ### strings -/
theorem nbeq (a b : UInt8) : Nat.beq a.toNat b.toNat = (a == b) := by
  cases h : Nat.beq a.toNat b.toNat with
  | true =>
    have : a = b := UInt8.toNat_inj.1 (beq_t h)
    rw [this]; simp
  | false =>
    have : a ≠ b := fun e => beq_f h (by rw [e])
    exact (beq_eq_false_iff_ne.2 this).symm
theorem nblt (a b : UInt8) : Nat.blt a.toNat b.toNat = decide (a < b) := by
  cases h : Nat.blt a.toNat b.toNat with
  | true => exact (decide_eq_true (UInt8.lt_iff_toNat_lt.2 (blt_t h))).symm
  | false =>
    refine (decide_eq_false ?_).symm
    intro hc
    rw [show Nat.blt a.toNat b.toNat = true from Nat.ble_eq_true_of_le (UInt8.lt_iff_toNat_lt.1 hc)] at h; cases h
theorem eqL_eq : ∀ a b : List UInt8, eqL a b = (a == b) := by
  intro a
  induction a with
  | nil => intro b; cases b <;> rfl
  | cons x a ih =>
    intro b
    cases b with
    | nil => rfl
    | cons y b =>
      show (Bool.rec false (eqL a b) (Nat.beq x.toNat y.toNat) : Bool) = _
      rw [nbeq, ih]
      show _ = ((x == y) && (a == b))
      cases (x == y) <;> rfl
theorem ltL_eq : ∀ a b : List UInt8, ltL a b = Op.bytesLess a b := by
  intro a
  induction a with
  | nil => intro b; cases b <;> rfl
  | cons x a ih =>
    intro b
    cases b with
    | nil => rfl
    | cons y b =>
      show (Bool.rec (Bool.rec false (ltL a b) (Nat.beq x.toNat y.toNat)) true (Nat.blt x.toNat y.toNat) : Bool) = _
      rw [nbeq, nblt, ih]
      show _ = (decide (x < y) || ((x == y) && Op.bytesLess a b))
      cases decide (x < y) <;> cases (x == y) <;> rfl
theorem catS_eq (a b : ByteArray) : catS a b = a ++ b := by
  apply ByteArray.ext
  apply Array.toList_inj.1
  simp [catS, strOf, strL]

theorem str_run (op : BinOp) (t : TypeId) (a b : ByteArray) (v : Value) (h : strOp op a b = some v) : (binOp op t (.string a) (.string b)).run P w = .ok v w := by
  have e1 : eqS a b = (a.toList == b.toList) := by unfold eqS strL; rw [eqL_eq, ByteArray.toList_eq, ByteArray.toList_eq]
  have e2 : ltS a b = Op.bytesLess a.toList b.toList := by unfold ltS strL; rw [ltL_eq, ByteArray.toList_eq, ByteArray.toList_eq]
  have hb : binOp op t (.string a) (.string b) = Op.stringOp op a b := by cases op <;> rfl
  rw [hb]
  cases op with
  | add =>
    obtain ⟨hle, h⟩ := bt_some (show bt (Nat.ble (Nat.add (lenS a) (lenS b)) 9223372036854775807) (some (.string (catS a b))) = some v from h)
    obtain rfl := Option.some.inj h
    have hle : lenS a + lenS b ≤ 9223372036854775807 := ble_t hle
    unfold Op.stringOp
    simp only
    rw [if_neg (by rw [size_len, size_len]; simp only [IntKind.max, IntKind.signed, IntKind.bits]; omega), catS_eq]; rfl
  | eql => obtain rfl := Option.some.inj h; rw [e1]; rfl
  | neq => obtain rfl := Option.some.inj h; unfold neS; rw [e1]; rfl
  | lss => obtain rfl := Option.some.inj h; rw [e2]; rfl
  | leq => obtain rfl := Option.some.inj h; unfold leS; rw [e1, e2]; rfl
  | gtr => obtain rfl := Option.some.inj h; unfold gtS; rw [e1, e2]; rfl
  | geq => obtain rfl := Option.some.inj h; unfold geS; rw [e2]; rfl
  | _ => cases h

theorem str_flat (op : BinOp) (a b : ByteArray) (v : Value) (h : strOp op a b = some v) : flat v = true := by
  cases op with
  | add =>
    obtain ⟨hle, h⟩ := bt_some (show bt (Nat.ble (Nat.add (lenS a) (lenS b)) 9223372036854775807) (some (.string (catS a b))) = some v from h)
    obtain rfl := Option.some.inj h; rfl
  | _ => first | (cases h; done) | (obtain rfl := Option.some.inj h; rfl)

/-! ### what may be nil -/
theorem eqA_run {e : TypeId} {n : Nat} (hn : size? P e = some n) (hn0 : n ≠ 0) {a b : Option Addr} {x' y' : Value} {r : Bool} (hx : VRel P.globals.size ρ (.pointer a) x') (hy : VRel P.globals.size ρ (.pointer b) y')
    (h : eqA a b = some r) {t : TypeId} (ht : P.underlying t = some (.pointer e)) : (Op.equal t x' y').run P w = .ok r w := by
  unfold Op.equal Op.maxDepth Op.equalIn
  rw [rb (run_und ht w)]
  cases b with
  | none =>
    obtain rfl := Option.some.inj h
    rw [hy.of_scal rfl]
    cases a with
    | none => rw [hx.of_scal rfl]; rfl
    | some a =>
      obtain ⟨b', hx'⟩ : ∃ b', x' = .pointer (some b') := by
        generalize hv : Value.pointer (some a) = v at hx
        cases hx <;> first | exact ⟨_, rfl⟩ | (subst hv; rename_i hs; cases hs) | (simp [Am.slc] at hv)
      rw [hx']; rfl
  | some b =>
    cases a with
    | none =>
      obtain rfl := Option.some.inj h
      obtain ⟨b', hy'⟩ : ∃ b', y' = .pointer (some b') := by
        generalize hv : Value.pointer (some b) = v at hy
        cases hy <;> first | exact ⟨_, rfl⟩ | (subst hv; rename_i hs; cases hs) | (simp [Am.slc] at hv)
      rw [hx.of_scal rfl, hy']; rfl
    | some a =>
      obtain ⟨p, hp, h⟩ := ob_some h
      obtain ⟨q, hq, h⟩ := ob_some h
      obtain ⟨hpq, h⟩ := bt_some h
      obtain rfl := Option.some.inj h
      obtain ⟨s, hs, hx'⟩ := hx.ptr_inv hp
      obtain ⟨s', hs', hy'⟩ := hy.ptr_inv hq
      rw [← beq_t hpq, hs] at hs'
      obtain rfl := Option.some.inj hs'
      rw [hx', hy']
      simp only
      rw [rb (run_size hn w), if_pos hn0]
      unfold sameAddr
      simp only [BEq.rfl, if_true]
      show Result.ok (decide ((⟨s.blk, s.shift + p.2, none⟩ : Addr) = ⟨s.blk, s.shift + q.2, none⟩)) w = _
      congr 1
      cases hb : Nat.beq p.2 q.2 with
      | true => rw [beq_t hb]; simp
      | false =>
        have := beq_f hb
        exact decide_eq_false (by simp; omega)

theorem VRel.map_inv {a : Option Nat} {v' : Value} (h : VRel P.globals.size ρ (.map a) v') : ∃ b, v' = .map b ∧ b.isNone = a.isNone := by
  generalize hv : Value.map a = v at h
  cases h with
  | scal v hs => subst hv; exact ⟨a, rfl, rfl⟩
  | map b s hs => obtain rfl := Value.map.inj hv; exact ⟨_, rfl, rfl⟩
  | _ => simp [Am.ptr, Am.slc] at hv
theorem VRel.slice_some {a : Option Addr} {n c : Nat} {v' : Value} (h : VRel P.globals.size ρ (.slice a n c) v') : ∃ a' n' c', v' = .slice a' n' c' ∧ a'.isNone = a.isNone := by
  rcases h.slice_inv with ⟨rfl, _, _, rfl⟩ | ⟨b, o, s, rfl, _, rfl⟩ | ⟨rfl, _, _, a', c', rfl⟩
  · exact ⟨_, _, _, rfl, rfl⟩
  · exact ⟨_, _, _, rfl, rfl⟩
  · exact ⟨_, _, _, rfl, rfl⟩

theorem asMap_some {v : Value} {p : Option Nat} (h : asMap? v = some p) : v = .map p := by
  cases v <;> first | (obtain rfl := Option.some.inj h; rfl) | (cases h)

theorem VRel.func_any {fn : Fn} {a b : Array Value} {v' : Value} (h : VRel P.globals.size ρ (.func fn a b) v') : ∃ a' b', v' = .func fn a' b' := by
  cases h with
  | scal _ hs => cases hs
  | func f a b a' b' => exact ⟨_, _, rfl⟩

theorem eqP_run {t : TypeId} {d : TypeDesc} (ht : P.underlying t = some d) {x y x' y' : Value} {r : Bool} (h : eqP P d x y = some r) (hx : VRel P.globals.size ρ x x') (hy : VRel P.globals.size ρ y y') :
    (Op.equal t x' y').run P w = .ok r w := by
  cases d with
  | pointer e =>
    obtain ⟨n, hn, h⟩ := ob_some h
    obtain ⟨hn0, h⟩ := bt_some h
    obtain ⟨a, ha, h⟩ := ob_some h
    obtain ⟨b, hb, h⟩ := ob_some h
    rw [asPtr_some ha] at hx
    rw [asPtr_some hb] at hy
    exact eqA_run hn (ne_of_not hn0) hx hy h ht
  | slice e =>
    obtain ⟨a, ha, h⟩ := ob_some h
    obtain ⟨b, hb, h⟩ := ob_some h
    rw [asSl_some ha] at hx
    rw [asSl_some hb] at hy
    obtain ⟨a', n', c', rfl, hA⟩ := hx.slice_some
    obtain ⟨b', n2, c2, rfl, hB⟩ := hy.slice_some
    unfold Op.equal Op.maxDepth Op.equalIn
    rw [rb (run_und ht w)]
    revert h hA hB
    generalize a.1 = u
    generalize b.1 = v
    intro h hA hB
    cases v with
    | none =>
      obtain rfl := Option.some.inj h
      cases b' with
      | some _ => cases hB
      | none => cases u <;> cases a' <;> first | rfl | (cases hA)
    | some v =>
      cases u with
      | some u => cases h
      | none =>
        obtain rfl := Option.some.inj h
        cases a' with
        | some _ => cases hA
        | none => cases b' with
          | none => cases hB
          | some _ => rfl
  | map ke ve =>
    obtain ⟨a, ha, h⟩ := ob_some h
    obtain ⟨b, hb, h⟩ := ob_some h
    rw [asMap_some ha] at hx
    rw [asMap_some hb] at hy
    obtain ⟨a', rfl, hA⟩ := hx.map_inv
    obtain ⟨b', rfl, hB⟩ := hy.map_inv
    unfold Op.equal Op.maxDepth Op.equalIn
    rw [rb (run_und ht w)]
    cases b with
    | none =>
      obtain rfl := Option.some.inj h
      cases b' with
      | some _ => cases hB
      | none => cases a <;> cases a' <;> first | rfl | (cases hA)
    | some v =>
      cases a with
      | some u => cases h
      | none =>
        obtain rfl := Option.some.inj h
        cases a' with
        | some _ => cases hA
        | none => cases b' with
          | none => cases hB
          | some _ => rfl
  | func ps rs vr =>
    unfold Op.equal Op.maxDepth Op.equalIn
    rw [rb (run_und ht w)]
    cases y <;> first | (cases h; done) | skip
    rw [hy.of_scal rfl]
    cases x <;> first | (cases h; done) | skip
    · obtain rfl := Option.some.inj h
      obtain ⟨a', b', rfl⟩ := hx.func_any
      rfl
    · obtain rfl := Option.some.inj h
      rw [hx.of_scal rfl]; rfl
  | interface ms =>
    unfold Op.equal Op.maxDepth Op.equalIn
    rw [rb (run_und ht w)]
    cases y <;> first | (cases h; done) | skip
    · cases x <;> first | (cases h; done) | skip
      obtain rfl := Option.some.inj h
      obtain ⟨u, rfl, _⟩ := hy.iface_inv
      rw [hx.of_scal rfl]; rfl
    · cases x <;> first | (cases h; done) | skip
      obtain rfl := Option.some.inj h
      obtain ⟨u, rfl, _⟩ := hx.iface_inv
      rw [hy.of_scal rfl]; rfl
  | _ => cases h

/-- values that may be nil. -/
def nn : Value → Bool
  | .pointer _ => true
  | .slice _ _ _ => true
  | .map _ => true
  | .func _ _ _ => true
  | .nilFunc => true
  | .iface _ _ => true
  | .nilIface => true
  | _ => false
def isNI : Value → Bool
  | .nilIface => true
  | _ => false

theorem nn_of {d : TypeDesc} {x y : Value} {r : Bool} (h : eqP P d x y = some r) : nn x = true ∧ nn y = true ∧ (isNI x && isNI y) = false := by
  cases d with
  | pointer e =>
    obtain ⟨n, hn, h⟩ := ob_some h
    obtain ⟨hn0, h⟩ := bt_some h
    obtain ⟨a, ha, h⟩ := ob_some h
    obtain ⟨b, hb, h⟩ := ob_some h
    rw [asPtr_some ha, asPtr_some hb]; exact ⟨rfl, rfl, rfl⟩
  | slice e =>
    obtain ⟨a, ha, h⟩ := ob_some h
    obtain ⟨b, hb, h⟩ := ob_some h
    rw [asSl_some ha, asSl_some hb]; exact ⟨rfl, rfl, rfl⟩
  | map ke ve =>
    obtain ⟨a, ha, h⟩ := ob_some h
    obtain ⟨b, hb, h⟩ := ob_some h
    rw [asMap_some ha, asMap_some hb]; exact ⟨rfl, rfl, rfl⟩
  | func ps rs vr =>
    cases y <;> first | (cases h; done) | skip
    cases x <;> first | (cases h; done) | exact ⟨rfl, rfl, rfl⟩
  | interface ms =>
    cases y <;> first | (cases h; done) | skip
    all_goals (cases x <;> first | (cases h; done) | exact ⟨rfl, rfl, rfl⟩)
  | _ => cases h
theorem nn_rel {x x' : Value} (h : VRel P.globals.size ρ x x') (hx : nn x = true) : nn x' = true ∧ isNI x' = isNI x := by
  cases h with
  | scal v _ => exact ⟨hx, rfl⟩
  | ghost => cases hx
  | agg => cases hx
  | tuple => cases hx
  | _ => exact ⟨rfl, rfl⟩

theorem guard_nn (op : BinOp) (t : TypeId) (a b : Operand) (x y : Value) (hx : nn x = true) (hy : nn y = true) (hn : (isNI x && isNI y) = false) : (eqGuard op t a b x y).run P w = .ok () w := by
  unfold eqGuard
  cases op <;> first | rfl | skip
  all_goals
    cases x <;> first | (cases hx; done) | rfl | skip
    cases y <;> first | (cases hy; done) | rfl | (cases hn)
theorem bin_eql (t : TypeId) (x y : Value) (hx : nn x = true) (hy : nn y = true) : binOp .eql t x y = (do pure (.bool (← Op.equal t x y))) := by
  cases x <;> first | (cases hx; done) | skip
  all_goals (cases y <;> first | (cases hy; done) | rfl)
theorem bin_neq (t : TypeId) (x y : Value) (hx : nn x = true) (hy : nn y = true) : binOp .neq t x y = (do pure (.bool (!(← Op.equal t x y)))) := by
  cases x <;> first | (cases hx; done) | skip
  all_goals (cases y <;> first | (cases hy; done) | rfl)

theorem guard_int (op : BinOp) (t : TypeId) (a b : Operand) (k k' : IntKind) (x y : Int) : (eqGuard op t a b (.int k x) (.int k' y)).run P w = .ok () w := by
  unfold eqGuard; cases op <;> rfl
theorem guard_str (op : BinOp) (t : TypeId) (a b : Operand) (x y : ByteArray) : (eqGuard op t a b (.string x) (.string y)).run P w = .ok () w := by
  unfold eqGuard; cases op <;> rfl

theorem scal_flat {v : Value} (h : scal v = true) : flat v = true := by
  cases v <;> first | exact h | cases h
theorem partA_flat {t : TypeId} {cs : List Value} {off : Nat} {v : Value} (h : partA P t cs off = some v) (hs : cs.all scal = true) : flat v = true := by
  obtain ⟨g, _, h⟩ := ob_some h
  obtain ⟨n, _, h⟩ := ob_some h
  cases g with
  | true =>
    obtain rfl := Option.some.inj (show some (aggOf ((cs.drop off).take n)) = some v from h)
    show ((cs.drop off).take n).all scal = true
    exact List.all_eq_true.2 fun x hx => List.all_eq_true.1 hs x (List.mem_of_mem_drop (List.mem_of_mem_take hx))
  | false => exact scal_flat (List.all_eq_true.1 hs v (List.mem_of_getElem? (show cs[off]? = some v from h)))
theorem flats_rel {nw : Nat} {ρ : Rho} {l : List Value} (h : l.all scal = true) : VRels nw ρ l l := by
  refine ⟨rfl, fun i v v' h1 h2 => ?_⟩
  rw [h1] at h2; obtain rfl := Option.some.inj h2
  exact .scal v (List.all_eq_true.1 h v (List.mem_of_getElem? h1))
theorem part_flat {t : TypeId} {cs : Array Value} {off : Nat} {v : Value} (h : partA P t cs.toList off = some v) (hs : cs.toList.all scal = true) (w : World) : (part t cs off).run P w = .ok v w := by
  obtain ⟨v', h1, h2⟩ := run_part (ρ := fun _ => none) h cs (flats_rel hs) w
  rw [h1, h2.of_flat (partA_flat h hs)]
theorem und_beq {a b : ByteArray} : eqS a b = (a == b) := by
  unfold eqS strL; rw [eqL_eq, beq_toListBytes, ByteArray.toList_eq, ByteArray.toList_eq]
theorem eqLeaf_run {t : TypeId} {d : TypeDesc} (hd : P.underlying t = some d) {x y : Value} {r : Bool} (h : eqLeaf d x y = some r) (D : Nat) (w : World) : (Op.equalIn (D + 1) t x y).run P w = .ok r w := by
  unfold Op.equalIn
  rw [rb (run_und hd w)]
  cases d <;> first | (cases h; done) | skip
  · cases x <;> first | (cases h; done) | skip
    cases y <;> first | (cases h; done) | skip
    obtain rfl := Option.some.inj h
    rename_i a b
    cases a <;> cases b <;> rfl
  · cases x <;> first | (cases h; done) | skip
    cases y <;> first | (cases h; done) | skip
    obtain ⟨hk, h⟩ := bt_some h
    obtain rfl := Option.some.inj h
    have hk' := ikEq_t hk
    subst hk'
    simp only [if_pos]
    rw [eqI_eq]; rfl
  · cases x <;> first | (cases h; done) | skip
    cases y <;> first | (cases h; done) | skip
    obtain rfl := Option.some.inj h
    rw [und_beq]; rfl
theorem eqFs_run {e : TypeId → Value → Value → Option Bool} {D : Nat} (he : ∀ t x y r, flat x = true → flat y = true → e t x y = some r → ∀ w, (Op.equalIn D t x y).run P w = .ok r w) {xs ys : Array Value} (hx : xs.toList.all scal = true) (hy : ys.toList.all scal = true) :
    ∀ (fs : List Field) (r : Bool), eqFs P e xs.toList ys.toList fs = some r → ∀ w, (Op.eqFields D xs ys fs).run P w = .ok r w := by
  intro fs
  induction fs with
  | nil => intro r h w; obtain rfl := Option.some.inj h; rfl
  | cons f fs ih =>
    intro r h w
    have h' : ite2 (f.name == "_") (eqFs P e xs.toList ys.toList fs) (ob (partA P f.type xs.toList f.offset) fun a => ob (partA P f.type ys.toList f.offset) fun b => ob (e f.type a b) fun r => ob (eqFs P e xs.toList ys.toList fs) fun s => some (r && s)) = some r := h
    unfold Op.eqFields
    cases hn : (f.name == "_") with
    | true =>
      rw [hn] at h'
      rw [if_neg (by simpa using hn)]
      exact ih r h' w
    | false =>
      rw [hn] at h'
      obtain ⟨a, ha, h'⟩ := ob_some h'
      obtain ⟨b, hb, h'⟩ := ob_some h'
      obtain ⟨q, hq, h'⟩ := ob_some h'
      obtain ⟨s, hs, h'⟩ := ob_some h'
      obtain rfl := Option.some.inj h'
      rw [if_pos (by simpa using hn), rb (part_flat ha hx w), rb (part_flat hb hy w), rb (he f.type a b q (partA_flat ha hx) (partA_flat hb hy) hq w)]
      cases q with
      | false => rfl
      | true => exact ih s hs w
theorem eqTy_run : ∀ (n : Nat) (t : TypeId) (x y : Value) (r : Bool), flat x = true → flat y = true → eqTy P n t x y = some r → ∀ (D : Nat), n ≤ D → ∀ w, (Op.equalIn D t x y).run P w = .ok r w := by
  intro n
  induction n with
  | zero => intro t x y r _ _ h; cases h
  | succ n ih =>
    intro t x y r hfx hfy h D hD w
    obtain ⟨d, hd, h⟩ := ob_some h
    obtain ⟨D, rfl⟩ : ∃ k, D = k + 1 := ⟨D - 1, by omega⟩
    cases d <;> first | exact eqLeaf_run hd h D w | skip
    rename_i fs
    cases x with
    | agg xs =>
      cases y with
      | agg ys =>
        obtain ⟨hp, h⟩ := bt_some (show bt (!(P.stoodInHeld t)) (eqFs P (eqTy P n) xs.toList ys.toList fs.toList) = some r from h)
        have hf : P.fieldsOf t = fs := by simp [Program.fieldsOf, hd]
        rw [run_equalIn_struct w D t xs ys (by rw [hf]; exact hd) (by simpa using hp), hf]
        exact eqFs_run (fun t x y r h1 h2 h3 w => ih t x y r h1 h2 h3 D (by omega) w) hfx hfy fs.toList r h w
      | _ => cases h
    | _ => cases h
theorem guard_agg (op : BinOp) (t : TypeId) (a b : Operand) (xs ys : Array Value) (h : P.eqGuardType P.depth t = false) : (eqGuard op t a b (.agg xs) (.agg ys)).run P w = .ok () w := by
  unfold eqGuard
  cases op <;> first | rfl | skip
  all_goals
    simp only [Bool.not_true, Bool.false_eq_true, if_false]
    simp [Sem.run_bind, run_program, h]

theorem agg_eq (hr : Rep P base w0 ρ m w) (he : EnvR P.globals.size ρ ρA ρC) {op : BinOp} {t yt : TypeId} {x y : Operand} {o : Oper} {u u2 v : Value} {r : Bool} (ho : o.op = .binOp op t x y yt)
    (hu : ρA x = some u) (hu2 : ρA y = some u2) (hg : eqAg P t u u2 = some r) (h : asEq op r = some v) : Done P base w0 ρ (v, m) (execOp ρC o) w := by
  have hex : execOp ρC o = (do pure (.value (← (do eqGuard op t x y (ρC x) (ρC y); binOp op t (ρC x) (ρC y))))) := by unfold execOp; rw [ho]
  have hx := he _ _ hu
  have hy := he _ _ hu2
  cases u with
  | agg xs =>
    cases u2 with
    | agg ys =>
      obtain ⟨hc, hg⟩ := bt_some (show bt (xs.toList.all scal && (ys.toList.all scal && !(P.eqGuardType P.depth t))) (eqTy P 4 t (.agg xs) (.agg ys)) = some r from hg)
      rw [Bool.and_eq_true, Bool.and_eq_true] at hc
      obtain ⟨hxs, hys, hgd⟩ := hc
      have hgd' : P.eqGuardType P.depth t = false := by simpa using hgd
      have heq : (Op.equal t (.agg xs) (.agg ys)).run P w = .ok r w := eqTy_run 4 t (.agg xs) (.agg ys) r hxs hys hg Op.maxDepth (by unfold Op.maxDepth; omega) w
      rw [hex, hx.of_flat hxs, hy.of_flat hys]
      cases op <;> first | (cases h; done) | skip
      · obtain rfl := Option.some.inj h
        refine done_same hr (run_v ?_) (VRel.flat rfl)
        rw [rb (guard_agg _ t x y _ _ hgd'), show binOp .eql t (.agg xs) (.agg ys) = (do pure (.bool (← Op.equal t (.agg xs) (.agg ys)))) from rfl, rb heq]; rfl
      · obtain rfl := Option.some.inj h
        refine done_same hr (run_v ?_) (VRel.flat rfl)
        rw [rb (guard_agg _ t x y _ _ hgd'), show binOp .neq t (.agg xs) (.agg ys) = (do pure (.bool (!(← Op.equal t (.agg xs) (.agg ys))))) from rfl, rb heq]; rfl
    | _ => cases hg
  | bool a =>
    cases u2 with
    | bool b =>
      have heq : (Op.equal t (.bool a) (.bool b)).run P w = .ok r w := eqTy_run 1 t (.bool a) (.bool b) r rfl rfl hg Op.maxDepth (by unfold Op.maxDepth; omega) w
      rw [hex, hx.of_flat rfl, hy.of_flat rfl]
      have hgd : ∀ op : BinOp, (eqGuard op t x y (.bool a) (.bool b)).run P w = .ok () w := by intro op; unfold eqGuard; cases op <;> rfl
      cases op <;> first | (cases h; done) | skip
      · obtain rfl := Option.some.inj h
        refine done_same hr (run_v ?_) (VRel.flat rfl)
        rw [rb (hgd _), show binOp .eql t (.bool a) (.bool b) = (do pure (.bool (← Op.equal t (.bool a) (.bool b)))) from rfl, rb heq]; rfl
      · obtain rfl := Option.some.inj h
        refine done_same hr (run_v ?_) (VRel.flat rfl)
        rw [rb (hgd _), show binOp .neq t (.bool a) (.bool b) = (do pure (.bool (!(← Op.equal t (.bool a) (.bool b))))) from rfl, rb heq]; rfl
    | _ => cases hg
  | _ => cases hg
theorem opBin_sound (hr : Rep P base w0 ρ m w) (he : EnvR P.globals.size ρ ρA ρC) {op : BinOp} {t yt : TypeId} {x y : Operand} {o : Oper} {v : Value} (ho : o.op = .binOp op t x y yt)
    (h : opBin op t (ρA x) (ρA y) P (execOp (tot ρA) o) = some v) : Done P base w0 ρ (v, m) (execOp ρC o) w := by
  obtain ⟨u, hu, h⟩ := ob_some h
  obtain ⟨u2, hu2, h⟩ := ob_some h
  have hex : execOp ρC o = (do pure (.value (← (do eqGuard op t x y (ρC x) (ρC y); binOp op t (ρC x) (ρC y))))) := by unfold execOp; rw [ho]
  have hx := he _ _ hu
  have hy := he _ _ hu2
  have other : ∀ {v}, binO op t u u2 P (execOp (tot ρA) o) = some v → Done P base w0 ρ (v, m) (execOp ρC o) w := by
    intro v h
    unfold binO at h
    cases hq : ob (P.underlying t) fun d => eqP P d u u2 with
    | none =>
      rw [hq] at h
      cases hg : eqAg P t u u2 with
      | some r =>
        replace h : asEq op r = some v := by
          have h1 : op2 (eqAg P t u u2) (bt (flat u && flat u2) (next? P (execOp (tot ρA) o))) (asEq op) = some v := h
          rw [hg] at h1; exact h1
        exact agg_eq hr he ho hu hu2 hg h
      | none =>
      replace h : bt (flat u && flat u2) (next? P (execOp (tot ρA) o)) = some v := by
        have h1 : op2 (eqAg P t u u2) (bt (flat u && flat u2) (next? P (execOp (tot ρA) o))) (asEq op) = some v := h
        rw [hg] at h1; exact h1
      obtain ⟨hf, h⟩ := bt_some h
      rw [Bool.and_eq_true] at hf
      have e : execOp (tot ρA) o = execOp ρC o := by unfold execOp; rw [ho]; simp only [tot_flat he hu hf.1, tot_flat he hu2 hf.2]
      rw [e] at h
      exact done_gen hr h
    | some r =>
      rw [hq] at h
      simp only [op2_is] at h
      obtain ⟨d, hd, hq⟩ := ob_some hq
      obtain ⟨n1, n2, n3⟩ := nn_of hq
      obtain ⟨c1, c1'⟩ := nn_rel hx n1
      obtain ⟨c2, c2'⟩ := nn_rel hy n2
      have heq := eqP_run (w := w) hd hq hx hy
      rw [hex]
      cases op <;> first | (cases h; done) | skip
      · obtain rfl := Option.some.inj h
        refine done_same hr (run_v ?_) (VRel.flat rfl)
        rw [rb (guard_nn _ t x y _ _ c1 c2 (by rw [c1', c2']; exact n3)), bin_eql t _ _ c1 c2, rb heq]; rfl
      · obtain rfl := Option.some.inj h
        refine done_same hr (run_v ?_) (VRel.flat rfl)
        rw [rb (guard_nn _ t x y _ _ c1 c2 (by rw [c1', c2']; exact n3)), bin_neq t _ _ c1 c2, rb heq]; rfl
  cases u with
  | int k a =>
    obtain ⟨q, hq, h⟩ := ob_some h
    rw [asInt_some hq] at hy
    rw [hex, hx.int_inv, hy.int_inv]
    have hrun := int_run (P := P) (w := w) op t k q.1 a q.2 v h
    refine done_same (v' := v) hr (run_v ?_) ?_
    · rw [rb (guard_int op t x y k q.1 a q.2)]; exact hrun
    · cases op <;> first
        | (obtain ⟨_, h⟩ := bt_some h; obtain rfl := Option.some.inj h; exact VRel.flat rfl)
        | (obtain ⟨_, h⟩ := bt_some h; obtain ⟨_, h⟩ := bt_some h; obtain rfl := Option.some.inj h; exact VRel.flat rfl)
        | (obtain ⟨_, _, h⟩ := ob_some h; obtain rfl := Option.some.inj h; exact VRel.flat rfl)
  | float k a =>
    cases u2 with
    | float k' b =>
      cases hc : (isCmp op && fkEq k k') with
      | false =>
        have h1 : (Bool.rec (binO op t (.float k a) (.float k' b) P (execOp (tot ρA) o)) (some (.bool (fcmpB op k a b))) (isCmp op && fkEq k k') : Option Value) = some v := h
        rw [hc] at h1; exact other h1
      | true =>
        have h1 : (Bool.rec (binO op t (.float k a) (.float k' b) P (execOp (tot ρA) o)) (some (.bool (fcmpB op k a b))) (isCmp op && fkEq k k') : Option Value) = some v := h
        rw [hc] at h1
        obtain rfl := Option.some.inj h1
        rw [Bool.and_eq_true] at hc
        have hk : k = k' := by cases k <;> cases k' <;> first | rfl | (exact absurd hc.2 (by decide))
        subst hk
        rw [hex, hx.of_flat rfl, hy.of_flat rfl]
        refine done_same hr (run_v ?_) (VRel.flat rfl)
        have hgd : (eqGuard op t x y (.float k a) (.float k b)).run P w = .ok () w := by unfold eqGuard; cases op <;> rfl
        rw [rb hgd]
        have hc1 := hc.1
        cases op <;> first | (exact absurd hc1 (by decide)) | (cases k <;> rfl)
    | _ => exact other h
  | string a =>
    obtain ⟨b, hb, h⟩ := ob_some h
    rw [asStr_some hb] at hy
    rw [hex, hx.str_inv, hy.str_inv]
    have hrun := str_run (P := P) (w := w) op t a b v h
    refine done_same (v' := v) hr (run_v ?_) ?_
    · rw [rb (guard_str op t x y a b)]; exact hrun
    · exact VRel.flat (str_flat op a b v h)
  | _ => exact other h

theorem unGen_sound (hr : Rep P base w0 ρ m w) (he : EnvR P.globals.size ρ ρA ρC) {op : UnOp} {t : TypeId} {x : Operand} {o : Oper} {v : Value} (ho : o.op = .unOp op t x)
    (h : unGen P (ρA x) (execOp (tot ρA) o) = some v) : Done P base w0 ρ (v, m) (execOp ρC o) w := by
  obtain ⟨u, hu, h⟩ := ob_some h
  obtain ⟨hf, h⟩ := bt_some h
  have e : execOp (tot ρA) o = execOp ρC o := by unfold execOp; rw [ho]; simp only [tot_flat he hu hf]
  rw [e] at h
  exact done_gen hr h

theorem opNilCheck_sound (hr : Rep P base w0 ρ m w) (he : EnvR P.globals.size ρ ρA ρC) {x : Operand} {o : Oper} {v : Value} (ho : o.op = .nilCheck x)
    (h : opNilCheck (ρA x) = some v) : Done P base w0 ρ (v, m) (execOp ρC o) w := by
  obtain ⟨u, hu, h⟩ := ob_some h
  have hrel := he _ _ hu
  cases u with
  | pointer a =>
    obtain ⟨p, hp, h⟩ := ob_some h
    obtain rfl := Option.some.inj h
    obtain ⟨s, hs, hc⟩ := hrel.ptr_inv hp
    refine done_same hr ?_ (VRel.ptr p.1 p.2 s hs)
    unfold execOp; rw [ho]; simp only [hc]; rfl
  | iface t u =>
    obtain rfl := Option.some.inj h
    obtain ⟨u', hc, hu'⟩ := hrel.iface_inv
    refine done_same hr ?_ (.iface t u u' hu')
    unfold execOp; rw [ho]; simp only [hc]; rfl
  | func fn a b =>
    cases fn with
    | func f =>
      obtain rfl := Option.some.inj h
      obtain ⟨a', b', hc, ha, hb⟩ := hrel.func_inv
      refine done_same hr ?_ (.func f a b a' b' ha.len hb.len ha.at_ hb.at_)
      unfold execOp; rw [ho]; simp only [hc]; rfl
    | _ => cases h
  | _ => cases h

theorem opPick_sound (hr : Rep P base w0 ρ m w) (he : EnvR P.globals.size ρ ρA ρC) {c a b : Operand} {o : Oper} {v : Value} (ho : o.op = .pick c a b)
    (h : opPick (ρA c) (ρA a) (ρA b) = some v) : Done P base w0 ρ (v, m) (execOp ρC o) w := by
  obtain ⟨u, hu, h⟩ := ob_some h
  obtain ⟨t, ht, h⟩ := ob_some h
  rw [asBool_some ht] at hu
  have hc := (he _ _ hu).bool_inv
  cases t with
  | true =>
    refine done_same hr ?_ (he a v h)
    unfold execOp; rw [ho]; simp only [hc]; rfl
  | false =>
    refine done_same hr ?_ (he b v h)
    unfold execOp; rw [ho]; simp only [hc]; rfl

theorem opExtract_sound (hr : Rep P base w0 ρ m w) (he : EnvR P.globals.size ρ ρA ρC) {x : Operand} {i : Nat} {v : Value}
    (h : opExtract (ρA x) i = some v) : Done P base w0 ρ (v, m) (do pure (.value (← Instr.extract (ρC x) i))) w := by
  obtain ⟨u, hu, h⟩ := ob_some h
  obtain ⟨l, hl, h⟩ := ob_some h
  obtain ⟨cs, rfl, rfl⟩ := asTup_some hl
  obtain ⟨a', hc, hrel⟩ := (he _ _ hu).tuple_inv
  obtain ⟨v', hv', hvr⟩ := hrel.get h
  refine done_same hr (run_v ?_) hvr
  rw [hc]
  unfold Instr.extract
  have : a'[i]? = some v' := by simpa using hv'
  simp only [this]; rfl

theorem opIface_sound (hr : Rep P base w0 ρ m w) (he : EnvR P.globals.size ρ ρA ρC) {t : TypeId} {x : Operand} {v : Value}
    (h : opIface P t (ρA x) = some v) : Done P base w0 ρ (v, m) (do pure (.value (← Instr.makeInterface t (ρC x)))) w := by
  obtain ⟨d, hd, h⟩ := ob_some h
  obtain ⟨hf, h⟩ := bt_some h
  obtain ⟨u, hu, h⟩ := ob_some h
  obtain rfl := Option.some.inj h
  refine done_same hr (run_v ?_) (.iface t u (ρC x) (he _ _ hu))
  unfold Instr.makeInterface
  rw [rb (run_und hd w)]
  cases d <;> first | rfl | (cases hf)

theorem all_rel (he : EnvR P.globals.size ρ ρA ρC) : ∀ (l : List Operand) (vs : List Value), all? (l.map ρA) = some vs → VRels P.globals.size ρ vs (l.map ρC) := by
  intro l
  induction l with
  | nil => intro vs h; obtain rfl : [] = vs := Option.some.inj h; exact VRels.nil
  | cons x l ih =>
    intro vs h
    obtain ⟨v, hv, h⟩ := ob_some h
    obtain ⟨r, hr, h⟩ := ob_some h
    obtain rfl := Option.some.inj h
    exact (ih r hr).cons (he _ _ hv)

theorem opFunc_sound (hr : Rep P base w0 ρ m w) (he : EnvR P.globals.size ρ ρA ρC) {fn : Fn} {first captured : Array Operand} {v : Value}
    (h : opFunc fn (first.toList.map ρA) (captured.toList.map ρA) = some v) : Done P base w0 ρ (v, m) (do pure (.value (← Instr.makeFunc fn (first.map ρC) (captured.map ρC)))) w := by
  cases fn with
  | func f =>
    obtain ⟨a, ha, h⟩ := ob_some h
    obtain ⟨b, hb, h⟩ := ob_some h
    obtain rfl := Option.some.inj h
    have hA := all_rel he _ _ ha
    have hB := all_rel he _ _ hb
    refine done_same hr (run_v rfl) (.func f _ _ _ _ ?_ ?_ ?_ ?_)
    · simpa using hA.len
    · simpa using hB.len
    · simpa using hA.at_
    · simpa using hB.at_
  | _ => cases h
end
end Go.Am
namespace Go.Am
open Go.RowKit
section
variable {P : Program} {base : Nat} {w : World} {w0 : Orig} {ρ : Rho} {m : Mem} {ρA : Operand → Option Value} {ρC : Operand → Value}

theorem opRange_sound (hr : Rep P base w0 ρ m w) (he : EnvR P.globals.size ρ ρA ρC) {t : TypeId} {x : Operand} {r : Value × Mem}
    (h : opRange P t (ρA x) m = some r) : Done P base w0 ρ r (do pure (.value (← Instr.range t (ρC x)))) w := by
  obtain ⟨ht, h⟩ := bt_some h
  obtain ⟨u, hu, h⟩ := ob_some h
  obtain ⟨s, hs, h⟩ := ob_some h
  obtain rfl := Option.some.inj h
  rw [asStr_some hs] at hu
  have hrep := hr.new (.stringIter s 0) (.sit s 0) ⟨w.heap.size, 0, 0, undef⟩ rfl ⟨by show (w.heap.push _)[w.heap.size]? = _; exact Array.getElem?_push_size, hr.size, rfl⟩
  refine ⟨_, _, _, _, run_v ?_, .inl rfl, hr.le_new _, VRel.ptr m.nx 0 _ (Rho.set_same _ _ _), hrep⟩
  unfold Instr.range
  rw [rb (run_und (isStr_t ht) w), (he _ _ hu).str_inv]
  rfl

theorem sit_some {k : Blk} {q : ByteArray × Nat} (h : sitOf k = some q) : k = .sit q.1 q.2 := by
  cases k <;> first | (obtain rfl := Option.some.inj h; rfl) | (cases h)

theorem opNext_sound (hr : Rep P base w0 ρ m w) (he : EnvR P.globals.size ρ ρA ρC) {ty : TypeId} {s : Bool} {x : Operand} {r : Value × Mem}
    (h : opNext (ρA x) s m = some r) : Done P base w0 ρ r (do pure (.value (← Instr.next (ρC x) s ty))) w := by
  obtain ⟨rfl, h⟩ := bt_some h
  obtain ⟨p, hp, h⟩ := ob_some h
  obtain ⟨h0, h⟩ := bt_some h
  obtain ⟨k, hk, h⟩ := ob_some h
  obtain ⟨q, hq, h⟩ := ob_some h
  obtain rfl := Option.some.inj h
  obtain ⟨sl, hsl, hc⟩ := at_rel he hp
  rw [sit_some hq] at hk
  obtain ⟨hlt, hheap, hbase, hshift⟩ := hr.dom _ _ _ hk (by simp) hsl
  have hc' : ρC x = .pointer (some ⟨sl.blk, 0, none⟩) := by rw [hc, hshift, beq_t h0]
  have hget : (getObj sl.blk).run P w = .ok (.stringIter q.1 q.2) w := by
    unfold getObj
    simp only [Sem.run, hheap]
  unfold sitNext
  cases hb : Nat.blt q.2 (lenS q.1) with
  | true =>
    have hlt' : q.2 < q.1.size := by rw [size_len]; exact blt_t hb
    have hrep := hr.putObj (k' := .sit q.1 (q.2 + (Utf8.decode q.1 q.2).2)) hk rfl rfl hsl hbase rfl (.stringIter q.1 (q.2 + (Utf8.decode q.1 q.2).2))
      ⟨by show (w.heap.setIfInBounds sl.blk _)[sl.blk]? = _; rw [Array.getElem?_setIfInBounds_self_of_lt hlt], hbase, hshift⟩
    have hset : (setObj sl.blk (.stringIter q.1 (q.2 + (Utf8.decode q.1 q.2).2))).run P w = .ok () { w with heap := w.heap.setIfInBounds sl.blk (.stringIter q.1 (q.2 + (Utf8.decode q.1 q.2).2)) } := by
      unfold setObj
      simp only [Sem.run, hheap]
    refine ⟨_, _, _, ρ, run_v ?_, .inl rfl, Rho.le_refl ρ, VRel.flat rfl, hrep⟩
    unfold Instr.next
    rw [hc']
    simp only
    rw [rb hget]
    simp only
    rw [if_pos hlt', rb hset]
    rfl
  | false =>
    have hge : ¬ q.2 < q.1.size := by
      rw [size_len]
      intro hlt'
      rw [show Nat.blt q.2 (lenS q.1) = true from Nat.ble_eq_true_of_le hlt'] at hb; cases hb
    refine done_same hr (run_v ?_) (VRel.flat rfl)
    unfold Instr.next
    rw [hc']
    simp only
    rw [rb hget]
    simp only
    rw [if_neg hge]
    rfl

/-- an operation that calls nothing. -/
theorem opT_sound (hr : Rep P base w0 ρ m w) (he : EnvR P.globals.size ρ ρA ρC) {o : Oper} {r : Value × Mem} (h : opT o.op P o ρA m = some r) : Done P base w0 ρ r (execOp ρC o) w := by
  have wi : ∀ {v : Option Value} {s : Sem Next}, with_ m v = some r → (∀ u, v = some u → Done P base w0 ρ (u, m) s w) → Done P base w0 ρ r s w := by
    intro v s h hs
    obtain ⟨h1, h2⟩ := with_some h
    obtain ⟨u, m'⟩ := r
    simp only at h1 h2
    subst h2
    exact hs u h1
  cases ho : o.op <;> rw [ho] at h
  case move x => exact wi h fun u hu => done_same hr (by unfold execOp; rw [ho]; rfl) (he _ _ hu)
  case assign x => exact wi h fun u hu => done_same hr (by unfold execOp; rw [ho]; rfl) (he _ _ hu)
  case pick c a b => exact wi h fun u hu => opPick_sound hr he ho hu
  case alloc t => have := opAlloc_sound hr h; unfold execOp; rw [ho]; exact this
  case box t x => have := opBox_sound (t := t) hr he h; unfold execOp; rw [ho]; exact this
  case build t ps => exact wi h fun u hu => by have := opBuild_sound hr he hu; unfold execOp; rw [ho]; exact this
  case buildSlice t len ps => have := opBuildSlice_sound hr he h; unfold execOp; rw [ho]; exact this
  case load t a => have := opLoad_sound hr he h; unfold execOp; rw [ho]; exact this
  case store t a x => have := opStore_sound hr he h; unfold execOp; rw [ho]; exact this
  case nilCheck x => exact wi h fun u hu => opNilCheck_sound hr he ho hu
  case binOp op t x y yt => exact wi h fun u hu => opBin_sound hr he ho hu
  case unOp op t x => exact wi h fun u hu => unGen_sound hr he ho hu
  case convert src dst x => exact opConvert_sound hr he ho h
  case makeInterface t x => exact wi h fun u hu => by have := opIface_sound hr he hu; unfold execOp; rw [ho]; exact this
  case makeFunc fn a b => exact wi h fun u hu => by have := opFunc_sound hr he hu; unfold execOp; rw [ho]; exact this
  case makeSlice t l c => have := opMakeSlice_sound hr he h; unfold execOp; rw [ho]; exact this
  case slice t x lo hi mx => exact wi h fun u hu => by have := opSlice_sound hr he hu; unfold execOp; rw [ho]; exact this
  case fieldAddr t x f => exact wi h fun u hu => by have := opFieldAddr_sound hr he hu; unfold execOp; rw [ho]; exact this
  case field t x f => exact wi h fun u hu => by have := opField_sound hr he hu; unfold execOp; rw [ho]; exact this
  case indexAddr t x i => exact wi h fun u hu => by have := opIndexAddr_sound hr he hu; unfold execOp; rw [ho]; exact this
  case index t x i => exact wi h fun u hu => by have := opIndex_sound hr he hu; unfold execOp; rw [ho]; exact this
  case range t x => have := opRange_sound hr he h; unfold execOp; rw [ho]; exact this
  case next x s => have := opNext_sound (ty := o.type) hr he h; unfold execOp; rw [ho]; exact this
  case extract x i => exact wi h fun u hu => by have := opExtract_sound hr he hu; unfold execOp; rw [ho]; exact this
  all_goals (cases h)
end
end Go.Am
namespace Go.Am
open Go.RowKit

/-! ### frames -/
structure FRel (nw : Nat) (ρ : Rho) (msk : FI) (n : Nat) (st : St) (a : Act) : Prop where
  size : a.tmps.size = n
  defers : a.defers = []
  tmps : ∀ t v, tmpA msk st.lv st.tp t = some v → t < n ∧ VRel nw ρ v (a.tmps.getD t undef)

section
variable {P : Program} {base : Nat} {w : World} {w0 : Orig} {ρ ρ' : Rho} {m : Mem} {msk : FI} {n : Nat} {st : St} {a : Act}

theorem FRel.mono (h : FRel P.globals.size ρ msk n st a) (hr : Rho.le ρ ρ') : FRel P.globals.size ρ' msk n st a :=
  ⟨h.size, h.defers, fun t v ht => let ⟨x, y⟩ := h.tmps t v ht; ⟨x, y.mono hr⟩⟩

theorem FRel.env (h : FRel P.globals.size ρ msk n st a) (hr : Rep P base w0 ρ m w) : EnvR P.globals.size ρ (ev P msk st) a.eval := by
  intro x v hv
  cases x with
  | tmp t => exact (h.tmps t v hv).2
  | const c =>
    obtain ⟨hf, hv⟩ := bt_some hv
    obtain rfl := Option.some.inj hv
    exact VRel.flat hf
  | global g =>
    obtain ⟨hg, hv⟩ := bt_some hv
    obtain rfl := Option.some.inj hv
    exact VRel.ptr g 0 _ (hr.glob.1 g (blt_t hg))
  | func f =>
    obtain rfl := Option.some.inj hv
    exact .func f _ _ _ _ rfl rfl (fun i v v' h => by simp at h) (fun i v v' h => by simp at h)

theorem al_cons {l : Al} {d t : Nat} {v u : Value} (h : Al.get ((d, v) :: l) t = some u) : (t = d ∧ u = v) ∨ (t ≠ d ∧ l.get t = some u) := by
  have h' : ite2 (Nat.beq d t) (some v) (l.get t) = some u := h
  cases hb : Nat.beq d t with
  | true => rw [hb] at h'; exact .inl ⟨(beq_t hb).symm, (Option.some.inj h').symm⟩
  | false => rw [hb] at h'; exact .inr ⟨fun e => beq_f hb e.symm, h'⟩
theorem tmpA_put (d : Nat) (v : Value) (m : Mem) {t : Nat} {u : Value} (h : tmpA msk (putA msk st (some d) v m).lv (putA msk st (some d) v m).tp t = some u) : (t = d ∧ u = v) ∨ (t ≠ d ∧ tmpA msk st.lv st.tp t = some u) := by
  unfold putA at h
  simp only [op2_is] at h
  unfold tmpA at h ⊢
  cases hd : kept msk d with
  | true =>
    rw [hd] at h
    cases ht : kept msk t with
    | true =>
      rw [ht] at h
      exact Tr.get_set v dep st.lv d t u h
    | false =>
      rw [ht] at h
      exact .inr ⟨fun e => (by rw [e, hd] at ht; cases ht), h⟩
  | false =>
    rw [hd] at h
    cases ht : kept msk t with
    | true =>
      rw [ht] at h
      exact .inr ⟨fun e => (by rw [e, hd] at ht; cases ht), h⟩
    | false =>
      rw [ht] at h
      exact al_cons h

theorem FRel.put (h : FRel P.globals.size ρ msk n st a) {d : Option Tmp} (hd : ∀ x, d = some x → x < n) {v v' : Value} (hv : VRel P.globals.size ρ v v') (m : Mem) : FRel P.globals.size ρ msk n (putA msk st d v m) (a.put d v') := by
  cases d with
  | none => exact ⟨h.size, h.defers, h.tmps⟩
  | some d =>
    have hdn := hd d rfl
    refine ⟨by simp [Act.put, h.size], h.defers, fun t u ht => ?_⟩
    rcases tmpA_put d v m ht with ⟨rfl, rfl⟩ | ⟨hne, ht⟩
    · refine ⟨hdn, ?_⟩
      show VRel _ _ _ ((a.tmps.setIfInBounds t v').getD t undef)
      have : (a.tmps.setIfInBounds t v').getD t undef = v' := by simp [Array.getD, h.size, hdn]
      rw [this]; exact hv
    · obtain ⟨h1, h2⟩ := h.tmps t u ht
      refine ⟨h1, ?_⟩
      show VRel _ _ _ ((a.tmps.setIfInBounds d v').getD t undef)
      have : (a.tmps.setIfInBounds d v').getD t undef = a.tmps.getD t undef := by
        simp [Array.getD, h.size, h1, Ne.symm hne]
      rw [this]; exact h2

theorem put_mem (msk : FI) (st : St) (d : Option Tmp) (v : Value) (m : Mem) : (putA msk st d v m).mem = m := by
  cases d with
  | none => rfl
  | some d =>
    unfold putA
    simp only [op2_is]
    cases kept msk d <;> rfl

theorem clean_frel (h : FRel P.globals.size ρ msk n st a) : FRel P.globals.size ρ msk n st.clean a := by
  refine ⟨h.size, h.defers, fun t v ht => h.tmps t v ?_⟩
  unfold tmpA at ht ⊢
  cases hk : kept msk t with
  | true => rw [hk] at ht; exact ht
  | false => rw [hk] at ht; cases ht

/-! ### calls -/
/-- what a call's end is. -/
def Ret (P : Program) (base : Nat) (w0 : Orig) (ρ : Rho) (r : Value × Mem) (v' : Value) (w' : World) : Prop :=
  ∃ ρ', Rho.le ρ ρ' ∧ VRel P.globals.size ρ' r.1 v' ∧ Rep P base w0 ρ' r.2 w'

def CallR (P : Program) (f : FuncId) (args : Array Value) (w : World) (R : Value → World → Prop) : Prop :=
  (∃ v' w', (callFunc f args).run P w = .ok (.value v') w' ∧ R v' w') ∨
  ((callFunc f args).run P w = .ok (.enter f args) w ∧ Calls P f args w fun e w' => ∃ v', e = .returned v' ∧ R v' w')

def CallOk (P : Program) (base : Nat) (w0 : Orig) (call : CallF) : Prop :=
  ∀ f args m r ρ w args', call f args m = some r → Rep P base w0 ρ m w → VRels P.globals.size ρ args args'.toList → CallR P f args' w (Ret P base w0 ρ r)

variable {call : CallF} {o : Oper} {r : Value × Mem} {next : Act → World → Prop} {Q : Exit → Act → World → Prop}

theorem wp_done (h : Done P base w0 ρ r (execOp a.eval o) w) (hK : ∀ v' w', Ret P base w0 ρ r v' w' → next (a.put o.dst v') w') : o.wp P a w next Q := by
  obtain ⟨nx, w', v', ρ', hrun, hnx, hle, hv, hr⟩ := h
  unfold Oper.wp
  rw [hrun]
  rcases hnx with rfl | ⟨rfl, rfl⟩
  · exact hK v' w' ⟨ρ', hle, hv, hr⟩
  · exact hK undef w' ⟨ρ', hle, hv, hr⟩

theorem asFunc_some {v : Value} {p : FuncId × List Value × List Value} (h : asFunc? v = some p) : v = .func (.func p.1) ⟨p.2.1⟩ ⟨p.2.2⟩ := by
  cases v with
  | func fn a b => cases fn <;> first | (obtain rfl := Option.some.inj h; rfl) | (cases h)
  | _ => cases h

theorem arg1_some {α : Type} {l : List α} {p : α} (h : arg1 l = some p) : l = [p] := by
  match l, h with
  | [a], h => obtain rfl := Option.some.inj h; rfl

theorem map_two {l : List Operand} {f : Operand → Option Value} {x y : Option Value} (h : l.map f = [x, y]) : ∃ p q, l = [p, q] ∧ f p = x ∧ f q = y := by
  match l, h with
  | [p, q], h => simp at h; exact ⟨p, q, rfl, h.1, h.2⟩
theorem map_one {l : List Operand} {f : Operand → Option Value} {x : Option Value} (h : l.map f = [x]) : ∃ p, l = [p] ∧ f p = x := by
  match l, h with
  | [p], h => simp at h; exact ⟨p, rfl, h⟩

theorem array_two {α : Type} {l : Array α} {x y : α} (h : l.toList = [x, y]) : l = #[x, y] := by
  apply Array.toList_inj.1; rw [h]
theorem array_one {α : Type} {l : Array α} {x : α} (h : l.toList = [x]) : l = #[x] := by
  apply Array.toList_inj.1; rw [h]

theorem exec_call {c : Call} (ho : o.op = .call c) (ρC : Operand → Value) : execOp ρC o = (do let d ← resolve ρC c o.type; invoke d.target d.args) := by unfold execOp; rw [ho]

theorem exec_builtin {c : Call} {b : Builtin} (ho : o.op = .call c) (hc : c.callee = .builtin b) (ρC : Operand → Value) :
    execOp ρC o = builtin b c.argTypes o.type (c.args.map fun | .const _ => true | _ => false) (c.args.map ρC) := by
  rw [exec_call ho]
  unfold resolve
  rw [hc]
  rfl

theorem opLen_run {t : TypeId} {x x' v : Value} (h : opLen P t (some x) = some v) (hx : VRel P.globals.size ρ x x') (ty : TypeId) (w : World) : (Builtin.len_ #[t] ty #[x']).run P w = .ok v w ∧ flat v = true := by
  obtain ⟨d, hd, h⟩ := ob_some h
  obtain ⟨u, hu, h⟩ := ob_some h
  obtain rfl := Option.some.inj hu
  unfold Builtin.len_
  simp only [List.getElem?_toArray, List.getElem?_cons_zero]
  rw [rb (run_und hd w)]
  cases x with
  | string s =>
    obtain ⟨hs, h⟩ := bt_some h
    obtain rfl := Option.some.inj h
    rw [hx.str_inv]
    cases d <;> first | (cases hs; done) | skip
    exact ⟨by rw [← size_len]; rfl, rfl⟩
  | slice a n c =>
    obtain ⟨hs, h⟩ := bt_some h
    obtain rfl := Option.some.inj h
    cases d <;> first | (cases hs; done) | skip
    rcases hx.slice_inv with ⟨rfl, rfl, rfl, rfl⟩ | ⟨b, o, s, rfl, _, rfl⟩ | ⟨rfl, rfl, rfl, a', c', rfl⟩ <;> exact ⟨rfl, rfl⟩
  | _ => cases h

theorem gen_builtin (hr : Rep P base w0 ρ m w) {ρA : Operand → Option Value} {ρC : Operand → Value} (he : EnvR P.globals.size ρ ρA ρC) {c : Call} {b : Builtin} (ho : o.op = .call c) (hc : c.callee = .builtin b)
    (h : biGen P (c.args.toList.map ρA) (execOp (tot ρA) o) m = some r) : Done P base w0 ρ r (execOp ρC o) w := by
  obtain ⟨hf, h⟩ := bt_some h
  obtain ⟨h1, h2⟩ := with_some h
  obtain ⟨u, m'⟩ := r
  simp only at h1 h2
  subst h2
  have e : execOp (tot ρA) o = execOp ρC o := by
    rw [exec_builtin ho hc, exec_builtin ho hc]
    congr 1
    apply Array.toList_inj.1
    simp only [Array.toList_map]
    apply List.map_congr_left
    intro x hx
    rw [List.all_map, List.all_eq_true] at hf
    have hxf := hf x hx
    simp only [Function.comp] at hxf
    cases hv : ρA x with
    | none => rw [hv] at hxf; cases hxf
    | some v => rw [hv] at hxf; exact tot_flat he hv hxf
  rw [e] at h1
  exact done_gen hr h1

theorem biA_sound (hr : Rep P base w0 ρ m w) {ρA : Operand → Option Value} {ρC : Operand → Value} (he : EnvR P.globals.size ρ ρA ρC) {c : Call} {b : Builtin} (ho : o.op = .call c) (hc : c.callee = .builtin b)
    (h : biA P b c.argTypes.toList (c.args.toList.map ρA) (execOp (tot ρA) o) m = some r) : Done P base w0 ρ r (execOp ρC o) w := by
  cases b with
  | append =>
    obtain ⟨x, hx, h⟩ := ob_some h
    obtain ⟨t, ht, h⟩ := ob_some h
    obtain ⟨p, q, hl, hp, hq⟩ := map_two (arg2_some hx)
    have hcopy := h
    obtain ⟨_, _, h⟩ := ob_some h
    obtain ⟨_, h⟩ := bt_some h
    obtain ⟨_, _, h⟩ := ob_some h
    obtain ⟨_, h⟩ := bt_some h
    obtain ⟨_, _, h⟩ := ob_some h
    obtain ⟨_, h⟩ := bt_some h
    obtain ⟨_, _, h⟩ := ob_some h
    obtain ⟨s, hs, h⟩ := ob_some h
    obtain ⟨_, _, h⟩ := ob_some h
    obtain ⟨u, hu, h⟩ := ob_some h
    rw [hs, hu] at hcopy
    have := append_sound (ty := o.type) hr hcopy (he p s (hp.trans hs)) (he q u (hq.trans hu))
    rw [exec_builtin ho hc, array_two (arg2_some ht), show c.args.map ρC = #[ρC p, ρC q] from by rw [array_two hl]; simp]
    exact this
  | copy =>
    obtain ⟨x, hx, h⟩ := ob_some h
    obtain ⟨t, ht, h⟩ := ob_some h
    obtain ⟨p, q, hl, hp, hq⟩ := map_two (arg2_some hx)
    have hcopy := h
    obtain ⟨_, _, h⟩ := ob_some h
    obtain ⟨_, _, h⟩ := ob_some h
    obtain ⟨s, hs, h⟩ := ob_some h
    obtain ⟨_, _, h⟩ := ob_some h
    obtain ⟨u, hu, h⟩ := ob_some h
    rw [hs, hu] at hcopy
    have := copy_sound (ty := o.type) (xT := t.2) hr hcopy (he p s (hp.trans hs)) (he q u (hq.trans hu))
    rw [exec_builtin ho hc, array_two (arg2_some ht), show c.args.map ρC = #[ρC p, ρC q] from by rw [array_two hl]; simp]
    exact this
  | len =>
    obtain ⟨x, hx, h⟩ := ob_some h
    obtain ⟨t, ht, h⟩ := ob_some h
    obtain ⟨p, hl, hp⟩ := map_one (arg1_some hx)
    obtain ⟨h1, h2⟩ := with_some h
    obtain ⟨v, m'⟩ := r
    simp only at h1 h2
    subst h2
    have hcopy := h1
    obtain ⟨_, _, h1⟩ := ob_some h1
    obtain ⟨s, hs, _⟩ := ob_some h1
    rw [hs] at hcopy
    obtain ⟨hrun, hf⟩ := opLen_run hcopy (he p s (hp.trans hs)) o.type w
    rw [exec_builtin ho hc, array_one (arg1_some ht), show c.args.map ρC = #[ρC p] from by rw [array_one hl]; simp]
    exact done_same hr (run_v hrun) (VRel.flat hf)
  | clear =>
    obtain ⟨x, hx, h⟩ := ob_some h
    obtain ⟨t, ht, h⟩ := ob_some h
    obtain ⟨p, hl, hp⟩ := map_one (arg1_some hx)
    have hcopy := h
    obtain ⟨_, _, h⟩ := ob_some h
    obtain ⟨_, _, h⟩ := ob_some h
    obtain ⟨s, hs, h⟩ := ob_some h
    rw [hs] at hcopy
    have := clear_sound (ty := o.type) hr hcopy (he p s (hp.trans hs))
    rw [exec_builtin ho hc, array_one (arg1_some ht), show c.args.map ρC = #[ρC p] from by rw [array_one hl]; simp]
    exact this
  | real => exact gen_builtin hr he ho hc h
  | imag => exact gen_builtin hr he ho hc h
  | complex => exact gen_builtin hr he ho hc h
  | min => exact gen_builtin hr he ho hc h
  | max => exact gen_builtin hr he ho hc h
  | _ => cases h

theorem step_sound (hcall : CallOk P base w0 call) (hr : Rep P base w0 ρ m w) {ρA : Operand → Option Value} (he : EnvR P.globals.size ρ ρA a.eval) (h : stepA P call o ρA m = some r)
    (hK : ∀ v' w', Ret P base w0 ρ r v' w' → next (a.put o.dst v') w') : o.wp P a w next Q := by
  unfold stepA at h
  cases hc : isCall o.op with
  | none =>
    rw [hc] at h
    exact wp_done (opT_sound hr he h) hK
  | some c =>
    rw [hc] at h
    simp only [op2_is] at h
    have ho : o.op = .call c := by
      cases hop : o.op <;> rw [hop] at hc <;> first | (cases hc; done) | (obtain rfl := Option.some.inj hc; rfl)
    unfold callC at h
    cases hcal : c.callee with
    | value f =>
      rw [hcal] at h
      obtain ⟨fv, hf, h⟩ := ob_some h
      obtain ⟨p, hp, h⟩ := ob_some h
      obtain ⟨l, hl, h⟩ := ob_some h
      have hfv := he f fv hf
      rw [asFunc_some hp] at hfv
      obtain ⟨a', b', hfc, ha, hb⟩ := hfv.func_inv
      have hargs := all_rel he _ _ hl
      have hres : execOp a.eval o = callFunc p.1 ((a' ++ c.args.map a.eval) ++ b') := by
        rw [exec_call ho]
        unfold resolve
        rw [hcal]
        simp only [hfc]
        rfl
      have hrel : VRels P.globals.size ρ (p.2.1 ++ (l ++ p.2.2)) ((a' ++ c.args.map a.eval) ++ b').toList := by
        rw [Array.toList_append, Array.toList_append, Array.toList_map, List.append_assoc]
        exact ha.append (hargs.append hb)
      unfold Oper.wp
      rw [hres]
      rcases hcall _ _ _ _ _ _ _ h hr hrel with ⟨v', w', hrun, hR⟩ | ⟨hrun, hR⟩
      · rw [hrun]; exact hK v' w' hR
      · rw [hrun]
        refine hR.mono ?_
        rintro e w' ⟨v', rfl, hv⟩
        exact hK v' w' hv
    | invoke r m => rw [hcal] at h; cases h
    | builtin b =>
      rw [hcal] at h
      exact wp_done (biA_sound hr he ho hcal h) hK

/-! ### regions in the order of the text -/
theorem want_run (hf : FRel P.globals.size ρ msk n st a) {ops : Array Oper} {b : Bool} (h : wantA msk ops.toList o st = some b) : Region.wanted o (yielded ops a.tmps) = b := by
  unfold wantA at h
  unfold Region.wanted
  cases hg : o.guard with
  | none => rw [hg] at h; exact Option.some.inj h
  | some g =>
    rw [hg] at h
    obtain ⟨oj, hoj, h⟩ := ob_some h
    obtain ⟨d, hd, h⟩ := ob_some h
    obtain ⟨v, hv, h⟩ := ob_some h
    obtain ⟨y, hy, h⟩ := ob_some h
    obtain ⟨hdn, hrel⟩ := hf.tmps d v hv
    have hoj' : ops[g.1]? = some oj := by simpa using hoj
    have hget : a.tmps[d]? = some (a.tmps.getD d undef) := by
      have : d < a.tmps.size := by rw [hf.size]; exact hdn
      simp [Array.getD, this]
    obtain ⟨j, want⟩ := g
    simp only at hoj' h ⊢
    unfold yielded
    rw [hoj', Option.bind_some, hd, Option.bind_some, hget]
    cases v <;> first | (cases hy; done) | skip
    · obtain rfl := Option.some.inj hy
      rw [hrel.bool_inv]
      obtain rfl := Option.some.inj h
      simp
    · obtain rfl := Option.some.inj hy
      obtain ⟨a', ha', _⟩ := hrel.tuple_inv
      rw [ha']
      obtain rfl := Option.some.inj h
      rfl

/-- a state, and its memory. -/
structure SRel (P : Program) (base : Nat) (w0 : Orig) (msk : FI) (n : Nat) (ρ : Rho) (st : St) (a : Act) (w : World) : Prop where
  fr : FRel P.globals.size ρ msk n st a
  rep : Rep P base w0 ρ st.mem w
def Post (P : Program) (base : Nat) (w0 : Orig) (msk : FI) (n : Nat) (ρ : Rho) (st : St) (a : Act) (w : World) : Prop := ∃ ρ', Rho.le ρ ρ' ∧ SRel P base w0 msk n ρ' st a w

theorem dst_lt {d : Option Tmp} (h : op2 d true (fun d => Nat.blt d n) = true) : ∀ x, d = some x → x < n := by
  intro x hx; subst hx; exact blt_t h

theorem stepK_is {β : Type} {P : Program} {call : CallF} {o : Oper} {ρ : Operand → Option Value} {m : Mem} {k : Value → Mem → Option β} : stepK P call o ρ m k = ob (stepA P call o ρ m) fun r => k r.1 r.2 := by
  have w : ∀ x : Option Value, (ob x fun v => k v m) = ob (with_ m x) fun r => k r.1 r.2 := by intro x; cases x <;> rfl
  unfold stepK
  cases ho : o.op
  case load t a =>
    have e : stepA P call o ρ m = ob (at? (ρ a)) fun p => with_ m (loadA P t p.1 p.2 m) := by unfold stepA; rw [ho]; rfl
    rw [e]
    show ob (at? (ρ a)) _ = _
    cases at? (ρ a) with
    | none => rfl
    | some p => exact w _
  case binOp op t x y yt =>
    have e : stepA P call o ρ m = with_ m (ob (ρ x) fun x => ob (ρ y) fun y => binV op t x y P (execOp (tot ρ) o)) := by unfold stepA; rw [ho]; rfl
    rw [e]
    show ob (ρ x) _ = _
    cases ρ x with
    | none => rfl
    | some a =>
      cases ρ y with
      | none => rfl
      | some b => exact w _
  all_goals first
    | rfl
    | (rw [show stepA P call o ρ m = none from by unfold stepA; rw [ho]; rfl]; rfl)
    | (unfold stepA; rw [ho]; exact w _)
    | (unfold stepA; rw [ho]; rfl)
theorem putK_is {P : Program} {msk : FI} {call : CallF} {all l : List Oper} {st : St} {d : Option Tmp} {v : Value} {m : Mem} : putK msk d st.lv st.tp v m (regL P msk call all l) = regA P msk call all l (putA msk st d v m) := by
  unfold putK putA regA
  cases d with
  | none => rfl
  | some d => simp only [op2_is]; cases kept msk d <;> rfl
theorem regA_cons {P : Program} {msk : FI} {call : CallF} {all l : List Oper} {o : Oper} {st : St} : regA P msk call all (o :: l) st = ob (wantA msk all o st) fun w =>
    Bool.rec (regA P msk call all l (putA msk st o.dst undef st.mem)) (ob (stepA P call o (ev P msk st) st.mem) fun r => regA P msk call all l (putA msk st o.dst r.1 r.2)) w := by
  have hs : (stepK P call o (ev P msk st) st.mem fun v m' => putK msk o.dst st.lv st.tp v m' (regL P msk call all l)) = ob (stepA P call o (ev P msk st) st.mem) fun r => regA P msk call all l (putA msk st o.dst r.1 r.2) := by
    rw [stepK_is]
    cases stepA P call o (ev P msk st) st.mem with
    | none => rfl
    | some r => exact putK_is
  show op2 o.guard (stepK P call o (ev P msk st) st.mem fun v m' => putK msk o.dst st.lv st.tp v m' (regL P msk call all l))
      (fun g => ob (wantG msk all st g) fun w => Bool.rec (putK msk o.dst st.lv st.tp undef st.mem (regL P msk call all l)) (stepK P call o (ev P msk st) st.mem fun v m' => putK msk o.dst st.lv st.tp v m' (regL P msk call all l)) w) = _
  rw [hs, putK_is]
  unfold wantA
  cases o.guard with
  | none => rfl
  | some g => rfl
theorem reg_sound (hcall : CallOk P base w0 call) (ops : Array Oper) (hops : ops.toList.all (dstOk n) = true) : ∀ (l : List Oper) (i : Nat) (st st' : St) (ρ : Rho) (a : Act) (w : World), ops.toList.drop i = l →
    regA P msk call ops.toList l st = some st' → SRel P base w0 msk n ρ st a w → (∀ a' w', Post P base w0 msk n ρ st' a' w' → Q .normal a' w') → wpOps P ops Q (List.range' i l.length) a w := by
  intro l
  induction l with
  | nil =>
    intro i st st' ρ a w hl h hs hQ
    obtain rfl : st = st' := Option.some.inj h
    exact hQ a w ⟨ρ, Rho.le_refl ρ, hs⟩
  | cons o l ih =>
    intro i st st' ρ a w hl h hs hQ
    rw [regA_cons] at h
    obtain ⟨b, hb, h⟩ := ob_some h
    have hoi : ops[i]? = some o := by
      have : (ops.toList.drop i)[0]? = some o := by rw [hl]; rfl
      rw [List.getElem?_drop] at this
      simpa using this
    have hmem : o ∈ ops.toList := List.mem_of_getElem? (by simpa using hoi)
    have hl' : ops.toList.drop (i + 1) = l := by
      rw [← List.drop_drop, hl]; rfl
    have hd := dst_lt (List.all_eq_true.1 hops o hmem)
    have hw := want_run hs.fr hb
    rw [List.length_cons, List.range'_succ]
    show (match ops[i]? with
      | none => wpOps P ops Q (List.range' (i + 1) l.length) a w
      | some o => if Region.wanted o (yielded ops a.tmps) then o.wp P a w (wpOps P ops Q (List.range' (i + 1) l.length)) Q ∨ (o.asks P a w ∧ LetsOut Q) else wpOps P ops Q (List.range' (i + 1) l.length) (a.put o.dst undef) w)
    rw [hoi]
    simp only [hw]
    cases b with
    | true =>
      obtain ⟨r, hr, h⟩ := ob_some (show ob (stepA P call o (ev P msk st) st.mem) (fun r => regA P msk call ops.toList l (putA msk st o.dst r.1 r.2)) = some st' from h)
      rw [if_pos rfl]
      refine .inl (step_sound hcall hs.rep (hs.fr.env hs.rep) hr ?_)
      rintro v' w' ⟨ρ', hle, hv, hrep⟩
      refine ih (i + 1) _ st' ρ' _ w' hl' h ⟨(hs.fr.mono hle).put hd hv r.2, by rw [put_mem]; exact hrep⟩ ?_
      rintro a' w2 ⟨ρ2, hle2, hs2⟩
      exact hQ a' w2 ⟨ρ2, Rho.le_trans hle hle2, hs2⟩
    | false =>
      rw [if_neg (by simp)]
      have h' : regA P msk call ops.toList l (putA msk st o.dst undef st.mem) = some st' := h
      refine ih (i + 1) _ st' ρ _ w hl' h' ⟨hs.fr.put hd (VRel.flat rfl) st.mem, by rw [put_mem]; exact hs.rep⟩ hQ
end
end Go.Am
