/- The abstract machine's code against the model's: code, functions, the whole. -/
import Derived.Lib.IndexMore
import Derived.Lib.Bytealg
import Derived.Lib.Strings
import Derived.Lib.Join
import Derived.Lib.SlTrimSet
import Derived.Test.YtaeiikielelicaaAmD
set_option linter.unusedVariables false
set_option linter.unusedSimpArgs false
set_option linter.unusedSectionVars false
namespace Go.Am
open Go.RowKit

/-! ### the orders that a region draws -/
theorem filter_lt {p q : Nat → Bool} : ∀ (l : List Nat) (x : Nat), x ∈ l → (∀ y, q y = true → p y = true) → p x = true → q x = false → (l.filter q).length < (l.filter p).length := by
  intro l
  induction l with
  | nil => intro x hx; cases hx
  | cons a l ih =>
    intro x hx hqp hp hq
    have mono : (l.filter q).length ≤ (l.filter p).length := by
      clear ih hx
      induction l with
      | nil => exact Nat.le_refl _
      | cons a l ih =>
        simp only [List.filter_cons]
        cases hqa : q a with
        | true => rw [hqp a hqa]; simp; exact ih
        | false => cases p a <;> simp <;> omega
    simp only [List.filter_cons]
    cases hx with
    | head => rw [hp, hq]; simp; omega
    | tail _ hx =>
      have := ih x hx hqp hp hq
      cases hqa : q a with
      | true => rw [hqp a hqa]; simp; exact this
      | false => cases p a <;> simp <;> omega

theorem lowest (rk : Nat → Nat) (W : Nat → Prop) (h : ∃ i, W i) : ∃ i, W i ∧ ∀ j, rk j < rk i → ¬ W j := by
  have key : ∀ d i, rk i ≤ d → W i → ∃ i, W i ∧ ∀ j, rk j < rk i → ¬ W j := by
    intro d
    induction d with
    | zero => intro i hi hw; exact ⟨i, hw, fun j hj => absurd hj (by omega)⟩
    | succ d ih =>
      intro i hi hw
      by_cases hex : ∃ j, rk j < rk i ∧ W j
      · obtain ⟨j, h1, h2⟩ := hex
        exact ih j (by omega) h2
      · exact ⟨i, hw, fun j hj hwj => hex ⟨j, hj, hwj⟩⟩
  obtain ⟨i, hi⟩ := h
  exact key (rk i) i (Nat.le_refl _) hi

theorem go_lin (ops : Array Oper) (mo : Region.Mode) (rk : Nat → Nat) (he : ∀ i, i < ops.size → ∀ e ∈ predsM mo ops.toList i, e < ops.size ∧ rk e < rk i) : ∀ (fuel t : Nat) (listed : Array Bool) (acc : List Nat), listed.size = ops.size → (∀ i, i < ops.size → (listed.getD i true = true ↔ i ∈ acc)) →
    ((List.range ops.size).filter (fun i => !listed.getD i true)).length ≤ fuel →
    ∃ L, Region.linearise.go mo ops fuel t listed acc = acc.reverse ++ L ∧ Lin (predsM mo ops.toList) ops.size acc L := by
  intro fuel
  induction fuel with
  | zero =>
    intro t listed acc hs hl hf
    refine ⟨[], by simp [Region.linearise.go], .nil acc fun i hi => ?_⟩
    have : (List.range ops.size).filter (fun i => !listed.getD i true) = [] := List.length_eq_zero_iff.1 (by omega)
    have := List.filter_eq_nil_iff.1 this i (List.mem_range.2 hi)
    exact (hl i hi).1 (by simpa using this)
  | succ fuel ih =>
    intro t listed acc hs hl hf
    have hpr : ∀ i o, ops[i]? = some o → predsM mo ops.toList i = (o.after.toList.filter (Region.binds mo)).map (·.on) := by
      intro i o ho
      unfold predsM
      rw [show ops.toList[i]? = some o from by simpa using ho]; rfl
    have ready : ∀ i, i < ops.size → (∀ e ∈ predsM mo ops.toList i, listed.getD e false = true) → ((ops[i]?).map (·.after.all fun e => !Region.binds mo e || listed.getD e.on false)).getD false = true := by
      intro i hi hp
      have ho := Array.getElem?_eq_getElem hi
      rw [hpr i _ ho] at hp
      rw [ho]
      simp only [Option.map_some, Option.getD_some]
      rw [← Array.all_toList, List.all_eq_true]
      intro e hmem
      cases hb : Region.binds mo e with
      | false => rfl
      | true => simp only [Bool.not_true, Bool.false_or]; exact hp e.on (List.mem_map.2 ⟨e, List.mem_filter.2 ⟨hmem, hb⟩, rfl⟩)
    have ready' : ∀ i, i < ops.size → ((ops[i]?).map (·.after.all fun e => !Region.binds mo e || listed.getD e.on false)).getD false = true → ∀ e ∈ predsM mo ops.toList i, listed.getD e false = true := by
      intro i hi h e hmem
      have ho := Array.getElem?_eq_getElem hi
      rw [hpr i _ ho] at hmem
      rw [ho] at h
      simp only [Option.map_some, Option.getD_some] at h
      rw [← Array.all_toList, List.all_eq_true] at h
      obtain ⟨x, hx, rfl⟩ := List.mem_map.1 hmem
      obtain ⟨h1, h2⟩ := List.mem_filter.1 hx
      have := h x h1
      rw [h2] at this; simpa using this
    have getD_ft : ∀ i, i < ops.size → listed.getD i false = listed.getD i true := by
      intro i hi
      simp [Array.getD, hs, hi]
    by_cases hex : ∃ i, 0 ≤ i ∧ i < ops.size ∧ listed.getD i true = false
    · obtain ⟨i0, ⟨h1, h2⟩, h3⟩ := lowest rk (fun i => i < ops.size ∧ listed.getD i true = false) (let ⟨i, _, a, b⟩ := hex; ⟨i, a, b⟩)
      have hmem0 : i0 ∈ (List.range ops.size).filter fun i => !listed.getD i true && ((ops[i]?).map (·.after.all fun e => !Region.binds mo e || listed.getD e.on false)).getD false := by
        refine List.mem_filter.2 ⟨List.mem_range.2 h1, ?_⟩
        rw [h2]
        simp only [Bool.not_false, Bool.true_and]
        refine ready i0 h1 (fun e hmem => ?_)
        obtain ⟨hen, hlt⟩ := he i0 h1 e hmem
        rw [getD_ft e hen]
        cases hg : listed.getD e true with
        | true => rfl
        | false => exact absurd ⟨hen, hg⟩ (h3 e hlt)
      unfold Region.linearise.go
      simp only
      generalize hrs : ((List.range ops.size).filter fun i => !listed.getD i true && ((ops[i]?).map (·.after.all fun e => !Region.binds mo e || listed.getD e.on false)).getD false) = rs at hmem0
      have hpos : 0 < rs.length := List.length_pos_of_mem hmem0
      have hlt := Nat.mod_lt t hpos
      rw [List.getElem?_eq_getElem hlt]
      simp only
      generalize hi : rs[t % rs.length] = i
      have him : i ∈ rs := by rw [← hi]; exact List.getElem_mem hlt
      rw [← hrs] at him
      obtain ⟨hm1, hm2⟩ := List.mem_filter.1 him
      have hin := List.mem_range.1 hm1
      rw [Bool.and_eq_true] at hm2
      have hnl : listed.getD i true = false := by simpa using hm2.1
      have hset : ∀ j, j < ops.size → ((listed.setIfInBounds i true).getD j true = true ↔ j ∈ i :: acc) := by
        intro j hj
        by_cases e : j = i
        · subst e; simp [Array.getD, hs, hj]
        · have : (listed.setIfInBounds i true).getD j true = listed.getD j true := by simp [Array.getD, hs, hj, Ne.symm e]
          rw [this, hl j hj]; simp [e]
      obtain ⟨L, h4, h5⟩ := ih (t / rs.length) (listed.setIfInBounds i true) (i :: acc) (by simpa using hs) hset (by
        have := filter_lt (p := fun i => !listed.getD i true) (q := fun j => !(listed.setIfInBounds i true).getD j true) (List.range ops.size) i (List.mem_range.2 hin) ?_ ?_ ?_
        · omega
        · intro y hy
          by_cases hyn : y < ops.size
          · have hy' : ¬ (y ∈ i :: acc) := by rw [← hset y hyn]; simpa using hy
            have : ¬ (listed.getD y true = true) := by rw [hl y hyn]; exact fun h => hy' (List.mem_cons_of_mem _ h)
            simpa using this
          · simp [Array.getD, hs, hyn] at hy
        · simpa using hnl
        · have := (hset i hin).2 List.mem_cons_self
          rw [this]; rfl)
      refine ⟨i :: L, by rw [h4]; simp, .cons acc i L hin (fun h => ?_) (fun e hmem => ?_) h5⟩
      · rw [← hl i hin, hnl] at h; cases h
      · have hen := (he i hin e hmem).1
        have := ready' i hin hm2.2 e hmem
        rw [getD_ft e hen] at this
        exact (hl e hen).1 this
    · refine ⟨[], ?_, .nil acc fun i hi => ?_⟩
      · unfold Region.linearise.go
        simp only
        have : ((List.range ops.size).filter fun i => !listed.getD i true && ((ops[i]?).map (·.after.all fun e => !Region.binds mo e || listed.getD e.on false)).getD false) = [] := by
          rw [List.filter_eq_nil_iff]
          intro i hi h
          rw [Bool.and_eq_true] at h
          exact hex ⟨i, Nat.zero_le _, List.mem_range.1 hi, by simpa using h.1⟩
        rw [this]; simp
      · refine (hl i hi).1 ?_
        cases h : listed.getD i true with
        | true => rfl
        | false => exact absurd ⟨i, Nat.zero_le _, hi, h⟩ hex

theorem lin_mono {pr pr' : Nat → List Nat} {n : Nat} (hp : ∀ i, i < n → ∀ e ∈ pr i, e ∈ pr' i) : ∀ {S L : List Nat}, Lin pr' n S L → Lin pr n S L := by
  intro S L h
  induction h with
  | nil S h => exact .nil S h
  | cons S i L hi hn hq _ ih => exact .cons S i L hi hn (fun e he => hq e (hp i hi e he)) ih
theorem lin_at (ops : Array Oper) (mo : Region.Mode) (rk : Nat → Nat) (he : ∀ i, i < ops.size → ∀ e ∈ predsM mo ops.toList i, e < ops.size ∧ rk e < rk i) (t : Nat) : Lin (predsOf ops.toList) ops.size [] (Region.linearise mo ops t) := by
  unfold Region.linearise
  obtain ⟨L, h1, h2⟩ := go_lin ops mo rk he ops.size t (Array.replicate ops.size false) [] (by simp) (fun i hi => by simp [Array.getD, hi]) (by
    have := List.length_filter_le (fun i => !(Array.replicate ops.size false).getD i true) (List.range ops.size)
    simpa using this)
  rw [h1]
  refine lin_mono (fun i _ e hm => ?_) h2
  unfold predsOf at hm
  unfold predsM
  cases ho : ops.toList[i]? with
  | none => rw [ho] at hm; cases hm
  | some o =>
    rw [ho] at hm
    obtain ⟨x, hx, rfl⟩ := List.mem_map.1 hm
    obtain ⟨h3, h4⟩ := List.mem_filter.1 hx
    refine List.mem_map.2 ⟨x, List.mem_filter.2 ⟨h3, ?_⟩, rfl⟩
    revert h4
    unfold Region.binds
    cases x.ground <;> intro h4 <;> first | rfl | (exact absurd h4 (by intro h; cases h))
theorem topo_he {ops : Array Oper} {mo : Region.Mode} {l : List Nat} (h : topoOk mo ops.toList ops.size l = true) : ∀ i, i < ops.size → ∀ e ∈ predsM mo ops.toList i, e < ops.size ∧ rankIn l e < rankIn l i := by
  intro i hi e hm
  have := List.all_eq_true.1 (all_range h hi) e hm
  rw [Bool.and_eq_true] at this
  exact ⟨blt_t this.1, blt_t this.2⟩

theorem schedule_lin (ops : Array Oper) (he : edgesOk ops.toList ops.size = true) (hm : modesOk ops = true) (mixed : Bool) (t : Nat) : Lin (predsOf ops.toList) ops.size [] (Region.schedule mixed ops t) := by
  have hany : ∀ t, Lin (predsOf ops.toList) ops.size [] (Region.linearise .any ops t) := fun t => lin_at ops .any (fun i => i) (fun i hi e hmem => by
    have := blt_t (List.all_eq_true.1 (all_range he hi) e hmem)
    exact ⟨by omega, this⟩) t
  unfold Region.schedule
  split
  · exact hany t
  · rename_i hx
    have hd : Region.departs ops = true := by
      cases hd : Region.departs ops with
      | true => rfl
      | false => exact absurd (by simp [hd]) hx
    unfold modesOk at hm
    rw [hd] at hm
    simp only [Bool.not_true, Bool.false_or, Bool.and_eq_true] at hm
    split
    · exact lin_at ops .text _ (topo_he hm.1) _
    · exact lin_at ops .gc _ (topo_he hm.2) _

/-! ### code -/
def toX : Ex → Exit
  | .normal => .normal
  | .exit id => .exit id
  | .goto l => .goto l
  | .ret => .ret

section
variable {P : Program} {base : Nat} {w0 : Orig} {msk : FI} {n : Nat} {call : CallF} {lp : Code → Run} {gs : Code → Nat → Run}

def QA (P : Program) (base : Nat) (w0 : Orig) (msk : FI) (n : Nat) (ρ : Rho) (e : Ex) (st : St) (x : Exit) (a : Act) (w : World) : Prop := x = toX e ∧ Post P base w0 msk n ρ st a w

theorem Post.mono {ρ ρ' : Rho} {st : St} {a : Act} {w : World} (h : Post P base w0 msk n ρ' st a w) (hle : Rho.le ρ ρ') : Post P base w0 msk n ρ st a w :=
  let ⟨r, h1, h2⟩ := h; ⟨r, Rho.le_trans hle h1, h2⟩

theorem SRel.clean {ρ : Rho} {st : St} {a : Act} {w : World} (h : SRel P base w0 msk n ρ st a w) : SRel P base w0 msk n ρ st.clean a w := ⟨clean_frel h.fr, h.rep⟩

def LoopRuns (P : Program) (b : Code) (Q : Exit → Act → World → Prop) (a : Act) (w : World) : Prop :=
  ∀ (f : Frame) (k : List Item) (cs : List Frame), ∃ e a' w', Q e a' w' ∧ Arrives P (lone (f.at a (.code b :: .inLoop b :: k)) cs w) f k cs e a' w'
def ScopeRuns (P : Program) (b rest : Code) (Q : Exit → Act → World → Prop) (a : Act) (w : World) : Prop :=
  ∀ (f : Frame) (k : List Item) (cs : List Frame), ∃ e a' w', Q e a' w' ∧ Arrives P (lone (f.at a (.code rest :: .inScope b :: k)) cs w) f k cs e a' w'

def LpOk (P : Program) (base : Nat) (w0 : Orig) (msk : FI) (n : Nat) (lp : Code → Run) : Prop :=
  ∀ b st e st' ρ a w, lp b st = some (e, st') → codeGd msk n b = true → SRel P base w0 msk n ρ st a w → LoopRuns P b (QA P base w0 msk n ρ e st') a w
def GsOk (P : Program) (base : Nat) (w0 : Orig) (msk : FI) (n : Nat) (gs : Code → Nat → Run) : Prop :=
  ∀ b l st e st' ρ a w, gs b l st = some (e, st') → codeGd msk n b = true → SRel P base w0 msk n ρ st a w → ∃ rest, findLabel b l = some rest ∧ ScopeRuns P b rest (QA P base w0 msk n ρ e st') a w

theorem preB_ok {ρ : Rho} {w : World} : ∀ (l : List (Nat × List Value)) (m : Mem) (w0 : Orig), Rep P base w0 ρ m w → ∀ (bs : List Brn) (m' : Mem), preB l m = (bs, m') →
    Rep P base (w0.at fun z => w0.pend z ∨ ∃ x ∈ bs, x.b = z) ρ m' w ∧ (∀ x ∈ bs, m.nx ≤ x.b) ∧ (∀ x ∈ bs, ∀ y ∈ bs, x.b = y.b → x.j = y.j) := by
  intro l
  induction l with
  | nil =>
    intro m w0 hr bs m' h
    obtain ⟨rfl, rfl⟩ := Prod.mk.inj (show (([] : List Brn), m) = (bs, m') from h)
    refine ⟨hr.fewer (fun z hz => ?_), (fun x hx => by cases hx), (fun x hx => by cases hx)⟩
    rcases hz with hz | ⟨x, hx, _⟩
    · exact hz
    · cases hx
  | cons o l ih =>
    intro m w0 hr bs m' h
    obtain ⟨i, zs⟩ := o
    have h' : (Prod.rec (motive := fun _ => List Brn × Mem) (fun l m' => ((⟨i, m.nx, zs⟩ :: l : List Brn), m')) (preB l (m.newCells zs 0))) = (bs, m') := h
    cases hp : preB l (m.newCells zs 0) with
    | mk l' m2 =>
    rw [hp] at h'
    obtain ⟨rfl, rfl⟩ := Prod.mk.inj (show ((⟨i, m.nx, zs⟩ :: l' : List Brn), m2) = (bs, m') from h')
    obtain ⟨h1, h2, h3⟩ := ih (m.newCells zs 0) _ (hr.pre (.cells zs.length (Tr.build dep zs) 0 true none) (d := fun z => w0.pend z ∨ z = m.nx) (fun z hz => hz)) l' m2 hp
    have hgt : ∀ x ∈ l', m.nx + 1 ≤ x.b := fun x hx => h2 x hx
    refine ⟨h1.fewer (d := fun z => w0.pend z ∨ ∃ x ∈ ((⟨i, m.nx, zs⟩ : Brn) :: l'), x.b = z) (fun z hz => ?_), fun x hx => ?_, fun x hx y hy e => ?_⟩
    · rcases hz with hz | ⟨x, hx, hxz⟩
      · exact .inl (.inl hz)
      · cases hx with
        | head => exact .inl (.inr hxz.symm)
        | tail _ hx => exact .inr ⟨x, hx, hxz⟩
    · cases hx with
      | head => exact Nat.le_refl _
      | tail _ hx => have := hgt x hx; omega
    · cases hx with
      | head => cases hy with
        | head => rfl
        | tail _ hy => have := hgt y hy; simp only at e; omega
      | tail _ hx => cases hy with
        | head => have := hgt x hx; simp only at e; omega
        | tail _ hy => exact h3 x hx y hy e

theorem region_sound (hcall : ∀ d, CallOk P base (w0.at d) call) {id : Nat} {ops : Array Oper} {draw : Bool} {st st' : St} {e : Ex} {ρ : Rho} {a : Act} {w : World} (h : region P msk call id ops draw st = some (e, st'))
    (hok0 : (ops.toList.all (dstOk n) && ite2 draw (op2 (msk.rg id) true (chkR ops)) true) = true) (hs : SRel P base w0 msk n ρ st a w) : (Code.region id ops draw).wp P (QA P base w0 msk n ρ e st') a w := by
  rw [Bool.and_eq_true] at hok0
  obtain ⟨hok, hgd⟩ := hok0
  cases draw with
  | false =>
    obtain ⟨st1, h1, h⟩ := ob_some (show ob (regA P msk call ops.toList ops.toList st) (fun st' => some (Ex.normal, st')) = some (e, st') from h)
    obtain ⟨rfl, rfl⟩ := Prod.mk.inj (Option.some.inj h)
    refine wp_region ?_
    have := reg_sound (hcall w0.pend) ops hok (Q := QA P base w0 msk n ρ .normal st1) ops.toList 0 st st1 ρ a w (by simp) h1 hs (fun a' w' hp => ⟨rfl, hp⟩)
    rw [List.range_eq_range']
    simpa using this
  | true =>
    obtain ⟨st1, h0, h⟩ := ob_some (show ob (op2 (msk.rg id) (bt (chkR ops (Region.before ops).toList) (regG P msk call ops.toList (Region.before ops).toList ops.size st)) fun b => regG P msk call ops.toList b ops.size st) (fun st' => some (Ex.normal, st')) = some (e, st') from h)
    obtain ⟨rfl, rfl⟩ := Prod.mk.inj (Option.some.inj h)
    obtain ⟨b, hd, h1⟩ : ∃ b, chkR ops b = true ∧ regG P msk call ops.toList b ops.size st = some st1 := by
      have hgd' : op2 (msk.rg id) true (chkR ops) = true := hgd
      cases hb : msk.rg id with
      | none =>
        rw [hb] at h0
        obtain ⟨h1, h2⟩ := bt_some h0
        exact ⟨_, h1, h2⟩
      | some b => rw [hb] at h0 hgd'; exact ⟨b, hgd', h0⟩
    unfold chkR at hd
    rw [Bool.and_eq_true] at hd
    unfold drawOk at hd
    rw [Bool.and_eq_true, Bool.and_eq_true] at hd
    obtain ⟨hdep, he, hb, ht⟩ := hd
    obtain ⟨gl, _, h1⟩ := ob_some h1
    cases hpre : preB gl st.mem with
    | mk bs m1 =>
    rw [hpre] at h1
    obtain ⟨hf, h1⟩ := bt_some h1
    obtain ⟨hrep, hbs, hone⟩ := preB_ok gl st.mem w0 hs.rep bs m1 hpre
    obtain ⟨T, hT1, hT2, hT3⟩ := regD_trace (st0 := ⟨st.lv, st.tp, m1⟩) ops.toList [] _ st1 h1 ⟨rfl, rfl, (fun k r h => by simp at h), (fun k r h => by simp at h), (fun x hx => by cases hx), (fun x rest h => by cases h), (fun x y rest h => by cases h)⟩ (fun i r h => by simp at h)
    have hlen : T.length = ops.size := by have := congrArg List.length hT1; simpa using this
    refine wp_region_draw (fun t => ?_)
    have hlin := schedule_lin ops he hdep (P.follows .mixedOrders) t
    have hB : BornOk w0 bs := by
      refine ⟨hone, fun x hx hp => ?_⟩
      have := hbs x hx
      have := (hs.rep.top.2 x.b hp).1
      omega
    refine lin_run hcall hB (fun x hx => List.all_eq_true.1 hf x hx) ops rfl hT2 (by simpa using hT1) hlen he hb ht hok (Q := QA P base w0 msk n ρ .normal st1) [] _ hlin (fun t => tmpA msk st.lv st.tp t) _ a w.drew ρ (fun i hi => by cases hi) (fun t => .inr ⟨(fun k r' hk => by cases hk), rfl⟩)
      (.text 0 (Nat.zero_le _) (fun k _ => ⟨(fun h => by cases h), (fun h => by omega)⟩) rfl) ⟨hs.fr.size, hs.fr.defers, hs.fr.tmps⟩ (drew_rep (hrep.fewer (d := waits w0 bs []) (fun z hz => by
        rcases hz with hz | ⟨x, g1, g2, _⟩
        · exact .inl hz
        · exact .inr ⟨x, g1, g2⟩))) ?_
    intro a' w' hp
    rw [← hlen, ← hT3] at hp
    exact ⟨rfl, hp⟩

theorem exec_sound (hcall : ∀ d, CallOk P base (w0.at d) call) (hlp : LpOk P base w0 msk n lp) (hgs : GsOk P base w0 msk n gs) (c : Code) : ∀ (st : St) (e : Ex) (st' : St) (ρ : Rho) (a : Act) (w : World),
    execC P msk call lp gs c st = some (e, st') → codeGd msk n c = true → SRel P base w0 msk n ρ st a w → c.wp P (QA P base w0 msk n ρ e st') a w := by
  induction c with
  | skip =>
    intro st e st' ρ a w h hc hs
    obtain ⟨rfl, rfl⟩ := Prod.mk.inj (Option.some.inj h)
    exact wp_skip ⟨rfl, ρ, Rho.le_refl ρ, hs⟩
  | region id ops draw =>
    intro st e st' ρ a w h hc hs
    exact region_sound hcall h hc hs
  | seq x y ihx ihy =>
    intro st e st' ρ a w h hc hs
    obtain ⟨r, hr, h⟩ := ob_some (show ob (execC P msk call lp gs x st) (fun r => thenN r.1 r.2 (execC P msk call lp gs y)) = some (e, st') from h)
    have hc' : (codeGd msk n x && codeGd msk n y) = true := hc
    rw [Bool.and_eq_true] at hc'
    obtain ⟨e1, st1⟩ := r
    refine wp_seq (wp_mono (ihx st e1 st1 ρ a w hr hc'.1 hs) ?_)
    rintro x a1 w1 ⟨rfl, ρ1, hle, hs1⟩
    cases e1 with
    | normal =>
      refine wp_mono (ihy st1 e st' ρ1 a1 w1 h hc'.2 hs1) ?_
      rintro x a2 w2 ⟨rfl, hp⟩
      exact ⟨rfl, hp.mono hle⟩
    | exit id => obtain ⟨rfl, rfl⟩ := Prod.mk.inj (Option.some.inj h); exact ⟨rfl, ρ1, hle, hs1⟩
    | goto l => obtain ⟨rfl, rfl⟩ := Prod.mk.inj (Option.some.inj h); exact ⟨rfl, ρ1, hle, hs1⟩
    | ret => obtain ⟨rfl, rfl⟩ := Prod.mk.inj (Option.some.inj h); exact ⟨rfl, ρ1, hle, hs1⟩
  | cond c x y ihx ihy =>
    intro st e st' ρ a w h hc hs
    obtain ⟨v, hv, h⟩ := ob_some (show ob (ev P msk st c) (fun c => ob (asBool? c) fun t => Bool.rec (execC P msk call lp gs y st) (execC P msk call lp gs x st) t) = some (e, st') from h)
    obtain ⟨t, ht, h⟩ := ob_some h
    have hc' : (codeGd msk n x && codeGd msk n y) = true := hc
    rw [Bool.and_eq_true] at hc'
    rw [asBool_some ht] at hv
    have hev := (hs.fr.env hs.rep c _ hv).bool_inv
    cases t with
    | true => exact wp_cond_true hev (ihx st e st' ρ a w h hc'.1 hs)
    | false => exact wp_cond_false hev (ihy st e st' ρ a w h hc'.2 hs)
  | block id x ih =>
    intro st e st' ρ a w h hc hs
    obtain ⟨⟨e1, st1⟩, hr, h⟩ := ob_some (show ob (execC P msk call lp gs x st) (fun r => some (blkE id r.1, r.2)) = some (e, st') from h)
    obtain ⟨rfl, rfl⟩ := Prod.mk.inj (Option.some.inj h)
    refine wp_block (wp_mono (ih st e1 st1 ρ a w hr hc hs) ?_)
    rintro x a1 w1 ⟨rfl, hp⟩
    cases e1 with
    | normal => exact ⟨rfl, hp⟩
    | goto l => exact ⟨rfl, hp⟩
    | ret => exact ⟨rfl, hp⟩
    | exit id' =>
      show (if id' = id then QA P base w0 msk n ρ (blkE id (.exit id')) st1 .normal a1 w1 else QA P base w0 msk n ρ (blkE id (.exit id')) st1 (.exit id') a1 w1)
      unfold blkE
      simp only
      cases hb : Nat.beq id' id with
      | true => rw [if_pos (beq_t hb)]; exact ⟨rfl, hp⟩
      | false => rw [if_neg (beq_f hb)]; exact ⟨rfl, hp⟩
  | loop b _ =>
    intro st e st' ρ a w h hc hs f k cs
    obtain ⟨x, a', w', hq, harr⟩ := hlp b st.clean e st' ρ a w h hc hs.clean f k cs
    exact ⟨x, a', w', hq, .of_steps (.one step_loop) harr⟩
  | rangeFunc => intro st e st' ρ a w h; cases h
  | exit id =>
    intro st e st' ρ a w h hc hs
    obtain ⟨rfl, rfl⟩ := Prod.mk.inj (Option.some.inj h)
    exact wp_exit ⟨rfl, ρ, Rho.le_refl ρ, hs⟩
  | scope b ih =>
    intro st e st' ρ a w h hc hs f k cs
    obtain ⟨⟨e1, st1⟩, hr, h⟩ := ob_some (show ob (execC P msk call lp gs b st) (fun r => gotoA b (gs b) r.1 r.2) = some (e, st') from h)
    obtain ⟨x, a1, w1, ⟨rfl, ρ1, hle, hs1⟩, harr⟩ := ih st e1 st1 ρ a w hr hc hs f (.inScope b :: k) cs
    have plain : some (e1, st1) = some (e, st') → Arrives P (lone (f.at a (.code b :: .inScope b :: k)) cs w) f k cs (toX e1) a1 w1 → ∃ e' a' w', QA P base w0 msk n ρ e st' e' a' w' ∧ Arrives P (lone (f.at a (.code (.scope b) :: k)) cs w) f k cs e' a' w' := by
      intro h harr'
      obtain ⟨rfl, rfl⟩ := Prod.mk.inj (Option.some.inj h)
      exact ⟨_, a1, w1, ⟨rfl, ρ1, hle, hs1⟩, .of_steps (.one step_scope) harr'⟩
    cases e1 with
    | normal => exact plain h (Steps.trans harr (.one step_inScope))
    | exit id => exact plain h (show ∀ k', exitTo id k = some k' → Steps P _ _ from fun k' hk => harr k' (by simp [exitTo, hk]))
    | ret => exact plain h harr
    | goto l =>
      have h' : op2 (findLabel b l) (some (Ex.goto l, st1)) (fun _ => gs b l st1.clean) = some (e, st') := h
      cases hf : findLabel b l with
      | none =>
        rw [hf] at h'
        exact plain h' (show ∀ k', gotoIn l k = some k' → Steps P _ _ from fun k' hk => harr k' (by simp [gotoIn, hf, hk]))
      | some rest =>
        rw [hf] at h'
        obtain ⟨rest', hf', hrun⟩ := hgs b l st1.clean e st' ρ1 a1 w1 h' hc hs1.clean
        rw [hf] at hf'; obtain rfl := Option.some.inj hf'
        obtain ⟨x, a2, w2, ⟨hx, hp⟩, harr2⟩ := hrun f k cs
        refine ⟨x, a2, w2, ⟨hx, hp.mono hle⟩, .of_steps (.one step_scope) (.of_steps (harr _ ?_) harr2)⟩
        simp [gotoIn, hf]
  | label l =>
    intro st e st' ρ a w h hc hs
    obtain ⟨rfl, rfl⟩ := Prod.mk.inj (Option.some.inj h)
    exact wp_label ⟨rfl, ρ, Rho.le_refl ρ, hs⟩
  | goto l =>
    intro st e st' ρ a w h hc hs
    obtain ⟨rfl, rfl⟩ := Prod.mk.inj (Option.some.inj h)
    exact wp_goto ⟨rfl, ρ, Rho.le_refl ρ, hs⟩
  | ret =>
    intro st e st' ρ a w h hc hs
    obtain ⟨rfl, rfl⟩ := Prod.mk.inj (Option.some.inj h)
    exact wp_ret ⟨rfl, ρ, Rho.le_refl ρ, hs⟩
  | refuse why => intro st e st' ρ a w h; cases h

theorem label_ok {l : Nat} : ∀ (c rest : Code), findLabel c l = some rest → codeGd msk n c = true → codeGd msk n rest = true := by
  intro c
  induction c with
  | seq x y ihx ihy =>
    intro rest h hc
    have hc' : (codeGd msk n x && codeGd msk n y) = true := hc
    rw [Bool.and_eq_true] at hc'
    unfold findLabel at h
    cases hx : findLabel x l with
    | some r =>
      rw [hx] at h
      obtain rfl := Option.some.inj h
      show (codeGd msk n r && codeGd msk n y) = true
      rw [ihx r hx hc'.1, hc'.2]; rfl
    | none =>
      rw [hx] at h
      exact ihy rest h hc'.2
  | label l' =>
    intro rest h hc
    unfold findLabel at h
    split at h
    · obtain rfl := Option.some.inj h; rfl
    · cases h
  | _ => intros; rename_i h _; cases h

/-! ### functions -/
theorem args_tmps (msk : FI) : ∀ (args : List Value) (i : Nat) (st : St) (m : Mem) (t : Nat) (u : Value),
    tmpA msk (List.rec (motive := fun _ => Nat → St → St) (fun _ st => st) (fun v _ ih i st => ih (Nat.succ i) (putA msk st (some i) v m)) args i st).lv (List.rec (motive := fun _ => Nat → St → St) (fun _ st => st) (fun v _ ih i st => ih (Nat.succ i) (putA msk st (some i) v m)) args i st).tp t = some u →
    (∃ k, t = i + k ∧ args[k]? = some u) ∨ tmpA msk st.lv st.tp t = some u := by
  intro args
  induction args with
  | nil => intro i st m t u h; exact .inr h
  | cons v args ih =>
    intro i st m t u h
    rcases ih (i + 1) (putA msk st (some i) v m) m t u h with ⟨k, hk, hg⟩ | h
    · exact .inl ⟨k + 1, by omega, by simpa using hg⟩
    · rcases tmpA_put i v m h with ⟨rfl, rfl⟩ | ⟨_, h⟩
      · exact .inl ⟨0, by omega, by simp⟩
      · exact .inr h
theorem args_mem (msk : FI) : ∀ (args : List Value) (i : Nat) (st : St) (m : Mem), st.mem = m → (List.rec (motive := fun _ => Nat → St → St) (fun _ st => st) (fun v _ ih i st => ih (Nat.succ i) (putA msk st (some i) v m)) args i st : St).mem = m := by
  intro args
  induction args with
  | nil => intro i st m h; exact h
  | cons v args ih => intro i st m h; exact ih (i + 1) _ m (put_mem _ _ _ _ _)

theorem args_rel {ρ : Rho} {m : Mem} {w : World} {args : List Value} {args' : Array Value} (hr : Rep P base w0 ρ m w) (hv : VRels P.globals.size ρ args args'.toList) (hn : args.length ≤ n) :
    SRel P base w0 msk n ρ (argsA msk args m) { tmps := args' ++ Array.replicate (n - args'.size) undef, defers := [] } w := by
  have hlen : args'.size = args.length := by have := hv.len; simpa using this.symm
  refine ⟨⟨by simp; omega, rfl, fun t u h => ?_⟩, ?_⟩
  · rcases args_tmps msk args 0 ⟨.e, [], m⟩ m t u h with ⟨k, hk, hg⟩ | h
    · have hkl := (List.getElem?_eq_some_iff.1 hg).1
      obtain ⟨u', hu', hrel⟩ := hv.get hg
      rw [Array.getElem?_toList] at hu'
      have : (args' ++ Array.replicate (n - args'.size) undef)[t]? = some u' := by
        rw [Array.getElem?_append_left (by omega), show t = k from by omega]; exact hu'
      refine ⟨by omega, ?_⟩
      show VRel _ _ _ ((args' ++ Array.replicate (n - args'.size) undef).getD t undef)
      rw [Array.getD_eq_getD_getElem?, this]; exact hrel
    · exfalso
      unfold tmpA at h
      cases hk : kept msk t <;> rw [hk] at h <;> cases h
  · have : (argsA msk args m).mem = m := args_mem msk args 0 _ m rfl
    rw [this]; exact hr

def resV (tmps : Array Value) : ResultVar → Sem Value
  | .tmp t => pure (tmps.getD t undef)
  | .cell b t => do loadVar t (← asAddr (tmps.getD b undef))

theorem run_results {ρ : Rho} {w : World} {st : St} {a : Act} (hs : SRel P base w0 msk n ρ st a w) : ∀ (rs : List ResultVar) (l : List Value), resultsA P msk st rs = some l →
    ∃ l', VRels P.globals.size ρ l l' ∧ (rs.mapM (resV a.tmps)).run P w = .ok l' w := by
  intro rs
  induction rs with
  | nil => intro l h; obtain rfl : [] = l := Option.some.inj h; exact ⟨[], VRels.nil, rfl⟩
  | cons r rs ih =>
    intro l h
    obtain ⟨v, hv, h⟩ := ob_some h
    obtain ⟨l1, hl1, h⟩ := ob_some h
    obtain rfl := Option.some.inj h
    obtain ⟨l1', hrel, hrun⟩ := ih l1 hl1
    have one : ∃ v', VRel P.globals.size ρ v v' ∧ (resV a.tmps r).run P w = .ok v' w := by
      cases r with
      | tmp t => exact ⟨_, (hs.fr.tmps t v hv).2, rfl⟩
      | cell b t =>
        obtain ⟨p, hp, hv⟩ := ob_some hv
        obtain ⟨ad, had, hadr⟩ := at_some hp
        obtain ⟨s, hsl, hc⟩ := (hs.fr.tmps b _ had).2.ptr_inv hadr
        obtain ⟨v', hld, hvr⟩ := load_sound hs.rep hv hsl
        refine ⟨v', hvr, ?_⟩
        show ((asAddr (a.tmps.getD b undef)) >>= fun x => loadVar t x).run P w = _
        rw [hc, rb (a := (⟨s.blk, s.shift + p.2, none⟩ : Addr)) (w1 := w) rfl]
        exact hld
    obtain ⟨v', hvr, hrun1⟩ := one
    refine ⟨v' :: l1', hrel.cons hvr, ?_⟩
    rw [List.mapM_cons, rb hrun1, rb hrun]; rfl

theorem results_eq (fn : Func) (tmps : Array Value) : results fn tmps = (do
    let vs ← fn.results.mapM (resV tmps)
    pure (if h : vs.size = 1 then vs[0] else .tuple vs)) := by
  unfold results
  congr 2

theorem tup_rel {ρ : Rho} {l l' : List Value} (h : VRels P.globals.size ρ l l') : VRel P.globals.size ρ (tupA l) (if h : l'.toArray.size = 1 then l'.toArray[0] else .tuple l'.toArray) := by
  cases l with
  | nil => rw [h.inv_nil]; exact VRel.flat rfl
  | cons v l =>
    obtain ⟨v', r', rfl, h1, h2⟩ := h.inv_cons
    cases l with
    | nil => rw [h2.inv_nil]; exact h1
    | cons u l =>
      obtain ⟨u', r2, rfl, _, _⟩ := h2.inv_cons
      rw [dif_neg (by simp)]
      exact .tuple _ _ h.len h.at_

theorem flat_args {ρ : Rho} {args : List Value} {args' : Array Value} (hv : VRels P.globals.size ρ args args'.toList) (hf : args.all flat = true) : args' = ⟨args⟩ := by
  apply Array.toList_inj.1
  have : ∀ (l l' : List Value), VRels P.globals.size ρ l l' → l.all flat = true → l' = l := by
    intro l
    induction l with
    | nil => intro l' h _; exact h.inv_nil
    | cons v l ih =>
      intro l' h hf
      obtain ⟨v', r', rfl, h1, h2⟩ := h.inv_cons
      simp only [List.all_cons, Bool.and_eq_true] at hf
      rw [h1.of_flat hf.1, ih r' h2 hf.2]
  exact this args _ hv hf

theorem gd_of : ∀ (c : Code), codeOk n c = true → rgsOk msk c = true → codeGd msk n c = true := by
  intro c
  induction c with
  | region id ops d =>
    intro h1 h2
    show (ops.toList.all (dstOk n) && ite2 d (op2 (msk.rg id) true (chkR ops)) true) = true
    rw [Bool.and_eq_true]
    exact ⟨h1, h2⟩
  | seq x y ihx ihy =>
    intro h1 h2
    have h1' : (codeOk n x && codeOk n y) = true := h1
    have h2' : (rgsOk msk x && rgsOk msk y) = true := h2
    rw [Bool.and_eq_true] at h1' h2'
    show (codeGd msk n x && codeGd msk n y) = true
    rw [Bool.and_eq_true]
    exact ⟨ihx h1'.1 h2'.1, ihy h1'.2 h2'.2⟩
  | cond c x y ihx ihy =>
    intro h1 h2
    have h1' : (codeOk n x && codeOk n y) = true := h1
    have h2' : (rgsOk msk x && rgsOk msk y) = true := h2
    rw [Bool.and_eq_true] at h1' h2'
    show (codeGd msk n x && codeGd msk n y) = true
    rw [Bool.and_eq_true]
    exact ⟨ihx h1'.1 h2'.1, ihy h1'.2 h2'.2⟩
  | block id x ih => exact ih
  | loop x ih => exact ih
  | scope x ih => exact ih
  | rangeFunc => intro h; cases h
  | _ => intros; rfl
theorem body_sound (hcall : ∀ d, CallOk P base (w0.at d) call) (hlp : ∀ n, LpOk P base w0 msk n lp) (hgs : ∀ n, GsOk P base w0 msk n gs) {f : FuncId} {args : List Value} {m : Mem} {r : Value × Mem} {ρ : Rho} {w : World} {args' : Array Value}
    (hgd : ∀ fn c, P.funcs[f]? = some fn → fn.body = some c → statOk msk fn c = true) (h : bodyA P msk call lp gs f args m = some r) (hr : Rep P base w0 ρ m w) (hv : VRels P.globals.size ρ args args'.toList) : CallR P f args' w (Ret P base w0 ρ r) := by
  obtain ⟨fn, hfn, h⟩ := ob_some h
  have hfn' : P.funcs[f]? = some fn := by
    have : P.funcs.toList[f]? = some fn := hfn
    simpa using this
  cases hb : fn.body with
  | none =>
    rw [hb] at h
    obtain ⟨hf, h⟩ := bt_some (show bt (args.all flat) (with_ m (next? P (callFunc f ⟨args⟩))) = some r from h)
    obtain ⟨h1, h2⟩ := with_some h
    obtain ⟨hfl, hrun⟩ := next_some h1
    refine .inl ⟨r.1, w, ?_, ρ, Rho.le_refl ρ, VRel.flat hfl, by rw [h2]; exact hr⟩
    rw [flat_args hv hf]; exact hrun w
  | some c =>
    rw [hb] at h
    simp only [op2_is] at h
    obtain ⟨hst, h⟩ := bt_some h
    obtain ⟨hle, h⟩ := bt_some h
    obtain ⟨⟨e, st⟩, hex, h⟩ := ob_some h
    obtain ⟨hend, h⟩ := bt_some h
    obtain ⟨l, hl, h⟩ := ob_some h
    obtain rfl := Option.some.inj h
    have hst0 := hgd fn c hfn' hb
    unfold statOk at hst0
    rw [Bool.and_eq_true] at hst0
    obtain ⟨hrg, hst1⟩ := hst0
    have hst' : (codeOk fn.ntmps c && !(fn.name == "runtime.NumGoroutine")) = true := by
      cases hx : msk.st with
      | true => rw [hx] at hst1; exact hst1
      | false => rw [hx] at hst; exact hst
    rw [Bool.and_eq_true] at hst'
    have hcg : codeGd msk fn.ntmps c = true := gd_of c hst'.1 hrg
    refine .inr ⟨?_, calls_of_wp hfn' hb (wp_mono (exec_sound hcall (hlp fn.ntmps) (hgs fn.ntmps) c _ e st ρ _ w hex hcg (args_rel hr hv (ble_t hle))) ?_)⟩
    · unfold callFunc
      rw [rb (a := P) (w1 := w) rfl, hfn']
      simp only
      have hname : (fn.name == "runtime.NumGoroutine") = false := by simpa using hst'.2
      rw [hname, hb]
      rfl
    · rintro x a w' ⟨rfl, ρ', hle', hs⟩
      obtain ⟨l', hrel, hrun⟩ := run_results hs fn.results.toList l hl
      have hres : (results fn a.tmps).run P w' = .ok (if h : l'.toArray.size = 1 then l'.toArray[0] else .tuple l'.toArray) w' := by
        rw [results_eq, Array.mapM_eq_mapM_toList]
        rw [rb (a := l'.toArray) (w1 := w') (by rw [← bind_pure_comp, rb hrun]; rfl)]
        rfl
      have hR : Ret P base w0 ρ (tupA l, st.mem) (if h : l'.toArray.size = 1 then l'.toArray[0] else .tuple l'.toArray) w' := ⟨ρ', hle', tup_rel hrel, hs.rep⟩
      cases e with
      | normal => exact ⟨hs.fr.defers, _, hres, _, rfl, hR⟩
      | ret => exact ⟨hs.fr.defers, _, hres, _, rfl, hR⟩
      | exit id => cases hend
      | goto l => cases hend

/-! ### the whole -/
def KnownOk (P : Program) (base : Nat) (w0 : Orig) (H : Hints) : Prop := StatOk P H ∧
  ∀ f g, H.known f = some g → ∀ args m r ρ w args', g args m = some r → Rep P base w0 ρ m w → VRels P.globals.size ρ args args'.toList → CallR P f args' w (Ret P base w0 ρ r)

structure TowOk (P : Program) (base : Nat) (w0 : Orig) (T : Tow) : Prop where
  call : CallOk P base w0 T.call
  lp : ∀ msk n, LpOk P base w0 msk n (T.lp msk)
  gs : ∀ msk n, GsOk P base w0 msk n (T.gs msk)

theorem tower_ok {H : Hints} (hk : ∀ d, KnownOk P base (w0.at d) H) : ∀ fuel d, TowOk P base (w0.at d) (tower P H fuel) := by
  intro fuel
  induction fuel with
  | zero => intro d; exact ⟨(fun f args m r ρ w args' h => by cases h), (fun msk n b st e st' ρ a w h => by cases h), (fun msk n b l st e st' ρ a w h => by cases h)⟩
  | succ fuel ih' =>
    intro d
    have ihc : ∀ d', CallOk P base ((w0.at d).at d') (tower P H fuel).call := fun d' => (ih' d').call
    have ih := ih' d
    refine ⟨?_, ?_, ?_⟩
    · intro f args m r ρ w args' h hr hv
      have h' : op2 (ob (H.known f) fun g => g args m) (bodyA P (H.msk f) (tower P H fuel).call ((tower P H fuel).lp (H.msk f)) ((tower P H fuel).gs (H.msk f)) f args m) some = some r := h
      cases hkn : ob (H.known f) (fun g => g args m) with
      | some r' =>
        rw [hkn] at h'
        obtain rfl := Option.some.inj h'
        obtain ⟨g, hg, hr'⟩ := ob_some hkn
        exact (hk d).2 f g hg args m r' ρ w args' hr' hr hv
      | none => rw [hkn] at h'; exact body_sound ihc (ih.lp _) (ih.gs _) ((hk d).1 f) h' hr hv
    · intro msk n b st e st' ρ a w h hc hs f k cs
      obtain ⟨⟨e1, st1⟩, hr, h⟩ := ob_some (show ob (execC P msk (tower P H fuel).call ((tower P H fuel).lp msk) ((tower P H fuel).gs msk) b st) (fun r => goOn ((tower P H fuel).lp msk b) r.1 r.2) = some (e, st') from h)
      obtain ⟨x, a1, w1, ⟨rfl, ρ1, hle, hs1⟩, harr⟩ := exec_sound ihc (ih.lp msk n) (ih.gs msk n) b st e1 st1 ρ a w hr hc hs f (.inLoop b :: k) cs
      cases e1 with
      | normal =>
        obtain ⟨x, a2, w2, ⟨hx, hp⟩, harr2⟩ := ih.lp msk n b st1.clean e st' ρ1 a1 w1 h hc hs1.clean f k cs
        exact ⟨x, a2, w2, ⟨hx, hp.mono hle⟩, .of_steps (Steps.trans harr (.one step_inLoop)) harr2⟩
      | exit id =>
        obtain ⟨rfl, rfl⟩ := Prod.mk.inj (Option.some.inj h)
        exact ⟨_, a1, w1, ⟨rfl, ρ1, hle, hs1⟩, .pass (x := .inLoop b) rfl (fun _ _ => .inl (by simp [toX])) harr⟩
      | goto l =>
        obtain ⟨rfl, rfl⟩ := Prod.mk.inj (Option.some.inj h)
        exact ⟨_, a1, w1, ⟨rfl, ρ1, hle, hs1⟩, .pass (x := .inLoop b) rfl (fun _ _ => .inl (by simp [toX])) harr⟩
      | ret =>
        obtain ⟨rfl, rfl⟩ := Prod.mk.inj (Option.some.inj h)
        exact ⟨_, a1, w1, ⟨rfl, ρ1, hle, hs1⟩, .pass (x := .inLoop b) rfl (fun _ _ => .inl (by simp [toX])) harr⟩
    · intro msk n b l st e st' ρ a w h hc hs
      obtain ⟨rest, hf, h⟩ := ob_some (show ob (findLabel b l) (fun rest => ob (execC P msk (tower P H fuel).call ((tower P H fuel).lp msk) ((tower P H fuel).gs msk) rest st) fun r => gotoA b ((tower P H fuel).gs msk b) r.1 r.2) = some (e, st') from h)
      obtain ⟨⟨e1, st1⟩, hr, h⟩ := ob_some h
      refine ⟨rest, hf, fun f k cs => ?_⟩
      obtain ⟨x, a1, w1, ⟨rfl, ρ1, hle, hs1⟩, harr⟩ := exec_sound ihc (ih.lp msk n) (ih.gs msk n) rest st e1 st1 ρ a w hr (label_ok b rest hf hc) hs f (.inScope b :: k) cs
      cases e1 with
      | normal =>
        obtain ⟨rfl, rfl⟩ := Prod.mk.inj (Option.some.inj h)
        exact ⟨_, a1, w1, ⟨rfl, ρ1, hle, hs1⟩, Steps.trans harr (.one step_inScope)⟩
      | exit id =>
        obtain ⟨rfl, rfl⟩ := Prod.mk.inj (Option.some.inj h)
        exact ⟨_, a1, w1, ⟨rfl, ρ1, hle, hs1⟩, fun k' hk => harr k' (by simp [exitTo, hk])⟩
      | ret =>
        obtain ⟨rfl, rfl⟩ := Prod.mk.inj (Option.some.inj h)
        exact ⟨_, a1, w1, ⟨rfl, ρ1, hle, hs1⟩, harr⟩
      | goto l' =>
        have h' : op2 (findLabel b l') (some (Ex.goto l', st1)) (fun _ => (tower P H fuel).gs msk b l' st1.clean) = some (e, st') := h
        cases hf' : findLabel b l' with
        | none =>
          rw [hf'] at h'
          obtain ⟨rfl, rfl⟩ := Prod.mk.inj (Option.some.inj h')
          exact ⟨_, a1, w1, ⟨rfl, ρ1, hle, hs1⟩, fun k' hk => harr k' (by simp [gotoIn, hf', hk])⟩
        | some rest2 =>
          rw [hf'] at h'
          obtain ⟨rest3, hf3, hrun⟩ := ih.gs msk n b l' st1.clean e st' ρ1 a1 w1 h' hc hs1.clean
          rw [hf'] at hf3; obtain rfl := Option.some.inj hf3
          obtain ⟨x, a2, w2, ⟨hx, hp⟩, harr2⟩ := hrun f k cs
          refine ⟨x, a2, w2, ⟨hx, hp.mono hle⟩, .of_steps (harr _ ?_) harr2⟩
          simp [gotoIn, hf']

/-- WHAT THE ABSTRACT MACHINE SAYS OF A CALL, THE MODEL DOES. -/
theorem run_sound {H : Hints} (hk : ∀ d, KnownOk P base (w0.at d) H) {fuel : Nat} {f : FuncId} {args : List Value} {m : Mem} {r : Value × Mem} {ρ : Rho} {w : World} {args' : Array Value} (h : run P H fuel f args m = some r)
    (hr : Rep P base w0 ρ m w) (hv : VRels P.globals.size ρ args args'.toList) : CallR P f args' w (Ret P base w0 ρ r) :=
  (tower_ok hk fuel w0.pend).call f args m r ρ w args' h hr hv
end
end Go.Am
namespace Go.Am
open Go.RowKit
noncomputable section

/-- where the ghosts stand. -/
def ghRho (nw : Nat) (vs : List Value) : Rho := fun b => if b < nw then some ⟨b, 0, 0, undef⟩ else if b = nw then none else (vs[b - nw - 1]?).map fun v => ⟨0, 0, 0, v⟩
def ghost (P : Program) (j : Nat) : Value := .chan (some (P.globals.size + 1 + j))
def ghosts (P : Program) (n : Nat) : List Value := (List.range n).map (ghost P)
def mem0 (P : Program) (n : Nat) : Mem := { b := .e, nx := P.globals.size + 1 + n }

section
variable {P : Program} {vs : List Value} {w : World}

def orig (P : Program) (vs : List Value) (w : World) : Orig := ⟨w, ghRho P.globals.size vs, fun _ => False⟩
theorem start : Rep P w.heap.size (orig P vs w) (ghRho P.globals.size vs) (mem0 P vs.length) w where
  dom := fun b k s h => by cases h
  nx := fun b s h => by
    show b < P.globals.size + 1 + vs.length
    unfold ghRho at h
    split at h
    · omega
    · split at h
      · cases h
      · obtain ⟨v, hv, _⟩ := Option.map_eq_some_iff.1 h
        have := (List.getElem?_eq_some_iff.1 hv).1
        omega
  top := ⟨(fun b k h => by cases h), (fun b (h : False) => h.elim)⟩
  sep := fun b1 b2 k1 k2 s1 s2 _ h => by cases h
  below := Bel.refl _ _
  size := Nat.le_refl _
  glob := ⟨fun g hg => by unfold ghRho; rw [if_pos hg], fun _ _ h => h⟩
  now := ⟨⟨by show P.globals.size < P.globals.size + 1 + vs.length; omega, fun k h => by cases h⟩, by unfold ghRho; rw [if_neg (Nat.lt_irrefl _), if_pos rfl]⟩

theorem ghost_at {j : Nat} {v : Value} (h : vs[j]? = some v) : ghRho P.globals.size vs (P.globals.size + 1 + j) = some ⟨0, 0, 0, v⟩ := by
  unfold ghRho
  rw [if_neg (by omega), if_neg (by omega), show P.globals.size + 1 + j - P.globals.size - 1 = j from by omega, h]; rfl
theorem ghost_rel {j : Nat} {v : Value} (h : vs[j]? = some v) (ho : okCell v = true) : VRel P.globals.size (ghRho P.globals.size vs) (ghost P j) v :=
  VRel.ghost _ ⟨0, 0, 0, v⟩ (ghost_at h) ho
theorem ghosts_rel (ho : vs.all okCell = true) : VRels P.globals.size (ghRho P.globals.size vs) (ghosts P vs.length) vs := by
  refine ⟨by simp [ghosts], fun i v v' h1 h2 => ?_⟩
  have hi : i < vs.length := (List.getElem?_eq_some_iff.1 h2).1
  have hg : (ghosts P vs.length)[i]? = some (ghost P i) := by simp [ghosts, hi]
  rw [hg] at h1; obtain rfl := Option.some.inj h1
  exact ghost_rel h2 (List.all_eq_true.1 ho v' (List.mem_of_getElem? h2))
end

/-- is it true? -/
def yes : Res → Bool
  | some (.bool b, _) => b
  | _ => false
theorem yes_some {r : Res} (h : yes r = true) : ∃ m, r = some (.bool true, m) := by
  cases r with
  | none => cases h
  | some p =>
    obtain ⟨v, m⟩ := p
    cases v with
    | bool b => cases b with
      | true => exact ⟨m, rfl⟩
      | false => cases h
    | _ => cases h

/-- what is entered, not answered from outside. -/
theorem call_enters {P : Program} {f : FuncId} {fn : Func} {args : Array Value} {w : World} (h : P.funcs[f]? = some fn) (hn : (fn.name == "runtime.NumGoroutine") = false) (hb : fn.body.isNone = false) :
    (callFunc f args).run P w = .ok (.enter f args) w := by
  unfold callFunc
  rw [rb (a := P) (w1 := w) rfl, h]
  simp only
  rw [hn, hb]
  rfl

/-- a function that answers one value and leaves what was there. -/
def Says (P : Program) (f : FuncId) (args : Array Value) (v : Value) : Prop := ∀ w : World, Calls P f args w fun e w' => e = .returned v ∧ Bel w.heap.size w w'

theorem Rep.later {P : Program} {base : Nat} {w0 : Orig} {ρ : Rho} {m : Mem} {w w' : World} (h : Rep P base w0 ρ m w) (hb : Bel w.heap.size w w') : Rep P base w0 ρ m w' :=
  h.more hb.size (fun j hj => hb.block j hj) (h.below.trans (hb.mono h.size))

/-- a known answer that changes no memory. -/
theorem known_says {P : Program} {base : Nat} {w0 : Orig} {ρ : Rho} {m : Mem} {w : World} {f : FuncId} {fn : Func} {args : Array Value} {v : Value} (hf : P.funcs[f]? = some fn) (hn : (fn.name == "runtime.NumGoroutine") = false) (hb : fn.body.isNone = false)
    (hs : Says P f args v) (hv : scal v = true) (hr : Rep P base w0 ρ m w) : CallR P f args w (Ret P base w0 ρ (v, m)) :=
  .inr ⟨call_enters hf hn hb, (hs w).mono fun _ _ ⟨he, hb⟩ => ⟨v, he, ρ, Rho.le_refl ρ, VRel.scal v hv, hr.later hb⟩⟩

theorem law_calls {P : Program} {H : Hints} {vs : List Value} {fuel : Nat} {f : FuncId} {fn : Func} (hk : ∀ w d, KnownOk P w.heap.size ((orig P vs w).at d) H) (ho : vs.all okCell = true)
    (hf : P.funcs[f]? = some fn) (hn : (fn.name == "runtime.NumGoroutine") = false) (hb : fn.body.isNone = false)
    (h : yes (run P H fuel f (ghosts P vs.length) (mem0 P vs.length)) = true) : Says P f vs.toArray (.bool true) := by
  intro w
  obtain ⟨m, hr⟩ := yes_some h
  rcases run_sound (hk w) hr (start (vs := vs)) (args' := vs.toArray) (by simpa using ghosts_rel ho) with ⟨v', w', he, _⟩ | ⟨_, hc⟩
  · rw [call_enters hf hn hb] at he; cases he
  · refine hc.mono fun e w' ⟨v', he, ρ', _, hv, hr⟩ => ?_
    rw [hv.bool_inv] at he
    exact ⟨he, hr.below⟩

/-! ### a number taken within -/
/-- that a number, taken within another, is so. -/
structure Mod where
  j : Nat
  k : Nat
  x : Nat
def modAt (l : List Mod) (j k : Nat) : Option Nat :=
  List.rec (motive := fun _ => Option Nat) none (fun q _ ih => ite2 (Nat.beq q.j j && Nat.beq q.k k) (some q.x) ih) l
def ghostOf (nw : Nat) : Value → Option Nat
  | .chan (some b) => bt (Nat.blt nw b) (some (Nat.sub b (Nat.succ nw)))
  | _ => none
def small? (v : Value) : Option Nat := ob (asInt? v) fun p => bt (ikEq .i64 p.1) (ob (nat? p.2) fun n => bt (Nat.blt 0 n && Nat.blt n 1000000) (some n))
def withinG (nw : Nat) (l : List Mod) (args : List Value) (m : Mem) : Res :=
  ob (arg2 args) fun a => ob (small? a.2) fun k => op2 (ghostOf nw a.1) (ob (asInt? a.1) fun p => bt (ikEq .i64 p.1) (some (.int .i64 (p.2 % (.ofNat k)), m))) fun j => ob (modAt l j k) fun x => some (.int .i64 (.ofNat x), m)
/-- what a law's 'within' does. -/
def Within (P : Program) (f : FuncId) : Prop := ∀ (n k : Int) (w : World), 0 < k → k < 1000000 → Calls P f #[.int .i64 n, .int .i64 k] w fun e w' => e = .returned (.int .i64 (n % k)) ∧ w' = w
def ModsOk (vs : List Value) (l : List Mod) : Prop := ∀ q ∈ l, ∃ n : Int, vs[q.j]? = some (.int .i64 n) ∧ n % (q.k : Int) = (q.x : Int)

theorem modAt_some {vs : List Value} : ∀ {l : List Mod} {j k x : Nat}, ModsOk vs l → modAt l j k = some x → ∃ n : Int, vs[j]? = some (.int .i64 n) ∧ n % (k : Int) = (x : Int) := by
  intro l
  induction l with
  | nil => intro j k x _ h; cases h
  | cons q l ih =>
    intro j k x hl h
    have h' : ite2 (Nat.beq q.j j && Nat.beq q.k k) (some q.x) (modAt l j k) = some x := h
    cases hb : (Nat.beq q.j j && Nat.beq q.k k) with
    | true =>
      rw [hb] at h'
      obtain rfl := Option.some.inj h'
      rw [Bool.and_eq_true] at hb
      obtain ⟨n, h1, h2⟩ := hl q (List.mem_cons_self ..)
      rw [beq_t hb.1] at h1; rw [beq_t hb.2] at h2
      exact ⟨n, h1, h2⟩
    | false =>
      rw [hb] at h'
      exact ih (fun q hq => hl q (List.mem_cons_of_mem _ hq)) h'

theorem asInt_some' {v : Value} {p : IntKind × Int} (h : asInt? v = some p) : v = .int p.1 p.2 := by
  cases v <;> first | (cases h; done) | skip
  obtain rfl := Option.some.inj h; rfl
theorem ik_i64 {k : IntKind} (h : ikEq .i64 k = true) : k = .i64 := by cases k <;> first | rfl | cases h
theorem small_some {v : Value} {k : Nat} (h : small? v = some k) : v = .int .i64 (k : Int) ∧ 0 < k ∧ k < 1000000 := by
  obtain ⟨⟨kd, i⟩, hp, h⟩ := ob_some h
  obtain ⟨he, h⟩ := bt_some h
  obtain ⟨n, hn, h⟩ := ob_some h
  obtain ⟨hlt, h⟩ := bt_some h
  obtain rfl := Option.some.inj h
  rw [Bool.and_eq_true] at hlt
  rw [asInt_some' hp]
  obtain rfl := ik_i64 he
  cases i with
  | ofNat i => obtain rfl := Option.some.inj hn; exact ⟨rfl, blt_t hlt.1, blt_t hlt.2⟩
  | negSucc i => cases hn
theorem ghostOf_some {nw : Nat} {v : Value} {j : Nat} (h : ghostOf nw v = some j) : v = .chan (some (nw + 1 + j)) := by
  unfold ghostOf at h
  split at h
  · obtain ⟨hlt, h⟩ := bt_some h
    have h1 := blt_t hlt
    have h2 : _ - (nw + 1) = j := Option.some.inj h
    congr 2; omega
  · cases h
theorem VRel.ghost_inv {nw : Nat} {ρ : Rho} {b : Nat} {v' : Value} (h : VRel nw ρ (.chan (some b)) v') : ∃ s, ρ b = some s ∧ v' = s.gh := by
  generalize hx : Value.chan (some b) = x at h
  cases h with
  | scal v hs => subst hx; cases hs
  | ghost b' s hs _ => obtain rfl := Option.some.inj (Value.chan.inj hx); exact ⟨s, hs, rfl⟩
  | _ => simp [Am.ptr, Am.slc] at hx

theorem within_ok {P : Program} {f : FuncId} {fn : Func} {vs : List Value} {l : List Mod} (hf : P.funcs[f]? = some fn) (hn : (fn.name == "runtime.NumGoroutine") = false) (hb : fn.body.isNone = false)
    (hw : Within P f) (hl : ModsOk vs l) {base : Nat} {wo : World} {d : Nat → Prop} {args : List Value} {m : Mem} {r : Value × Mem} {ρ : Rho} {w : World} {args' : Array Value}
    (h : withinG P.globals.size l args m = some r) (hr : Rep P base ((orig P vs wo).at d) ρ m w) (hv : VRels P.globals.size ρ args args'.toList) : CallR P f args' w (Ret P base ((orig P vs wo).at d) ρ r) := by
  obtain ⟨a, ha, hA⟩ := ob_some h
  obtain ⟨k, hk, hB⟩ := ob_some hA
  clear h hA
  obtain ⟨a1, a2⟩ := a
  obtain rfl := arg2_some ha
  obtain ⟨hk', k0, k1⟩ := small_some hk
  simp only at hk'
  subst hk'
  obtain ⟨v', l', hl', h1, h2⟩ := hv.inv_cons
  obtain ⟨v2, l2, rfl, h3, h4⟩ := h2.inv_cons
  obtain rfl := h4.inv_nil
  obtain rfl := h3.int_inv
  have fin : ∀ n : Int, v' = .int .i64 n → r = (.int .i64 (n % (k : Int)), m) → CallR P f args' w (Ret P base ((orig P vs wo).at d) ρ r) := by
    intro n hn' hr'
    have e : args' = #[.int .i64 n, .int .i64 (k : Int)] := by rw [← Array.toList_inj, hl', hn']
    subst e; subst hr'
    refine .inr ⟨call_enters hf hn hb, (hw n k w (by omega) (by omega)).mono fun _ w' ⟨he, hw'⟩ => ?_⟩
    subst hw'
    exact ⟨_, he, ρ, Rho.le_refl ρ, VRel.scal _ rfl, hr⟩
  have h' : op2 (ghostOf P.globals.size a1) (ob (asInt? a1) fun p => bt (ikEq .i64 p.1) (some (Value.int .i64 (p.2 % (.ofNat k)), m))) (fun j => ob (modAt l j k) fun x => some (.int .i64 (.ofNat x), m)) = some r := hB
  cases hg : ghostOf P.globals.size a1 with
  | some j =>
    rw [hg] at h'
    obtain ⟨x, hx, h'⟩ := ob_some h'
    obtain ⟨n, hn1, hn2⟩ := modAt_some hl hx
    have ha1 := ghostOf_some hg
    simp only at h1
    rw [ha1] at h1
    obtain ⟨s, hs, rfl⟩ := h1.ghost_inv
    have := hr.glob.2 _ _ (ghost_at (P := P) hn1)
    rw [hs] at this
    obtain rfl := Option.some.inj this
    refine fin n rfl ?_
    rw [hn2]; exact (Option.some.inj h').symm
  | none =>
    rw [hg] at h'
    obtain ⟨⟨kd, n⟩, hp, h'⟩ := ob_some (show ob (asInt? a1) (fun p => bt (ikEq .i64 p.1) (some (Value.int .i64 (p.2 % (Int.ofNat k)), m))) = some r from h')
    obtain ⟨he, h'⟩ := bt_some h'
    obtain rfl := ik_i64 he
    obtain rfl := asInt_some' hp
    exact fin n h1.int_inv (Option.some.inj h').symm

/-! ### hints, put together -/
/-- a hint that holds. -/
def HintOk (P : Program) (base : Nat) (wo : Orig) (f : FuncId) (g : List Value → Mem → Res) : Prop :=
  ∀ args m r ρ w args', g args m = some r → Rep P base wo ρ m w → VRels P.globals.size ρ args args'.toList → CallR P f args' w (Ret P base wo ρ r)
abbrev Hint := FuncId × (List Value → Mem → Res)
def find (l : List Hint) (f : FuncId) : Option (List Value → Mem → Res) :=
  List.rec (motive := fun _ => Option (List Value → Mem → Res)) none (fun p _ ih => ite2 (Nat.beq p.1 f) (some p.2) ih) l
def fiAt (l : List FI) (i : Nat) : FI := op2 (l[i]?) ⟨0, [], false⟩ fun n => n
def fisOk (P : Program) (l : List FI) : Bool := (List.range P.funcs.toList.length).all fun f => op2 (P.funcs.toList[f]?) true fun fn => op2 fn.body true fun c => statOk (fiAt l f) fn c
/-- what is told of a program's functions. -/
structure Masks (P : Program) where
  l : List FI
  ok : fisOk P l = true
def hints {P : Program} (M : Masks P) (l : List Hint) : Hints := ⟨fiAt M.l, find l⟩
theorem stat_ok {P : Program} (M : Masks P) (l : List Hint) : StatOk P (hints M l) := by
  intro f fn c hf hc
  have hlt : f < P.funcs.toList.length := by
    have := (Array.getElem?_eq_some_iff.1 hf).1
    simpa using this
  have h := List.all_eq_true.1 M.ok f (List.mem_range.2 hlt)
  have e : P.funcs.toList[f]? = some fn := by simpa using hf
  rw [e] at h
  have h' : op2 fn.body true (fun c => statOk (fiAt M.l f) fn c) = true := h
  rw [hc] at h'
  exact h'
theorem hints_ok {P : Program} {base : Nat} {wo : Orig} {M : Masks P} {l : List Hint} (h : ∀ p ∈ l, HintOk P base wo p.1 p.2) : KnownOk P base wo (hints M l) := by
  refine ⟨stat_ok M l, ?_⟩
  intro f g hg
  have : ∀ l : List Hint, (∀ p ∈ l, HintOk P base wo p.1 p.2) → find l f = some g → HintOk P base wo f g := by
    intro l
    induction l with
    | nil => intro _ h; cases h
    | cons p l ih =>
      intro hl h
      have h' : ite2 (Nat.beq p.1 f) (some p.2) (find l f) = some g := h
      cases hb : Nat.beq p.1 f with
      | true =>
        rw [hb] at h'
        obtain rfl := Option.some.inj h'
        rw [← beq_t hb]; exact hl p (List.mem_cons_self ..)
      | false => rw [hb] at h'; exact ih (fun q hq => hl q (List.mem_cons_of_mem _ hq)) h'
  exact this l h hg

/-- answers by a table: of scalars. -/
def tabG (l : List (List Value × Value)) (args : List Value) (m : Mem) : Res :=
  List.rec (motive := fun _ => Res) none (fun p _ ih => ite2 (eqVs eqV1 p.1 args) (some (p.2, m)) ih) l
theorem tab_ok {P : Program} {base : Nat} {wo : Orig} {f : FuncId} {fn : Func} (hf : P.funcs[f]? = some fn) (hn : (fn.name == "runtime.NumGoroutine") = false) (hb : fn.body.isNone = false) {l : List (List Value × Value)}
    (h : ∀ p ∈ l, p.1.all scal = true ∧ flat p.2 = true ∧ Says P f ⟨p.1⟩ p.2) : HintOk P base wo f (tabG l) := by
  intro args m r ρ w args' hg hr hv
  induction l with
  | nil => cases hg
  | cons p l ih =>
    have h' : ite2 (eqVs eqV1 p.1 args) (some (p.2, m)) (tabG l args m) = some r := hg
    cases he : eqVs eqV1 p.1 args with
    | true =>
      rw [he] at h'
      obtain rfl := Option.some.inj h'
      obtain ⟨h1, h2, h3⟩ := h p (List.mem_cons_self ..)
      have e := eqVs_t (fun _ _ h => eqV1_t h) _ _ he
      subst e
      have e' : args' = ⟨p.1⟩ := Array.toList_inj.1 (hv.of_scal h1)
      subst e'
      exact .inr ⟨call_enters hf hn hb, (h3 w).mono fun _ _ ⟨he, hb⟩ => ⟨p.2, he, ρ, Rho.le_refl ρ, VRel.flat h2, hr.later hb⟩⟩
    | false => rw [he] at h'; exact ih (fun q hq => h q (List.mem_cons_of_mem _ hq)) h'
theorem VRels.flat {nw : Nat} {ρ : Rho} {l : List Value} (h : l.all Am.flat = true) : VRels nw ρ l l := by
  refine ⟨rfl, fun i v v' h1 h2 => ?_⟩
  rw [h1] at h2; obtain rfl := Option.some.inj h2
  exact .flat (List.all_eq_true.1 h v (List.mem_of_getElem? h1))
theorem VRels.of_flat {nw : Nat} {ρ : Rho} {l l' : List Value} (h : VRels nw ρ l l') (hs : l.all Am.flat = true) : l' = l := by
  induction l generalizing l' with
  | nil => exact h.inv_nil
  | cons v l ih =>
    obtain ⟨v', r', rfl, h1, h2⟩ := h.inv_cons
    simp only [List.all_cons, Bool.and_eq_true] at hs
    rw [h1.of_flat hs.1, ih h2 hs.2]
/-- flat, or a row of flat ones. -/
def flat2 (v : Value) : Bool :=
  match v with
  | .agg cs => cs.toList.all flat
  | .tuple cs => cs.toList.all flat
  | v => scal v
theorem VRel.flat2 {nw : Nat} {ρ : Rho} {v : Value} (h : Am.flat2 v = true) : VRel nw ρ v v := by
  cases v with
  | agg cs => exact .agg _ _ rfl (VRels.flat (l := cs.toList) h).at_
  | tuple cs => exact .tuple _ _ rfl (VRels.flat (l := cs.toList) h).at_
  | _ => exact .scal _ h
theorem VRel.of_flat2 {nw : Nat} {ρ : Rho} {v v' : Value} (h : VRel nw ρ v v') (hs : Am.flat2 v = true) : v' = v := by
  cases v with
  | agg cs => obtain ⟨a', rfl, h1⟩ := h.agg_inv; rw [Array.toList_inj.1 (VRels.of_flat h1 (show cs.toList.all Am.flat = true from hs))]
  | tuple cs => obtain ⟨a', rfl, h1⟩ := h.tuple_inv; rw [Array.toList_inj.1 (VRels.of_flat h1 (show cs.toList.all Am.flat = true from hs))]
  | _ => exact h.of_scal hs
/-- answers by a table: of flat values. -/
def tabF (l : List (List Value × Value)) (args : List Value) (m : Mem) : Res :=
  List.rec (motive := fun _ => Res) none (fun p _ ih => ite2 (eqVs eqV p.1 args) (some (p.2, m)) ih) l
theorem tabF_ok {P : Program} {base : Nat} {wo : Orig} {f : FuncId} {fn : Func} (hf : P.funcs[f]? = some fn) (hn : (fn.name == "runtime.NumGoroutine") = false) (hb : fn.body.isNone = false) {l : List (List Value × Value)}
    (h : ∀ p ∈ l, p.1.all flat = true ∧ flat2 p.2 = true ∧ Says P f ⟨p.1⟩ p.2) : HintOk P base wo f (tabF l) := by
  intro args m r ρ w args' hg hr hv
  induction l with
  | nil => cases hg
  | cons p l ih =>
    have h' : ite2 (eqVs eqV p.1 args) (some (p.2, m)) (tabF l args m) = some r := hg
    cases he : eqVs eqV p.1 args with
    | true =>
      rw [he] at h'
      obtain rfl := Option.some.inj h'
      obtain ⟨h1, h2, h3⟩ := h p (List.mem_cons_self ..)
      have e := eqVs_t (fun _ _ h => eqV_t h) _ _ he
      subst e
      have e' : args' = ⟨p.1⟩ := Array.toList_inj.1 (hv.of_flat h1)
      subst e'
      exact .inr ⟨call_enters hf hn hb, (h3 w).mono fun _ _ ⟨he, hb⟩ => ⟨p.2, he, ρ, Rho.le_refl ρ, VRel.flat2 h2, hr.later hb⟩⟩
    | false => rw [he] at h'; exact ih (fun q hq => h q (List.mem_cons_of_mem _ hq)) h'
theorem hint_within {P : Program} {f : FuncId} {fn : Func} {vs : List Value} {l : List Mod} (hf : P.funcs[f]? = some fn) (hn : (fn.name == "runtime.NumGoroutine") = false) (hb : fn.body.isNone = false)
    (hw : Within P f) (hl : ModsOk vs l) {base : Nat} {wo : World} {d : Nat → Prop} : HintOk P base ((orig P vs wo).at d) f (withinG P.globals.size l) :=
  fun _ _ _ _ _ _ h hr hv => within_ok hf hn hb hw hl h hr hv

/-- the answer is one flat value. -/
def answers (v : Value) (r : Res) : Bool := op2 r false fun p => eqV p.1 v
/-- a call of ghosts answers one flat value. -/
theorem says_of_ghosts {P : Program} {H : Hints} {vs : List Value} {fuel : Nat} {f : FuncId} {fn : Func} {v : Value} (hk : ∀ w d, KnownOk P w.heap.size ((orig P vs w).at d) H) (ho : vs.all okCell = true)
    (hf : P.funcs[f]? = some fn) (hn : (fn.name == "runtime.NumGoroutine") = false) (hb : fn.body.isNone = false) (hv : flat2 v = true)
    (h : answers v (run P H fuel f (ghosts P vs.length) (mem0 P vs.length)) = true) : Says P f ⟨vs⟩ v := by
  intro w
  cases hr : run P H fuel f (ghosts P vs.length) (mem0 P vs.length) with
  | none => rw [hr] at h; cases h
  | some r =>
    rw [hr] at h
    have e : r.1 = v := eqV_t h
    rcases run_sound (hk w) hr (start (vs := vs) (w := w)) (args' := ⟨vs⟩) (ghosts_rel ho) with ⟨v', w', he, _⟩ | ⟨_, hc⟩
    · rw [call_enters hf hn hb] at he; cases he
    · refine hc.mono fun x w' ⟨v', he, ρ', _, hv', hr⟩ => ?_
      rw [e] at hv'
      rw [hv'.of_flat2 hv] at he
      exact ⟨he, hr.below⟩
/-- answers to a ghost. -/
structure GRow where
  j : Nat
  v : Value
def gfind (l : List GRow) (j : Nat) (m : Mem) : Res := List.rec (motive := fun _ => Res) none (fun q _ ih => ite2 (Nat.beq q.j j) (some (q.v, m)) ih) l
def ghostG (nw : Nat) (l : List GRow) (args : List Value) (m : Mem) : Res :=
  ob (arg1 args) fun a => ob (ghostOf nw a) fun j => gfind l j m
theorem ghostG_ok {P : Program} {f : FuncId} {fn : Func} {vs : List Value} {l : List GRow} (hf : P.funcs[f]? = some fn) (hn : (fn.name == "runtime.NumGoroutine") = false) (hb : fn.body.isNone = false)
    (hl : ∀ q ∈ l, flat2 q.v = true ∧ ∃ u, vs[q.j]? = some u ∧ Says P f #[u] q.v) {base : Nat} {wo : World} {d : Nat → Prop} : HintOk P base ((orig P vs wo).at d) f (ghostG P.globals.size l) := by
  intro args m r ρ w args' h hr hv
  obtain ⟨a, ha, h1'⟩ := ob_some h
  obtain ⟨j, hj, hg⟩ := ob_some h1'
  have e1 : args = [a] := by
    cases args with
    | nil => cases ha
    | cons x l => cases l with
      | nil => rw [Option.some.inj ha]
      | cons y l => cases ha
  subst e1
  rw [ghostOf_some hj] at hv
  obtain ⟨v', l', hl', h1, h2⟩ := hv.inv_cons
  obtain rfl := h2.inv_nil
  obtain ⟨s, hs, rfl⟩ := h1.ghost_inv
  have e2 : args' = #[s.gh] := by rw [← Array.toList_inj, hl']
  subst e2
  clear ha hv hl' h1 h2 h h1'
  induction l with
  | nil => cases hg
  | cons q l ih =>
    have h' : ite2 (Nat.beq q.j j) (some (q.v, m)) (gfind l j m) = some r := hg
    cases he : Nat.beq q.j j with
    | true =>
      rw [he] at h'
      obtain rfl := Option.some.inj h'
      obtain ⟨g1, u, g2, g3⟩ := hl q (List.mem_cons_self ..)
      rw [beq_t he] at g2
      have := hr.glob.2 _ _ (ghost_at (P := P) g2)
      rw [hs] at this
      obtain rfl := Option.some.inj this
      exact .inr ⟨call_enters hf hn hb, (g3 w).mono fun _ _ ⟨he, hb⟩ => ⟨q.v, he, ρ, Rho.le_refl ρ, VRel.flat2 g1, hr.later hb⟩⟩
    | false => rw [he] at h'; exact ih (fun q hq => hl q (List.mem_cons_of_mem _ hq)) h'
theorem says_of_run {P : Program} {H : Hints} {vs : List Value} {fuel : Nat} {f : FuncId} {fn : Func} {v : Value} (hk : ∀ w d, KnownOk P w.heap.size ((orig P [] w).at d) H)
    (hf : P.funcs[f]? = some fn) (hn : (fn.name == "runtime.NumGoroutine") = false) (hb : fn.body.isNone = false) (hs : vs.all flat = true) (hv : flat2 v = true)
    (h : answers v (run P H fuel f vs (mem0 P 0)) = true) : Says P f ⟨vs⟩ v := by
  intro w
  cases hr : run P H fuel f vs (mem0 P 0) with
  | none => rw [hr] at h; cases h
  | some r =>
    rw [hr] at h
    have e : r.1 = v := eqV_t h
    rcases run_sound (hk w) hr (start (vs := []) (w := w)) (args' := ⟨vs⟩) (VRels.flat hs) with ⟨v', w', he, _⟩ | ⟨_, hc⟩
    · rw [call_enters hf hn hb] at he; cases he
    · refine hc.mono fun x w' ⟨v', he, ρ', _, hv', hr⟩ => ?_
      rw [e] at hv'
      rw [hv'.of_flat2 hv] at he
      exact ⟨he, hr.below⟩
/-! ### pure functions -/
def pureG (g : List Value → Option Value) (args : List Value) (m : Mem) : Res := ob (g args) fun v => some (v, m)
theorem pureG_ok {P : Program} {base : Nat} {wo : Orig} {f : FuncId} {fn : Func} {g : List Value → Option Value} (hf : P.funcs[f]? = some fn) (hn : (fn.name == "runtime.NumGoroutine") = false) (hb : fn.body.isNone = false)
    (h : ∀ args v, g args = some v → args.all flat = true ∧ flat2 v = true ∧ ∀ w : World, Bel base wo.w w → Calls P f ⟨args⟩ w fun e w' => e = .returned v ∧ Bel w.heap.size w w') : HintOk P base wo f (pureG g) := by
  intro args m r ρ w args' hg hr hv
  obtain ⟨v, hgv, h'⟩ := ob_some hg
  obtain rfl := Option.some.inj h'
  obtain ⟨h1, h2, h3⟩ := h args v hgv
  have e' : args' = ⟨args⟩ := Array.toList_inj.1 (hv.of_flat h1)
  subst e'
  exact .inr ⟨call_enters hf hn hb, (h3 w hr.below).mono fun _ _ ⟨he, hb⟩ => ⟨v, he, ρ, Rho.le_refl ρ, VRel.flat2 h2, hr.later hb⟩⟩
/-- a law at one world. -/
theorem law_calls_at {P : Program} {H : Hints} {vs : List Value} {fuel : Nat} {f : FuncId} {fn : Func} {w : World} (hk : ∀ d, KnownOk P w.heap.size ((orig P vs w).at d) H) (ho : vs.all okCell = true)
    (hf : P.funcs[f]? = some fn) (hn : (fn.name == "runtime.NumGoroutine") = false) (hb : fn.body.isNone = false)
    (h : yes (run P H fuel f (ghosts P vs.length) (mem0 P vs.length)) = true) : Calls P f vs.toArray w fun e w' => e = .returned (.bool true) ∧ Bel w.heap.size w w' := by
  obtain ⟨m, hr⟩ := yes_some h
  rcases run_sound hk hr (start (vs := vs)) (args' := vs.toArray) (by simpa using ghosts_rel ho) with ⟨v', w', he, _⟩ | ⟨_, hc⟩
  · rw [call_enters hf hn hb] at he; cases he
  · refine hc.mono fun e w' ⟨v', he, ρ', _, hv, hr⟩ => ?_
    rw [hv.bool_inv] at he
    exact ⟨he, hr.below⟩
/-- a law of ghosts and of plain values. -/
theorem law_calls_args {P : Program} {H : Hints} {vs args : List Value} {fuel : Nat} {f : FuncId} {fn : Func} {w : World} (hk : ∀ d, KnownOk P w.heap.size ((orig P vs w).at d) H) (ho : vs.all okCell = true)
    (hl : args.length = vs.length) (ha : ∀ i v v', args[i]? = some v → vs[i]? = some v' → v = ghost P i ∨ (v = v' ∧ flat v = true))
    (hf : P.funcs[f]? = some fn) (hn : (fn.name == "runtime.NumGoroutine") = false) (hb : fn.body.isNone = false)
    (h : yes (run P H fuel f args (mem0 P vs.length)) = true) : Calls P f vs.toArray w fun e w' => e = .returned (.bool true) ∧ Bel w.heap.size w w' := by
  obtain ⟨m, hr⟩ := yes_some h
  have hrel : VRels P.globals.size (ghRho P.globals.size vs) args vs := by
    refine ⟨hl, fun i v v' h1 h2 => ?_⟩
    rcases ha i v v' h1 h2 with rfl | ⟨rfl, hfl⟩
    · exact ghost_rel h2 (List.all_eq_true.1 ho v' (List.mem_of_getElem? h2))
    · exact VRel.flat hfl
  rcases run_sound hk hr (start (vs := vs)) (args' := vs.toArray) (by simpa using hrel) with ⟨v', w', he, _⟩ | ⟨_, hc⟩
  · rw [call_enters hf hn hb] at he; cases he
  · refine hc.mono fun e w' ⟨v', he, ρ', _, hv, hr⟩ => ?_
    rw [hv.bool_inv] at he
    exact ⟨he, hr.below⟩
/-- two texts. -/
def str2? : List Value → Option (ByteArray × ByteArray)
  | [.string a, .string b] => some (a, b)
  | _ => none
theorem str2_some {l : List Value} {p : ByteArray × ByteArray} (h : str2? l = some p) : l = [.string p.1, .string p.2] := by
  unfold str2? at h
  split at h
  · obtain rfl := Option.some.inj h; rfl
  · cases h
def containsG (args : List Value) : Option Value := ob (str2? args) fun p => bt (Nat.ble (lenS p.1) 1000000) (some (.bool (Lib.contains (strL p.1) (strL p.2))))
theorem contains_ok {P : Program} {wo : Orig} {base : Nat} {f g : Nat} {fn : Func} {x : Int} (hf : P.funcs[f]? = some fn) (hn : (fn.name == "runtime.NumGoroutine") = false) (hb : fn.body.isNone = false)
    (hc : ∀ (s sub : ByteArray) (m : Int) (w : World), s.size < 4294967281 → w.cell? ⟨g, 0, none⟩ = some (.int .i64 m) → Calls P f #[.string s, .string sub] w fun e w' => e = .returned (.bool (Lib.contains s.data.toList sub.data.toList)) ∧ w' = w)
    (hg : g < base) (hm : wo.w.cell? ⟨g, 0, none⟩ = some (.int .i64 x)) : HintOk P base wo f (pureG containsG) := by
  refine pureG_ok hf hn hb fun args v hv => ?_
  obtain ⟨p, hp, hv⟩ := ob_some hv
  obtain ⟨hl, hv⟩ := bt_some hv
  obtain rfl := Option.some.inj hv
  obtain rfl := str2_some hp
  refine ⟨rfl, rfl, fun w hw => ?_⟩
  have hs : p.1.size < 4294967281 := by
    have := ble_t hl
    have e : lenS p.1 = p.1.size := Array.length_toList
    omega
  refine (hc p.1 p.2 x w hs (by rw [hw.cell (show (⟨g, 0, none⟩ : Addr).block < base from hg)]; exact hm)).mono fun e w' ⟨he, hw'⟩ => ?_
  subst hw'
  exact ⟨he, Bel.refl _ _⟩
end
end Go.Am
namespace Go.Am
open Go.RowKit
noncomputable section

/-- what a call answers, and the blocks that it made: the first has the number behind 'nowhere'. -/
structure Made where
  v : Value
  bs : List (List Value × Nat)

def mkBlk (p : List Value × Nat) : Blk := .cells p.1.length (Tr.build dep p.1) p.2 true none
def mkRho (nw : Nat) (ss : List (Option Slot)) : Rho := fun b => if b < nw then some ⟨b, 0, 0, undef⟩ else if b = nw then none else (ss[b - nw - 1]?).join

/-- a row in the model's memory. -/
def RowAt (nw : Nat) (ρ : Rho) (w : World) (p : List Value × Nat) (s : Slot) : Prop :=
  ∃ cs el fz, w.heap[s.blk]? = some (.cells cs el fz) ∧ s.shift + p.1.length + s.slack * p.2 ≤ cs.size ∧ (p.2 = 0 → s.slack = 0) ∧
    (∀ (i : Nat) v, p.1[i]? = some v → ∃ v', cs[s.shift + i]? = some v' ∧ VRel nw ρ v v') ∧ ∀ i, i < cs.size → ¬ (fz.1 ≤ i ∧ i < fz.2)
structure MadeAt (P : Program) (w w' : World) (v' : Value) (M : Made) (ss : List (Option Slot)) : Prop where
  below : Bel w.heap.size w w'
  len : ss.length = M.bs.length
  val : VRel P.globals.size (mkRho P.globals.size ss) M.v v'
  blk : ∀ (i : Nat) (s : Slot) (p : List Value × Nat), ss[i]? = some (some s) → M.bs[i]? = some p → w.heap.size ≤ s.blk ∧ s.blk < w'.heap.size ∧ RowAt P.globals.size (mkRho P.globals.size ss) w' p s
  sep : ∀ (i j : Nat) (s s' : Slot), ss[i]? = some (some s) → ss[j]? = some (some s') → s.blk = s'.blk → i = j

/-- such a call makes just that. -/
def Makes (P : Program) (f : FuncId) (args : Array Value) (M : Made) : Prop :=
  ∀ w : World, Calls P f args w fun e w' => ∃ v' ss, e = .returned v' ∧ MadeAt P w w' v' M ss

/-! ### numbers moved -/
def shN (nw nx b : Nat) : Nat := ite2 (Nat.ble b nw) b (Nat.add nx (Nat.sub b (Nat.succ nw)))
def shA (nw nx : Nat) : Option Addr → Option Addr
  | some ⟨b, o, s⟩ => some ⟨shN nw nx b, o, s⟩
  | none => none
def sh1 (nw nx : Nat) (v : Value) : Value :=
  match v with
  | .pointer a => .pointer (shA nw nx a)
  | .slice a n c => .slice (shA nw nx a) n c
  | v => v
def sh2 (nw nx : Nat) (v : Value) : Value :=
  match v with
  | .agg cs => .agg ⟨cs.toList.map (sh1 nw nx)⟩
  | v => sh1 nw nx v
def sh3 (nw nx : Nat) (v : Value) : Value :=
  match v with
  | .tuple cs => .tuple ⟨cs.toList.map (sh2 nw nx)⟩
  | v => sh2 nw nx v
def shB (nw nx : Nat) (p : List Value × Nat) : List Value × Nat := (p.1.map (sh1 nw nx), p.2)
def Mem.app (m : Mem) (l : List Blk) : Mem := List.rec (motive := fun _ => Mem → Mem) (fun m => m) (fun k _ ih m => ih (m.new k)) l m
/-- no funcs, no maps, no ghosts within. -/
def mv1 (v : Value) : Bool :=
  match v with
  | .pointer a => op2 a true fun _ => (adr a).isSome
  | .slice a n c => op2 a (scal (.slice a n c)) fun _ => (adr a).isSome
  | v => scal v
def mv2 (v : Value) : Bool :=
  match v with
  | .agg cs => cs.toList.all mv1
  | v => mv1 v
def mv3 (v : Value) : Bool :=
  match v with
  | .tuple cs => cs.toList.all mv2
  | v => mv2 v
def Made.ok (M : Made) : Bool := mv3 M.v && M.bs.all fun p => p.1.all mv1
def madeV (nw : Nat) (M : Made) (m : Mem) : Value × Mem := (sh3 nw m.nx M.v, m.app (M.bs.map fun p => mkBlk (shB nw m.nx p)))
def madeG (nw : Nat) (l : List (List Value × Made)) (args : List Value) (m : Mem) : Res :=
  List.rec (motive := fun _ => Res) none (fun p _ ih => ite2 (eqVs eqV p.1 args) (some (madeV nw p.2 m)) ih) l

theorem app_nx : ∀ (l : List Blk) (m : Mem), (m.app l).nx = m.nx + l.length := by
  intro l
  induction l with
  | nil => intro m; rfl
  | cons k l ih =>
    intro m
    show (Mem.app (m.new k) l).nx = _
    rw [ih]
    show m.nx + 1 + l.length = m.nx + (l.length + 1)
    omega
theorem app_blk : ∀ (l : List Blk) (m : Mem) (b : Nat) (k : Blk), (m.app l).blk b = some k → (∃ i, b = m.nx + i ∧ l[i]? = some k) ∨ (m.blk b = some k ∧ (b < m.nx ∨ m.nx + l.length ≤ b)) := by
  intro l
  induction l with
  | nil => intro m b k h; exact .inr ⟨h, by simp; omega⟩
  | cons k0 l ih =>
    intro m b k h
    rcases ih (m.new k0) b k h with ⟨i, h1, h2⟩ | ⟨h1, h2⟩
    · refine .inl ⟨i + 1, ?_, by simpa using h2⟩
      rw [h1]; show m.nx + 1 + i = _; omega
    · have h2' : b < m.nx + 1 ∨ m.nx + 1 + l.length ≤ b := h2
      rcases blk_new h1 with ⟨e1, e2⟩ | ⟨ne, h1⟩
      · exact .inl ⟨0, by omega, by rw [e2]; rfl⟩
      · exact .inr ⟨h1, by simp only [List.length_cons]; omega⟩

section
variable {P : Program} {base : Nat} {wo : Orig} {ρ : Rho} {m : Mem} {w w' : World}

/-- what stands for what, behind a call that made blocks. -/
def madeRho (ρ : Rho) (nx : Nat) (ss : List (Option Slot)) : Rho := fun b => if b < nx then ρ b else (ss[b - nx]?).join

theorem sh_slot (hr : Rep P base wo ρ m w) {ss : List (Option Slot)} {b : Nat} {s : Slot} (h : mkRho P.globals.size ss b = some s) : madeRho ρ m.nx ss (shN P.globals.size m.nx b) = some s := by
  have hnw := hr.now.1.1
  unfold mkRho at h
  split at h
  · rename_i hb
    obtain rfl := Option.some.inj h
    have : shN P.globals.size m.nx b = b := by unfold shN; rw [show Nat.ble b P.globals.size = true from by simp; omega]; rfl
    rw [this]
    unfold madeRho
    rw [if_pos (by omega)]
    exact hr.glob.1 b hb
  · split at h
    · cases h
    · have hb : ¬ b ≤ P.globals.size := by omega
      have : shN P.globals.size m.nx b = m.nx + (b - P.globals.size - 1) := by
        unfold shN
        rw [show Nat.ble b P.globals.size = false from by cases hx : Nat.ble b P.globals.size with | false => rfl | true => exact absurd (ble_t hx) hb]
        show m.nx + (b - (P.globals.size + 1)) = _
        omega
      rw [this]
      unfold madeRho
      rw [if_neg (by omega), show m.nx + (b - P.globals.size - 1) - m.nx = b - P.globals.size - 1 from by omega]
      exact h
theorem sh1_rel (hr : Rep P base wo ρ m w) {ss : List (Option Slot)} {v v' : Value} (h : VRel P.globals.size (mkRho P.globals.size ss) v v') (hm : mv1 v = true) : VRel P.globals.size (madeRho ρ m.nx ss) (sh1 P.globals.size m.nx v) v' := by
  cases h with
  | scal v hs =>
    have : sh1 P.globals.size m.nx v = v := by
      cases v <;> first | rfl | skip
      · rename_i a; cases a <;> first | rfl | (cases hs)
      · rename_i a n c; cases a <;> first | rfl | (cases hs)
    rw [this]; exact .scal v hs
  | ptr b o s h => exact VRel.ptr _ o s (sh_slot hr h)
  | slc b o n c s h => exact VRel.slc _ o n c s (sh_slot hr h)
  | nowhere a c =>
    have : shN P.globals.size m.nx P.globals.size = P.globals.size := by unfold shN; rw [show Nat.ble P.globals.size P.globals.size = true from by simp]; rfl
    show VRel _ _ (.slice (some ⟨shN P.globals.size m.nx P.globals.size, 0, none⟩) 0 0) _
    rw [this]; exact VRel.nowhere a c
  | _ => cases hm
theorem sh1s_rel (hr : Rep P base wo ρ m w) {ss : List (Option Slot)} {l l' : List Value} (h : VRels P.globals.size (mkRho P.globals.size ss) l l') (hm : l.all mv1 = true) : VRels P.globals.size (madeRho ρ m.nx ss) (l.map (sh1 P.globals.size m.nx)) l' := by
  induction l generalizing l' with
  | nil => rw [h.inv_nil]; exact VRels.nil
  | cons v l ih =>
    obtain ⟨v', r', rfl, h1, h2⟩ := h.inv_cons
    simp only [List.all_cons, Bool.and_eq_true] at hm
    exact (ih h2 hm.2).cons (sh1_rel hr h1 hm.1)
theorem sh2_rel (hr : Rep P base wo ρ m w) {ss : List (Option Slot)} {v v' : Value} (h : VRel P.globals.size (mkRho P.globals.size ss) v v') (hm : mv2 v = true) : VRel P.globals.size (madeRho ρ m.nx ss) (sh2 P.globals.size m.nx v) v' := by
  cases v with
  | agg cs =>
    obtain ⟨a', rfl, h1⟩ := h.agg_inv
    have := sh1s_rel hr h1 hm
    exact .agg _ _ this.len this.at_
  | _ => exact sh1_rel hr h hm
theorem sh2s_rel (hr : Rep P base wo ρ m w) {ss : List (Option Slot)} {l l' : List Value} (h : VRels P.globals.size (mkRho P.globals.size ss) l l') (hm : l.all mv2 = true) : VRels P.globals.size (madeRho ρ m.nx ss) (l.map (sh2 P.globals.size m.nx)) l' := by
  induction l generalizing l' with
  | nil => rw [h.inv_nil]; exact VRels.nil
  | cons v l ih =>
    obtain ⟨v', r', rfl, h1, h2⟩ := h.inv_cons
    simp only [List.all_cons, Bool.and_eq_true] at hm
    exact (ih h2 hm.2).cons (sh2_rel hr h1 hm.1)
theorem sh3_rel (hr : Rep P base wo ρ m w) {ss : List (Option Slot)} {v v' : Value} (h : VRel P.globals.size (mkRho P.globals.size ss) v v') (hm : mv3 v = true) : VRel P.globals.size (madeRho ρ m.nx ss) (sh3 P.globals.size m.nx v) v' := by
  cases v with
  | tuple cs =>
    obtain ⟨a', rfl, h1⟩ := h.tuple_inv
    have := sh2s_rel hr h1 hm
    exact .tuple _ _ this.len this.at_
  | _ => exact sh2_rel hr h hm

theorem made_rep (hr : Rep P base wo ρ m w) {M : Made} (hM : M.ok = true) {v' : Value} {ss : List (Option Slot)} (h : MadeAt P w w' v' M ss) : Ret P base wo ρ (madeV P.globals.size M m) v' w' := by
  unfold Made.ok at hM
  rw [Bool.and_eq_true] at hM
  obtain ⟨hv, hbs⟩ := hM
  have hno : ∀ b s, ρ b = some s → b < m.nx := hr.nx
  have hle : Rho.le ρ (madeRho ρ m.nx ss) := by
    intro b s hb
    unfold madeRho
    rw [if_pos (hno b s hb)]; exact hb
  have hnw := hr.now.1.1
  refine ⟨madeRho ρ m.nx ss, hle, sh3_rel hr h.val hv, ?_⟩
  have hlen : (M.bs.map fun p => mkBlk (shB P.globals.size m.nx p)).length = M.bs.length := by simp
  have live : ∀ b k s, (m.app (M.bs.map fun p => mkBlk (shB P.globals.size m.nx p))).blk b = some k → madeRho ρ m.nx ss b = some s →
      (b < m.nx ∧ m.blk b = some k ∧ ρ b = some s) ∨ (∃ i p, b = m.nx + i ∧ M.bs[i]? = some p ∧ k = mkBlk (shB P.globals.size m.nx p) ∧ ss[i]? = some (some s)) := by
    intro b k s hb hs
    rcases app_blk _ _ _ _ hb with ⟨i, rfl, hi⟩ | ⟨hb, hlt⟩
    · rw [List.getElem?_map] at hi
      obtain ⟨p, hp, rfl⟩ := Option.map_eq_some_iff.1 hi
      refine .inr ⟨i, p, rfl, hp, rfl, ?_⟩
      unfold madeRho at hs
      rw [if_neg (by omega), Nat.add_sub_cancel_left] at hs
      cases hx : ss[i]? with
      | none => rw [hx] at hs; cases hs
      | some y => rw [hx] at hs; rw [show y = some s from hs]
    · rw [hlen] at hlt
      rcases hlt with hlt | hge
      · unfold madeRho at hs
        rw [if_pos hlt] at hs
        exact .inl ⟨hlt, hb, hs⟩
      · exfalso
        unfold madeRho at hs
        rw [if_neg (by omega), List.getElem?_eq_none (by rw [h.len]; omega)] at hs
        cases hs
  refine ⟨?_, ?_, ?_, hr.below.trans (h.below.mono hr.size), by have := hr.size; have := h.below.size; omega, ⟨fun g hg => hle _ _ (hr.glob.1 g hg), fun b s hb => hle _ _ (hr.glob.2 b s hb)⟩, ⟨⟨?_, ?_⟩, ?_⟩, ?_, ?_⟩
  · intro b k s hb hd hs
    rcases live b k s hb hs with ⟨_, h1, h2⟩ | ⟨i, p, rfl, h1, rfl, h2⟩
    · obtain ⟨hlt, hB⟩ := hr.dom b k s h1 hd h2
      exact ⟨by have := h.below.size; omega, hB.move hle (h.below.block _ hlt)⟩
    · obtain ⟨g1, g2, cs, el, fz, b1, b2, b3, b4, b5⟩ := h.blk i s p h2 h1
      have hpm : p.1.all mv1 = true := List.all_eq_true.1 hbs p (List.mem_of_getElem? h1)
      refine ⟨g2, cs, el, fz, b1, by simpa [shB] using b2, b3, ?_, fun e => ⟨by have := hr.size; omega, b5⟩⟩
      intro j v hj hv
      have hv1 := Tr.get_build _ _ _ _ hv
      simp only [shB, List.getElem?_map] at hv1
      obtain ⟨u, hu, rfl⟩ := Option.map_eq_some_iff.1 hv1
      obtain ⟨v', hv', hrel⟩ := b4 j u hu
      exact ⟨v', hv', sh1_rel hr hrel (List.all_eq_true.1 hpm u (List.mem_of_getElem? hu))⟩
  · intro b s hb
    show b < (m.app _).nx
    rw [app_nx, hlen]
    unfold madeRho at hb
    split at hb
    · omega
    · have : b - m.nx < ss.length := by
        rcases Nat.lt_or_ge (b - m.nx) ss.length with h | h
        · exact h
        · rw [List.getElem?_eq_none h] at hb; cases hb
      rw [h.len] at this; omega
  · intro b1 b2 k1 k2 s1 s2 hne hb1 hw1 hb2 hd2 hs1 hs2 heq
    have hd1 : k1 ≠ .dead := by intro e; subst e; simp [wrOf] at hw1
    rcases live b1 k1 s1 hb1 hs1 with ⟨_, h1, g1⟩ | ⟨i, p, rfl, h1, rfl, g1⟩
    · rcases live b2 k2 s2 hb2 hs2 with ⟨_, h2, g2⟩ | ⟨j, q, rfl, h2, rfl, g2⟩
      · exact hr.sep b1 b2 k1 k2 s1 s2 hne h1 hw1 h2 hd2 g1 g2 heq
      · have a := (hr.dom b1 k1 s1 h1 hd1 g1).1
        have c := (h.blk j s2 q g2 h2).1
        omega
    · rcases live b2 k2 s2 hb2 hs2 with ⟨_, h2, g2⟩ | ⟨j, q, rfl, h2, rfl, g2⟩
      · have a := (hr.dom b2 k2 s2 h2 hd2 g2).1
        have c := (h.blk i s1 p g1 h1).1
        omega
      · have := h.sep i j s1 s2 g1 g2 heq
        exact absurd (by rw [this]) hne
  · show P.globals.size < (m.app _).nx
    rw [app_nx]; omega
  · intro k hb
    rcases app_blk _ _ _ _ hb with ⟨i, e, _⟩ | ⟨hb, _⟩
    · omega
    · exact hr.now.1.2 k hb
  · unfold madeRho
    rw [if_pos hnw]; exact hr.now.2
  · intro b k hb hd
    show b < (m.app _).nx
    rw [app_nx, hlen]
    rcases app_blk _ _ _ _ hb with ⟨i, rfl, hi⟩ | ⟨hb, _⟩
    · have := (List.getElem?_eq_some_iff.1 hi).1
      rw [hlen] at this; omega
    · have := hr.top.1 b k hb hd; omega
  · intro b hb
    obtain ⟨h1, h2⟩ := hr.top.2 b hb
    show b < (m.app _).nx ∧ _
    rw [app_nx]
    refine ⟨by omega, ?_⟩
    unfold madeRho
    rw [if_pos h1]; exact h2

theorem madeG_ok {f : FuncId} {fn : Func} (hf : P.funcs[f]? = some fn) (hn : (fn.name == "runtime.NumGoroutine") = false) (hb : fn.body.isNone = false) {l : List (List Value × Made)}
    (h : ∀ p ∈ l, p.1.all flat = true ∧ p.2.ok = true ∧ Makes P f ⟨p.1⟩ p.2) : HintOk P base wo f (madeG P.globals.size l) := by
  intro args m r ρ w args' hg hr hv
  induction l with
  | nil => cases hg
  | cons p l ih =>
    have h' : ite2 (eqVs eqV p.1 args) (some (madeV P.globals.size p.2 m)) (madeG P.globals.size l args m) = some r := hg
    cases he : eqVs eqV p.1 args with
    | true =>
      rw [he] at h'
      obtain rfl := Option.some.inj h'
      obtain ⟨h1, h2, h3⟩ := h p (List.mem_cons_self ..)
      have e := eqVs_t (fun _ _ h => eqV_t h) _ _ he
      subst e
      have e' : args' = ⟨p.1⟩ := Array.toList_inj.1 (hv.of_flat h1)
      subst e'
      exact .inr ⟨call_enters hf hn hb, (h3 w).mono fun _ _ ⟨v', ss, he, hm⟩ => ⟨v', he, made_rep hr h2 hm⟩⟩
    | false => rw [he] at h'; exact ih (fun q hq => h q (List.mem_cons_of_mem _ hq)) h'

/-! ### out of a run from no memory -/
def unN (nw nx : Nat) (l : List Nat) (b : Nat) : Nat := ite2 (Nat.ble b nw) b (op2 (l[Nat.sub b (Nat.succ nw)]?) nx fun x => x)
def unA (nw nx : Nat) (l : List Nat) : Option Addr → Option Addr
  | some ⟨b, o, s⟩ => some ⟨unN nw nx l b, o, s⟩
  | none => none
def un1 (nw nx : Nat) (l : List Nat) (v : Value) : Value :=
  match v with
  | .pointer a => .pointer (unA nw nx l a)
  | .slice a n c => .slice (unA nw nx l a) n c
  | v => v
def un2 (nw nx : Nat) (l : List Nat) (v : Value) : Value :=
  match v with
  | .agg cs => .agg ⟨cs.toList.map (un1 nw nx l)⟩
  | v => un1 nw nx l v
def un3 (nw nx : Nat) (l : List Nat) (v : Value) : Value :=
  match v with
  | .tuple cs => .tuple ⟨cs.toList.map (un2 nw nx l)⟩
  | v => un2 nw nx l v
def isRow (nw nx : Nat) (l : List Nat) (p : List Value × Nat) (r : Row) : Bool :=
  (Nat.ble p.1.length r.n && (Nat.beq r.ek p.2 && (r.wr && r.prev.isNone))) && op2 (r.c.range 0 p.1.length) false fun c => eqVs eqV c (p.1.map (un1 nw nx l))
def areRows (nw : Nat) (l : List Nat) (m : Mem) (bs : List (List Value × Nat)) : List Nat → Bool :=
  List.rec (motive := fun _ => List Nat → Bool) (fun _ => true) (fun p _ ih k => List.rec (motive := fun _ => Bool) false (fun b k _ => op2 (m.rowOf b) false (isRow nw m.nx l p) && ih k) k) bs
def fresh? (l : List Nat) : Bool := List.rec (motive := fun _ => Bool) true (fun a l ih => l.all (fun b => !(Nat.beq a b)) && ih) l
def isMade (P : Program) (l : List Nat) (M : Made) (r : Res) : Bool :=
  op2 r false fun r => (M.ok && ((fresh? l && l.all (Nat.blt P.globals.size)) && Nat.beq l.length M.bs.length)) && (eqV r.1 (un3 P.globals.size r.2.nx l M.v) && areRows P.globals.size l r.2 M.bs l)

theorem areRows_at {nw : Nat} {l : List Nat} : ∀ (bs : List (List Value × Nat)) (k : List Nat), areRows nw l m bs k = true → ∀ (i : Nat) (p : List Value × Nat) (b : Nat), bs[i]? = some p → k[i]? = some b → ∃ r, m.rowOf b = some r ∧ isRow nw m.nx l p r = true := by
  intro bs
  induction bs with
  | nil => intro k _ i p b h; simp at h
  | cons q bs ih =>
    intro k h i p b hp hb
    cases k with
    | nil => simp at hb
    | cons a k =>
      have h' : (op2 (m.rowOf a) false (isRow nw m.nx l q) && areRows nw l m bs k) = true := h
      rw [Bool.and_eq_true] at h'
      cases i with
      | zero =>
        simp at hp hb
        subst hp; subst hb
        cases hr : m.rowOf a with
        | none => rw [hr] at h'; cases h'.1
        | some r => rw [hr] at h'; exact ⟨r, rfl, h'.1⟩
      | succ i => exact ih k h'.2 i p b (by simpa using hp) (by simpa using hb)
theorem fresh_at : ∀ {l : List Nat}, fresh? l = true → ∀ (i j : Nat) (b : Nat), l[i]? = some b → l[j]? = some b → i = j := by
  intro l
  induction l with
  | nil => intro _ i j b h; simp at h
  | cons a l ih =>
    intro h i j b hi hj
    have h' : (l.all (fun b => !(Nat.beq a b)) && fresh? l) = true := h
    rw [Bool.and_eq_true] at h'
    have no : ∀ k, l[k]? ≠ some a := fun k hk => by
      have := List.all_eq_true.1 h'.1 a (List.mem_of_getElem? hk)
      simp at this
    cases i with
    | zero =>
      cases j with
      | zero => rfl
      | succ j => simp at hi hj; subst hi; exact absurd hj (no j)
    | succ i =>
      cases j with
      | zero => simp at hi hj; subst hj; exact absurd hi (no i)
      | succ j => rw [ih h'.2 i j b (by simpa using hi) (by simpa using hj)]

theorem un_slot (hr : Rep P base wo ρ m w) {l : List Nat} {b : Nat} {s : Slot} (h : ρ (unN P.globals.size m.nx l b) = some s) : mkRho P.globals.size (l.map ρ) b = some s := by
  unfold unN at h
  unfold mkRho
  cases hb : Nat.ble b P.globals.size with
  | true =>
    rw [hb] at h
    have hle := ble_t hb
    have h' : ρ b = some s := h
    by_cases hlt : b < P.globals.size
    · rw [if_pos hlt, ← h', hr.glob.1 b hlt]
    · obtain rfl : b = P.globals.size := by omega
      rw [hr.now.2] at h'; cases h'
  | false =>
    rw [hb] at h
    have hgt : P.globals.size < b := by
      rcases Nat.lt_or_ge P.globals.size b with h | h
      · exact h
      · have : Nat.ble b P.globals.size = true := by simpa using h
        rw [hb] at this; cases this
    rw [if_neg (by omega), if_neg (by omega)]
    have h' : ρ (op2 (l[b - (P.globals.size + 1)]?) m.nx fun x => x) = some s := h
    rw [show b - P.globals.size - 1 = b - (P.globals.size + 1) from by omega, List.getElem?_map]
    cases hl : l[b - (P.globals.size + 1)]? with
    | none => rw [hl] at h'; exact absurd (hr.nx _ _ h') (Nat.lt_irrefl _)
    | some x => rw [hl] at h'; rw [Option.map_some, show ρ x = some s from h']; rfl
theorem un_nowhere (hr : Rep P base wo ρ m w) {l : List Nat} (hl : l.all (Nat.blt P.globals.size) = true) {b : Nat} (hb : b ≠ P.globals.size) : unN P.globals.size m.nx l b ≠ P.globals.size := by
  have hnw := hr.now.1.1
  unfold unN
  cases hx : Nat.ble b P.globals.size with
  | true => exact hb
  | false =>
    show op2 (l[b - (P.globals.size + 1)]?) m.nx (fun x => x) ≠ _
    cases hg : l[b - (P.globals.size + 1)]? with
    | none => show m.nx ≠ _; omega
    | some x =>
      have := blt_t (List.all_eq_true.1 hl x (List.mem_of_getElem? hg))
      show x ≠ _; omega
theorem un1_rel (hr : Rep P base wo ρ m w) {l : List Nat} (hl : l.all (Nat.blt P.globals.size) = true) {v v' : Value} (h : VRel P.globals.size ρ (un1 P.globals.size m.nx l v) v') (hm : mv1 v = true) : VRel P.globals.size (mkRho P.globals.size (l.map ρ)) v v' := by
  have plain : scal v = true → un1 P.globals.size m.nx l v = v → VRel P.globals.size (mkRho P.globals.size (l.map ρ)) v v' := by
    intro hs e
    rw [e] at h
    rw [h.of_scal hs]
    exact .scal v hs
  cases v <;> try exact plain hm rfl
  case pointer a =>
    cases a with
    | none => exact plain rfl rfl
    | some a =>
      obtain ⟨b, o, sp⟩ := a
      have hm' : (adr (some ⟨b, o, sp⟩)).isSome = true := hm
      cases sp with
      | some _ => cases hm'
      | none =>
        obtain ⟨s, hs, rfl⟩ := VRel.ptr_inv (p := (unN P.globals.size m.nx l b, o)) rfl h
        exact VRel.ptr b o s (un_slot hr hs)
  case slice a n c =>
    cases a with
    | none => exact plain hm rfl
    | some a =>
      obtain ⟨b, o, sp⟩ := a
      have hm' : (adr (some ⟨b, o, sp⟩)).isSome = true := hm
      cases sp with
      | some _ => cases hm'
      | none =>
        rcases VRel.slc_inv (p := (unN P.globals.size m.nx l b, o)) rfl h with ⟨s, hs, rfl⟩ | ⟨rfl, rfl, e, a', c', rfl⟩
        · exact VRel.slc b o n c s (un_slot hr hs)
        · obtain ⟨e1, rfl⟩ := Prod.mk.inj e
          by_cases hb : b = P.globals.size
          · subst hb; exact VRel.nowhere a' c'
          · exact absurd e1 (un_nowhere hr hl hb)
theorem un1s_rel (hr : Rep P base wo ρ m w) {l : List Nat} (hl : l.all (Nat.blt P.globals.size) = true) {k l' : List Value} (h : VRels P.globals.size ρ (k.map (un1 P.globals.size m.nx l)) l') (hm : k.all mv1 = true) : VRels P.globals.size (mkRho P.globals.size (l.map ρ)) k l' := by
  induction k generalizing l' with
  | nil => rw [h.inv_nil]; exact VRels.nil
  | cons v k ih =>
    obtain ⟨v', r', rfl, h1, h2⟩ := h.inv_cons
    simp only [List.all_cons, Bool.and_eq_true] at hm
    exact (ih h2 hm.2).cons (un1_rel hr hl h1 hm.1)
theorem un2_rel (hr : Rep P base wo ρ m w) {l : List Nat} (hl : l.all (Nat.blt P.globals.size) = true) {v v' : Value} (h : VRel P.globals.size ρ (un2 P.globals.size m.nx l v) v') (hm : mv2 v = true) : VRel P.globals.size (mkRho P.globals.size (l.map ρ)) v v' := by
  cases v with
  | agg cs =>
    obtain ⟨a', rfl, h1⟩ := VRel.agg_inv h
    have := un1s_rel hr hl h1 hm
    exact .agg _ _ this.len this.at_
  | _ => exact un1_rel hr hl h hm
theorem un2s_rel (hr : Rep P base wo ρ m w) {l : List Nat} (hl : l.all (Nat.blt P.globals.size) = true) {k l' : List Value} (h : VRels P.globals.size ρ (k.map (un2 P.globals.size m.nx l)) l') (hm : k.all mv2 = true) : VRels P.globals.size (mkRho P.globals.size (l.map ρ)) k l' := by
  induction k generalizing l' with
  | nil => rw [h.inv_nil]; exact VRels.nil
  | cons v k ih =>
    obtain ⟨v', r', rfl, h1, h2⟩ := h.inv_cons
    simp only [List.all_cons, Bool.and_eq_true] at hm
    exact (ih h2 hm.2).cons (un2_rel hr hl h1 hm.1)
theorem un3_rel (hr : Rep P base wo ρ m w) {l : List Nat} (hl : l.all (Nat.blt P.globals.size) = true) {v v' : Value} (h : VRel P.globals.size ρ (un3 P.globals.size m.nx l v) v') (hm : mv3 v = true) : VRel P.globals.size (mkRho P.globals.size (l.map ρ)) v v' := by
  cases v with
  | tuple cs =>
    obtain ⟨a', rfl, h1⟩ := VRel.tuple_inv h
    have := un2s_rel hr hl h1 hm
    exact .tuple _ _ this.len this.at_
  | _ => exact un2_rel hr hl h hm

theorem makes_of_run {H : Hints} {vs : List Value} {fuel : Nat} {f : FuncId} {fn : Func} {l : List Nat} {M : Made} (hk : ∀ w d, KnownOk P w.heap.size ((orig P [] w).at d) H)
    (hf : P.funcs[f]? = some fn) (hn : (fn.name == "runtime.NumGoroutine") = false) (hb : fn.body.isNone = false) (hs : vs.all flat = true)
    (h : isMade P l M (run P H fuel f vs (mem0 P 0)) = true) : M.ok = true ∧ Makes P f ⟨vs⟩ M := by
  cases hr : run P H fuel f vs (mem0 P 0) with
  | none => rw [hr] at h; cases h
  | some r =>
    rw [hr] at h
    have h' : ((M.ok && ((fresh? l && l.all (Nat.blt P.globals.size)) && Nat.beq l.length M.bs.length)) && (eqV r.1 (un3 P.globals.size r.2.nx l M.v) && areRows P.globals.size l r.2 M.bs l)) = true := h
    rw [Bool.and_eq_true, Bool.and_eq_true, Bool.and_eq_true, Bool.and_eq_true, Bool.and_eq_true] at h'
    obtain ⟨⟨hok, ⟨hfr, hl⟩, hlen⟩, hval, hrows⟩ := h'
    refine ⟨hok, fun w => ?_⟩
    unfold Made.ok at hok
    rw [Bool.and_eq_true] at hok
    rcases run_sound (hk w) hr (start (vs := []) (w := w)) (args' := ⟨vs⟩) (VRels.flat hs) with ⟨v', w', he, _⟩ | ⟨_, hc⟩
    · rw [call_enters hf hn hb] at he; cases he
    · refine hc.mono fun x w' ⟨v', he, ρ', _, hv', hr⟩ => ⟨v', l.map ρ', he, ?_⟩
      rw [eqV_t hval] at hv'
      refine ⟨hr.below, by rw [List.length_map, beq_t hlen], un3_rel hr hl hv' hok.1, fun i s p hi hp => ?_, fun i j s s' hi hj e => ?_⟩
      · rw [List.getElem?_map] at hi
        obtain ⟨b, hb, hs⟩ := Option.map_eq_some_iff.1 hi
        obtain ⟨rw_, hrow, his⟩ := areRows_at _ _ hrows i p b hp hb
        unfold isRow at his
        rw [Bool.and_eq_true, Bool.and_eq_true, Bool.and_eq_true, Bool.and_eq_true] at his
        obtain ⟨⟨e1, e2, e3, e4⟩, e5⟩ := his
        obtain ⟨s', hs', hlt, cs, el, fz, b1, b2, b3, b4, b5⟩ := hr.row hs hrow
        rw [hs] at hs'; obtain rfl := Option.some.inj hs'
        obtain ⟨hbase, hfz⟩ := b5 e3
        refine ⟨hbase, hlt, cs, el, fz, b1, by have := ble_t e1; rw [← beq_t e2]; omega, fun e => b3 (by rw [beq_t e2]; exact e), fun j v hv => ?_, hfz⟩
        cases hrg : rw_.c.range 0 p.1.length with
        | none => rw [hrg] at e5; cases e5
        | some c =>
          rw [hrg] at e5
          have ec : c = p.1.map (un1 P.globals.size r.2.nx l) := eqVs_t (fun _ _ h => eqV_t h) _ _ e5
          have hj : j < p.1.length := (List.getElem?_eq_some_iff.1 hv).1
          obtain ⟨_, hg⟩ := Tr.range_some _ _ _ _ hrg
          obtain ⟨a, ha, hca⟩ := hg j hj
          rw [Nat.zero_add] at ha
          rw [ec, List.getElem?_map, hv] at hca
          obtain rfl := Option.some.inj hca
          obtain ⟨v', hv', hrel⟩ := b4 j _ (by have := ble_t e1; omega) ha
          exact ⟨v', hv', un1_rel hr hl hrel (List.all_eq_true.1 (List.all_eq_true.1 hok.2 p (List.mem_of_getElem? hp)) v (List.mem_of_getElem? hv))⟩
      · rw [List.getElem?_map] at hi hj
        obtain ⟨b, hb, hs⟩ := Option.map_eq_some_iff.1 hi
        obtain ⟨b', hb', hs'⟩ := Option.map_eq_some_iff.1 hj
        by_cases hbb : b = b'
        · subst hbb; exact fresh_at hfr i j b hb hb'
        · exfalso
          have hi' : i < M.bs.length := by rw [← beq_t hlen]; exact (List.getElem?_eq_some_iff.1 hb).1
          have hj' : j < M.bs.length := by rw [← beq_t hlen]; exact (List.getElem?_eq_some_iff.1 hb').1
          obtain ⟨r1, hr1, i1⟩ := areRows_at _ _ hrows i _ b (List.getElem?_eq_getElem hi') hb
          obtain ⟨r2, hr2, i2⟩ := areRows_at _ _ hrows j _ b' (List.getElem?_eq_getElem hj') hb'
          unfold isRow at i1
          rw [Bool.and_eq_true, Bool.and_eq_true, Bool.and_eq_true, Bool.and_eq_true] at i1
          obtain ⟨⟨_, _, e3, e4⟩, _⟩ := i1
          have := hr.sep b b' _ _ s s' hbb (rowOf_some hr1) e3 (rowOf_some hr2) (by simp) hs hs' e
          have e4' : r1.prev = none := by simpa using e4
          have this' : r1.prev = some b' := this
          rw [e4'] at this'; cases this'
end
end
end Go.Am
namespace Go.Am
open Go.RowKit
noncomputable section

/-- where a byte stands first. -/
def ixB (c : Nat) (l : List UInt8) : Nat → Option Nat :=
  List.rec (motive := fun _ => Nat → Option Nat) (fun _ => none) (fun b _ ih k => ite2 (Nat.beq b.toNat c) (some k) (ih (Nat.succ k))) l
def ixI (x : Option Nat) : Int := op2 x (.negSucc 0) .ofNat
theorem indexByte_ge (c : UInt8) : ∀ l, Lib.indexByte l c = -1 ∨ 0 ≤ Lib.indexByte l c := by
  intro l
  induction l with
  | nil => exact .inl rfl
  | cons b l ih =>
    unfold Lib.indexByte
    split
    · exact .inr (Int.le_refl _)
    · rcases ih with h | h
      · rw [h]; exact .inl rfl
      · have : (Lib.indexByte l c == -1) = false := by simp; omega
        rw [this]; right; simp; omega
theorem ixB_is (c : UInt8) : ∀ (l : List UInt8) (k : Nat), ixI (ixB c.toNat l k) = if Lib.indexByte l c = -1 then -1 else Lib.indexByte l c + k := by
  intro l
  induction l with
  | nil => intro k; rfl
  | cons b l ih =>
    intro k
    show ixI (ite2 (Nat.beq b.toNat c.toNat) (some k) (ixB c.toNat l (k + 1))) = _
    unfold Lib.indexByte
    cases hb : Nat.beq b.toNat c.toNat with
    | true =>
      have : b = c := UInt8.toNat_inj.1 (beq_t hb)
      subst this
      simp [ixI]
    | false =>
      have : (b == c) = false := by
        cases hx : (b == c) with
        | false => rfl
        | true => exact absurd (by rw [show b = c from by simpa using hx]) (beq_f hb)
      rw [this]
      simp only [ite2_f]
      rw [ih (k + 1)]
      rcases indexByte_ge c l with h | h
      · rw [h]; simp
      · have e : (Lib.indexByte l c == -1) = false := by simp; omega
        rw [e]
        simp only [Bool.false_eq_true, ↓reduceIte]
        rw [if_neg (by omega), if_neg (by omega)]
        omega
theorem ixB_eq (c : UInt8) (l : List UInt8) : ixI (ixB c.toNat l 0) = Lib.indexByte l c := by
  rw [ixB_is]
  split
  · rename_i h; exact h.symm
  · simp

def strByte? : List Value → Option (ByteArray × Nat)
  | [.string a, .int .u8 c] => ob (nat? c) fun n => bt (Nat.blt n 256) (some (a, n))
  | _ => none
theorem strByte_some {l : List Value} {p : ByteArray × Nat} (h : strByte? l = some p) : l = [.string p.1, .int .u8 (p.2 : Int)] ∧ p.2 < 256 := by
  unfold strByte? at h
  split at h
  · rename_i a c
    obtain ⟨n, hn, h⟩ := ob_some h
    obtain ⟨hlt, h⟩ := bt_some h
    obtain rfl := Option.some.inj h
    cases c with
    | ofNat c => obtain rfl := Option.some.inj hn; exact ⟨rfl, blt_t hlt⟩
    | negSucc c => cases hn
  · cases h
def indexByteG (args : List Value) : Option Value := ob (strByte? args) fun p => some (.int .i64 (ixI (ixB p.2 (strL p.1) 0)))
theorem indexByte_ok {P : Program} {wo : Orig} {base : Nat} {f : Nat} {fn : Func} (hf : P.funcs[f]? = some fn) (hn : (fn.name == "runtime.NumGoroutine") = false) (hb : fn.body.isNone = false)
    (hc : ∀ (s : ByteArray) (c : Int) (w : World), Calls P f #[.string s, .int .u8 c] w fun e w' => e = .returned (.int .i64 (Lib.indexByte s.data.toList c.toNat.toUInt8)) ∧ w' = w) : HintOk P base wo f (pureG indexByteG) := by
  refine pureG_ok hf hn hb fun args v hv => ?_
  obtain ⟨p, hp, hv⟩ := ob_some hv
  obtain rfl := Option.some.inj hv
  obtain ⟨rfl, hlt⟩ := strByte_some hp
  refine ⟨rfl, rfl, fun w _ => ?_⟩
  refine (hc p.1 p.2 w).mono fun e w' ⟨he, hw'⟩ => ?_
  subst hw'
  refine ⟨?_, Bel.refl _ _⟩
  rw [he]
  have : ixI (ixB p.2 (strL p.1) 0) = Lib.indexByte p.1.data.toList (p.2 : Int).toNat.toUInt8 := by
    have e : ((p.2 : Int).toNat.toUInt8).toNat = p.2 := by simp; omega
    have := ixB_eq (p.2 : Int).toNat.toUInt8 (strL p.1)
    rw [e] at this
    exact this
  rw [this]

/-- where a text stands first. -/
def ixS (sub : List UInt8) (l : List UInt8) : Nat → Option Nat :=
  List.rec (motive := fun _ => Nat → Option Nat) (fun k => ite2 sub.isEmpty (some k) none) (fun b l ih k => ite2 (eqL sub ((b :: l).take sub.length)) (some k) (ih (Nat.succ k))) l
theorem prefix_eq (sub l : List UInt8) : eqL sub (l.take sub.length) = sub.isPrefixOf l := by
  rw [eqL_eq]
  apply Bool.eq_iff_iff.2
  rw [beq_iff_eq, List.isPrefixOf_iff_prefix, List.prefix_iff_eq_take]
theorem ixS_is (sub : List UInt8) : ∀ (l : List UInt8) (k : Nat), ixI (ixS sub l k) = if Lib.index l sub = -1 then -1 else Lib.index l sub + k := by
  intro l
  induction l with
  | nil =>
    intro k
    show ixI (ite2 sub.isEmpty (some k) none) = _
    unfold Lib.index
    cases sub.isEmpty <;> simp [ixI]
  | cons b l ih =>
    intro k
    show ixI (ite2 (eqL sub ((b :: l).take sub.length)) (some k) (ixS sub l (k + 1))) = _
    unfold Lib.index
    rw [prefix_eq]
    cases hb : sub.isPrefixOf (b :: l) with
    | true => simp [ixI]
    | false =>
      simp only [ite2_f]
      rw [ih (k + 1)]
      have hge := Lib.index_ge l sub
      by_cases h : Lib.index l sub = -1
      · rw [h]; simp
      · have e : (Lib.index l sub == -1) = false := by simpa using h
        rw [e]
        simp only [Bool.false_eq_true, ↓reduceIte]
        rw [if_neg h, if_neg (by omega)]
        omega
theorem ixS_eq (sub l : List UInt8) : ixI (ixS sub l 0) = Lib.index l sub := by
  rw [ixS_is]
  split
  · rename_i h; exact h.symm
  · simp
def containsH (args : List Value) : Option Value := ob (str2? args) fun p => bt (Nat.ble (lenS p.1) 1000000) (some (.bool (ixS (strL p.2) (strL p.1) 0).isSome))
theorem contains_eq (s sub : List UInt8) : (ixS sub s 0).isSome = Lib.contains s sub := by
  unfold Lib.contains
  rw [← ixS_eq]
  cases ixS sub s 0 with
  | none => rfl
  | some k => simp [ixI]
theorem containsH_eq (args : List Value) : containsH args = containsG args := by
  unfold containsH containsG
  cases str2? args with
  | none => rfl
  | some p => simp only [ob_is, contains_eq]
theorem containsH_ok {P : Program} {wo : Orig} {base : Nat} {f g : Nat} {fn : Func} {x : Int} (hf : P.funcs[f]? = some fn) (hn : (fn.name == "runtime.NumGoroutine") = false) (hb : fn.body.isNone = false)
    (hc : ∀ (s sub : ByteArray) (m : Int) (w : World), s.size < 4294967281 → w.cell? ⟨g, 0, none⟩ = some (.int .i64 m) → Calls P f #[.string s, .string sub] w fun e w' => e = .returned (.bool (Lib.contains s.data.toList sub.data.toList)) ∧ w' = w)
    (hg : g < base) (hm : wo.w.cell? ⟨g, 0, none⟩ = some (.int .i64 x)) : HintOk P base wo f (pureG containsH) := by
  have e : containsH = containsG := funext containsH_eq
  rw [e]; exact contains_ok hf hn hb hc hg hm

/-- a pure function of two texts. -/
theorem str2_ok {P : Program} {wo : Orig} {base : Nat} {f : Nat} {fn : Func} {g : ByteArray → ByteArray → Value} (hf : P.funcs[f]? = some fn) (hn : (fn.name == "runtime.NumGoroutine") = false) (hb : fn.body.isNone = false)
    (hv : ∀ s p, flat2 (g s p) = true) (hc : ∀ (s p : ByteArray) (w : World), Calls P f #[.string s, .string p] w fun e w' => e = .returned (g s p) ∧ w' = w) : HintOk P base wo f (pureG fun args => ob (str2? args) fun q => some (g q.1 q.2)) := by
  refine pureG_ok hf hn hb fun args v hv' => ?_
  obtain ⟨p, hp, hv'⟩ := ob_some hv'
  obtain rfl := Option.some.inj hv'
  obtain rfl := str2_some hp
  refine ⟨rfl, hv _ _, fun w _ => (hc p.1 p.2 w).mono fun e w' ⟨he, hw'⟩ => ?_⟩
  subst hw'
  exact ⟨he, Bel.refl _ _⟩
def hasPrefixV (s p : ByteArray) : Value := .bool (eqL (strL p) ((strL s).take (strL p).length))
def hasPrefixG (args : List Value) : Option Value := ob (str2? args) fun q => some (hasPrefixV q.1 q.2)
theorem hasPrefix_ok {P : Program} {wo : Orig} {base : Nat} {f : Nat} {fn : Func} (hf : P.funcs[f]? = some fn) (hn : (fn.name == "runtime.NumGoroutine") = false) (hb : fn.body.isNone = false)
    (hc : ∀ (s p : ByteArray) (w : World), Calls P f #[.string s, .string p] w fun e w' => e = .returned (.bool (Lib.hasPrefix s.data.toList p.data.toList)) ∧ w' = w) : HintOk P base wo f (pureG hasPrefixG) := by
  refine str2_ok (g := hasPrefixV) hf hn hb (fun _ _ => rfl) fun s p w => ?_
  unfold hasPrefixV
  rw [prefix_eq]
  exact hc s p w
def cutPrefixV (s p : ByteArray) : Value := ite2 (eqL (strL p) ((strL s).take (strL p).length)) (.tuple ⟨[.string (strOf ((strL s).drop (strL p).length)), .bool true]⟩) (.tuple ⟨[.string s, .bool false]⟩)
def cutPrefixG (args : List Value) : Option Value := ob (str2? args) fun q => some (cutPrefixV q.1 q.2)
theorem cutPrefix_ok {P : Program} {wo : Orig} {base : Nat} {f : Nat} {fn : Func} (hf : P.funcs[f]? = some fn) (hn : (fn.name == "runtime.NumGoroutine") = false) (hb : fn.body.isNone = false)
    (hc : ∀ (s p : ByteArray) (w : World), Calls P f #[.string s, .string p] w fun e w' => e = .returned (.tuple #[.string ⟨(Lib.trimPrefix s.data.toList p.data.toList).toArray⟩, .bool (Lib.hasPrefix s.data.toList p.data.toList)]) ∧ w' = w) : HintOk P base wo f (pureG cutPrefixG) := by
  refine str2_ok (g := cutPrefixV) hf hn hb (fun s p => ?_) fun s p w => ?_
  · unfold cutPrefixV
    cases eqL (strL p) ((strL s).take (strL p).length) <;> rfl
  · have e : cutPrefixV s p = .tuple #[.string ⟨(Lib.trimPrefix s.data.toList p.data.toList).toArray⟩, .bool (Lib.hasPrefix s.data.toList p.data.toList)] := by
      unfold cutPrefixV
      rw [prefix_eq]
      unfold Lib.trimPrefix Lib.hasPrefix
      cases hx : (strL p).isPrefixOf (strL s) with
      | true =>
        have hx' : p.data.toList.isPrefixOf s.data.toList = true := hx
        rw [hx']; rfl
      | false =>
        have hx' : p.data.toList.isPrefixOf s.data.toList = false := hx
        rw [hx']; rfl
    rw [e]; exact hc s p w
def cntB (c : Nat) (l : List UInt8) : Nat := List.rec (motive := fun _ => Nat) 0 (fun b _ ih => ite2 (Nat.beq b.toNat c) (Nat.succ ih) ih) l
theorem cntB_is (c : UInt8) : ∀ l, cntB c.toNat l = Lib.countByte l c := by
  intro l
  unfold Lib.countByte
  induction l with
  | nil => rfl
  | cons b l ih =>
    show ite2 (Nat.beq b.toNat c.toNat) (Nat.succ (cntB c.toNat l)) (cntB c.toNat l) = _
    rw [List.count_cons, ih]
    cases hb : Nat.beq b.toNat c.toNat with
    | true =>
      have : b = c := UInt8.toNat_inj.1 (beq_t hb)
      subst this; simp
    | false =>
      have : (b == c) = false := by
        cases hx : (b == c) with
        | false => rfl
        | true => exact absurd (by rw [show b = c from by simpa using hx]) (beq_f hb)
      simp [this]
def one? : List UInt8 → Option UInt8
  | [c] => some c
  | _ => none
def countG (args : List Value) : Option Value := ob (str2? args) fun q => ob (one? (strL q.2)) fun c => some (.int .i64 (.ofNat (cntB c.toNat (strL q.1))))
theorem count_ok {P : Program} {wo : Orig} {base : Nat} {f : Nat} {fn : Func} (hf : P.funcs[f]? = some fn) (hn : (fn.name == "runtime.NumGoroutine") = false) (hb : fn.body.isNone = false)
    (hc : ∀ (s : ByteArray) (c : UInt8) (w : World), Calls P f #[.string s, .string ⟨#[c]⟩] w fun e w' => e = .returned (.int .i64 (Lib.countByte s.data.toList c)) ∧ w' = w) : HintOk P base wo f (pureG countG) := by
  refine pureG_ok hf hn hb fun args v hv => ?_
  obtain ⟨p, hp, hv⟩ := ob_some hv
  obtain ⟨c, hcc, hv⟩ := ob_some hv
  obtain rfl := Option.some.inj hv
  obtain rfl := str2_some hp
  have e : p.2 = ⟨#[c]⟩ := by
    have hl : strL p.2 = [c] := by
      unfold one? at hcc
      split at hcc
      · rename_i c' h; rw [h, Option.some.inj hcc]
      · cases hcc
    apply ByteArray.ext
    apply Array.toList_inj.1
    exact hl
  refine ⟨rfl, rfl, fun w _ => ?_⟩
  rw [e]
  refine (hc p.1 c w).mono fun e w' ⟨he, hw'⟩ => ?_
  subst hw'
  refine ⟨?_, Bel.refl _ _⟩
  rw [he, ← cntB_is]; rfl

/-! ### blanks taken off -/
def inB (cs : List UInt8) (b : UInt8) : Bool := List.rec (motive := fun _ => Bool) false (fun c _ ih => ite2 (Nat.beq c.toNat b.toNat) true ih) cs
def dropB (cs l : List UInt8) : List UInt8 := List.rec (motive := fun _ => List UInt8) [] (fun b l ih => ite2 (inB cs b) ih (b :: l)) l
theorem inB_is (b : UInt8) : ∀ cs, inB cs b = cs.contains b := by
  intro cs
  induction cs with
  | nil => rfl
  | cons c cs ih =>
    show ite2 (Nat.beq c.toNat b.toNat) true (inB cs b) = _
    rw [List.contains_cons, ih]
    cases hb : Nat.beq c.toNat b.toNat with
    | true =>
      have : c = b := UInt8.toNat_inj.1 (beq_t hb)
      subst this; simp
    | false =>
      have : (b == c) = false := by
        cases hx : (b == c) with
        | false => rfl
        | true => exact absurd (by rw [show b = c from by simpa using hx]) (beq_f hb)
      rw [this]; rfl
theorem dropB_is (cs : List UInt8) : ∀ l, dropB cs l = Lib.trimLeftS l cs := by
  intro l
  unfold Lib.trimLeftS
  induction l with
  | nil => rfl
  | cons b l ih =>
    show ite2 (inB cs b) (dropB cs l) (b :: l) = _
    rw [List.dropWhile_cons, inB_is, ih]
    cases cs.contains b <;> rfl
def trimLeftG (args : List Value) : Option Value := ob (str2? args) fun q => bt ((strL q.2).all (fun b => Nat.blt b.toNat 128) && Nat.ble (lenS q.2) 1000) (some (.string (strOf (dropB (strL q.2) (strL q.1)))))
theorem trimLeft_ok {P : Program} {wo : Orig} {base : Nat} {f : Nat} {fn : Func} (hf : P.funcs[f]? = some fn) (hn : (fn.name == "runtime.NumGoroutine") = false) (hb : fn.body.isNone = false)
    (hc : ∀ (s cutset : ByteArray) (w : World), cutset.size < 4294967281 → (∀ (j : Nat) b, cutset.data.toList[j]? = some b → b.toNat < 128) → Calls P f #[.string s, .string cutset] w fun e w' =>
      e = .returned (.string ⟨(Lib.trimLeftS s.data.toList cutset.data.toList).toArray⟩) ∧ Bel w.heap.size w w') : HintOk P base wo f (pureG trimLeftG) := by
  refine pureG_ok hf hn hb fun args v hv => ?_
  obtain ⟨p, hp, hv⟩ := ob_some hv
  obtain ⟨hcd, hv⟩ := bt_some hv
  obtain rfl := Option.some.inj hv
  obtain rfl := str2_some hp
  rw [Bool.and_eq_true] at hcd
  refine ⟨rfl, rfl, fun w _ => ?_⟩
  have hs : p.2.size < 4294967281 := by
    have := ble_t hcd.2
    have e : lenS p.2 = p.2.size := Array.length_toList
    omega
  refine (hc p.1 p.2 w hs fun j b hj => blt_t (List.all_eq_true.1 hcd.1 b (List.mem_of_getElem? hj))).mono fun e w' ⟨he, hbl⟩ => ⟨?_, hbl⟩
  rw [he]
  show Ending.returned (.string (strOf (Lib.trimLeftS (strL p.1) (strL p.2)))) = _
  rw [← dropB_is]

/-! ### texts put together -/
def strs? (l : List Value) : Option (List ByteArray) :=
  List.rec (motive := fun _ => Option (List ByteArray)) (some []) (fun v _ ih => ob (asStr? v) fun s => ob ih fun l => some (s :: l)) l
def joinS (xs : List ByteArray) (sep : ByteArray) : List UInt8 := Lib.join (xs.map (·.data.toList)) sep.data.toList
def joinH (n c : Nat) (sep : ByteArray) (m : Mem) (p : Nat × Nat) : Res :=
  ob (m.cut p.1 p.2 n) fun l => ob (strs? l) fun xs => bt (Nat.ble n c && (Nat.ble n 100000 && Nat.ble (joinS xs sep).length 10000000)) (some (.string (strOf (joinS xs sep)), m))
def joinG (args : List Value) (m : Mem) : Res :=
  match args with
  | [.slice (some a) n c, .string sep] => ob (adr (some a)) (joinH n c sep m)
  | _ => none
theorem strs_some : ∀ {l : List Value} {xs : List ByteArray}, strs? l = some xs → l = xs.map Value.string := by
  intro l
  induction l with
  | nil => intro xs h; obtain rfl := Option.some.inj h; rfl
  | cons v l ih =>
    intro xs h
    obtain ⟨s, hs, h⟩ := ob_some (show ob (asStr? v) (fun s => ob (strs? l) fun l => some (s :: l)) = some xs from h)
    obtain ⟨r, hr, h⟩ := ob_some h
    obtain rfl := Option.some.inj h
    rw [ih hr]
    cases v <;> first | (cases hs; done) | (obtain rfl := Option.some.inj hs; rfl)
theorem join_ok {P : Program} {wo : Orig} {base : Nat} {f : Nat} {fn : Func} (hf : P.funcs[f]? = some fn) (hn : (fn.name == "runtime.NumGoroutine") = false) (hb : fn.body.isNone = false)
    (hc : ∀ (bk o c : Nat) (xs : List ByteArray) (sep : ByteArray) (w : World), (∀ (j : Nat) x, xs[j]? = some x → w.cell? ⟨bk, o + j, none⟩ = some (.string x)) → bk < w.heap.size → xs.length ≤ 140737488355328 → xs.length ≤ c →
      (Lib.join (xs.map (·.data.toList)) sep.data.toList).length ≤ 140737488355328 →
      Calls P f #[.slice (some ⟨bk, o, none⟩) xs.length c, .string sep] w fun e w' => e = .returned (.string ⟨(Lib.join (xs.map (·.data.toList)) sep.data.toList).toArray⟩) ∧ Bel w.heap.size w w') : HintOk P base wo f joinG := by
  intro args m r ρ w args' hg hr hv
  unfold joinG at hg
  split at hg
  · rename_i a n c sep
    obtain ⟨p, hp, hg⟩ := ob_some hg
    obtain ⟨l, hl, hg⟩ := ob_some hg
    obtain ⟨xs, hxs, hg⟩ := ob_some hg
    obtain ⟨hb3, hg⟩ := bt_some hg
    obtain rfl := Option.some.inj hg
    rw [Bool.and_eq_true, Bool.and_eq_true] at hb3
    obtain ⟨hnc, hn1, hlen⟩ := hb3
    have hnc := ble_t hnc
    have hn1 := ble_t hn1
    have hlen := ble_t hlen
    obtain ⟨v1, l1, hl1, h1, h2⟩ := hv.inv_cons
    obtain ⟨v2, l2, rfl, h3, h4⟩ := h2.inv_cons
    obtain rfl := h4.inv_nil
    obtain rfl := h3.str_inv
    have hll := strs_some hxs
    rcases h1.slc_inv hp with ⟨s, hs, hx⟩ | ⟨rfl, _, rfl, _⟩
    · subst hx
      have e : args' = #[.slice (some ⟨s.blk, s.shift + p.2, none⟩) n (c + s.slack), .string sep] := by rw [← Array.toList_inj, hl1]
      subst e
      obtain ⟨s', l', hs', hlen', hrel, hcell⟩ := hr.cut hs hl
      rw [hs] at hs'; obtain rfl := Option.some.inj hs'
      obtain ⟨rw_, hrow, _⟩ := ob_some hl
      obtain ⟨s', hs', hlt, _⟩ := hr.row hs hrow
      rw [hs] at hs'; obtain rfl := Option.some.inj hs'
      have el : l' = xs.map Value.string := by
        rw [← hll]
        exact hrel.of_scal (by rw [hll]; exact List.all_eq_true.2 fun v hv => by obtain ⟨x, _, rfl⟩ := List.mem_map.1 hv; rfl)
      have hn : xs.length = n := by rw [← hlen', el, List.length_map]
      subst hn
      refine .inr ⟨call_enters hf ‹_› ‹_›, (hc s.blk (s.shift + p.2) (c + s.slack) xs sep w (fun j x hj => ?_) hlt (by omega) (by omega) (by unfold joinS at hlen; omega)).mono fun _ _ ⟨he, hbl⟩ => ⟨_, he, ρ, Rho.le_refl ρ, VRel.scal _ rfl, hr.later hbl⟩⟩
      have hj' := (List.getElem?_eq_some_iff.1 hj).1
      rw [hcell j hj', el, List.getElem?_map, hj]; rfl
    · exfalso
      obtain ⟨rw_, hrow, _⟩ := ob_some hl
      have := hr.now.1.2 _ (rowOf_some hrow)
      cases this
  · cases hg
end
end Go.Am
