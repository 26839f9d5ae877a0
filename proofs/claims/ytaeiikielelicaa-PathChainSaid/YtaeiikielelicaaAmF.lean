/- The abstract machine on arguments that are not known: one step at a time, by rewriting. All temporaries are kept in the store. -/
import Derived.Carry
import Derived.Test.YtaeiikielelicaaAmE
set_option linter.unusedVariables false
set_option linter.unusedSimpArgs false
set_option linter.unusedSectionVars false
namespace Go.Am
open Go.RowKit
noncomputable section

/-! ### the store: what is read behind a write -/
theorem Tr.path_same {α : Type} (a : α) : ∀ (f : Nat) (t : Tr α) (i : Nat), i + 1 < 2 ^ f → (Tr.path a f t i).get i = some a := by
  intro f
  induction f with
  | zero => intro t i h; simp at h
  | succ f ih =>
    intro t i h
    have key : ∀ (v : Option α) (l r : Tr α), (Tr.at a (Tr.path a f) v l r i).get i = some a := by
      intro v l r
      cases i with
      | zero => rfl
      | succ i =>
        have hd : Nat.div i 2 + 1 < 2 ^ f := by
          have e : i / 2 + 1 < 2 ^ f := by rw [Nat.pow_succ] at h; omega
          exact e
        rcases mod2 i with hm | hm
        · rw [Tr.at_left _ _ _ _ _ hm, Tr.get_left _ _ _ hm]; exact ih _ _ hd
        · rw [Tr.at_right _ _ _ _ _ hm, Tr.get_right _ _ _ hm]; exact ih _ _ hd
    cases t with
    | e => exact key none .e .e
    | nd v l r => exact key v l r
theorem Tr.set_same {α : Type} (a : α) (f : Nat) : ∀ (t : Tr α) (i : Nat), i + 1 < 2 ^ f → (Tr.set a f t i).get i = some a := by
  intro t
  induction t with
  | e => intro i h; exact Tr.path_same a f .e i h
  | nd v l r ihl ihr =>
    intro i h
    cases i with
    | zero => rfl
    | succ i =>
      have hd : Nat.div i 2 + 1 < 2 ^ f := by
        have e : i / 2 + 1 < 2 ^ f := by omega
        exact e
      show (Tr.at a (fun t i => Tr.set a f t i) v l r (i + 1)).get (i + 1) = some a
      rcases mod2 i with hm | hm
      · rw [Tr.at_left _ _ _ _ _ hm, Tr.get_left _ _ _ hm]; exact ihl _ hd
      · rw [Tr.at_right _ _ _ _ _ hm, Tr.get_right _ _ _ hm]; exact ihr _ hd
theorem Tr.set_ne {α : Type} (a : α) (f : Nat) : ∀ (t : Tr α) (i j : Nat), j ≠ i → (Tr.set a f t i).get j = t.get j := by
  intro t
  induction t with
  | e =>
    intro i j h
    cases hg : (Tr.set a f .e i).get j with
    | none => rfl
    | some v =>
      rcases Tr.get_path a f .e i j v hg with ⟨e, _⟩ | ⟨_, h2⟩
      · exact absurd e h
      · exact h2.symm
  | nd v l r ihl ihr =>
    intro i j h
    show (Tr.at a (fun t i => Tr.set a f t i) v l r i).get j = (Tr.nd v l r).get j
    cases i with
    | zero =>
      cases j with
      | zero => exact absurd rfl h
      | succ j =>
        rw [Tr.at_zero]
        rcases mod2 j with hj | hj
        · rw [Tr.get_left _ _ _ hj, Tr.get_left _ _ _ hj]
        · rw [Tr.get_right _ _ _ hj, Tr.get_right _ _ _ hj]
    | succ i =>
      rcases mod2 i with hm | hm
      · rw [Tr.at_left _ _ _ _ _ hm]
        cases j with
        | zero => rfl
        | succ j =>
          rcases mod2 j with hj | hj
          · rw [Tr.get_left _ _ _ hj, Tr.get_left _ _ _ hj]
            exact ihl _ _ fun e => h (by rw [half_same (hm.trans hj.symm) e])
          · rw [Tr.get_right _ _ _ hj, Tr.get_right _ _ _ hj]
      · rw [Tr.at_right _ _ _ _ _ hm]
        cases j with
        | zero => rfl
        | succ j =>
          rcases mod2 j with hj | hj
          · rw [Tr.get_left _ _ _ hj, Tr.get_left _ _ _ hj]
          · rw [Tr.get_right _ _ _ hj, Tr.get_right _ _ _ hj]
            exact ihr _ _ fun e => h (by rw [half_same (hm.trans hj.symm) e])
theorem Tr.get_put {α : Type} (a : α) (t : Tr α) (i j : Nat) (h : i < 100000) : (Tr.set a dep t i).get j = if j = i then some a else t.get j := by
  split
  · rename_i e
    subst e
    exact Tr.set_same a dep t j (Nat.lt_trans (show j + 1 < 200000 by omega) (by decide))
  · rename_i e; exact Tr.set_ne a dep t i j e

end
end Go.Am
namespace Go.Am
open Go.RowKit
noncomputable section
variable {β : Type}

theorem ob_bt {α : Type} (b : Bool) (x : Option α) (f : α → Option β) : ob (bt b x) f = bt b (ob x f) := by cases b <;> rfl
theorem ob_ob {α γ : Type} (x : Option α) (f : α → Option γ) (g : γ → Option β) : ob (ob x f) g = ob x fun a => ob (f a) g := by cases x <;> rfl
theorem ob_op2 {α γ : Type} (x : Option α) (y : Option γ) (f : α → Option γ) (g : γ → Option β) : ob (op2 x y f) g = op2 x (ob y g) fun a => ob (f a) g := by cases x <;> rfl
theorem ob_none {α : Type} (f : α → Option β) : ob none f = none := rfl
theorem ob_of {α : Type} (x : α) (f : α → Option β) : ob (some x) f = f x := rfl

/-! ### numbers, texts -/
def intK (op : BinOp) (k : IntKind) (x : Int) (k' : IntKind) (y : Int) (c : Value → Option β) : Option β :=
  match op with
  | .quo => bt (ikEq k k') (bt (!(eqI y 0)) (c (.int k (wrapA k (Int.tdiv x y)))))
  | .rem => bt (ikEq k k') (bt (!(eqI y 0)) (c (.int k (Int.tmod x y))))
  | .shl => ob (nat? y) fun n => c (.int k (wrapA k (Int.mul x (pow2 k n))))
  | .shr => ob (nat? y) fun n => c (.int k (Int.fdiv x (pow2 k n)))
  | op => ob (intOp op k x k' y) c
theorem intK_eq (op : BinOp) (k : IntKind) (x : Int) (k' : IntKind) (y : Int) (c : Value → Option β) : intK op k x k' y c = ob (intOp op k x k' y) c := by
  cases op <;> first | rfl | skip
  · show _ = ob (bt (ikEq k k') (bt (!(eqI y 0)) (some _))) c; rw [ob_bt, ob_bt]; rfl
  · show _ = ob (bt (ikEq k k') (bt (!(eqI y 0)) (some _))) c; rw [ob_bt, ob_bt]; rfl
  · show _ = ob (ob (nat? y) fun n => some _) c; rw [ob_ob]; rfl
  · show _ = ob (ob (nat? y) fun n => some _) c; rw [ob_ob]; rfl
def strK (op : BinOp) (a b : ByteArray) (c : Value → Option β) : Option β :=
  match op with
  | .add => bt (Nat.ble (Nat.add (lenS a) (lenS b)) 9223372036854775807) (c (.string (catS a b)))
  | op => ob (strOp op a b) c
theorem strK_eq (op : BinOp) (a b : ByteArray) (c : Value → Option β) : strK op a b c = ob (strOp op a b) c := by
  cases op <;> first | rfl | skip
  show _ = ob (bt _ (some _)) c; rw [ob_bt]; rfl
def binVK (op : BinOp) (t : TypeId) (x y : Value) (P : Program) (gen : Sem Next) (c : Value → Option β) : Option β :=
  match x with
  | .int k a => ob (asInt? y) fun q => intK op k a q.1 q.2 c
  | .string a => ob (asStr? y) fun b => strK op a b c
  | .float k a => ob (binF op t k a y P gen) c
  | x => ob (binO op t x y P gen) c
theorem binVK_eq (op : BinOp) (t : TypeId) (x y : Value) (P : Program) (gen : Sem Next) (c : Value → Option β) : binVK op t x y P gen c = ob (binV op t x y P gen) c := by
  cases x with
  | int k a =>
    show ob (asInt? y) (fun q => intK op k a q.1 q.2 c) = ob (ob (asInt? y) fun q => intOp op k a q.1 q.2) c
    rw [ob_ob]; simp only [intK_eq]
  | string a =>
    show ob (asStr? y) (fun b => strK op a b c) = ob (ob (asStr? y) fun b => strOp op a b) c
    rw [ob_ob]; simp only [strK_eq]
  | _ => rfl

def indexK (P : Program) (t : TypeId) (x ix : Option Value) (c : Value → Option β) : Option β :=
  ob ix fun ix => ob (asInt? ix) fun i => ob x fun v => match v with
    | .string s => bt (isStr P t) (ob (byteS s i.2) fun b => c (.int .u8 b))
    | v => ob (opIndex P t (some v) (some ix)) c
theorem indexK_eq (P : Program) (t : TypeId) (x ix : Option Value) (c : Value → Option β) : indexK P t x ix c = ob (opIndex P t x ix) c := by
  cases ix with
  | none => rfl
  | some ix =>
    cases ix <;> first | rfl | skip
    cases x with
    | none => rfl
    | some v =>
      cases v <;> first | rfl | skip
      rename_i k i s
      show bt (isStr P t) (ob (byteS s i) fun b => c (.int .u8 b)) = ob (bt (isStr P t) (ob (byteS s i) fun b => some (.int .u8 b))) c
      rw [ob_bt, ob_ob]; rfl
def indexAddrK (P : Program) (t : TypeId) (x ix : Option Value) (c : Value → Option β) : Option β :=
  ob ix fun ix => ob (asInt? ix) fun i => ob x fun v => match v with
    | .pointer a => ob (array? P t) fun r => ob (lt? i.2 r.1) fun i => ob (size? P r.2) fun k => ob (adr a) fun p => c (ptr p.1 (Nat.add p.2 (Nat.mul i k)))
    | .slice a len _ => ob (elem? P t) fun e => ob (lt? i.2 len) fun i => ob (size? P e) fun k => ob (adr a) fun p => c (ptr p.1 (Nat.add p.2 (Nat.mul i k)))
    | _ => none
theorem indexAddrK_eq (P : Program) (t : TypeId) (x ix : Option Value) (c : Value → Option β) : indexAddrK P t x ix c = ob (opIndexAddr P t x ix) c := by
  unfold indexAddrK opIndexAddr
  cases ix with
  | none => rfl
  | some ix =>
    cases ix <;> first | rfl | skip
    cases x with
    | none => rfl
    | some v =>
      cases v <;> first | rfl | skip
      · show ob (array? P t) _ = ob (ixPtr ..) c
        unfold ixPtr; simp only [ob_ob, ob_of]
      · show ob (elem? P t) _ = ob (ixSl ..) c
        unfold ixSl; simp only [ob_ob, ob_of]
def sliceK (P : Program) (t : TypeId) (x : Option Value) (lo hi mx : Option (Option Value)) (m : Mem) (c : Value → Option β) : Option β :=
  ob x fun v => match v with
    | .string s => bt mx.isNone (bt (isStr P t) (ob (bnd hi (lenS s) (lenS s)) fun h => ob (bnd lo 0 h) fun l => c (.string (subS s l h))))
    | v => ob (opSlice P t (some v) lo hi mx m) c
theorem sliceK_eq (P : Program) (t : TypeId) (x : Option Value) (lo hi mx : Option (Option Value)) (m : Mem) (c : Value → Option β) : sliceK P t x lo hi mx m c = ob (opSlice P t x lo hi mx m) c := by
  cases x with
  | none => show none = ob (bt mx.isNone none) c; cases mx.isNone <;> rfl
  | some v =>
    cases v <;> first | rfl | skip
    rename_i s
    show bt mx.isNone (bt (isStr P t) _) = ob (bt mx.isNone (bt (isStr P t) (ob (bnd hi (lenS s) (lenS s)) fun h => ob (bnd lo 0 h) fun l => some (.string (subS s l h))))) c
    simp only [ob_bt, ob_ob, ob_of]
def bytesK (l : List Value) : (List UInt8 → Option β) → Option β :=
  List.rec (motive := fun _ => (List UInt8 → Option β) → Option β) (fun c => c [])
    (fun v _ ih c => ob (asInt? v) fun p => bt (ikEq .u8 p.1) (ob (nat? p.2) fun n => ih fun l => c (UInt8.ofNat n :: l))) l
theorem bytesK_eq : ∀ (l : List Value) (c : List UInt8 → Option β), bytesK l c = ob (bytesOfV l) c := by
  intro l
  induction l with
  | nil => intro c; rfl
  | cons v l ih =>
    intro c
    show ob (asInt? v) (fun p => bt (ikEq .u8 p.1) (ob (nat? p.2) fun n => bytesK l fun l => c (UInt8.ofNat n :: l))) = ob (ob (ob (asInt? v) fun p => bt (ikEq .u8 p.1) (ob (nat? p.2) fun n => some (UInt8.ofNat n))) fun b => ob (bytesOfV l) fun l => some (b :: l)) c
    rw [ob_ob, ob_ob]
    congr 1
    funext p
    rw [ob_bt]
    congr 1
    rw [ob_ob]
    congr 1
    funext n
    rw [ih, ob_of, ob_ob]; rfl
/-- a text as bytes: none, or some. -/
def convertK (P : Program) (src dst : TypeId) (x : Option Value) (gen : Sem Next) (m : Mem) (c : Value → Mem → Option β) : Option β :=
  ob x fun x => match x with
    | .slice a n q => ob (elem? P src) fun e => bt (isStr P dst) (bt (isU8 P e) (ob (source 1 (.slice a n q) m) fun s => bytesK s.2 fun l => c (.string (strOf l)) m))
    | .float k b => ob (P.underlying src) fun _ => op2 (int? P dst) (ob (with_ m (next? P gen)) fun r => c r.1 r.2) fun kd => ob (floatToIntVal k b kd) fun n => c (.int kd n) m
    | x => ob (opConvert P src dst (some x) gen m) fun r => c r.1 r.2
theorem convertK_eq (P : Program) (src dst : TypeId) (x : Option Value) (gen : Sem Next) (m : Mem) (c : Value → Mem → Option β) : convertK P src dst x gen m c = ob (opConvert P src dst x gen m) fun r => c r.1 r.2 := by
  cases x with
  | none => rfl
  | some v =>
    cases v <;> first | rfl | skip
    · rename_i k b
      show ob (P.underlying src) _ = ob (ob (P.underlying src) fun _ => op2 (int? P dst) (with_ m (next? P gen)) fun kd => ob (floatToIntVal k b kd) fun n => some (.int kd n, m)) fun r => c r.1 r.2
      simp only [ob_ob, ob_op2, ob_of]
    rename_i a n q
    show ob (elem? P src) _ = ob (ob (elem? P src) fun e => bt (isStr P dst) (with_ m (cvString P e (.slice a n q) m))) fun r => c r.1 r.2
    unfold with_ cvString
    simp only [ob_bt, ob_ob, ob_of, bytesK_eq]

/-- the next sign of a text. -/
def nextK (it : Option Value) (isString : Bool) (m : Mem) (k : Value → Mem → Option β) : Option β :=
  bt isString (ob (at? it) fun p => bt (Nat.beq p.2 0) (ob (m.blk p.1) fun b => ob (sitOf b) fun q =>
    Bool.rec (k tupN m) (k (tup3 q.2 (Utf8.decode q.1 q.2).1) (m.put p.1 (.sit q.1 (Nat.add q.2 (Utf8.decode q.1 q.2).2)))) (Nat.blt q.2 (lenS q.1))))
theorem nextK_eq (it : Option Value) (isString : Bool) (m : Mem) (k : Value → Mem → Option β) : nextK it isString m k = ob (opNext it isString m) fun r => k r.1 r.2 := by
  unfold nextK opNext
  rw [ob_bt, ob_ob]
  congr 2
  funext p
  rw [ob_bt, ob_ob]
  congr 2
  funext b
  rw [ob_ob]
  congr 1
  funext q
  rw [ob_of]
  unfold sitNext
  cases Nat.blt q.2 (lenS q.1) <;> rfl

/-! ### steps -/
/-! loads and stores, where what is read, or where, is not known -/
def getI (k : IntKind) (t : Tr Value) (o : Nat) : Option Int := ob (t.get o) fun v => ob (asInt? v) fun p => bt (ikEq k p.1) (some p.2)
def getB (t : Tr Value) (o : Nat) : Option Bool := ob (t.get o) asBool?
def getS (t : Tr Value) (o : Nat) : Option ByteArray := ob (t.get o) asStr?
def ldRow (m : Mem) (b o : Nat) (k : Tr Value → Option β) : Option β := ob (m.rowOf b) fun r => bt (Nat.ble (Nat.succ o) r.n) (k r.c)
def ldOneK (z : Value) (m : Mem) (b o : Nat) (k : Value → Option β) : Option β :=
  match z with
  | .int kd _ => ldRow m b o fun t => ob (getI kd t o) fun n => k (.int kd n)
  | .bool _ => ldRow m b o fun t => ob (getB t o) fun n => k (.bool n)
  | .string _ => ldRow m b o fun t => ob (getS t o) fun n => k (.string n)
  | z => ob (ldOne z m b o) k
theorem ldRow_eq {α : Type} (m : Mem) (b o : Nat) (f : Value → Option α) (k : α → Option β) : ldRow m b o (fun t => ob (ob (t.get o) f) k) = ob (ob (m.cell b o) f) k := by
  unfold ldRow Mem.cell
  rw [ob_ob, ob_ob]
  congr 1; funext r
  show bt _ (ob (ob (r.c.get o) f) k) = _
  rw [ob_bt, ob_ob]
theorem ldOneK_eq (z : Value) (m : Mem) (b o : Nat) (k : Value → Option β) : ldOneK z m b o k = ob (ldOne z m b o) k := by
  cases z <;> first | rfl | skip
  · have h := ldRow_eq m b o asBool? (fun n => k (.bool n))
    exact h.trans (ob_ob (ldBool m b o) (fun n => some (Value.bool n)) k).symm
  · rename_i kd n
    have h := ldRow_eq m b o (fun v => ob (asInt? v) fun p => bt (ikEq kd p.1) (some p.2)) (fun n => k (.int kd n))
    exact h.trans (ob_ob (ldInt kd m b o) (fun n => some (Value.int kd n)) k).symm
  · have h := ldRow_eq m b o asStr? (fun n => k (.string n))
    exact h.trans (ob_ob (ldStr m b o) (fun n => some (Value.string n)) k).symm
def ldAllK (zs : List Value) (m : Mem) (b o : Nat) (k : List Value → Option β) : Option β :=
  List.rec (motive := fun _ => Nat → (List Value → Option β) → Option β) (fun _ k => k [])
    (fun z _ ih o k => ldOneK z m b o fun v => ih (Nat.succ o) fun l => k (v :: l)) zs o k
theorem ldAllK_eq (zs : List Value) (m : Mem) (b : Nat) : ∀ (o : Nat) (k : List Value → Option β), ldAllK zs m b o k = ob (ldAll zs m b o) k := by
  induction zs with
  | nil => intro o k; rfl
  | cons z zs ih =>
    intro o k
    show (ldOneK z m b o fun v => ldAllK zs m b (Nat.succ o) fun l => k (v :: l)) = ob (ob (ldOne z m b o) fun v => ob (ldAll zs m b (Nat.succ o)) fun l => some (v :: l)) k
    rw [ldOneK_eq, ob_ob]
    congr 1; funext v
    rw [ih, ob_ob]; rfl
def loadK (P : Program) (t : TypeId) (b o : Nat) (m : Mem) (k : Value → Option β) : Option β :=
  ob (P.info? t) fun i => ob i.zero fun z => ob (isAgg? P t) fun g =>
    ite2 g (bt (Nat.beq (cellsL z).length i.size) (ldAllK (cellsL z) m b o fun l => k (aggOf l))) (ldOneK z m b o k)
theorem loadK_eq (P : Program) (t : TypeId) (b o : Nat) (m : Mem) (k : Value → Option β) : loadK P t b o m k = ob (loadA P t b o m) k := by
  unfold loadK loadA
  rw [ob_ob]; congr 1; funext i
  rw [ob_ob]; congr 1; funext z
  rw [ob_ob]; congr 1; funext g
  cases g
  · exact ldOneK_eq z m b o k
  · show bt _ _ = ob (bt _ _) k
    rw [ob_bt, ldAllK_eq, ob_ob]; rfl
def wrK (m : Mem) (b o : Nat) (cs : List Value) (k : Mem → Option β) : Option β :=
  ob (m.rowOf b) fun r => bt r.wr (bt (Nat.ble (Nat.add o cs.length) r.n) (k ((m.kill r.prev).put b (.cells r.n (r.c.sets o cs) r.ek true none))))
theorem wrK_eq (m : Mem) (b o : Nat) (cs : List Value) (k : Mem → Option β) : wrK m b o cs k = ob (m.wr b o cs) k := by
  unfold wrK Mem.wr
  rw [ob_ob]; congr 1; funext r
  rw [ob_bt, ob_bt]; rfl
def storeK (P : Program) (t : TypeId) (x v : Option Value) (m : Mem) (k : Value → Mem → Option β) : Option β :=
  ob (at? x) fun p => ob v fun v => ob (size? P t) fun n =>
    bt (Nat.beq (cellsL v).length n) (bt ((cellsL v).all okCell) (wrK m p.1 p.2 (cellsL v) fun m' => k undef m'))
theorem storeK_eq (P : Program) (t : TypeId) (x v : Option Value) (m : Mem) (k : Value → Mem → Option β) : storeK P t x v m k = ob (opStore P t x v m) fun r => k r.1 r.2 := by
  unfold storeK opStore
  rw [ob_ob]; congr 1; funext p
  rw [ob_ob]; congr 1; funext v
  rw [ob_ob]; congr 1; funext n
  rw [ob_bt, ob_bt, wrK_eq, ob_ob]; rfl
abbrev CallKF (β : Type) := FuncId → List Value → Mem → (Value → Mem → Option β) → Option β
def callVK (callK : CallKF β) (f : Option Value) (args : List (Option Value)) (m : Mem) (k : Value → Mem → Option β) : Option β :=
  ob f fun f => ob (asFunc? f) fun f => ob (all? args) fun l => callK f.1 (f.2.1 ++ (l ++ f.2.2)) m k
def callCK (P : Program) (callK : CallKF β) (c : Callee) (tys : List TypeId) (args : List Operand) (o : Oper) (ρ : Operand → Option Value) (m : Mem) (k : Value → Mem → Option β) : Option β :=
  Callee.rec (motive := fun _ => Option β) (fun f => callVK callK (ρ f) (args.map ρ) m k) (fun _ _ => none) (fun b => ob (biA P b tys (args.map ρ) (execOp (tot ρ) o) m) fun r => k r.1 r.2) c
def stepKK (P : Program) (callK : CallKF β) (call : CallF) (o : Oper) (ρ : Operand → Option Value) (m : Mem) (k : Value → Mem → Option β) : Option β :=
  match o.op with
  | .binOp op t x y _ => ob (ρ x) fun a => ob (ρ y) fun b => binVK op t a b P (execOp (tot ρ) o) fun v => k v m
  | .convert s d x => convertK P s d (ρ x) (execOp (tot ρ) o) m k
  | .slice t x lo hi mx => sliceK P t (ρ x) (lo.map ρ) (hi.map ρ) (mx.map ρ) m fun v => k v m
  | .indexAddr t x ix => indexAddrK P t (ρ x) (ρ ix) fun v => k v m
  | .index t x ix => indexK P t (ρ x) (ρ ix) fun v => k v m
  | .call c => callCK P callK c.callee c.argTypes.toList c.args.toList o ρ m k
  | .next it s => nextK (ρ it) s m k
  | .load t a => ob (at? (ρ a)) fun p => loadK P t p.1 p.2 m fun v => k v m
  | .store t a x => storeK P t (ρ a) (ρ x) m k
  | op => stepO op P call o ρ m k
def CallSame (callK : CallKF β) (call : CallF) : Prop := ∀ f args m k, callK f args m k = ob (call f args m) fun r => k r.1 r.2
theorem callCK_eq {callK : CallKF β} {call : CallF} (h : CallSame callK call) (P : Program) (c : Callee) (tys : List TypeId) (args : List Operand) (o : Oper) (ρ : Operand → Option Value) (m : Mem) (k : Value → Mem → Option β) :
    callCK P callK c tys args o ρ m k = ob (callC P call c tys args o ρ m) fun r => k r.1 r.2 := by
  cases c with
  | value f =>
    show callVK callK (ρ f) (args.map ρ) m k = ob (callV call (ρ f) (args.map ρ) m) fun r => k r.1 r.2
    unfold callVK callV
    rw [ob_ob]; congr 1; funext a
    rw [ob_ob]; congr 1; funext b
    rw [ob_ob]; congr 1; funext l
    exact h ..
  | _ => rfl
theorem stepKK_eq {callK : CallKF β} {call : CallF} (h : CallSame callK call) (P : Program) (o : Oper) (ρ : Operand → Option Value) (m : Mem) (k : Value → Mem → Option β) :
    stepKK P callK call o ρ m k = Am.stepK P call o ρ m k := by
  unfold stepKK Am.stepK
  cases ho : o.op <;> first | rfl | skip
  · simp only [loadK_eq]; rfl
  · simp only [storeK_eq]; rfl
  · simp only [binVK_eq]; rfl
  · simp only [convertK_eq]; rename_i a b c; show _ = ob (stepA P call o ρ m) _; unfold stepA; rw [ho]; rfl
  · simp only [sliceK_eq]; rfl
  · simp only [indexAddrK_eq]; rfl
  · simp only [indexK_eq]; rfl
  · rename_i it s
    show nextK (ρ it) s m k = ob (stepA P call o ρ m) fun r => k r.1 r.2
    rw [nextK_eq]; unfold stepA; rw [ho]; rfl
  · simp only [callCK_eq h]; rfl

/-! ### what is learned of a temporary -/
def Al.ref (d : Nat) (v : Value) (l : Al) : Al :=
  List.rec (motive := fun _ => Al) [] (fun p l ih => ite2 (Nat.beq p.1 d) ((p.1, v) :: l) (p :: ih)) l
def Tr.ref (v : Value) (t : Tr Value) : Nat → Tr Value :=
  Tr.rec (motive := fun _ => Nat → Tr Value) (fun _ => .e)
    (fun v' l r ihl ihr i => Nat.rec (motive := fun _ => Tr Value) (.nd (some v) l r)
      (fun j _ => Nat.rec (motive := fun _ => Tr Value) (.nd v' (ihl (Nat.div j 2)) r) (fun _ _ => .nd v' l (ihr (Nat.div j 2))) (Nat.mod j 2)) i) t
theorem Al.ref_same (d : Nat) (v : Value) : ∀ (l : Al), l.get d = some v → Al.ref d v l = l := by
  intro l
  induction l with
  | nil => intro h; cases h
  | cons p l ih =>
    intro h
    obtain ⟨a, b⟩ := p
    have h' : ite2 (Nat.beq a d) (some b) (Al.get l d) = some v := h
    show ite2 (Nat.beq a d) ((a, v) :: l) ((a, b) :: Al.ref d v l) = _
    cases hb : Nat.beq a d with
    | true => rw [hb] at h'; obtain rfl := Option.some.inj h'; rfl
    | false => rw [hb] at h'; show (a, b) :: Al.ref d v l = _; rw [ih h']
theorem Tr.ref_same (v : Value) : ∀ (t : Tr Value) (i : Nat), t.get i = some v → Tr.ref v t i = t := by
  intro t
  induction t with
  | e => intro i h; cases h
  | nd v' l r ihl ihr =>
    intro i h
    cases i with
    | zero => obtain rfl : v' = some v := h; rfl
    | succ j =>
      rcases mod2 j with hm | hm
      · rw [Tr.get_left _ _ _ hm] at h
        show Nat.rec (motive := fun _ => Tr Value) (.nd v' (Tr.ref v l (Nat.div j 2)) r) (fun _ _ => .nd v' l (Tr.ref v r (Nat.div j 2))) (Nat.mod j 2) = _
        rw [show Nat.mod j 2 = 0 from hm]
        show Tr.nd v' (Tr.ref v l (Nat.div j 2)) r = _
        rw [ihl _ h]
      · rw [Tr.get_right _ _ _ hm] at h
        show Nat.rec (motive := fun _ => Tr Value) (.nd v' (Tr.ref v l (Nat.div j 2)) r) (fun _ _ => .nd v' l (Tr.ref v r (Nat.div j 2))) (Nat.mod j 2) = _
        rw [show Nat.mod j 2 = 1 from hm]
        show Tr.nd v' l (Tr.ref v r (Nat.div j 2)) = _
        rw [ihr _ h]
/-- on with what a temporary is now known to be. -/
def refK {γ : Type} (msk : FI) (lv : Tr Value) (tp : Al) (d : Nat) (v : Value) (k : Tr Value → Al → γ) : γ := Bool.rec (k lv (tp.ref d v)) (k (lv.ref v d) tp) (kept msk d)
theorem refK_same {γ : Type} {msk : FI} {lv : Tr Value} {tp : Al} {d : Nat} {v : Value} (h : tmpA msk lv tp d = some v) (k : Tr Value → Al → γ) : refK msk lv tp d v k = k lv tp := by
  unfold refK
  unfold tmpA at h
  cases hk : kept msk d with
  | true => rw [hk] at h; show k (lv.ref v d) tp = _; rw [Tr.ref_same v lv d h]
  | false => rw [hk] at h; show k lv (tp.ref d v) = _; rw [Al.ref_same d v tp h]

/-! ### regions -/
def wantK (msk : FI) (all : List Oper) (lv : Tr Value) (tp : Al) (g : Nat × Bool) (no yes : Tr Value → Al → Option β) : Option β :=
  ob (all[g.1]?) fun o => ob o.dst fun d => ob (tmpA msk lv tp d) fun v => match v with
    | .bool b => Bool.rec (refK msk lv tp d (.bool false) (Bool.rec yes no g.2)) (refK msk lv tp d (.bool true) (Bool.rec no yes g.2)) b
    | .tuple _ => no lv tp
    | _ => none
theorem wantK_eq (msk : FI) (all : List Oper) (lv : Tr Value) (tp : Al) (m : Mem) (g : Nat × Bool) (no yes : Tr Value → Al → Option β) :
    wantK msk all lv tp g no yes = ob (wantG msk all ⟨lv, tp, m⟩ g) fun w => Bool.rec (no lv tp) (yes lv tp) w := by
  unfold wantK wantG
  cases ha : all[g.1]? with
  | none => rfl
  | some o =>
    rw [ob_of, ob_of]
    cases hd : o.dst with
    | none => rfl
    | some d =>
      rw [ob_of, ob_of]
      cases hv : tmpA msk lv tp d with
      | none => rfl
      | some v =>
        cases v <;> first | rfl | skip
        rename_i b
        obtain ⟨g1, g2⟩ := g
        cases b with
        | true =>
          show refK msk lv tp d (.bool true) (Bool.rec no yes g2) = _
          rw [refK_same hv]; cases g2 <;> rfl
        | false =>
          show refK msk lv tp d (.bool false) (Bool.rec yes no g2) = _
          rw [refK_same hv]; cases g2 <;> rfl
def regLK (P : Program) (msk : FI) (callK : CallKF β) (call : CallF) (all ops : List Oper) (k : St → Option β) : Tr Value → Al → Mem → Option β :=
  List.rec (motive := fun _ => Tr Value → Al → Mem → Option β) (fun lv tp m => k ⟨lv, tp, m⟩)
    (fun o _ ih lv tp m => op2 o.guard (stepKK P callK call o (ev P msk ⟨lv, tp, m⟩) m fun v m' => putK msk o.dst lv tp v m' ih)
      fun g => wantK msk all lv tp g (fun lv tp => putK msk o.dst lv tp undef m ih) (fun lv tp => stepKK P callK call o (ev P msk ⟨lv, tp, m⟩) m fun v m' => putK msk o.dst lv tp v m' ih)) ops
theorem putK_ob {γ : Type} (msk : FI) (d : Option Tmp) (lv : Tr Value) (tp : Al) (v : Value) (m : Mem) (k : Tr Value → Al → Mem → Option γ) (f : γ → Option β) :
    ob (putK msk d lv tp v m k) f = putK msk d lv tp v m fun lv tp m => ob (k lv tp m) f := by
  cases d with
  | none => rfl
  | some d =>
    show ob (Bool.rec (k lv ((d, v) :: tp) m) (k (Tr.set v dep lv d) tp m) (kept msk d)) f = Bool.rec _ _ (kept msk d)
    cases kept msk d <;> rfl
theorem stepK_ob {γ : Type} (P : Program) (call : CallF) (o : Oper) (ρ : Operand → Option Value) (m : Mem) (k : Value → Mem → Option γ) (f : γ → Option β) :
    ob (Am.stepK P call o ρ m k) f = Am.stepK P call o ρ m fun v m => ob (k v m) f := by
  unfold Am.stepK
  cases o.op <;> first | rfl | (simp only [stepO, ob_ob]; done) | skip
theorem regLK_eq {callK : CallKF β} {call : CallF} (h : CallSame callK call) (P : Program) (msk : FI) (all : List Oper) (k : St → Option β) : ∀ (ops : List Oper) (lv : Tr Value) (tp : Al) (m : Mem),
    regLK P msk callK call all ops k lv tp m = ob (regL P msk call all ops lv tp m) k := by
  intro ops
  induction ops with
  | nil => intro lv tp m; rfl
  | cons o ops ih =>
    intro lv tp m
    have hih : ∀ {lv tp m}, regLK P msk callK call all ops k lv tp m = ob (regL P msk call all ops lv tp m) k := ih _ _ _
    show op2 o.guard (stepKK P callK call o (ev P msk ⟨lv, tp, m⟩) m fun v m' => putK msk o.dst lv tp v m' (regLK P msk callK call all ops k)) (fun g => wantK msk all lv tp g (fun lv tp => putK msk o.dst lv tp undef m (regLK P msk callK call all ops k)) (fun lv tp => stepKK P callK call o (ev P msk ⟨lv, tp, m⟩) m fun v m' => putK msk o.dst lv tp v m' (regLK P msk callK call all ops k)))
      = ob (op2 o.guard (Am.stepK P call o (ev P msk ⟨lv, tp, m⟩) m fun v m' => putK msk o.dst lv tp v m' (regL P msk call all ops))
          fun g => ob (wantG msk all ⟨lv, tp, m⟩ g) fun w => Bool.rec (putK msk o.dst lv tp undef m (regL P msk call all ops)) (Am.stepK P call o (ev P msk ⟨lv, tp, m⟩) m fun v m' => putK msk o.dst lv tp v m' (regL P msk call all ops)) w) k
    have hk : regLK P msk callK call all ops k = fun lv tp m => ob (regL P msk call all ops lv tp m) k := by funext lv tp m; exact hih
    rw [hk]
    rw [ob_op2]
    cases o.guard with
    | none => simp only [op2_no, stepKK_eq h, stepK_ob, putK_ob]
    | some g =>
      simp only [op2_is, stepKK_eq h]
      rw [wantK_eq msk all lv tp m, ob_ob]
      congr 1
      funext w
      cases w
      · rw [putK_ob]
      · rw [stepK_ob]; simp only [putK_ob]
/-! ### regions that draw their order -/
def drawnK (P : Program) (msk : FI) (call : CallF) (n : Nat) (b : List Nat) (bs : List Brn) (o : Oper) (d : Dw) (v : Value) (m : Mem) (ih : Dw → Option β) : Option β :=
  Kin.rec (motive := fun _ => Option β)
    (ih ⟨putA msk d.st o.dst v m, Nat.succ d.i, d.rs, d.ws⟩)
    (bt (fitW P msk call b d.i o d.st v d.ws) (ih ⟨putA msk d.st o.dst v m, Nat.succ d.i, ⟨d.i, o, d.st, v⟩ :: d.rs, d.ws⟩))
    (bt (headA P msk call n b bs o d v m) (bt (fitR P msk call b d.i m d.rs && fitB b d.i m bs) (ih ⟨putA msk d.st o.dst v m, Nat.succ d.i, d.rs, ⟨d.i, d.st.mem, o, d.st, v⟩ :: d.ws⟩)))
    (kinD P (ev P msk d.st) o.op)
theorem drawnK_eq (P : Program) (msk : FI) (call : CallF) (n : Nat) (b : List Nat) (bs : List Brn) (o : Oper) (d : Dw) (v : Value) (m : Mem) (ih : Dw → Option St) (k : St → Option β) :
    drawnK P msk call n b bs o d v m (fun d => ob (ih d) k) = ob (drawn P msk call n b bs o d v m ih) k := by
  unfold drawnK drawn
  cases kinD P (ev P msk d.st) o.op
  · rfl
  · show bt _ _ = ob (bt _ _) k; rw [ob_bt]
  · show bt _ (bt _ _) = ob (bt _ (bt _ _)) k; rw [ob_bt, ob_bt]
theorem stepKA {callK : CallKF β} {call : CallF} (h : CallSame callK call) (P : Program) (o : Oper) (ρ : Operand → Option Value) (m : Mem) (k : Value → Mem → Option β) :
    stepKK P callK call o ρ m k = ob (stepA P call o ρ m) fun r => k r.1 r.2 := by
  rw [stepKK_eq h]; exact stepK_is
def regDK (P : Program) (msk : FI) (callK : CallKF β) (call : CallF) (all : List Oper) (b : List Nat) (bs : List Brn) (ops : List Oper) (k : St → Option β) : Dw → Option β :=
  List.rec (motive := fun _ => Dw → Option β) (fun d => k d.st)
    (fun o _ ih d => op2 (bornAt bs d.i)
      (op2 o.guard
        (bt (known? P msk o d.st) (stepKK P callK call o (ev P msk d.st) d.st.mem fun v m => drawnK P msk call all.length b bs o d v m ih))
        fun g => wantK msk all d.st.lv d.st.tp g
          (fun lv tp => ih ⟨putA msk ⟨lv, tp, d.st.mem⟩ o.dst undef d.st.mem, Nat.succ d.i, d.rs, d.ws⟩)
          (fun lv tp => bt (known? P msk o ⟨lv, tp, d.st.mem⟩) (stepKK P callK call o (ev P msk ⟨lv, tp, d.st.mem⟩) d.st.mem fun v m => drawnK P msk call all.length b bs o ⟨⟨lv, tp, d.st.mem⟩, d.i, d.rs, d.ws⟩ v m ih)))
      fun x => bt (bornOk P msk o d.st x) (ih ⟨putA msk d.st o.dst (bornV o.op x.b) d.st.mem, Nat.succ d.i, d.rs, d.ws⟩)) ops
theorem regDK_eq {callK : CallKF β} {call : CallF} (h : CallSame callK call) (P : Program) (msk : FI) (all : List Oper) (b : List Nat) (bs : List Brn) (k : St → Option β) : ∀ (ops : List Oper) (d : Dw),
    regDK P msk callK call all b bs ops k d = ob (regD P msk call all b bs ops d) k := by
  intro ops
  induction ops with
  | nil => intro d; rfl
  | cons o ops ih =>
    intro d
    have hk : regDK P msk callK call all b bs ops k = fun d => ob (regD P msk call all b bs ops d) k := by funext d; exact ih d
    show op2 (bornAt bs d.i)
      (op2 o.guard
        (bt (known? P msk o d.st) (stepKK P callK call o (ev P msk d.st) d.st.mem fun v m => drawnK P msk call all.length b bs o d v m (regDK P msk callK call all b bs ops k)))
        fun g => wantK msk all d.st.lv d.st.tp g
          (fun lv tp => regDK P msk callK call all b bs ops k ⟨putA msk ⟨lv, tp, d.st.mem⟩ o.dst undef d.st.mem, Nat.succ d.i, d.rs, d.ws⟩)
          (fun lv tp => bt (known? P msk o ⟨lv, tp, d.st.mem⟩) (stepKK P callK call o (ev P msk ⟨lv, tp, d.st.mem⟩) d.st.mem fun v m => drawnK P msk call all.length b bs o ⟨⟨lv, tp, d.st.mem⟩, d.i, d.rs, d.ws⟩ v m (regDK P msk callK call all b bs ops k))))
      (fun x => bt (bornOk P msk o d.st x) (regDK P msk callK call all b bs ops k ⟨putA msk d.st o.dst (bornV o.op x.b) d.st.mem, Nat.succ d.i, d.rs, d.ws⟩))
      = ob (op2 (bornAt bs d.i) (ob (wantA msk all o d.st) fun w =>
        Bool.rec (regD P msk call all b bs ops ⟨putA msk d.st o.dst undef d.st.mem, Nat.succ d.i, d.rs, d.ws⟩)
          (bt (known? P msk o d.st)
            (ob (stepA P call o (ev P msk d.st) d.st.mem) fun r => drawn P msk call all.length b bs o d r.1 r.2 (regD P msk call all b bs ops))) w)
        fun x => bt (bornOk P msk o d.st x) (regD P msk call all b bs ops ⟨putA msk d.st o.dst (bornV o.op x.b) d.st.mem, Nat.succ d.i, d.rs, d.ws⟩)) k
    rw [hk, ob_op2]
    cases bornAt bs d.i with
    | some x => simp only [op2_is, ob_bt]
    | none =>
      simp only [op2_no]
      unfold wantA
      cases o.guard with
      | none =>
        simp only [op2_no, ob_of]
        show _ = ob (bt (known? P msk o d.st) _) k
        rw [ob_bt, stepKA h, ob_ob]
        simp only [drawnK_eq]
      | some g =>
        simp only [op2_is]
        rw [wantK_eq msk all d.st.lv d.st.tp d.st.mem, ob_ob]
        show ob (wantG msk all d.st g) _ = _
        congr 1
        funext w
        cases w
        · rfl
        · show bt (known? P msk o d.st) _ = ob (bt (known? P msk o d.st) _) k
          rw [ob_bt, stepKA h, ob_ob]
          simp only [drawnK_eq]
def regGK (P : Program) (msk : FI) (callK : CallKF β) (call : CallF) (ops : List Oper) (b : List Nat) (n : Nat) (st : St) (k : St → Option β) : Option β :=
  ob (guess P msk call b ops n st) fun l => bt ((preB l st.mem).1.all fun x => freshB (preB l st.mem).2 x.b x.zs) (regDK P msk callK call ops b (preB l st.mem).1 ops k ⟨⟨st.lv, st.tp, (preB l st.mem).2⟩, 0, [], []⟩)
theorem regGK_eq {callK : CallKF β} {call : CallF} (h : CallSame callK call) (P : Program) (msk : FI) (ops : List Oper) (b : List Nat) (n : Nat) (st : St) (k : St → Option β) :
    regGK P msk callK call ops b n st k = ob (regG P msk call ops b n st) k := by
  unfold regGK regG regB
  rw [ob_ob]
  congr 1
  funext l
  rw [ob_bt, regDK_eq h]
def regionK (P : Program) (msk : FI) (callK : CallKF β) (call : CallF) (id : Nat) (ops : Array Oper) (draw : Bool) (st : St) (k : Ex → St → Option β) : Option β :=
  Bool.rec (regLK P msk callK call ops.toList ops.toList (k .normal) st.lv st.tp st.mem)
    (op2 (msk.rg id) (bt (chkR ops (Region.before ops).toList) (regGK P msk callK call ops.toList (Region.before ops).toList ops.size st (k .normal))) fun b => regGK P msk callK call ops.toList b ops.size st (k .normal)) draw
theorem regionK_eq {callK : CallKF β} {call : CallF} (h : CallSame callK call) (P : Program) (msk : FI) (id : Nat) (ops : Array Oper) (draw : Bool) (st : St) (k : Ex → St → Option β) :
    regionK P msk callK call id ops draw st k = ob (region P msk call id ops draw st) fun r => k r.1 r.2 := by
  cases draw with
  | true =>
    show op2 (msk.rg id) (bt (chkR ops (Region.before ops).toList) (regGK P msk callK call ops.toList (Region.before ops).toList ops.size st (k .normal))) (fun b => regGK P msk callK call ops.toList b ops.size st (k .normal))
      = ob (ob (op2 (msk.rg id) (bt (chkR ops (Region.before ops).toList) (regG P msk call ops.toList (Region.before ops).toList ops.size st)) fun b => regG P msk call ops.toList b ops.size st) fun st' => some (.normal, st')) fun r => k r.1 r.2
    rw [ob_ob, ob_op2, ob_bt]
    simp only [regGK_eq h, ob_of]
  | false =>
    show regLK P msk callK call ops.toList ops.toList (k .normal) st.lv st.tp st.mem = ob (ob (regA P msk call ops.toList ops.toList st) fun st' => some (.normal, st')) fun r => k r.1 r.2
    rw [regLK_eq h, ob_ob]; rfl

/-! ### code -/
abbrev KSt (β : Type) := Ex → St → Option β
def seqK (y : St → KSt β → Option β) (k : KSt β) : KSt β := fun e st => match e with
  | .normal => y st k
  | e => k e st
def blkK (id : Nat) (k : KSt β) : KSt β := fun e st => k (blkE id e) st
def labK (b : Code) (gs : Nat → Run) (k : KSt β) : KSt β := fun e st => match e with
  | .goto l => op2 (findLabel b l) (k (.goto l) st) fun _ => ob (gs l st.clean) fun r => k r.1 r.2
  | e => k e st
def condK (_ : Program) (msk : FI) (c : Operand) (x y : St → KSt β → Option β) (st : St) (k : KSt β) : Option β :=
  Operand.rec (motive := fun _ => Option β)
    (fun t => ob (tmpA msk st.lv st.tp t) fun v => ob (asBool? v) fun b =>
      Bool.rec (refK msk st.lv st.tp t (.bool false) fun lv tp => y ⟨lv, tp, st.mem⟩ k) (refK msk st.lv st.tp t (.bool true) fun lv tp => x ⟨lv, tp, st.mem⟩ k) b)
    (fun v => ob (flat? v) fun v => ob (asBool? v) fun b => Bool.rec (y st k) (x st k) b) (fun _ => none) (fun _ => none) c
def exK (P : Program) (msk : FI) (callK : CallKF β) (call : CallF) (lp : Code → Run) (gs : Code → Nat → Run) (c : Code) : St → KSt β → Option β :=
  Code.rec (motive := fun _ => St → KSt β → Option β)
    (fun st k => k .normal st)
    (fun id ops draw st k => regionK P msk callK call id ops draw st k)
    (fun _ _ x y st k => x st (seqK y k))
    (fun c _ _ x y st k => condK P msk c x y st k)
    (fun id _ x st k => x st (blkK id k))
    (fun b _ st k => ob (lp b st.clean) fun r => k r.1 r.2)
    (fun _ _ _ _ _ _ _ _ => none)
    (fun id st k => k (.exit id) st)
    (fun b x st k => x st (labK b (gs b) k))
    (fun _ st k => k .normal st)
    (fun l st k => k (.goto l) st)
    (fun st k => k .ret st)
    (fun _ _ _ => none) c
theorem asBool_some' {v : Value} {b : Bool} (h : asBool? v = some b) : v = .bool b := by
  cases v <;> first | (cases h; done) | (obtain rfl := Option.some.inj h; rfl)
theorem exK_eq {callK : CallKF β} {call : CallF} (h : CallSame callK call) (P : Program) (msk : FI) (lp : Code → Run) (gs : Code → Nat → Run) (c : Code) : ∀ (st : St) (k : KSt β),
    exK P msk callK call lp gs c st k = ob (execC P msk call lp gs c st) fun r => k r.1 r.2 := by
  induction c with
  | region id ops draw => intro st k; exact regionK_eq h P msk id ops draw st k
  | seq x y ihx ihy =>
    intro st k
    show exK P msk callK call lp gs x st (seqK (exK P msk callK call lp gs y) k) = ob (ob (execC P msk call lp gs x st) fun r => thenN r.1 r.2 (execC P msk call lp gs y)) fun r => k r.1 r.2
    rw [ihx, ob_ob]
    congr 1
    funext r
    obtain ⟨e, st'⟩ := r
    cases e <;> first | rfl | exact ihy st' k
  | cond c x y ihx ihy =>
    intro st k
    show condK P msk c (exK P msk callK call lp gs x) (exK P msk callK call lp gs y) st k = ob (condA (ev P msk st c) (execC P msk call lp gs x) (execC P msk call lp gs y) st) fun r => k r.1 r.2
    unfold condA
    rw [ob_ob]
    simp only [ob_ob]
    cases c with
    | tmp t =>
      show ob (tmpA msk st.lv st.tp t) _ = ob (tmpA msk st.lv st.tp t) _
      cases hv : tmpA msk st.lv st.tp t with
      | none => rfl
      | some v =>
        rw [ob_of, ob_of]
        cases hb : asBool? v with
        | none => rfl
        | some b =>
          obtain rfl := asBool_some' hb
          rw [ob_of, ob_of]
          cases b with
          | true => show refK _ _ _ _ _ _ = _; rw [refK_same hv]; exact ihx st k
          | false => show refK _ _ _ _ _ _ = _; rw [refK_same hv]; exact ihy st k
    | const v =>
      show ob (flat? v) _ = ob (flat? v) _
      congr 1
      funext v
      congr 1
      funext b
      cases b
      · exact ihy st k
      · exact ihx st k
    | global g =>
      show none = ob (bt (Nat.blt g P.globals.size) (some (ptr g 0))) _
      rw [ob_bt]; cases Nat.blt g P.globals.size <;> rfl
    | func f => rfl
  | block id x ih =>
    intro st k
    show exK P msk callK call lp gs x st (blkK id k) = ob (ob (execC P msk call lp gs x st) fun r => some (blkE id r.1, r.2)) fun r => k r.1 r.2
    rw [ih, ob_ob]; rfl
  | scope b ih =>
    intro st k
    show exK P msk callK call lp gs b st (labK b (gs b) k) = ob (ob (execC P msk call lp gs b st) fun r => gotoA b (gs b) r.1 r.2) fun r => k r.1 r.2
    rw [ih, ob_ob]
    congr 1
    funext r
    obtain ⟨e, st'⟩ := r
    cases e <;> first | rfl | skip
    rename_i l
    show op2 (findLabel b l) _ _ = ob (op2 (findLabel b l) (some (.goto l, st')) fun _ => gs b l st'.clean) fun r => k r.1 r.2
    rw [ob_op2]; rfl
  | _ => intros; rfl

/-! ### a place in code, and what comes behind it -/
def codeAt (c : Code) (p : List Nat) : Code :=
  List.rec (motive := fun _ => Code → Code) (fun c => c) (fun i _ ih c => match c with
    | .seq x y => ih (Nat.rec x (fun _ _ => y) i)
    | .cond _ x y => ih (Nat.rec x (fun _ _ => y) i)
    | .block _ x => ih x
    | .loop x => ih x
    | .scope x => ih x
    | c => c) p c
/-- what comes behind a place (not past a loop's head). -/
def contAt (P : Program) (msk : FI) (callK : CallKF β) (call : CallF) (lp : Code → Run) (gs : Code → Nat → Run) (c : Code) (p : List Nat) (k : KSt β) : KSt β :=
  List.rec (motive := fun _ => Code → KSt β → KSt β) (fun _ k => k) (fun i _ ih c k => match c with
    | .seq x y => Nat.rec (ih x (seqK (exK P msk callK call lp gs y) k)) (fun _ _ => ih y k) i
    | .cond _ x y => ih (Nat.rec x (fun _ _ => y) i) k
    | .block id x => ih x (blkK id k)
    | .scope x => ih x (labK x (gs x) k)
    | _ => k) p c k
end
end Go.Am
namespace Go.Am
open Go.RowKit
noncomputable section

/-! ### what is forgotten at a round's end -/
def Tr.allv (f : Value → Bool) (t : Tr Value) : Bool := Tr.rec (motive := fun _ => Bool) true (fun v _ _ il ir => op2 v true f && (il && ir)) t
theorem Tr.allv_get {f : Value → Bool} : ∀ (t : Tr Value) (i : Nat) (v : Value), t.allv f = true → t.get i = some v → f v = true := by
  intro t
  induction t with
  | e => intro i v _ h; cases h
  | nd x l r ihl ihr =>
    intro i v ha h
    have ha' : (op2 x true f && (l.allv f && r.allv f)) = true := ha
    rw [Bool.and_eq_true, Bool.and_eq_true] at ha'
    cases i with
    | zero => obtain rfl : x = some v := h; exact ha'.1
    | succ j =>
      rcases mod2 j with hm | hm
      · rw [Tr.get_left _ _ _ hm] at h; exact ihl _ v ha'.2.1 h
      · rw [Tr.get_right _ _ _ hm] at h; exact ihr _ v ha'.2.2 h
def gcPre (g : Option Nat) (st : St) : Bool := op2 g true fun nx => Nat.ble st.mem.nx nx
def gcO (g : Option Nat) (st : St) : Option St := op2 g (some st) fun nx => bt (st.lv.allv flat) (some ⟨st.lv, [], ⟨.e, nx⟩⟩)

section
variable {P : Program} {base : Nat} {w0 : Orig} {msk : FI} {n : Nat} {call : CallF} {lp : Code → Run} {gs : Code → Nat → Run}

theorem Rep.forget {ρ ρ1 : Rho} {m m1 : Mem} {w w1 : World} {nx : Nat} (h0 : Rep P base w0 ρ m w) (h1 : Rep P base w0 ρ1 m1 w1) (hnx : m.nx ≤ nx) : Rep P base w0 ρ ⟨.e, nx⟩ w1 where
  dom := fun b k s h => by cases h
  nx := fun b s h => Nat.lt_of_lt_of_le (h0.nx b s h) hnx
  sep := fun b1 b2 k1 k2 s1 s2 _ h => by cases h
  below := h1.below
  size := h1.size
  glob := h0.glob
  now := ⟨⟨Nat.lt_of_lt_of_le h0.now.1.1 hnx, (fun k h => by cases h)⟩, h0.now.2⟩
  top := ⟨(fun b k h => by cases h), fun b h => ⟨Nat.lt_of_lt_of_le (h0.top.2 b h).1 hnx, (h0.top.2 b h).2⟩⟩
theorem gc_rel {g : Option Nat} {ρ ρ1 : Rho} {st st1 st2 : St} {a a1 : Act} {w w1 : World} (hp : gcPre g st = true) (hg : gcO g st1 = some st2) (h0 : SRel P base w0 msk n ρ st a w) (h1 : SRel P base w0 msk n ρ1 st1 a1 w1) (hle : Rho.le ρ ρ1) :
    ∃ ρ2, Rho.le ρ ρ2 ∧ SRel P base w0 msk n ρ2 st2 a1 w1 := by
  cases g with
  | none => obtain rfl := Option.some.inj (show some st1 = some st2 from hg); exact ⟨ρ1, hle, h1⟩
  | some nx =>
    obtain ⟨ha, hg⟩ := bt_some (show bt (st1.lv.allv flat) (some (⟨st1.lv, [], ⟨.e, nx⟩⟩ : St)) = some st2 from hg)
    obtain rfl := Option.some.inj hg
    refine ⟨ρ, Rho.le_refl ρ, ⟨⟨h1.fr.size, h1.fr.defers, fun t v ht => ?_⟩, h0.rep.forget h1.rep (ble_t hp)⟩⟩
    have ht' : tmpA msk st1.lv st1.tp t = some v := by
      unfold tmpA at ht ⊢
      cases hk : kept msk t with
      | true => rw [hk] at ht; exact ht
      | false => rw [hk] at ht; cases ht
    have hfl : flat v = true := by
      unfold tmpA at ht
      cases hk : kept msk t with
      | true => rw [hk] at ht; exact st1.lv.allv_get t v ha ht
      | false => rw [hk] at ht; cases ht
    obtain ⟨hx, hv⟩ := h1.fr.tmps t v ht'
    exact ⟨hx, by rw [hv.of_flat hfl]; exact VRel.flat hfl⟩

/-! ### loops -/
theorem lp_ok (hcall : ∀ d, CallOk P base (w0.at d) call) (hlp : LpOk P base w0 msk n lp) (hgs : GsOk P base w0 msk n gs) (g : Option Nat) :
    LpOk P base w0 msk n fun b st => bt (gcPre g st) (ob (execC P msk call lp gs b st) fun r => goOn (fun st => ob (gcO g st) (lp b)) r.1 r.2) := by
  intro b st e st' ρ a w h hc hs f k cs
  obtain ⟨hp, h⟩ := bt_some h
  obtain ⟨⟨e1, st1⟩, hr, h⟩ := ob_some h
  obtain ⟨x, a1, w1, ⟨rfl, ρ1, hle, hs1⟩, harr⟩ := exec_sound hcall hlp hgs b st e1 st1 ρ a w hr hc hs f (.inLoop b :: k) cs
  cases e1 with
  | normal =>
    obtain ⟨st2, hg, h⟩ := ob_some (show ob (gcO g st1.clean) (lp b) = some (e, st') from h)
    obtain ⟨ρ2, hle2, hs2⟩ := gc_rel hp hg hs hs1.clean hle
    obtain ⟨x, a2, w2, ⟨hx, hp⟩, harr2⟩ := hlp b st2 e st' ρ2 a1 w1 h hc hs2 f k cs
    exact ⟨x, a2, w2, ⟨hx, hp.mono hle2⟩, .of_steps (Steps.trans harr (.one step_inLoop)) harr2⟩
  | exit id =>
    obtain ⟨rfl, rfl⟩ := Prod.mk.inj (Option.some.inj h)
    exact ⟨_, a1, w1, ⟨rfl, ρ1, hle, hs1⟩, .pass (x := .inLoop b) rfl (fun _ _ => .inl (by simp [toX])) harr⟩
  | goto l =>
    obtain ⟨rfl, rfl⟩ := Prod.mk.inj (Option.some.inj h)
    exact ⟨_, a1, w1, ⟨rfl, ρ1, hle, hs1⟩, .pass (x := .inLoop b) rfl (fun _ _ => .inl (by simp [toX])) harr⟩
  | ret =>
    obtain ⟨rfl, rfl⟩ := Prod.mk.inj (Option.some.inj h)
    exact ⟨_, a1, w1, ⟨rfl, ρ1, hle, hs1⟩, .pass (x := .inLoop b) rfl (fun _ _ => .inl (by simp [toX])) harr⟩
theorem gs_ok (hcall : ∀ d, CallOk P base (w0.at d) call) (hlp : LpOk P base w0 msk n lp) (hgs : GsOk P base w0 msk n gs) (g : Option Nat) :
    GsOk P base w0 msk n fun b l st => bt (gcPre g st) (ob (findLabel b l) fun rest => ob (execC P msk call lp gs rest st) fun r => gotoA b (fun l st => ob (gcO g st) (gs b l)) r.1 r.2) := by
  intro b l st e st' ρ a w h hc hs
  obtain ⟨hp, h⟩ := bt_some h
  obtain ⟨rest, hf, h⟩ := ob_some h
  obtain ⟨⟨e1, st1⟩, hr, h⟩ := ob_some h
  refine ⟨rest, hf, fun f k cs => ?_⟩
  obtain ⟨x, a1, w1, ⟨rfl, ρ1, hle, hs1⟩, harr⟩ := exec_sound hcall hlp hgs rest st e1 st1 ρ a w hr (label_ok b rest hf hc) hs f (.inScope b :: k) cs
  cases e1 with
  | normal =>
    obtain ⟨rfl, rfl⟩ := Prod.mk.inj (Option.some.inj h)
    exact ⟨_, a1, w1, ⟨rfl, ρ1, hle, hs1⟩, Steps.trans harr (.one step_inScope)⟩
  | exit id =>
    obtain ⟨rfl, rfl⟩ := Prod.mk.inj (Option.some.inj h)
    exact ⟨_, a1, w1, ⟨rfl, ρ1, hle, hs1⟩, fun k' hk => harr k' (by simp [exitTo, hk])⟩
  | ret =>
    obtain ⟨rfl, rfl⟩ := Prod.mk.inj (Option.some.inj h)
    exact ⟨_, a1, w1, ⟨rfl, ρ1, hle, hs1⟩, harr⟩
  | goto l' =>
    have h' : op2 (findLabel b l') (some (Ex.goto l', st1)) (fun _ => ob (gcO g st1.clean) (gs b l')) = some (e, st') := h
    cases hf' : findLabel b l' with
    | none =>
      rw [hf'] at h'
      obtain ⟨rfl, rfl⟩ := Prod.mk.inj (Option.some.inj h')
      exact ⟨_, a1, w1, ⟨rfl, ρ1, hle, hs1⟩, fun k' hk => harr k' (by simp [gotoIn, hf', hk])⟩
    | some rest2 =>
      rw [hf'] at h'
      obtain ⟨st2, hg, h'⟩ := ob_some (show ob (gcO g st1.clean) (gs b l') = some (e, st') from h')
      obtain ⟨ρ2, hle2, hs2⟩ := gc_rel hp hg hs hs1.clean hle
      obtain ⟨rest3, hf3, hrun⟩ := hgs b l' st2 e st' ρ2 a1 w1 h' hc hs2
      rw [hf'] at hf3; obtain rfl := Option.some.inj hf3
      obtain ⟨x, a2, w2, ⟨hx, hp⟩, harr2⟩ := hrun f k cs
      refine ⟨x, a2, w2, ⟨hx, hp.mono hle2⟩, .of_steps (harr _ ?_) harr2⟩
      simp [gotoIn, hf']
end

structure LT where
  lp : Code → Run
  gs : Code → Nat → Run
/-- a function's loops, so many rounds. -/
def ltow (P : Program) (msk : FI) (call : CallF) (g : Option Nat) : Nat → LT :=
  Nat.rec ⟨fun _ _ => none, fun _ _ _ => none⟩ fun _ T =>
    ⟨fun b st => bt (gcPre g st) (ob (execC P msk call T.lp T.gs b st) fun r => goOn (fun st => ob (gcO g st) (T.lp b)) r.1 r.2),
     fun b l st => bt (gcPre g st) (ob (findLabel b l) fun rest => ob (execC P msk call T.lp T.gs rest st) fun r => gotoA b (fun l st => ob (gcO g st) (T.gs b l)) r.1 r.2)⟩
theorem ltow_ok {P : Program} {base : Nat} {w0 : Orig} {msk : FI} {n : Nat} {call : CallF} (hcall : ∀ d, CallOk P base (w0.at d) call) (g : Option Nat) : ∀ k, LpOk P base w0 msk n (ltow P msk call g k).lp ∧ GsOk P base w0 msk n (ltow P msk call g k).gs := by
  intro k
  induction k with
  | zero => exact ⟨(fun b st e st' ρ a w h => by cases h), (fun b l st e st' ρ a w h => by cases h)⟩
  | succ k ih => exact ⟨lp_ok hcall ih.1 ih.2 g, gs_ok hcall ih.1 ih.2 g⟩

/-! ### what called functions are known to answer -/
abbrev KSpec := FuncId × (List Value → Option (Bool × Value))
def sfind (l : List KSpec) (f : FuncId) : Option (List Value → Option (Bool × Value)) :=
  List.rec (motive := fun _ => Option (List Value → Option (Bool × Value))) none (fun p _ ih => ite2 (Nat.beq p.1 f) (some p.2) ih) l
def kcall (l : List KSpec) : CallF := fun f args m => ob (sfind l f) fun g => ob (g args) fun q => bt q.1 (some (q.2, m))
def kcallK {β : Type} (l : List KSpec) : CallKF β := fun f args m k => ob (sfind l f) fun g => ob (g args) fun q => bt q.1 (k q.2 m)
theorem kcall_same {β : Type} (l : List KSpec) : CallSame (β := β) (kcallK l) (kcall l) := by
  intro f args m k
  unfold kcallK kcall
  rw [ob_ob]; simp only [ob_ob, ob_bt, ob_of]
def Holds (P : Program) (s : KSpec) : Prop := ∃ fn, P.funcs[s.1]? = some fn ∧ (fn.name == "runtime.NumGoroutine") = false ∧ fn.body.isNone = false ∧
  ∀ args v, s.2 args = some (true, v) → args.all flat = true ∧ flat2 v = true ∧ Says P s.1 ⟨args⟩ v
theorem sfind_mem {l : List KSpec} {f : FuncId} {g : List Value → Option (Bool × Value)} (h : sfind l f = some g) : (f, g) ∈ l := by
  induction l with
  | nil => cases h
  | cons p l ih =>
    have h' : ite2 (Nat.beq p.1 f) (some p.2) (sfind l f) = some g := h
    cases hb : Nat.beq p.1 f with
    | true => rw [hb] at h'; obtain rfl := Option.some.inj h'; rw [← beq_t hb]; exact List.mem_cons_self ..
    | false => rw [hb] at h'; exact List.mem_cons_of_mem _ (ih h')
theorem kcall_ok {P : Program} {base : Nat} {wo : Orig} {l : List KSpec} (h : ∀ s ∈ l, Holds P s) : CallOk P base wo (kcall l) := by
  intro f args m r ρ w args' hc hr hv
  obtain ⟨g, hg, hc⟩ := ob_some hc
  obtain ⟨⟨b, v⟩, hq, hc⟩ := ob_some hc
  obtain ⟨hb, hc⟩ := bt_some hc
  obtain rfl := Option.some.inj hc
  simp only at hb
  subst hb
  obtain ⟨fn, hf, hn, hbd, hs⟩ := h _ (sfind_mem hg)
  obtain ⟨h1, h2, h3⟩ := hs args v hq
  have e' : args' = ⟨args⟩ := Array.toList_inj.1 (hv.of_flat h1)
  subst e'
  exact .inr ⟨call_enters hf hn hbd, (h3 w).mono fun _ _ ⟨he, hb⟩ => ⟨v, he, ρ, Rho.le_refl ρ, VRel.flat2 h2, hr.later hb⟩⟩

def retK (P : Program) (msk : FI) (rs : List ResultVar) : KSt Value := fun e st => bt (endE e) (ob (resultsA P msk st rs) fun l => some (tupA l))
/-- what a function answers. -/
def bodyK (P : Program) (msk : FI) (s : List KSpec) (lp : Code → Run) (gs : Code → Nat → Run) (c : Code) (rs : List ResultVar) (args : List Value) : Option Value :=
  exK P msk (kcallK s) (kcall s) lp gs c (argsA msk args (mem0 P 0)) (retK P msk rs)
theorem says_of_K {P : Program} (M : Masks P) {s : List KSpec} (hs : ∀ x ∈ s, Holds P x) {f : FuncId} {fn : Func} {c : Code} {vs : List Value} {v : Value} (g : Option Nat) (k : Nat)
    (hf : P.funcs[f]? = some fn) (hn : (fn.name == "runtime.NumGoroutine") = false) (hb : fn.body = some c) (hst : (fiAt M.l f).st = true) (hle : Nat.ble vs.length fn.ntmps = true) (hvs : vs.all flat = true) (hv : flat2 v = true)
    (h : bodyK P (fiAt M.l f) s (ltow P (fiAt M.l f) (kcall s) g k).lp (ltow P (fiAt M.l f) (kcall s) g k).gs c fn.results.toList vs = some v) : Says P f ⟨vs⟩ v := by
  intro w
  unfold bodyK at h
  rw [exK_eq (kcall_same s)] at h
  obtain ⟨⟨e, st⟩, hex, h⟩ := ob_some h
  obtain ⟨hend, h⟩ := bt_some h
  obtain ⟨l, hl, h⟩ := ob_some h
  obtain rfl := Option.some.inj h
  have hbody : bodyA P (fiAt M.l f) (kcall s) (ltow P (fiAt M.l f) (kcall s) g k).lp (ltow P (fiAt M.l f) (kcall s) g k).gs f vs (mem0 P 0) = some (tupA l, st.mem) := by
    unfold bodyA
    have e1 : func? P f = some fn := by unfold func?; simpa using hf
    rw [e1, ob_of, hb, op2_is, hst, hle]
    show doneA P _ _ (execC ..) = _
    unfold doneA
    rw [hex, ob_of]
    show bt (endE e) _ = _
    rw [hend]
    show ob (resultsA P _ st fn.results.toList) _ = _
    rw [hl]; rfl
  have hco : ∀ d, CallOk P w.heap.size ((orig P [] w).at d) (kcall s) := fun d => kcall_ok hs
  have hbn : fn.body.isNone = false := by rw [hb]; rfl
  rcases body_sound (w0 := orig P [] w) hco (fun n => (ltow_ok hco g k).1) (fun n => (ltow_ok hco g k).2) (fun fn c hf hc => stat_ok M [] f fn c hf hc) hbody (start (vs := []) (w := w)) (args' := ⟨vs⟩) (VRels.flat hvs) with ⟨v', w', he, _⟩ | ⟨_, hc⟩
  · rw [call_enters hf hn hbn] at he; cases he
  · refine hc.mono fun x w' ⟨v', he, ρ', _, hv', hr⟩ => ?_
    rw [hv'.of_flat2 hv] at he
    exact ⟨he, hr.below⟩
/-- a round of a loop, told by what comes behind. -/
theorem lp_round {β : Type} {P : Program} {msk : FI} {s : List KSpec} {g : Option Nat} {k : Nat} {b : Code} {st : St} (f : Ex × St → Option β) :
    ob ((ltow P msk (kcall s) g (k + 1)).lp b st) f = bt (gcPre g st) (exK P msk (kcallK s) (kcall s) (ltow P msk (kcall s) g k).lp (ltow P msk (kcall s) g k).gs b st fun e st => ob (goOn (fun st => ob (gcO g st) ((ltow P msk (kcall s) g k).lp b)) e st) f) := by
  show ob (bt (gcPre g st) (ob (execC ..) _)) f = _
  rw [ob_bt, ob_ob, exK_eq (kcall_same s)]; rfl
theorem gs_round {β : Type} {P : Program} {msk : FI} {s : List KSpec} {g : Option Nat} {k : Nat} {b rest : Code} {l : Nat} {st : St} (hr : findLabel b l = some rest) (f : Ex × St → Option β) :
    ob ((ltow P msk (kcall s) g (k + 1)).gs b l st) f = bt (gcPre g st) (exK P msk (kcallK s) (kcall s) (ltow P msk (kcall s) g k).lp (ltow P msk (kcall s) g k).gs rest st fun e st => ob (gotoA b (fun l st => ob (gcO g st) ((ltow P msk (kcall s) g k).gs b l)) e st) f) := by
  show ob (bt (gcPre g st) (ob (findLabel b l) _)) f = _
  rw [ob_bt, hr, ob_of, ob_ob, exK_eq (kcall_same s)]; rfl
end
end Go.Am
namespace Go.Am
open Go.RowKit

theorem ite2_if {β : Type} (b : Bool) (x y : β) : ite2 b x y = if b = true then x else y := by cases b <;> rfl
theorem bt_if {β : Type} (b : Bool) (x : Option β) : bt b x = if b = true then x else none := by cases b <;> rfl
theorem eqI_dec (a b : Int) : eqI a b = decide (a = b) := by rw [eqI_eq]; by_cases h : a = b <;> simp [h]
theorem leI_dec (a b : Int) : leI a b = decide (a ≤ b) := by unfold leI; rw [ltI_eq]; by_cases h : b < a <;> simp [h] <;> omega
theorem gtI_dec (a b : Int) : gtI a b = decide (b < a) := by unfold gtI; rw [ltI_eq]
theorem geI_dec (a b : Int) : geI a b = decide (b ≤ a) := by unfold geI; rw [ltI_eq]; by_cases h : a < b <;> simp [h] <;> omega
theorem neI_dec (a b : Int) : neI a b = decide (a ≠ b) := by unfold neI; rw [eqI_dec]; by_cases h : a = b <;> simp [h]
theorem wrapA_i64 {x : Int} (h1 : -9223372036854775808 ≤ x) (h2 : x < 9223372036854775808) : wrapA .i64 x = x := by
  rw [wrapA_eq]; unfold IntKind.wrap; simp [IntKind.signed, IntKind.bits]; omega
theorem wrapA_u64 {x : Int} (h1 : 0 ≤ x) (h2 : x < 18446744073709551616) : wrapA .u64 x = x := by
  rw [wrapA_eq]; unfold IntKind.wrap; simp [IntKind.signed, IntKind.bits]; omega
theorem wrapA_u8 {x : Int} (h1 : 0 ≤ x) (h2 : x < 256) : wrapA .u8 x = x := by
  rw [wrapA_eq]; unfold IntKind.wrap; simp [IntKind.signed, IntKind.bits]; omega
theorem wrapA_i32 {x : Int} (h1 : -2147483648 ≤ x) (h2 : x < 2147483648) : wrapA .i32 x = x := by
  rw [wrapA_eq]; unfold IntKind.wrap; simp [IntKind.signed, IntKind.bits]; omega
theorem wrapA_u64' (x : Int) : wrapA .u64 x = x % 18446744073709551616 := by
  rw [wrapA_eq]; unfold IntKind.wrap; simp [IntKind.signed, IntKind.bits]
theorem ob_nat {β : Type} {a : Int} (h : 0 ≤ a) (f : Nat → Option β) : ob (nat? a) f = f a.toNat := by
  cases a with
  | ofNat n => rfl
  | negSucc n => exact absurd h (by omega)
theorem ob_lt {β : Type} {a : Int} {n : Nat} (h : 0 ≤ a) (h2 : a < n) (f : Nat → Option β) : ob (lt? a n) f = f a.toNat := by
  unfold lt?
  rw [ob_ob, ob_nat h, ob_bt]
  have : Nat.blt a.toNat n = true := by simp [Nat.blt]; omega
  rw [this]; rfl
theorem ob_le {β : Type} {a : Int} {n : Nat} (h : 0 ≤ a) (h2 : a ≤ n) (f : Nat → Option β) : ob (le? a n) f = f a.toNat := by
  unfold le?
  rw [ob_ob, ob_nat h, ob_bt]
  have : Nat.ble a.toNat n = true := by simp; omega
  rw [this]; rfl
end Go.Am
namespace Go.Am
open Go.RowKit
/-- a contract, out of what the machine tells. -/
theorem holds_of_K {P : Program} (M : Masks P) {s : List KSpec} (hs : ∀ x ∈ s, Holds P x) {f : FuncId} {fn : Func} {c : Code} {rs : List ResultVar} {G : List Value → Option (Bool × Value)} (gc : Option Nat)
    (hf : P.funcs[f]? = some fn) (hn : (fn.name == "runtime.NumGoroutine") = false) (hb : fn.body = some c) (hr : fn.results.toList = rs) (hst : (fiAt M.l f).st = true)
    (h : ∀ args v, G args = some (true, v) → Nat.ble args.length fn.ntmps = true ∧ args.all flat = true ∧ flat2 v = true ∧
      ∃ k, bodyK P (fiAt M.l f) s (ltow P (fiAt M.l f) (kcall s) gc k).lp (ltow P (fiAt M.l f) (kcall s) gc k).gs c rs args = some v) : Holds P (f, G) := by
  refine ⟨fn, hf, hn, by rw [hb]; rfl, fun args v hg => ?_⟩
  obtain ⟨h1, h2, h3, k, hk⟩ := h args v hg
  exact ⟨h2, h3, says_of_K M hs gc k hf hn hb hst h1 h2 h3 (by rw [hr]; exact hk)⟩
/-- a contract out of what is said of each. -/
theorem holds_of_says {P : Program} {f : FuncId} {fn : Func} {G : List Value → Option (Bool × Value)} (hf : P.funcs[f]? = some fn) (hn : (fn.name == "runtime.NumGoroutine") = false) (hb : fn.body.isNone = false)
    (h : ∀ args v, G args = some (true, v) → args.all flat = true ∧ flat2 v = true ∧ Says P f ⟨args⟩ v) : Holds P (f, G) := ⟨fn, hf, hn, hb, h⟩
theorem ob_id {α : Type} (x : Option α) : ob x some = x := by cases x <;> rfl
theorem ite2_and (a b : Bool) : ite2 a b false = (a && b) := by cases a <;> rfl
theorem ite2_or (a b : Bool) : ite2 a true b = (a || b) := by cases a <;> rfl
theorem ite2_not (a : Bool) : ite2 a false true = !a := by cases a <;> rfl
theorem ite2_self (a : Bool) : ite2 a true false = a := by cases a <;> rfl
theorem ite2_true {β : Type} (x y : β) : ite2 true x y = x := rfl
theorem ite2_false {β : Type} (x y : β) : ite2 false x y = y := rfl
theorem eqI_self (a : Int) : eqI a a = true := by rw [eqI_dec]; simp
theorem ite2_pos {β : Type} {b : Bool} (h : b = true) (x y : β) : ite2 b x y = x := by rw [h]; rfl
theorem ite2_neg {β : Type} {b : Bool} (h : b = false) (x y : β) : ite2 b x y = y := by rw [h]; rfl
section
open Go.ChangeShapes
variable {H : Type} {enc : TypeId × Value → H} {P : Program} {w : World} {base : Nat} {spare : Nat → Bool} {held : Bool}
theorem trodAll_five {t0 t1 t2 t3 t4 : TypeId} {args : Array Value} {ds : List (DataW H)} {ps : List MemPlace} (h : DataW.TrodAll enc P w base spare held [t0, t1, t2, t3, t4] args.toList ds ps) :
    ∃ v0 v1 v2 v3 v4 d0 d1 d2 d3 d4 p0 p1 p2 p3 p4, args = #[v0, v1, v2, v3, v4] ∧ ds = [d0, d1, d2, d3, d4] ∧ ps = p0 ++ p1 ++ p2 ++ p3 ++ p4 ∧ DataW.Trod enc P w base spare held t0 v0 d0 p0 ∧ DataW.Trod enc P w base spare held t1 v1 d1 p1 ∧ DataW.Trod enc P w base spare held t2 v2 d2 p2 ∧ DataW.Trod enc P w base spare held t3 v3 d3 p3 ∧ DataW.Trod enc P w base spare held t4 v4 d4 p4 := by
  obtain ⟨v0, vs0, d0, ds0, p0, q0, hargs, rfl, rfl, h0, r0⟩ := trodAll_cons h
  obtain ⟨v1, vs1, d1, ds1, p1, q1, rfl, rfl, rfl, h1, r1⟩ := trodAll_cons r0
  obtain ⟨v2, vs2, d2, ds2, p2, q2, rfl, rfl, rfl, h2, r2⟩ := trodAll_cons r1
  obtain ⟨v3, vs3, d3, ds3, p3, q3, rfl, rfl, rfl, h3, r3⟩ := trodAll_cons r2
  obtain ⟨v4, vs4, d4, ds4, p4, q4, rfl, rfl, rfl, h4, r4⟩ := trodAll_cons r3
  obtain ⟨rfl, rfl, rfl⟩ := trodAll_nil r4
  exact ⟨v0, v1, v2, v3, v4, d0, d1, d2, d3, d4, p0, p1, p2, p3, p4, by cases args; simp_all, rfl, by simp, h0, h1, h2, h3, h4⟩
theorem trodAll_mk5 {t0 t1 t2 t3 t4 : TypeId} {v0 v1 v2 v3 v4 : Value} {d0 d1 d2 d3 d4 : DataW H} {p0 p1 p2 p3 p4 : List MemPlace} (h0 : DataW.Trod enc P w base spare held t0 v0 d0 p0) (h1 : DataW.Trod enc P w base spare held t1 v1 d1 p1) (h2 : DataW.Trod enc P w base spare held t2 v2 d2 p2) (h3 : DataW.Trod enc P w base spare held t3 v3 d3 p3) (h4 : DataW.Trod enc P w base spare held t4 v4 d4 p4) : DataW.TrodAll enc P w base spare held [t0, t1, t2, t3, t4] [v0, v1, v2, v3, v4] [d0, d1, d2, d3, d4] (p0 ++ (p1 ++ (p2 ++ (p3 ++ p4)))) := ⟨p0, (p1 ++ (p2 ++ (p3 ++ p4))), h0, trodAll_mk4 h1 h2 h3 h4, rfl⟩
theorem trodAll_six {t0 t1 t2 t3 t4 t5 : TypeId} {args : Array Value} {ds : List (DataW H)} {ps : List MemPlace} (h : DataW.TrodAll enc P w base spare held [t0, t1, t2, t3, t4, t5] args.toList ds ps) :
    ∃ v0 v1 v2 v3 v4 v5 d0 d1 d2 d3 d4 d5 p0 p1 p2 p3 p4 p5, args = #[v0, v1, v2, v3, v4, v5] ∧ ds = [d0, d1, d2, d3, d4, d5] ∧ ps = p0 ++ p1 ++ p2 ++ p3 ++ p4 ++ p5 ∧ DataW.Trod enc P w base spare held t0 v0 d0 p0 ∧ DataW.Trod enc P w base spare held t1 v1 d1 p1 ∧ DataW.Trod enc P w base spare held t2 v2 d2 p2 ∧ DataW.Trod enc P w base spare held t3 v3 d3 p3 ∧ DataW.Trod enc P w base spare held t4 v4 d4 p4 ∧ DataW.Trod enc P w base spare held t5 v5 d5 p5 := by
  obtain ⟨v0, vs0, d0, ds0, p0, q0, hargs, rfl, rfl, h0, r0⟩ := trodAll_cons h
  obtain ⟨v1, vs1, d1, ds1, p1, q1, rfl, rfl, rfl, h1, r1⟩ := trodAll_cons r0
  obtain ⟨v2, vs2, d2, ds2, p2, q2, rfl, rfl, rfl, h2, r2⟩ := trodAll_cons r1
  obtain ⟨v3, vs3, d3, ds3, p3, q3, rfl, rfl, rfl, h3, r3⟩ := trodAll_cons r2
  obtain ⟨v4, vs4, d4, ds4, p4, q4, rfl, rfl, rfl, h4, r4⟩ := trodAll_cons r3
  obtain ⟨v5, vs5, d5, ds5, p5, q5, rfl, rfl, rfl, h5, r5⟩ := trodAll_cons r4
  obtain ⟨rfl, rfl, rfl⟩ := trodAll_nil r5
  exact ⟨v0, v1, v2, v3, v4, v5, d0, d1, d2, d3, d4, d5, p0, p1, p2, p3, p4, p5, by cases args; simp_all, rfl, by simp, h0, h1, h2, h3, h4, h5⟩
theorem trodAll_mk6 {t0 t1 t2 t3 t4 t5 : TypeId} {v0 v1 v2 v3 v4 v5 : Value} {d0 d1 d2 d3 d4 d5 : DataW H} {p0 p1 p2 p3 p4 p5 : List MemPlace} (h0 : DataW.Trod enc P w base spare held t0 v0 d0 p0) (h1 : DataW.Trod enc P w base spare held t1 v1 d1 p1) (h2 : DataW.Trod enc P w base spare held t2 v2 d2 p2) (h3 : DataW.Trod enc P w base spare held t3 v3 d3 p3) (h4 : DataW.Trod enc P w base spare held t4 v4 d4 p4) (h5 : DataW.Trod enc P w base spare held t5 v5 d5 p5) : DataW.TrodAll enc P w base spare held [t0, t1, t2, t3, t4, t5] [v0, v1, v2, v3, v4, v5] [d0, d1, d2, d3, d4, d5] (p0 ++ (p1 ++ (p2 ++ (p3 ++ (p4 ++ p5))))) := ⟨p0, (p1 ++ (p2 ++ (p3 ++ (p4 ++ p5)))), h0, trodAll_mk5 h1 h2 h3 h4 h5, rfl⟩
theorem trodAll_seven {t0 t1 t2 t3 t4 t5 t6 : TypeId} {args : Array Value} {ds : List (DataW H)} {ps : List MemPlace} (h : DataW.TrodAll enc P w base spare held [t0, t1, t2, t3, t4, t5, t6] args.toList ds ps) :
    ∃ v0 v1 v2 v3 v4 v5 v6 d0 d1 d2 d3 d4 d5 d6 p0 p1 p2 p3 p4 p5 p6, args = #[v0, v1, v2, v3, v4, v5, v6] ∧ ds = [d0, d1, d2, d3, d4, d5, d6] ∧ ps = p0 ++ p1 ++ p2 ++ p3 ++ p4 ++ p5 ++ p6 ∧ DataW.Trod enc P w base spare held t0 v0 d0 p0 ∧ DataW.Trod enc P w base spare held t1 v1 d1 p1 ∧ DataW.Trod enc P w base spare held t2 v2 d2 p2 ∧ DataW.Trod enc P w base spare held t3 v3 d3 p3 ∧ DataW.Trod enc P w base spare held t4 v4 d4 p4 ∧ DataW.Trod enc P w base spare held t5 v5 d5 p5 ∧ DataW.Trod enc P w base spare held t6 v6 d6 p6 := by
  obtain ⟨v0, vs0, d0, ds0, p0, q0, hargs, rfl, rfl, h0, r0⟩ := trodAll_cons h
  obtain ⟨v1, vs1, d1, ds1, p1, q1, rfl, rfl, rfl, h1, r1⟩ := trodAll_cons r0
  obtain ⟨v2, vs2, d2, ds2, p2, q2, rfl, rfl, rfl, h2, r2⟩ := trodAll_cons r1
  obtain ⟨v3, vs3, d3, ds3, p3, q3, rfl, rfl, rfl, h3, r3⟩ := trodAll_cons r2
  obtain ⟨v4, vs4, d4, ds4, p4, q4, rfl, rfl, rfl, h4, r4⟩ := trodAll_cons r3
  obtain ⟨v5, vs5, d5, ds5, p5, q5, rfl, rfl, rfl, h5, r5⟩ := trodAll_cons r4
  obtain ⟨v6, vs6, d6, ds6, p6, q6, rfl, rfl, rfl, h6, r6⟩ := trodAll_cons r5
  obtain ⟨rfl, rfl, rfl⟩ := trodAll_nil r6
  exact ⟨v0, v1, v2, v3, v4, v5, v6, d0, d1, d2, d3, d4, d5, d6, p0, p1, p2, p3, p4, p5, p6, by cases args; simp_all, rfl, by simp, h0, h1, h2, h3, h4, h5, h6⟩
theorem trodAll_mk7 {t0 t1 t2 t3 t4 t5 t6 : TypeId} {v0 v1 v2 v3 v4 v5 v6 : Value} {d0 d1 d2 d3 d4 d5 d6 : DataW H} {p0 p1 p2 p3 p4 p5 p6 : List MemPlace} (h0 : DataW.Trod enc P w base spare held t0 v0 d0 p0) (h1 : DataW.Trod enc P w base spare held t1 v1 d1 p1) (h2 : DataW.Trod enc P w base spare held t2 v2 d2 p2) (h3 : DataW.Trod enc P w base spare held t3 v3 d3 p3) (h4 : DataW.Trod enc P w base spare held t4 v4 d4 p4) (h5 : DataW.Trod enc P w base spare held t5 v5 d5 p5) (h6 : DataW.Trod enc P w base spare held t6 v6 d6 p6) : DataW.TrodAll enc P w base spare held [t0, t1, t2, t3, t4, t5, t6] [v0, v1, v2, v3, v4, v5, v6] [d0, d1, d2, d3, d4, d5, d6] (p0 ++ (p1 ++ (p2 ++ (p3 ++ (p4 ++ (p5 ++ p6)))))) := ⟨p0, (p1 ++ (p2 ++ (p3 ++ (p4 ++ (p5 ++ p6))))), h0, trodAll_mk6 h1 h2 h3 h4 h5 h6, rfl⟩
end
end Go.Am
namespace Go.Am
open Go.RowKit
noncomputable section
variable {β : Type}
abbrev LpK (β : Type) := Code → St → KSt β → Option β
abbrev GsK (β : Type) := Code → Nat → St → KSt β → Option β
def labU (b : Code) (gs : Nat → St → KSt β → Option β) (k : KSt β) : KSt β := fun e st => match e with
  | .goto l => op2 (findLabel b l) (k (.goto l) st) fun _ => gs l st.clean k
  | e => k e st
def exU (P : Program) (msk : FI) (callK : CallKF β) (call : CallF) (lp : LpK β) (gs : GsK β) (c : Code) : St → KSt β → Option β :=
  Code.rec (motive := fun _ => St → KSt β → Option β)
    (fun st k => k .normal st)
    (fun id ops draw st k => regionK P msk callK call id ops draw st k)
    (fun _ _ x y st k => x st (seqK y k))
    (fun c _ _ x y st k => condK P msk c x y st k)
    (fun id _ x st k => x st (blkK id k))
    (fun b _ st k => lp b st.clean k)
    (fun _ _ _ _ _ _ _ _ => none)
    (fun id st k => k (.exit id) st)
    (fun b x st k => x st (labU b (gs b) k))
    (fun _ st k => k .normal st)
    (fun l st k => k (.goto l) st)
    (fun st k => k .ret st)
    (fun _ _ _ => none) c
def LpSame (lpK : LpK β) (lp : Code → Run) : Prop := ∀ b st k, lpK b st k = ob (lp b st) fun r => k r.1 r.2
def GsSame (gsK : GsK β) (gs : Code → Nat → Run) : Prop := ∀ b l st k, gsK b l st k = ob (gs b l st) fun r => k r.1 r.2
theorem exU_eq {P : Program} {msk : FI} {callK : CallKF β} {call : CallF} {lpK : LpK β} {gsK : GsK β} {lp : Code → Run} {gs : Code → Nat → Run} (hl : LpSame lpK lp) (hg : GsSame gsK gs) (c : Code) :
    exU P msk callK call lpK gsK c = exK P msk callK call lp gs c := by
  induction c with
  | seq x y ihx ihy =>
    funext st k
    show exU P msk callK call lpK gsK x st (seqK (exU P msk callK call lpK gsK y) k) = exK P msk callK call lp gs x st (seqK (exK P msk callK call lp gs y) k)
    rw [ihx, ihy]
  | cond c x y ihx ihy =>
    funext st k
    show condK P msk c (exU P msk callK call lpK gsK x) (exU P msk callK call lpK gsK y) st k = condK P msk c (exK P msk callK call lp gs x) (exK P msk callK call lp gs y) st k
    rw [ihx, ihy]
  | block id x ih =>
    funext st k
    show exU P msk callK call lpK gsK x st (blkK id k) = exK P msk callK call lp gs x st (blkK id k)
    rw [ih]
  | loop b ih => funext st k; exact hl b st.clean k
  | scope b ih =>
    funext st k
    show exU P msk callK call lpK gsK b st (labU b (gsK b) k) = exK P msk callK call lp gs b st (labK b (gs b) k)
    rw [ih]
    congr 1
    funext e st'
    cases e <;> first | rfl | skip
    rename_i l
    show op2 (findLabel b l) _ _ = op2 (findLabel b l) _ _
    congr 1
    funext r
    exact hg b l st'.clean k
  | _ => rfl
structure UK (β : Type) where
  lp : LpK β
  gs : GsK β
def goOnU (next : St → Option β) (k : KSt β) : KSt β := fun e st => match e with
  | .normal => next st.clean
  | e => k e st
def gotoU (b : Code) (gs : Nat → St → Option β) (k : KSt β) : KSt β := fun e st => match e with
  | .goto l => op2 (findLabel b l) (k (.goto l) st) fun _ => gs l st.clean
  | e => k e st
/-- a function's loops, so many rounds. -/
def utow (P : Program) (msk : FI) (s : List KSpec) : Nat → UK β :=
  Nat.rec ⟨fun _ _ _ => none, fun _ _ _ _ => none⟩ fun _ T =>
    ⟨fun b st k => exU P msk (kcallK s) (kcall s) T.lp T.gs b st (goOnU (fun st => T.lp b st k) k),
     fun b l st k => ob (findLabel b l) fun rest => exU P msk (kcallK s) (kcall s) T.lp T.gs rest st (gotoU b (fun l st => T.gs b l st k) k)⟩
theorem utow_same (P : Program) (msk : FI) (s : List KSpec) : ∀ n, LpSame (utow (β := β) P msk s n).lp (ltow P msk (kcall s) none n).lp ∧ GsSame (utow (β := β) P msk s n).gs (ltow P msk (kcall s) none n).gs := by
  intro n
  induction n with
  | zero => exact ⟨fun b st k => rfl, fun b l st k => rfl⟩
  | succ n ih =>
    refine ⟨fun b st k => ?_, fun b l st k => ?_⟩
    · show exU P msk (kcallK s) (kcall s) (utow P msk s n).lp (utow P msk s n).gs b st (goOnU (fun st => (utow P msk s n).lp b st k) k) = ob (ob (execC P msk (kcall s) (ltow P msk (kcall s) none n).lp (ltow P msk (kcall s) none n).gs b st) fun r => goOn (fun st => ob (gcO none st) ((ltow P msk (kcall s) none n).lp b)) r.1 r.2) fun r => k r.1 r.2
      rw [exU_eq ih.1 ih.2, exK_eq (kcall_same s), ob_ob]
      congr 1
      funext r
      obtain ⟨e, st'⟩ := r
      cases e <;> first | rfl | skip
      exact ih.1 b st'.clean k
    · show ob (findLabel b l) (fun rest => exU P msk (kcallK s) (kcall s) (utow P msk s n).lp (utow P msk s n).gs rest st (gotoU b (fun l st => (utow P msk s n).gs b l st k) k)) = ob (ob (findLabel b l) fun rest => ob (execC P msk (kcall s) (ltow P msk (kcall s) none n).lp (ltow P msk (kcall s) none n).gs rest st) fun r => gotoA b (fun l st => ob (gcO none st) ((ltow P msk (kcall s) none n).gs b l)) r.1 r.2) fun r => k r.1 r.2
      rw [ob_ob]
      congr 1
      funext rest
      rw [exU_eq ih.1 ih.2, exK_eq (kcall_same s), ob_ob]
      congr 1
      funext r
      obtain ⟨e, st'⟩ := r
      cases e <;> first | rfl | skip
      rename_i l'
      show op2 (findLabel b l') (k (.goto l') st') (fun _ => (utow P msk s n).gs b l' st'.clean k) = ob (op2 (findLabel b l') (some (Ex.goto l', st')) fun _ => (ltow P msk (kcall s) none n).gs b l' st'.clean) fun r => k r.1 r.2
      rw [ob_op2]
      congr 1
      funext r
      exact ih.2 b l' st'.clean k
def bodyU (P : Program) (msk : FI) (s : List KSpec) (n : Nat) (c : Code) (rs : List ResultVar) (args : List Value) : Option Value :=
  exU P msk (kcallK s) (kcall s) (utow P msk s n).lp (utow P msk s n).gs c (argsA msk args (mem0 P 0)) (retK P msk rs)
theorem bodyU_eq (P : Program) (msk : FI) (s : List KSpec) (n : Nat) (c : Code) (rs : List ResultVar) (args : List Value) :
    bodyU P msk s n c rs args = bodyK P msk s (ltow P msk (kcall s) none n).lp (ltow P msk (kcall s) none n).gs c rs args := by
  unfold bodyU bodyK
  rw [exU_eq (utow_same P msk s n).1 (utow_same P msk s n).2]
end
end Go.Am
namespace Go.Am
open Go.RowKit
noncomputable section

/-! ### a row that lay there before, to be read alone -/
theorem Rep.addRO {P : Program} {base : Nat} {w0 : Orig} {ρ : Rho} {m : Mem} {w : World} (h : Rep P base w0 ρ m w) (n : Nat) (c : Tr Value) (s : Slot) (hs : s.blk < base) (hsl : s.slack = 0) {cs : Array Value} {el : TypeId} {fz : Nat × Nat}
    (hc : w.heap[s.blk]? = some (.cells cs el fz)) (hn : s.shift + n ≤ cs.size) (hv : ∀ i v, i < n → c.get i = some v → ∃ v', cs[s.shift + i]? = some v' ∧ VRel P.globals.size (ρ.set m.nx s) v v') :
    Rep P base w0 (ρ.set m.nx s) (m.new (.cells n c 0 false none)) w := by
  have hle := h.le_new s
  have hlt : s.blk < w.heap.size := Nat.lt_of_lt_of_le hs h.size
  refine ⟨?_, ?_, ?_, h.below, h.size, ⟨fun g hg => hle _ _ (h.glob.1 g hg), fun b s hb => hle _ _ (h.glob.2 b s hb)⟩, ⟨⟨Nat.lt_succ_of_lt h.now.1.1, ?_⟩, by rw [Rho.set_other _ _ _ _ (Nat.ne_of_lt h.now.1.1)]; exact h.now.2⟩, ?_⟩
  · intro b k' s' hb hd hs'
    rcases blk_new hb with ⟨rfl, rfl⟩ | ⟨ne, hb⟩
    · rw [Rho.set_same] at hs'; obtain rfl := Option.some.inj hs'
      exact ⟨hlt, cs, el, fz, hc, by rw [hsl]; omega, fun _ => hsl, hv, fun e => by cases e⟩
    · rw [Rho.set_other _ _ _ _ ne] at hs'
      obtain ⟨h1, hB⟩ := h.dom b k' s' hb hd hs'
      exact ⟨h1, hB.move hle rfl⟩
  · intro b s' hb
    unfold Rho.set at hb
    show b < m.nx + 1
    split at hb
    · omega
    · have := h.nx b s' hb; omega
  · intro b1 b2 k1 k2 s1 s2 hne hb1 hw1 hb2 hd2 hs1 hs2 heq
    have hd1 : k1 ≠ .dead := by intro e; subst e; simp [wrOf] at hw1
    have big : ∀ {b : Nat} {k : Blk} {s' : Slot}, m.blk b = some k → wrOf k = true → k ≠ .dead → ρ b = some s' → base ≤ s'.blk := by
      intro b k s' hb hw hd hs'
      have hB := (h.dom b k s' hb hd hs').2
      cases k with
      | cells n c ek wr prev => obtain ⟨_, _, _, _, _, _, _, h5⟩ := hB; exact (h5 hw).1
      | sit str pos => exact hB.2.1
      | map es clock => obtain ⟨_, _, h2, _⟩ := hB; exact h2
      | dead => cases hw
    rcases blk_new hb1 with ⟨e1, e1'⟩ | ⟨n1, hc1⟩
    · rw [e1'] at hw1; cases hw1
    · rw [Rho.set_other _ _ _ _ n1] at hs1
      rcases blk_new hb2 with ⟨e2, e2'⟩ | ⟨n2, hc2⟩
      · rw [e2, Rho.set_same] at hs2; obtain rfl := Option.some.inj hs2
        have := big hc1 hw1 hd1 hs1
        omega
      · rw [Rho.set_other _ _ _ _ n2] at hs2
        exact h.sep b1 b2 k1 k2 s1 s2 hne hc1 hw1 hc2 hd2 hs1 hs2 heq
  · intro k' hb
    rcases blk_new hb with ⟨e, _⟩ | ⟨_, hb⟩
    · exact absurd e (Nat.ne_of_lt h.now.1.1)
    · exact h.now.1.2 _ hb
  · refine ⟨fun b k' hb hd => ?_, fun b hb => ?_⟩
    · show b < m.nx + 1
      rcases blk_new hb with ⟨e, _⟩ | ⟨_, hb⟩
      · omega
      · have := h.top.1 _ _ hb hd; omega
    · obtain ⟨h1, h2⟩ := h.top.2 b hb
      refine ⟨?_, ?_⟩
      · show b < m.nx + 1
        omega
      · rw [Rho.set_other _ _ _ _ (by omega)]; exact h2

/-! ### a function told from a memory -/
/-- calls: by hints first, by plain contracts else. -/
def kcallH (l : List KSpec) (H : List Hint) : CallF := fun f args m => op2 (find H f) (kcall l f args m) fun g => g args m
def kcallHK {β : Type} (l : List KSpec) (H : List Hint) : CallKF β := fun f args m k => op2 (find H f) (kcallK l f args m k) fun g => ob (g args m) fun r => k r.1 r.2
theorem kcallH_same {β : Type} (l : List KSpec) (H : List Hint) : CallSame (β := β) (kcallHK l H) (kcallH l H) := by
  intro f args m k
  unfold kcallHK kcallH
  rw [ob_op2, kcall_same]
theorem kcallH_ok {P : Program} {base : Nat} {wo : Orig} {l : List KSpec} {H : List Hint} (h : ∀ s ∈ l, Holds P s) (hH : ∀ p ∈ H, HintOk P base wo p.1 p.2) : CallOk P base wo (kcallH l H) := by
  intro f args m r ρ w args' hc hr hv
  have hc' : op2 (find H f) (kcall l f args m) (fun g => g args m) = some r := hc
  cases hf : find H f with
  | none => rw [hf] at hc'; exact kcall_ok h f args m r ρ w args' hc' hr hv
  | some g =>
    rw [hf] at hc'
    have : ∀ H : List Hint, (∀ p ∈ H, HintOk P base wo p.1 p.2) → find H f = some g → HintOk P base wo f g := by
      intro H
      induction H with
      | nil => intro _ h; cases h
      | cons p H ih =>
        intro hl h
        have h' : ite2 (Nat.beq p.1 f) (some p.2) (find H f) = some g := h
        cases hb : Nat.beq p.1 f with
        | true =>
          rw [hb] at h'
          obtain rfl := Option.some.inj h'
          rw [← beq_t hb]; exact hl p (List.mem_cons_self ..)
        | false => rw [hb] at h'; exact ih (fun q hq => hl q (List.mem_cons_of_mem _ hq)) h'
    exact this H hH hf args m r ρ w args' hc' hr hv
/-- loops, unrolled. -/
def utowH {β : Type} (P : Program) (msk : FI) (callK : CallKF β) (call : CallF) : Nat → UK β :=
  Nat.rec ⟨fun _ _ _ => none, fun _ _ _ _ => none⟩ fun _ T =>
    ⟨fun b st k => exU P msk callK call T.lp T.gs b st (goOnU (fun st => T.lp b st k) k),
     fun b l st k => ob (findLabel b l) fun rest => exU P msk callK call T.lp T.gs rest st (gotoU b (fun l st => T.gs b l st k) k)⟩
theorem utowH_same {β : Type} (P : Program) (msk : FI) {callK : CallKF β} {call : CallF} (hs : CallSame callK call) : ∀ n, LpSame (utowH (β := β) P msk callK call n).lp (ltow P msk call none n).lp ∧ GsSame (utowH (β := β) P msk callK call n).gs (ltow P msk call none n).gs := by
  intro n
  induction n with
  | zero => exact ⟨fun b st k => rfl, fun b l st k => rfl⟩
  | succ n ih =>
    refine ⟨fun b st k => ?_, fun b l st k => ?_⟩
    · show exU P msk callK call (utowH P msk callK call n).lp (utowH P msk callK call n).gs b st (goOnU (fun st => (utowH P msk callK call n).lp b st k) k) = ob (ob (execC P msk call (ltow P msk call none n).lp (ltow P msk call none n).gs b st) fun r => goOn (fun st => ob (gcO none st) ((ltow P msk call none n).lp b)) r.1 r.2) fun r => k r.1 r.2
      rw [exU_eq ih.1 ih.2, exK_eq hs, ob_ob]
      congr 1
      funext r
      obtain ⟨e, st'⟩ := r
      cases e <;> first | rfl | skip
      exact ih.1 b st'.clean k
    · show ob (findLabel b l) (fun rest => exU P msk callK call (utowH P msk callK call n).lp (utowH P msk callK call n).gs rest st (gotoU b (fun l st => (utowH P msk callK call n).gs b l st k) k)) = ob (ob (findLabel b l) fun rest => ob (execC P msk call (ltow P msk call none n).lp (ltow P msk call none n).gs rest st) fun r => gotoA b (fun l st => ob (gcO none st) ((ltow P msk call none n).gs b l)) r.1 r.2) fun r => k r.1 r.2
      rw [ob_ob]
      congr 1
      funext rest
      rw [exU_eq ih.1 ih.2, exK_eq hs, ob_ob]
      congr 1
      funext r
      obtain ⟨e, st'⟩ := r
      cases e <;> first | rfl | skip
      rename_i l'
      show op2 (findLabel b l') (k (.goto l') st') (fun _ => (utowH P msk callK call n).gs b l' st'.clean k) = ob (op2 (findLabel b l') (some (Ex.goto l', st')) fun _ => (ltow P msk call none n).gs b l' st'.clean) fun r => k r.1 r.2
      rw [ob_op2]
      congr 1
      funext r
      exact ih.2 b l' st'.clean k
/-- what a function does, from a memory: what comes behind is told its answer and the memory. -/
def retM {β : Type} (P : Program) (msk : FI) (rs : List ResultVar) (k : Value → Mem → Option β) : KSt β := fun e st => bt (endE e) (ob (resultsA P msk st rs) fun l => k (tupA l) st.mem)
def bodyM {β : Type} (P : Program) (msk : FI) (callK : CallKF β) (call : CallF) (n : Nat) (c : Code) (rs : List ResultVar) (args : List Value) (m : Mem) (k : Value → Mem → Option β) : Option β :=
  exU P msk callK call (utowH P msk callK call n).lp (utowH P msk callK call n).gs c (argsA msk args m) (retM P msk rs k)
theorem bodyM_eq {β : Type} {P : Program} {msk : FI} {callK : CallKF β} {call : CallF} (hs : CallSame callK call) {n : Nat} {f : FuncId} {fn : Func} {c : Code} {args : List Value} {m : Mem} {k : Value → Mem → Option β}
    (hf : P.funcs[f]? = some fn) (hb : fn.body = some c) (hst : msk.st = true) (hle : Nat.ble args.length fn.ntmps = true) :
    bodyM P msk callK call n c fn.results.toList args m k = ob (bodyA P msk call (ltow P msk call none n).lp (ltow P msk call none n).gs f args m) fun r => k r.1 r.2 := by
  unfold bodyM bodyA
  have e1 : func? P f = some fn := by unfold func?; simpa using hf
  rw [e1, ob_of, hb, op2_is, hst, hle, exU_eq (utowH_same P msk hs n).1 (utowH_same P msk hs n).2, exK_eq hs]
  show _ = ob (doneA P msk fn.results.toList (execC ..)) _
  unfold doneA
  rw [ob_ob]
  congr 1
  funext r
  unfold retM
  rw [ob_bt, ob_ob]; rfl
/-- a call, out of a run from a memory. -/
theorem calls_of_M {P : Program} (M : Masks P) {base : Nat} {wo : Orig} {callK : CallKF Value} {call : CallF} (hs : CallSame callK call) (hco : ∀ d, CallOk P base (wo.at d) call) {n : Nat} {f : FuncId} {fn : Func} {c : Code} {args : List Value} {m : Mem} {v : Value}
    (hf : P.funcs[f]? = some fn) (hn : (fn.name == "runtime.NumGoroutine") = false) (hb : fn.body = some c) (hst : (fiAt M.l f).st = true) (hle : Nat.ble args.length fn.ntmps = true) (hv : flat2 v = true)
    (h : bodyM P (fiAt M.l f) callK call n c fn.results.toList args m (fun v _ => some v) = some v)
    {ρ : Rho} {w : World} {args' : Array Value} (_hd : wo.pend = fun _ => False) (hr : Rep P base wo ρ m w) (ha : VRels P.globals.size ρ args args'.toList) : Calls P f args' w fun e w' => e = .returned v ∧ Bel base wo.w w' := by
  rw [bodyM_eq hs hf hb hst hle] at h
  obtain ⟨⟨v1, m1⟩, hbody, h⟩ := ob_some h
  obtain rfl := Option.some.inj h
  have hbn : fn.body.isNone = false := by rw [hb]; rfl
  rcases body_sound (w0 := wo) hco (fun k => (ltow_ok hco none n).1) (fun k => (ltow_ok hco none n).2) (fun fn c hf hc => stat_ok M [] f fn c hf hc) hbody hr ha with ⟨v', w', he, _⟩ | ⟨_, hc⟩
  · rw [call_enters hf hn hbn] at he; cases he
  · refine hc.mono fun x w' ⟨v', he, ρ', _, hv', hr⟩ => ?_
    rw [hv'.of_flat2 hv] at he
    exact ⟨he, hr.below⟩
end
end Go.Am
namespace Go.Am
open Go.RowKit
noncomputable section
variable {β : Type}
/-- what comes behind, for 0 to n - 1 one by one. -/
def caseI (n : Nat) (x : Int) (k : Int → Option β) : Option β :=
  List.rec (motive := fun _ => Option β) (k x) (fun i _ ih => ite2 (eqI x (Int.ofNat i)) (k (Int.ofNat i)) ih) (List.range n)
theorem caseI_eq (n : Nat) (x : Int) (k : Int → Option β) : caseI n x k = k x := by
  unfold caseI
  induction List.range n with
  | nil => rfl
  | cons i l ih =>
    show ite2 (eqI x (Int.ofNat i)) (k (Int.ofNat i)) _ = k x
    cases h : eqI x (Int.ofNat i) with
    | true =>
      have : x = Int.ofNat i := by rw [eqI_dec] at h; exact of_decide_eq_true h
      rw [← this]; rfl
    | false => exact ih
def caseV (n : Nat) (v : Value) (k : Value → Option β) : Option β := match v with
  | .int t x => caseI n x fun y => k (.int t y)
  | v => k v
theorem caseV_eq (n : Nat) (v : Value) (k : Value → Option β) : caseV n v k = k v := by
  cases v with
  | int t x => exact caseI_eq n x fun y => k (.int t y)
  | _ => rfl
def cfind (l : List (FuncId × Nat)) (f : FuncId) : Option Nat :=
  List.rec (motive := fun _ => Option Nat) none (fun p _ ih => ite2 (Nat.beq p.1 f) (some p.2) ih) l
/-- calls, of which some answer one of so many numbers. -/
def kcallC (cs : List (FuncId × Nat)) (callK : CallKF β) : CallKF β := fun f args m k =>
  op2 (cfind cs f) (callK f args m k) fun n => callK f args m fun v m' => caseV n v fun v' => k v' m'
theorem kcallC_same {cs : List (FuncId × Nat)} {callK : CallKF β} {call : CallF} (h : CallSame callK call) : CallSame (kcallC cs callK) call := by
  intro f args m k
  unfold kcallC
  cases cfind cs f with
  | none => exact h f args m k
  | some n =>
    show callK f args m _ = _
    rw [h]
    congr 1
    funext r
    exact caseV_eq n r.1 _
/-- a contract out of runs on arguments that are not known. -/
theorem holds_of_M {P : Program} (M : Masks P) {s : List KSpec} (hs : ∀ x ∈ s, Holds P x) {callK : CallKF Value} (hsm : CallSame callK (kcall s)) {f : FuncId} {fn : Func} {c : Code} {rs : List ResultVar} {G : List Value → Option (Bool × Value)}
    (hf : P.funcs[f]? = some fn) (hn : (fn.name == "runtime.NumGoroutine") = false) (hb : fn.body = some c) (hr : fn.results.toList = rs) (hst : (fiAt M.l f).st = true)
    (h : ∀ args v, G args = some (true, v) → Nat.ble args.length fn.ntmps = true ∧ args.all flat = true ∧ flat2 v = true ∧
      ∃ n, bodyM P (fiAt M.l f) callK (kcall s) n c rs args (mem0 P 0) (fun v _ => some v) = some v) : Holds P (f, G) := by
  refine ⟨fn, hf, hn, by rw [hb]; rfl, fun args v hg => ?_⟩
  obtain ⟨h1, h2, h3, n, hk⟩ := h args v hg
  refine ⟨h2, h3, fun w => ?_⟩
  rw [← hr] at hk
  exact calls_of_M M (base := w.heap.size) (wo := orig P [] w) hsm (fun d => kcall_ok hs) hf hn hb hst h1 h3 hk rfl (start (vs := []) (w := w)) (VRels.flat h2)
end
end Go.Am
namespace Go.Am

/-- what a whole number is as a float. -/
theorem decode_nearest (n : Int) (h0 : n ≠ 0) (h : n.natAbs < 2 ^ 53) :
    FloatKind.f64.decode (FloatKind.f64.nearest n) = .number (decide (n < 0)) (n.natAbs * 2 ^ (52 - n.natAbs.log2)) ((n.natAbs.log2 : Int) - 52) := by
  obtain ⟨N, hN⟩ : ∃ N, n.natAbs = N := ⟨_, rfl⟩
  have hN0 : N ≠ 0 := by omega
  have hL : N.log2 < 53 := (Nat.log2_lt hN0).2 (by rw [← hN]; exact h)
  have hlo : 2 ^ N.log2 ≤ N := Nat.log2_self_le hN0
  have hhi : N < 2 ^ (N.log2 + 1) := Nat.lt_log2_self
  obtain ⟨L, hLe⟩ : ∃ L, N.log2 = L := ⟨_, rfl⟩
  obtain ⟨K, hK⟩ : ∃ K, N * 2 ^ (52 - L) = K := ⟨_, rfl⟩
  rw [hLe] at hL hlo hhi
  have hK1 : 2 ^ 52 ≤ K := by
    rw [← hK]
    calc 2 ^ 52 = 2 ^ L * 2 ^ (52 - L) := by rw [← Nat.pow_add]; congr 1; omega
      _ ≤ N * 2 ^ (52 - L) := Nat.mul_le_mul_right _ hlo
  have hK2 : K < 2 ^ 53 := by
    rw [← hK]
    calc N * 2 ^ (52 - L) < 2 ^ (L + 1) * 2 ^ (52 - L) := Nat.mul_lt_mul_of_pos_right hhi (Nat.two_pow_pos _)
      _ = 2 ^ 53 := by rw [← Nat.pow_add]; congr 1; omega
  have hbits : FloatKind.f64.nearest n = (if decide (n < 0) = true then 2 ^ 63 else 0) + ((L + 1022) * 2 ^ 52 + K) := by
    unfold FloatKind.nearest FloatKind.encode FloatKind.format Ieee.Format.write
    simp only [hN]
    unfold Ieee.Format.nearest
    rw [if_neg hN0]
    have e1 : Ieee.double.leastPlace = -1074 := by decide
    have e2 : Ieee.double.fractionBits = 52 := rfl
    have e3 : Ieee.double.binade = 2 ^ 52 := rfl
    have e4 : Ieee.double.infRung = 2047 * 2 ^ 52 := by decide
    simp only [e1, e2, e3, e4, hLe]
    have m1 : max ((0 : Int) + (L : Int) - (52 : Nat)) (-1074) = (L : Int) - 52 := by omega
    rw [m1]
    have m2 : ((0 : Int) - ((L : Int) - 52)).toNat = 52 - L := by omega
    have m3 : ((L : Int) - 52 - 0).toNat = 0 := by omega
    have m4 : ((L : Int) - 52 - (-1074)).toNat = L + 1022 := by omega
    rw [m2, m3, m4]
    have c : Ieee.Toward.even.cut (decide (n < 0)) (N <<< (52 - L)) 0 = K := by
      unfold Ieee.Toward.cut
      simp only [Nat.zero_min, Nat.shiftLeft_zero, Nat.div_one, Nat.mod_one]
      rw [Nat.shiftLeft_eq, hK]
      simp
    rw [c, Nat.min_eq_left (by omega)]
    unfold Ieee.Format.word
    have e5 : Ieee.double.signWeight = 2 ^ 63 := rfl
    rw [e5]
    split <;> omega
  rw [hbits, hN, hLe, hK]
  unfold FloatKind.decode FloatKind.format Ieee.Format.read
  have e1 : Ieee.double.leastPlace = -1074 := by decide
  have e3 : Ieee.double.binade = 2 ^ 52 := rfl
  have e4 : Ieee.double.infRung = 2047 * 2 ^ 52 := by decide
  have e5 : Ieee.double.signWeight = 2 ^ 63 := rfl
  simp only [e1, e3, e4, e5]
  generalize decide (n < 0) = b
  have q : ((if b = true then 2 ^ 63 else 0) + ((L + 1022) * 2 ^ 52 + K)) % 2 ^ 63 = (L + 1022) * 2 ^ 52 + K := by
    split <;> omega
  have q2 : (((if b = true then 2 ^ 63 else 0) + ((L + 1022) * 2 ^ 52 + K)) / 2 ^ 63 % 2 == 1) = b := by
    cases b
    · have : ((if false = true then 2 ^ 63 else 0) + ((L + 1022) * 2 ^ 52 + K)) / 2 ^ 63 = 0 := by simp; omega
      rw [this]; rfl
    · have : ((if true = true then 2 ^ 63 else 0) + ((L + 1022) * 2 ^ 52 + K)) / 2 ^ 63 = 1 := by simp; omega
      rw [this]; rfl
  rw [q, q2, if_neg (by omega), if_pos (by omega)]
  have d1 : ((L + 1022) * 2 ^ 52 + K) % 2 ^ 52 = K - 2 ^ 52 := by omega
  have d2 : ((L + 1022) * 2 ^ 52 + K) / 2 ^ 52 = L + 1023 := by omega
  rw [d1, d2]
  have g1 : 2 ^ 52 + (K - 2 ^ 52) = K := by omega
  have g2 : (-1074 : Int) + ((L + 1023 - 1 : Nat) : Int) = (L : Int) - 52 := by omega
  rw [g1, g2]
theorem toInt_number (b : Bool) (N : Nat) (hN0 : N ≠ 0) (hN : N < 2 ^ 53) : Ieee.Datum.toInt .zero (.number b (N * 2 ^ (52 - N.log2)) ((N.log2 : Int) - 52)) = some (if b then -(N : Int) else N) := by
  have hL : N.log2 < 53 := (Nat.log2_lt hN0).2 hN
  have hlo : 2 ^ N.log2 ≤ N := Nat.log2_self_le hN0
  obtain ⟨L, hLe⟩ : ∃ L, N.log2 = L := ⟨_, rfl⟩
  rw [hLe] at hL hlo ⊢
  unfold Ieee.Datum.toInt Ieee.Datum.integral
  simp only
  have m1 : ((L : Int) - 52).toNat = 0 := by omega
  have m2 : (-((L : Int) - 52)).toNat = 52 - L := by omega
  rw [m1, m2]
  have hK : N * 2 ^ (52 - L) ≠ 0 := Nat.mul_ne_zero hN0 (by have := Nat.two_pow_pos (52 - L); omega)
  have hlog : 52 ≤ (N * 2 ^ (52 - L)).log2 := by
    rw [Nat.le_log2 hK]
    calc 2 ^ 52 = 2 ^ L * 2 ^ (52 - L) := by rw [← Nat.pow_add]; congr 1; omega
      _ ≤ N * 2 ^ (52 - L) := Nat.mul_le_mul_right _ hlo
  have c : Ieee.Toward.zero.cut b ((N * 2 ^ (52 - L)) <<< 0) (52 - L) = N := by
    unfold Ieee.Toward.cut
    simp only [Nat.shiftLeft_zero]
    rw [Nat.min_eq_left (by omega), Nat.shiftLeft_eq, Nat.one_mul]
    rw [Nat.mul_div_cancel _ (Nat.two_pow_pos _)]
    simp
  rw [c]
  unfold Ieee.signed
  rw [Nat.shiftLeft_zero]
theorem float_exact (n : Int) (h1 : -9007199254740992 < n) (h2 : n < 9007199254740992) : floatToIntVal .f64 (FloatKind.f64.nearest n) .i64 = some n := by
  by_cases h0 : n = 0
  · subst h0; decide
  · unfold floatToIntVal
    rw [decode_nearest n h0 (by omega), toInt_number _ _ (by omega) (by omega)]
    have e : (if decide (n < 0) = true then -(n.natAbs : Int) else (n.natAbs : Int)) = n := by
      by_cases hn : n < 0
      · simp [hn]; omega
      · simp [hn]; omega
    rw [e]
    simp only
    have r1 : IntKind.i64.min = -9223372036854775808 := by decide
    have r2 : IntKind.i64.max = 9223372036854775807 := by decide
    rw [r1, r2, if_pos (by omega)]
end Go.Am
