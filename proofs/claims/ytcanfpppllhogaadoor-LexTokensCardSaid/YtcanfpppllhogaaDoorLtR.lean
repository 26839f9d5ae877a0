/- What lex and the reference answer, function by function (LexTokens, part R). -/
import Derived.Test.YtcanfpppllhogaaDoorLtQ
import Derived.Laws.ResultCell
import Derived.Laws.Concat
namespace Go.Proofs.YtcanfpppllhogaaDoor.Lx
open Go.RowKit Go.Proofs
open Go.Am (spanL)
noncomputable section

/-! ### the reference's sign -/
theorem two_eq {s p : ByteArray} (hp : p.size = 2) (hs : 2 ≤ s.size) : ((s.extract 0 2).toList == p.toList) = hasP s p := by
  rw [ByteArray.toList_eq, ByteArray.toList_eq]
  unfold hasP Lib.hasPrefix
  have e1 : (s.extract 0 2).data.toList = s.data.toList.take 2 := by
    rw [ByteArray.data_extract, Array.toList_extract, List.extract_eq_take_drop]; rfl
  rw [e1]
  have h1 : p.data.toList.length = 2 := by rw [← size_eq]; exact hp
  have h2 : 2 ≤ s.data.toList.length := by rw [← size_eq]; exact hs
  generalize p.data.toList = a at h1 ⊢
  generalize s.data.toList = b at h2 ⊢
  rw [Bool.eq_iff_iff, beq_iff_eq, List.isPrefixOf_iff_prefix, List.prefix_iff_eq_take, h1]
  exact ⟨fun e => e.symm, fun e => e.symm⟩
theorem hasP_small {s p : ByteArray} (hp : p.size = 2) (hs : s.size < 2) : hasP s p = false := by
  cases h : hasP s p with
  | false => rfl
  | true => have := hasP_le h; omega
theorem twos_size : ∀ p ∈ twos, p.size = 2 := by decide
def rsignE (s : ByteArray) : Nat := match twos.find? (hasP s) with
  | some _ => 2
  | none => if ones.contains (atB s 0).toUInt8 then 1 else 0
theorem ones_at {j : Nat} (h : j < 20) : ∃ c, ones[j]? = some c ∧ ones.drop j = c :: ones.drop (j + 1) := by
  have hl : ones.length = 20 := rfl
  exact ⟨ones[j], List.getElem?_eq_getElem (by omega), List.drop_eq_getElem_cons (by omega)⟩
set_option maxHeartbeats 4000000 in
set_option maxRecDepth 1000000 in
theorem rsign_calls' (s : ByteArray) (w : World) (h0 : 0 < s.size) (hs : s.size ≤ 4000) :
    Calls Tryd.prog 47 #[.string s] w fun e w' => e = .returned (.int .i64 (rsignE s : Nat)) ∧ Below w.heap.size w w' := by
  obtain ⟨R, hR⟩ : ∃ R, rsignE s = R := ⟨_, rfl⟩
  rw [hR]
  unfold rsignE at hR
  have hc0 : atB s 0 = s[0].toNat := atB_in h0
  have h0I : (0 : Int) < (s.size : Int) := by omega
  go_enter Tryd.func47, Tryd.ntmps47
  go_wp2
  obtain ⟨w1, hw1⟩ : ∃ w1, w.alloc (.cells #[.string ⟨#[38, 38]⟩, .string ⟨#[124, 124]⟩, .string ⟨#[33, 61]⟩, .string ⟨#[60, 61]⟩, .string ⟨#[62, 61]⟩, .string ⟨#[94, 94]⟩] 9) = w1 := ⟨_, rfl⟩
  have hcell : ∀ (j : Nat) (p : ByteArray), twos[j]? = some p → w1.cell? ⟨w.heap.size, j, none⟩ = some (.string p) := by
    intro j p hp
    rw [← hw1]
    match j, hp with
    | 0, hp => obtain rfl := Option.some.inj hp; simp
    | 1, hp => obtain rfl := Option.some.inj hp; simp
    | 2, hp => obtain rfl := Option.some.inj hp; simp
    | 3, hp => obtain rfl := Option.some.inj hp; simp
    | 4, hp => obtain rfl := Option.some.inj hp; simp
    | 5, hp => obtain rfl := Option.some.inj hp; simp
    | j + 6, hp => simp [twos] at hp
  have hb1 : Below w.heap.size w w1 := by rw [← hw1]; exact (Below.refl _ _).alloc (Nat.le_refl _) _
  have hlt1 : w.heap.size < w1.heap.size := by rw [← hw1]; simp
  rw [hw1]
  clear hw1
  go_loopg [4] 7 (fun gf i wx => ∃ j : Nat, i = .int .i64 (j : Int) ∧ j ≤ 6 ∧ (2 ≤ s.size → twos.find? (hasP s) = (twos.drop j).find? (hasP s)) ∧ Below w1.heap.size w1 wx ∧ 7 ≤ gf + j)
  case atStart => exact ⟨0, rfl, by omega, fun _ => rfl, Below.refl _ _, by omega⟩
  case round =>
    obtain ⟨j, rfl, hj, hf, hbx, hfu⟩ := hrel
    by_cases hs2 : 2 ≤ s.size
    · have hs2I : (1 : Int) < (s.size : Int) := by omega
      have hf := hf hs2
      by_cases hj6 : j < 6
      · obtain ⟨p, hp, hp2, hd⟩ := twos_at hj6
        have cj0 := hcell j p hp
        have cj := (hbx.cell (p := ⟨w.heap.size, j, none⟩) hlt1).trans cj0
        have hjI : (j : Int) < 6 := by omega
        have hb2 : (2 : Int) ≤ (s.size : Int) := by omega
        obtain ⟨g', rfl⟩ : ∃ g', gk = g' + 1 := ⟨gk - 1, by omega⟩
        rw [hd, List.find?_cons] at hf
        have hte := two_eq hp2 hs2
        cases hh : hasP s p with
        | true =>
          rw [hh] at hf hte
          rw [hf] at hR
          subst hR
          go_wp2
          go_region
          all_goals go_wp2
          all_goals go_ret
          all_goals exact ⟨rfl, (hb1.trans (hbx.mono hb1.size)).trans ⟨rfl, rfl, rfl, Nat.le_refl _, fun _ _ => rfl⟩⟩
        | false =>
          rw [hh] at hf hte
          go_wp2
          go_region
          all_goals go_wp2
          go_roundg g'
          case measure => omega
          case rel => exact ⟨j + 1, by simp, by omega, fun _ => hf, hbx.trans ⟨rfl, rfl, rfl, Nat.le_refl _, fun _ _ => rfl⟩, by omega⟩
      · have hj6 : j = 6 := by omega
        subst hj6
        have hf := hf
        rw [show twos.drop 6 = [] from rfl, List.find?_nil] at hf
        rw [hf, hc0, show (s[0].toNat).toUInt8 = s[0] by simp] at hR
        dsimp only at hR
        go_wp2
        generalize hP : (⟨#[123, 125, 40, 41, 91, 93, 46, 59, 44, 61, 60, 62, 33, 43, 45, 42, 47, 124, 94, 63]⟩ : ByteArray) = P
        have hPs : P.size = 20 := by rw [← hP]; rfl
        have hPj : ∀ (j : Nat) (h : j < P.size), ones.drop j = P[j] :: ones.drop (j + 1) := by
          subst hP
          intro j h
          exact List.drop_eq_getElem_cons (l := ones) h
        clear hP
        have hb2 := hb1.trans (hbx.mono hb1.size)
        clear hf hfu hcell
        go_loopg [6] 21 (fun gf i wx => ∃ j : Nat, i = .int .i64 (j : Int) ∧ j ≤ 20 ∧ (if (ones.drop j).contains s[0] then 1 else 0) = R ∧ Below w.heap.size w wx ∧ 21 ≤ gf + j)
        case atStart => exact ⟨0, rfl, by omega, hR, hb2, by omega⟩
        case round =>
          obtain ⟨j, rfl, hj, hf, hbx, hfu⟩ := hrel
          by_cases hj20 : j < P.size
          · have hjI : (j : Int) < (P.size : Int) := by omega
            obtain ⟨g', rfl⟩ : ∃ g', gk = g' + 1 := ⟨gk - 1, by omega⟩
            rw [hPj j hj20, List.contains_cons] at hf
            have hP256 : P[j].toNat < 256 := P[j].toNat_lt
            by_cases ce : s[0] = P[j]
            · have ceI : (s[0].toNat : Int) = (P[j].toNat : Int) := by rw [ce]
              rw [beq_iff_eq.2 ce, Bool.true_or, if_pos rfl] at hf
              subst hf
              clear hR
              go_wp2
              go_region
              all_goals go_wp2
              all_goals go_ret
              all_goals exact ⟨rfl, hbx.trans ⟨rfl, rfl, rfl, Nat.le_refl _, fun _ _ => rfl⟩⟩
            · have ceI : ¬ (s[0].toNat : Int) = (P[j].toNat : Int) := fun h => ce (UInt8.toNat.inj (by omega))
              have ceb : ((s[0].toNat : Int) == (P[j].toNat : Int)) = false := beq_eq_false_iff_ne.2 ceI
              rw [beq_eq_false_iff_ne.2 ce, Bool.false_or] at hf
              clear hR
              go_wp2
              go_region
              all_goals go_wp2
              go_roundg g'
              case measure => omega
              case rel => exact ⟨j + 1, by simp, by omega, hf, hbx.trans ⟨rfl, rfl, rfl, Nat.le_refl _, fun _ _ => rfl⟩, by omega⟩
          · have hjI : ¬ (j : Int) < (P.size : Int) := by omega
            rw [List.drop_eq_nil_of_le (show ones.length ≤ j by show 20 ≤ j; omega)] at hf
            have hf : 0 = R := hf
            subst hf
            clear hR
            go_wp2
            go_ret
            exact ⟨rfl, hbx⟩
    · have hs2I : ¬ (1 : Int) < (s.size : Int) := by omega
      have hno : twos.find? (hasP s) = none := by
        rw [List.find?_eq_none]
        intro p hp hh
        have := hasP_small (twos_size p hp) (show s.size < 2 by omega)
        rw [this] at hh; cases hh
      rw [hno, hc0, show (s[0].toNat).toUInt8 = s[0] by simp] at hR
      dsimp only at hR
      by_cases hj6 : j < 6
      · have hjI : (j : Int) < 6 := by omega
        go_wp2
        generalize hP : (⟨#[123, 125, 40, 41, 91, 93, 46, 59, 44, 61, 60, 62, 33, 43, 45, 42, 47, 124, 94, 63]⟩ : ByteArray) = P
        have hPs : P.size = 20 := by rw [← hP]; rfl
        have hPj : ∀ (j : Nat) (h : j < P.size), ones.drop j = P[j] :: ones.drop (j + 1) := by
          subst hP
          intro j h
          exact List.drop_eq_getElem_cons (l := ones) h
        clear hP
        have hb2 := hb1.trans (hbx.mono hb1.size)
        clear hf hfu hcell
        go_loopg [6] 21 (fun gf i wx => ∃ j : Nat, i = .int .i64 (j : Int) ∧ j ≤ 20 ∧ (if (ones.drop j).contains s[0] then 1 else 0) = R ∧ Below w.heap.size w wx ∧ 21 ≤ gf + j)
        case atStart => exact ⟨0, rfl, by omega, hR, hb2, by omega⟩
        case round =>
          obtain ⟨j, rfl, hj, hf, hbx, hfu⟩ := hrel
          by_cases hj20 : j < P.size
          · have hjI : (j : Int) < (P.size : Int) := by omega
            obtain ⟨g', rfl⟩ : ∃ g', gk = g' + 1 := ⟨gk - 1, by omega⟩
            rw [hPj j hj20, List.contains_cons] at hf
            have hP256 : P[j].toNat < 256 := P[j].toNat_lt
            by_cases ce : s[0] = P[j]
            · have ceI : (s[0].toNat : Int) = (P[j].toNat : Int) := by rw [ce]
              rw [beq_iff_eq.2 ce, Bool.true_or, if_pos rfl] at hf
              subst hf
              clear hR
              go_wp2
              go_region
              all_goals go_wp2
              all_goals go_ret
              all_goals exact ⟨rfl, hbx.trans ⟨rfl, rfl, rfl, Nat.le_refl _, fun _ _ => rfl⟩⟩
            · have ceI : ¬ (s[0].toNat : Int) = (P[j].toNat : Int) := fun h => ce (UInt8.toNat.inj (by omega))
              have ceb : ((s[0].toNat : Int) == (P[j].toNat : Int)) = false := beq_eq_false_iff_ne.2 ceI
              rw [beq_eq_false_iff_ne.2 ce, Bool.false_or] at hf
              clear hR
              go_wp2
              go_region
              all_goals go_wp2
              go_roundg g'
              case measure => omega
              case rel => exact ⟨j + 1, by simp, by omega, hf, hbx.trans ⟨rfl, rfl, rfl, Nat.le_refl _, fun _ _ => rfl⟩, by omega⟩
          · have hjI : ¬ (j : Int) < (P.size : Int) := by omega
            rw [List.drop_eq_nil_of_le (show ones.length ≤ j by show 20 ≤ j; omega)] at hf
            have hf : 0 = R := hf
            subst hf
            clear hR
            go_wp2
            go_ret
            exact ⟨rfl, hbx⟩
      · have hj6 : j = 6 := by omega
        subst hj6
        go_wp2
        generalize hP : (⟨#[123, 125, 40, 41, 91, 93, 46, 59, 44, 61, 60, 62, 33, 43, 45, 42, 47, 124, 94, 63]⟩ : ByteArray) = P
        have hPs : P.size = 20 := by rw [← hP]; rfl
        have hPj : ∀ (j : Nat) (h : j < P.size), ones.drop j = P[j] :: ones.drop (j + 1) := by
          subst hP
          intro j h
          exact List.drop_eq_getElem_cons (l := ones) h
        clear hP
        have hb2 := hb1.trans (hbx.mono hb1.size)
        clear hf hfu hcell
        go_loopg [6] 21 (fun gf i wx => ∃ j : Nat, i = .int .i64 (j : Int) ∧ j ≤ 20 ∧ (if (ones.drop j).contains s[0] then 1 else 0) = R ∧ Below w.heap.size w wx ∧ 21 ≤ gf + j)
        case atStart => exact ⟨0, rfl, by omega, hR, hb2, by omega⟩
        case round =>
          obtain ⟨j, rfl, hj, hf, hbx, hfu⟩ := hrel
          by_cases hj20 : j < P.size
          · have hjI : (j : Int) < (P.size : Int) := by omega
            obtain ⟨g', rfl⟩ : ∃ g', gk = g' + 1 := ⟨gk - 1, by omega⟩
            rw [hPj j hj20, List.contains_cons] at hf
            have hP256 : P[j].toNat < 256 := P[j].toNat_lt
            by_cases ce : s[0] = P[j]
            · have ceI : (s[0].toNat : Int) = (P[j].toNat : Int) := by rw [ce]
              rw [beq_iff_eq.2 ce, Bool.true_or, if_pos rfl] at hf
              subst hf
              clear hR
              go_wp2
              go_region
              all_goals go_wp2
              all_goals go_ret
              all_goals exact ⟨rfl, hbx.trans ⟨rfl, rfl, rfl, Nat.le_refl _, fun _ _ => rfl⟩⟩
            · have ceI : ¬ (s[0].toNat : Int) = (P[j].toNat : Int) := fun h => ce (UInt8.toNat.inj (by omega))
              have ceb : ((s[0].toNat : Int) == (P[j].toNat : Int)) = false := beq_eq_false_iff_ne.2 ceI
              rw [beq_eq_false_iff_ne.2 ce, Bool.false_or] at hf
              clear hR
              go_wp2
              go_region
              all_goals go_wp2
              go_roundg g'
              case measure => omega
              case rel => exact ⟨j + 1, by simp, by omega, hf, hbx.trans ⟨rfl, rfl, rfl, Nat.le_refl _, fun _ _ => rfl⟩, by omega⟩
          · have hjI : ¬ (j : Int) < (P.size : Int) := by omega
            rw [List.drop_eq_nil_of_le (show ones.length ≤ j by show 20 ≤ j; omega)] at hf
            have hf : 0 = R := hf
            subst hf
            clear hR
            go_wp2
            go_ret
            exact ⟨rfl, hbx⟩
end
end Go.Proofs.YtcanfpppllhogaaDoor.Lx
