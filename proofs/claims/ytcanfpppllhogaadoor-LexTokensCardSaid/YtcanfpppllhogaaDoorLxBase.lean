/- What the seat's statements share: the hints, 'within', the chapter's example. -/
import Derived.Test.YtcanfpppllhogaaDoorAmE
import Derived.WalkKit
import Derived.Test.YtcanfpppllhogaaDoorProg
import Derived.Test.YtcanfpppllhogaaDoorShelf
namespace Go.Proofs.YtcanfpppllhogaaDoor
open Go.RowKit Go.Am
theorem mod_cases (n k : Int) (h1 : 0 < k) : (n.tmod k < 0 → n % k = n.tmod k + k) ∧ (0 ≤ n.tmod k → n % k = n.tmod k) ∧ -k < n.tmod k ∧ n.tmod k < k := by
  have h := Int.tmod_eq_emod (a := n) (b := k)
  have a := Int.emod_nonneg n (show k ≠ 0 by omega)
  have b := Int.emod_lt_of_pos n h1
  have c := Int.tmod_lt_of_pos n h1
  split at h
  · exact ⟨by omega, by omega, by omega, c⟩
  · rename_i hn
    have hp : n % k ≠ 0 := fun e => hn (.inr (Int.dvd_of_emod_eq_zero e))
    exact ⟨by omega, by omega, by omega, c⟩
theorem within_calls : Within Tryd.prog 22 := by
  intro n k w h1 h2
  obtain ⟨hA, hB, hlo, hhi⟩ := mod_cases n k h1
  go_enter Tryd.func22, Tryd.ntmps22
  go_wp2
  all_goals (rename_i h; go_ret)
  · exact ⟨by rw [hA h]; rfl, rfl⟩
  · exact ⟨by rw [hB h]; rfl, rfl⟩
def fis : List FI := [⟨0, [], false⟩, ⟨0, [], false⟩, ⟨0, [], true⟩, ⟨371, [], true⟩, ⟨3, [], true⟩, ⟨115, [], true⟩, ⟨29, [], true⟩, ⟨125, [], true⟩, ⟨51, [(6, [0, 0, 3, 7, 0, 0, 48, 112, 255])], true⟩, ⟨5, [], true⟩, ⟨1, [(2, [0, 0, 2, 6, 14, 0, 32, 126, 255, 511, 1023])], true⟩, ⟨13, [], true⟩, ⟨13, [], true⟩, ⟨5, [], true⟩, ⟨125, [], true⟩, ⟨5, [(2, [0, 1, 3, 7, 15, 15, 47, 127, 255, 511])], true⟩, ⟨13, [], true⟩, ⟨13, [], true⟩, ⟨5, [], true⟩, ⟨229, [], true⟩, ⟨5, [], true⟩, ⟨243, [(6, [0, 0, 2, 0, 0, 24, 56, 127, 255, 0, 0, 1592, 4095, 8191])], true⟩, ⟨19, [], true⟩, ⟨19, [], true⟩, ⟨19, [], true⟩, ⟨199, [], true⟩, ⟨5, [], true⟩, ⟨5, [], true⟩, ⟨19, [], true⟩, ⟨19, [], true⟩, ⟨271, [], true⟩, ⟨5, [], true⟩, ⟨5, [], true⟩, ⟨5, [], true⟩, ⟨5, [], true⟩, ⟨11, [], true⟩, ⟨5, [], true⟩, ⟨5, [], true⟩, ⟨5, [], true⟩, ⟨51, [], true⟩, ⟨8463, [], true⟩, ⟨5, [], true⟩, ⟨499, [(3, [0, 0, 2, 7, 15, 31, 31, 127, 31, 31, 799, 2047, 4095])], true⟩, ⟨531, [], true⟩, ⟨5, [], true⟩, ⟨19, [], true⟩, ⟨51, [], true⟩, ⟨125, [(5, [0, 1, 0, 0, 12, 28, 63]), (11, [0, 1, 0, 0, 12, 31])], true⟩, ⟨19, [], true⟩, ⟨29, [], true⟩, ⟨19, [], true⟩, ⟨19, [], true⟩, ⟨19, [], true⟩, ⟨19, [], true⟩, ⟨5, [], true⟩, ⟨5, [], true⟩, ⟨29, [], true⟩, ⟨19, [], true⟩, ⟨13, [], true⟩, ⟨19, [], true⟩, ⟨3, [], false⟩, ⟨7549, [], true⟩, ⟨47890485652059026823698344598447161988085597568358291, [(6, [0, 0, 3, 0, 0, 24, 63]), (7, [0, 0, 2, 7, 0, 0, 48, 127, 255]), (14, [0, 0, 0, 6, 15, 0, 0, 0, 192, 480, 1023]), (31, [0, 0, 0, 6, 15, 0, 0, 0, 192, 480, 1023])], true⟩, ⟨5, [], true⟩, ⟨5, [], true⟩, ⟨3, [], false⟩, ⟨1, [], false⟩, ⟨1, [], false⟩, ⟨1, [], false⟩, ⟨1, [], false⟩, ⟨1, [], false⟩, ⟨1, [], false⟩, ⟨1, [], false⟩, ⟨1, [], false⟩, ⟨1, [], false⟩, ⟨1, [], false⟩, ⟨1, [], false⟩, ⟨1, [], false⟩, ⟨1, [], false⟩, ⟨1, [], false⟩, ⟨1, [], false⟩, ⟨1, [], false⟩, ⟨1, [], false⟩, ⟨0, [], false⟩, ⟨0, [], false⟩, ⟨0, [], false⟩, ⟨0, [], false⟩, ⟨0, [], true⟩]
theorem fis_ok : fisOk Tryd.prog fis = true := by kernel_rfl
def masks : Masks Tryd.prog := ⟨fis, fis_ok⟩
noncomputable def libL : List Hint := [(53, pureG indexByteG), (28, pureG indexByteG), (24, pureG hasPrefixG), (23, pureG trimLeftG)]
theorem libL_ok (base : Nat) (wo : Orig) : ∀ p ∈ libL, HintOk Tryd.prog base wo p.1 p.2 := by
  intro p hp
  simp only [libL, List.mem_cons, List.not_mem_nil, or_false] at hp
  rcases hp with rfl | rfl | rfl | rfl
  · exact indexByte_ok Tryd.func53 (by kernel_rfl) (by kernel_rfl) Tryd.stringslite_IndexByte
  · exact indexByte_ok Tryd.func28 (by kernel_rfl) (by kernel_rfl) Tryd.strings_IndexByte
  · exact hasPrefix_ok Tryd.func24 (by kernel_rfl) (by kernel_rfl) Tryd.strings_HasPrefix
  · exact trimLeft_ok Tryd.func23 (by kernel_rfl) (by kernel_rfl) Tryd.strings_TrimLeft
noncomputable def plain : Hints := hints masks libL
theorem plain_ok (base : Nat) (wo : Orig) : KnownOk Tryd.prog base wo plain := hints_ok (libL_ok base wo)
theorem known_is : Says Tryd.prog 4 #[] (.bool true) :=
  says_of_run (fun _ _ => plain_ok _ _) Tryd.func4 (by kernel_rfl) (by kernel_rfl) rfl rfl (fuel := 1000) (by kernel_rfl)
/-- the hints of a law that knows the example and numbers taken within. -/
noncomputable def pickL (l : List Mod) : List Hint := (22, withinG Tryd.prog.globals.size l) :: (4, tabG [([], .bool true)]) :: libL
theorem pickL_ok {vs : List Value} {l : List Mod} (hl : ModsOk vs l) (base : Nat) (wo : World) (d : Nat → Prop) : ∀ p ∈ pickL l, HintOk Tryd.prog base ((orig Tryd.prog vs wo).at d) p.1 p.2 := by
  intro p hp
  rcases List.mem_cons.1 hp with rfl | hp
  · dsimp only
    exact hint_within Tryd.func22 (by kernel_rfl) (by kernel_rfl) within_calls hl
  · rcases List.mem_cons.1 hp with rfl | hp
    case inr => exact libL_ok _ _ p hp
    dsimp only
    refine tab_ok Tryd.func4 (by kernel_rfl) (by kernel_rfl) fun q hq => ?_
    rw [List.mem_singleton.1 hq]
    exact ⟨rfl, rfl, known_is⟩
noncomputable def picks (l : List Mod) : Hints := hints masks (pickL l)
theorem picks_ok {vs : List Value} {l : List Mod} (hl : ModsOk vs l) (base : Nat) (wo : World) (d : Nat → Prop) : KnownOk Tryd.prog base ((orig Tryd.prog vs wo).at d) (picks l) := hints_ok (pickL_ok hl base wo d)
theorem mod_ok {n : Int} {k : Nat} (hk : 0 < k) : (n % (k : Int)).toNat < k ∧ n % (k : Int) = (((n % (k : Int)).toNat : Nat) : Int) := by
  have h0 := Int.emod_nonneg n (show (k : Int) ≠ 0 by omega)
  have h1 := Int.emod_lt_of_pos n (show (0 : Int) < (k : Int) by omega)
  exact ⟨by omega, (Int.toNat_of_nonneg h0).symm⟩
theorem own : ownKnob Tryd.prog.godebug = none := by kernel_rfl
end Go.Proofs.YtcanfpppllhogaaDoor
