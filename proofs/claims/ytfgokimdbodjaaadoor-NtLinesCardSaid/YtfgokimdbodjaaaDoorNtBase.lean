/- What the seat's statements share: the hints, 'within', the chapter's example. -/
import Derived.Test.YtfgokimdbodjaaaDoorAmE
import Derived.WalkKit
import Derived.Test.YtfgokimdbodjaaaDoorProg
import Derived.Test.YtfgokimdbodjaaaDoorShelf
namespace Go.Proofs.YtfgokimdbodjaaaDoor
open Go.RowKit Go.Am
theorem mod_cases (n k : Int) (h1 : 0 < k) : (n.tmod k < 0 → n % k = n.tmod k + k) ∧ (0 ≤ n.tmod k → n % k = n.tmod k) ∧ -k < n.tmod k ∧ n.tmod k < k := by
  have h := Int.tmod_eq_emod (a := n) (b := k)
  have a := Int.emod_nonneg n (show k ≠ 0 by omega)
  have b := Int.emod_lt_of_pos n h1
  have c := Int.tmod_lt_of_pos n h1
  split at h
  · exact ⟨by omega, by omega, by omega, c⟩
  · rename_i hn
    have hp : n % k ≠ 0 := fun e => hn (.inr (Int.dvd_of_emod_eq_zero e))
    exact ⟨by omega, by omega, by omega, c⟩
theorem within_calls : Within Tryd.prog 10 := by
  intro n k w h1 h2
  obtain ⟨hA, hB, hlo, hhi⟩ := mod_cases n k h1
  go_enter Tryd.func10, Tryd.ntmps10
  go_wp2
  all_goals (rename_i h; go_ret)
  · exact ⟨by rw [hA h]; rfl, rfl⟩
  · exact ⟨by rw [hB h]; rfl, rfl⟩
def fis : List FI := [⟨0, [], false⟩, ⟨0, [], false⟩, ⟨0, [], true⟩, ⟨499, [], true⟩, ⟨10183, [], true⟩, ⟨3, [], true⟩, ⟨29, [], true⟩, ⟨5, [], true⟩, ⟨51, [(6, [0, 0, 3, 7, 0, 0, 48, 112, 255])], true⟩, ⟨73, [], true⟩, ⟨19, [], true⟩, ⟨460669, [(12, [0, 1, 0, 4, 12, 28, 0, 67, 255])], true⟩, ⟨1, [(2, [0, 0, 2, 6, 14, 0, 32, 126, 255, 511, 1023])], true⟩, ⟨13, [], true⟩, ⟨13, [], true⟩, ⟨5, [], true⟩, ⟨125, [], true⟩, ⟨5, [(2, [0, 1, 3, 7, 15, 15, 47, 127, 255, 511])], true⟩, ⟨13, [], true⟩, ⟨13, [], true⟩, ⟨5, [], true⟩, ⟨229, [], true⟩, ⟨5, [], true⟩, ⟨19, [], true⟩, ⟨19, [], true⟩, ⟨19, [], true⟩, ⟨29, [(11, [0, 0, 2, 6, 14, 30, 1, 127])], true⟩, ⟨5, [], true⟩, ⟨19, [], true⟩, ⟨19, [], true⟩, ⟨199, [], true⟩, ⟨5, [], true⟩, ⟨5, [], true⟩, ⟨19, [], true⟩, ⟨19, [], true⟩, ⟨271, [], true⟩, ⟨5, [], true⟩, ⟨5, [], true⟩, ⟨5, [], true⟩, ⟨5, [], true⟩, ⟨11, [], true⟩, ⟨5, [], true⟩, ⟨5, [], true⟩, ⟨5, [], true⟩, ⟨1807, [], true⟩, ⟨19, [], true⟩, ⟨5, [], true⟩, ⟨5, [], true⟩, ⟨51, [], true⟩, ⟨5, [], true⟩, ⟨19, [], true⟩, ⟨1, [], true⟩, ⟨199, [], true⟩, ⟨19, [], true⟩, ⟨29, [], true⟩, ⟨19, [], true⟩, ⟨19, [], true⟩, ⟨19, [], true⟩, ⟨19, [], true⟩, ⟨211, [], true⟩, ⟨51, [], true⟩, ⟨19, [], true⟩, ⟨19, [], true⟩, ⟨5, [], true⟩, ⟨5, [], true⟩, ⟨13, [], true⟩, ⟨51, [], true⟩, ⟨31, [], true⟩, ⟨19, [], true⟩, ⟨13, [], true⟩, ⟨19, [], true⟩, ⟨3, [], false⟩, ⟨21, [], true⟩, ⟨3, [], false⟩, ⟨2035, [], true⟩, ⟨115, [], true⟩, ⟨29, [], true⟩, ⟨5, [], true⟩, ⟨51, [], true⟩, ⟨101, [], true⟩, ⟨101, [], true⟩, ⟨205, [], true⟩, ⟨7549, [], true⟩, ⟨47890485652059026823698344598447161988085597568358291, [(6, [0, 0, 3, 0, 0, 24, 63]), (7, [0, 0, 2, 7, 0, 0, 48, 127, 255]), (14, [0, 0, 0, 6, 15, 0, 0, 0, 192, 480, 1023]), (31, [0, 0, 0, 6, 15, 0, 0, 0, 192, 480, 1023])], true⟩, ⟨3, [], false⟩, ⟨5, [], true⟩, ⟨2035, [], true⟩, ⟨115, [(3, [0, 0, 3, 0, 0, 0, 32, 112, 248, 7, 1023, 2047])], true⟩, ⟨5, [], true⟩, ⟨5, [], true⟩, ⟨5, [], true⟩, ⟨509, [], true⟩, ⟨1, [], false⟩, ⟨1, [], false⟩, ⟨1, [], false⟩, ⟨1, [], false⟩, ⟨1, [], false⟩, ⟨1, [], false⟩, ⟨1, [], false⟩, ⟨1, [], false⟩, ⟨1, [], false⟩, ⟨1, [], false⟩, ⟨1, [], false⟩, ⟨1, [], false⟩, ⟨1, [], false⟩, ⟨1, [], false⟩, ⟨1, [], false⟩, ⟨1, [], false⟩, ⟨1, [], false⟩, ⟨0, [], false⟩, ⟨0, [], false⟩, ⟨0, [], false⟩, ⟨0, [], false⟩, ⟨0, [], true⟩]
theorem fis_ok : fisOk Tryd.prog fis = true := by kernel_rfl
def masks : Masks Tryd.prog := ⟨fis, fis_ok⟩
noncomputable def libL : List Hint := [(58, pureG indexByteG), (29, pureG hasPrefixG), (78, pureG cutPrefixG), (66, pureG cutPrefixG), (60, pureG countG)]
theorem libL_ok (base : Nat) (wo : Orig) : ∀ p ∈ libL, HintOk Tryd.prog base wo p.1 p.2 := by
  intro p hp
  simp only [libL, List.mem_cons, List.not_mem_nil, or_false] at hp
  rcases hp with rfl | rfl | rfl | rfl | rfl
  · exact indexByte_ok Tryd.func58 (by kernel_rfl) (by kernel_rfl) Tryd.stringslite_IndexByte
  · exact hasPrefix_ok Tryd.func29 (by kernel_rfl) (by kernel_rfl) Tryd.strings_HasPrefix
  · exact cutPrefix_ok Tryd.func78 (by kernel_rfl) (by kernel_rfl) Tryd.stringslite_CutPrefix
  · exact cutPrefix_ok Tryd.func66 (by kernel_rfl) (by kernel_rfl) Tryd.strings_CutPrefix
  · exact count_ok Tryd.func60 (by kernel_rfl) (by kernel_rfl) Tryd.strings_Count_one
noncomputable def plain : Hints := hints masks libL
theorem plain_ok (base : Nat) (wo : Orig) : KnownOk Tryd.prog base wo plain := hints_ok (libL_ok base wo)
theorem known_is : Says Tryd.prog 9 #[] (.bool true) :=
  says_of_run (fun _ _ => plain_ok _ _) Tryd.func9 (by kernel_rfl) (by kernel_rfl) rfl rfl (fuel := 1000) (by kernel_rfl)
/-- the hints of a law that knows the example and numbers taken within. -/
noncomputable def pickL (l : List Mod) : List Hint := (10, withinG Tryd.prog.globals.size l) :: (9, tabG [([], .bool true)]) :: libL
theorem pickL_ok {vs : List Value} {l : List Mod} (hl : ModsOk vs l) (base : Nat) (wo : World) (d : Nat → Prop) : ∀ p ∈ pickL l, HintOk Tryd.prog base ((orig Tryd.prog vs wo).at d) p.1 p.2 := by
  intro p hp
  rcases List.mem_cons.1 hp with rfl | hp
  · dsimp only
    exact hint_within Tryd.func10 (by kernel_rfl) (by kernel_rfl) within_calls hl
  · rcases List.mem_cons.1 hp with rfl | hp
    case inr => exact libL_ok _ _ p hp
    dsimp only
    refine tab_ok Tryd.func9 (by kernel_rfl) (by kernel_rfl) fun q hq => ?_
    rw [List.mem_singleton.1 hq]
    exact ⟨rfl, rfl, known_is⟩
noncomputable def picks (l : List Mod) : Hints := hints masks (pickL l)
theorem picks_ok {vs : List Value} {l : List Mod} (hl : ModsOk vs l) (base : Nat) (wo : World) (d : Nat → Prop) : KnownOk Tryd.prog base ((orig Tryd.prog vs wo).at d) (picks l) := hints_ok (pickL_ok hl base wo d)
theorem mod_ok {n : Int} {k : Nat} (hk : 0 < k) : (n % (k : Int)).toNat < k ∧ n % (k : Int) = (((n % (k : Int)).toNat : Nat) : Int) := by
  have h0 := Int.emod_nonneg n (show (k : Int) ≠ 0 by omega)
  have h1 := Int.emod_lt_of_pos n (show (0 : Int) < (k : Int) by omega)
  exact ⟨by omega, (Int.toNat_of_nonneg h0).symm⟩
theorem own : ownKnob Tryd.prog.godebug = none := by kernel_rfl
end Go.Proofs.YtfgokimdbodjaaaDoor
