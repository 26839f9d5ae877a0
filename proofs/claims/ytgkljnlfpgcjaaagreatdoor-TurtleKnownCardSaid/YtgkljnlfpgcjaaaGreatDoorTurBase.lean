/- What the seat's statements share: the hints, 'within', the chapter's example. -/
import Derived.Test.YtgkljnlfpgcjaaaGreatDoorAmE
import Derived.WalkKit
import Derived.Test.YtgkljnlfpgcjaaaGreatDoorProg
import Derived.Test.YtgkljnlfpgcjaaaGreatDoorShelf
namespace Go.Proofs.YtgkljnlfpgcjaaaGreatDoor
open Go.RowKit Go.Am
theorem mod_cases (n k : Int) (h1 : 0 < k) : (n.tmod k < 0 → n % k = n.tmod k + k) ∧ (0 ≤ n.tmod k → n % k = n.tmod k) ∧ -k < n.tmod k ∧ n.tmod k < k := by
  have h := Int.tmod_eq_emod (a := n) (b := k)
  have a := Int.emod_nonneg n (show k ≠ 0 by omega)
  have b := Int.emod_lt_of_pos n h1
  have c := Int.tmod_lt_of_pos n h1
  split at h
  · exact ⟨by omega, by omega, by omega, c⟩
  · rename_i hn
    have hp : n % k ≠ 0 := fun e => hn (.inr (Int.dvd_of_emod_eq_zero e))
    exact ⟨by omega, by omega, by omega, c⟩
theorem within_calls : Within Tryz.prog 8 := by
  intro n k w h1 h2
  obtain ⟨hA, hB, hlo, hhi⟩ := mod_cases n k h1
  go_enter Tryz.func8, Tryz.ntmps8
  go_wp2
  all_goals (rename_i h; go_ret)
  · exact ⟨by rw [hA h]; rfl, rfl⟩
  · exact ⟨by rw [hB h]; rfl, rfl⟩
def fis : List FI := [⟨0, [], false⟩, ⟨0, [], false⟩, ⟨0, [], true⟩, ⟨117, [], true⟩, ⟨8125, [(21, [0, 0, 3, 7, 15, 0, 63]), (22, [0, 0, 3, 7, 15, 31, 63, 127, 255, 255, 1023, 2047, 4095, 8191, 255, 16639, 49407, 131071, 262143])], true⟩, ⟨522183, [(29, [0, 1, 3, 3, 15, 31, 3, 3, 3, 195, 963, 1987, 4035, 8191, 16383, 32767])], true⟩, ⟨64455, [], true⟩, ⟨1, [], true⟩, ⟨19, [], true⟩, ⟨1223, [(8, [0, 1, 3, 7, 0, 31])], true⟩, ⟨5, [], true⟩, ⟨51, [(6, [0, 0, 3, 7, 0, 0, 48, 112, 255])], true⟩, ⟨29, [], true⟩, ⟨3, [(11, [0, 0, 2, 6, 14, 0, 62, 127, 255, 511])], true⟩, ⟨5, [], true⟩, ⟨1, [(2, [0, 0, 2, 6, 14, 0, 32, 126, 255, 511, 1023])], true⟩, ⟨13, [], true⟩, ⟨13, [], true⟩, ⟨5, [], true⟩, ⟨125, [], true⟩, ⟨5, [(2, [0, 1, 3, 7, 15, 15, 47, 127, 255, 511])], true⟩, ⟨13, [], true⟩, ⟨13, [], true⟩, ⟨5, [], true⟩, ⟨229, [], true⟩, ⟨5, [], true⟩, ⟨71, [], true⟩, ⟨137438953625, [(5, [0, 0, 2, 6, 14, 0, 0, 64, 192, 448, 0, 1984, 4064, 8160, 16382, 32767, 65535, 131071])], true⟩, ⟨115, [], true⟩, ⟨3, [], true⟩, ⟨499, [(8, [0, 1, 0, 4, 12, 31, 63, 127, 255]), (10, [0, 1, 0, 4, 0, 16, 3, 67, 207, 463, 1023, 2047]), (14, [0, 1, 0, 4, 0, 16, 48, 115, 243, 511, 1023, 2047, 4095]), (4, [0, 1, 0, 4, 0, 0, 32, 112, 240, 499, 1011, 2047, 4095, 8191, 16383])], true⟩, ⟨3, [], true⟩, ⟨3, [], true⟩, ⟨5, [], true⟩, ⟨71, [], true⟩, ⟨187, [], true⟩, ⟨15, [], true⟩, ⟨3, [], true⟩, ⟨19, [], true⟩, ⟨19, [], true⟩, ⟨199, [], true⟩, ⟨5, [], true⟩, ⟨5, [], true⟩, ⟨19, [], true⟩, ⟨19, [], true⟩, ⟨271, [], true⟩, ⟨5, [], true⟩, ⟨5, [], true⟩, ⟨5, [], true⟩, ⟨5, [], true⟩, ⟨11, [], true⟩, ⟨5, [], true⟩, ⟨5, [], true⟩, ⟨5, [], true⟩, ⟨115, [], true⟩, ⟨5, [], true⟩, ⟨13, [(4, [0, 1, 0, 4, 3, 19, 63])], true⟩, ⟨13, [(15, [0, 1, 0, 4, 15, 31])], true⟩, ⟨23, [(3, [0, 1, 0, 4, 12, 28, 63, 0, 255, 511])], true⟩, ⟨64563608106274128179, [], true⟩, ⟨5, [(2, [0, 1, 3, 7, 0, 16, 48, 112, 240, 511, 1023, 2047])], true⟩, ⟨5, [], true⟩, ⟨7, [], true⟩, ⟨239, [(2, [0, 0, 2, 6, 14, 0, 0, 0, 224, 480, 1022, 2047, 4095, 8191])], true⟩, ⟨525, [], true⟩, ⟨3, [], true⟩, ⟨125, [], true⟩, ⟨19, [], true⟩, ⟨29, [], true⟩, ⟨19, [], true⟩, ⟨19, [], true⟩, ⟨19, [], true⟩, ⟨19, [], true⟩, ⟨115, [(3, [0, 0, 3, 0, 0, 0, 32, 112, 248, 7, 1023, 2047])], true⟩, ⟨115, [(4, [0, 0, 3, 0, 0, 24, 7, 127])], true⟩, ⟨5, [], true⟩, ⟨19, [], true⟩, ⟨3, [(3, [0, 1, 3, 7, 15, 0, 32, 96, 224, 480, 1023, 0, 4095])], true⟩, ⟨51, [], true⟩, ⟨5, [(1, [0, 1, 3, 7, 15, 0, 32, 96, 224, 480, 1023, 2047])], true⟩, ⟨5, [], true⟩, ⟨3, [], true⟩, ⟨57613, [], true⟩, ⟨199, [], true⟩, ⟨51, [], false⟩, ⟨19, [], true⟩, ⟨13, [], true⟩, ⟨19, [], true⟩, ⟨3, [], false⟩, ⟨2035, [], true⟩, ⟨51, [], true⟩, ⟨1, [], true⟩, ⟨3, [(0, [0, 1, 3, 7, 15, 31, 0, 127, 255, 0, 512, 1536, 3584, 7680, 16383, 32767])], true⟩, ⟨5, [], true⟩, ⟨61, [], true⟩, ⟨31, [], true⟩, ⟨5, [], true⟩, ⟨7549, [], true⟩, ⟨47890485652059026823698344598447161988085597568358291, [(6, [0, 0, 3, 0, 0, 24, 63]), (7, [0, 0, 2, 7, 0, 0, 48, 127, 255]), (14, [0, 0, 0, 6, 15, 0, 0, 0, 192, 480, 1023]), (31, [0, 0, 0, 6, 15, 0, 0, 0, 192, 480, 1023])], true⟩, ⟨3, [], false⟩, ⟨5, [], true⟩, ⟨2035, [], true⟩, ⟨1, [], false⟩, ⟨1, [], false⟩, ⟨51, [], true⟩, ⟨19, [], true⟩, ⟨19, [], true⟩, ⟨101, [], true⟩, ⟨101, [], true⟩, ⟨205, [], true⟩, ⟨11, [], true⟩, ⟨5, [], true⟩, ⟨509, [], true⟩, ⟨5, [], true⟩, ⟨5, [], true⟩, ⟨24339, [(7, [0, 0, 2, 0, 0, 16, 0, 64, 192, 0, 512, 455, 2503, 8191, 16383]), (8, [0, 0, 2, 0, 0, 16, 0, 64, 192, 0, 512, 455, 2503, 8191, 16383]), (9, [0, 0, 2, 0, 0, 16, 0, 64, 192, 0, 512, 455, 2503, 8191, 16383]), (10, [0, 0, 2, 0, 0, 16, 0, 64, 192, 0, 512, 455, 2503, 8191, 16383]), (17, [0, 0, 2, 0, 0, 16, 0, 64, 192, 0, 512, 455, 2503, 8191, 16383]), (18, [0, 0, 2, 0, 0, 16, 0, 64, 192, 0, 512, 455, 2503, 8191, 16383]), (23, [0, 0, 2, 0, 0, 16, 0, 64, 192, 0, 512, 455, 2503, 8191, 16383])], true⟩, ⟨261151, [], true⟩, ⟨19, [], true⟩, ⟨19, [], true⟩, ⟨5, [], true⟩, ⟨5, [], true⟩, ⟨5, [], true⟩, ⟨5, [], true⟩, ⟨5, [], true⟩, ⟨5, [], true⟩, ⟨5, [], true⟩, ⟨5, [], true⟩, ⟨1, [], false⟩, ⟨1, [], false⟩, ⟨1, [], false⟩, ⟨1, [], false⟩, ⟨1, [], false⟩, ⟨1, [], false⟩, ⟨1, [], false⟩, ⟨1, [], false⟩, ⟨1, [], false⟩, ⟨1, [], false⟩, ⟨1, [], false⟩, ⟨1, [], false⟩, ⟨1, [], false⟩, ⟨1, [], false⟩, ⟨1, [], false⟩, ⟨1, [], false⟩, ⟨1, [], false⟩, ⟨1, [], false⟩, ⟨0, [], false⟩, ⟨0, [], false⟩, ⟨0, [], false⟩, ⟨0, [], false⟩, ⟨0, [], false⟩, ⟨0, [], false⟩, ⟨0, [], false⟩, ⟨0, [], true⟩]
theorem fis_ok : fisOk Tryz.prog fis = true := by kernel_rfl
def masks : Masks Tryz.prog := ⟨fis, fis_ok⟩
noncomputable def libL : List Hint := [(72, pureG indexByteG), (43, pureG indexByteG), (39, pureG hasPrefixG), (59, joinG), (38, pureG trimLeftG)]
theorem libL_ok (base : Nat) (wo : Orig) : ∀ p ∈ libL, HintOk Tryz.prog base wo p.1 p.2 := by
  intro p hp
  simp only [libL, List.mem_cons, List.not_mem_nil, or_false] at hp
  rcases hp with rfl | rfl | rfl | rfl | rfl
  · exact indexByte_ok Tryz.func72 (by kernel_rfl) (by kernel_rfl) Tryz.stringslite_IndexByte
  · exact indexByte_ok Tryz.func43 (by kernel_rfl) (by kernel_rfl) Tryz.strings_IndexByte
  · exact hasPrefix_ok Tryz.func39 (by kernel_rfl) (by kernel_rfl) Tryz.strings_HasPrefix
  · exact join_ok Tryz.func59 (by kernel_rfl) (by kernel_rfl) Tryz.strings_Join
  · exact trimLeft_ok Tryz.func38 (by kernel_rfl) (by kernel_rfl) Tryz.strings_TrimLeft
noncomputable def plain : Hints := hints masks libL
theorem plain_ok (base : Nat) (wo : Orig) : KnownOk Tryz.prog base wo plain := hints_ok (libL_ok base wo)
theorem known_is : Says Tryz.prog 7 #[] (.bool true) :=
  says_of_run (fun _ _ => plain_ok _ _) Tryz.func7 (by kernel_rfl) (by kernel_rfl) rfl rfl (fuel := 1000) (by kernel_rfl)
/-- the hints of a law that knows the example and numbers taken within. -/
noncomputable def pickL (l : List Mod) : List Hint := (8, withinG Tryz.prog.globals.size l) :: (7, tabG [([], .bool true)]) :: libL
theorem pickL_ok {vs : List Value} {l : List Mod} (hl : ModsOk vs l) (base : Nat) (wo : World) (d : Nat → Prop) : ∀ p ∈ pickL l, HintOk Tryz.prog base ((orig Tryz.prog vs wo).at d) p.1 p.2 := by
  intro p hp
  rcases List.mem_cons.1 hp with rfl | hp
  · dsimp only
    exact hint_within Tryz.func8 (by kernel_rfl) (by kernel_rfl) within_calls hl
  · rcases List.mem_cons.1 hp with rfl | hp
    case inr => exact libL_ok _ _ p hp
    dsimp only
    refine tab_ok Tryz.func7 (by kernel_rfl) (by kernel_rfl) fun q hq => ?_
    rw [List.mem_singleton.1 hq]
    exact ⟨rfl, rfl, known_is⟩
noncomputable def picks (l : List Mod) : Hints := hints masks (pickL l)
theorem picks_ok {vs : List Value} {l : List Mod} (hl : ModsOk vs l) (base : Nat) (wo : World) (d : Nat → Prop) : KnownOk Tryz.prog base ((orig Tryz.prog vs wo).at d) (picks l) := hints_ok (pickL_ok hl base wo d)
theorem mod_ok {n : Int} {k : Nat} (hk : 0 < k) : (n % (k : Int)).toNat < k ∧ n % (k : Int) = (((n % (k : Int)).toNat : Nat) : Int) := by
  have h0 := Int.emod_nonneg n (show (k : Int) ≠ 0 by omega)
  have h1 := Int.emod_lt_of_pos n (show (0 : Int) < (k : Int) by omega)
  exact ⟨by omega, (Int.toNat_of_nonneg h0).symm⟩
theorem own : ownKnob Tryz.prog.godebug = none := by kernel_rfl
end Go.Proofs.YtgkljnlfpgcjaaaGreatDoor
