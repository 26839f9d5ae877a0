/- What the seat's statements share: the hints, 'within', the chapter's example. -/
import Derived.Test.YtjbmgmgbcjkfoaaGreatDoorAmE
import Derived.WalkKit
import Derived.Test.YtjbmgmgbcjkfoaaGreatDoorProg
import Derived.Test.YtjbmgmgbcjkfoaaGreatDoorShelf
namespace Go.Proofs.YtjbmgmgbcjkfoaaGreatDoor
open Go.RowKit Go.Am
theorem mod_cases (n k : Int) (h1 : 0 < k) : (n.tmod k < 0 → n % k = n.tmod k + k) ∧ (0 ≤ n.tmod k → n % k = n.tmod k) ∧ -k < n.tmod k ∧ n.tmod k < k := by
  have h := Int.tmod_eq_emod (a := n) (b := k)
  have a := Int.emod_nonneg n (show k ≠ 0 by omega)
  have b := Int.emod_lt_of_pos n h1
  have c := Int.tmod_lt_of_pos n h1
  split at h
  · exact ⟨by omega, by omega, by omega, c⟩
  · rename_i hn
    have hp : n % k ≠ 0 := fun e => hn (.inr (Int.dvd_of_emod_eq_zero e))
    exact ⟨by omega, by omega, by omega, c⟩
theorem within_calls : Within Tryz.prog 13 := by
  intro n k w h1 h2
  obtain ⟨hA, hB, hlo, hhi⟩ := mod_cases n k h1
  go_enter Tryz.func13, Tryz.ntmps13
  go_wp2
  all_goals (rename_i h; go_ret)
  · exact ⟨by rw [hA h]; rfl, rfl⟩
  · exact ⟨by rw [hB h]; rfl, rfl⟩
def fis : List FI := [⟨0, [], false⟩, ⟨0, [], false⟩, ⟨0, [], true⟩, ⟨19, [], true⟩, ⟨4611686018427649991, [(16, [0, 0, 2, 7, 15, 31, 31, 63, 255])], true⟩, ⟨8384271, [], true⟩, ⟨1, [], true⟩, ⟨5, [], true⟩, ⟨29, [(6, [0, 0, 0, 6, 14, 0, 0, 96, 224, 480, 1022, 2046, 4095, 8191])], true⟩, ⟨34662321099990656493268500983, [(29, [0, 1, 0, 4, 12, 31, 63, 63, 255, 511]), (30, [0, 1, 0, 4, 12, 0, 32, 96, 255, 511, 511, 2047, 4095])], true⟩, ⟨51, [], true⟩, ⟨16373, [], true⟩, ⟨31, [], true⟩, ⟨19, [], true⟩, ⟨1011, [], true⟩, ⟨5, [], true⟩, ⟨262143, [(1, [0, 1, 0, 4, 3, 31]), (21, [0, 1, 0, 4, 12, 28, 0, 64, 192, 448, 1020, 2047, 4095])], true⟩, ⟨19, [], true⟩, ⟨55, [], true⟩, ⟨15, [(8, [0, 1, 3, 7, 15, 31, 63, 0, 135, 511, 1023])], true⟩, ⟨11263, [], true⟩, ⟨1459, [(19, [0, 1, 0, 0, 8, 28, 60, 127, 255, 511])], true⟩, ⟨131149, [], true⟩, ⟨51, [], true⟩, ⟨233935, [], true⟩, ⟨63, [(1, [0, 1, 3, 7, 0, 16, 63, 127, 255, 255, 0, 1535, 4095]), (8, [0, 1, 3, 7, 0, 16, 63, 127, 127, 511, 1023]), (9, [0, 1, 3, 7, 0, 16, 63, 127, 127, 511, 1023])], true⟩, ⟨127, [(4, [0, 1, 0, 7, 15, 0, 32, 127, 255, 511, 511, 0, 3071, 8191])], true⟩, ⟨119, [], true⟩, ⟨4219, [], true⟩, ⟨1271, [], true⟩, ⟨3191, [(16, [0, 1, 0, 4, 12, 0, 32, 96, 255, 511, 511, 2047, 4095]), (20, [0, 1, 3, 7, 0, 16, 48, 112, 255, 511, 0, 1024, 3072, 7168, 15360, 32767, 65535, 131071, 262143, 524287, 1048575, 2097151, 65535, 8388607]), (22, [0, 1, 3, 0, 8, 24, 63, 127, 255, 511]), (23, [0, 1, 0, 4, 12, 31, 63, 63, 255, 511])], true⟩, ⟨1021, [(3, [0, 1, 3, 0, 8, 7, 63])], true⟩, ⟨15, [(1, [0, 1, 0, 4, 12, 3, 63])], true⟩, ⟨119, [], true⟩, ⟨31, [], true⟩, ⟨55, [], true⟩, ⟨51, [], true⟩, ⟨51, [], true⟩, ⟨15, [], true⟩, ⟨31, [], true⟩, ⟨5, [], true⟩, ⟨127, [(1, [0, 1, 0, 4, 12, 31, 0, 64, 0, 256, 796, 2012, 1855, 8191]), (3, [0, 1, 0, 4, 12, 31, 0, 64, 192, 476, 1023, 0, 2048, 0, 8192, 25564, 64476, 0, 131072, 393216, 975836, 2096092, 2025471, 8388607])], true⟩, ⟨5, [(1, [0, 1, 3, 7, 0, 16, 48, 112, 240, 511]), (4, [0, 1, 3, 7, 0, 16, 48, 112, 240, 511, 1023, 2047])], true⟩, ⟨51, [], true⟩, ⟨51, [], true⟩, ⟨17179882999, [(10, [0, 0, 2, 7, 15, 31, 31, 63, 255])], true⟩, ⟨5, [], true⟩, ⟨13, [], true⟩, ⟨5, [], true⟩, ⟨16383, [], true⟩, ⟨63, [], true⟩, ⟨19, [], true⟩, ⟨131149, [], true⟩, ⟨604462909807314587502071, [(18, [0, 1, 0, 4, 12, 31, 63, 127, 255, 511, 1023, 2047, 4095, 8191, 16383, 32767, 65535, 4095, 262143])], true⟩, ⟨1527, [], true⟩, ⟨1011, [(18, [0, 0, 2, 7, 15, 31, 31, 63, 255])], true⟩, ⟨5, [], true⟩, ⟨51, [], true⟩, ⟨2171, [(4, [0, 1, 3, 0, 8, 24, 56, 120, 248, 31, 1023])], true⟩, ⟨115, [], true⟩, ⟨13, [], true⟩, ⟨19, [], true⟩, ⟨29, [], true⟩, ⟨2305843009213695213, [], true⟩, ⟨205, [], true⟩, ⟨1991, [], true⟩, ⟨19, [], true⟩, ⟨19, [], true⟩, ⟨5, [], true⟩, ⟨5, [], true⟩, ⟨63, [(3, [0, 1, 3, 0, 11, 27, 63]), (6, [0, 1, 3, 0, 8, 24, 56, 127]), (9, [0, 1, 0, 4, 0, 16, 63, 127, 127, 511, 1023])], true⟩, ⟨402653439, [(3, [0, 1, 3, 0, 8, 31, 63, 127, 255, 255, 511, 2047])], true⟩, ⟨119, [(9, [0, 0, 2, 0, 14, 31, 63, 0, 0, 256, 0, 1792, 3968, 8191, 16383])], true⟩, ⟨5, [], true⟩, ⟨19, [], true⟩, ⟨115, [], true⟩, ⟨711, [(1, [0, 1, 3, 7, 0, 31, 0, 64, 192, 448, 0, 2047, 4095, 8191])], true⟩, ⟨19, [], true⟩, ⟨63, [(7, [0, 0, 3, 0, 0, 24, 7, 127])], true⟩, ⟨63, [], true⟩, ⟨115, [], true⟩, ⟨5, [], true⟩, ⟨51, [], true⟩, ⟨19, [], true⟩, ⟨115, [], true⟩, ⟨19, [(4, [0, 0, 2, 7, 0, 16, 63, 127])], true⟩, ⟨19, [], true⟩, ⟨19, [], true⟩, ⟨783, [], true⟩, ⟨19, [], true⟩, ⟨5, [], true⟩, ⟨5, [], true⟩, ⟨7, [], true⟩, ⟨5, [], true⟩, ⟨5, [], true⟩, ⟨755, [], true⟩, ⟨51, [], true⟩, ⟨2035, [], true⟩, ⟨15, [], true⟩, ⟨243, [], true⟩, ⟨31, [], true⟩, ⟨5, [], true⟩, ⟨15, [], true⟩, ⟨51, [], true⟩, ⟨19, [], true⟩, ⟨115, [(3, [0, 0, 3, 0, 0, 0, 32, 112, 248, 7, 1023, 2047])], true⟩, ⟨19, [], true⟩, ⟨19, [], true⟩, ⟨29, [], true⟩, ⟨19, [], true⟩, ⟨19, [], true⟩, ⟨19, [], true⟩, ⟨83, [], true⟩, ⟨520135, [(6, [0, 0, 3, 0, 0, 24, 7, 127])], true⟩, ⟨3, [], false⟩, ⟨5, [], true⟩, ⟨5, [], true⟩, ⟨24339, [(7, [0, 0, 2, 0, 0, 16, 0, 64, 192, 0, 512, 455, 2503, 8191, 16383]), (8, [0, 0, 2, 0, 0, 16, 0, 64, 192, 0, 512, 455, 2503, 8191, 16383]), (9, [0, 0, 2, 0, 0, 16, 0, 64, 192, 0, 512, 455, 2503, 8191, 16383]), (10, [0, 0, 2, 0, 0, 16, 0, 64, 192, 0, 512, 455, 2503, 8191, 16383]), (17, [0, 0, 2, 0, 0, 16, 0, 64, 192, 0, 512, 455, 2503, 8191, 16383]), (18, [0, 0, 2, 0, 0, 16, 0, 64, 192, 0, 512, 455, 2503, 8191, 16383]), (23, [0, 0, 2, 0, 0, 16, 0, 64, 192, 0, 512, 455, 2503, 8191, 16383])], true⟩, ⟨261151, [], true⟩, ⟨19, [], true⟩, ⟨3, [], false⟩, ⟨5, [], true⟩, ⟨2035, [], true⟩, ⟨19, [], true⟩, ⟨19, [], true⟩, ⟨13, [], true⟩, ⟨19, [], true⟩, ⟨125, [], true⟩, ⟨5, [], true⟩, ⟨5, [], true⟩, ⟨5, [], true⟩, ⟨5, [], true⟩, ⟨5, [], true⟩, ⟨5, [], true⟩, ⟨3, [], false⟩, ⟨509, [], true⟩, ⟨7549, [], true⟩, ⟨47890485652059026823698344598447161988085597568358291, [(6, [0, 0, 3, 0, 0, 24, 63]), (7, [0, 0, 2, 7, 0, 0, 48, 127, 255]), (14, [0, 0, 0, 6, 15, 0, 0, 0, 192, 480, 1023]), (31, [0, 0, 0, 6, 15, 0, 0, 0, 192, 480, 1023])], true⟩, ⟨5, [], true⟩, ⟨5, [], true⟩, ⟨5, [], true⟩, ⟨19, [], true⟩, ⟨5, [], true⟩, ⟨1, [], false⟩, ⟨1, [], false⟩, ⟨1, [], false⟩, ⟨1, [], false⟩, ⟨1, [], false⟩, ⟨1, [], false⟩, ⟨1, [], false⟩, ⟨1, [], false⟩, ⟨1, [], false⟩, ⟨1, [], false⟩, ⟨1, [], false⟩, ⟨1, [], false⟩, ⟨1, [], false⟩, ⟨1, [], false⟩, ⟨1, [], false⟩, ⟨1, [], false⟩, ⟨1, [], false⟩, ⟨0, [], false⟩, ⟨0, [], false⟩, ⟨0, [], false⟩, ⟨0, [], false⟩, ⟨0, [], false⟩, ⟨0, [], false⟩, ⟨0, [], false⟩, ⟨0, [], true⟩]
theorem fis_ok : fisOk Tryz.prog fis = true := by kernel_rfl
def masks : Masks Tryz.prog := ⟨fis, fis_ok⟩
noncomputable def libL : List Hint := [(119, pureG indexByteG)]
theorem libL_ok (base : Nat) (wo : Orig) : ∀ p ∈ libL, HintOk Tryz.prog base wo p.1 p.2 := by
  intro p hp
  simp only [libL, List.mem_cons, List.not_mem_nil, or_false] at hp
  rcases hp with rfl
  · exact indexByte_ok Tryz.func119 (by kernel_rfl) (by kernel_rfl) Tryz.stringslite_IndexByte
noncomputable def plain : Hints := hints masks libL
theorem plain_ok (base : Nat) (wo : Orig) : KnownOk Tryz.prog base wo plain := hints_ok (libL_ok base wo)
theorem known_is : Says Tryz.prog 6 #[] (.bool true) :=
  says_of_run (fun _ _ => plain_ok _ _) Tryz.func6 (by kernel_rfl) (by kernel_rfl) rfl rfl (fuel := 1000) (by kernel_rfl)
/-- the hints of a law that knows the example and numbers taken within. -/
noncomputable def pickL (l : List Mod) : List Hint := (13, withinG Tryz.prog.globals.size l) :: (6, tabG [([], .bool true)]) :: libL
theorem pickL_ok {vs : List Value} {l : List Mod} (hl : ModsOk vs l) (base : Nat) (wo : World) (d : Nat → Prop) : ∀ p ∈ pickL l, HintOk Tryz.prog base ((orig Tryz.prog vs wo).at d) p.1 p.2 := by
  intro p hp
  rcases List.mem_cons.1 hp with rfl | hp
  · dsimp only
    exact hint_within Tryz.func13 (by kernel_rfl) (by kernel_rfl) within_calls hl
  · rcases List.mem_cons.1 hp with rfl | hp
    case inr => exact libL_ok _ _ p hp
    dsimp only
    refine tab_ok Tryz.func6 (by kernel_rfl) (by kernel_rfl) fun q hq => ?_
    rw [List.mem_singleton.1 hq]
    exact ⟨rfl, rfl, known_is⟩
noncomputable def picks (l : List Mod) : Hints := hints masks (pickL l)
theorem picks_ok {vs : List Value} {l : List Mod} (hl : ModsOk vs l) (base : Nat) (wo : World) (d : Nat → Prop) : KnownOk Tryz.prog base ((orig Tryz.prog vs wo).at d) (picks l) := hints_ok (pickL_ok hl base wo d)
theorem mod_ok {n : Int} {k : Nat} (hk : 0 < k) : (n % (k : Int)).toNat < k ∧ n % (k : Int) = (((n % (k : Int)).toNat : Nat) : Int) := by
  have h0 := Int.emod_nonneg n (show (k : Int) ≠ 0 by omega)
  have h1 := Int.emod_lt_of_pos n (show (0 : Int) < (k : Int) by omega)
  exact ⟨by omega, (Int.toNat_of_nonneg h0).symm⟩
theorem own : ownKnob Tryz.prog.godebug = none := by kernel_rfl
end Go.Proofs.YtjbmgmgbcjkfoaaGreatDoor
