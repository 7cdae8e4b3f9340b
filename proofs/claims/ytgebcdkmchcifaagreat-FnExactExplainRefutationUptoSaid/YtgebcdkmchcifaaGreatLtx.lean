/- The laws' markText: some string. No statement of a claim. -/
import Derived.WalkKit
import Derived.Deep.LoopGhost
import Derived.Lib.Hide
import Derived.Laws.BytesArg
import Derived.Test.YtgebcdkmchcifaaGreatProg
import Derived.Test.YtgebcdkmchcifaaGreatLayB
import Derived.Test.YtgebcdkmchcifaaGreatC1
set_option linter.all false
set_option linter.unusedVariables false
set_option maxRecDepth 100000
set_option maxHeartbeats 4000000
namespace Go.Proofs.YtgebcdkmchcifaaGreat.Abs
open Go.Proofs Go.RowKit

def SomeStr (w : World) (e : Ending) (w' : World) : Prop := ∃ b, e = .returned (.string b) ∧ Quiet w w'
theorem half_pow {n : Int} {g : Nat} (h : n < 2 ^ (g + 1)) : n / 10 < 2 ^ g := by
  have : (2 : Int) ^ (g + 1) = 2 * 2 ^ g := by rw [Int.pow_succ]; omega
  have h0 : (0 : Int) < 2 ^ g := Int.pow_pos (by decide)
  omega
theorem markText_ok (k : Int) (hk : 0 ≤ k ∧ k ≤ 4611686018427387904) (w : World) : Calls Tryz.prog 113 #[.int .i64 k] w (SomeStr w) := by
  by_cases h0 : k ≤ 0
  · go_enter Tryz.func113, Tryz.ntmps113
    go_wp2
    go_ret
    exact ⟨_, rfl, Quiet.refl _⟩
  · go_enter Tryz.func113, Tryz.ntmps113
    go_wp2
    go_loopg [0, 3] 63 (fun g s0 s3 wr => ∃ (n : Int) (s : ByteArray), s0 = .int .i64 n ∧ s3 = .string s ∧ 0 ≤ n ∧ n ≤ 4611686018427387904 ∧ n < 2 ^ g ∧ s.size + g ≤ 63 ∧ Aside (Quiet w wr))
    case atStart => exact ⟨k, ⟨#[]⟩, rfl, rfl, by omega, by omega, by omega, by decide, Quiet.refl _⟩
    case round =>
      obtain ⟨n, s, rfl, rfl, h1, hm, h2, h3, hb⟩ := hrel
      by_cases hlt : 0 < n
      · have hg : 1 ≤ gk := by
          rcases Nat.eq_zero_or_pos gk with rfl | h
          · simp at h2; omega
          · exact h
        obtain ⟨d, hd⟩ : ∃ d, Hid (strOfNums [48 + n % 10] = d) := ⟨_, rfl⟩
        have hcv : ∀ T : TypeId, (convert 183 9 (.slice (some ⟨wr.heap.size, 0, none⟩) 1 1)).run Tryz.prog (wr.alloc (.cells #[.int .u8 (48 + n % 10)] T)) = .ok (.string d) (wr.alloc (.cells #[.int .u8 (48 + n % 10)] T)) := fun T => by
          rw [← hd.out]
          exact run_convert_bytes_arg _ 183 5 Tryz.underlying183 Tryz.underlying5 _ 0 1 1 [48 + n % 10] rfl (fun i hi => by
            obtain rfl : i = 0 := by omega
            simp) 9 Tryz.underlying9
        have h4 : s.size ≤ 63 := by omega
        have h5 : d.size ≤ 1 := by rw [← hd.out, strOfNums_size]; simp
        obtain ⟨g, rfl⟩ : ∃ g, gk = g + 1 := ⟨gk - 1, by omega⟩
        have H2 := Lib.hid (half_pow h2)
        clear h2
        go_wp2
        · go_roundg g
          case measure => omega
          case rel => exact ⟨n / 10, d ++ s, by go_num, rfl, by omega, by omega, H2.out, by rw [ByteArray.size_append]; omega, (show Aside _ from (Quiet.then_alloc hb.out _))⟩
      · have h4 : s.size ≤ 63 := by omega
        clear h2 hm
        go_wp2
        · go_ret
          exact ⟨_, rfl, hb.out⟩
theorem laws_markText (k : Int) (hk : 0 ≤ k ∧ k ≤ 4611686018427387904) : Con 113 [.d (i64 k)] (.d .any) :=
  contract_str Tryz.call113 fun w => markText_ok k hk w
end Go.Proofs.YtgebcdkmchcifaaGreat.Abs
