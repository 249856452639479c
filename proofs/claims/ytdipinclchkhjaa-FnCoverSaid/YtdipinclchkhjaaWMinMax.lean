import Derived.Test.YtdipinclchkhjaaProg
import Derived.Lib.Strings
import Derived.Lib.Slices
import Derived.Lib.Walk
namespace Go.Proofs
set_option maxHeartbeats 2000000 in
set_option maxRecDepth 100000 in
/-- slices.Min at []uint64, of a slice that is not empty (the shelf's contract at []int, turned). -/
theorem Try.slices_Min_u64 (ad : Addr) (n c : Nat) (zs : List Int) (w : World) (hn : 0 < n) (hz : n ≤ zs.length) (hbig : n ≤ 9223372036854775807) (hc : ∀ j, j < zs.length → w.cell? (ad.add j) = some (.int .u64 (zs.getD j 0))) :
    Calls Try.prog 72 #[.slice (some ad) n c] w fun e w' => e = .returned (.int .u64 (Lib.minOf (zs.take n))) ∧ w' = w := by
  have h0 : w.cell? ad = some (.int .u64 (zs.getD 0 0)) := by simpa [Addr.add] using hc 0 (by omega)
  go_enter Try.func72, Try.ntmps72
  go_wp2
  go_loop [3, 4] (fun m i => ∃ k : Nat, 0 < k ∧ k ≤ n ∧ i = .int .i64 k ∧ m = .int .u64 (Lib.minOf (zs.take k))) (fun _ i => match i with | .int _ q => n - q.toNat | _ => 0)
  case atStart => exact ⟨1, Nat.one_pos, hn, rfl, by rw [Lib.minOf_one]; simp [List.getD]⟩
  case round =>
    obtain ⟨k, hk0, hk, rfl, rfl⟩ := hrel
    have hcell : k < n → w.cell? (ad.add k) = some (.int .u64 (zs.getD k 0)) := fun _ => hc k (by omega)
    go_wp2
    · have hlt : k < n := by assumption
      have e1 : ((k : Int) + 1 + 9223372036854775808) % 18446744073709551616 - 9223372036854775808 = ((k + 1 : Nat) : Int) := by omega
      refine ⟨⟨k + 1, Nat.succ_pos k, by omega, e1, ?_⟩, by omega⟩
      rw [Lib.minOf_step zs k hk0 (by omega)]
      simp [List.getD]
    · have hge : ¬ k < n := by assumption
      have : k = n := by omega
      subst this
      go_ret
      exact ⟨rfl, rfl⟩

set_option maxHeartbeats 2000000 in
set_option maxRecDepth 100000 in
/-- slices.Max at []uint64, of a slice that is not empty (the shelf's contract at []int, turned). -/
theorem Try.slices_Max_u64 (ad : Addr) (n c : Nat) (zs : List Int) (w : World) (hn : 0 < n) (hz : n ≤ zs.length) (hbig : n ≤ 9223372036854775807) (hc : ∀ j, j < zs.length → w.cell? (ad.add j) = some (.int .u64 (zs.getD j 0))) :
    Calls Try.prog 73 #[.slice (some ad) n c] w fun e w' => e = .returned (.int .u64 (Lib.maxOf (zs.take n))) ∧ w' = w := by
  have h0 : w.cell? ad = some (.int .u64 (zs.getD 0 0)) := by simpa [Addr.add] using hc 0 (by omega)
  go_enter Try.func73, Try.ntmps73
  go_wp2
  go_loop [3, 4] (fun m i => ∃ k : Nat, 0 < k ∧ k ≤ n ∧ i = .int .i64 k ∧ m = .int .u64 (Lib.maxOf (zs.take k))) (fun _ i => match i with | .int _ q => n - q.toNat | _ => 0)
  case atStart => exact ⟨1, Nat.one_pos, hn, rfl, by rw [Lib.maxOf_one]; simp [List.getD]⟩
  case round =>
    obtain ⟨k, hk0, hk, rfl, rfl⟩ := hrel
    have hcell : k < n → w.cell? (ad.add k) = some (.int .u64 (zs.getD k 0)) := fun _ => hc k (by omega)
    go_wp2
    · have hlt : k < n := by assumption
      have e1 : ((k : Int) + 1 + 9223372036854775808) % 18446744073709551616 - 9223372036854775808 = ((k + 1 : Nat) : Int) := by omega
      refine ⟨⟨k + 1, Nat.succ_pos k, by omega, e1, ?_⟩, by omega⟩
      rw [Lib.maxOf_step zs k hk0 (by omega)]
      simp [List.getD]
    · have hge : ¬ k < n := by assumption
      have : k = n := by omega
      subst this
      go_ret
      exact ⟨rfl, rfl⟩

end Go.Proofs
