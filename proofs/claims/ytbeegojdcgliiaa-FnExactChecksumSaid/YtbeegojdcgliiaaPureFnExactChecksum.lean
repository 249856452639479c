/- The program's Checksum gives what the reference's Checksum gives, for every list of at most 2^20 bytes (a longer one is not asked), and its argument reads afterwards as before. -/
import Derived.Test.YtbeegojdcgliiaaMByte
import Derived.Test.YtbeegojdcgliiaaMChecksum
import Derived.Test.YtbeegojdcgliiaaP7
namespace Go.Proofs.Ytbeegojdcgliiaa.Pure
open Go.RowKit Go.Proofs.Ytbeegojdcgliiaa.P Go.Proofs.YtbeegojdcgliiaaW.PrintWords Go.Proofs.YtbeegojdcgliiaaW.PrintLast

theorem FnExactChecksum : laws_FnExactChecksum.Pure := by
  intro l _ _ hw
  by_cases hb : (l.length : Int) > 1048576
  · exact ⟨0, by unfold laws_FnExactChecksum.f; rw [if_pos hb]⟩
  have hx := mem_u8 hw
  obtain ⟨K1, h1⟩ := toByteS_ev l (by omega)
  obtain ⟨K2, h2⟩ := specChecksum_ev l (by omega) hx
  obtain ⟨K3, h3⟩ := implChecksum_ev l (by omega) hx
  obtain ⟨K4, h4⟩ := eqByteS_ev l l (by omega) true (by simp)
  refine ⟨K1 + K2 + K3 + K4, ?_⟩
  unfold laws_FnExactChecksum.f
  rw [if_neg hb]
  simp only [h1 (K1 + K2 + K3 + K4) (by omega), h2 (K1 + K2 + K3 + K4) (by omega), h3 (K1 + K2 + K3 + K4) (by omega), h4 (K1 + K2 + K3 + K4) (by omega), Option.bind_some, if_true]
end Go.Proofs.Ytbeegojdcgliiaa.Pure
