import Derived.Test.YtbeegojdcgliiaaMBase
import Derived.Test.YtbeegojdcgliiaaP3
import Derived.Test.YtbeegojdcgliiaaP5
namespace Go.Proofs.Ytbeegojdcgliiaa.P
open Go.RowKit Go.Proofs.YtbeegojdcgliiaaW.PrintWords Go.Proofs.YtbeegojdcgliiaaW.PrintLast Go.Proofs.YtbeegojdcgliiaaW.PrintMore
set_option linter.unusedVariables false
set_option linter.unusedSimpArgs false

/-! What both sums come to. -/
def crcHalf (h : Int) : Int := if h % 2 = 1 then bits .xor .u32 (h / 2) 3988292384 else h / 2
def crcHalves : Nat → Int → Int
  | 0, h => h
  | n + 1, h => crcHalves n (crcHalf h)
def crcByte (h c : Int) : Int := crcHalves 8 (bits .xor .u32 h c)
def crcSum (l : List Int) : Int := bits .xor .u32 (l.foldl crcByte 4294967295) 4294967295
theorem crcHalf_range (h : Int) (h0 : 0 ≤ h) (h1 : h < 4294967296) : 0 ≤ crcHalf h ∧ crcHalf h < 4294967296 := by
  unfold crcHalf
  split
  · exact bits_u32 .xor _ _
  · omega
theorem crcHalves_range : ∀ (n : Nat) (h : Int), 0 ≤ h → h < 4294967296 → 0 ≤ crcHalves n h ∧ crcHalves n h < 4294967296
  | 0, h, h0, h1 => ⟨h0, h1⟩
  | n + 1, h, h0, h1 => crcHalves_range n _ (crcHalf_range h h0 h1).1 (crcHalf_range h h0 h1).2
theorem crcByte_range (h c : Int) : 0 ≤ crcByte h c ∧ crcByte h c < 4294967296 := crcHalves_range 8 _ (bits_u32 .xor _ _).1 (bits_u32 .xor _ _).2
theorem crcHalves_succ : ∀ (n : Nat) (h : Int), crcHalves (n + 1) h = crcHalf (crcHalves n h)
  | 0, h => rfl
  | n + 1, h => crcHalves_succ n (crcHalf h)
theorem crcFold_range (l : List Int) : ∀ h, 0 ≤ h → h < 4294967296 → 0 ≤ l.foldl crcByte h ∧ l.foldl crcByte h < 4294967296 := by
  induction l with
  | nil => intro h h0 h1; exact ⟨h0, h1⟩
  | cons c l ih => intro h h0 h1; exact ih _ (crcByte_range h c).1 (crcByte_range h c).2
theorem foldl_take_succ {α β : Type} (f : β → α → β) (l : List α) (z : β) (i : Nat) (h : i < l.length) : (l.take (i + 1)).foldl f z = f ((l.take i).foldl f z) l[i] := by
  rw [List.take_succ_eq_append_getElem h, List.foldl_append]; rfl

theorem l2half_is (h : Int) (h0 : 0 ≤ h) (h1 : h < 4294967296) : spec_l2half.f h = some (crcHalf h) := by
  unfold spec_l2half.f crcHalf
  rw [Int.tmod_eq_emod_of_nonneg h0, Int.tdiv_eq_ediv_of_nonneg h0]
  split
  · rw [show h / 2 % 4294967296 = h / 2 by omega]
  · rw [show h / 2 % 4294967296 = h / 2 by omega]

theorem specChecksum_ev (l : List Int) (hl : l.length ≤ 140737488355328) (hb : ∀ x ∈ l, 0 ≤ x ∧ x < 256) : Ev (fun k => spec_Checksum.f k l) (crcSum l) := by
  have inner : ∀ (i : Nat) (r : Int) (h : Int), 0 ≤ h → h < 4294967296 → Ev (fun k => spec_Checksum.l0 k l (crcHalves 8 h) (wrap64 ((i : Int) + 1))) r → Ev (fun k => spec_Checksum.l1 k l h i 0) r := by
    intro i r h h0 h1 hr
    have key := ev_loop (fun k s j => spec_Checksum.l1 k l s i j) 8 (fun j => crcHalves j h) h (crcHalves 8 h) rfl rfl (fun j hj r hr => by
      have hh := crcHalves_range j h h0 h1
      refine ev_step _ (fun k => ?_) hr
      simp only [spec_Checksum.l1]
      rw [if_pos (by omega), l2half_is _ hh.1 hh.2, Option.bind_some, wrap64_id (by omega) (by omega), crcHalves_succ]
      rfl) r
    refine key (ev_step _ (fun k => ?_) hr)
    simp only [spec_Checksum.l1]
    rw [if_neg (by omega)]
  have key := ev_loop (fun k s i => spec_Checksum.l0 k l s i) l.length (fun i => (l.take i).foldl crcByte 4294967295) 4294967295 (l.foldl crcByte 4294967295) (by simp) (by simp) (fun i hi r hr => by
    have hx := hb l[i] (List.getElem_mem hi)
    rw [foldl_take_succ _ _ _ _ hi] at hr
    have hb := bits_u32 .xor ((l.take i).foldl crcByte 4294967295) l[i]
    have h1 := inner i r (bits .xor .u32 ((l.take i).foldl crcByte 4294967295) l[i]) hb.1 hb.2 (by rw [wrap64_id (by omega) (by omega)]; exact hr)
    refine ev_step _ (fun k => ?_) h1
    simp only [spec_Checksum.l0]
    rw [if_pos (by omega), if_pos (by omega), rd_eq l i hi, show l[i] % 4294967296 = l[i] by omega]) (crcSum l)
  refine key (ev_end fun k => ?_)
  simp only [spec_Checksum.l0]
  rw [if_neg (by omega)]
  rfl

theorem implChecksum_ev (l : List Int) (hl : l.length ≤ 140737488355328) (hb : ∀ x ∈ l, 0 ≤ x ∧ x < 256) : Ev (fun k => impl_Checksum.f k l) (crcSum l) := by
  have inner : ∀ (i : Nat) (r : Int) (h : Int), 0 ≤ h → h < 4294967296 → Ev (fun k => impl_Checksum.l0 k (crcHalves 8 h) l (l.length : Int) (wrap64 ((i : Int) + 1))) r → Ev (fun k => impl_Checksum.l1 k h l (l.length : Int) i 0) r := by
    intro i r h h0 h1 hr
    have key := ev_loop (fun k s j => impl_Checksum.l1 k s l (l.length : Int) i j) 8 (fun j => crcHalves j h) h (crcHalves 8 h) rfl rfl (fun j hj r hr => by
      have hh := crcHalves_range j h h0 h1
      refine ev_step _ (fun k => ?_) hr
      simp only [impl_Checksum.l1]
      rw [if_pos (by omega), u32_and1 _ hh.1 hh.2, wrap64_id (by omega) (by omega), crcHalves_succ]
      unfold crcHalf
      split <;> rfl) r
    refine key (ev_step _ (fun k => ?_) hr)
    simp only [impl_Checksum.l1]
    rw [if_neg (by omega)]
  have key := ev_loop (fun k s i => impl_Checksum.l0 k s l (l.length : Int) i) l.length (fun i => (l.take i).foldl crcByte 4294967295) 4294967295 (l.foldl crcByte 4294967295) (by simp) (by simp) (fun i hi r hr => by
    have hx := hb l[i] (List.getElem_mem hi)
    rw [foldl_take_succ _ _ _ _ hi] at hr
    have hb := bits_u32 .xor ((l.take i).foldl crcByte 4294967295) l[i]
    have h1 := inner i r (bits .xor .u32 ((l.take i).foldl crcByte 4294967295) l[i]) hb.1 hb.2 (by rw [wrap64_id (by omega) (by omega)]; exact hr)
    refine ev_step _ (fun k => ?_) h1
    simp only [impl_Checksum.l0]
    rw [if_pos (by omega), if_pos (by omega), if_pos (by omega), rd_eq l i hi, show l[i] % 4294967296 = l[i] by omega]) (crcSum l)
  refine key (ev_end fun k => ?_)
  simp only [impl_Checksum.l0]
  rw [if_neg (by omega), bits_xor_comm]
  rfl
end Go.Proofs.Ytbeegojdcgliiaa.P
