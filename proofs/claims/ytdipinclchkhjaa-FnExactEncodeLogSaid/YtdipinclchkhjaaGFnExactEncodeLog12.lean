import Derived.Test.YtdipinclchkhjaaGFnExactEncodeLog4
import Derived.Test.YtdipinclchkhjaaGFnExactEncodeLog5
import Derived.Test.YtdipinclchkhjaaGFnExactEncodeLog9
import Derived.Test.YtdipinclchkhjaaGFnExactEncodeLog11
namespace Go.Proofs.Ytdipinclchkhjaa.P
open Go.RowKit Go.Proofs.YtdipinclchkhjaaW.PrintWords Go.Proofs.YtdipinclchkhjaaW.PrintLast Go.Proofs.YtdipinclchkhjaaW.PrintMore
set_option linter.unusedVariables false
set_option linter.unusedSimpArgs false
/-! The log of calls. -/
theorem ev_bindif {α β : Type} {g : Nat → Option α} {f : Nat → α → Option β} {x : α} {r : β} (h : Ev g x) (h2 : Ev (fun k => f k x) r) : Ev (fun k => (g k).bind (f k)) r := Ev.bind h h2
def varF : Nat → Int → List Int
  | 0, v => [v]
  | n + 1, v => if v < 128 then [v] else (v % 128 + 128) :: varF n (v / 128)
def varB (v : Int) : List Int := varF 9 v
theorem varF_length : ∀ (n : Nat) (v : Int), 1 ≤ (varF n v).length ∧ (varF n v).length ≤ n + 1
  | 0, v => by simp [varF]
  | n + 1, v => by
    have := varF_length n (v / 128)
    unfold varF
    split
    · simp
    · rw [List.length_cons]; omega
theorem varF_mem : ∀ (n : Nat) (v : Int), 0 ≤ v → v < 128 ^ (n + 1) → ∀ x ∈ varF n v, 0 ≤ x ∧ x < 256
  | 0, v, h0, h1, x, hx => by
    simp only [varF, List.mem_singleton] at hx
    subst hx
    have : (128 : Int) ^ (0 + 1) = 128 := by decide
    omega
  | n + 1, v, h0, h1, x, hx => by
    unfold varF at hx
    split at hx
    · rw [List.mem_singleton.1 hx]; omega
    · rcases List.mem_cons.1 hx with rfl | hx
      · omega
      · refine varF_mem n (v / 128) (by omega) ?_ x hx
        rw [Int.pow_succ] at h1
        omega
theorem specVar_ev : ∀ (n : Nat) (v : Int), n ≤ 9 → 0 ≤ v → v < 18446744073709551616 → v < 128 ^ (n + 1) → Ev (fun k => spec_l2var.f k v) (varF n v)
  | 0, v, hn, h0, hu, h1 => by
    have : (128 : Int) ^ (0 + 1) = 128 := by decide
    exact ev_end fun k => by simp only [spec_l2var.f]; rw [if_pos (by omega), Int.emod_eq_of_lt h0 (by omega)]; rfl
  | n + 1, v, hn, h0, hu, h1 => by
    unfold varF
    by_cases c : v < 128
    · rw [if_pos c]
      exact ev_end fun k => by simp only [spec_l2var.f]; rw [if_pos c, Int.emod_eq_of_lt h0 (by omega)]
    · rw [if_neg c]
      have hrec := specVar_ev n (v / 128) (by omega) (by omega) (by omega) (by rw [Int.pow_succ] at h1; omega)
      have hlen := varF_length n (v / 128)
      obtain ⟨K, hK⟩ := ev_get hrec
      refine ev_mk (K + 1) fun k hk => ?_
      obtain ⟨m, rfl⟩ : ∃ m, k = m + 1 := ⟨k - 1, by omega⟩
      have e1 : IntKind.u64.wrap (Int.tdiv v 128) = v / 128 := by rw [Int.tdiv_eq_ediv_of_nonneg h0, wrap_u64_id (by omega) (by omega)]
      have e2 : (IntKind.u64.wrap (Int.tmod v 128 + 128)) % 256 = v % 128 + 128 := by rw [Int.tmod_eq_emod_of_nonneg h0, wrap_u64_id (by omega) (by omega)]; omega
      simp only [spec_l2var.f]
      rw [if_neg c, Option.bind_some, e1, hK m (by omega), Option.bind_some, if_pos (by rw [List.length_singleton]; omega), e2]
      rfl
theorem or128 : ∀ b : Fin 256, b.val ||| 128 = b.val % 128 + 128 := by decide +kernel
theorem implVar_ev : ∀ (n : Nat) (v : Int) (out : List Int), n ≤ 9 → 0 ≤ v → v < 18446744073709551616 → v < 128 ^ (n + 1) → out.length + n < 140737488355328 → Ev (fun k => impl_putNumber.l0 k out v) (out ++ varF n v)
  | 0, v, out, hn, h0, hu, h1, hl => by
    have : (128 : Int) ^ (0 + 1) = 128 := by decide
    exact ev_end fun k => by simp only [impl_putNumber.l0]; rw [if_neg (by omega), if_pos (by omega), Int.emod_eq_of_lt h0 (by omega)]; rfl
  | n + 1, v, out, hn, h0, hu, h1, hl => by
    unfold varF
    by_cases c : v < 128
    · rw [if_pos c]
      exact ev_end fun k => by simp only [impl_putNumber.l0]; rw [if_neg (by omega), if_pos (by omega), Int.emod_eq_of_lt h0 (by omega)]
    · rw [if_neg c]
      have hrec := implVar_ev n (v / 128) (out ++ [v % 128 + 128]) (by omega) (by omega) (by omega) (by rw [Int.pow_succ] at h1; omega) (by rw [List.length_append, List.length_singleton]; omega)
      rw [List.append_assoc] at hrec
      refine ev_step _ (fun k => ?_) hrec
      have e2 : Go.bits .or .u8 (v % 256) 128 = v % 128 + 128 := by
        obtain ⟨a, ha⟩ : ∃ a : Nat, v % 256 = (a : Int) := ⟨(v % 256).toNat, by omega⟩
        have hlt : a < 256 := by omega
        have h128 := or128 ⟨a, hlt⟩
        dsimp only at h128
        rw [ha, show (128 : Int) = ((128 : Nat) : Int) from rfl, bits_or_nat .u8 rfl a 128 (by simpa [IntKind.bits] using hlt) (by decide), h128]
        omega
      simp only [impl_putNumber.l0]
      rw [if_pos (by omega), if_pos (by omega), e2]
theorem pow128 : (18446744073709551616 : Int) ≤ 128 ^ (9 + 1) := by decide
theorem specVarB_ev (v : Int) (h0 : 0 ≤ v) (h1 : v < 18446744073709551616) : Ev (fun k => spec_l2var.f k v) (varB v) := specVar_ev 9 v (by omega) h0 h1 (Int.lt_of_lt_of_le h1 pow128)
theorem implVarB_ev (v : Int) (out : List Int) (h0 : 0 ≤ v) (h1 : v < 18446744073709551616) (hl : out.length < 140737488355000) : Ev (fun k => impl_putNumber.f k out v) (out ++ varB v) := implVar_ev 9 v out (by omega) h0 h1 (Int.lt_of_lt_of_le h1 pow128) (by omega)
theorem varB_length (v : Int) : 1 ≤ (varB v).length ∧ (varB v).length ≤ 10 := varF_length 9 v
theorem varB_mem (v : Int) (h0 : 0 ≤ v) (h1 : v < 18446744073709551616) : ∀ x ∈ varB v, 0 ≤ x ∧ x < 256 := varF_mem 9 v h0 (Int.lt_of_lt_of_le h1 pow128)
def bodyB (a n : Int) (args : List Int) : List Int := varB a ++ varB n ++ args.flatMap varB
theorem flatB_length : ∀ args : List Int, (args.flatMap varB).length ≤ 10 * args.length
  | [] => by simp
  | x :: l => by
    have := flatB_length l
    have := varB_length x
    rw [List.flatMap_cons, List.length_append, List.length_cons]
    omega
theorem bodyB_length (a n : Int) (args : List Int) : (bodyB a n args).length ≤ 20 + 10 * args.length := by
  have := flatB_length args
  have := varB_length a
  have := varB_length n
  unfold bodyB
  rw [List.length_append, List.length_append]
  omega
theorem bodyB_mem (a n : Int) (args : List Int) (ha : 0 ≤ a ∧ a < 18446744073709551616) (hn : 0 ≤ n ∧ n < 18446744073709551616) (hx : ∀ x ∈ args, 0 ≤ x ∧ x < 18446744073709551616) : ∀ x ∈ bodyB a n args, 0 ≤ x ∧ x < 256 := by
  intro x h
  unfold bodyB at h
  rcases List.mem_append.1 h with h | h
  · rcases List.mem_append.1 h with h | h
    · exact varB_mem a ha.1 ha.2 x h
    · exact varB_mem n hn.1 hn.2 x h
  · obtain ⟨y, hy, hxy⟩ := List.mem_flatMap.1 h
    exact varB_mem y (hx y hy).1 (hx y hy).2 x hxy
theorem flat_take {β : Type} (f : β → List Int) (l : List β) (i : Nat) (h : i < l.length) : (l.take (i + 1)).flatMap f = (l.take i).flatMap f ++ f l[i] := by
  rw [← List.take_append_getElem h, List.flatMap_append]
  simp
theorem specBody_ev (a n : Int) (args : List Int) (ha : 0 ≤ a ∧ a < 18446744073709551616) (hn : 0 ≤ n ∧ n < 18446744073709551616) (hx : ∀ x ∈ args, 0 ≤ x ∧ x < 18446744073709551616) (hl : args.length ≤ 1048576) :
    Ev (fun k => spec_l2body.f k a n args) (bodyB a n args) := by
  have la := varB_length a
  have ln := varB_length n
  have key := ev_loop (fun k (s : List Int) i => spec_l2body.l0 k s i a n args) args.length (fun i => varB a ++ varB n ++ (args.take i).flatMap varB) (varB a ++ varB n) (bodyB a n args) (by simp) (by simp [bodyB, List.take_length]) (fun i hi r hr => by
    have hf := flatB_length (args.take i)
    have ht : (args.take i).length ≤ i := List.length_take_le _ _
    have hxi := hx _ (List.getElem_mem hi)
    have hv := varB_length args[i]
    refine ev_step (fun k => (spec_l2var.f k args[i]).bind fun t323 => (if (varB a ++ varB n ++ (args.take i).flatMap varB).length + t323.length < 140737488355328 then (spec_l2body.l0 k ((varB a ++ varB n ++ (args.take i).flatMap varB) ++ t323) (wrap64 ((i : Int) + 1)) a n args) else (none))) (fun k => ?_) (Ev.bind (specVarB_ev _ hxi.1 hxi.2) (Ev.congr (fun k => ?_) hr))
    · simp only [spec_l2body.l0]
      rw [if_pos (by omega), if_pos (by omega), rd_eq args i hi]
    · rw [if_pos (by simp only [List.length_append]; omega), wrap64_id (by omega) (by omega), flat_take varB args i hi]
      simp only [List.append_assoc]
      rfl) (bodyB a n args) (ev_end fun k => by simp only [spec_l2body.l0]; rw [if_neg (by omega)])
  unfold spec_l2body.f
  rw [wrap_u64_id ha.1 ha.2, wrap_u64_id hn.1 hn.2]
  exact Ev.bind (specVarB_ev a ha.1 ha.2) (Ev.bind (specVarB_ev n hn.1 hn.2) (Ev.congr (fun k => by rw [if_pos (by omega)]) key))
theorem implBody_ev (a n : Int) (args : List Int) (ha : 0 ≤ a ∧ a < 18446744073709551616) (hn : 0 ≤ n ∧ n < 18446744073709551616) (hx : ∀ x ∈ args, 0 ≤ x ∧ x < 18446744073709551616) (hl : args.length ≤ 1048576) :
    Ev (fun k => impl_bodyOf.f k a n args) (bodyB a n args) := by
  have la := varB_length a
  have ln := varB_length n
  have key := ev_loop (fun k (s : List Int) i => impl_bodyOf.l0 k s args (args.length : Int) i) args.length (fun i => varB a ++ varB n ++ (args.take i).flatMap varB) (varB a ++ varB n) (bodyB a n args) (by simp) (by simp [bodyB, List.take_length]) (fun i hi r hr => by
    have hf := flatB_length (args.take i)
    have ht : (args.take i).length ≤ i := List.length_take_le _ _
    have hxi := hx _ (List.getElem_mem hi)
    refine ev_step (fun k => (impl_putNumber.f k (varB a ++ varB n ++ (args.take i).flatMap varB) args[i]).bind fun t386 => (impl_bodyOf.l0 k t386 args (args.length : Int) (wrap64 ((i : Int) + 1)))) (fun k => ?_) (Ev.bind (implVarB_ev _ _ hxi.1 hxi.2 (by simp only [List.length_append]; omega)) (Ev.congr (fun k => ?_) hr))
    · simp only [impl_bodyOf.l0]
      rw [if_pos (by omega), if_pos (by omega), if_pos (by omega), rd_eq args i hi]
    · rw [wrap64_id (by omega) (by omega), flat_take varB args i hi]
      simp only [List.append_assoc]
      rfl) (bodyB a n args) (ev_end fun k => by simp only [impl_bodyOf.l0]; rw [if_neg (by omega)])
  unfold impl_bodyOf.f
  rw [wrap_u64_id ha.1 ha.2, wrap_u64_id hn.1 hn.2]
  have h1 := implVarB_ev a [] ha.1 ha.2 (by simp)
  have h2 := implVarB_ev n (varB a) hn.1 hn.2 (by omega)
  rw [List.nil_append] at h1
  exact Ev.bind h1 (Ev.bind h2 key)
def frameB (b : List Int) : List Int := [(b.length : Int) % 256] ++ b ++ le (crcSum b) 4
def frameC (c : S85) : List Int := frameB (bodyB c.f0 c.f1 c.f2)
def okC (c : S85) : Prop := (0 ≤ c.f0 ∧ c.f0 < 4294967296) ∧ (0 ≤ c.f1 ∧ c.f1 < 4294967296) ∧ (∀ x ∈ c.f2, 0 ≤ x ∧ x < 18446744073709551616) ∧ c.f2.length ≤ 1048576
theorem okC_body (c : S85) (h : okC c) : ∀ x ∈ bodyB c.f0 c.f1 c.f2, 0 ≤ x ∧ x < 256 := by
  obtain ⟨h1, h2, h3, h4⟩ := h
  exact bodyB_mem _ _ _ (by omega) (by omega) h3
theorem crcSum_u64 (l : List Int) : 0 ≤ crcSum l ∧ crcSum l < 4294967296 := by unfold crcSum; exact bits_u32 _ _ _
theorem specFrame_ev (b : List Int) (hl : b.length ≤ 20000000) (hb : ∀ x ∈ b, 0 ≤ x ∧ x < 256) : Ev (fun k => spec_l2frame.f k b) (frameB b) := by
  have hc := crcSum_u64 b
  have h4 := le_length (crcSum b) 4
  obtain ⟨K1, h1⟩ := ev_get (specChecksum_ev b (by omega) hb)
  obtain ⟨K2, h2⟩ := ev_get (l1little_ev (crcSum b) 4 (by omega) (by omega) (by omega))
  refine ev_mk (K1 + K2) fun k hk => ?_
  unfold spec_l2frame.f
  rw [Option.bind_some, if_pos (by rw [List.length_singleton]; omega), Option.bind_some, h1 k (by omega), Option.bind_some, wrap_u64_id (by omega) (by omega), show (4 : Int) = ((4 : Nat) : Int) from rfl, h2 k (by omega), Option.bind_some,
    if_pos (by simp only [List.length_append, List.length_singleton]; omega)]
  rfl
def logB (cs : List S85) : List Int := [67, 76, 79, 71, 1] ++ le (cs.length : Int) 2 ++ cs.flatMap frameC
theorem rdCall_eq (l : List S85) (i : Nat) (h : i < l.length) : rd_T85 l (i : Int) = l[i] := by
  simp [rd_T85, List.getD_eq_getElem?_getD, List.getElem?_eq_getElem h]
theorem frameC_length (c : S85) (h : c.f2.length = 6) : (frameC c).length ≤ 85 := by
  have := bodyB_length c.f0 c.f1 c.f2
  have := le_length (crcSum (bodyB c.f0 c.f1 c.f2)) 4
  unfold frameC frameB
  simp only [List.length_append, List.length_singleton]
  omega
theorem frames_length : ∀ cs : List S85, (∀ c ∈ cs, c.f2.length = 6) → (cs.flatMap frameC).length ≤ 85 * cs.length
  | [], _ => by simp
  | c :: cs, h => by
    have h1 := frames_length cs fun x hx => h x (List.mem_cons_of_mem _ hx)
    have h2 := frameC_length c (h c List.mem_cons_self)
    rw [List.flatMap_cons, List.length_append, List.length_cons]
    omega
def okCs (cs : List S85) : Prop := cs.length ≤ 1000 ∧ ∀ c ∈ cs, c.f2.length = 6
theorem callsOK_ev (cs : List S85) (hl : cs.length ≤ 1048576) : ∃ b : Bool, Ev (fun k => spec_l2callsOK.f k cs) b ∧ (b = true ↔ okCs cs) := by
  unfold spec_l2callsOK.f
  by_cases c : (cs.length : Int) > 1000
  · exact ⟨false, ev_is fun k => by rw [if_pos c], ⟨fun h => absurd h (by decide), fun h => by have := h.1; omega⟩⟩
  · have key : ∀ d i : Nat, i + d = cs.length → ∃ b : Bool, Ev (fun k => spec_l2callsOK.l0 k cs (i : Int)) b ∧ (b = true ↔ ∀ c ∈ cs.drop i, c.f2.length = 6) := by
      intro d
      induction d with
      | zero =>
        intro i hi
        refine ⟨true, ev_end fun k => by simp only [spec_l2callsOK.l0]; rw [if_neg (by omega)], ?_⟩
        rw [List.drop_eq_nil_of_le (by omega)]
        simp
      | succ d ih =>
        intro i hi
        have hil : i < cs.length := by omega
        rw [List.drop_eq_getElem_cons hil, List.forall_mem_cons]
        by_cases h6 : cs[i].f2.length = 6
        · obtain ⟨b, h1, h2⟩ := ih (i + 1) (by omega)
          refine ⟨b, ev_step _ (fun k => ?_) h1, h2.trans ⟨fun h => ⟨h6, h⟩, fun h => h.2⟩⟩
          simp only [spec_l2callsOK.l0]
          rw [if_pos (by omega), if_pos (by omega), rdCall_eq cs i hil, if_pos (by omega), wrap64_id (by omega) (by omega)]
          rfl
        · refine ⟨false, ev_end fun k => ?_, ⟨fun h => absurd h (by decide), fun h => absurd h.1 h6⟩⟩
          simp only [spec_l2callsOK.l0]
          rw [if_pos (by omega), if_pos (by omega), rdCall_eq cs i hil, if_neg (by omega)]
    obtain ⟨b, h1, h2⟩ := key cs.length 0 (by omega)
    rw [List.drop_zero] at h2
    exact ⟨b, Ev.congr (fun k => by rw [if_neg c]; rfl) h1, h2.trans ⟨fun h => ⟨by omega, h⟩, fun h => h.2⟩⟩
theorem specLog_ev (cs : List S85) (hok : okCs cs) (hw : ∀ c ∈ cs, okC c) : Ev (fun k => spec_l2log.f k cs) (logB cs) := by
  obtain ⟨h1000, h6⟩ := hok
  have h2 := le_length (cs.length : Int) 2
  have key := ev_loop (fun k (s : List Int) i => spec_l2log.l0 k cs s i) cs.length (fun i => [67, 76, 79, 71, 1] ++ le (cs.length : Int) 2 ++ (cs.take i).flatMap frameC) ([67, 76, 79, 71, 1] ++ le (cs.length : Int) 2) (logB cs) (by simp) (by simp [logB, List.take_length]) (fun i hi r hr => by
    have hf := frames_length (cs.take i) fun c hc => h6 c (List.mem_of_mem_take hc)
    have ht : (cs.take i).length ≤ i := List.length_take_le _ _
    have hci := hw _ (List.getElem_mem hi)
    have h6i := h6 _ (List.getElem_mem hi)
    have hfl := frameC_length cs[i] h6i
    have hbl := bodyB_length cs[i].f0 cs[i].f1 cs[i].f2
    refine ev_step (fun k => (spec_l2body.f k cs[i].f0 cs[i].f1 cs[i].f2).bind fun t339 => ((spec_l2frame.f k t339).bind fun t342 => (if ([67, 76, 79, 71, 1] ++ le (cs.length : Int) 2 ++ (cs.take i).flatMap frameC).length + t342.length < 140737488355328 then (spec_l2log.l0 k cs (([67, 76, 79, 71, 1] ++ le (cs.length : Int) 2 ++ (cs.take i).flatMap frameC) ++ t342) (wrap64 ((i : Int) + 1))) else (none)))) (fun k => ?_)
      (Ev.bind (specBody_ev cs[i].f0 cs[i].f1 cs[i].f2 (by have := hci.1; omega) (by have := hci.2.1; omega) hci.2.2.1 hci.2.2.2) (Ev.bind (specFrame_ev _ (by omega) (okC_body _ hci)) (Ev.congr (fun k => ?_) hr)))
    · simp only [spec_l2log.l0]
      rw [if_pos (by omega), if_pos (by omega), rdCall_eq cs i hi]
    · have hfl2 : (frameB (bodyB cs[i].f0 cs[i].f1 cs[i].f2)).length ≤ 85 := hfl
      rw [if_pos (by simp only [List.length_append, List.length_cons, List.length_nil]; omega), wrap64_id (by omega) (by omega), flat_take frameC cs i hi]
      simp only [List.append_assoc]
      rfl) (logB cs) (ev_end fun k => by simp only [spec_l2log.l0]; rw [if_neg (by omega)])
  unfold spec_l2log.f
  simp only [Option.bind_some]
  rw [wrap_u64_id (by omega) (by omega)]
  refine Ev.bind (l1little_ev (cs.length : Int) 2 (by omega) (by omega) (by omega)) (Ev.congr (fun k => ?_) key)
  rw [if_pos (by simp only [List.length_cons, List.length_nil]; omega)]
open Classical in
theorem specEncodeLog_ev (cs : List S85) (hl : cs.length ≤ 1048576) (hw : ∀ c ∈ cs, okC c) : Ev (fun k => spec_EncodeLog.f k cs) (if okCs cs then logB cs else []) := by
  unfold spec_EncodeLog.f
  obtain ⟨b, hb, hi⟩ := callsOK_ev cs hl
  refine Ev.bind hb ?_
  by_cases h : okCs cs
  · rw [hi.2 h, if_pos h]
    refine Ev.congr (fun k => by rw [if_pos rfl]) (Ev.bind (specLog_ev cs h hw) (ev_is fun k => rfl))
  · rw [Bool.eq_false_iff.mpr (fun h2 => h (hi.1 h2)), if_neg h]
    exact ev_is fun k => by rw [if_neg (by decide)]
open Classical in
theorem implEncodeLog_ev (cs : List S85) (hl : cs.length ≤ 1048576) (hw : ∀ c ∈ cs, okC c) : Ev (fun k => impl_EncodeLog.f k cs) (if okCs cs then logB cs else []) := by
  unfold impl_EncodeLog.f
  by_cases c : (cs.length : Int) > 1000
  · rw [if_neg (fun h : okCs cs => by have := h.1; omega)]
    exact ev_is fun k => by rw [if_pos c]
  · have h2 := le_length (cs.length : Int) 2
    have key : ∀ d i : Nat, i + d = cs.length → (∀ c ∈ cs.take i, c.f2.length = 6) → Ev (fun k => impl_EncodeLog.l0 k ([67, 76, 79, 71, 1] ++ le (cs.length : Int) 2 ++ (cs.take i).flatMap frameC) cs (cs.length : Int) (i : Int)) (if okCs cs then logB cs else []) := by
      intro d
      induction d with
      | zero =>
        intro i hi h6
        have hi2 : i = cs.length := by omega
        subst hi2
        rw [List.take_length] at h6 ⊢
        rw [if_pos ⟨by omega, h6⟩]
        exact ev_end fun k => by simp only [impl_EncodeLog.l0]; rw [if_neg (by omega)]; rfl
      | succ d ih =>
        intro i hi h6
        have hil : i < cs.length := by omega
        have hci := hw _ (List.getElem_mem hil)
        by_cases g : cs[i].f2.length = 6
        · have hf := frames_length (cs.take i) h6
          have ht : (cs.take i).length ≤ i := List.length_take_le _ _
          have hbl := bodyB_length cs[i].f0 cs[i].f1 cs[i].f2
          have hnext := ih (i + 1) (by omega) (by
            rw [← List.take_append_getElem hil]
            intro x hx
            rcases List.mem_append.1 hx with hx | hx
            · exact h6 x hx
            · rw [List.mem_singleton.1 hx]; exact g)
          have hval : impl_validCall.f cs[i].f0 cs[i].f1 cs[i].f2 = some true := by
            unfold impl_validCall.f
            simp [g]
          have hc := crcSum_u64 (bodyB cs[i].f0 cs[i].f1 cs[i].f2)
          obtain ⟨K1, h1⟩ := ev_get (implBody_ev cs[i].f0 cs[i].f1 cs[i].f2 (by have := hci.1; omega) (by have := hci.2.1; omega) hci.2.2.1 hci.2.2.2)
          obtain ⟨K2, h2'⟩ := ev_get (implChecksum_ev (bodyB cs[i].f0 cs[i].f1 cs[i].f2) (by omega) (okC_body _ hci))
          obtain ⟨K3, h3⟩ := ev_get (low_ev ((([67, 76, 79, 71, 1] ++ le (cs.length : Int) 2 ++ (cs.take i).flatMap frameC) ++ [((bodyB cs[i].f0 cs[i].f1 cs[i].f2).length : Int) % 256]) ++ bodyB cs[i].f0 cs[i].f1 cs[i].f2) (crcSum (bodyB cs[i].f0 cs[i].f1 cs[i].f2)) 4 (by omega) (by simp only [List.length_append, List.length_cons, List.length_nil]; omega))
          obtain ⟨K4, h4⟩ := ev_get hnext
          refine ev_mk (K1 + K2 + K3 + K4 + 1) fun k hk => ?_
          obtain ⟨m, rfl⟩ : ∃ m, k = m + 1 := ⟨k - 1, by omega⟩
          simp only [impl_EncodeLog.l0]
          rw [if_pos (by omega), if_pos (by omega), if_pos (by omega), rdCall_eq cs i hil, hval, Option.bind_some, if_pos rfl, h1 m (by omega), Option.bind_some, if_pos (by simp only [List.length_append, List.length_cons, List.length_nil]; omega), Option.bind_some,
            if_pos (by simp only [List.length_append, List.length_cons, List.length_nil]; omega), h2' m (by omega), Option.bind_some, wrap_u64_id (by omega) (by omega), show (4 : Int) = ((4 : Nat) : Int) from rfl, h3 m (by omega), Option.bind_some, wrap64_id (by omega) (by omega)]
          have h5 := h4 m (by omega)
          rw [flat_take frameC cs i hil] at h5
          rw [← h5]
          congr 1
          unfold frameC frameB
          simp only [List.append_assoc]
        · rw [if_neg (fun h : okCs cs => g (h.2 _ (List.getElem_mem hil)))]
          have hval : impl_validCall.f cs[i].f0 cs[i].f1 cs[i].f2 = some false := by
            unfold impl_validCall.f
            simp only [Option.some.injEq]
            rw [beq_eq_false_iff_ne]
            omega
          exact ev_end fun k => by
            simp only [impl_EncodeLog.l0]
            rw [if_pos (by omega), if_pos (by omega), if_pos (by omega), rdCall_eq cs i hil, hval, Option.bind_some, if_neg (by decide)]
    have h0 := key cs.length 0 (by omega) (by simp)
    simp only [List.take_zero, List.flatMap_nil, List.append_nil] at h0
    obtain ⟨K1, h1⟩ := ev_get (low_ev [67, 76, 79, 71, 1] (cs.length : Int) 2 (by omega) (by simp))
    obtain ⟨K2, h2'⟩ := ev_get h0
    refine ev_mk (K1 + K2) fun k hk => ?_
    rw [if_neg c, wrap_u64_id (by omega) (by omega), show (2 : Int) = ((2 : Nat) : Int) from rfl, h1 k (by omega), Option.bind_some]
    exact h2' k (by omega)
end Go.Proofs.Ytdipinclchkhjaa.P
